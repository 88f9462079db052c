/- THE LOGIC, part 13: stores are sound; regions that are let go. Conditions: none. -/
import Derived.Test.YtgnghiijbegacaaDoorLgB
set_option linter.unusedSimpArgs false
set_option linter.unusedVariables false
namespace Go.Lg
open Go
section
variable {P : Program} {Γ : Tables} {w0 : World} {B : Nat} {κ : Loc} {X : Nat → Prop} {μ : Loc} {st : St} {tm : Array Value} {w : World} {ds : List Deferred} {o : Oper}

theorem look_setR (id : Nat) (r : Reg) (hp : List (Nat × Reg)) (t : Nat) : look (setR id r hp) t = if t = id then (look hp id).map fun _ => r else look hp t := by
  induction hp with
  | nil => simp [setR, look]
  | cons p hp ih =>
    obtain ⟨k, v⟩ := p
    simp only [setR]
    by_cases hk : k = id
    · subst hk
      simp only [↓reduceIte, look, Option.map_some]
      by_cases ht : t = k
      · subst ht; simp
      · simp [ht, Ne.symm ht]
    · simp only [hk, ↓reduceIte, look, ih]
      by_cases ht : k = t
      · subst ht; simp [hk]
      · simp [ht]

theorem below_setRow (g : Nat) (cs : Array Value) : (w.setRow g cs).os = w.os ∧ (w.setRow g cs).tape = w.tape ∧ (w.setRow g cs).output = w.output := ⟨rfl, rfl, rfl⟩

theorem sh_setR {id : Nat} {r r' : Reg} (hl : look st.hp id = some r) (hsh : r'.sh = r.sh) : St.sh ⟨st.env, setR id r' st.hp⟩ = st.sh := by
  funext t
  simp only [St.sh, look_setR]
  by_cases ht : t = id
  · subst ht; simp [hl, hsh]
  · simp [ht]

/-- A region's contents change. -/
theorem Sim.setReg (h : Sim w0 B κ X μ st tm w) {id : Nat} {r r' : Reg} (hl : look st.hp id = some r) (hsh : r'.sh = r.sh) {g m : Nat} (hm : μ id = some (g, m)) (w' : World) (hos : w'.os = w.os) (htape : w'.tape = w.tape) (hout : w'.output = w.output) (hsz : w'.heap.size = w.heap.size)
    (hoth : ∀ k, k ≠ g → w'.heap[k]? = w.heap[k]?) (hr : Same X w w' → RegOk w' X μ st.sh id r') : Sim w0 B κ X μ ⟨st.env, setR id r' st.hp⟩ tm w' ∧ Same X w w' := by
  have hid : st.sh id ≠ none := by simp [sh_of hl]
  obtain ⟨h1, h2, h3⟩ := h.loc id g m hid hm
  have hs : Same X w w' := fun b hx => hoth b (fun e => h1 (e ▸ hx))
  have e := sh_setR hl hsh
  refine ⟨⟨?_, ?_, ?_, ?_, ?_, h.kbig, ?_, hos.trans h.os, htape.trans h.tape, hout.trans h.output, by rw [hsz]; exact h.size, ?_⟩, hs⟩
  · intro t a ht
    rw [e]; exact (h.env t a ht).mono hs (fun _ hx => hx) (fun _ _ hq => ⟨hq, rfl⟩)
  · intro id' r'' hr''
    rw [e]
    simp only [look_setR] at hr''
    by_cases hi : id' = id
    · subst hi
      simp only [↓reduceIte, hl, Option.map_some, Option.some.injEq] at hr''
      subst hr''; exact hr hs
    · simp only [hi, ↓reduceIte] at hr''
      refine (h.reg id' r'' hr'').mono hs (fun _ hx => hx) (fun _ _ hq => ⟨hq, rfl⟩) rfl (fun g' n' hm' => hoth g' (fun eg => ?_))
      subst eg
      exact hi (h.inj id' id g' n' m (by simp [sh_of hr'']) hid hm' hm)
  · intro a b g1 n1 n2; rw [e]; exact h.inj a b g1 n1 n2
  · intro a g1 n1; rw [e, hsz]; exact h.loc a g1 n1
  · intro a hk; rw [e]; exact h.kap a hk
  · intro b hx; rw [hsz]; exact h.xlt b hx
  · intro k hk hn
    have : k ≠ g := fun eg => by
      obtain ⟨id', n', hk'⟩ := h3 (by omega)
      exact hn id' n' (by rw [eg]; exact hk')
    exact (hoth k this).trans (h.fr k hk hn)

theorem run_storeAt {t : TypeId} {n g o : Nat} {v : Value} {arr : Array Value} {ty : TypeId} (hz : szO P t = some n) (hv : v.cells.size = n) (h1 : ∀ x ∈ v.cells.toList, x.oneCell' = true) (hg : w.heap[g]? = some (.cells arr ty (0, 0))) (hfit : o + n ≤ arr.size) :
    (Instr.storeAt t (.pointer (some ⟨g, o, none⟩)) v).run P w = .ok () (w.setRow g (arr.toList.take o ++ v.cells.toList ++ arr.toList.drop (o + n)).toArray) := by
  have hst := run_storeCells_at P g o ty v.cells.toList 0 arr w hg (by simp [hv]; exact hfit) h1
  simp only [Nat.add_zero, Array.length_toList, hv] at hst
  simp [Instr.storeAt, Instr.sureAddr, storeVar, run_size hz, hv, hst]

theorem set_size {arr : Array Value} {o n : Nat} {xs : List Value} (hn : xs.length = n) (hfit : o + n ≤ arr.size) : (arr.toList.take o ++ xs ++ arr.toList.drop (o + n)).toArray.size = arr.size := by simp; omega

theorem g_store_bx {t : TypeId} {n id k : Nat} {a x : Operand} {v : AV} {cs : List AV} (h : Sim w0 B κ X μ st tm w) (hg : Gl Γ w X) (ho : o.op = .store t a x) (ka : okOpd a = true) (kx : okOpd x = true) (hz : szO P t = some n)
    (ha : ev Γ st.env a = some (.lp id 0 k)) (hx : ev Γ st.env x = some v) (hl : look st.hp id = some (.bx cs)) (hc : k + n ≤ cs.length) (hv : v.cells.length = n) (h1 : onesA v.cells = true) (hdst : o.dst = none ∨ True) :
    Good P w0 B κ X o .un ⟨st.env, setR id (.bx (cs.take k ++ v.cells ++ cs.drop (k + n))) st.hp⟩ tm w ds := by
  obtain ⟨g, m, hm, hp⟩ := (ev_ok (ds := ds) h hg ha ka).lp_inv
  rcases hp with ⟨s, q, hs, _⟩ | ⟨hs, _, he⟩
  · rw [sh_of hl] at hs; cases hs
  have hr := (ev_ok (ds := ds) h hg hx kx).cells h1
  obtain ⟨hone, g', arr, ty, hm', hheap, hsz, hrel⟩ := h.reg id _ hl
  rw [hm] at hm'; cases hm'
  have hvs : (Act.eval ⟨tm, ds⟩ x).cells.size = n := by have := hr.1; simp at this; omega
  have hfit : k + n ≤ arr.size := by omega
  have hrun := run_storeAt (P := P) (w := w) (o := k) hz hvs (hr.ones h1) hheap hfit
  have hcs : ARs w X μ st.sh cs arr.toList := ⟨by simp [hsz], fun j a y h2 h3 => hrel j a y h2 (by simpa using h3)⟩
  have hnew : ARs w X μ st.sh (cs.take k ++ v.cells ++ cs.drop (k + n)) (arr.toList.take k ++ (Act.eval ⟨tm, ds⟩ x).cells.toList ++ arr.toList.drop (k + n)) := ((hcs.take k).append hr).append (hcs.drop (k + n))
  have hsz2 := set_size (arr := arr) (o := k) (n := n) (xs := (Act.eval ⟨tm, ds⟩ x).cells.toList) (by simpa using hvs) hfit
  have hreg' : Same X w (w.setRow g (arr.toList.take k ++ (Act.eval ⟨tm, ds⟩ x).cells.toList ++ arr.toList.drop (k + n)).toArray) → RegOk (w.setRow g (arr.toList.take k ++ (Act.eval ⟨tm, ds⟩ x).cells.toList ++ arr.toList.drop (k + n)).toArray) X μ st.sh id (.bx (cs.take k ++ v.cells ++ cs.drop (k + n))) := by
    intro hs'
    refine ⟨fun j a hj => ?_, g, _, ty, by rw [hsz2]; exact hm, setRow_heap w g arr _ ty _ hheap, by rw [hsz2]; simp; omega, fun j a y h2 h3 => (hnew.2 j a y h2 (by simpa using h3)).mono hs' (fun _ hx => hx) (fun _ _ hq => ⟨hq, rfl⟩)⟩
    have := List.mem_of_getElem? hj
    simp only [List.mem_append] at this
    rcases this with (hj' | hj') | hj'
    · obtain ⟨i, hi, rfl⟩ := List.getElem_of_mem (List.mem_of_mem_take hj'); exact hone i _ (by simp [hi])
    · exact List.all_eq_true.1 h1 _ hj'
    · obtain ⟨i, hi, rfl⟩ := List.getElem_of_mem (List.mem_of_mem_drop hj'); exact hone i _ (by simp [hi])
  obtain ⟨hsim, hs'⟩ := h.setReg hl (r' := .bx (cs.take k ++ v.cells ++ cs.drop (k + n))) rfl hm (w' := w.setRow g (arr.toList.take k ++ (Act.eval ⟨tm, ds⟩ x).cells.toList ++ arr.toList.drop (k + n)).toArray) rfl rfl rfl (by simp) (fun j hj => setRow_other w g j _ hj) hreg'
  exact ⟨.skip, undef, _, μ, X, by simp only [execOp, ho, he, Sem.run_bind, hrun]; rfl, .inr ⟨rfl, rfl⟩, hsim, .un, fun _ hx => hx, hs', fun _ hx => .inl hx⟩

theorem g_store_sl {t : TypeId} {n id i k ty s : Nat} {a x : Operand} {v : AV} {es : List (List T)} {ts : List T} (h : Sim w0 B κ X μ st tm w) (hg : Gl Γ w X) (ho : o.op = .store t a x) (ka : okOpd a = true) (kx : okOpd x = true) (hz : szO P t = some n)
    (ha : ev Γ st.env a = some (.lp id i k)) (hx : ev Γ st.env x = some v) (hl : look st.hp id = some (.sl ty s es)) (hi : i < es.length) (hc : k + n ≤ s) (hts : toTs v.cells = some ts) (hn : ts.length = n) (h1 : onesT ts = true) :
    Good P w0 B κ X o .un ⟨st.env, setR id (.sl ty s (es.set i (if k = 0 ∧ n = s then ts else (es.getD i []).take k ++ ts ++ (es.getD i []).drop (k + n)))) st.hp⟩ tm w ds := by
  obtain ⟨g, m, hm, hp⟩ := (ev_ok (ds := ds) h hg ha ka).lp_inv
  rcases hp with ⟨s', q, hs, he⟩ | ⟨hs, _, _⟩
  case inr => rw [sh_of hl] at hs; cases hs
  rw [sh_of hl] at hs
  simp only [Reg.sh, Option.some.injEq, Sh.sl.injEq] at hs
  obtain ⟨rfl, rfl⟩ := hs
  have hone1 : onesA v.cells = true := by rw [toTs_some hts, onesA_map]; exact h1
  have hr := ((ev_ok (ds := ds) h hg hx kx).cells hone1)
  have hrt := hr.toT hts
  have hreg := h.reg id _ hl
  obtain ⟨g', arr, hm', hheap, hle, hlen, ho1, hrel⟩ := hreg.elem hi
  rw [hm] at hm'; cases hm'
  have hvs : (Act.eval ⟨tm, ds⟩ x).cells.size = n := by have := hrt.1; simp at this; omega
  have hfi := mul_fit (s := s) hi
  have hfit : i * s + k + n ≤ arr.size := by omega
  have hrun := run_storeAt (P := P) (w := w) (o := i * s + k) hz hvs (hr.ones hone1) hheap hfit
  have hsz2 := set_size (arr := arr) (o := i * s + k) (n := n) (xs := (Act.eval ⟨tm, ds⟩ x).cells.toList) (by simpa using hvs) hfit
  -- the new element, in its general form
  have hel : (if k = 0 ∧ n = s then ts else (es.getD i []).take k ++ ts ++ (es.getD i []).drop (k + n)) = (es.getD i []).take k ++ ts ++ (es.getD i []).drop (k + n) := by
    split
    · rename_i hk; obtain ⟨rfl, rfl⟩ := hk
      simp only [List.take_zero, List.nil_append, Nat.zero_add]
      rw [List.drop_of_length_le (by omega)]; simp
    · rfl
  rw [hel]
  generalize hE : (es.getD i []).take k ++ ts ++ (es.getD i []).drop (k + n) = E
  have hEl : E.length = s := by subst hE; simp only [List.length_append, List.length_take, List.length_drop, hlen, hn]; omega
  have hE1 : onesT E = true := by
    subst hE
    refine List.all_eq_true.2 fun t ht => ?_
    simp only [List.mem_append] at ht
    rcases ht with (ht | ht) | ht
    · exact List.all_eq_true.1 ho1 _ (List.mem_of_mem_take ht)
    · exact List.all_eq_true.1 h1 _ ht
    · exact List.all_eq_true.1 ho1 _ (List.mem_of_mem_drop ht)
  have hER : TRs w X E (((arr.toList.drop (i * s)).take s).take k ++ (Act.eval ⟨tm, ds⟩ x).cells.toList ++ ((arr.toList.drop (i * s)).take s).drop (k + n)) := by
    subst hE; exact ((hrel.take k).append hrt).append (hrel.drop (k + n))
  obtain ⟨hw, hcase⟩ := hreg
  rcases hcase with ⟨rfl, _⟩ | ⟨g2, arr2, hm2, hg2, _, hrr⟩
  · simp at hi
  rw [hm] at hm2; simp only [Option.some.injEq, Prod.mk.injEq] at hm2
  obtain ⟨rfl, hsz⟩ := hm2
  rw [hheap] at hg2
  simp only [Option.some.injEq, Obj.cells.injEq] at hg2
  obtain ⟨rfl, _⟩ := hg2
  have hcell : ∀ (i' k' : Nat), k' < s → (arr.toList.take (i * s + k) ++ (Act.eval ⟨tm, ds⟩ x).cells.toList ++ arr.toList.drop (i * s + k + n)).toArray[i' * s + k']? =
      if i' = i then (((arr.toList.drop (i * s)).take s).take k ++ (Act.eval ⟨tm, ds⟩ x).cells.toList ++ ((arr.toList.drop (i * s)).take s).drop (k + n))[k']? else arr[i' * s + k']? := by
    intro i' k' hk'
    have hvl : (Act.eval ⟨tm, ds⟩ x).cells.toList.length = n := by simpa using hvs
    generalize (Act.eval ⟨tm, ds⟩ x).cells.toList = V at hvl
    have hal : arr.toList.length = arr.size := rfl
    rw [List.getElem?_toArray, ← Array.getElem?_toList]
    generalize arr.toList = L at hal
    by_cases hii : i' = i
    · subst hii
      simp only [↓reduceIte]
      simp only [List.getElem?_append, List.length_append, List.length_take, List.length_drop, List.getElem?_take, List.getElem?_drop, hvl, hal]
      repeat' split
      all_goals first
        | rfl
        | omega
        | (congr 1; omega)
        | (exfalso; omega)
        | skip
    · simp only [hii, ↓reduceIte]
      have hne : i' * s + k' < i * s ∨ i * s + s ≤ i' * s + k' := by
        rcases Nat.lt_or_gt_of_ne hii with hlt | hgt
        · left; have := mul_fit (s := s) hlt; omega
        · right; have := mul_fit (s := s) hgt; omega
      simp only [List.getElem?_append, List.length_append, List.length_take, List.length_drop, List.getElem?_take, List.getElem?_drop, hvl, hal]
      repeat' split
      all_goals first
        | rfl
        | omega
        | (congr 1; omega)
        | (exfalso; omega)
        | skip
  have hreg' : Same X w (w.setRow g (arr.toList.take (i * s + k) ++ (Act.eval ⟨tm, ds⟩ x).cells.toList ++ arr.toList.drop (i * s + k + n)).toArray) → RegOk (w.setRow g (arr.toList.take (i * s + k) ++ (Act.eval ⟨tm, ds⟩ x).cells.toList ++ arr.toList.drop (i * s + k + n)).toArray) X μ st.sh id (.sl ty s (es.set i E)) := by
    intro hs'
    refine ⟨fun i' e he' => ?_, .inr ⟨g, _, by rw [hsz2]; exact hm, setRow_heap w g arr _ ty _ hheap, by rw [hsz2]; simpa using hle, fun i' k' e t y he' ht hy => ?_⟩⟩
    · rw [List.getElem?_set] at he'
      split at he'
      · simp only [hi, ↓reduceIte, Option.some.injEq] at he'; subst he'
        exact ⟨hEl, fun k t ht => ones_get hE1 ht⟩
      · exact hw i' e he'
    · have hel' : e.length = s := by
        rw [List.getElem?_set] at he'
        split at he'
        · simp only [hi, ↓reduceIte, Option.some.injEq] at he'; subst he'; exact hEl
        · exact (hw i' e he').1
      have hk' : k' < s := by rw [← hel']; exact (List.getElem?_eq_some_iff.1 ht).1
      rw [hcell i' k' hk'] at hy
      rw [List.getElem?_set] at he'
      by_cases hii : i = i'
      · subst hii
        simp only [↓reduceIte, hi, Option.some.injEq] at he' hy
        subst he'
        exact (hER.2 k' t y ht hy).mono hs' (fun _ hx => hx)
      · simp only [hii, Ne.symm hii, ↓reduceIte] at he' hy
        exact (hrr i' k' e t y he' ht hy).mono hs' (fun _ hx => hx)
  obtain ⟨hsim, hs'⟩ := h.setReg hl (r' := .sl ty s (es.set i E)) (by simp [Reg.sh]) hm (w' := w.setRow g (arr.toList.take (i * s + k) ++ (Act.eval ⟨tm, ds⟩ x).cells.toList ++ arr.toList.drop (i * s + k + n)).toArray) rfl rfl rfl (by simp) (fun j hj => setRow_other w g j _ hj) hreg'
  exact ⟨.skip, undef, _, μ, X, by simp only [execOp, ho, he, Sem.run_bind, hrun]; rfl, .inr ⟨rfl, rfl⟩, hsim, .un, fun _ hx => hx, hs', fun _ hx => .inl hx⟩

end
end Go.Lg

/- THE LOGIC, part 14: append is sound. Conditions: none. -/
set_option linter.unusedSimpArgs false
set_option linter.unusedVariables false
namespace Go.Lg
open Go
section
variable {P : Program} {Γ : Tables} {w0 : World} {B : Nat} {κ : Loc} {X : Nat → Prop} {μ : Loc} {st : St} {tm : Array Value} {w : World} {ds : List Deferred} {o : Oper}

theorem AR.kill1 {X : Nat → Prop} {μ : Loc} {sh sh' : Nat → Option Sh} {id : Nat} (hsh : ∀ i q, i ≠ id → sh i = some q → sh' i = some q) {a : AV} {x : Value} (h : AR w X μ sh a x) (hna : ∀ cs, a ≠ .ag cs) : AR w X μ sh' (kill1 id a) x := by
  cases h with
  | t x v h => exact .t _ _ h
  | lsnil i s n hs hm a cap hc =>
    simp only [Lg.kill1]; split
    · exact .dead _ rfl
    · rename_i hne; exact .lsnil i s n (hsh _ _ hne hs) hm a cap hc
  | ls i off len s n g m c cap hs hm hle hlc hcm hfit hfull hc a ha =>
    simp only [Lg.kill1]; split
    · exact .dead _ rfl
    · rename_i hne; exact .ls i off len s n g m c cap (hsh _ _ hne hs) hm hle hlc hcm hfit hfull hc a ha
  | lpsl i j k s n g m hs hm =>
    simp only [Lg.kill1]; split
    · exact .dead _ rfl
    · rename_i hne; exact .lpsl i j k s n g m (hsh _ _ hne hs) hm
  | lpbx i k g m hs hm =>
    simp only [Lg.kill1]; split
    · exact .dead _ rfl
    · rename_i hne; exact .lpbx i k g m (hsh _ _ hne hs) hm
  | lm i g m hs hm =>
    simp only [Lg.kill1]; split
    · exact .dead _ rfl
    · rename_i hne; exact .lm i g m (hsh _ _ hne hs) hm
  | lb i g m hs hm hle =>
    simp only [Lg.kill1]; split
    · exact .dead _ rfl
    · rename_i hne; exact .lb i g m (hsh _ _ hne hs) hm hle
  | li i g m hs hm =>
    simp only [Lg.kill1]; split
    · exact .dead _ rfl
    · rename_i hne; exact .li i g m (hsh _ _ hne hs) hm
  | fn f cs xs hlen hrel =>
    cases cs with
    | nil => exact .fn f [] xs hlen (fun k a x h => by simp at h)
    | cons c cs => exact .dead _ rfl
  | dead v h => exact .dead _ h
  | un => exact .un
  | ag cs xs => exact absurd rfl (hna cs)

theorem kill1_one {id : Nat} {a : AV} (h : a.one = true) : (kill1 id a).one = true := by
  cases a with
  | fn f cs => cases cs <;> rfl
  | ag cs => simp [AV.one] at h
  | un => simp [AV.one] at h
  | t x => exact h
  | dead => rfl
  | ls i off len cap => simp only [kill1]; split <;> rfl
  | lp i j k => simp only [kill1]; split <;> rfl
  | lm i => simp only [kill1]; split <;> rfl
  | lb i m => simp only [kill1]; split <;> rfl
  | li i => simp only [kill1]; split <;> rfl

theorem AR.kill {X : Nat → Prop} {μ : Loc} {sh sh' : Nat → Option Sh} {id : Nat} (hsh : ∀ i q, i ≠ id → sh i = some q → sh' i = some q) {a : AV} {x : Value} (h : AR w X μ sh a x) : AR w X μ sh' (killRef id a) x := by
  by_cases ha : ∃ cs, a = .ag cs
  · obtain ⟨cs, rfl⟩ := ha
    obtain ⟨xs, rfl, h1, hr⟩ := h.ag_inv
    refine AR.mk_ag (List.all_eq_true.2 fun b hb => ?_) ⟨by simpa using hr.1, fun k b y hb hy => ?_⟩
    · obtain ⟨c, hc, rfl⟩ := List.mem_map.1 hb
      exact kill1_one (List.all_eq_true.1 h1 c hc)
    · simp only [List.getElem?_map, Option.map_eq_some_iff] at hb
      obtain ⟨c, hc, rfl⟩ := hb
      exact (hr.2 k c y hc hy).kill1 hsh (fun cs e => by have := onesA_get h1 hc; rw [e] at this; simp [AV.one] at this)
  · have e : killRef id a = Lg.kill1 id a := by cases a <;> first | rfl | exact absurd ⟨_, rfl⟩ ha
    rw [e]; exact h.kill1 hsh (fun cs e => ha ⟨cs, e⟩)

theorem killRef_one {id : Nat} {a : AV} (h : a.one = true) : (killRef id a).one = true := by
  cases a with
  | ag cs => simp [AV.one] at h
  | t x => exact kill1_one (id := id) (a := .t x) h
  | ls i off len cap => exact kill1_one (id := id) (a := .ls i off len cap) h
  | lp i j k => exact kill1_one (id := id) (a := .lp i j k) h
  | fn f cs => exact kill1_one (id := id) (a := .fn f cs) h
  | lm i => exact kill1_one (id := id) (a := .lm i) h
  | lb i m => exact kill1_one (id := id) (a := .lb i m) h
  | li i => exact kill1_one (id := id) (a := .li i) h
  | dead => rfl
  | un => simp [AV.one] at h

theorem look_kill (id t : Nat) : look (st.kill id).hp t = if t = id then none else (look st.hp t).map (killReg id) := by
  have h1 : look (st.kill id).hp t = (look (del id st.hp) t).map (killReg id) := by
    show look ((del id st.hp).map fun p => (p.1, killReg id p.2)) t = _
    exact look_map _ _ _
  rw [h1, look_del]
  split <;> rfl

theorem killReg_sh (id : Nat) (r : Reg) : (killReg id r).sh = r.sh := by cases r <;> rfl

theorem sh_kill (id t : Nat) : (st.kill id).sh t = if t = id then none else st.sh t := by
  simp only [St.sh, look_kill]
  split
  · rfl
  · cases look st.hp t <;> simp [killReg_sh]

/-- A region is let go. -/
theorem Sim.kill (h : Sim w0 B κ X μ st tm w) (id : Nat) : Sim w0 B κ X μ (st.kill id) tm w := by
  have hsh : ∀ i q, i ≠ id → st.sh i = some q → (st.kill id).sh i = some q := fun i q hi hq => by rw [sh_kill, if_neg hi]; exact hq
  have hback : ∀ i, (st.kill id).sh i ≠ none → i ≠ id ∧ st.sh i ≠ none := fun i hi => by
    rw [sh_kill] at hi
    split at hi
    · exact absurd rfl hi
    · rename_i hne; exact ⟨hne, hi⟩
  refine ⟨?_, ?_, ?_, ?_, ?_, h.kbig, h.xlt, h.os, h.tape, h.output, h.size, h.fr⟩
  · intro t a ht
    have h1 : look (st.kill id).env t = (look st.env t).map (killRef id) := by
      show look (st.env.map fun p => (p.1, killRef id p.2)) t = _
      exact look_map _ _ _
    rw [h1, Option.map_eq_some_iff] at ht
    obtain ⟨b, hb, rfl⟩ := ht
    exact (h.env t b hb).kill hsh
  · intro i r hr
    rw [look_kill] at hr
    split at hr
    · cases hr
    · rename_i hne
      rw [Option.map_eq_some_iff] at hr
      obtain ⟨q, hq, rfl⟩ := hr
      have := h.reg i q hq
      cases q with
      | sl ty s es => exact this
      | mp es => exact this
      | it s pos => exact this
      | bx cs =>
        obtain ⟨h1, g, arr, ty, hm, hg, hle, hr⟩ := this
        refine ⟨fun k a ha => ?_, g, arr, ty, hm, hg, by simpa using hle, fun k a x ha hx => ?_⟩
        · simp only [List.getElem?_map, Option.map_eq_some_iff] at ha
          obtain ⟨b, hb, rfl⟩ := ha
          exact killRef_one (h1 k b hb)
        · simp only [List.getElem?_map, Option.map_eq_some_iff] at ha
          obtain ⟨b, hb, rfl⟩ := ha
          exact (hr k b x hb hx).kill hsh
  · intro a b g n n' ha hb; exact h.inj a b g n n' (hback a ha).2 (hback b hb).2
  · intro a g n ha; exact h.loc a g n (hback a ha).2
  · intro a hk ha; exact h.kap a hk (hback a ha).2

/-- A block that no region and no tree leads to may change, and count as immutable from then on. -/
theorem Sim.free {X' : Nat → Prop} (h : Sim w0 B κ X μ st tm w) {g : Nat} (hg : ¬ X g) (hr : ∀ id n, st.sh id ≠ none → μ id ≠ some (g, n)) (hk : g < B → ∃ id n, κ id = some (g, n)) (hlt : g < w.heap.size) (w' : World) (hos : w'.os = w.os) (htape : w'.tape = w.tape) (hout : w'.output = w.output) (hsz : w'.heap.size = w.heap.size)
    (hoth : ∀ k, k ≠ g → w'.heap[k]? = w.heap[k]?) (hX : ∀ b, X b → X' b) (hX' : ∀ b, X' b → X b ∨ b = g) : Sim w0 B κ X' μ st tm w' ∧ Same X w w' := by
  have hs : Same X w w' := fun b hx => hoth b (fun e => hg (e ▸ hx))
  refine ⟨⟨?_, ?_, h.inj, ?_, h.kap, h.kbig, ?_, hos.trans h.os, htape.trans h.tape, hout.trans h.output, by rw [hsz]; exact h.size, ?_⟩, hs⟩
  · exact fun t a ht => (h.env t a ht).mono hs hX (fun _ _ hq => ⟨hq, rfl⟩)
  · intro id r hl
    exact (h.reg id r hl).mono hs hX (fun _ _ hq => ⟨hq, rfl⟩) rfl (fun g' n hm => hoth g' (fun e => hr id n (by simp [sh_of hl]) (e ▸ hm)))
  · intro id g' n hi hm
    obtain ⟨h1, h2, h3⟩ := h.loc id g' n hi hm
    refine ⟨fun hx => ?_, by rw [hsz]; exact h2, h3⟩
    rcases hX' g' hx with hx | rfl
    · exact h1 hx
    · exact hr id n hi hm
  · intro b hx
    rw [hsz]
    rcases hX' b hx with hx | rfl
    · exact h.xlt b hx
    · exact hlt
  · intro k hkB hn
    have : k ≠ g := fun e => by
      obtain ⟨id, n, hkk⟩ := hk (by omega)
      exact hn id n (by rw [e]; exact hkk)
    exact (hoth k this).trans (h.fr k hkB hn)

/-- What a slice's elements are in memory. -/
theorem src_ok {μ : Loc} {a : AV} {x : Value} {es : List (List T)} {s : Nat} (h : Sim w0 B κ X μ st tm w) (ha : AR w X μ st.sh a x) (he : elemsOf st.hp a = some es) (hw : wid s es) :
    ∃ oa c vs, x = .slice oa es.length c ∧ Els w X s es vs ∧ (∀ v ∈ vs, ∀ u ∈ v, u.oneCell' = true) ∧ (es ≠ [] → ∃ b off, oa = some ⟨b, off, none⟩ ∧ ∀ (j : Nat) (u : Value), vs.flatten[j]? = some u → w.cell? ⟨b, off + j, none⟩ = some u) := by
  have hone : ∀ {vs : List (List Value)}, Els w X s es vs → ∀ v ∈ vs, ∀ u ∈ v, u.oneCell' = true := by
    intro vs hels v hv u hu
    obtain ⟨i, hi, rfl⟩ := List.getElem_of_mem hv
    have hi' : i < es.length := by rw [hels.1]; exact hi
    exact (hels.2.2.2 i es[i] vs[i] (by simp [hi']) (by simp [hi])).ones (hels.2.2.1 _ (List.getElem_mem hi')).2 u hu
  match a, ha, he with
  | .t (.sl es' cap nl), ha, he =>
    simp only [elemsOf, Option.some.injEq] at he; subst he
    rcases ha.t_inv.sl_inv with ⟨rfl, oa, c, rfl, _⟩ | ⟨s', b, off, c, rfl, hxb, hle, _, _, hw', hone', f, hcell, hrel⟩
    · exact ⟨oa, c, [], rfl, ⟨rfl, by simp, by simp, by simp⟩, by simp, fun h => absurd rfl h⟩
    · refine ⟨_, c, (List.range es'.length).map (fun i => (List.range s).map (f i)), rfl, ?_⟩
      by_cases hne : es' = []
      · subst hne; exact ⟨⟨rfl, by simp, by simp, by simp⟩, by simp, fun h => absurd rfl h⟩
      have hpos : 0 < es'.length := by cases es' with
        | nil => exact absurd rfl hne
        | cons _ _ => simp
      have hss : s' = s := (hw' _ (getD_mem hpos).1).symm.trans (hw _ (getD_mem hpos).1)
      subst hss
      have hels : Els w X s' es' ((List.range es'.length).map (fun i => (List.range s').map (f i))) := by
        refine ⟨by simp, by simp, fun e he => ⟨hw e he, hone' e he⟩, fun i e v he hv => ?_⟩
        have hi := (List.getElem?_eq_some_iff.1 he).1
        simp [hi] at hv
        subst hv
        refine ⟨by simp [hw e (List.mem_of_getElem? he)], fun k t y ht hy => ?_⟩
        have hk : k < s' := by rw [← hw e (List.mem_of_getElem? he)]; exact (List.getElem?_eq_some_iff.1 ht).1
        simp [hk] at hy; subst hy
        exact hrel i k e t he ht
      refine ⟨hels, hone hels, fun _ => ⟨b, off, rfl, fun j u hu => ?_⟩⟩
      have hlen := flat_len hels.2.1
      have hj := (List.getElem?_eq_some_iff.1 hu).1
      rw [hlen, List.length_map, List.length_range] at hj
      have hs0 : 0 < s' := by
        rcases Nat.eq_zero_or_pos s' with h0 | h0
        · subst h0; simp at hj
        · exact h0
      have hi : j / s' < es'.length := by rw [Nat.div_lt_iff_lt_mul hs0]; exact hj
      have hk : j % s' < s' := Nat.mod_lt _ hs0
      have hjk : j / s' * s' + j % s' = j := by rw [Nat.mul_comm]; exact Nat.div_add_mod j s'
      have hf := flat_get hels.2.1 (j / s') (j % s') hk
      rw [hjk, hu] at hf
      simp [hi, hk] at hf
      have := hcell (j / s') (j % s') hi hk
      rw [Nat.add_assoc, hjk] at this
      rw [this, ← hf]
  | .ls id off len cap, ha, he =>
    simp only [elemsOf] at he
    split at he
    case h_2 => cases he
    rename_i ty s' es0 hl
    simp only [Option.some.injEq] at he
    obtain ⟨s2, n2, hs2, hcase⟩ := ha.ls_inv
    rw [sh_of hl] at hs2
    simp only [Reg.sh, Option.some.injEq, Sh.sl.injEq] at hs2
    obtain ⟨rfl, rfl⟩ := hs2
    rcases hcase with ⟨_, ⟨oa, rfl⟩, rfl, rfl, _⟩ | ⟨g, m, c, ad, hm, rfl, hle, hlc, _, hfit, _, _, had⟩
    · simp only [List.drop_zero, List.take_zero] at he; subst he
      exact ⟨oa, 0, [], rfl, ⟨rfl, by simp, by simp, by simp⟩, by simp, fun h => absurd rfl h⟩
    have hlen : es.length = len := by subst he; simp; omega
    by_cases hne : es = []
    · subst hne
      simp at hlen; subst hlen
      exact ⟨some ad, c, [], rfl, ⟨rfl, by simp, by simp, by simp⟩, by simp, fun h => absurd rfl h⟩
    have hpos : 0 < len := by
      rw [← hlen]; cases es with
      | nil => exact absurd rfl hne
      | cons _ _ => simp
    obtain ⟨hwr, hcase⟩ := h.reg id _ hl
    rcases hcase with ⟨rfl, hm0⟩ | ⟨g', arr, hm', hg, hle', hr⟩
    · rw [hm] at hm0; cases hm0
    rw [hm] at hm'; cases hm'
    have hes : ∀ e ∈ es, ∃ i, es0[i]? = some e := fun e hme => by
      subst he
      have := List.mem_of_mem_drop (List.mem_of_mem_take hme)
      obtain ⟨i, hi, rfl⟩ := List.getElem_of_mem this
      exact ⟨i, List.getElem?_eq_getElem hi⟩
    have hss : s' = s := by
      have hmem := (getD_mem (es := es) (i := 0) (by omega)).1
      obtain ⟨i, hi⟩ := hes _ hmem
      exact (hwr i _ hi).1.symm.trans (hw _ hmem)
    subst hss
    have hge : ∀ i, i < len → es[i]? = es0[off + i]? := fun i hi => by
      subst he; rw [List.getElem?_take, if_pos hi, List.getElem?_drop]
    have hoff : (off + len) * s' ≤ es0.length * s' := Nat.mul_le_mul_right _ hle
    have hels : Els w X s' es ((List.range es.length).map (fun i => (List.range s').map fun k => (arr[(off + i) * s' + k]?).getD undef)) := by
      refine ⟨by simp, by simp, fun e hme => ?_, fun i e v hge' hv => ?_⟩
      · obtain ⟨i, hi⟩ := hes e hme
        exact ⟨(hwr i e hi).1, List.all_eq_true.2 fun t ht => by obtain ⟨k, hk, rfl⟩ := List.getElem_of_mem ht; exact (hwr i e hi).2 k _ (by simp [hk])⟩
      · have hi := (List.getElem?_eq_some_iff.1 hge').1
        simp [hi] at hv; subst hv
        have hel := hw e (List.mem_of_getElem? hge')
        refine ⟨by simp [hel], fun k t y ht hy => ?_⟩
        have hk : k < s' := by rw [← hel]; exact (List.getElem?_eq_some_iff.1 ht).1
        simp [hk] at hy; subst hy
        have hfit2 := mul_fit (s := s') (i := off + i) (len := es0.length) (by omega)
        have hin : (off + i) * s' + k < arr.size := by omega
        have hge2 : es0[off + i]? = some e := by rw [← hge i (by omega)]; exact hge'
        have := hr (off + i) k e t arr[(off + i) * s' + k] hge2 ht (by simp [hin])
        simpa [hin] using this
    rw [← hlen] at hlc hoff
    refine ⟨some ad, c, _, by rw [hlen], hels, hone hels, fun _ => ⟨g, off * s', ?_, fun j u hu => ?_⟩⟩
    · rw [had (.inl (by omega))]
    · have hlen2 := flat_len hels.2.1
      have hj := (List.getElem?_eq_some_iff.1 hu).1
      rw [hlen2, List.length_map, List.length_range] at hj
      have hs0 : 0 < s' := by
        rcases Nat.eq_zero_or_pos s' with h0 | h0
        · subst h0; simp at hj
        · exact h0
      have hi : j / s' < es.length := by rw [Nat.div_lt_iff_lt_mul hs0]; exact hj
      have hk : j % s' < s' := Nat.mod_lt _ hs0
      have hjk : j / s' * s' + j % s' = j := by rw [Nat.mul_comm]; exact Nat.div_add_mod j s'
      have hf := flat_get hels.2.1 (j / s') (j % s') hk
      rw [hjk, hu] at hf
      simp [hi, hk] at hf
      have e1 : (off + j / s') * s' + j % s' = off * s' + j := by rw [Nat.add_mul]; omega
      rw [e1] at hf
      have hin : off * s' + j < arr.size := by
        have := mul_fit (s := s') (i := off + j / s') (len := es0.length) (by omega)
        omega
      rw [cell_of_row _ _ _ _ _ _ hg]
      rw [hf]; simp [hin]

end
end Go.Lg

/- THE LOGIC, part 15: append is sound. Conditions: none. -/
set_option linter.unusedSimpArgs false
set_option linter.unusedVariables false
namespace Go.Lg
open Go
section
variable {P : Program} {Γ : Tables} {w0 : World} {B : Nat} {κ : Loc} {X : Nat → Prop} {μ : Loc} {st : St} {tm : Array Value} {w : World} {ds : List Deferred} {o : Oper}

/-- What is known of the element type of an append. -/
structure ElemOk (P : Program) (t ty s : TypeId) : Prop where
  sl : slO P t = some ty
  sz : szO P ty = some s
  pos : 0 < s
  zero : ∃ zs, zeroO P ty = some zs ∧ zs.length = s
  by' : ∃ n, byO P ty = some n ∧ n ≤ 65536

theorem ElemOk.info {t ty s : TypeId} (h : ElemOk P t ty s) : ∃ (i : TypeInfo) (z : Value), P.info? ty = some i ∧ i.size = s ∧ i.zero = some z ∧ z.cells.size = s ∧ i.bytes ≤ 65536 := by
  obtain ⟨hs, hz, hp, ⟨zs, hzo, hzl⟩, n, hn, hnb⟩ := h
  simp only [szO, Option.map_eq_some_iff] at hz
  obtain ⟨i, hi, rfl⟩ := hz
  simp only [zeroO, hi, Option.bind_some, Option.map_eq_some_iff] at hzo
  obtain ⟨z, hz, rfl⟩ := hzo
  simp only [byO, hi, Option.map_some, Option.some.injEq] at hn
  exact ⟨i, z, hi, rfl, hz, by simpa using hzl, by omega⟩

theorem app_exec {b x : Operand} {t : TypeId} (ho : o.op = .call { callee := .builtin .append, args := #[b, x], argTypes := #[t, t] }) {v : Value} {w' : World}
    (h : (Builtin.append_ #[t, t] o.type #[Act.eval ⟨tm, ds⟩ b, Act.eval ⟨tm, ds⟩ x]).run P w = .ok v w') : (execOp (Act.eval ⟨tm, ds⟩) o).run P w = .ok (.value v) w' := by
  simp [execOp, ho, resolve, invoke, builtin, h]

theorem app_zero {t ty s : TypeId} (he : ElemOk P t ty s) (yt : TypeId) (ab oa : Option Addr) (n cb c : Nat) (h : n ≤ cb) (w : World) : (Builtin.append_ #[t, t] yt #[.slice ab n cb, .slice oa 0 c]).run P w = .ok (.slice ab n cb) w := by
  have hf : (Builtin.firstCells s 0 (.slice oa 0 c)).run P w = .ok #[] w := by
    cases oa <;> simp [Builtin.firstCells, loadCells, loadCellsFrom]
  simp only [Builtin.append_, Sem.run_bind, List.getElem?_toArray, List.getElem?_cons_zero, List.getElem?_cons_succ, run_underlying (slO_some he.sl), Result.andThen_ok, run_size he.sz, Sem.run_pure, Bool.false_eq_true, Sem.run_ite, ↓reduceIte, Builtin.lenOf, Nat.add_zero, h, Bool.not_false, hf]
  cases ab <;> simp [storeCells]

theorem app_exact {t ty s : TypeId} (he : ElemOk P t ty s) (yt : TypeId) {ab : Option Addr} {n m c : Nat} {a : Addr} {olds news : List Value} (hab : ab = none → n = 0) (hl : olds.length = n * s) (ho : ∀ b, ab = some b → ∀ (j : Nat) (v : Value), olds[j]? = some v → w.cell? (b.add j) = some v)
    (hm : 0 < m) (hl2 : news.length = m * s) (hn : ∀ (j : Nat) (v : Value), news[j]? = some v → w.cell? (a.add j) = some v) (hb : n + m ≤ 2147483648) :
    ∃ nc arr rest, (Builtin.append_ #[t, t] yt #[.slice ab n n, .slice (some a) m c]).run P w = .ok (.slice (some ⟨w.heap.size, 0, none⟩) (n + m) nc) (World.alloc { w with drawn := w.drawn + 1 } (.cells arr ty)) ∧
      arr.toList = olds ++ news ++ rest ∧ arr.size = nc * s ∧ n + m ≤ nc ∧ nc ≤ maxLen := by
  obtain ⟨i, z, hi, his, hiz, hzs, hby⟩ := he.info
  subst his
  have hbytes : (n + m) * i.bytes ≤ 140737488355328 := by
    have := Nat.mul_le_mul hb hby
    omega
  have hmax : n + m ≤ maxLen := maxLen_big hb
  cases ab with
  | none =>
    have := hab rfl; subst this
    have h0 : olds = [] := List.eq_nil_of_length_eq_zero (by simpa using hl)
    subst h0
    have hr := run_append_nil (P := P) w t yt ty i z (slO_some he.sl) hi hiz a m c news hl2 hn hm (by omega) (by simp only [Nat.zero_add] at hbytes; omega)
    have hge := grownCap_ge w m 0 ty
    refine ⟨grownCap w m 0 ty, news.toArray ++ Builtin.zeroCells z.cells (grownCap w m 0 ty - m), (Builtin.zeroCells z.cells (grownCap w m 0 ty - m)).toList, by rw [Nat.zero_add]; exact hr, by simp, ?_, by omega, grownCap_le_maxLen w m 0 ty (by omega)⟩
    simp only [Array.size_append, List.size_toArray, size_zeroCells, hzs, hl2, ← Nat.add_mul]
    congr 1; omega
  | some b =>
    have hr := run_append_grow (P := P) w t yt ty i z (slO_some he.sl) hi hiz b n n olds hl (ho b rfl) a m c news hl2 hn (by omega) (by omega) (growslice_fits (by omega) hbytes)
    have hge := grownCap_ge w (n + m) n ty
    refine ⟨grownCap w (n + m) n ty, olds.toArray ++ news.toArray ++ Builtin.zeroCells z.cells (grownCap w (n + m) n ty - (n + m)), (Builtin.zeroCells z.cells (grownCap w (n + m) n ty - (n + m))).toList, hr, by simp, ?_, hge, grownCap_le_maxLen w (n + m) n ty hmax⟩
    simp only [Array.size_append, List.size_toArray, size_zeroCells, hzs, hl, hl2, ← Nat.add_mul]
    congr 1; omega

theorem els_take {s : Nat} {es : List (List T)} {vs : List (List Value)} (h : Els w X s es vs) (n : Nat) : Els w X s (es.take n) (vs.take n) := by
  refine ⟨by simp [h.1], fun v hv => h.2.1 v (List.mem_of_mem_take hv), fun e he => h.2.2.1 e (List.mem_of_mem_take he), fun i e v he hv => ?_⟩
  rw [List.getElem?_take] at he hv
  split at he
  · rename_i hi; rw [if_pos hi] at hv; exact h.2.2.2 i e v he hv
  · cases he

/-- The outcome where new memory is made: as a tree. -/
theorem app_new_fz {t ty s : TypeId} (he : ElemOk P t ty s) {b x : Operand} (h : Sim w0 B κ X μ st tm w) (ho : o.op = .call { callee := .builtin .append, args := #[b, x], argTypes := #[t, t] }) {es : List (List T)} {vs : List (List Value)} (hels : Els w X s es vs)
    {nc : Nat} {arr : Array Value} {rest : List Value} (hr : (Builtin.append_ #[t, t] o.type #[Act.eval ⟨tm, ds⟩ b, Act.eval ⟨tm, ds⟩ x]).run P w = .ok (.slice (some ⟨w.heap.size, 0, none⟩) es.length nc) (World.alloc { w with drawn := w.drawn + 1 } (.cells arr ty)))
    (ha : arr.toList = vs.flatten ++ rest) (hle : es.length ≤ nc) : Good P w0 B κ X o (.t (.sl es none none)) st tm w ds := by
  refine Good.block h (w.drawn + 1) (0, 0) (app_exec ho hr) (.t _ _ ?_)
  have := hels.mono (alloc_same h.xlt (w.drawn + 1) (.cells arr ty)) (Y := fun b => X b ∨ b = w.heap.size) (fun _ hb => .inl hb)
  exact TR.new_sl this (heap_new w _ _) ha (.inr rfl) hle (fun n hn => by cases hn) (fun q hq => by cases hq)

/-- .. as a region. -/
theorem app_new {t ty s d : TypeId} (he : ElemOk P t ty s) {b x : Operand} (h : Sim w0 B κ X μ st tm w) (ho : o.op = .call { callee := .builtin .append, args := #[b, x], argTypes := #[t, t] }) {es : List (List T)} {vs : List (List Value)} (hels : Els w X s es vs)
    {nc : Nat} {arr : Array Value} {rest : List Value} (hr : (Builtin.append_ #[t, t] o.type #[Act.eval ⟨tm, ds⟩ b, Act.eval ⟨tm, ds⟩ x]).run P w = .ok (.slice (some ⟨w.heap.size, 0, none⟩) es.length nc) (World.alloc { w with drawn := w.drawn + 1 } (.cells arr ty)))
    (ha : arr.toList = vs.flatten ++ rest) (hsz : arr.size = nc * s) (hle : es.length ≤ nc) (hmax : nc ≤ maxLen) (hd : look st.hp d = none) (hdb : d < 1000000) : Good P w0 B κ X o (.ls d 0 es.length none) ⟨st.env, (d, .sl ty s es) :: st.hp⟩ tm w ds := by
  refine Good.region h (w.drawn + 1) hd hdb (app_exec ho hr) ?_ ?_
  · exact reg_sl (hels.mono (alloc_same h.xlt (w.drawn + 1) (.cells arr ty)) (Y := X) (fun _ hb => hb)) (by simp only [Loc.set, ↓reduceIte]) (heap_new w _ _) ha
  · exact .ls d 0 es.length s es.length w.heap.size _ nc none (by rw [sh_new]; rfl) (by simp only [Loc.set, ↓reduceIte]; rfl) (by omega) hle hmax (by simp [hsz]) (fun _ => by simp [hsz]) (fun q hq => by cases hq) _ (fun _ => by simp)

/-- An empty region that lies nowhere. -/
theorem Good.nilRegion {v : Value} {ty s d : Nat} (h : Sim w0 B κ X μ st tm w) (hd : look st.hp d = none) (hdb : d < 1000000) (a : Option Addr) (hv : v = .slice a 0 0) (hr : (execOp (Act.eval ⟨tm, ds⟩) o).run P w = .ok (.value v) w) :
    Good P w0 B κ X o (.ls d 0 0 none) ⟨st.env, (d, .sl ty s []) :: st.hp⟩ tm w ds := by
  subst hv
  refine ⟨_, _, w, _, X, hr, .inl rfl, h.addReg hd hdb (.sl ty s []) none (fun g n e => by cases e) ⟨by simp, .inl ⟨rfl, by simp [Loc.set]⟩⟩, (.lsnil d s 0 (by rw [sh_new]; rfl) (by simp [Loc.set]) a none (fun q hq => by cases hq)), fun _ hx => hx, fun _ _ => rfl, fun _ hx => .inl hx⟩

theorem TR.weaken {es : List (List T)} {cap : Option Nat} {nl : Option Bool} {x : Value} (h : TR w X (.sl es cap nl) x) : TR w X (.sl es none none) x := by
  cases h with
  | nil cap nl a c hc hn hz => exact .nil _ _ a c (fun n hn => by cases hn) (fun b hb => by cases hb) hz
  | sl es cap nl s b off c f hcell hlen hrel hone hx hle hc hn => exact .sl es _ _ s b off c f hcell hlen hrel hone hx hle (fun n hn => by cases hn) (fun q hq => by cases hq)

/-- append to an immutable slice of no spare capacity. -/
theorem g_app_sl {t ty s d : TypeId} (he : ElemOk P t ty s) {b x : Operand} {fz : Bool} {es news : List (List T)} {c : Nat} {nl : Option Bool} {ax : AV} (h : Sim w0 B κ X μ st tm w) (hg : Gl Γ w X) (ho : o.op = .call { callee := .builtin .append, args := #[b, x], argTypes := #[t, t] }) (kb : okOpd b = true) (kx : okOpd x = true)
    (hx : ev Γ st.env x = some ax) (hnews : elemsOf st.hp ax = some news) (hw : wid s news) (hb : ev Γ st.env b = some (.t (.sl es (some c) nl))) (hwe : wid s es) (hc : c = es.length) (hbig : es.length + news.length ≤ 2147483648) (hz : fz = true ∨ news ≠ [] ∨ es = []) :
    (fz = true → Good P w0 B κ X o (.t (.sl (es ++ news) none none)) st tm w ds) ∧ (fz = false → look st.hp d = none → d < 1000000 → Good P w0 B κ X o (.ls d 0 (es ++ news).length none) ⟨st.env, (d, .sl ty s (es ++ news)) :: st.hp⟩ tm w ds) := by
  have hrb := ev_ok (ds := ds) h hg hb kb
  have hrx := ev_ok (ds := ds) h hg hx kx
  obtain ⟨oa, c2, vs, hvx, hels, hone, hsrc⟩ := src_ok h hrx hnews hw
  obtain ⟨ob, c1, us, hvb, helsb, _, hsrcb⟩ := src_ok (s := s) (es := es) h hrb rfl hwe
  obtain ⟨ob', c1', hvb', hc1, _⟩ := hrb.t_inv.sl_val
  rw [hvb] at hvb'
  simp only [Value.slice.injEq] at hvb'
  obtain ⟨rfl, _, rfl⟩ := hvb'
  have hc1 := hc1 c rfl
  rw [hc1, hc] at hvb
  by_cases hne : news = []
  · subst hne
    have hrun := app_zero (P := P) he o.type ob oa es.length es.length c2 (Nat.le_refl _) w
    rw [show Value.slice oa 0 c2 = Act.eval ⟨tm, ds⟩ x by rw [hvx]; rfl, ← hvb] at hrun
    refine ⟨fun _ => ?_, fun hf hd hdb => ?_⟩
    · rw [List.append_nil]
      exact Good.same h (app_exec ho hrun) (.t _ _ hrb.t_inv.weaken)
    · rw [List.append_nil]
      have hes : es = [] := by
        rcases hz with hz | hz | hz
        · rw [hf] at hz; cases hz
        · exact absurd rfl hz
        · exact hz
      subst hes
      exact Good.nilRegion h hd hdb ob (by rw [hvb]; rfl) (app_exec ho hrun)
  · obtain ⟨bb, off, rfl, hcell⟩ := hsrc hne
    have hm : 0 < news.length := by cases news with
      | nil => exact absurd rfl hne
      | cons _ _ => simp
    have hlb := flat_len helsb.2.1
    have hlx := flat_len hels.2.1
    obtain ⟨nc, arr, rest, hrun, ha, hsz, hle, hmax⟩ := app_exact (P := P) (w := w) he o.type (ab := ob) (n := es.length) (m := news.length) (c := c2) (a := ⟨bb, off, none⟩) (olds := us.flatten) (news := vs.flatten)
      (fun e => by
        by_cases h0 : es = []
        · rw [h0]; rfl
        · obtain ⟨b', off', e', _⟩ := hsrcb h0; rw [e] at e'; cases e')
      (by rw [hlb, helsb.1]) (fun b' e j v hv => by
        by_cases h0 : es = []
        · have : us = [] := List.eq_nil_of_length_eq_zero (by rw [← helsb.1, h0]; rfl)
          rw [this] at hv; simp at hv
        · obtain ⟨b2, off', e', hcb⟩ := hsrcb h0
          rw [e] at e'; cases e'
          rw [Addr.add_lit]; exact hcb j v hv)
      hm (by rw [hlx, hels.1]) (fun j v hv => by rw [Addr.add_lit]; exact hcell j v hv) hbig
    rw [← hvb, ← hvx] at hrun
    rw [← List.length_append] at hrun hle
    have hels2 := helsb.append hels
    exact ⟨fun _ => app_new_fz he h ho hels2 hrun (by rw [ha, List.flatten_append]) hle, fun _ hd hdb => app_new he h ho hels2 hrun (by rw [ha, List.flatten_append]) hsz hle hmax hd hdb⟩

end
end Go.Lg

/- THE LOGIC, part 16: append to a region is sound. Conditions: none. -/
set_option linter.unusedSimpArgs false
set_option linter.unusedVariables false
namespace Go.Lg
open Go
section
variable {P : Program} {Γ : Tables} {w0 : World} {B : Nat} {κ : Loc} {X : Nat → Prop} {μ : Loc} {st : St} {tm : Array Value} {w : World} {ds : List Deferred} {o : Oper}

theorem reg_wid {id ty s : Nat} {es : List (List T)} {sh : Nat → Option Sh} (h : RegOk w X μ sh id (.sl ty s es)) : wid s es := fun e he => by
  obtain ⟨i, hi, rfl⟩ := List.getElem_of_mem he
  exact (h.1 i _ (List.getElem?_eq_getElem hi)).1

/-- append to a part of a region that has no spare capacity of its own. -/
theorem g_app_lsx {t ty s d id off len c : Nat} (he : ElemOk P t ty s) {b x : Operand} {es news : List (List T)} {ax : AV} (h : Sim w0 B κ X μ st tm w) (hg : Gl Γ w X) (ho : o.op = .call { callee := .builtin .append, args := #[b, x], argTypes := #[t, t] }) (kb : okOpd b = true) (kx : okOpd x = true)
    (hx : ev Γ st.env x = some ax) (hnews : elemsOf st.hp ax = some news) (hw : wid s news) (hb : ev Γ st.env b = some (.ls id off len (some c))) (hl : look st.hp id = some (.sl ty s es)) (hc : c = len) (hbig : len + news.length ≤ 2147483648) (hz : news ≠ [] ∨ len = 0) :
    Good P w0 B κ X o (.t (.sl ((es.drop off).take len ++ news) none none)) st tm w ds ∧ (look st.hp d = none → d < 1000000 → Good P w0 B κ X o (.ls d 0 ((es.drop off).take len ++ news).length none) ⟨st.env, (d, .sl ty s ((es.drop off).take len ++ news)) :: st.hp⟩ tm w ds) := by
  have hrb := ev_ok (ds := ds) h hg hb kb
  have hrx := ev_ok (ds := ds) h hg hx kx
  have hel : elemsOf st.hp (.ls id off len (some c)) = some ((es.drop off).take len) := by simp [elemsOf, hl]
  have hwr := reg_wid (h.reg id _ hl)
  have hwe : wid s ((es.drop off).take len) := fun e hm => hwr e (List.mem_of_mem_drop (List.mem_of_mem_take hm))
  obtain ⟨oa, c2, vs, hvx, hels, hone, hsrc⟩ := src_ok h hrx hnews hw
  obtain ⟨ob, c1, us, hvb, helsb, _, hsrcb⟩ := src_ok h hrb hel hwe
  obtain ⟨s2, n2, hs2, hcase⟩ := hrb.ls_inv
  rw [sh_of hl] at hs2
  simp only [Reg.sh, Option.some.injEq, Sh.sl.injEq] at hs2
  obtain ⟨rfl, rfl⟩ := hs2
  rcases hcase with ⟨hm, ⟨ab, hvb3⟩, _, rfl, hcn⟩ | ⟨g, m, c3, ad, hm, hv3, hle, hlc, hcm, hfit, _, hcq, had⟩
  · -- it lies nowhere
    simp only [List.take_zero, List.nil_append]
    by_cases hne : news = []
    · subst hne
      have hrun := app_zero (P := P) he o.type ab oa 0 0 c2 (Nat.le_refl _) w
      rw [show Value.slice oa 0 c2 = Act.eval ⟨tm, ds⟩ x by rw [hvx]; rfl, ← hvb3] at hrun
      refine ⟨?_, fun hd hdb => Good.nilRegion h hd hdb ab hvb3 (app_exec ho hrun)⟩
      refine Good.same h (app_exec ho hrun) (.t _ _ ?_)
      rw [hvb3]; exact .nil _ _ _ _ (fun n hn => by cases hn) (fun b hb => by cases hb) (fun _ => rfl)
    · obtain ⟨bb, boff, rfl, hcell⟩ := hsrc hne
      have hmp : 0 < news.length := by cases news with
        | nil => exact absurd rfl hne
        | cons _ _ => simp
      have hlx := flat_len hels.2.1
      obtain ⟨nc, arr, rest, hrun, ha, hsz, hle2, hmax⟩ := app_exact (P := P) (w := w) he o.type (ab := ab) (n := 0) (m := news.length) (c := c2) (a := ⟨bb, boff, none⟩) (olds := []) (news := vs.flatten)
        (fun _ => rfl) (by simp) (fun b' e j v hv => by simp at hv) hmp (by rw [hlx, hels.1]) (fun j v hv => by rw [Addr.add_lit]; exact hcell j v hv) hbig
      rw [← hvb3, ← hvx, Nat.zero_add] at hrun
      rw [Nat.zero_add] at hle2
      exact ⟨app_new_fz he h ho hels hrun (by rw [ha]; rfl) hle2, fun hd hdb => app_new he h ho hels hrun (by rw [ha]; rfl) hsz hle2 hmax hd hdb⟩
  have hc3 := hcq c rfl
  subst hc3
  subst hc
  have hlen : ((es.drop off).take c3).length = c3 := by simp; omega
  rw [hv3] at hvb
  simp only [Value.slice.injEq] at hvb
  obtain ⟨rfl, _, rfl⟩ := hvb
  generalize hE : (es.drop off).take c3 = E at *
  by_cases hne : news = []
  · subst hne
    have h0 : c3 = 0 := by rcases hz with hz | hz; exact absurd rfl hz; exact hz
    subst h0
    have hE0 : E = [] := List.eq_nil_of_length_eq_zero hlen
    subst hE0
    have hrun := app_zero (P := P) he o.type (some ad) oa 0 0 c2 (Nat.le_refl _) w
    rw [show Value.slice oa 0 c2 = Act.eval ⟨tm, ds⟩ x by rw [hvx]; rfl, ← hv3] at hrun
    refine ⟨?_, fun hd hdb => ?_⟩
    · refine Good.same h (app_exec ho hrun) (.t _ _ ?_)
      rw [hv3]; exact .nil _ _ _ _ (fun n hn => by cases hn) (fun b hb => by cases hb) (fun e => by cases e)
    · exact Good.nilRegion h hd hdb (some ad) hv3 (app_exec ho hrun)
  · obtain ⟨bb, boff, rfl, hcell⟩ := hsrc hne
    have hmp : 0 < news.length := by cases news with
      | nil => exact absurd rfl hne
      | cons _ _ => simp
    have hlb := flat_len helsb.2.1
    have hlx := flat_len hels.2.1
    obtain ⟨nc, arr, rest, hrun, ha, hsz, hle2, hmax⟩ := app_exact (P := P) (w := w) he o.type (ab := some ad) (n := c3) (m := news.length) (c := c2) (a := ⟨bb, boff, none⟩) (olds := us.flatten) (news := vs.flatten)
      (fun e => by cases e) (by rw [hlb, ← helsb.1, hlen]) (fun b' e j v hv => by
        cases e
        by_cases h0 : E = []
        · have : us = [] := List.eq_nil_of_length_eq_zero (by rw [← helsb.1, h0]; rfl)
          rw [this] at hv; simp at hv
        · obtain ⟨b2, off', e', hcb⟩ := hsrcb h0
          cases e'
          rw [Addr.add_lit]; exact hcb j v hv)
      hmp (by rw [hlx, hels.1]) (fun j v hv => by rw [Addr.add_lit]; exact hcell j v hv) hbig
    rw [← hv3, ← hvx] at hrun
    have e1 : c3 + news.length = (E ++ news).length := by rw [List.length_append, hlen]
    rw [e1] at hrun hle2
    have hels2 := helsb.append hels
    exact ⟨app_new_fz he h ho hels2 hrun (by rw [ha, List.flatten_append]) hle2, fun hd hdb => app_new he h ho hels2 hrun (by rw [ha, List.flatten_append]) hsz hle2 hmax hd hdb⟩

theorem app_room {t ty s : TypeId} (he : ElemOk P t ty s) (yt : TypeId) {g n m cb c : Nat} {a : Addr} {arr : Array Value} {news : List Value} (hg : w.heap[g]? = some (.cells arr ty (0, 0))) (hl2 : news.length = m * s) (h1 : ∀ u ∈ news, u.oneCell' = true)
    (hn : ∀ (j : Nat) (v : Value), news[j]? = some v → w.cell? (a.add j) = some v) (hroom : n + m ≤ cb) (hfit : n * s + news.length ≤ arr.size) :
    (Builtin.append_ #[t, t] yt #[.slice (some ⟨g, 0, none⟩) n cb, .slice (some a) m c]).run P w = .ok (.slice (some ⟨g, 0, none⟩) (n + m) cb) (w.setRow g (arr.toList.take (n * s) ++ news ++ arr.toList.drop (n * s + news.length)).toArray) := by
  obtain ⟨i, z, hi, his, hiz, hzs, hby⟩ := he.info
  subst his
  exact run_append_room (P := P) w t yt ty i (slO_some he.sl) hi g n cb arr hg a m c news hl2 hn h1 hroom hfit

/-- The region's cells, as rows. -/
theorem region_els {id ty s : Nat} {es : List (List T)} {sh : Nat → Option Sh} (h : RegOk w X μ sh id (.sl ty s es)) (hpos : 0 < s) {g m : Nat} (hm : μ id = some (g, m)) :
    ∃ arr rest vs, w.heap[g]? = some (.cells arr ty (0, 0)) ∧ arr.size = m ∧ Els w X s es vs ∧ arr.toList = vs.flatten ++ rest := by
  obtain ⟨hw, hcase⟩ := h
  rcases hcase with ⟨_, hm0⟩ | ⟨g', arr, hm', hg, hle, hr⟩
  · rw [hm] at hm0; cases hm0
  rw [hm] at hm'; cases hm'
  have hels : Els w X s es ((List.range es.length).map fun i => (arr.toList.drop (i * s)).take s) := by
    refine ⟨by simp, fun v hv => ?_, fun e hme => ?_, fun i e v he hv => ?_⟩
    · obtain ⟨i, hi, rfl⟩ := List.mem_map.1 hv
      simp at hi
      have := mul_fit (s := s) hi
      simp; omega
    · obtain ⟨i, hi, rfl⟩ := List.getElem_of_mem hme
      have := hw i _ (List.getElem?_eq_getElem hi)
      exact ⟨this.1, List.all_eq_true.2 fun t ht => by obtain ⟨k, hk, rfl⟩ := List.getElem_of_mem ht; exact this.2 k _ (List.getElem?_eq_getElem hk)⟩
    · have hi := (List.getElem?_eq_some_iff.1 he).1
      simp [hi] at hv; subst hv
      have hf := mul_fit (s := s) hi
      refine ⟨by simp [(hw i e he).1]; omega, fun k t y ht hy => ?_⟩
      rw [List.getElem?_take] at hy
      split at hy
      · rw [List.getElem?_drop] at hy; exact hr i k e t y he ht (by simpa using hy)
      · cases hy
  refine ⟨arr, arr.toList.drop (es.length * s), _, hg, rfl, hels, ?_⟩
  have hfl : ((List.range es.length).map fun i => (arr.toList.drop (i * s)).take s).flatten = arr.toList.take (es.length * s) := by
    have hlen := flat_len hels.2.1
    rw [List.length_map, List.length_range] at hlen
    apply List.ext_getElem?
    intro j
    by_cases hj : j < es.length * s
    · have hi : j / s < es.length := by rw [Nat.div_lt_iff_lt_mul hpos]; exact hj
      have hk : j % s < s := Nat.mod_lt _ hpos
      have hjk : j / s * s + j % s = j := by rw [Nat.mul_comm]; exact Nat.div_add_mod j s
      have hf := flat_get hels.2.1 (j / s) (j % s) hk
      rw [hjk] at hf
      rw [hf, List.getElem?_take, if_pos hj]
      simp only [List.getElem?_map, List.getElem?_range hi, Option.map_some, Option.bind_some, List.getElem?_take, hk, ↓reduceIte, List.getElem?_drop, hjk]
    · rw [List.getElem?_eq_none (by omega), List.getElem?_eq_none (by simp; omega)]
  rw [hfl, List.take_append_drop]

/-- append to a region: in place or in new memory; the region is let go. -/
theorem g_app_ls {t ty s d id len : Nat} (he : ElemOk P t ty s) {b x : Operand} {es news : List (List T)} {ax : AV} (h : Sim w0 B κ X μ st tm w) (hg : Gl Γ w X) (ho : o.op = .call { callee := .builtin .append, args := #[b, x], argTypes := #[t, t] }) (kb : okOpd b = true) (kx : okOpd x = true)
    (hx : ev Γ st.env x = some ax) (hnews : elemsOf st.hp ax = some news) (hw : wid s news) (hb : ev Γ st.env b = some (.ls id 0 len none)) (hl : look st.hp id = some (.sl ty s es)) (hbig : len + news.length ≤ 2147483648) :
    Good P w0 B κ X o (.t (.sl (es.take len ++ news) none none)) (st.kill id) tm w ds ∧ (look (st.kill id).hp d = none → d < 1000000 → Good P w0 B κ X o (.ls d 0 (es.take len ++ news).length none) ⟨(st.kill id).env, (d, .sl ty s (es.take len ++ news)) :: (st.kill id).hp⟩ tm w ds) := by
  have hrb := ev_ok (ds := ds) h hg hb kb
  have hrx := ev_ok (ds := ds) h hg hx kx
  have hreg := h.reg id _ hl
  have hid : st.sh id ≠ none := by simp [sh_of hl]
  have hkill := h.kill id
  obtain ⟨oa, c2, vs, hvx, hels, hone, hsrc⟩ := src_ok h hrx hnews hw
  obtain ⟨s2, n2, hs2, hcase⟩ := hrb.ls_inv
  rw [sh_of hl] at hs2
  simp only [Reg.sh, Option.some.injEq, Sh.sl.injEq] at hs2
  obtain ⟨rfl, rfl⟩ := hs2
  rcases hcase with ⟨hm, ⟨ab, hvb⟩, _, rfl, _⟩ | ⟨g, m, cb, ad, hm, hvb, hle, hlc, hcm, hfit, hfull, _, had⟩
  · -- it lies nowhere
    by_cases hne : news = []
    · subst hne
      have hrun := app_zero (P := P) he o.type ab oa 0 0 c2 (Nat.le_refl _) w
      rw [show Value.slice oa 0 c2 = Act.eval ⟨tm, ds⟩ x by rw [hvx]; rfl, ← hvb] at hrun
      simp only [List.take_zero, List.append_nil]
      refine ⟨?_, fun hd hdb => Good.nilRegion hkill hd hdb ab hvb (app_exec ho hrun)⟩
      refine Good.same hkill (app_exec ho hrun) (.t _ _ ?_)
      rw [hvb]; exact .nil _ _ _ _ (fun n hn => by cases hn) (fun b hb => by cases hb) (fun _ => rfl)
    · obtain ⟨bb, boff, rfl, hcell⟩ := hsrc hne
      have hmp : 0 < news.length := by cases news with
        | nil => exact absurd rfl hne
        | cons _ _ => simp
      have hlx := flat_len hels.2.1
      obtain ⟨nc, arr, rest, hrun, ha, hsz, hle2, hmax⟩ := app_exact (P := P) (w := w) he o.type (ab := ab) (n := 0) (m := news.length) (c := c2) (a := ⟨bb, boff, none⟩) (olds := []) (news := vs.flatten)
        (fun _ => rfl) (by simp) (fun b' e j v hv => by simp at hv) hmp (by rw [hlx, hels.1]) (fun j v hv => by rw [Addr.add_lit]; exact hcell j v hv) hbig
      rw [← hvb, ← hvx, Nat.zero_add] at hrun
      rw [Nat.zero_add] at hle2
      simp only [List.take_zero, List.nil_append]
      exact ⟨app_new_fz he hkill ho hels hrun (by rw [ha]; rfl) hle2, fun hd hdb => app_new he hkill ho hels hrun (by rw [ha]; rfl) hsz hle2 hmax hd hdb⟩
  · have hadg : ad = ⟨g, 0, none⟩ := by have := had (.inr rfl); simpa using this
    subst hadg
    simp only [Nat.zero_add] at hle hfit hfull
    have hfull := hfull trivial
    obtain ⟨arr, rest, us, hheap, hsz, helsr, harr⟩ := region_els hreg he.pos hm
    have helst := els_take helsr len
    have hlt : (es.take len).length = len := by simp; omega
    have hlb : ((us.take len).flatten).length = len * s := by rw [flat_len helst.2.1, ← helst.1, hlt]
    have hus : (us.take len).flatten = arr.toList.take (len * s) := by
      have h2 : us.flatten = (us.take len).flatten ++ (us.drop len).flatten := by rw [← List.flatten_append, List.take_append_drop]
      rw [harr, h2, List.append_assoc, List.take_append_of_le_length (by omega)]
      exact (List.take_of_length_le (by omega)).symm
    have hlx := flat_len hels.2.1
    -- the room case, or nothing to append
    have hcells : ∀ (j : Nat) (v : Value), (us.take len).flatten[j]? = some v → w.cell? ⟨g, 0 + j, none⟩ = some v := fun j v hv => by
      rw [cell_of_row _ _ _ _ _ _ hheap, Nat.zero_add]
      rw [hus, List.getElem?_take] at hv
      split at hv
      · simpa using hv
      · cases hv
    by_cases hroom : len + news.length ≤ cb
    · -- in place: the world's block g holds the new row
      have hrunw : ∃ arr' rest', arr'.size = arr.size ∧ arr'.toList = (us.take len ++ vs).flatten ++ rest' ∧ (Builtin.append_ #[t, t] o.type #[Act.eval ⟨tm, ds⟩ b, Act.eval ⟨tm, ds⟩ x]).run P w = .ok (.slice (some ⟨g, 0, none⟩) (len + news.length) cb) (w.setRow g arr') := by
        have hfit2 : len * s + vs.flatten.length ≤ arr.size := by
          rw [hlx, ← hels.1, ← Nat.add_mul, hsz, ← hfull]; exact Nat.mul_le_mul_right _ hroom
        refine ⟨(arr.toList.take (len * s) ++ vs.flatten ++ arr.toList.drop (len * s + vs.flatten.length)).toArray, arr.toList.drop (len * s + vs.flatten.length), set_size rfl hfit2, by rw [List.flatten_append, hus], ?_⟩
        by_cases hne : news = []
        · subst hne
          have hvs : vs = [] := List.eq_nil_of_length_eq_zero (by rw [← hels.1]; rfl)
          subst hvs
          have hrun := app_zero (P := P) he o.type (some ⟨g, 0, none⟩) oa len cb c2 hlc w
          rw [show Value.slice oa 0 c2 = Act.eval ⟨tm, ds⟩ x by rw [hvx]; rfl, ← hvb] at hrun
          rw [hrun]
          simp only [List.length_nil, Nat.add_zero, List.flatten_nil, List.append_nil, List.take_append_drop, Array.toArray_toList]
          rw [setRow_self w g arr ty (0, 0) hheap, hvb]
        · obtain ⟨bb, boff, rfl, hcell⟩ := hsrc hne
          have := app_room (P := P) (w := w) he o.type (n := len) (m := news.length) (cb := cb) (c := c2) (a := ⟨bb, boff, none⟩) (news := vs.flatten) hheap (by rw [hlx, hels.1]) (fun u hu => by
            obtain ⟨v, hv, hu⟩ := List.mem_flatten.1 hu; exact hone v hv u hu) (fun j v hv => by rw [Addr.add_lit]; exact hcell j v hv) hroom hfit2
          rw [hvb, hvx]; exact this
      obtain ⟨arr', rest', hsz', harr', hrun⟩ := hrunw
      obtain ⟨hgX, hgs, hgB⟩ := h.loc id g m hid hm
      have hnol : ∀ id' n, (st.kill id).sh id' ≠ none → μ id' ≠ some (g, n) := fun id' n hi e => by
        rw [sh_kill] at hi
        split at hi
        · exact hi rfl
        · rename_i hne2; exact hne2 (h.inj id' id g n m hi hid e hm)
      have hheap' := setRow_heap w g arr arr' ty _ hheap
      have hels2 := helst.append hels
      have hlen2 : len + news.length = (es.take len ++ news).length := by rw [List.length_append, hlt]
      constructor
      · -- as a tree: the block is immutable from now on
        obtain ⟨hsim, hs⟩ := hkill.free (X' := fun b => X b ∨ b = g) hgX hnol hgB hgs (w.setRow g arr') rfl rfl rfl (by simp) (fun k hk => setRow_other w g k _ hk) (fun _ hx => .inl hx) (fun _ hx => hx)
        refine ⟨_, _, _, μ, _, app_exec ho hrun, .inl rfl, hsim, .t _ _ ?_, fun _ hx => .inl hx, hs, fun b hx => ?_⟩
        · rw [hlen2]
          exact TR.new_sl (hels2.mono hs (fun _ hb => .inl hb)) hheap' harr' (.inr rfl) (by omega) (fun n hn => by cases hn) (fun q hq => by cases hq)
        · rcases hx with hx | rfl
          · exact .inl hx
          · rcases Nat.lt_or_ge b B with hlt | hge
            · exact .inr (.inr (hgB hlt))
            · exact .inr (.inl hge)
      · intro hd hdb
        obtain ⟨hsim, hs⟩ := hkill.free (X' := X) hgX hnol hgB hgs (w.setRow g arr') rfl rfl rfl (by simp) (fun k hk => setRow_other w g k _ hk) (fun _ hx => hx) (fun _ hx => .inl hx)
        refine ⟨_, _, _, _, X, app_exec ho hrun, .inl rfl, hsim.addReg hd hdb (.sl ty s (es.take len ++ news)) (some (g, m)) (fun g' n' e => ?_) ?_, ?_, fun _ hx => hx, hs, fun _ hx => .inl hx⟩
        · cases e; exact ⟨hgX, by simpa using hgs, hgB, fun id' n' hi => hnol id' n' hi⟩
        · exact reg_sl (hels2.mono hs (fun _ hx => hx)) (by simp only [Loc.set, ↓reduceIte, hsz', hsz]) hheap' harr'
        · rw [hlen2]
          exact .ls d 0 _ s _ g m cb none (by rw [sh_new]; rfl) (by simp only [Loc.set, ↓reduceIte]) (by omega) (by omega) hcm (by simpa using hfit) (fun _ => by simpa using hfull) (fun q hq => by cases hq) _ (fun _ => by simp)
    · -- in new memory
      have hne : news ≠ [] := fun e => by rw [e] at hroom; simp at hroom; omega
      obtain ⟨bb, boff, rfl, hcell⟩ := hsrc hne
      obtain ⟨i, z, hi, his, hiz, hzs, hby⟩ := he.info
      subst his
      have hbytes : (len + news.length) * i.bytes ≤ 140737488355328 := by
        have := Nat.mul_le_mul hbig hby
        omega
      have hmp : 0 < news.length := by cases news with
        | nil => exact absurd rfl hne
        | cons _ _ => simp
      have hr := run_append_grow (P := P) w t o.type ty i z (slO_some he.sl) hi hiz ⟨g, 0, none⟩ len cb (us.take len).flatten hlb (fun j v hv => by rw [Addr.add_lit]; exact hcells j v hv) ⟨bb, boff, none⟩ news.length c2 vs.flatten (by rw [hlx, hels.1])
        (fun j v hv => by rw [Addr.add_lit]; exact hcell j v hv) (by omega) (by omega) (growslice_fits (by omega) hbytes)
      have hge := grownCap_ge w (len + news.length) cb ty
      have hels2 := helst.append hels
      have hlen2 : len + news.length = (es.take len ++ news).length := by rw [List.length_append, hlt]
      rw [← hvb, ← hvx] at hr
      have harr2 : ((us.take len).flatten.toArray ++ vs.flatten.toArray ++ Builtin.zeroCells z.cells (grownCap w (len + news.length) cb ty - (len + news.length))).toList = (us.take len ++ vs).flatten ++ (Builtin.zeroCells z.cells (grownCap w (len + news.length) cb ty - (len + news.length))).toList := by
        simp
      have hsz2 : ((us.take len).flatten.toArray ++ vs.flatten.toArray ++ Builtin.zeroCells z.cells (grownCap w (len + news.length) cb ty - (len + news.length))).size = grownCap w (len + news.length) cb ty * i.size := by
        simp only [Array.size_append, List.size_toArray, size_zeroCells, hzs, hlb, hlx, ← hels.1, ← Nat.add_mul]
        congr 1; omega
      have hmax : grownCap w (len + news.length) cb ty ≤ maxLen := grownCap_le_maxLen w _ cb ty (maxLen_big hbig)
      generalize grownCap w (len + news.length) cb ty = nc at hr hge harr2 hsz2 hmax
      generalize (us.take len).flatten.toArray ++ vs.flatten.toArray ++ Builtin.zeroCells z.cells (nc - (len + news.length)) = arr2 at hr harr2 hsz2
      rw [hlen2] at hr hge
      exact ⟨app_new_fz he hkill ho hels2 hr harr2 hge, fun hd hdb => app_new he hkill ho hels2 hr harr2 hsz2 hge hmax hd hdb⟩

end
end Go.Lg

/- THE LOGIC, part 17: make, maps, lookups are sound. Conditions: none. -/
set_option linter.unusedSimpArgs false
set_option linter.unusedVariables false
namespace Go.Lg
open Go
section
variable {P : Program} {Γ : Tables} {w0 : World} {B : Nat} {κ : Loc} {X : Nat → Prop} {μ : Loc} {st : St} {tm : Array Value} {w : World} {ds : List Deferred} {o : Oper}

theorem made_cells {zs : List Value} {s : Nat} (hs : zs.length = s) (hp : 0 < s) (c : Nat) : ((Array.range (c * s)).map (zs.toArray[· % zs.toArray.size]!)).toList = (List.replicate c zs).flatten := by
  apply List.ext_getElem?
  intro j
  have hlen := flat_len (s := s) (L := List.replicate c zs) (fun l hl => by rw [List.eq_of_mem_replicate hl]; exact hs)
  rw [List.length_replicate] at hlen
  by_cases hj : j < c * s
  · have hi : j / s < c := by rw [Nat.div_lt_iff_lt_mul hp]; exact hj
    have hk : j % s < s := Nat.mod_lt _ hp
    have hjk : j / s * s + j % s = j := by rw [Nat.mul_comm]; exact Nat.div_add_mod j s
    have hf := flat_get (s := s) (L := List.replicate c zs) (fun l hl => by rw [List.eq_of_mem_replicate hl]; exact hs) (j / s) (j % s) hk
    rw [hjk] at hf
    rw [hf]
    simp [hj, hi, List.getElem?_replicate, hs, hk]
  · rw [List.getElem?_eq_none (by simp; omega), List.getElem?_eq_none (by omega)]

theorem wrap_small {n : Int} (h0 : 0 ≤ n) (h1 : n ≤ 2147483648) : IntKind.i64.wrap n = n := by
  simp only [IntKind.wrap, IntKind.bits, IntKind.signed]
  have : n % 2 ^ 64 = n := Int.emod_eq_of_lt h0 (by omega)
  simp only [this]
  simp; omega

theorem mk_run {t ty s : TypeId} {zs : List Value} {l c : Operand} {n m : Int} {k1 k2 : IntKind} (he : ElemOk P t ty s) (hzo : zeroO P ty = some zs) (hc1 : cellsB zs = true) (h : Sim w0 B κ X μ st tm w) (hg : Gl Γ w X) (ho : o.op = .makeSlice t l c) (kl : okOpd l = true) (kc : okOpd c = true)
    (hl : ev Γ st.env l = some (.t (.v (.int k1 n)))) (hc : ev Γ st.env c = some (.t (.v (.int k2 m)))) (h0 : 0 ≤ n) (hnm : n ≤ m) (hm : m ≤ 2147483648) :
    ∃ arr : Array Value, arr.toList = (List.replicate m.toNat zs).flatten ∧ arr.size = m.toNat * s ∧ zs.length = s ∧
      (execOp (Act.eval ⟨tm, ds⟩) o).run P w = .ok (.value (.slice (some ⟨w.heap.size, 0, none⟩) n.toNat m.toNat)) (World.alloc { w with drawn := w.drawn } (.cells arr ty)) := by
  have hlv := (ev_ok (ds := ds) h hg hl kl).t_inv.v_inv
  have hcv := (ev_ok (ds := ds) h hg hc kc).t_inv.v_inv
  obtain ⟨i, z, hi, his, hiz, hzs, hby⟩ := he.info
  have hzz : zs = z.cells.toList := by
    simp only [zeroO, hi, Option.bind_some, hiz, Option.map_some, Option.some.injEq] at hzo; exact hzo.symm
  have hzl : zs.length = s := by rw [hzz]; simpa using hzs
  have hpos := he.pos
  have hza : zs.toArray = z.cells := by rw [hzz]
  have hw1 := wrap_small h0 (by omega : n ≤ 2147483648)
  have hw2 := wrap_small (by omega : (0 : Int) ≤ m) hm
  have hmn : (m.toNat : Int) = m := by omega
  have hbm : (i.bytes : Int) * m ≤ 281474976710656 := by
    have h1 : i.bytes * m.toNat ≤ 65536 * 2147483648 := Nat.mul_le_mul hby (by omega)
    have h2 : ((i.bytes * m.toNat : Nat) : Int) ≤ 281474976710656 := by omega
    rw [Int.natCast_mul, hmn] at h2; exact h2
  have harr : ((Array.range (m.toNat * s)).map (z.cells[· % z.cells.size]!)).toList = (List.replicate m.toNat zs).flatten := by
    rw [← hza]; exact made_cells hzl hpos m.toNat
  have hrun : (Instr.makeSlice t (.int k1 n) (.int k2 m)).run P w = .ok (.slice (some ⟨w.heap.size, 0, none⟩) n.toNat m.toNat) (World.alloc { w with drawn := w.drawn } (.cells ((Array.range (m.toNat * s)).map (z.cells[· % z.cells.size]!)) ty)) := by
    have e1 : ¬ (m < 0) := by omega
    have e2 : ¬ (n < 0) := by omega
    have e3 : ¬ (n > m) := by omega
    have e4 : ¬ ((i.bytes : Int) * m > 2 ^ 48) := by omega
    have hti : (typeInfo ty).run P w = .ok i w := by simp [typeInfo, hi]
    have hzv : (zeroValue ty).run P w = .ok z w := by simp [zeroValue, typeInfo, hi, hiz]
    by_cases hz0 : m.toNat * s = 0
    · have hr0 : Array.range 0 = #[] := by apply Array.toList_inj.1; simp
      have hm0 : ∀ f : Nat → Value, Array.map f #[] = #[] := fun f => by apply Array.toList_inj.1; simp
      simp only [Instr.makeSlice, Sem.run_bind, run_underlying (slO_some he.sl), Result.andThen_ok, asInt, asIntOf, Sem.run_pure, hti, hw1, hw2, e1, e2, e3, e4, decide_false, Bool.or_false, Bool.or_self, Bool.false_eq_true, Sem.run_ite, ↓reduceIte, run_askRoom, run_size he.sz, hz0, newRow, run_newObj, hr0, hm0]
      rfl
    · simp only [Instr.makeSlice, Sem.run_bind, run_underlying (slO_some he.sl), Result.andThen_ok, asInt, asIntOf, Sem.run_pure, hti, hw1, hw2, e1, e2, e3, e4, decide_false, Bool.or_false, Bool.or_self, Bool.false_eq_true, Sem.run_ite, ↓reduceIte, run_askRoom, run_size he.sz, hz0, newRow, run_newObj, hzv]
      rfl
  have hsz : ((Array.range (m.toNat * s)).map (z.cells[· % z.cells.size]!)).size = m.toNat * s := by simp
  generalize (Array.range (m.toNat * s)).map (z.cells[· % z.cells.size]!) = arr at harr hrun hsz
  refine ⟨arr, harr, hsz, hzl, ?_⟩
  simp only [execOp, ho, hlv, hcv, Sem.run_bind, hrun]; rfl

theorem g_mk {t ty s d : TypeId} {zs : List Value} {l c : Operand} {n m : Int} {k1 k2 : IntKind} (he : ElemOk P t ty s) (hzo : zeroO P ty = some zs) (hc1 : cellsB zs = true) (h : Sim w0 B κ X μ st tm w) (hg : Gl Γ w X) (ho : o.op = .makeSlice t l c) (kl : okOpd l = true) (kc : okOpd c = true)
    (hl : ev Γ st.env l = some (.t (.v (.int k1 n)))) (hc : ev Γ st.env c = some (.t (.v (.int k2 m)))) (h0 : 0 ≤ n) (hnm : n ≤ m) (hm : m ≤ 2147483648) (hd : look st.hp d = none) (hdb : d < 1000000) :
    Good P w0 B κ X o (.ls d 0 n.toNat none) ⟨st.env, (d, .sl ty s (List.replicate n.toNat (zs.map constT))) :: st.hp⟩ tm w ds := by
  obtain ⟨arr, harr, hsz, hzl, hrun⟩ := mk_run (ds := ds) he hzo hc1 h hg ho kl kc hl hc h0 hnm hm
  have hels : Els w X s (List.replicate n.toNat (zs.map constT)) (List.replicate n.toNat zs) := by
    refine ⟨by simp, fun v hv => by rw [List.eq_of_mem_replicate hv]; exact hzl, fun e hme => by rw [List.eq_of_mem_replicate hme]; exact ⟨by simp [hzl], onesT_const hc1⟩, fun i e v he' hv => ?_⟩
    rw [List.eq_of_mem_replicate (List.mem_of_getElem? he'), List.eq_of_mem_replicate (List.mem_of_getElem? hv)]
    exact TRs_const zs
  have hsplit : (List.replicate m.toNat zs).flatten = (List.replicate n.toNat zs).flatten ++ (List.replicate (m.toNat - n.toNat) zs).flatten := by
    rw [← List.flatten_append, List.replicate_append_replicate]
    congr 2; omega
  refine Good.region h (arr := arr) (ty := ty) (v := .slice (some ⟨w.heap.size, 0, none⟩) n.toNat m.toNat) w.drawn hd hdb ?_ ?_ ?_
  · exact hrun
  · exact reg_sl (hels.mono (alloc_same h.xlt w.drawn (.cells arr ty)) (Y := X) (fun _ hb => hb)) (by simp only [Loc.set, ↓reduceIte]) (heap_new w _ _) (rest := (List.replicate (m.toNat - n.toNat) zs).flatten) (by rw [harr, hsplit])
  · exact .ls d 0 n.toNat s n.toNat w.heap.size _ m.toNat none (by rw [sh_new]; simp [Reg.sh]) (by simp only [Loc.set, ↓reduceIte]; rfl) (by omega) (by omega) (maxLen_big (by omega)) (by simp [hsz]) (fun _ => by simp [hsz]) (fun q hq => by cases hq) _ (fun _ => by simp)

theorem g_mkmap {t d : TypeId} (h : Sim w0 B κ X μ st tm w) (ho : o.op = .makeMap t none) (hd : look st.hp d = none) (hdb : d < 1000000) : Good P w0 B κ X o (.lm d) ⟨st.env, (d, .mp []) :: st.hp⟩ tm w ds := by
  have hb : RowKit.Below w.heap.size w (w.alloc (.map #[] 0)) := (RowKit.Below.refl _ _).alloc (Nat.le_refl _) _
  have h2 := h.grow (X' := X) hb (fun _ hx => hx) (fun b hx => .inl hx)
  refine ⟨_, .map (some w.heap.size), w.alloc (.map #[] 0), μ.set d (some (w.heap.size, 0)), X, by simp [execOp, ho, Instr.makeMap], .inl rfl, h2.addReg hd hdb (.mp []) (some (w.heap.size, 0)) ?_ ?_, ?_, fun _ hx => hx, fun b hx => hb.block b (h.xlt b hx), fun _ hx => .inl hx⟩
  · intro g m e
    cases e
    refine ⟨fun hx => ?_, by simp, fun hlt => absurd h.size (by omega), fun id n' hi hm => ?_⟩
    · have := h.xlt _ hx; omega
    · have := (h.loc id _ _ hi hm).2.1; omega
  · exact ⟨w.heap.size, 0, 0, [], by simp [Loc.set], heap_alloc_new w _, rfl, fun i e m h1 _ => by simp at h1⟩
  · exact .lm d w.heap.size 0 (by rw [sh_new]; rfl) (by simp [Loc.set])

end
end Go.Lg

/- THE LOGIC, part 18: lookups, updates of maps, cuts, strings of bytes are sound. Conditions: none. -/
set_option linter.unusedSimpArgs false
set_option linter.unusedVariables false
namespace Go.Lg
open Go
section
variable {P : Program} {Γ : Tables} {w0 : World} {B : Nat} {κ : Loc} {X : Nat → Prop} {μ : Loc} {st : St} {tm : Array Value} {w : World} {ds : List Deferred} {o : Oper}

theorem ba_beq (a b : ByteArray) : (a == b) = true ↔ a = b := by
  cases a with
  | mk a =>
    cases b with
    | mk b =>
      show (a == b) = true ↔ _
      simp

def KT.desc : KT → TypeDesc
  | .int k => .int k
  | .str => .string
  | .bl => .bool

theorem ktB_some {kt : KT} {q : TypeId} (h : ktB P kt q = true) : ∃ d, P.underlying q = some d ∧ ∀ a b : Value, kt.fits a = true → kt.fits b = true → Instr.sameNow d a b = some (keyEq a b) := by
  unfold ktB at h
  split at h
  · rename_i k j hu
    simp only [decide_eq_true_eq] at h; subst h
    refine ⟨_, hu, fun a b ha hb => ?_⟩
    cases a <;> simp [KT.fits] at ha
    cases b <;> simp [KT.fits] at hb
    subst ha; subst hb
    simp [Instr.sameNow, keyEq]
  · rename_i hu
    refine ⟨_, hu, fun a b ha hb => ?_⟩
    cases a <;> simp [KT.fits] at ha
    cases b <;> simp [KT.fits] at hb
    rfl
  · rename_i hu
    refine ⟨_, hu, fun a b ha hb => ?_⟩
    cases a <;> simp [KT.fits] at ha
    cases b <;> simp [KT.fits] at hb
    rfl
  · cases h

theorem run_checkKey {kt : KT} {q : TypeId} (h : ktB P kt q = true) {v : Value} (hv : kt.fits v = true) (b : Bool) (n : Nat) (w : World) : (Instr.checkKey b (n + 1) q v).run P w = .ok () w := by
  unfold ktB at h
  split at h
  · rename_i k j hu
    cases v <;> simp [KT.fits] at hv
    simp [Instr.checkKey, run_underlying hu]
  · rename_i hu
    cases v <;> simp [KT.fits] at hv
    simp [Instr.checkKey, run_underlying hu]
  · rename_i hu
    cases v <;> simp [KT.fits] at hv
    simp [Instr.checkKey, run_underlying hu]
  · cases h

/-- Entries against a map's memory. -/
def Ens (w : World) (X : Nat → Prop) (es : List (Value × T)) (ms : List MapEntry) : Prop := es.length = ms.length ∧ ∀ (i : Nat) (e : Value × T) (m : MapEntry), es[i]? = some e → ms[i]? = some m → m.key = e.1 ∧ TR w X e.2 m.val

theorem Ens.cons_inv {e : Value × T} {es : List (Value × T)} {ms : List MapEntry} (h : Ens w X (e :: es) ms) : ∃ m ns, ms = m :: ns ∧ m.key = e.1 ∧ TR w X e.2 m.val ∧ Ens w X es ns := by
  cases ms with
  | nil => exact absurd h.1 (by simp)
  | cons m ns => exact ⟨m, ns, rfl, (h.2 0 e m rfl rfl).1, (h.2 0 e m rfl rfl).2, by have := h.1; simpa using this, fun i e' m' h1 h2 => h.2 (i + 1) e' m' (by simpa using h1) (by simpa using h2)⟩
theorem Ens.cons {e : Value × T} {m : MapEntry} {es : List (Value × T)} {ms : List MapEntry} (hk : m.key = e.1) (hv : TR w X e.2 m.val) (h : Ens w X es ms) : Ens w X (e :: es) (m :: ms) :=
  ⟨by simp [h.1], fun i e' m' h1 h2 => by
    cases i with
    | zero => simp at h1 h2; subst h1; subst h2; exact ⟨hk, hv⟩
    | succ i => simp at h1 h2; exact h.2 i e' m' h1 h2⟩
theorem Ens.nil_inv {ms : List MapEntry} (h : Ens w X [] ms) : ms = [] := List.eq_nil_of_length_eq_zero h.1.symm

theorem find_none {kt : KT} {d : TypeDesc} (hs : ∀ a b : Value, kt.fits a = true → kt.fits b = true → Instr.sameNow d a b = some (keyEq a b)) {k : Value} (hk : kt.fits k = true) : ∀ {es : List (Value × T)} {ms : List MapEntry} (i : Nat), Ens w X es ms → keysFit kt es → findM k es = none → Instr.findNow d k ms i = some none
  | [], ms, i, h, hf, hn => by rw [h.nil_inv]; rfl
  | e :: es, ms, i, h, hf, hn => by
    obtain ⟨m, ns, rfl, hmk, hv, h'⟩ := h.cons_inv
    have hs' := hs k e.1 hk (hf e (by simp))
    obtain ⟨q, x⟩ := e
    simp only [findM] at hn
    split at hn
    · cases hn
    · rename_i hne
      simp only [Instr.findNow, hmk, hs', Bool.not_eq_true] at hne ⊢
      rw [hne]
      exact find_none hs hk (i + 1) h' (fun e he => hf e (by simp [he])) hn

theorem find_some {kt : KT} {d : TypeDesc} (hs : ∀ a b : Value, kt.fits a = true → kt.fits b = true → Instr.sameNow d a b = some (keyEq a b)) {k : Value} (hk : kt.fits k = true) : ∀ {es : List (Value × T)} {ms : List MapEntry} (i : Nat) {x : T}, Ens w X es ms → keysFit kt es → findM k es = some x →
    ∃ (j : Nat) (m : MapEntry), Instr.findNow d k ms i = some (some (i + j, m.val)) ∧ ms[j]? = some m ∧ TR w X x m.val ∧ keyEq k m.key = true ∧ kt.fits m.key = true ∧ ∀ (y : T) (v : Value), TR w X y v → Ens w X (setM k y es) (ms.modify j fun e => { e with key := k, val := v })
  | [], ms, i, x, h, hf, hn => by cases hn
  | e :: es, ms, i, x, h, hf, hn => by
    obtain ⟨m, ns, rfl, hmk, hv, h'⟩ := h.cons_inv
    have hfe := hf e (by simp)
    have hs' := hs k e.1 hk hfe
    obtain ⟨q, z⟩ := e
    simp only [findM] at hn
    split at hn
    · rename_i heq
      simp only [Option.some.injEq] at hn; subst hn
      refine ⟨0, m, by simp [Instr.findNow, hmk, hs', heq], rfl, hv, by rw [hmk]; exact heq, by rw [hmk]; exact hfe, fun y v hy => ?_⟩
      simp only [setM, heq, ↓reduceIte, List.modify_zero_cons]
      exact Ens.cons rfl hy h'
    · rename_i hne
      obtain ⟨j, m2, h1, h2, h3, h4, h5, h6⟩ := find_some hs hk (i + 1) h' (fun e he => hf e (by simp [he])) hn
      refine ⟨j + 1, m2, ?_, by simpa using h2, h3, h4, h5, fun y v hy => ?_⟩
      · simp only [Bool.not_eq_true] at hne
        simp only [Instr.findNow, hmk, hs', hne, h1]
        rw [show i + 1 + j = i + (j + 1) by omega]
      · simp only [setM, hne, ↓reduceIte, List.modify_succ_cons]
        exact Ens.cons hmk hv (h6 y v hy)

theorem set_none {kt : KT} {k : Value} : ∀ {es : List (Value × T)} {ms : List MapEntry} {y : T} {v : Value} {c : Nat}, Ens w X es ms → findM k es = none → TR w X y v → Ens w X (setM k y es) (ms ++ [{ key := k, val := v, born := c }])
  | [], ms, y, v, c, h, hn, hy => by rw [h.nil_inv]; exact Ens.cons rfl hy ⟨rfl, fun i e m h1 _ => by simp at h1⟩
  | e :: es, ms, y, v, c, h, hn, hy => by
    obtain ⟨m, ns, rfl, hmk, hv, h'⟩ := h.cons_inv
    obtain ⟨q, z⟩ := e
    simp only [findM] at hn
    split at hn
    · cases hn
    · rename_i hne
      simp only [setM, hne, ↓reduceIte, List.cons_append]
      exact Ens.cons hmk hv (set_none (kt := kt) h' hn hy)

theorem run_lookup {kt : KT} {t q e : TypeId} {zv kv : Value} {ok : Bool} (hm : mapO P t = some (q, e)) (hk : ktB P kt q = true) (hz : (P.info? e).bind (·.zero) = some zv) (hf : kt.fits kv = true) {es : List (Value × T)} (hfs : keysFit kt es) {mv : Value} {ms : List MapEntry}
    (hmv : (mv = .map none ∧ ms = []) ∨ ∃ r clock, mv = .map (some r) ∧ w.heap[r]? = some (.map ms.toArray clock)) (hens : Ens w X es ms) :
    ∃ v, (Instr.lookup t mv kv ok).run P w = .ok (if ok then .tuple #[v, .bool (findM kv es).isSome] else v) w ∧ ((∃ x, findM kv es = some x ∧ TR w X x v) ∨ (findM kv es = none ∧ v = zv)) := by
  obtain ⟨d, hu, hs⟩ := ktB_some hk
  have hzero : (zeroValue e).run P w = .ok zv w := by
    rw [Option.bind_eq_some_iff] at hz
    obtain ⟨i, hi, hz⟩ := hz
    simp [zeroValue, typeInfo, hi, hz]
  have hck : (Instr.checkKey ms.toArray.isEmpty 10000 q kv).run P w = .ok () w := run_checkKey hk hf _ 9999 w
  cases hfm : findM kv es with
  | none =>
    have := find_none hs hf 0 hens hfs hfm
    refine ⟨zv, ?_, .inr ⟨rfl, rfl⟩⟩
    have hfk : (Instr.findKey q kv ms).run P w = .ok none w := by
      simp [Instr.findKey, run_underlying hu, this]
    rcases hmv with ⟨rfl, rfl⟩ | ⟨r, clock, rfl, hh⟩
    · simp at hck hfk
      cases ok <;> simp [Instr.lookup, run_underlying (mapO_some hm), hck, hfk, hzero]
    · simp at hck
      cases ok <;> simp [Instr.lookup, run_underlying (mapO_some hm), getObj, Sem.run, hh, hck, hfk, hzero]
  | some x =>
    obtain ⟨j, m, h1, h2, h3, _⟩ := find_some hs hf 0 hens hfs hfm
    refine ⟨m.val, ?_, .inl ⟨x, rfl, h3⟩⟩
    have hfk : (Instr.findKey q kv ms).run P w = .ok (some (0 + j, m.val)) w := by
      simp [Instr.findKey, run_underlying hu, h1]
    rcases hmv with ⟨rfl, rfl⟩ | ⟨r, clock, rfl, hh⟩
    · simp at h2
    · simp at hck
      cases ok <;> simp [Instr.lookup, run_underlying (mapO_some hm), getObj, Sem.run, hh, hck, hfk]

theorem g_lkup {kt : KT} {t q e : TypeId} {zv kv : Value} {ok : Bool} {m k : Operand} {a : AV} {es : List (Value × T)} (h : Sim w0 B κ X μ st tm w) (hg : Gl Γ w X) (ho : o.op = .lookup t m k ok) (km : okOpd m = true) (kk : okOpd k = true)
    (hm : mapO P t = some (q, e)) (hk : ktB P kt q = true) (hz : (P.info? e).bind (·.zero) = some zv) (hzv : okConst zv = true) (hkv : ev Γ st.env k = some (.t (.v kv))) (hma : ev Γ st.env m = some a) (ha : a = .t (.mp es) ∨ ∃ id, a = .lm id ∧ look st.hp id = some (.mp es)) (hf : kt.fits kv = true) (hfs : keysFit kt es) :
    Good P w0 B κ X o (if ok then .t (.tup [(findM kv es).getD (constTT zv), .v (.bool (findM kv es).isSome)]) else .t ((findM kv es).getD (constTT zv))) st tm w ds := by
  have hkv' := (ev_ok (ds := ds) h hg hkv kk).t_inv.v_inv
  have hrm := ev_ok (ds := ds) h hg hma km
  have hmem : ∃ ms : List MapEntry, ((Act.eval ⟨tm, ds⟩ m = .map none ∧ ms = []) ∨ ∃ r clock, Act.eval ⟨tm, ds⟩ m = .map (some r) ∧ w.heap[r]? = some (.map ms.toArray clock)) ∧ Ens w X es ms := by
    rcases ha with rfl | ⟨id, rfl, hl⟩
    · rcases hrm.t_inv.mp_inv with ⟨rfl, he⟩ | ⟨r, clock, ms, he, hh, _, hlen, hr⟩
      · exact ⟨[], .inl ⟨he, rfl⟩, rfl, fun i e m h1 _ => by simp at h1⟩
      · exact ⟨ms, .inr ⟨r, clock, he, hh⟩, hlen, hr⟩
    · obtain ⟨g, n, hs, hmu, he⟩ := hrm.lm_inv
      obtain ⟨g', n', clock, ms, hm', hh, hlen, hr⟩ := h.reg _ _ hl
      rw [hmu] at hm'; cases hm'
      exact ⟨ms, .inr ⟨g, clock, he, hh⟩, hlen, hr⟩
  obtain ⟨ms, hmv, hens⟩ := hmem
  obtain ⟨v, hrun, hv⟩ := run_lookup (P := P) (ok := ok) hm hk hz hf hfs hmv hens
  have htv : TR w X ((findM kv es).getD (constTT zv)) v := by
    rcases hv with ⟨x, hx, hr⟩ | ⟨hx, rfl⟩
    · rw [hx]; exact hr
    · rw [hx]; exact constTT_ok _ hzv
  have hex : (execOp (Act.eval ⟨tm, ds⟩) o).run P w = .ok (.value (if ok then .tuple #[v, .bool (findM kv es).isSome] else v)) w := by
    simp only [execOp, ho, hkv', Sem.run_bind, hrun]; rfl
  cases ok with
  | true => exact Good.same h hex (.t _ _ (TR.mk_tup (TRs.cons htv (TRs.cons (.v _) (TRs.nil _ _)))))
  | false => exact Good.same h hex (.t _ _ htv)

theorem toT1_ok {μ : Loc} {sh : Nat → Option Sh} {a : AV} {x : Value} {t : T} (h : AR w X μ sh a x) (ht : toT1 a = some t) : TR w X t x := by
  cases a <;> simp only [toT1, Option.some.injEq, reduceCtorEq] at ht
  subst ht; exact h.t_inv

theorem toT_ok {μ : Loc} {sh : Nat → Option Sh} {a : AV} {x : Value} {t : T} (h : AR w X μ sh a x) (ht : toT a = some t) : TR w X t x := by
  cases a with
  | t y => simp only [toT, Option.some.injEq] at ht; subst ht; exact h.t_inv
  | ag cs =>
    simp only [toT, Option.map_eq_some_iff] at ht
    obtain ⟨ts, hts, rfl⟩ := ht
    obtain ⟨xs, rfl, h1, hr⟩ := h.ag_inv
    refine TR.mk_agg ?_ (hr.toT hts)
    rw [toTs_some (as := cs) hts, onesA_map] at h1; exact h1
  | fn f cs =>
    simp only [toT, Option.map_eq_some_iff] at ht
    obtain ⟨ts, hts, rfl⟩ := ht
    cases h with
    | fn f cs xs hlen hrel =>
      have := ARs.toT ⟨hlen, hrel⟩ (ts := ts) hts
      exact .fn f ts xs this.1 this.2
  | _ => simp [toT] at ht

theorem g_mup {kt : KT} {t q e : TypeId} {kv : Value} {m k x : Operand} {id : Nat} {es : List (Value × T)} {a : AV} {y : T} (h : Sim w0 B κ X μ st tm w) (hg : Gl Γ w X) (ho : o.op = .mapUpdate t m k x) (km : okOpd m = true) (kk : okOpd k = true) (kx : okOpd x = true)
    (hm : mapO P t = some (q, e)) (hk : ktB P kt q = true) (hkv : ev Γ st.env k = some (.t (.v kv))) (hma : ev Γ st.env m = some (.lm id)) (hl : look st.hp id = some (.mp es)) (hx : ev Γ st.env x = some a) (hy : toT a = some y) (hf : kt.fits kv = true) (hfs : keysFit kt es) :
    Good P w0 B κ X o .un ⟨st.env, setR id (.mp (setM kv y es)) st.hp⟩ tm w ds := by
  have hkv' := (ev_ok (ds := ds) h hg hkv kk).t_inv.v_inv
  have hty := toT_ok (ev_ok (ds := ds) h hg hx kx) hy
  obtain ⟨g, n, hs, hmu, he⟩ := (ev_ok (ds := ds) h hg hma km).lm_inv
  obtain ⟨g', n', clock, ms, hm', hh, hlen, hr⟩ := h.reg _ _ hl
  rw [hmu] at hm'; cases hm'
  have hens : Ens w X es ms := ⟨hlen, hr⟩
  obtain ⟨d, hu, hsn⟩ := ktB_some hk
  have hck : (Instr.checkKey false 10000 q kv).run P w = .ok () w := run_checkKey hk hf _ 9999 w
  have key : ∃ (ms' : List MapEntry) (c' : Nat), (Instr.mapUpdate t (.map (some g)) kv (Act.eval ⟨tm, ds⟩ x)).run P w = .ok () { w with heap := w.heap.setIfInBounds g (.map ms'.toArray c') } ∧ Ens w X (setM kv y es) ms' := by
    cases hfm : findM kv es with
    | none =>
      have h1 := find_none hsn hf 0 hens hfs hfm
      refine ⟨ms ++ [{ key := kv, val := Act.eval ⟨tm, ds⟩ x, born := clock }], clock + 1, ?_, set_none (kt := kt) hens hfm hty⟩
      have hfk : (Instr.findKey q kv ms).run P w = .ok none w := by simp [Instr.findKey, run_underlying hu, h1]
      simp [Instr.mapUpdate, run_underlying (mapO_some hm), getObj, setObj, Sem.run, hh, hck, hfk]
    | some z =>
      obtain ⟨j, m2, h1, h2, h3, h4, h5, h6⟩ := find_some hsn hf 0 hens hfs hfm
      refine ⟨ms.modify j fun e => { e with key := kv, val := Act.eval ⟨tm, ds⟩ x }, clock, ?_, h6 y _ hty⟩
      have hfk : (Instr.findKey q kv ms).run P w = .ok (some (0 + j, m2.val)) w := by simp [Instr.findKey, run_underlying hu, h1]
      have hsb : ∀ n, Instr.sameBits n m2.key kv = true := by
        intro n
        cases kt with
        | int k0 =>
          cases kv <;> simp [KT.fits] at hf
          generalize hmk : m2.key = K at h4 h5
          cases K <;> simp [KT.fits] at h5
          subst hf; subst h5
          simp only [keyEq, beq_iff_eq] at h4
          cases n <;> simp [Instr.sameBits, h4]
        | str =>
          cases kv <;> simp [KT.fits] at hf
          generalize hmk : m2.key = K at h4 h5
          cases K <;> simp [KT.fits] at h5
          simp only [keyEq, ba_beq] at h4
          subst h4
          cases n <;> simp [Instr.sameBits, ba_beq]
        | bl =>
          cases kv <;> simp [KT.fits] at hf
          generalize hmk : m2.key = K at h4 h5
          cases K <;> simp [KT.fits] at h5
          simp only [keyEq, beq_iff_eq] at h4
          cases n <;> simp [Instr.sameBits, h4]
      have hstay : (Instr.keyThatStays m2.key kv).run P w = .ok kv w := by simp only [Instr.keyThatStays, hsb, ↓reduceIte, Sem.run_pure]
      have hms : (ms.toArray[0 + j]?).map (·.key) = some m2.key := by simp [h2]
      simp [Instr.mapUpdate, run_underlying (mapO_some hm), getObj, setObj, Sem.run, hh, hck, hfk, h2, hstay]
  obtain ⟨ms', c', hrun, hens'⟩ := key
  have hglt : g < w.heap.size := (Array.getElem?_eq_some_iff.1 hh).1
  obtain ⟨hsim, hs'⟩ := h.setReg hl (r' := .mp (setM kv y es)) rfl hmu (w' := { w with heap := w.heap.setIfInBounds g (.map ms'.toArray c') }) rfl rfl rfl (by simp) (fun j hj => by simp [Array.getElem?_setIfInBounds, Ne.symm hj])
    (fun hs' => ⟨g, n, c', ms', hmu, by simp [hglt], hens'.1, fun i e m h1 h2 => ⟨(hens'.2 i e m h1 h2).1, (hens'.2 i e m h1 h2).2.mono hs' (fun _ hx => hx)⟩⟩)
  exact ⟨.skip, undef, _, μ, X, by simp only [execOp, ho, hkv', he, Sem.run_bind, hrun]; rfl, .inr ⟨rfl, rfl⟩, hsim, .un, fun _ hx => hx, hs', fun _ hx => .inl hx⟩

end
end Go.Lg

/- THE LOGIC, part 19: cuts, strings of bytes are sound. Conditions: none. -/
set_option linter.unusedSimpArgs false
set_option linter.unusedVariables false
namespace Go.Lg
open Go
section
variable {P : Program} {Γ : Tables} {w0 : World} {B : Nat} {κ : Loc} {X : Nat → Prop} {μ : Loc} {st : St} {tm : Array Value} {w : World} {ds : List Deferred} {o : Oper}

/-- What a bound is at the run. -/
def NumAt (ρ : Operand → Value) (o : Option Operand) (dflt n : Nat) : Prop := (o = none ∧ n = dflt) ∨ ∃ x k i, o = some x ∧ ρ x = .int k i ∧ 0 ≤ i ∧ n = i.toNat

theorem numO_ok {x : Option Operand} {dflt : Nat} {r : Prop × Nat} (h : Sim w0 B κ X μ st tm w) (hg : Gl Γ w X) (hx : numO Γ st.env x dflt = some r) (hc : r.1) (hk : x.toList.all okOpd = true) : NumAt (Act.eval ⟨tm, ds⟩) x dflt r.2 := by
  unfold numO at hx
  split at hx
  · simp only [Option.some.injEq] at hx; subst hx; exact .inl ⟨rfl, rfl⟩
  · rename_i o
    split at hx
    · rename_i k n he
      simp only [Option.some.injEq] at hx; subst hx
      exact .inr ⟨o, k, n, rfl, (ev_ok (ds := ds) h hg he (by simpa using hk)).t_inv.v_inv, hc, rfl⟩
    · cases hx

theorem run_bound {ρ : Operand → Value} {x : Operand} {k : IntKind} {i : Int} {y : Nat} (h : ρ x = .int k i) (h0 : 0 ≤ i) (h1 : i.toNat ≤ y) (code : BoundsCode) (w : World) : (Instr.sliceBound (ρ x) y code).run P w = .ok i.toNat w := by
  rw [h]; exact run_sliceBound (P := P) w k i y code h0 (by omega)

theorem run_bounds {ρ : Operand → Value} {lo hi : Option Operand} {len cap l h : Nat} (isS : Bool) (hlo : NumAt ρ lo 0 l) (hhi : NumAt ρ hi len h) (h1 : l ≤ h) (h2 : h ≤ cap) (w : World) : (Instr.sliceBounds isS len cap (lo.map ρ) (hi.map ρ) none).run P w = .ok (l, h, cap) w := by
  rcases hhi with ⟨rfl, rfl⟩ | ⟨x, k, i, rfl, hx, h0, rfl⟩ <;> rcases hlo with ⟨rfl, rfl⟩ | ⟨y, k', j, rfl, hy, h0', rfl⟩
  · simp [Instr.sliceBounds]
  · simp [Instr.sliceBounds, run_bound (P := P) hy h0' h1]
  · simp [Instr.sliceBounds, run_bound (P := P) hx h0 h2]
  · simp [Instr.sliceBounds, run_bound (P := P) hx h0 h2, run_bound (P := P) hy h0' h1]

theorem run_bounds3 {ρ : Operand → Value} {lo : Option Operand} {hi mx : Operand} {len cap l h m : Nat} (hlo : NumAt ρ lo 0 l) (hhi : NumAt ρ (some hi) len h) (hmx : NumAt ρ (some mx) 0 m) (h1 : l ≤ h) (h2 : h ≤ m) (h3 : m ≤ cap) (w : World) :
    (Instr.sliceBounds true len cap (lo.map ρ) (some (ρ hi)) (some (ρ mx))).run P w = .ok (l, h, m) w := by
  rcases hmx with ⟨e, _⟩ | ⟨x2, k2, i2, e2, hx2, h02, rfl⟩
  · cases e
  rcases hhi with ⟨e, _⟩ | ⟨x, k, i, e, hx, h0, rfl⟩
  · cases e
  cases e; cases e2
  rcases hlo with ⟨rfl, rfl⟩ | ⟨y, k', j, rfl, hy, h0', rfl⟩
  · simp [Instr.sliceBounds, run_bound (P := P) hx h0 h2, run_bound (P := P) hx2 h02 h3]
  · simp [Instr.sliceBounds, run_bound (P := P) hx h0 h2, run_bound (P := P) hx2 h02 h3, run_bound (P := P) hy h0' h1]

theorem g_slice_str {t : TypeId} {x : Operand} {lo hi : Option Operand} {b : ByteArray} {l h' : Nat} (h : Sim w0 B κ X μ st tm w) (hg : Gl Γ w X) (ho : o.op = .slice t x lo hi none) (kx : okOpd x = true) (hu : strO P t = true)
    (hx : ev Γ st.env x = some (.t (.v (.string b)))) (hlo : NumAt (Act.eval ⟨tm, ds⟩) lo 0 l) (hhi : NumAt (Act.eval ⟨tm, ds⟩) hi b.size h') (h1 : l ≤ h') (h2 : h' ≤ b.size) : Good P w0 B κ X o (.t (.v (.string (b.extract l h')))) st tm w ds := by
  have he := (ev_ok (ds := ds) h hg hx kx).t_inv.v_inv
  refine Good.same h (v := .string (b.extract l h')) ?_ (.t _ _ (.v _))
  have hb := run_bounds (P := P) false hlo hhi h1 h2 w
  simp [execOp, ho, he, Instr.sliceAt, Instr.slice, run_underlying (strO_some hu), hb]

/-- Cutting a slice value. -/
def cutV (a : Option Addr) (c l h m s : Nat) : Value := .slice (if m = l then a else a.map (·.add (l * s))) (h - l) (m - l)

theorem run_slice {t e : TypeId} {s : Nat} (hu : slO P t = some e) (hz : szO P e = some s) {a : Option Addr} {len c l h m : Nat} {lo hi mx : Option Value} (hb : ∀ w, (Instr.sliceBounds true len c lo hi mx).run P w = .ok (l, h, m) w) (w : World) :
    (Instr.sliceAt t (.slice a len c) lo hi mx).run P w = .ok (cutV a c l h m s) w := by
  simp [Instr.sliceAt, Instr.slice, run_underlying (slO_some hu), hb, run_size hz, cutV]

theorem cut_sl {es : List (List T)} {cap : Option Nat} {nl : Option Bool} {x : Value} {s l h : Nat} (hx : TR w X (.sl es cap nl) x) (hw : wid s es) (h1 : l ≤ h) (h2 : h ≤ es.length) :
    ∃ a c, x = .slice a es.length c ∧ es.length ≤ c ∧ (∀ n, cap = some n → c = n) ∧ ∀ m, h ≤ m → m ≤ c → ∀ cap' : Option Nat, (∀ n, cap' = some n → m - l = n) → TR w X (.sl ((es.drop l).take (h - l)) cap' nl) (cutV a c l h m s) := by
  have hlen : ((es.drop l).take (h - l)).length = h - l := by simp; omega
  rcases hx.sl_inv with ⟨rfl, a, c, rfl, hc, hn, hz⟩ | ⟨s', b, off, c, rfl, hxb, hle, hc, hn, hw', hone, f, hcell, hrel⟩
  · refine ⟨a, c, rfl, Nat.zero_le _, hc, fun m hhm hmc cap' hcap => ?_⟩
    simp at h2; subst h2
    have : l = 0 := by omega
    subst this
    have e : (if m = 0 then a else a.map (·.add (0 * s))) = a := by
      split
      · rfl
      · cases a <;> simp [Addr.add]
    simp only [cutV, e, List.drop_nil, List.take_nil]
    exact .nil _ _ _ _ hcap hn (fun e => by have := hz e; omega)
  · refine ⟨_, c, rfl, hle, hc, fun m hhm hmc cap' hcap => ?_⟩
    by_cases hlh : l = h
    · subst hlh
      have e : (es.drop l).take (l - l) = [] := by simp
      simp only [cutV, e, Nat.sub_self]
      refine .nil _ _ _ _ hcap (fun q hq => ?_) (fun e => ?_)
      · rw [hn q hq]; split <;> rfl
      · split at e <;> simp at e
    · have hss : s' = s := by
        have hmem := (getD_mem (es := es) (i := 0) (by omega)).1
        exact (hw' _ hmem).symm.trans (hw _ hmem)
      subst hss
      have hml : ¬ m = l := by omega
      have hge : ∀ i, i < h - l → ((es.drop l).take (h - l))[i]? = es[l + i]? := fun i hi => by rw [List.getElem?_take, if_pos hi, List.getElem?_drop]
      have hmem : ∀ e ∈ (es.drop l).take (h - l), e ∈ es := fun e he => List.mem_of_mem_drop (List.mem_of_mem_take he)
      have := TR.mk_sl (w := w) (X := X) (es := (es.drop l).take (h - l)) (cap := cap') (nl := nl) (s := s') (b := b) (off := off + l * s') (c := m - l) (f := fun i k => f (l + i) k) hxb (by omega) hcap hn (fun e he => hw' e (hmem e he)) (fun e he => hone e (hmem e he))
        (fun i k hi hk => by rw [hlen] at hi; have := hcell (l + i) k (by omega) hk; rw [Nat.add_mul] at this; rwa [show off + l * s' + i * s' + k = off + (l * s' + i * s') + k by omega])
        (fun i k e t he ht => by
          have hi := (List.getElem?_eq_some_iff.1 he).1
          rw [hlen] at hi
          rw [hge i hi] at he
          exact hrel (l + i) k e t he ht)
      rw [hlen] at this
      simp only [cutV, hml, ↓reduceIte, Option.map_some, Addr.add_lit]
      exact this

theorem g_slice_sl {t e : TypeId} {s : Nat} {x : Operand} {lo hi : Option Operand} {es : List (List T)} {cap : Option Nat} {nl : Option Bool} {l h' : Nat} (h : Sim w0 B κ X μ st tm w) (hg : Gl Γ w X) (ho : o.op = .slice t x lo hi none) (kx : okOpd x = true) (hu : slO P t = some e) (hz : szO P e = some s)
    (hx : ev Γ st.env x = some (.t (.sl es cap nl))) (hw : wid s es) (hlo : NumAt (Act.eval ⟨tm, ds⟩) lo 0 l) (hhi : NumAt (Act.eval ⟨tm, ds⟩) hi es.length h') (h1 : l ≤ h') (h2 : h' ≤ es.length) : Good P w0 B κ X o (.t (.sl ((es.drop l).take (h' - l)) (cap.map (· - l)) nl)) st tm w ds := by
  obtain ⟨a, c, he, hle, hc, hcut⟩ := cut_sl (ev_ok (ds := ds) h hg hx kx).t_inv hw h1 h2
  refine Good.same h (v := cutV a c l h' c s) ?_ (.t _ _ (hcut c (by omega) (Nat.le_refl _) _ (fun n hn => ?_)))
  · have hrun := run_slice (P := P) hu hz (a := a) (len := es.length) (c := c) (fun w => run_bounds (P := P) (cap := c) true hlo hhi h1 (by omega) w) w
    simp only [execOp, ho, he, Sem.run_bind, Option.map_none, hrun]; rfl
  · simp only [Option.map_eq_some_iff] at hn
    obtain ⟨q, hq, rfl⟩ := hn
    rw [hc q hq]

theorem g_slice_sl3 {t e : TypeId} {s : Nat} {x hi mx : Operand} {lo : Option Operand} {es : List (List T)} {cap : Option Nat} {nl : Option Bool} {l h' m : Nat} (h : Sim w0 B κ X μ st tm w) (hg : Gl Γ w X) (ho : o.op = .slice t x lo (some hi) (some mx)) (kx : okOpd x = true) (hu : slO P t = some e) (hz : szO P e = some s)
    (hx : ev Γ st.env x = some (.t (.sl es cap nl))) (hw : wid s es) (hlo : NumAt (Act.eval ⟨tm, ds⟩) lo 0 l) (hhi : NumAt (Act.eval ⟨tm, ds⟩) (some hi) es.length h') (hmx : NumAt (Act.eval ⟨tm, ds⟩) (some mx) 0 m) (h1 : l ≤ h') (h2 : h' ≤ m) (h3 : m ≤ es.length) :
    Good P w0 B κ X o (.t (.sl ((es.drop l).take (h' - l)) (some (m - l)) nl)) st tm w ds := by
  obtain ⟨a, c, he, hle, hc, hcut⟩ := cut_sl (ev_ok (ds := ds) h hg hx kx).t_inv hw h1 (by omega : h' ≤ es.length)
  refine Good.same h (v := cutV a c l h' m s) ?_ (.t _ _ (hcut m h2 (by omega) _ (fun n hn => by cases hn; rfl)))
  have hrun := run_slice (P := P) hu hz (a := a) (len := es.length) (c := c) (fun w => run_bounds3 (P := P) (cap := c) hlo hhi hmx h1 h2 (by omega) w) w
  simp only [execOp, ho, he, Sem.run_bind, Option.map_some, hrun]; rfl

theorem cut_ls {id off len : Nat} {cap : Option Nat} {x : Value} {q l h m : Nat} {sh : Nat → Option Sh} {n : Nat} (hx : AR w X μ sh (.ls id off len cap) x) (hs : sh id = some (.sl q n)) (h1 : l ≤ h) (h2 : h ≤ len) :
    ∃ a c, x = .slice a len c ∧ len ≤ c ∧ (∀ q, cap = some q → c = q) ∧ (m = c → AR w X μ sh (.ls id (off + l) (h - l) (cap.map (· - l))) (cutV a c l h m q)) ∧ (h ≤ m → m ≤ len → AR w X μ sh (.ls id (off + l) (h - l) (some (m - l))) (cutV a c l h m q)) := by
  obtain ⟨s', n', hs', hcase⟩ := hx.ls_inv
  rw [hs] at hs'
  simp only [Option.some.injEq, Sh.sl.injEq] at hs'
  obtain ⟨rfl, rfl⟩ := hs'
  rcases hcase with ⟨hm, ⟨a, rfl⟩, rfl, rfl, hc⟩ | ⟨g, mm, c, a, hm, rfl, hle, hlc, hcm, hfit, hfull, hc, ha⟩
  · have : h = 0 := by omega
    subst this
    have : l = 0 := by omega
    subst this
    refine ⟨a, 0, rfl, Nat.le_refl _, fun q hq => (hc q hq).symm, fun hm0 => ?_, fun _ hm0 => ?_⟩
    · subst hm0
      simp only [cutV, ↓reduceIte, Nat.sub_zero, Nat.add_zero]
      exact .lsnil id q n hs hm a _ (fun z hz => by simp only [Option.map_eq_some_iff] at hz; obtain ⟨y, hy, rfl⟩ := hz; exact hc y hy)
    · have : m = 0 := by omega
      subst this
      simp only [cutV, ↓reduceIte, Nat.sub_zero, Nat.add_zero]
      exact .lsnil id q n hs hm a _ (fun z hz => by cases hz; rfl)
  · refine ⟨some a, c, rfl, hlc, hc, fun hmc => ?_, fun hhm hml => ?_⟩
    · subst hmc
      have hadd : (off + l) * q + (m - l) * q = (off + m) * q := by rw [← Nat.add_mul]; congr 1; omega
      have e : cutV (some a) m l h m q = .slice (some (if m = l then a else a.add (l * q))) (h - l) (m - l) := by
        unfold cutV; split <;> rfl
      rw [e]
      refine .ls id (off + l) (h - l) q n g mm (m - l) _ hs hm (by omega) (by omega) (by omega) (by rw [Nat.add_mul (off + l), hadd]; exact hfit) (fun hn => by
        rw [Nat.add_mul (off + l), hadd]; exact hfull (by cases cap <;> simp at hn ⊢)) (fun z hz => by
        simp only [Option.map_eq_some_iff] at hz; obtain ⟨y, hy, rfl⟩ := hz; rw [hc y hy]) _ (fun hor => ?_)
      by_cases hml : m = l
      · subst hml
        simp only [↓reduceIte]
        have h0 : off + m = 0 := by rcases hor with hor | hor <;> omega
        have := ha (.inr (by omega))
        have ho : off = 0 := by omega
        have hm0 : m = 0 := by omega
        rw [this, ho, hm0]
      · simp only [hml, ↓reduceIte]
        have := ha (.inl (by omega))
        rw [this, Addr.add_lit, Nat.add_mul]
    · have e : cutV (some a) c l h m q = .slice (some (if m = l then a else a.add (l * q))) (h - l) (m - l) := by
        unfold cutV; split <;> rfl
      rw [e]
      have hle2 : (off + l + (m - l)) * q ≤ (off + c) * q := Nat.mul_le_mul_right _ (by omega)
      refine .ls id (off + l) (h - l) q n g mm (m - l) _ hs hm (by omega) (by omega) (by omega) (by omega) (fun hn => by cases hn) (fun z hz => by cases hz; rfl) _ (fun hor => ?_)
      by_cases hml2 : m = l
      · subst hml2
        simp only [↓reduceIte]
        have h0 : off + m = 0 := by rcases hor with hor | hor <;> omega
        have := ha (.inr (by omega))
        have ho : off = 0 := by omega
        have hm0 : m = 0 := by omega
        rw [this, ho, hm0]
      · simp only [hml2, ↓reduceIte]
        have := ha (.inl (by omega))
        rw [this, Addr.add_lit, Nat.add_mul]

theorem g_slice_ls {t e ty : TypeId} {s q id off len : Nat} {es : List (List T)} {x : Operand} {lo hi : Option Operand} {cap : Option Nat} {l h' : Nat} (h : Sim w0 B κ X μ st tm w) (hg : Gl Γ w X) (ho : o.op = .slice t x lo hi none) (kx : okOpd x = true) (hu : slO P t = some e) (hz : szO P e = some s)
    (hx : ev Γ st.env x = some (.ls id off len cap)) (hl : look st.hp id = some (.sl ty q es)) (hq : q = s) (hlo : NumAt (Act.eval ⟨tm, ds⟩) lo 0 l) (hhi : NumAt (Act.eval ⟨tm, ds⟩) hi len h') (h1 : l ≤ h') (h2 : h' ≤ len) : Good P w0 B κ X o (.ls id (off + l) (h' - l) (cap.map (· - l))) st tm w ds := by
  subst hq
  obtain ⟨a, c, he, hle, hc, hcut, _⟩ := cut_ls (m := (match Act.eval ⟨tm, ds⟩ x with | .slice _ _ c => c | _ => 0)) (ev_ok (ds := ds) h hg hx kx) (by rw [sh_of hl]; rfl) h1 h2
  rw [he] at hcut
  have hcut := hcut rfl
  refine Good.same h (v := cutV a c l h' c q) ?_ hcut
  have hrun := run_slice (P := P) hu hz (a := a) (len := len) (c := c) (fun w => run_bounds (P := P) (cap := c) true hlo hhi h1 (by omega) w) w
  simp only [execOp, ho, he, Sem.run_bind, Option.map_none, hrun]; rfl

theorem g_slice_ls3 {t e ty : TypeId} {s q id off len : Nat} {es : List (List T)} {x hi mx : Operand} {lo : Option Operand} {cap : Option Nat} {l h' m : Nat} (h : Sim w0 B κ X μ st tm w) (hg : Gl Γ w X) (ho : o.op = .slice t x lo (some hi) (some mx)) (kx : okOpd x = true) (hu : slO P t = some e) (hz : szO P e = some s)
    (hx : ev Γ st.env x = some (.ls id off len cap)) (hl : look st.hp id = some (.sl ty q es)) (hq : q = s) (hlo : NumAt (Act.eval ⟨tm, ds⟩) lo 0 l) (hhi : NumAt (Act.eval ⟨tm, ds⟩) (some hi) len h') (hmx : NumAt (Act.eval ⟨tm, ds⟩) (some mx) 0 m) (h1 : l ≤ h') (h2 : h' ≤ m) (h3 : m ≤ len) :
    Good P w0 B κ X o (.ls id (off + l) (h' - l) (some (m - l))) st tm w ds := by
  subst hq
  obtain ⟨a, c, he, hle, hc, _, hcut⟩ := cut_ls (m := m) (ev_ok (ds := ds) h hg hx kx) (by rw [sh_of hl]; rfl) h1 (by omega : h' ≤ len)
  refine Good.same h (v := cutV a c l h' m q) ?_ (hcut h2 h3)
  have hrun := run_slice (P := P) hu hz (a := a) (len := len) (c := c) (fun w => run_bounds3 (P := P) (cap := c) hlo hhi hmx h1 h2 (by omega) w) w
  simp only [execOp, ho, he, Sem.run_bind, Option.map_some, hrun]; rfl

theorem bytesOf_some : ∀ {es : List (List T)} {bs : List UInt8}, bytesOf es = some bs → wid 1 es ∧ es.length = bs.length ∧ ∀ (i : Nat) (e : List T), es[i]? = some e → ∃ n, e = [.v (.int .u8 n)] ∧ bs[i]? = some (UInt8.ofNat n.toNat)
  | [], bs, h => by simp only [bytesOf, Option.some.injEq] at h; subst h; exact ⟨fun e he => by simp at he, rfl, fun i e he => by simp at he⟩
  | e :: es, bs, h => by
    unfold bytesOf at h
    split at h
    · rename_i heq; cases heq
    · rename_i n es' heq
      cases heq
      simp only [Option.map_eq_some_iff] at h
      obtain ⟨bs', h', rfl⟩ := h
      obtain ⟨h1, h2, h3⟩ := bytesOf_some h'
      refine ⟨fun e he => ?_, by simp [h2], fun i e he => ?_⟩
      · rcases List.mem_cons.1 he with rfl | he
        · rfl
        · exact h1 e he
      · cases i with
        | zero => simp at he; subst he; exact ⟨n, rfl, rfl⟩
        | succ i => simp at he; simpa using h3 i e he
    · cases h

theorem forIn_bytes (body : Value → ByteArray → Sem (ForInStep ByteArray)) (hb : ∀ n r, body (.int .u8 n) r = pure (ForInStep.yield (r.push (UInt8.ofNat n.toNat)))) : ∀ (xs : List Value) (ns : List Int), xs = ns.map (Value.int .u8) → ∀ (s : ByteArray) (w : World),
    (forIn xs s body).run P w = .ok (ns.foldl (fun r n => r.push (UInt8.ofNat n.toNat)) s) w
  | _, [], rfl, s, w => by simp
  | _, n :: ns, rfl, s, w => by
    have ih := forIn_bytes body hb (ns.map (Value.int .u8)) ns rfl (s.push (UInt8.ofNat n.toNat)) w
    simp only [List.map_cons, List.forIn_cons, hb, Sem.run_bind, Sem.run_pure, Result.andThen_ok, ih, List.foldl_cons]

theorem push_fold (ns : List Int) : ∀ s : ByteArray, (ns.foldl (fun r n => r.push (UInt8.ofNat n.toNat)) s).data.toList = s.data.toList ++ ns.map fun n => UInt8.ofNat n.toNat := by
  induction ns with
  | nil => intro s; simp
  | cons n ns ih => intro s; rw [List.foldl_cons, ih]; simp [ByteArray.push]

theorem run_bytesStr {bs : List UInt8} {es : List (List T)} {x : Value} {a : AV} (h : Sim w0 B κ X μ st tm w) (ha : AR w X μ st.sh a x) (he : elemsOf st.hp a = some es) (hb : bytesOf es = some bs) : (Conv.bytesToString x).run P w = .ok (.string ⟨bs.toArray⟩) w := by
  obtain ⟨hw, hlen, hget⟩ := bytesOf_some hb
  obtain ⟨oa, c, vs, rfl, hels, _, hsrc⟩ := src_ok h ha he hw
  have hvals : ∃ ns : List Int, vs.flatten = ns.map (Value.int .u8) ∧ ns.map (fun n => UInt8.ofNat n.toNat) = bs := by
    clear hsrc
    have : ∀ (es : List (List T)) (vs : List (List Value)) (bs : List UInt8), Els w X 1 es vs → es.length = bs.length → (∀ (i : Nat) (e : List T), es[i]? = some e → ∃ n, e = [.v (.int .u8 n)] ∧ bs[i]? = some (UInt8.ofNat n.toNat)) → ∃ ns : List Int, vs.flatten = ns.map (Value.int .u8) ∧ ns.map (fun n => UInt8.ofNat n.toNat) = bs := by
      intro es
      induction es with
      | nil =>
        intro vs bs h1 h2 _
        have : vs = [] := List.eq_nil_of_length_eq_zero h1.1.symm
        subst this
        have : bs = [] := List.eq_nil_of_length_eq_zero h2.symm
        subst this
        exact ⟨[], rfl, rfl⟩
      | cons e es ih =>
        intro vs bs h1 h2 h3
        match vs, bs, h1, h2, h3 with
        | v :: vs, b :: bs, h1, h2, h3 =>
          obtain ⟨n, rfl, hb⟩ := h3 0 e rfl
          simp at hb
          have hv := h1.2.2.2 0 _ v rfl rfl
          obtain ⟨y, ys, rfl, hy, hys⟩ := hv.cons_inv
          have := hys.nil_inv; subst this
          have := hy.v_inv; subst this
          obtain ⟨ns, hn1, hn2⟩ := ih vs bs ⟨by have := h1.1; simpa using this, fun v hv => h1.2.1 v (by simp [hv]), fun e he => h1.2.2.1 e (by simp [he]), fun i e v he hv => h1.2.2.2 (i + 1) e v (by simpa using he) (by simpa using hv)⟩ (by simpa using h2) (fun i e he => by simpa using h3 (i + 1) e (by simpa using he))
          exact ⟨n :: ns, by simp [hn1], by simp [hn2, hb]⟩
        | [], _, h1, _, _ => exact absurd h1.1 (by simp)
        | _ :: _, [], _, h2, _ => exact absurd h2 (by simp)
    exact this es vs bs hels hlen hget
  obtain ⟨ns, hn1, hn2⟩ := hvals
  have hfin : (ns.foldl (fun r n => r.push (UInt8.ofNat n.toNat)) ByteArray.empty) = ⟨bs.toArray⟩ := by
    have := push_fold ns ByteArray.empty
    generalize ns.foldl (fun r n => r.push (UInt8.ofNat n.toNat)) ByteArray.empty = R at this
    cases R with
    | mk d =>
      congr 1
      apply Array.toList_inj.1
      rw [this, hn2]; rfl
  by_cases hne : es = []
  · subst hne
    have hbs : bs = [] := List.eq_nil_of_length_eq_zero hlen.symm
    subst hbs
    cases oa with
    | none => simp [Conv.bytesToString]; rfl
    | some b =>
      simp only [Conv.bytesToString, List.length_nil, loadCells, loadCellsFrom, Sem.run_bind, Sem.run_pure, Result.andThen_ok]
      simp; rfl
  · obtain ⟨b, off, rfl, hcell⟩ := hsrc hne
    have hl := flat_len hels.2.1
    rw [Nat.mul_one, ← hels.1] at hl
    have hload := run_loadCells_list (P := P) w ⟨b, off, none⟩ vs.flatten (fun j v hv => by rw [Addr.add_lit]; exact hcell j v hv)
    rw [hl] at hload
    simp only [Conv.bytesToString, Sem.run_bind, hload, Result.andThen_ok]
    rw [← Array.forIn_toList, forIn_bytes (P := P) _ (fun n r => rfl) vs.flatten ns hn1 ByteArray.empty w, hfin]
    rfl

theorem g_bytesStr {src dst e : TypeId} {x : Operand} {a : AV} {es : List (List T)} {bs : List UInt8} (h : Sim w0 B κ X μ st tm w) (hg : Gl Γ w X) (ho : o.op = .convert src dst x) (kx : okOpd x = true) (hs : slO P src = some e) (hi : intO P e = some .u8) (hd : strO P dst = true)
    (hx : ev Γ st.env x = some a) (he : elemsOf st.hp a = some es) (hb : bytesOf es = some bs) : Good P w0 B κ X o (.t (.v (.string ⟨bs.toArray⟩))) st tm w ds := by
  have hr := ev_ok (ds := ds) h hg hx kx
  have hrun := run_bytesStr (P := P) h hr he hb
  obtain ⟨oa, c, vs, hv, _⟩ := src_ok h hr he (bytesOf_some hb).1
  refine Good.same h (v := .string ⟨bs.toArray⟩) ?_ (.t _ _ (.v _))
  rw [hv] at hrun
  simp only [execOp, ho, hv, convert, Sem.run_bind, run_underlying (slO_some hs), run_underlying (strO_some hd), Result.andThen_ok]
  cases oa with
  | none => simp only [run_underlying (intO_some hi), Sem.run_bind, Result.andThen_ok, hrun, Sem.run_pure]
  | some b => simp only [run_underlying (intO_some hi), Sem.run_bind, Result.andThen_ok, hrun, Sem.run_pure]

end
end Go.Lg

/- THE LOGIC, part 19b: rows of variables, the ranges over strings are sound. Conditions: none. -/
set_option linter.unusedSimpArgs false
set_option linter.unusedVariables false
namespace Go.Lg
open Go
section
variable {P : Program} {Γ : Tables} {w0 : World} {B : Nat} {κ : Loc} {X : Nat → Prop} {μ : Loc} {st : St} {tm : Array Value} {w : World} {ds : List Deferred} {o : Oper}

theorem g_mkB {t ty d : TypeId} {zs : List Value} {l c : Operand} {n m : Int} {k1 k2 : IntKind} (he : ElemOk P t ty 1) (hzo : zeroO P ty = some zs) (hc1 : cellsB zs = true) (h : Sim w0 B κ X μ st tm w) (hg : Gl Γ w X) (ho : o.op = .makeSlice t l c) (kl : okOpd l = true) (kc : okOpd c = true)
    (hl : ev Γ st.env l = some (.t (.v (.int k1 n)))) (hc : ev Γ st.env c = some (.t (.v (.int k2 m)))) (h0 : 0 ≤ n) (hnm : n = m) (hm : m ≤ 2147483648) (hd : look st.hp d = none) (hdb : d < 1000000) :
    Good P w0 B κ X o (.lb d n.toNat) ⟨st.env, (d, .bx (List.replicate n.toNat (.t (constT (zs.headD undef))))) :: st.hp⟩ tm w ds := by
  subst hnm
  obtain ⟨arr, harr, hsz, hzl, hrun⟩ := mk_run (ds := ds) he hzo hc1 h hg ho kl kc hl hc h0 (by omega) hm
  obtain ⟨z, rfl⟩ : ∃ z, zs = [z] := by
    match zs, hzl with
    | [z], _ => exact ⟨z, rfl⟩
  have harr' : arr.toList = List.replicate n.toNat z := by
    rw [harr]; simp [List.flatten_replicate_singleton]
  have hsz' : arr.size = n.toNat := by rw [hsz]; omega
  have hz1 : z.oneCell' = true := by simpa [cellsB] using hc1
  refine Good.region h (arr := arr) (ty := ty) (v := .slice (some ⟨w.heap.size, 0, none⟩) n.toNat n.toNat) w.drawn hd hdb hrun ?_ ?_
  · have hon : onesA (List.replicate n.toNat (AV.t (constT z))) = true := List.all_eq_true.2 fun a ha => by rw [List.eq_of_mem_replicate ha]; exact constT_one hz1
    have := reg_bx (ty := ty) (as := List.replicate n.toNat (AV.t (constT z))) (xs := arr.toList) h w.drawn hd hon ⟨by simp [hsz'], fun k a x ha hx => by
      rw [harr'] at hx
      rw [List.eq_of_mem_replicate (List.mem_of_getElem? ha), List.eq_of_mem_replicate (List.mem_of_getElem? hx)]
      exact .t _ _ (constT_ok z)⟩
    simpa using this
  · have := AR.lb (w := World.alloc { w with drawn := w.drawn } (.cells arr ty)) (X := X) (μ := μ.set d (some (w.heap.size, arr.size))) (sh := St.sh ⟨st.env, (d, .bx (List.replicate n.toNat (.t (constT ([z].headD undef))))) :: st.hp⟩) d w.heap.size n.toNat (by rw [sh_new]; rfl) (by simp only [Loc.set, ↓reduceIte, hsz']) (maxLen_big (by omega))
    exact this

theorem g_iadr_lb {t e : TypeId} {s : Nat} {cs : List AV} {x i : Operand} {id m : Nat} {k : IntKind} {n : Int} (h : Sim w0 B κ X μ st tm w) (hg : Gl Γ w X) (ho : o.op = .indexAddr t x i) (kx : okOpd x = true) (ki : okOpd i = true)
    (hu : slO P t = some e) (hz : szO P e = some s) (hx : ev Γ st.env x = some (.lb id m)) (hl : look st.hp id = some (.bx cs)) (hs1 : s = 1) (hi : ev Γ st.env i = some (.t (.v (.int k n)))) (h0 : 0 ≤ n) (h1 : n < m) :
    Good P w0 B κ X o (.lp id 0 n.toNat) st tm w ds := by
  have hix := (ev_ok (ds := ds) h hg hi ki).t_inv.v_inv
  obtain ⟨g, hs, hm, hle, he⟩ := (ev_ok (ds := ds) h hg hx kx).lb_inv
  subst hs1
  refine Good.same h (v := .pointer (some ⟨g, n.toNat, none⟩)) ?_ (.lpbx id _ g m hs hm)
  have hlt : (0 ≤ n ∧ n < (m : Int)) := ⟨h0, h1⟩
  simp [execOp, ho, he, hix, Instr.indexAt, asIntOf, run_underlying (slO_some hu), hlt, run_size hz, Addr.add_lit, Nat.add_mul]

theorem g_rng {t d : TypeId} {x : Operand} {s : ByteArray} (h : Sim w0 B κ X μ st tm w) (hg : Gl Γ w X) (ho : o.op = .range t x) (kx : okOpd x = true) (hu : strO P t = true) (hx : ev Γ st.env x = some (.t (.v (.string s)))) (hd : look st.hp d = none) (hdb : d < 1000000) :
    Good P w0 B κ X o (.li d) ⟨st.env, (d, .it s 0) :: st.hp⟩ tm w ds := by
  have hxv := (ev_ok (ds := ds) h hg hx kx).t_inv.v_inv
  have hb : RowKit.Below w.heap.size w (w.alloc (.stringIter s 0)) := (RowKit.Below.refl _ _).alloc (Nat.le_refl _) _
  have h2 := h.grow (X' := X) hb (fun _ hx => hx) (fun b hx => .inl hx)
  refine ⟨_, .pointer (some ⟨w.heap.size, 0, none⟩), w.alloc (.stringIter s 0), μ.set d (some (w.heap.size, 0)), X, by simp [execOp, ho, Instr.range, hxv, run_underlying (strO_some hu)], .inl rfl, h2.addReg hd hdb (.it s 0) (some (w.heap.size, 0)) ?_ ?_, ?_, fun _ hx => hx, fun b hx => hb.block b (h.xlt b hx), fun _ hx => .inl hx⟩
  · intro g m e
    cases e
    refine ⟨fun hx => ?_, by simp, fun hlt => absurd h.size (by omega), fun id n' hi hm => ?_⟩
    · have := h.xlt _ hx; omega
    · have := (h.loc id _ _ hi hm).2.1; omega
  · exact ⟨w.heap.size, 0, by simp [Loc.set], heap_alloc_new w _⟩
  · exact .li d w.heap.size 0 (by rw [sh_new]; rfl) (by simp [Loc.set])

theorem g_nxt {x : Operand} {s : ByteArray} {id pos : Nat} (h : Sim w0 B κ X μ st tm w) (hg : Gl Γ w X) (ho : o.op = .next x true) (kx : okOpd x = true) (hx : ev Γ st.env x = some (.li id)) (hl : look st.hp id = some (.it s pos)) :
    (pos < s.size → Good P w0 B κ X o (.t (.tup [.v (.bool true), .v (.int .i64 pos), .v (.int .i32 (Utf8.decode s pos).1)])) ⟨st.env, setR id (.it s (pos + (Utf8.decode s pos).2)) st.hp⟩ tm w ds) ∧
    (¬ pos < s.size → Good P w0 B κ X o (.t (.tup [.v (.bool false)])) st tm w ds) := by
  obtain ⟨g, m, hs, hm, he⟩ := (ev_ok (ds := ds) h hg hx kx).li_inv
  obtain ⟨g', n', hm', hh⟩ := h.reg _ _ hl
  rw [hm] at hm'; cases hm'
  have hglt : g < w.heap.size := (Array.getElem?_eq_some_iff.1 hh).1
  constructor
  · intro hp
    obtain ⟨hsim, hs'⟩ := h.setReg hl (r' := .it s (pos + (Utf8.decode s pos).2)) rfl hm (w' := { w with heap := w.heap.setIfInBounds g (.stringIter s (pos + (Utf8.decode s pos).2)) }) rfl rfl rfl (by simp) (fun j hj => by simp [Array.getElem?_setIfInBounds, Ne.symm hj])
      (fun hs' => ⟨g, m, hm, by simp [hglt]⟩)
    refine ⟨_, .tuple #[.bool true, goInt pos, .int .i32 (Utf8.decode s pos).1], _, μ, X, ?_, .inl rfl, hsim, .t _ _ (TR.mk_tup (TRs.cons (.v _) (TRs.cons (.v _) (TRs.cons (.v _) (TRs.nil _ _))))), fun _ hx => hx, hs', fun _ hx => .inl hx⟩
    simp [execOp, ho, he, Instr.next, getObj, setObj, Sem.run, hh, hp, goInt]
  · intro hp
    refine Good.same h (v := .tuple #[.bool false]) ?_ (.t _ _ (TR.mk_tup (TRs.cons (.v _) (TRs.nil _ _))))
    simp [execOp, ho, he, Instr.next, getObj, Sem.run, hh, hp]

end
end Go.Lg

/- THE LOGIC, part 20: every operation is sound. Conditions: none. -/
set_option linter.unusedSimpArgs false
set_option linter.unusedVariables false
namespace Go.Lg
open Go
section
variable {P : Program} {Γ : Tables} {w0 : World} {B : Nat} {κ : Loc} {X : Nat → Prop} {μ : Loc} {st : St} {tm : Array Value} {w : World} {ds : List Deferred} {o : Oper}

theorem beqO {α : Type} [DecidableEq α] {a : Option α} {b : α} (h : (a == some b) = true) : a = some b := by simpa using h

theorem call_eq {c : Call} {b : Builtin} {ys : List Operand} {ts : List TypeId} (h1 : c.callee = .builtin b) (h2 : c.args.toList = ys) (h3 : c.argTypes.toList = ts) : c = { callee := .builtin b, args := ys.toArray, argTypes := ts.toArray } := by
  cases c with
  | mk cc ca ct => simp at h1 h2 h3; subst h1; subst h2; subst h3; simp

theorem sound_len {k : Nat} {x : Operand} {c : Prop} {r : AV} {st1 : St} {d : Nat} (h : Sim w0 B κ X μ st tm w) (hg : Gl Γ w X) (hchk : chk P (.len k x) o.op = true) (hk : okOpd x = true) (hs : sem Γ d (.len k x) st = some (c, r, st1)) (hc : c) : Good P w0 B κ X o r st1 tm w ds := by
  generalize hop : o.op = op at hchk
  simp only [chk] at hchk
  split at hchk
  case h_2 => cases hchk
  split at hchk
  case h_2 => cases hchk
  rename_i cc _ _ _ y t e1 e2 e3
  simp only [Bool.and_eq_true] at hchk
  have := opdB_eq hchk.1; subst this
  have he := call_eq e1 e2 e3
  subst he
  simp only [sem, Option.bind_eq_some_iff] at hs
  obtain ⟨a, ha, hs⟩ := hs
  split at hs
  case isFalse => cases hs
  rename_i hlk
  simp only [Option.map_eq_some_iff, Prod.mk.injEq] at hs
  obtain ⟨n, hn, _, rfl, rfl⟩ := hs
  refine g_len h hg hop hk ha ?_ hn
  have h2 := hchk.2
  unfold lenK at hlk
  split at hlk
  · simp only [Option.isSome_iff_exists] at h2
    obtain ⟨e, he⟩ := h2
    rw [slO_some he]; rfl
  · simp only [Option.isSome_iff_exists] at h2
    obtain ⟨e, he⟩ := h2
    rw [slO_some he]; rfl
  · simp only [Option.isSome_iff_exists] at h2
    obtain ⟨e, he⟩ := h2
    rw [slO_some he]; rfl
  · rw [strO_some h2]; rfl
  · simp only [Option.isSome_iff_exists] at h2
    obtain ⟨e, he⟩ := h2
    rw [mapO_some (k := e.1) (e := e.2) he]; rfl
  · simp only [Option.isSome_iff_exists] at h2
    obtain ⟨e, he⟩ := h2
    rw [mapO_some (k := e.1) (e := e.2) he]; rfl
  · cases hlk

set_option maxHeartbeats 1000000 in
theorem sem_sound0 {io : IOp} {d : Nat} {c : Prop} {r : AV} {st1 : St} (hnt : ∀ ty s b x, io ≠ .appT ty s b x) (hns : ∀ id n a x, io ≠ .stR id n a x) (hnl : ∀ id n g a, io ≠ .ldR id n g a) (hn4 : ∀ n g a, io ≠ .ldT n g a) (hn5 : ∀ kt zv ok m k, io ≠ .lkT kt zv ok m k) (h : Sim w0 B κ X μ st tm w) (hg : Gl Γ w X) (hchk : chk P io o.op = true) (hok : io.opds.all okOpd = true) (hd : d < 1000000) (hs : sem Γ d io st = some (c, r, st1)) (hc : c) : Good P w0 B κ X o r st1 tm w ds := by
  cases io with
  | mv x =>
    have hk : okOpd x = true := by simpa [IOp.opds] using hok
    generalize hop : o.op = op at hchk
    simp only [sem, Option.map_eq_some_iff, Prod.mk.injEq] at hs
    obtain ⟨a, ha, _, rfl, rfl⟩ := hs
    simp only [chk] at hchk
    split at hchk
    · have := opdB_eq hchk; subst this
      exact g_mv h hg (.inl hop) ha hk
    · have := opdB_eq hchk; subst this
      exact g_mv h hg (.inr hop) ha hk
    · cases hchk
  | pick c1 a b =>
    generalize hop : o.op = op at hchk
    simp only [chk] at hchk
    split at hchk
    case h_2 => cases hchk
    simp only [Bool.and_eq_true] at hchk
    obtain ⟨⟨h1, h2⟩, h3⟩ := hchk
    have := opdB_eq h1; subst this
    have := opdB_eq h2; subst this
    have := opdB_eq h3; subst this
    simp only [IOp.opds, List.all_cons, Bool.and_eq_true] at hok
    simp only [sem] at hs
    split at hs
    · rename_i p va vb e1 e2 e3
      simp only [Option.some.injEq, Prod.mk.injEq] at hs
      obtain ⟨_, rfl, rfl⟩ := hs
      exact g_pick h hg hop e1 e2 e3 hok.1 hok.2.1 hok.2.2.1
    · cases hs
  | alloc fz zs =>
    generalize hop : o.op = op at hchk
    simp only [chk] at hchk
    split at hchk
    case h_2 => cases hchk
    simp only [Bool.and_eq_true] at hchk
    obtain ⟨h1, h2⟩ := hchk
    rename_i t
    have hz : zeroO P t = some zs := by
      split at h1
      · rename_i z hz; rw [hz, vals1B_eq h1]
      · cases h1
    simp only [sem] at hs
    split at hs <;> simp only [Option.some.injEq, Prod.mk.injEq] at hs <;> obtain ⟨rfl, rfl, rfl⟩ := hs
    · exact g_alloc_fz h hop hz h2
    · exact g_alloc h hop hz h2 hc hd
  | box fz x =>
    have hk : okOpd x = true := by simpa [IOp.opds] using hok
    generalize hop : o.op = op at hchk
    simp only [chk] at hchk
    split at hchk
    case h_2 => cases hchk
    have := opdB_eq hchk; subst this
    simp only [sem, Option.bind_eq_some_iff] at hs
    obtain ⟨a, ha, hs⟩ := hs
    split at hs
    · simp only [Option.map_eq_some_iff, Prod.mk.injEq] at hs
      obtain ⟨ts, hts, rfl, rfl, rfl⟩ := hs
      exact g_box_fz h hg hop hk ha hts hc
    · simp only [Option.some.injEq, Prod.mk.injEq] at hs
      obtain ⟨rfl, rfl, rfl⟩ := hs
      exact g_box h hg hop hk ha hc.2 hc.1 hd
  | build qs =>
    generalize hop : o.op = op at hchk
    simp only [chk] at hchk
    split at hchk
    case h_2 => cases hchk
    split at hchk
    · rename_i fs zs hf hz
      simp only [sem, Option.map_eq_some_iff, Prod.mk.injEq] at hs
      obtain ⟨as, ha, rfl, rfl, rfl⟩ := hs
      exact g_build h hg hop hok hf hz hchk ha hc.1 hc.2
    · cases hchk
  | bsl fz ty s xs =>
    generalize hop : o.op = op at hchk
    simp only [chk] at hchk
    split at hchk
    case h_2 => cases hchk
    rename_i t n ps
    simp only [Bool.and_eq_true, decide_eq_true_eq] at hchk
    obtain ⟨⟨⟨⟨⟨⟨⟨h1, h2⟩, h3⟩, h4⟩, h5⟩, h6⟩, h7⟩, h8⟩ := hchk
    have h4 : n = xs.length := by simpa using h4
    obtain ⟨zs, hz, hzl⟩ : ∃ zs, zeroO P ty = some zs ∧ zs.length = s := by
      split at h8
      · rename_i z hz; exact ⟨z, hz, by simpa using h8⟩
      · cases h8
    simp only [sem, Option.bind_eq_some_iff, Option.map_eq_some_iff] at hs
    obtain ⟨as, ha, es, hes, hs⟩ := hs
    split at hs <;> simp only [Prod.mk.injEq] at hs <;> obtain ⟨rfl, rfl, rfl⟩ := hs
    · exact g_bsl_fz h hg hop hok (beqO h1) (beqO h2) h4 h5 hz hzl h3 h7 ha hes hc
    · exact g_bsl h hg hop hok (beqO h1) (beqO h2) h4 h5 hz hzl h3 h7 ha hes hc.2 hc.1 hd
  | load n g a =>
    have hk : okOpd a = true := by simpa [IOp.opds] using hok
    generalize hop : o.op = op at hchk
    simp only [chk] at hchk
    split at hchk
    case h_2 => cases hchk
    simp only [Bool.and_eq_true] at hchk
    obtain ⟨⟨⟨h1, h2⟩, h3⟩, h4⟩ := hchk
    have := opdB_eq h1; subst this
    simp only [sem] at hs
    split at hs
    · rename_i cs k e1
      simp only [Option.some.injEq, Prod.mk.injEq] at hs
      obtain ⟨rfl, rfl, rfl⟩ := hs
      exact g_load_ip h hg hop e1 hk (beqO h2) (beqO h3) h4 hc
    · rename_i id i k e1
      split at hs
      · rename_i ty s es hl
        simp only [Option.some.injEq, Prod.mk.injEq] at hs
        obtain ⟨rfl, rfl, rfl⟩ := hs
        exact g_load_sl h hg hop e1 hk (beqO h2) (beqO h3) h4 hl hc.1 hc.2
      · rename_i cs hl
        simp only [Option.some.injEq, Prod.mk.injEq] at hs
        obtain ⟨rfl, rfl, rfl⟩ := hs
        exact g_load_bx h hg hop e1 hk (beqO h2) (beqO h3) h4 hl hc.2
      · cases hs
    · cases hs
  | store n a x =>
    generalize hop : o.op = op at hchk
    simp only [chk] at hchk
    split at hchk
    case h_2 => cases hchk
    simp only [Bool.and_eq_true] at hchk
    obtain ⟨⟨h1, h2⟩, h3⟩ := hchk
    have := opdB_eq h1; subst this
    have := opdB_eq h2; subst this
    simp only [IOp.opds, List.all_cons, Bool.and_eq_true] at hok
    simp only [sem, Option.bind_eq_some_iff] at hs
    obtain ⟨v, hv, hs⟩ := hs
    split at hs
    · rename_i id i k e1
      split at hs
      · rename_i ty s es hl
        simp only [Option.map_eq_some_iff, Prod.mk.injEq] at hs
        obtain ⟨ts, hts, rfl, rfl, rfl⟩ := hs
        obtain ⟨c1, c2, c3, c4⟩ := hc
        exact g_store_sl h hg hop hok.1 hok.2.1 (beqO h3) e1 hv hl c1 c2 hts c3 c4
      · rename_i cs hl
        simp only [Option.some.injEq, Prod.mk.injEq] at hs
        obtain ⟨rfl, rfl, rfl⟩ := hs
        obtain ⟨rfl, c2, c3, c4⟩ := hc
        exact g_store_bx h hg hop hok.1 hok.2.1 (beqO h3) e1 hv hl c2 c3 c4 (.inr trivial)
      · cases hs
    · cases hs
  | fadr off a =>
    have hk : okOpd a = true := by simpa [IOp.opds] using hok
    generalize hop : o.op = op at hchk
    simp only [chk] at hchk
    split at hchk
    case h_2 => cases hchk
    simp only [Bool.and_eq_true] at hchk
    obtain ⟨h1, h2⟩ := hchk
    have := opdB_eq h1; subst this
    split at h2
    case h_2 => cases h2
    rename_i fs hu
    split at h2
    case h_2 => cases h2
    rename_i f hf
    simp only [Bool.and_eq_true, beq_iff_eq] at h2
    obtain ⟨h3, h4⟩ := h2
    obtain ⟨s, hz, hp⟩ : ∃ s, szO P f.type = some s ∧ 0 < s := by
      split at h4
      · rename_i s hz; exact ⟨s, hz, by simpa using h4⟩
      · cases h4
    simp only [sem] at hs
    split at hs
    · rename_i cs k e1
      simp only [Option.some.injEq, Prod.mk.injEq] at hs
      obtain ⟨_, rfl, rfl⟩ := hs
      exact g_fadr h hg hop hk hu hf h3 hz hp e1
    · rename_i id j k e1
      simp only [Option.some.injEq, Prod.mk.injEq] at hs
      obtain ⟨_, rfl, rfl⟩ := hs
      exact g_fadr_lp h hg hop hk hu hf h3 hz hp e1
    · cases hs
  | fld off n g x =>
    have hk : okOpd x = true := by simpa [IOp.opds] using hok
    generalize hop : o.op = op at hchk
    simp only [chk] at hchk
    split at hchk
    case h_2 => cases hchk
    simp only [Bool.and_eq_true] at hchk
    obtain ⟨h1, h2⟩ := hchk
    have := opdB_eq h1; subst this
    split at h2
    case h_2 => cases h2
    rename_i fs hu
    split at h2
    case h_2 => cases h2
    rename_i f hf
    simp only [Bool.and_eq_true] at h2
    obtain ⟨⟨⟨h3, h4⟩, h5⟩, h6⟩ := h2
    simp only [sem, Option.bind_eq_some_iff] at hs
    obtain ⟨a, ha, hs⟩ := hs
    split at hs
    · simp only [Option.some.injEq, Prod.mk.injEq] at hs
      obtain ⟨rfl, rfl, rfl⟩ := hs
      exact g_fld_ag h hg hop hk hu hf (by simpa using h3) (beqO h4) (beqO h5) h6 ha hc
    · simp only [Option.some.injEq, Prod.mk.injEq] at hs
      obtain ⟨rfl, rfl, rfl⟩ := hs
      exact g_fld_t h hg hop hk hu hf (by simpa using h3) (beqO h4) (beqO h5) h6 ha hc
    · cases hs
  | iadr s x i =>
    generalize hop : o.op = op at hchk
    simp only [chk] at hchk
    split at hchk
    case h_2 => cases hchk
    simp only [Bool.and_eq_true] at hchk
    obtain ⟨⟨h1, h2⟩, h3⟩ := hchk
    have := opdB_eq h1; subst this
    have := opdB_eq h2; subst this
    simp only [IOp.opds, List.all_cons, Bool.and_eq_true] at hok
    split at h3
    case h_2 => cases h3
    rename_i e he
    simp only [sem] at hs
    split at hs
    · rename_i es cap nl k n e1 e2
      simp only [Option.some.injEq, Prod.mk.injEq] at hs
      obtain ⟨rfl, rfl, rfl⟩ := hs
      exact g_iadr h hg hop hok.1 hok.2.1 he (beqO h3) e1 e2 hc.1 hc.2.1 hc.2.2
    · rename_i id off len cap k n e1 e2
      split at hs
      · rename_i ty q es hl
        simp only [Option.some.injEq, Prod.mk.injEq] at hs
        obtain ⟨rfl, rfl, rfl⟩ := hs
        exact g_iadr_ls h hg hop hok.1 hok.2.1 he (beqO h3) e1 hl hc.1 e2 hc.2.1 hc.2.2
      · cases hs
    · rename_i id m k n e1 e2
      split at hs
      · rename_i cs hl
        simp only [Option.some.injEq, Prod.mk.injEq] at hs
        obtain ⟨rfl, rfl, rfl⟩ := hs
        exact g_iadr_lb h hg hop hok.1 hok.2.1 he (beqO h3) e1 hl hc.1 e2 hc.2.1 hc.2.2
      · cases hs
    · cases hs
  | iadrA len s x i =>
    generalize hop : o.op = op at hchk
    simp only [chk] at hchk
    split at hchk
    case h_2 => cases hchk
    simp only [Bool.and_eq_true] at hchk
    obtain ⟨⟨h1, h2⟩, h3⟩ := hchk
    have := opdB_eq h1; subst this
    have := opdB_eq h2; subst this
    simp only [IOp.opds, List.all_cons, Bool.and_eq_true] at hok
    split at h3
    case h_2 => cases h3
    rename_i n e he
    simp only [Bool.and_eq_true] at h3
    obtain ⟨h4, h3⟩ := h3
    have : n = len := by simpa using h4
    subst this
    simp only [sem] at hs
    split at hs
    · rename_i cs k kk n e1 e2
      simp only [Option.some.injEq, Prod.mk.injEq] at hs
      obtain ⟨rfl, rfl, rfl⟩ := hs
      exact g_iadrA_ip h hg hop hok.1 hok.2.1 he (beqO h3) e1 e2 hc.1 hc.2
    · rename_i id jj k kk n e1 e2
      simp only [Option.some.injEq, Prod.mk.injEq] at hs
      obtain ⟨rfl, rfl, rfl⟩ := hs
      exact g_iadrA_lp h hg hop hok.1 hok.2.1 he (beqO h3) e1 e2 hc.1 hc.2
    · cases hs
  | idxS x i =>
    generalize hop : o.op = op at hchk
    simp only [chk] at hchk
    split at hchk
    case h_2 => cases hchk
    simp only [Bool.and_eq_true] at hchk
    obtain ⟨⟨h1, h2⟩, h3⟩ := hchk
    have := opdB_eq h1; subst this
    have := opdB_eq h2; subst this
    simp only [IOp.opds, List.all_cons, Bool.and_eq_true] at hok
    simp only [sem] at hs
    split at hs
    · rename_i s k n e1 e2
      simp only [Option.some.injEq, Prod.mk.injEq] at hs
      obtain ⟨rfl, rfl, rfl⟩ := hs
      exact g_idxS h hg hop hok.1 hok.2.1 h3 e1 e2 hc.1 hc.2
    · cases hs
  | idxA len s g x i =>
    generalize hop : o.op = op at hchk
    simp only [chk] at hchk
    split at hchk
    case h_2 => cases hchk
    simp only [Bool.and_eq_true] at hchk
    obtain ⟨⟨h1, h2⟩, h3⟩ := hchk
    have := opdB_eq h1; subst this
    have := opdB_eq h2; subst this
    simp only [IOp.opds, List.all_cons, Bool.and_eq_true] at hok
    split at h3
    case h_2 => cases h3
    rename_i n e he
    simp only [Bool.and_eq_true] at h3
    obtain ⟨⟨⟨h4, h5⟩, h6⟩, h7⟩ := h3
    have : n = len := by simpa using h4
    subst this
    simp only [sem] at hs
    split at hs
    · rename_i ts k nn e1 e2
      simp only [Option.some.injEq, Prod.mk.injEq] at hs
      obtain ⟨rfl, rfl, rfl⟩ := hs
      exact g_idxA_t h hg hop hok.1 hok.2.1 he (beqO h5) (beqO h6) h7 e1 e2 hc.1 hc.2.1 hc.2.2
    · rename_i cs k nn e1 e2
      simp only [Option.some.injEq, Prod.mk.injEq] at hs
      obtain ⟨rfl, rfl, rfl⟩ := hs
      exact g_idxA_ag h hg hop hok.1 hok.2.1 he (beqO h5) (beqO h6) h7 e1 e2 hc.1 hc.2.1 hc.2.2
    · cases hs
  | bin op x y =>
    generalize hop : o.op = op' at hchk
    simp only [chk] at hchk
    split at hchk
    case h_2 => cases hchk
    simp only [Bool.and_eq_true, decide_eq_true_eq] at hchk
    obtain ⟨⟨rfl, h1⟩, h2⟩ := hchk
    have := opdB_eq h1; subst this
    have := opdB_eq h2; subst this
    simp only [IOp.opds, List.all_cons, Bool.and_eq_true] at hok
    simp only [sem] at hs
    split at hs
    · rename_i a b e1 e2
      simp only [Option.map_eq_some_iff, Prod.mk.injEq] at hs
      obtain ⟨⟨c', r'⟩, hb, rfl, rfl, rfl⟩ := hs
      exact g_bin h hg hop e1 e2 hok.1 hok.2.1 hb hc
    · cases hs
  | isNil pos x =>
    have hk : okOpd x = true := by simpa [IOp.opds] using hok
    generalize hop : o.op = op' at hchk
    simp only [chk] at hchk
    split at hchk
    case h_2 => cases hchk
    simp only [Bool.and_eq_true, decide_eq_true_eq, Bool.or_eq_true, Option.isSome_iff_exists] at hchk
    obtain ⟨⟨rfl, e, he⟩, hpq⟩ := hchk
    rename_i t p q u
    have hpq' : (p = x ∧ q = .const (.slice none 0 0)) ∨ (q = x ∧ p = .const (.slice none 0 0)) := by
      rcases hpq with ⟨h1, h2⟩ | ⟨h1, h2⟩
      · exact .inl ⟨(opdB_eq h1).symm, (opdB_eq h2).symm⟩
      · exact .inr ⟨(opdB_eq h1).symm, (opdB_eq h2).symm⟩
    simp only [sem] at hs
    split at hs
    · rename_i es cap nl e1
      split at hs
      · rename_i b
        simp only [Option.some.injEq, Prod.mk.injEq] at hs
        obtain ⟨_, rfl, rfl⟩ := hs
        exact g_isNil h hg hop hpq' hk he e1 (.inl ⟨b, rfl, rfl⟩)
      · simp only [Option.some.injEq, Prod.mk.injEq] at hs
        obtain ⟨rfl, rfl, rfl⟩ := hs
        exact g_isNil h hg hop hpq' hk he e1 (.inr ⟨hc, rfl⟩)
    · cases hs
  | eqb pos x y =>
    generalize hop : o.op = op' at hchk
    simp only [chk] at hchk
    split at hchk
    case h_2 => cases hchk
    simp only [Bool.and_eq_true, decide_eq_true_eq] at hchk
    obtain ⟨⟨⟨rfl, h0⟩, h1⟩, h2⟩ := hchk
    have := opdB_eq h1; subst this
    have := opdB_eq h2; subst this
    simp only [IOp.opds, List.all_cons, Bool.and_eq_true] at hok
    split at h0
    case h_2 => cases h0
    rename_i hu
    simp only [sem] at hs
    split at hs
    · rename_i a b e1 e2
      simp only [Option.some.injEq, Prod.mk.injEq] at hs
      obtain ⟨_, rfl, rfl⟩ := hs
      exact g_eqb h hg hop hu hok.1 hok.2.1 e1 e2
    · cases hs
  | un op x =>
    have hk : okOpd x = true := by simpa [IOp.opds] using hok
    generalize hop : o.op = op' at hchk
    simp only [chk] at hchk
    split at hchk
    case h_2 => cases hchk
    simp only [Bool.and_eq_true, decide_eq_true_eq] at hchk
    obtain ⟨rfl, h1⟩ := hchk
    have := opdB_eq h1; subst this
    simp only [sem] at hs
    split at hs
    · rename_i a e1
      simp only [Option.map_eq_some_iff, Prod.mk.injEq] at hs
      obtain ⟨r', hb, _, rfl, rfl⟩ := hs
      exact g_un h hg hop e1 hk hb
    · cases hs
  | conv k x =>
    have hk : okOpd x = true := by simpa [IOp.opds] using hok
    generalize hop : o.op = op' at hchk
    simp only [chk] at hchk
    split at hchk
    case h_2 => cases hchk
    simp only [Bool.and_eq_true] at hchk
    obtain ⟨⟨h1, h2⟩, h3⟩ := hchk
    have := opdB_eq h1; subst this
    simp only [sem] at hs
    split at hs
    · rename_i k' n e1
      simp only [Option.some.injEq, Prod.mk.injEq] at hs
      obtain ⟨_, rfl, rfl⟩ := hs
      exact g_conv h hg hop e1 hk h2 (beqO h3)
    · cases hs
  | bytesStr x =>
    have hk : okOpd x = true := by simpa [IOp.opds] using hok
    generalize hop : o.op = op' at hchk
    simp only [chk] at hchk
    split at hchk
    case h_2 => cases hchk
    simp only [Bool.and_eq_true] at hchk
    obtain ⟨⟨h1, h2⟩, h3⟩ := hchk
    have := opdB_eq h1; subst this
    split at h2
    case h_2 => cases h2
    rename_i e he
    simp only [sem, Option.bind_eq_some_iff, Option.map_eq_some_iff, Prod.mk.injEq] at hs
    obtain ⟨es, ⟨a, ha, hes⟩, bs, hb, _, rfl, rfl⟩ := hs
    exact g_bytesStr h hg hop hk he (beqO h2) h3 ha hes hb
  | runeStr x =>
    have hk : okOpd x = true := by simpa [IOp.opds] using hok
    generalize hop : o.op = op' at hchk
    simp only [chk] at hchk
    split at hchk
    case h_2 => cases hchk
    simp only [Bool.and_eq_true, Option.isSome_iff_exists] at hchk
    obtain ⟨⟨h1, k, h2⟩, h3⟩ := hchk
    have := opdB_eq h1; subst this
    simp only [sem] at hs
    split at hs
    · rename_i k' n e1
      simp only [Option.some.injEq, Prod.mk.injEq] at hs
      obtain ⟨_, rfl, rfl⟩ := hs
      exact g_rune h hg hop e1 hk h2 h3
    · cases hs
  | len k x => exact sound_len h hg hchk (by simpa [IOp.opds] using hok) hs hc
  | cap x =>
    have hk : okOpd x = true := by simpa [IOp.opds] using hok
    generalize hop : o.op = op' at hchk
    simp only [chk] at hchk
    split at hchk
    case h_2 => cases hchk
    split at hchk
    case h_2 => cases hchk
    rename_i cc _ _ _ y t e1 e2 e3
    simp only [Bool.and_eq_true, Option.isSome_iff_exists] at hchk
    obtain ⟨h1, e, he⟩ := hchk
    have := opdB_eq h1; subst this
    have hce := call_eq e1 e2 e3
    subst hce
    simp only [sem] at hs
    split at hs
    · rename_i es cc nl e4
      simp only [Option.some.injEq, Prod.mk.injEq] at hs
      obtain ⟨_, rfl, rfl⟩ := hs
      exact g_cap h hg hop hk he e4 (.inl ⟨es, nl, rfl⟩)
    · rename_i id off len cc e4
      simp only [Option.some.injEq, Prod.mk.injEq] at hs
      obtain ⟨_, rfl, rfl⟩ := hs
      exact g_cap h hg hop hk he e4 (.inr ⟨id, off, len, rfl⟩)
    · cases hs
  | mmx mx xs =>
    generalize hop : o.op = op' at hchk
    simp only [chk] at hchk
    split at hchk
    case h_2 => cases hchk
    rename_i cc
    simp only [sem, Option.bind_eq_some_iff, Option.map_eq_some_iff, Prod.mk.injEq] at hs
    obtain ⟨as, ha, r', hr, rfl, rfl, rfl⟩ := hs
    split at hchk
    · rename_i e1
      simp only [Bool.and_eq_true] at hchk
      obtain ⟨rfl, h1⟩ := hchk
      have := opdsB_eq h1; subst this
      have hce := call_eq (ts := cc.argTypes.toList) e1 rfl rfl
      rw [hce] at hop
      exact g_max h hg hop hok ha hr hc
    · rename_i e1
      simp only [Bool.and_eq_true, Bool.not_eq_true'] at hchk
      obtain ⟨rfl, h1⟩ := hchk
      have := opdsB_eq h1; subst this
      have hce := call_eq (ts := cc.argTypes.toList) e1 rfl rfl
      rw [hce] at hop
      exact g_min h hg hop hok ha hr hc
    · cases hchk
  | app fz ty s b x =>
    generalize hop : o.op = op' at hchk
    simp only [chk] at hchk
    split at hchk
    case h_2 => cases hchk
    split at hchk
    case h_2 => cases hchk
    rename_i cc _ _ _ b' x' t t' e1 e2 e3
    simp only [Bool.and_eq_true, decide_eq_true_eq] at hchk
    obtain ⟨⟨⟨⟨⟨⟨⟨h1, h2⟩, h3⟩, h4⟩, h5⟩, h6⟩, h7⟩, h8⟩ := hchk
    have := opdB_eq h1; subst this
    have := opdB_eq h2; subst this
    have : t = t' := by simpa using h3
    subst this
    have hce := call_eq e1 e2 e3
    subst hce
    have hel : ElemOk P t ty s := by
      refine ⟨beqO h4, beqO h5, h6, ?_, ?_⟩
      · split at h7
        · rename_i z hz; exact ⟨z, hz, by simpa using h7⟩
        · cases h7
      · split at h8
        · rename_i n hn; exact ⟨n, hn, by simpa using h8⟩
        · cases h8
    simp only [IOp.opds, List.all_cons, Bool.and_eq_true] at hok
    simp only [sem, Option.bind_eq_some_iff] at hs
    obtain ⟨news, ⟨ax, hax, hnews⟩, a, ha, hs⟩ := hs
    split at hs
    · rename_i es c1 nl
      split at hs <;> simp only [Option.some.injEq, Prod.mk.injEq] at hs <;> obtain ⟨rfl, rfl, rfl⟩ := hs
      · rename_i hfz
        obtain ⟨cw, cw2, cc, cb, cz⟩ := hc
        exact (g_app_sl (d := d) hel h hg hop hok.1 hok.2.1 hax hnews cw ha cw2 cc cb cz).1 hfz
      · rename_i hfz
        obtain ⟨⟨cw, cw2, cc, cb, cz⟩, cd⟩ := hc
        exact (g_app_sl (d := d) hel h hg hop hok.1 hok.2.1 hax hnews cw ha cw2 cc cb cz).2 (by simpa using hfz) cd hd
    · rename_i id off len c1
      split at hs
      case h_2 => cases hs
      rename_i ty2 q es hl
      split at hs <;> simp only [Option.some.injEq, Prod.mk.injEq] at hs <;> obtain ⟨rfl, rfl, rfl⟩ := hs
      · obtain ⟨cw, rfl, rfl, cc, cb, cz⟩ := hc
        exact (g_app_lsx (d := d) hel h hg hop hok.1 hok.2.1 hax hnews cw ha hl cc cb cz).1
      · obtain ⟨⟨cw, rfl, rfl, cc, cb, cz⟩, cd⟩ := hc
        exact (g_app_lsx (d := d) hel h hg hop hok.1 hok.2.1 hax hnews cw ha hl cc cb cz).2 cd hd
    · rename_i id len
      split at hs
      case h_2 => cases hs
      rename_i ty2 q es hl
      split at hs <;> simp only [Option.some.injEq, Prod.mk.injEq] at hs <;> obtain ⟨rfl, rfl, rfl⟩ := hs
      · obtain ⟨cw, rfl, rfl, cb⟩ := hc
        exact (g_app_ls (d := d) hel h hg hop hok.1 hok.2.1 hax hnews cw ha hl cb).1
      · obtain ⟨⟨cw, rfl, rfl, cb⟩, cd⟩ := hc
        exact (g_app_ls (d := d) hel h hg hop hok.1 hok.2.1 hax hnews cw ha hl cb).2 cd hd
    · cases hs
  | slice s x lo hi mx =>
    generalize hop : o.op = op' at hchk
    simp only [chk] at hchk
    split at hchk
    case h_2 => cases hchk
    rename_i t x' lo' hi' mx'
    simp only [Bool.and_eq_true] at hchk
    obtain ⟨⟨⟨⟨⟨h1, h2⟩, h3⟩, h4⟩, h5⟩, h6⟩ := hchk
    have := opdB_eq h1; subst this
    have := opdOB_eq h2; subst this
    have := opdOB_eq h3; subst this
    have := opdOB_eq h4; subst this
    simp only [IOp.opds, List.all_append, Bool.and_eq_true] at hok
    obtain ⟨⟨⟨k1, k2⟩, k3⟩, k4⟩ := hok
    have k1 : okOpd x = true := by simpa using k1
    simp only [sem, Option.bind_eq_some_iff] at hs
    obtain ⟨a, ha, hs⟩ := hs
    split at hs
    · -- a string
      rename_i b
      simp only [Option.bind_eq_some_iff, Option.map_eq_some_iff, Prod.mk.injEq] at hs
      obtain ⟨l, hl, hh, hhh, rfl, rfl, rfl⟩ := hs
      obtain ⟨rfl, c1, c2, c3, c4⟩ := hc
      simp only [beq_self_eq_true, ↓reduceIte, Bool.and_eq_true, Option.isNone_iff_eq_none] at h6
      obtain ⟨hst, rfl⟩ := h6
      exact g_slice_str h hg hop k1 hst ha (numO_ok h hg hl c1 k2) (numO_ok h hg hhh c2 k3) c3 c4
    · -- an immutable slice
      rename_i es cap nl
      simp only [Option.bind_eq_some_iff] at hs
      obtain ⟨l, hl, hh, hhh, hs⟩ := hs
      split at hs
      · simp only [Option.some.injEq, Prod.mk.injEq] at hs
        obtain ⟨rfl, rfl, rfl⟩ := hs
        obtain ⟨c0, cw, c1, c2, c3, c4⟩ := hc
        have hs0 : (s == 0) = false := by simpa using c0
        simp only [hs0, Bool.false_eq_true, ↓reduceIte] at h6
        split at h6
        case h_2 => cases h6
        rename_i e he
        exact g_slice_sl h hg hop k1 he (beqO h6) ha cw (numO_ok h hg hl c1 k2) (numO_ok h hg hhh c2 k3) c3 c4
      · rename_i m0
        simp only [Option.map_eq_some_iff, Prod.mk.injEq] at hs
        obtain ⟨m, hm, rfl, rfl, rfl⟩ := hs
        obtain ⟨c0, cw, c1, c2, c2', c3, c4, c5⟩ := hc
        have hs0 : (s == 0) = false := by simpa using c0
        simp only [hs0, Bool.false_eq_true, ↓reduceIte] at h6
        split at h6
        case h_2 => cases h6
        rename_i e he
        have hhi : hi.isSome = true := by simpa using h5
        obtain ⟨hi, rfl⟩ := Option.isSome_iff_exists.1 hhi
        exact g_slice_sl3 h hg hop k1 he (beqO h6) ha cw (numO_ok h hg hl c1 k2) (numO_ok h hg hhh c2 k3) (numO_ok h hg hm c2' k4) c3 c4 c5
    · -- a part of a region
      rename_i id off len cap
      simp only [Option.bind_eq_some_iff] at hs
      obtain ⟨l, hl, hh, hhh, hs⟩ := hs
      split at hs
      case h_2 => cases hs
      rename_i ty q es hlk
      split at hs
      · simp only [Option.some.injEq, Prod.mk.injEq] at hs
        obtain ⟨rfl, rfl, rfl⟩ := hs
        obtain ⟨c0, cq, c1, c2, c3, c4⟩ := hc
        have hs0 : (s == 0) = false := by simpa using c0
        simp only [hs0, Bool.false_eq_true, ↓reduceIte] at h6
        split at h6
        case h_2 => cases h6
        rename_i e he
        exact g_slice_ls h hg hop k1 he (beqO h6) ha hlk cq (numO_ok h hg hl c1 k2) (numO_ok h hg hhh c2 k3) c3 c4
      · rename_i m0
        simp only [Option.map_eq_some_iff, Prod.mk.injEq] at hs
        obtain ⟨m, hm, rfl, rfl, rfl⟩ := hs
        obtain ⟨c0, cq, c1, c2, c2', c3, c4, c5⟩ := hc
        have hs0 : (s == 0) = false := by simpa using c0
        simp only [hs0, Bool.false_eq_true, ↓reduceIte] at h6
        split at h6
        case h_2 => cases h6
        rename_i e he
        have hhi : hi.isSome = true := by simpa using h5
        obtain ⟨hi, rfl⟩ := Option.isSome_iff_exists.1 hhi
        exact g_slice_ls3 h hg hop k1 he (beqO h6) ha hlk cq (numO_ok h hg hl c1 k2) (numO_ok h hg hhh c2 k3) (numO_ok h hg hm c2' k4) c3 c4 c5
    · cases hs
  | mk ty s zs l c1 =>
    generalize hop : o.op = op' at hchk
    simp only [chk] at hchk
    split at hchk
    case h_2 => cases hchk
    rename_i t l' c'
    simp only [Bool.and_eq_true, decide_eq_true_eq] at hchk
    obtain ⟨⟨⟨⟨⟨⟨⟨h1, h2⟩, h3⟩, h4⟩, h5⟩, h6⟩, h7⟩, h8⟩ := hchk
    have := opdB_eq h1; subst this
    have := opdB_eq h2; subst this
    simp only [IOp.opds, List.all_cons, Bool.and_eq_true] at hok
    obtain ⟨hz, hzl⟩ : zeroO P ty = some zs ∧ zs.length = s := by
      split at h6
      · rename_i z hz
        simp only [Bool.and_eq_true] at h6
        have := vals1B_eq h6.1; subst this
        exact ⟨hz, by simpa using h6.2⟩
      · cases h6
    have hel : ElemOk P t ty s := by
      refine ⟨beqO h3, beqO h4, h5, ⟨zs, hz, hzl⟩, ?_⟩
      split at h8
      · rename_i n hn; exact ⟨n, hn, by simpa using h8⟩
      · cases h8
    simp only [sem] at hs
    split at hs
    · rename_i k n k2 m e1 e2
      simp only [Option.some.injEq, Prod.mk.injEq] at hs
      obtain ⟨rfl, rfl, rfl⟩ := hs
      exact g_mk hel hz h7 h hg hop hok.1 hok.2.1 e1 e2 hc.2.1 hc.2.2.1 hc.2.2.2 hc.1 hd
    · cases hs
  | mkf f xs =>
    generalize hop : o.op = op' at hchk
    simp only [chk] at hchk
    split at hchk
    case h_2 => cases hchk
    rename_i f' first caps
    simp only [Bool.and_eq_true] at hchk
    obtain ⟨⟨h1, h2⟩, h3⟩ := hchk
    have : f = f' := by simpa using h1
    subst this
    have hf : first = #[] := by simpa using h2
    subst hf
    have := opdsB_eq h3; subst this
    simp only [sem, Option.map_eq_some_iff, Prod.mk.injEq] at hs
    obtain ⟨as, ha, _, rfl, rfl⟩ := hs
    exact g_mkf h hg (by rw [hop]; simp [IOp.opds]) hok ha
  | ext x i =>
    have hk : okOpd x = true := by simpa [IOp.opds] using hok
    generalize hop : o.op = op' at hchk
    simp only [chk] at hchk
    split at hchk
    case h_2 => cases hchk
    simp only [Bool.and_eq_true] at hchk
    have := opdB_eq hchk.1; subst this
    rename_i y j
    have : i = j := by simpa using hchk.2
    subst this
    simp only [sem] at hs
    split at hs
    · rename_i vs e1
      simp only [Option.map_eq_some_iff, Prod.mk.injEq] at hs
      obtain ⟨t, ht, _, rfl, rfl⟩ := hs
      exact g_ext h hg hop e1 hk ht
    · cases hs
  | nck x =>
    have hk : okOpd x = true := by simpa [IOp.opds] using hok
    generalize hop : o.op = op' at hchk
    simp only [chk] at hchk
    split at hchk
    case h_2 => cases hchk
    have := opdB_eq hchk; subst this
    simp only [sem] at hs
    split at hs <;> first | (cases hs; done) | skip
    · rename_i cs k e1
      simp only [Option.some.injEq, Prod.mk.injEq] at hs
      obtain ⟨_, rfl, rfl⟩ := hs
      exact g_nck h hg hop e1 hk (.inl ⟨_, _, rfl⟩)
    · rename_i id i k e1
      simp only [Option.some.injEq, Prod.mk.injEq] at hs
      obtain ⟨_, rfl, rfl⟩ := hs
      exact g_nck h hg hop e1 hk (.inr (.inl ⟨_, _, _, rfl⟩))
    · rename_i f cs e1
      simp only [Option.some.injEq, Prod.mk.injEq] at hs
      obtain ⟨_, rfl, rfl⟩ := hs
      exact g_nck h hg hop e1 hk (.inr (.inr (.inl ⟨_, _, rfl⟩)))
    · rename_i f cs e1
      simp only [Option.some.injEq, Prod.mk.injEq] at hs
      obtain ⟨_, rfl, rfl⟩ := hs
      exact g_nck h hg hop e1 hk (.inr (.inr (.inr ⟨_, _, rfl⟩)))
  | mkmap =>
    generalize hop : o.op = op' at hchk
    simp only [chk] at hchk
    split at hchk
    case h_2 => cases hchk
    simp only [Bool.and_eq_true, Option.isNone_iff_eq_none] at hchk
    obtain ⟨rfl, _⟩ := hchk
    simp only [sem, Option.some.injEq, Prod.mk.injEq] at hs
    obtain ⟨rfl, rfl, rfl⟩ := hs
    exact g_mkmap h hop hc hd
  | mkB ty zs l c1 =>
    generalize hop : o.op = op' at hchk
    simp only [chk] at hchk
    split at hchk
    case h_2 => cases hchk
    rename_i t l' c'
    simp only [Bool.and_eq_true, decide_eq_true_eq] at hchk
    obtain ⟨⟨⟨⟨⟨⟨h1, h2⟩, h3⟩, h4⟩, h6⟩, h7⟩, h8⟩ := hchk
    have := opdB_eq h1; subst this
    have := opdB_eq h2; subst this
    simp only [IOp.opds, List.all_cons, Bool.and_eq_true] at hok
    obtain ⟨hz, hzl⟩ : zeroO P ty = some zs ∧ zs.length = 1 := by
      split at h6
      · rename_i z hz
        simp only [Bool.and_eq_true] at h6
        have := vals1B_eq h6.1; subst this
        exact ⟨hz, by simpa using h6.2⟩
      · cases h6
    have hel : ElemOk P t ty 1 := by
      refine ⟨beqO h3, beqO h4, Nat.zero_lt_one, ⟨zs, hz, hzl⟩, ?_⟩
      split at h8
      · rename_i n hn; exact ⟨n, hn, by simpa using h8⟩
      · cases h8
    simp only [sem] at hs
    split at hs
    · rename_i k n k2 m e1 e2
      simp only [Option.some.injEq, Prod.mk.injEq] at hs
      obtain ⟨rfl, rfl, rfl⟩ := hs
      exact g_mkB hel hz h7 h hg hop hok.1 hok.2.1 e1 e2 hc.2.1 hc.2.2.1 hc.2.2.2 hc.1 hd
    · cases hs
  | rng x =>
    have hk : okOpd x = true := by simpa [IOp.opds] using hok
    generalize hop : o.op = op' at hchk
    simp only [chk] at hchk
    split at hchk
    case h_2 => cases hchk
    simp only [Bool.and_eq_true] at hchk
    have := opdB_eq hchk.1; subst this
    simp only [sem] at hs
    split at hs
    · rename_i s e1
      simp only [Option.some.injEq, Prod.mk.injEq] at hs
      obtain ⟨rfl, rfl, rfl⟩ := hs
      exact g_rng h hg hop hk hchk.2 e1 hc hd
    · cases hs
  | nxt x =>
    have hk : okOpd x = true := by simpa [IOp.opds] using hok
    generalize hop : o.op = op' at hchk
    simp only [chk] at hchk
    split at hchk
    case h_2 => cases hchk
    simp only [Bool.and_eq_true] at hchk
    have := opdB_eq hchk.1; subst this
    rw [hchk.2] at hop
    simp only [sem] at hs
    split at hs
    case h_2 => cases hs
    rename_i id e1
    split at hs
    case h_2 => cases hs
    rename_i s pos hl
    obtain ⟨g1, g2⟩ := g_nxt (ds := ds) h hg hop hk e1 hl
    split at hs <;> rename_i hp <;> simp only [Option.some.injEq, Prod.mk.injEq] at hs <;> obtain ⟨_, rfl, rfl⟩ := hs
    · exact g1 hp
    · exact g2 hp
  | lkup kt zv ok m k =>
    generalize hop : o.op = op' at hchk
    simp only [chk] at hchk
    split at hchk
    case h_2 => cases hchk
    simp only [Bool.and_eq_true] at hchk
    obtain ⟨⟨⟨h1, h2⟩, h3⟩, h4⟩ := hchk
    have := opdB_eq h1; subst this
    have := opdB_eq h2; subst this
    rename_i t ok'
    have : ok = ok' := by simpa using h3
    subst this
    split at h4
    case h_2 => cases h4
    rename_i q e hm
    simp only [Bool.and_eq_true] at h4
    obtain ⟨⟨h5, h6⟩, h7⟩ := h4
    have hz : (P.info? e).bind (·.zero) = some zv := by
      split at h6
      · rename_i z hz; rw [hz, valB_eq h6]
      · cases h6
    simp only [IOp.opds, List.all_cons, Bool.and_eq_true] at hok
    simp only [sem] at hs
    split at hs
    case h_2 => cases hs
    rename_i kv e1
    split at hs
    · rename_i es e2
      simp only [Option.some.injEq, Prod.mk.injEq] at hs
      obtain ⟨rfl, rfl, rfl⟩ := hs
      exact g_lkup h hg hop hok.1 hok.2.1 hm h5 hz h7 e1 e2 (.inl rfl) hc.1 hc.2
    · rename_i id e2
      split at hs
      · rename_i es hl
        simp only [Option.some.injEq, Prod.mk.injEq] at hs
        obtain ⟨rfl, rfl, rfl⟩ := hs
        exact g_lkup h hg hop hok.1 hok.2.1 hm h5 hz h7 e1 e2 (.inr ⟨id, rfl, hl⟩) hc.1 hc.2
      · cases hs
    · cases hs
  | mup kt m k x =>
    generalize hop : o.op = op' at hchk
    simp only [chk] at hchk
    split at hchk
    case h_2 => cases hchk
    simp only [Bool.and_eq_true] at hchk
    obtain ⟨⟨⟨h1, h2⟩, h3⟩, h4⟩ := hchk
    have := opdB_eq h1; subst this
    have := opdB_eq h2; subst this
    have := opdB_eq h3; subst this
    split at h4
    case h_2 => cases h4
    rename_i q e hm
    simp only [IOp.opds, List.all_cons, Bool.and_eq_true] at hok
    simp only [sem] at hs
    split at hs
    case h_2 => cases hs
    rename_i kv id e1 e2
    split at hs
    case h_2 => cases hs
    rename_i es hl
    simp only [Option.map_eq_some_iff, Option.bind_eq_some_iff, Prod.mk.injEq] at hs
    obtain ⟨y, ⟨a, ha, hy⟩, rfl, rfl, rfl⟩ := hs
    exact g_mup h hg hop hok.1 hok.2.1 hok.2.2.1 hm h4 e1 e2 hl ha hy hc.1 hc.2
  | appT ty s b x => exact absurd rfl (hnt ty s b x)
  | stR id n a x => exact absurd rfl (hns id n a x)
  | ldR id n g a => exact absurd rfl (hnl id n g a)
  | ldT n g a => exact absurd rfl (hn4 n g a)
  | lkT kt zv ok m k => exact absurd rfl (hn5 kt zv ok m k)
  | hcall f xs rs base => simp [sem] at hs
  | call f xs => simp [sem] at hs
  | callv x xs => simp [sem] at hs

theorem sem_sound {io : IOp} {d : Nat} {c : Prop} {r : AV} {st1 : St} (h : Sim w0 B κ X μ st tm w) (hg : Gl Γ w X) (hchk : chk P io o.op = true) (hok : io.opds.all okOpd = true) (hd : d < 1000000) (hs : sem Γ d io st = some (c, r, st1)) (hc : c) : Good P w0 B κ X o r st1 tm w ds := by
  by_cases ht : ∃ ty s b x, io = .appT ty s b x
  · obtain ⟨ty, s, b, x, rfl⟩ := ht
    simp only [sem, Option.bind_eq_some_iff] at hs
    obtain ⟨news, ⟨a, ha, hn⟩, hs⟩ := hs
    split at hs
    · rename_i es q nl hb
      simp only [Option.some.injEq, Prod.mk.injEq] at hs
      obtain ⟨rfl, rfl, rfl⟩ := hs
      obtain ⟨h1, h2, h3, h4⟩ := hc
      refine sem_sound0 (io := .app true ty s b x) (c := wid s news ∧ wid s es ∧ q = es.length ∧ es.length + news.length ≤ 2147483648 ∧ (true = true ∨ news ≠ [] ∨ es = [])) (by simp) (by simp) (by simp) (by simp) (by simp) h hg hchk hok hd ?_ ⟨h1, h2, h3, h4, .inl rfl⟩
      simp [sem, ha, hn, hb]
    · cases hs
  · by_cases ht2 : ∃ id n a x, io = .stR id n a x
    · obtain ⟨id, n, a, x, rfl⟩ := ht2
      simp only [sem] at hs
      split at hs
      · exact sem_sound0 (io := .store n a x) (by simp) (by simp) (by simp) (by simp) (by simp) h hg hchk hok hd (by simp only [sem]; exact hs) hc
      · cases hs
    · by_cases ht3 : ∃ id n g a, io = .ldR id n g a
      · obtain ⟨id, n, g, a, rfl⟩ := ht3
        simp only [sem] at hs
        split at hs
        · exact sem_sound0 (io := .load n g a) (by simp) (by simp) (by simp) (by simp) (by simp) h hg hchk hok hd (by simp only [sem]; exact hs) hc
        · cases hs
      · by_cases ht4 : ∃ n g a, io = .ldT n g a
        · obtain ⟨n, g, a, rfl⟩ := ht4
          simp only [sem] at hs
          split at hs
          · rename_i ha
            exact sem_sound0 (io := .load n g a) (by simp) (by simp) (by simp) (by simp) (by simp) h hg hchk hok hd (by simp only [sem, ha]; exact hs) hc
          · cases hs
        · by_cases ht5 : ∃ kt zv ok m k, io = .lkT kt zv ok m k
          · obtain ⟨kt, zv, ok, m, k, rfl⟩ := ht5
            simp only [sem] at hs
            split at hs
            · rename_i hk hm
              exact sem_sound0 (io := .lkup kt zv ok m k) (by simp) (by simp) (by simp) (by simp) (by simp) h hg hchk hok hd (by simp only [sem, hk, hm]; exact hs) hc
            · cases hs
          · exact sem_sound0 (fun ty s b x e => ht ⟨ty, s, b, x, e⟩) (fun id n a x e => ht2 ⟨id, n, a, x, e⟩) (fun id n g a e => ht3 ⟨id, n, g, a, e⟩) (fun n g a e => ht4 ⟨n, g, a, e⟩) (fun kt zv ok m k e => ht5 ⟨kt, zv, ok, m, k, e⟩) h hg hchk hok hd hs hc

end
end Go.Lg

/- THE LOGIC, part 21: contracts of functions, and one operation of a region, sound. Conditions: none. -/
set_option linter.unusedSimpArgs false
set_option linter.unusedVariables false
namespace Go.Lg
open Go

/-- The call comes back with a value: of a function with a body, or of one that the model runs itself. -/
def RunsTo (P : Program) (f : FuncId) (vs : Array Value) (w : World) (R : Value → World → Prop) : Prop :=
  ((callFunc f vs).run P w = .ok (.enter f vs) w ∧ Calls P f vs w fun e w' => ∃ v, e = .returned v ∧ R v w') ∨ ∃ v, (callFunc f vs).run P w = .ok (.value v) w ∧ R v w

theorem RunsTo.mono {P : Program} {f : FuncId} {vs : Array Value} {w : World} {R R' : Value → World → Prop} (h : RunsTo P f vs w R) (hr : ∀ v w', R v w' → R' v w') : RunsTo P f vs w R' := by
  rcases h with ⟨h1, h2⟩ | ⟨v, h1, h2⟩
  · exact .inl ⟨h1, h2.mono fun e w' ⟨v, he, hR⟩ => ⟨v, he, hr v w' hR⟩⟩
  · exact .inr ⟨v, h1, hr v w h2⟩

/-- Called at data that read as 'args', the function returns data that reads as 'res'; nothing that was there changes; the result may share memory with the arguments. -/
def PureCalls (P : Program) (Γ : Tables) (f : FuncId) (args : List T) (res : T) : Prop :=
  ∀ (w : World) (X : Nat → Prop) (vs : List Value), Gl Γ w X → (∀ b, X b → b < w.heap.size) → TRs w X args vs →
    RunsTo P f vs.toArray w fun v w' => RowKit.Below w.heap.size w w' ∧ TR w' (fun b => X b ∨ (w.heap.size ≤ b ∧ b < w'.heap.size)) res v

/-- .. and the result lies in new memory alone. -/
def FreshCalls (P : Program) (Γ : Tables) (f : FuncId) (args : List T) (res : T) : Prop :=
  ∀ (w : World) (X : Nat → Prop) (vs : List Value), Gl Γ w X → (∀ b, X b → b < w.heap.size) → TRs w X args vs →
    RunsTo P f vs.toArray w fun v w' => RowKit.Below w.heap.size w w' ∧ TR w' (fun b => w.heap.size ≤ b ∧ b < w'.heap.size) res v

theorem FreshCalls.pure {P : Program} {Γ : Tables} {f : FuncId} {args : List T} {res : T} (h : FreshCalls P Γ f args res) : PureCalls P Γ f args res :=
  fun w X vs hg hx hr => (h w X vs hg hx hr).mono fun v w' ⟨hb, ht⟩ => ⟨hb, ht.mono (fun _ _ => rfl) (fun _ hb => .inr hb)⟩

/-- Data that leads to no memory. -/
def flat1 : T → Bool
  | .v _ => true
  | .sl [] _ _ => true
  | _ => false
def flatT : T → Bool
  | .tup vs => vs.all flat1
  | .agg vs => vs.all flat1
  | t => flat1 t

theorem flat1_ok {w : World} {X Y : Nat → Prop} {t : T} {x : Value} (h : TR w X t x) (hf : flat1 t = true) : TR w Y t x := by
  cases h with
  | v x => exact .v x
  | nil cap nl a c hc hn hz => exact .nil cap nl a c hc hn hz
  | sl es cap nl s b off c f hcell hlen hrel hone hx hle hc hn =>
    cases es with
    | nil => exact .nil cap nl _ c hc (fun q hq => by rw [hn q hq]; rfl) (fun e => by cases e)
    | cons e es => simp [flat1] at hf
  | agg => simp [flat1] at hf
  | tup => simp [flat1] at hf
  | ip => simp [flat1] at hf
  | fn => simp [flat1] at hf
  | mpnil => simp [flat1] at hf
  | mp => simp [flat1] at hf

theorem flatT_ok {w : World} {X Y : Nat → Prop} {t : T} {x : Value} (h : TR w X t x) (hf : flatT t = true) : TR w Y t x := by
  have one : ∀ {ts : List T} {xs : List Value}, ts.all flat1 = true → TRs w X ts xs → TRs w Y ts xs := by
    intro ts xs h1 h2
    exact ⟨h2.1, fun k t x ht hx => flat1_ok (h2.2 k t x ht hx) (List.all_eq_true.1 h1 t (List.mem_of_getElem? ht))⟩
  cases t with
  | tup vs => obtain ⟨xs, rfl, hr⟩ := h.tup_inv; exact TR.mk_tup (one hf hr)
  | agg vs => obtain ⟨xs, rfl, h1, hr⟩ := h.agg_inv; exact TR.mk_agg h1 (one hf hr)
  | _ => exact flat1_ok h hf

theorem PureCalls.fresh {P : Program} {Γ : Tables} {f : FuncId} {args : List T} {res : T} (h : PureCalls P Γ f args res) (hf : flatT res = true) : FreshCalls P Γ f args res :=
  fun w X vs hg hx hr => (h w X vs hg hx hr).mono fun v w' ⟨hb, ht⟩ => ⟨hb, flatT_ok ht hf⟩

/-- An operation in its place: the slot that it writes, the guard (the slot of the test, and which answer). -/
structure RO where
  dst : Option Nat
  op : IOp
  guard : Option (Nat × Bool) := none
  rid : Option Nat := none

/-- The name that a new region takes. -/
def RO.d (ro : RO) : Nat := match ro.rid with
  | some r => r
  | none => ro.dst.getD 0

def St.put (st : St) (d : Option Nat) (a : AV) : St := match d with
  | some d => ⟨(d, a) :: st.env, st.hp⟩
  | none => st

/-- The blocks of the regions. -/
def locs (st : St) (μ : Loc) (b : Nat) : Prop := ∃ id n, st.sh id ≠ none ∧ μ id = some (b, n)

section
variable {P : Program} {Γ : Tables} {w0 : World} {B : Nat} {κ : Loc} {X : Nat → Prop} {μ : Loc} {st : St} {tm : Array Value} {w : World} {ds : List Deferred} {o : Oper}

theorem optAll_trs {Y : Nat → Prop} {f : AV → Option T} : ∀ {cs : List AV} {xs : List Value} {ts : List T}, ARs w X μ st.sh cs xs → (∀ c ∈ cs, ∀ t x, AR w X μ st.sh c x → f c = some t → TR w Y t x) → optAll (cs.map f) = some ts → TRs w Y ts xs
  | [], xs, ts, h, hf, ho => by
    simp only [List.map_nil, optAll, Option.some.injEq] at ho
    subst ho; rw [h.nil_inv]; exact TRs.nil _ _
  | c :: cs, xs, ts, h, hf, ho => by
    obtain ⟨x, ys, rfl, hx, hs⟩ := h.cons_inv
    simp only [List.map_cons] at ho
    cases hc : f c with
    | none => rw [hc] at ho; simp [optAll] at ho
    | some t =>
      rw [hc] at ho
      simp only [optAll, Option.map_eq_some_iff] at ho
      obtain ⟨ts', ho', rfl⟩ := ho
      exact TRs.cons (hf c (by simp) t x hx hc) (optAll_trs hs (fun c hm => hf c (by simp [hm])) ho')

theorem reify_one : ∀ {n : Nat} {hp : List (Nat × Reg)} {a : AV} {t : T}, a.one = true → reify hp n a = some t → t.one = true := by
  intro n hp a t h1 h
  cases a with
  | t x => cases n <;> simp only [reify, Option.some.injEq] at h <;> subst h <;> exact h1
  | ag cs => simp [AV.one] at h1
  | un => simp [AV.one] at h1
  | dead => cases n <;> simp [reify] at h
  | ls id off len cap =>
    cases n with
    | zero => simp [reify] at h
    | succ n => simp only [reify] at h; split at h <;> simp at h; subst h; rfl
  | lp id i k =>
    cases n with
    | zero => simp [reify] at h
    | succ n =>
      simp only [reify] at h
      split at h
      · simp at h; subst h; rfl
      · simp only [Option.map_eq_some_iff] at h; obtain ⟨ts, _, rfl⟩ := h; rfl
      · cases h
  | li id => cases n <;> simp [reify] at h
  | lb id m =>
    cases n with
    | zero => simp [reify] at h
    | succ n =>
      simp only [reify] at h
      split at h
      · simp only [Option.map_eq_some_iff] at h; obtain ⟨ts, _, rfl⟩ := h; rfl
      · cases h
  | lm id =>
    cases n with
    | zero => simp [reify] at h
    | succ n => simp only [reify] at h; split at h <;> simp at h; subst h; rfl
  | fn f cs =>
    cases n with
    | zero => simp [reify] at h
    | succ n => simp only [reify, Option.map_eq_some_iff] at h; obtain ⟨ts, _, rfl⟩ := h; rfl

theorem optAll_ones {n : Nat} {hp : List (Nat × Reg)} : ∀ {cs : List AV} {ts : List T}, onesA cs = true → optAll (cs.map (reify hp n)) = some ts → onesT ts = true
  | [], ts, h, ho => by simp only [List.map_nil, optAll, Option.some.injEq] at ho; subst ho; rfl
  | c :: cs, ts, h, ho => by
    simp only [onesA, List.all_cons, Bool.and_eq_true] at h
    simp only [List.map_cons] at ho
    cases hc : reify hp n c with
    | none => rw [hc] at ho; simp [optAll] at ho
    | some t =>
      rw [hc] at ho
      simp only [optAll, Option.map_eq_some_iff] at ho
      obtain ⟨ts', ho', rfl⟩ := ho
      simp only [onesT, List.all_cons, Bool.and_eq_true]
      exact ⟨reify_one h.1 hc, optAll_ones h.2 ho'⟩

/-- What a slot's content reads as, the regions read as they stand. -/
theorem reify_ok (h : Sim w0 B κ X μ st tm w) : ∀ (n : Nat) {a : AV} {x : Value} {t : T}, AR w X μ st.sh a x → reify st.hp n a = some t → TR w (fun b => X b ∨ locs st μ b) t x := by
  have hmono : ∀ {t : T} {x : Value}, TR w X t x → TR w (fun b => X b ∨ locs st μ b) t x := fun ht => ht.mono (fun _ _ => rfl) (fun _ hb => .inl hb)
  intro n
  induction n with
  | zero =>
    intro a x t ha hr
    cases a <;> simp only [reify, Option.some.injEq, reduceCtorEq] at hr
    subst hr; exact hmono ha.t_inv
  | succ n ih =>
    intro a x t ha hr
    cases a with
    | t y => simp only [reify, Option.some.injEq] at hr; subst hr; exact hmono ha.t_inv
    | ag cs =>
      simp only [reify, Option.map_eq_some_iff] at hr
      obtain ⟨ts, hts, rfl⟩ := hr
      obtain ⟨xs, rfl, h1, hs⟩ := ha.ag_inv
      exact TR.mk_agg (optAll_ones h1 hts) (optAll_trs hs (fun c _ t x hc hf => ih hc hf) hts)
    | fn f cs =>
      simp only [reify, Option.map_eq_some_iff] at hr
      obtain ⟨ts, hts, rfl⟩ := hr
      cases ha with
      | fn f cs xs hlen hrel =>
        have := optAll_trs (w := w) (μ := μ) (st := st) (X := X) (cs := cs) (xs := xs) ⟨hlen, hrel⟩ (fun c _ t x hc hf => ih hc hf) hts
        exact .fn f ts xs this.1 this.2
    | ls id off len cap =>
      have hel : ∃ ty s es, look st.hp id = some (.sl ty s es) ∧ t = .sl ((es.drop off).take len) cap none := by
        simp only [reify] at hr
        split at hr
        · rename_i ty s es hl; simp only [Option.some.injEq] at hr; exact ⟨ty, s, es, hl, hr.symm⟩
        · cases hr
      obtain ⟨ty, s, es, hl, rfl⟩ := hel
      have hwr := reg_wid (h.reg id _ hl)
      obtain ⟨s', n', hs, hcase⟩ := ha.ls_inv
      rw [sh_of hl] at hs
      simp only [Reg.sh, Option.some.injEq, Sh.sl.injEq] at hs
      obtain ⟨rfl, rfl⟩ := hs
      rcases hcase with ⟨hm, ⟨oa, rfl⟩, rfl, rfl, hc⟩ | ⟨g, m, c, ad, hm, rfl, hle, hlc, hcm, hfit, hfull, hcq, had⟩
      · simp only [List.take_zero]
        exact .nil _ _ _ _ (fun q hq => (hc q hq).symm) (fun b hb => by cases hb) (fun _ => rfl)
      · have hlen : ((es.drop off).take len).length = len := by simp; omega
        by_cases h0 : len = 0
        · subst h0
          simp only [List.take_zero]
          exact .nil _ _ _ _ hcq (fun b hb => by cases hb) (fun e => by cases e)
        · obtain ⟨hw, hcase⟩ := h.reg id _ hl
          rcases hcase with ⟨_, hm0⟩ | ⟨g', arr, hm', hg, hle', hrel⟩
          · rw [hm] at hm0; cases hm0
          rw [hm] at hm'; cases hm'
          have hge : ∀ i, i < len → ((es.drop off).take len)[i]? = es[off + i]? := fun i hi => by rw [List.getElem?_take, if_pos hi, List.getElem?_drop]
          have hmem : ∀ e ∈ (es.drop off).take len, ∃ i, es[i]? = some e := fun e hme => by
            obtain ⟨i, hi, rfl⟩ := List.getElem_of_mem (List.mem_of_mem_drop (List.mem_of_mem_take hme))
            exact ⟨i, List.getElem?_eq_getElem hi⟩
          have := TR.mk_sl (w := w) (X := fun b => X b ∨ locs st μ b) (es := (es.drop off).take len) (cap := cap) (nl := none) (s := s) (b := g) (off := off * s) (c := c) (f := fun i k => (arr[(off + i) * s + k]?).getD undef)
            (.inr ⟨id, _, by simp [sh_of hl], hm⟩) (by omega) hcq (fun q hq => by cases hq) (fun e hme => by obtain ⟨i, hi⟩ := hmem e hme; exact (hw i e hi).1)
            (fun e hme => by
              obtain ⟨i, hi⟩ := hmem e hme
              exact List.all_eq_true.2 fun t ht => by obtain ⟨k, hk, rfl⟩ := List.getElem_of_mem ht; exact (hw i e hi).2 k _ (List.getElem?_eq_getElem hk))
            (fun i k hi hk => by
              rw [hlen] at hi
              have hf := mul_fit (s := s) (i := off + i) (len := es.length) (by omega)
              have hin : (off + i) * s + k < arr.size := by omega
              rw [cell_of_row _ _ _ _ _ _ hg, show off * s + i * s + k = (off + i) * s + k by rw [Nat.add_mul]]
              simp [hin])
            (fun i k e t he ht => by
              have hi := (List.getElem?_eq_some_iff.1 he).1
              rw [hlen] at hi
              rw [hge i hi] at he
              have hk : k < s := by rw [← (hw _ e he).1]; exact (List.getElem?_eq_some_iff.1 ht).1
              have hf := mul_fit (s := s) (i := off + i) (len := es.length) (by omega)
              have hin : (off + i) * s + k < arr.size := by omega
              have := hrel (off + i) k e t arr[(off + i) * s + k] he ht (by simp [hin])
              simp only [hin, getElem?_pos, Option.getD_some]
              exact hmono this)
          rw [hlen] at this
          rw [had (.inl (by omega))]
          exact this
    | lp id i k =>
      simp only [reify] at hr
      obtain ⟨g, m, hm, hp⟩ := ha.lp_inv
      split at hr
      · rename_i ty s es hl
        simp only [Option.some.injEq] at hr; subst hr
        rcases hp with ⟨s', n', hs, rfl⟩ | ⟨hs, _, _⟩
        case inr => rw [sh_of hl] at hs; cases hs
        rw [sh_of hl] at hs
        simp only [Reg.sh, Option.some.injEq, Sh.sl.injEq] at hs
        obtain ⟨rfl, rfl⟩ := hs
        have hx : X g ∨ locs st μ g := .inr ⟨id, _, by simp [sh_of hl], hm⟩
        by_cases hi : i < es.length
        · obtain ⟨g', arr, hm', hheap, hle, hlen, h1, hrr⟩ := (h.reg id _ hl).elem hi
          rw [hm] at hm'; cases hm'
          refine TR.mk_ip h1 (hrr.mono (fun _ _ => rfl) (fun _ hb => .inl hb)) hx (fun j y hy => ?_)
          rw [cell_of_row _ _ _ _ _ _ hheap]
          rw [List.getElem?_take] at hy
          split at hy
          · rw [List.getElem?_drop] at hy; simpa using hy
          · cases hy
        · have : es.getD i [] = [] := by simp [List.getD, hi]
          rw [this]
          exact TR.mk_ip rfl (TRs.nil _ _) hx (fun j y hy => by simp at hy)
      · rename_i cs hl
        simp only [Option.map_eq_some_iff] at hr
        obtain ⟨ts, hts, rfl⟩ := hr
        rcases hp with ⟨s', n', hs, rfl⟩ | ⟨hs, rfl, rfl⟩
        · rw [sh_of hl] at hs; cases hs
        obtain ⟨hone, g', arr, ty, hm', hheap, hsz, hrel⟩ := h.reg id _ hl
        rw [hm] at hm'; cases hm'
        have hcs : ARs w X μ st.sh cs arr.toList := ⟨by simp [hsz], fun j a y h2 h3 => hrel j a y h2 (by simpa using h3)⟩
        have h1 : onesA cs = true := List.all_eq_true.2 fun t ht => by obtain ⟨j, hj, rfl⟩ := List.getElem_of_mem ht; exact hone j _ (List.getElem?_eq_getElem hj)
        have := TR.mk_ip (w := w) (X := fun b => X b ∨ locs st μ b) (k := k) (b := g) (off := 0) (optAll_ones h1 hts) (optAll_trs hcs (fun c _ t x hc hf => ih hc hf) hts) (.inr ⟨id, _, by simp [sh_of hl], hm⟩) (fun j y hy => by
          rw [cell_of_row _ _ _ _ _ _ hheap]; simpa using hy)
        simpa using this
      · cases hr
    | li id => simp [reify] at hr
    | lb id m =>
      simp only [reify] at hr
      obtain ⟨g, hsb, hm, hmx, rfl⟩ := ha.lb_inv
      split at hr
      · rename_i cs hl
        simp only [Option.map_eq_some_iff] at hr
        obtain ⟨ts, hts, rfl⟩ := hr
        obtain ⟨hone, g', arr, ty, hm', hheap, hsz, hrel⟩ := h.reg id _ hl
        rw [hm] at hm'; cases hm'
        have hcs : ARs w X μ st.sh cs arr.toList := ⟨by simp [hsz], fun j a y h2 h3 => hrel j a y h2 (by simpa using h3)⟩
        have h1 : onesA cs = true := List.all_eq_true.2 fun t ht => by obtain ⟨j, hj, rfl⟩ := List.getElem_of_mem ht; exact hone j _ (List.getElem?_eq_getElem hj)
        have h1t := optAll_ones h1 hts
        have hrt := optAll_trs hcs (fun c _ t x hc hf => ih hc hf) hts
        have hlen : (ts.map fun t => [t]).length = arr.size := by have := hrt.1; simpa using this
        by_cases h0 : ts = []
        · subst h0
          have h00 : arr.size = 0 := by simpa using hlen.symm
          rw [h00]
          exact .nil _ _ _ _ (fun q hq => by cases hq; rfl) (fun b hb => by cases hb) (fun e => by cases e)
        · have := TR.mk_sl (w := w) (X := fun b => X b ∨ locs st μ b) (es := ts.map fun t => [t]) (cap := some arr.size) (nl := none) (s := 1) (b := g) (off := 0) (c := arr.size) (f := fun i k => (arr[i + k]?).getD undef)
            (.inr ⟨id, _, by simp [sh_of hl], hm⟩) (by omega) (fun q hq => by cases hq; rfl) (fun q hq => by cases hq) (fun e hme => by obtain ⟨t, _, rfl⟩ := List.mem_map.1 hme; rfl)
            (fun e hme => by
              obtain ⟨t, ht, rfl⟩ := List.mem_map.1 hme
              simpa [onesT] using List.all_eq_true.1 h1t t ht)
            (fun i k hi hk => by
              rw [cell_of_row _ _ _ _ _ _ hheap, show 0 + i * 1 + k = i + k by omega]
              rw [hlen] at hi
              have : i + k < arr.size := by omega
              simp [this])
            (fun i k e t he ht => by
              have hi := (List.getElem?_eq_some_iff.1 he).1
              simp only [List.getElem?_map, Option.map_eq_some_iff] at he
              obtain ⟨t', ht', rfl⟩ := he
              have hk : k = 0 := by have := (List.getElem?_eq_some_iff.1 ht).1; simpa using this
              subst hk
              simp only [List.getElem?_cons_zero, Option.some.injEq] at ht; subst ht
              rw [hlen] at hi
              have := hrt.2 i t' arr[i] ht' (by simp [hi])
              simpa [hi] using this)
          rw [hlen] at this
          exact this
      · cases hr
    | lm id =>
      simp only [reify] at hr
      split at hr
      · rename_i es hl
        simp only [Option.some.injEq] at hr; subst hr
        obtain ⟨g, n', hs, hm, rfl⟩ := ha.lm_inv
        obtain ⟨g', n2, clock, ms, hm', hh, hlen, hrel⟩ := h.reg _ _ hl
        rw [hm] at hm'; cases hm'
        exact .mp es g clock ms hh (.inr ⟨id, _, by simp [sh_of hl], hm⟩) hlen (fun i e m h1 h2 => (hrel i e m h1 h2).1) (fun i e m h1 h2 => hmono (hrel i e m h1 h2).2)
      · cases hr
    | dead => simp [reify] at hr
    | un => simp [reify] at hr

end
end Go.Lg
