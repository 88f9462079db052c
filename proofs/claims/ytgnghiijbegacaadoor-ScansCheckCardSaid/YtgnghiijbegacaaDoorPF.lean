/- The fanout of a circuit: the rows. Conditions: none. -/
import Derived.Test.YtgnghiijbegacaaDoorPA
set_option linter.unusedSimpArgs false
set_option linter.unusedVariables false
set_option maxRecDepth 100000
namespace Go.Lg
open Go Go.Proofs
variable {Γ : Tables}

abbrev Row := List (Int × Int)
def tLn (p : Int × Int) : List T := [tI p.1, tI p.2]
def rowC (i : Nat) (r : Row) : AV := if r = [] then .t (.sl [] (some 0) (some true)) else .ls (100000 + i) 0 r.length none
def rowsC (rows : List Row) : List AV := rows.mapIdx rowC
def rowR (rows : List Row) (id : Nat) : Option Reg := match rows[id - 100000]? with
  | some r => if r = [] then none else some (.sl 149 2 (encN tLn r))
  | none => none
def rowsK (k : Nat) (g : Nat → Option Reg) : List (Nat × Reg) := (List.range' 100000 k).filterMap fun id => (g id).map fun r => (id, r)
def rowsH (rows : List Row) : List (Nat × Reg) := rowsK 16384 (rowR rows)

theorem fm_congr {α β : Type} {f g : α → Option β} : ∀ {l : List α}, (∀ x ∈ l, f x = g x) → l.filterMap f = l.filterMap g
  | [], _ => rfl
  | x :: l, h => by
    rw [List.filterMap_cons, List.filterMap_cons, h x List.mem_cons_self, fm_congr (l := l) fun y hy => h y (List.mem_cons_of_mem _ hy)]

theorem look_fm {l : List Nat} {g : Nat → Option Reg} {t : Nat} : look (l.filterMap fun id => (g id).map fun r => (id, r)) t = if t ∈ l then g t else none := by
  induction l with
  | nil => simp [look]
  | cons k l ih =>
    rw [List.filterMap_cons]
    cases hg : g k with
    | none =>
      simp only [Option.map_none, ih]
      by_cases h : t = k
      · subst h; simp [hg]
      · simp [h]
    | some r =>
      simp only [Option.map_some, look, ih]
      by_cases h : k = t
      · subst h; simp [hg]
      · simp [h, Ne.symm h]
theorem look_rowsK {k : Nat} {g : Nat → Option Reg} {t : Nat} : look (rowsK k g) t = if 100000 ≤ t ∧ t < 100000 + k then g t else none := by
  unfold rowsK; rw [look_fm]
  by_cases h : 100000 ≤ t ∧ t < 100000 + k
  · rw [if_pos h, if_pos (by rw [List.mem_range'_1]; exact h)]
  · rw [if_neg h, if_neg (by rw [List.mem_range'_1]; exact h)]

theorem keep_rows {rows : List Row} {l : List (Nat × Reg)} (h : ∀ t ∈ List.range' 100000 16384, look l t = rowR rows t) : Lg.keep (List.range' 100000 16384) l = rowsH rows := by
  unfold Lg.keep rowsH rowsK
  exact fm_congr fun t ht => by rw [h t ht]

/-- What is kept: the table, and the rows in their order. -/
theorem keepB_gen {env : List (Nat × AV)} {hp : List (Nat × Reg)} {ks : List Nat} {rows : List Row} (hk : (hp.map (·.1)).filter (fun id => !([14] : List Nat).contains id && !(decide (100000 ≤ id) && decide (id < 100000 + 16384))) = [])
    (h14 : look hp 14 = some (.bx (rowsC rows))) (hr : ∀ t, 100000 ≤ t → t < 116384 → look hp t = rowR rows t) :
    Gh.run (.keepB ks [14] 100000 16384) ⟨env, hp⟩ = ⟨Lg.keep ks env, (14, .bx (rowsC rows)) :: rowsH rows⟩ := by
  simp only [Gh.run, keepBSt, hk, killAll, keep_cons, h14, keep_nil, List.cons_append, List.nil_append]
  congr 2
  simp only [Lg.keep, rowsH, rowsK]
  refine fm_congr fun t ht => ?_
  rw [List.mem_range'_1] at ht
  rw [hr t ht.1 (by omega)]

theorem mem_rowsK {k : Nat} {g : Nat → Option Reg} : ∀ p ∈ rowsK k g, 100000 ≤ p.1 ∧ p.1 < 100000 + k := by
  intro p hp
  obtain ⟨id, hid, he⟩ := List.mem_filterMap.1 hp
  rw [List.mem_range'_1] at hid
  cases hg : g id with
  | none => rw [hg] at he; cases he
  | some r => rw [hg] at he; simp at he; subst he; exact hid

theorem filter_rows {rows : List Row} : ((rowsH rows).map (·.1)).filter (fun id => !([14] : List Nat).contains id && !(decide (100000 ≤ id) && decide (id < 100000 + 16384))) = [] := by
  rw [List.filter_eq_nil_iff]
  intro id hid
  obtain ⟨p, hp, rfl⟩ := List.mem_map.1 hid
  have := mem_rowsK p hp
  simp [this.1, this.2]

theorem look_rows {rows : List Row} {t : Nat} : look ((14, .bx (rowsC rows)) :: rowsH rows) t = if t = 14 then some (.bx (rowsC rows)) else if 100000 ≤ t ∧ t < 116384 then rowR rows t else none := by
  simp only [look, rowsH, look_rowsK]
  by_cases h : t = 14
  · simp [h]
  · simp [h, Ne.symm h]

theorem keepB_S {env : List (Nat × AV)} {ks : List Nat} {rows : List Row} : Gh.run (.keepB ks [14] 100000 16384) ⟨env, (14, .bx (rowsC rows)) :: rowsH rows⟩ = ⟨Lg.keep ks env, (14, .bx (rowsC rows)) :: rowsH rows⟩ := by
  refine keepB_gen ?_ (by simp [look]) fun t h1 h2 => ?_
  · rw [List.map_cons, List.filter_cons]; simp only [filter_rows]; simp
  · rw [look_rows, if_neg (by omega), if_pos ⟨h1, h2⟩]

theorem killRef_rows {id : Nat} (h : id < 100000) (rows : List Row) : (rowsC rows).map (killRef id) = rowsC rows := by
  apply List.ext_getElem?
  intro i
  simp only [rowsC, List.getElem?_map, List.getElem?_mapIdx, Option.map_map]
  cases rows[i]? with
  | none => rfl
  | some r =>
    simp only [Option.map_some, Function.comp_def, rowC]
    split
    · rfl
    · simp only [killRef, kill1]; rw [if_neg (by omega)]

/-- .. and a variable that has gone. -/
theorem keepB_6 {env : List (Nat × AV)} {ks : List Nat} {rows : List Row} {q : Reg} : Gh.run (.keepB ks [14] 100000 16384) ⟨env, (6, q) :: (14, .bx (rowsC rows)) :: rowsH rows⟩ = ⟨(Lg.keep ks env).map (fun p => (p.1, killRef 6 p.2)), (14, .bx (rowsC rows)) :: rowsH rows⟩ := by
  have hk : (((6, q) :: (14, Reg.bx (rowsC rows)) :: rowsH rows).map (·.1)).filter (fun id => !([14] : List Nat).contains id && !(decide (100000 ≤ id) && decide (id < 100000 + 16384))) = [6] := by
    rw [List.map_cons, List.map_cons, List.filter_cons, List.filter_cons]; simp only [filter_rows]; simp
  have hl : ∀ t, t ≠ 6 → look (St.kill 6 ⟨Lg.keep ks env, (6, q) :: (14, .bx (rowsC rows)) :: rowsH rows⟩).hp t = look ((14, .bx (rowsC rows)) :: rowsH rows) t := by
    intro t ht
    rw [look_kill, if_neg ht]
    show (look ((6, q) :: (14, .bx (rowsC rows)) :: rowsH rows) t).map _ = _
    rw [look, if_neg (Ne.symm ht), look_rows]
    by_cases h : t = 14
    · simp [h, killReg, killRef_rows]
    · simp only [h, ↓reduceIte]
      split
      · unfold rowR
        split
        · split <;> simp [killReg]
        · rfl
      · rfl
  simp only [Gh.run, keepBSt, hk, killAll, keep_cons, keep_nil, List.cons_append, List.nil_append]
  rw [hl 14 (by omega)]
  simp only [look, ↓reduceIte, List.cons_append, List.nil_append]
  congr 2
  refine keep_rows fun t ht => ?_
  rw [List.mem_range'_1] at ht
  rw [hl t (by omega), look_rows, if_neg (by omega), if_pos ⟨ht.1, by omega⟩]

def addRow (rows : List Row) (n : Nat) (p : Int × Int) : List Row := rows.set n (rows.getD n [] ++ [p])

theorem addRow_len {rows : List Row} {n : Nat} {p : Int × Int} : (addRow rows n p).length = rows.length := by simp [addRow]

/-- The row n, longer by one, under its own name again. -/
theorem keepB_add {env : List (Nat × AV)} {ks : List Nat} {rows : List Row} {n : Nat} {p : Int × Int} {hp : List (Nat × Reg)} {cs : List AV} (hn : n < rows.length) (hn2 : rows.length ≤ 16384)
    (hlen : cs.length = rows.length) (hcs : ∀ i, i ≠ n → cs[i]? = (rowsC rows)[i]?) (hc : cs[n]? = some (.ls 47 0 ((rows.getD n []).length + 1) none)) (h47 : look hp 47 = some (.sl 149 2 (encN tLn (rows.getD n [] ++ [p])))) (h14 : look hp 14 = some (.bx cs))
    (hno : look hp (100000 + n) = none) (hoth : ∀ t, 100000 ≤ t → t < 116384 → t ≠ 100000 + n → look hp t = rowR rows t) (hkeys : ∀ q ∈ hp, q.1 = 47 ∨ q.1 = 14 ∨ (100000 ≤ q.1 ∧ q.1 < 116384)) :
    Gh.run (.keepB ks [14] 100000 16384) (renSt 47 (100000 + n) ⟨env, hp⟩) = ⟨(Lg.keep ks (env.map fun q => (q.1, renRef (toName 47 (100000 + n)) q.2))), (14, .bx (rowsC (addRow rows n p))) :: rowsH (addRow rows n p)⟩ := by
  have hr : renSt 47 (100000 + n) ⟨env, hp⟩ = ⟨env.map fun q => (q.1, renRef (toName 47 (100000 + n)) q.2), renHp 47 (100000 + n) hp⟩ := by
    unfold renSt
    rw [if_pos]
    simp [hno, h47]; omega
  rw [hr]
  have hget : ∀ i, (addRow rows n p)[i]? = if i = n then some (rows.getD n [] ++ [p]) else rows[i]? := by
    intro i
    unfold addRow
    rw [List.getElem?_set]
    by_cases h : n = i
    · subst h; simp [hn]
    · simp [h, Ne.symm h]
  have hl := fun t => look_renHp (a := 47) (b := 100000 + n) (t := t) hno (by omega)
  refine keepB_gen ?_ ?_ fun t h1 h2 => ?_
  · rw [List.filter_eq_nil_iff]
    intro id hid
    have : id = 100000 + n ∨ id ≠ 47 ∧ ∃ q ∈ hp, q.1 = id := by
      clear hl hr hno hoth h14 h47
      induction hp with
      | nil => simp [renHp] at hid
      | cons q l ih =>
        obtain ⟨k, r⟩ := q
        simp only [renHp, List.map_cons, List.mem_cons] at hid
        rcases hid with hid | hid
        · by_cases h : k = 47
          · left; simpa [h] using hid
          · right; simp [h] at hid; subst hid; exact ⟨h, _, List.mem_cons_self, rfl⟩
        · rcases ih (fun q hq => hkeys q (List.mem_cons_of_mem _ hq)) hid with h | ⟨h, q, hq, e⟩
          · exact .inl h
          · exact .inr ⟨h, q, List.mem_cons_of_mem _ hq, e⟩
    rcases this with h | ⟨h, q, hq, rfl⟩
    · subst h; simp; intro _; omega
    · rcases hkeys q hq with e | e | ⟨e1, e2⟩
      · exact absurd e h
      · simp [e]
      · simp; intro _; omega
  · rw [hl, if_neg (by omega), if_neg (by omega), h14]
    simp only [Option.map_some, renReg, Option.some.injEq, Reg.bx.injEq]
    apply List.ext_getElem?
    intro i
    simp only [List.getElem?_map, rowsC, List.getElem?_mapIdx]
    rw [hget]
    by_cases h : i = n
    · subst h
      rw [hc]
      have : ¬ (rows.getD i [] ++ [p] = []) := by simp
      simp only [↓reduceIte, Option.map_some, Option.some.injEq]
      unfold rowC
      rw [if_neg this]
      simp [renRef, ren1, ren0, toName]
    · rw [hcs i h, if_neg h]
      simp only [rowsC, List.getElem?_mapIdx, Option.map_map]
      cases hrow : rows[i]? with
      | none => rfl
      | some r =>
        simp only [Option.map_some, Function.comp_def, rowC, Option.some.injEq]
        split
        · rfl
        · simp only [renRef, ren1, ren0, toName]; rw [if_neg (by omega)]
  · rw [hl]
    by_cases h : t = 100000 + n
    · rw [if_pos h, h47]
      subst h
      unfold rowR
      rw [show 100000 + n - 100000 = n by omega, hget, if_pos rfl]
      simp [renReg]
    · rw [if_neg h, if_neg (by omega), hoth t h1 h2 h]
      unfold rowR
      rw [hget, if_neg (by omega)]
      cases rows[t - 100000]? with
      | none => rfl
      | some r => simp only; split <;> simp [renReg]

/-- The rows, frozen from the last to the k-th. -/
def rowF (k i : Nat) (r : Row) : AV := if r = [] then .t (.sl [] (some 0) (some true)) else if k ≤ i then .t (.sl (encN tLn r) none none) else .ls (100000 + i) 0 r.length none

theorem frz_step {env : List (Nat × AV)} {rows : List Row} (he : ∀ id r, 100000 ≤ id → ∀ p ∈ env, frzRef id r p.2 = p.2) (k : Nat) : St.freeze (100000 + k) ⟨env, (14, .bx (rows.mapIdx (rowF (k + 1)))) :: rowsK (k + 1) (rowR rows)⟩ = ⟨env, (14, .bx (rows.mapIdx (rowF k))) :: rowsK k (rowR rows)⟩ := by
  have hsplit : rowsK (k + 1) (rowR rows) = rowsK k (rowR rows) ++ (match rowR rows (100000 + k) with | some r => [(100000 + k, r)] | none => []) := by
    unfold rowsK
    rw [← List.range'_append (s := 100000) (m := k) (n := 1) (step := 1)]
    rw [List.filterMap_append]
    congr 1
    cases hr : rowR rows (100000 + k) <;> simp [hr]
  have hl : look ((14, Reg.bx (rows.mapIdx (rowF (k + 1)))) :: rowsK (k + 1) (rowR rows)) (100000 + k) = rowR rows (100000 + k) := by
    rw [look, if_neg (by omega), look_rowsK, if_pos (by omega)]
  simp only [St.freeze, hl]
  cases hr : rowR rows (100000 + k) with
  | none =>
    rw [hr] at hsplit
    simp only [hsplit, List.append_nil]
    refine congrArg (fun l => (⟨env, (14, Reg.bx l) :: rowsK k (rowR rows)⟩ : St)) ?_
    apply List.ext_getElem?
    intro i
    simp only [List.getElem?_mapIdx]
    cases hi : rows[i]? with
    | none => rfl
    | some r =>
      simp only [Option.map_some, rowF]
      by_cases h0 : r = []
      · simp [h0]
      · by_cases hik : i = k
        · subst hik
          unfold rowR at hr
          rw [show 100000 + i - 100000 = i by omega, hi] at hr
          simp [h0] at hr
        · have : (k + 1 ≤ i) = (k ≤ i) := by apply propext; omega
          simp [this]
  | some q =>
    obtain ⟨r, hrow, hne, rfl⟩ : ∃ r, rows[k]? = some r ∧ r ≠ [] ∧ q = .sl 149 2 (encN tLn r) := by
      unfold rowR at hr
      rw [show 100000 + k - 100000 = k by omega] at hr
      split at hr
      · rename_i r h
        split at hr
        · cases hr
        · rename_i hne; simp only [Option.some.injEq] at hr; exact ⟨r, h, hne, hr.symm⟩
      · cases hr
    rw [hr] at hsplit
    simp only [Reg.closed, ↓reduceIte]
    have e1 : env.map (fun p => (p.1, frzRef (100000 + k) (.sl 149 2 (encN tLn r)) p.2)) = env := by
      conv => rhs; rw [← List.map_id env]
      refine List.map_congr_left fun p hp => ?_
      rw [he _ _ (by omega) p hp]; rfl
    have e2 : del (100000 + k) ((14, Reg.bx (rows.mapIdx (rowF (k + 1)))) :: rowsK (k + 1) (rowR rows)) = (14, Reg.bx (rows.mapIdx (rowF (k + 1)))) :: rowsK k (rowR rows) := by
      rw [hsplit]
      unfold del
      rw [List.filter_cons, if_pos (by simp; omega), List.filter_append]
      congr 1
      have h1 : (rowsK k (rowR rows)).filter (fun p => p.1 != 100000 + k) = rowsK k (rowR rows) := by
        rw [List.filter_eq_self]
        intro p hp
        have := mem_rowsK p hp
        simp; omega
      rw [h1]; simp
    rw [e1, e2]
    have e3 : (rowsK k (rowR rows)).map (fun p => (p.1, frzReg (100000 + k) (.sl 149 2 (encN tLn r)) p.2)) = rowsK k (rowR rows) := by
      conv => rhs; rw [← List.map_id (rowsK k (rowR rows))]
      refine List.map_congr_left fun p hp => ?_
      obtain ⟨id, hid, hee⟩ := List.mem_filterMap.1 hp
      cases hg : rowR rows id with
      | none => rw [hg] at hee; cases hee
      | some q =>
        rw [hg] at hee
        simp only [Option.map_some, Option.some.injEq] at hee; subst hee
        unfold rowR at hg
        split at hg
        · split at hg
          · cases hg
          · simp only [Option.some.injEq] at hg; subst hg; rfl
        · cases hg
    rw [List.map_cons, e3]
    refine congrArg (fun l => (⟨env, (14, Reg.bx l) :: rowsK k (rowR rows)⟩ : St)) ?_
    apply List.ext_getElem?
    intro i
    simp only [List.getElem?_map, List.getElem?_mapIdx, Option.map_map]
    cases hi : rows[i]? with
    | none => rfl
    | some r' =>
      simp only [Option.map_some, Function.comp_def, rowF]
      by_cases h0 : r' = []
      · simp [h0, frzRef, frz1, frz0]
      · simp only [h0, ↓reduceIte]
        by_cases hik : i = k
        · subst hik
          rw [hrow] at hi; cases hi
          rw [if_neg (by omega), if_pos (Nat.le_refl _)]
          simp [frzRef, frz1, frz0, reify, look]
        · by_cases hlt : k + 1 ≤ i
          · rw [if_pos hlt, if_pos (by omega)]; rfl
          · rw [if_neg hlt, if_neg (by omega)]
            simp only [frzRef, frz1, frz0]
            rw [if_neg (by omega)]

theorem frz_all {env : List (Nat × AV)} {rows : List Row} (he : ∀ id r, 100000 ≤ id → ∀ p ∈ env, frzRef id r p.2 = p.2) : ∀ k, frzN 100000 k ⟨env, (14, .bx (rows.mapIdx (rowF k))) :: rowsK k (rowR rows)⟩ = ⟨env, (14, .bx (rows.mapIdx (rowF 0))) :: []⟩
  | 0 => by simp [frzN, rowsK]
  | k + 1 => by
    rw [frzN, frz_step he k]
    exact frz_all he k

def rowT (r : Row) : T := if r = [] then .sl [] (some 0) (some true) else .sl (encN tLn r) none none

theorem frz_rows {env : List (Nat × AV)} {rows : List Row} (hl : rows.length ≤ 16384) (he : ∀ id r, 100000 ≤ id → ∀ p ∈ env, frzRef id r p.2 = p.2) : Gh.run (.frzs 100000 16384) ⟨env, (14, .bx (rowsC rows)) :: rowsH rows⟩ = ⟨env, [(14, .bx (rows.map fun r => .t (rowT r)))]⟩ := by
  have h1 : rowsC rows = rows.mapIdx (rowF 16384) := by
    apply List.ext_getElem?
    intro i
    simp only [rowsC, List.getElem?_mapIdx]
    cases hi : rows[i]? with
    | none => rfl
    | some r =>
      have := (List.getElem?_eq_some_iff.1 hi).1
      simp only [Option.map_some, rowC, rowF]
      rw [if_neg (show ¬ 16384 ≤ i by omega)]
  have h2 : rows.mapIdx (rowF 0) = rows.map fun r => .t (rowT r) := by
    apply List.ext_getElem?
    intro i
    simp only [List.getElem?_mapIdx, List.getElem?_map]
    cases rows[i]? with
    | none => rfl
    | some r =>
      simp only [Option.map_some, rowF, rowT, Nat.zero_le, ↓reduceIte]
      split <;> rfl
  have := frz_all (rows := rows) he 16384
  rw [h2] at this
  simp only [Gh.run, h1, rowsH]
  exact this
end Go.Lg

/- The fanout of a circuit: the walk. Conditions: none. -/
set_option linter.unusedSimpArgs false
set_option linter.unusedVariables false
set_option maxRecDepth 100000
namespace Go.Lg
open Go Go.Proofs
variable {Γ : Tables}

theorem rowsC_len {rows : List Row} : (rowsC rows).length = rows.length := by simp [rowsC]
theorem rowsC_at {rows : List Row} {n : Nat} (h : n < rows.length) : ((rowsC rows).drop n).take 1 = [rowC n (rows.getD n [])] := by
  have : (rowsC rows).drop n = rowC n (rows.getD n []) :: (rowsC rows).drop (n + 1) := by
    rw [List.drop_eq_getElem_cons (by rw [rowsC_len]; exact h)]
    simp [rowsC, h]
  rw [this]; rfl
theorem tLn_wid {l : Row} : wid 2 (encN tLn l) := encN_wid fun _ => rfl

theorem r10_ok {Q : AX → St → Prop} (rows : List Row) (n : Nat) (hn : n < rows.length) (hn2 : rows.length ≤ 16384) (i k : Int) (hr : (rows.getD n []).length ≤ 1000000000) (t4 t18 t19 t20 t26 t27 t28 t36 : T) (m : Nat) (hm : m = rows.length)
    (h : Q .normal ⟨[(3, .lb 14 m), (4, .t t4), (5, .t (tI i)), (18, .t t18), (19, .t t19), (20, .t t20), (26, .t t26), (27, .t t27), (28, .t t28)], (14, .bx (rowsC (addRow rows n (i, k)))) :: rowsH (addRow rows n (i, k))⟩) :
    stepsK Tryd.prog Γ netlists_Fanout_r10 ⟨[(3, .lb 14 m), (4, .t t4), (5, .t (tI i)), (7, .t (tI k)), (8, .t (tI n)), (18, .t t18), (19, .t t19), (20, .t t20), (26, .t t26), (27, .t t27), (28, .t t28), (36, .t t36)], (14, .bx (rowsC rows)) :: rowsH rows⟩
      (fun s1 => Q .normal (ghs [.renS 47 100000 8, .keepB [3, 4, 5, 18, 19, 20, 26, 27, 28] [14] 100000 16384] s1)) ⟨⟩ := by
  subst hm
  have hw : wid 2 [[tI i, tI k]] := by intro e he; simp at he; subst he; rfl
  have hlk47 : look (rowsH rows) 47 = none := by rw [rowsH, look_rowsK, if_neg (by omega)]
  have hat := rowsC_at hn
  have hlk : look (rowsH rows) (100000 + n) = if rows.getD n [] = [] then none else some (.sl 149 2 (encN tLn (rows.getD n []))) := by
    rw [rowsH, look_rowsK, if_pos (by omega)]
    unfold rowR
    rw [show 100000 + n - 100000 = n by omega, List.getElem?_eq_getElem hn]
    simp [hn]
  have hadd : addRow rows n (i, k) = rows.set n (rows.getD n [] ++ [(i, k)]) := rfl
  have fin := @keepB_add
  generalize hrow : rows.getD n [] = row at hr hat hlk hadd
  have hlen1 : n + 1 ≤ rows.length := hn
  have hset : ∀ (j : Nat), j ≠ n → ∀ (l : List AV) (x : AV), l.length = rows.length → (l.take n ++ x :: l.drop (n + 1))[j]? = l[j]? := by
    intro j hj l x hl
    rw [List.getElem?_append]
    by_cases hlt : j < n
    · rw [if_pos (by simp; omega), List.getElem?_take, if_pos hlt]
    · rw [if_neg (by simp; omega)]
      have e : (l.take n).length = n := by simp; omega
      rw [e, show j - n = (j - n - 1) + 1 by omega, List.getElem?_cons_succ, List.getElem?_drop]
      congr 1; omega
  have hseta : ∀ (l : List AV) (x : AV), l.length = rows.length → (l.take n ++ x :: l.drop (n + 1))[n]? = some x := by
    intro l x hl
    rw [List.getElem?_append, if_neg (by simp; omega)]
    have e : (l.take n).length = n := by simp; omega
    rw [e]; simp
  by_cases h0 : row = []
  · subst h0
    simp only [rowC, ↓reduceIte] at hat hlk
    simp (disch := omega) [-Gh.run, hat, rowsC_len, hn, hw, hlk47, hlen1]
    rw [show ∀ st, look st.env 8 = some (.t (tI n)) → (Gh.renS 47 100000 8).run st = renSt 47 (100000 + n) st from fun st hs => by simp [Gh.run, hs]]
    rw [fin (p := (i, k)) hn hn2 (by simp [rowsC_len]; omega) (fun j hj => hset j hj _ _ rowsC_len) (by rw [hseta _ _ rowsC_len, hrow]; first | done | rfl) (by rw [hrow]; first | done | rfl) (by simp [look]) (by rw [look, if_neg (by omega), look, if_neg (by omega)]; exact hlk) (fun t h1 h2 h3 => ?_) (fun q hq => ?_)]
    · simpa [renRef, ren1, ren0, toName] using h
    · rw [look, if_neg (by omega), look, if_neg (by omega), rowsH, look_rowsK, if_pos (by omega)]
    · rcases List.mem_cons.1 hq with rfl | hq
      · exact .inl rfl
      · rcases List.mem_cons.1 hq with rfl | hq
        · exact .inr (.inl rfl)
        · have := mem_rowsK q hq; exact .inr (.inr (by omega))
    · rfl
  · simp only [rowC, h0, ↓reduceIte] at hat hlk
    have h14 : ¬ 14 = 100000 + n := by omega
    have htl : ∀ t, look ((rowsH rows).filter fun p => p.1 != 100000 + n) t = if t = 100000 + n then none else look (rowsH rows) t := fun t => look_del (100000 + n) (rowsH rows) t
    have hkl : ∀ l : List (Nat × Reg), (∀ p ∈ l, p ∈ rowsH rows) → l.map (fun p => (p.1, killReg (100000 + n) p.2)) = l := by
      intro l hl
      conv => rhs; rw [← List.map_id l]
      refine List.map_congr_left fun p hp => ?_
      obtain ⟨id, hid, hee⟩ := List.mem_filterMap.1 (hl p hp)
      cases hg : rowR rows id with
      | none => rw [hg] at hee; cases hee
      | some q =>
        rw [hg] at hee
        simp only [Option.map_some, Option.some.injEq] at hee; subst hee
        unfold rowR at hg
        split at hg
        · split at hg
          · cases hg
          · simp only [Option.some.injEq] at hg; subst hg; rfl
        · cases hg
    have hk : (del (100000 + n) ((14, Reg.bx (rowsC rows)) :: rowsH rows)).map (fun p => (p.1, killReg (100000 + n) p.2)) = (14, .bx ((rowsC rows).map (killRef (100000 + n)))) :: (rowsH rows).filter fun p => p.1 != 100000 + n := by
      have e : del (100000 + n) ((14, Reg.bx (rowsC rows)) :: rowsH rows) = (14, Reg.bx (rowsC rows)) :: (rowsH rows).filter fun p => p.1 != 100000 + n := by
        unfold del
        rw [List.filter_cons, if_pos (by simp; omega)]
      rw [e, List.map_cons, hkl _ (fun p hp => (List.mem_filter.1 hp).1)]
      rfl
    have hl47 : look ((rowsH rows).filter fun p => p.1 != 100000 + n) 47 = none := by rw [htl, if_neg (by omega)]; exact hlk47
    generalize htail : (rowsH rows).filter (fun p => p.1 != 100000 + n) = tl at htl hk hl47
    have hkeys : ∀ q ∈ tl, 100000 ≤ q.1 ∧ q.1 < 116384 := by
      intro q hq
      rw [← htail] at hq
      have := mem_rowsK q (List.mem_filter.1 hq).1
      omega
    have hcs : ∀ j, j ≠ n → ((rowsC rows).map (killRef (100000 + n)))[j]? = (rowsC rows)[j]? := by
      intro j hj
      simp only [rowsC, List.getElem?_map, List.getElem?_mapIdx, Option.map_map]
      cases rows[j]? with
      | none => rfl
      | some r =>
        simp only [Option.map_some, Function.comp_def, rowC]
        split
        · rfl
        · simp only [killRef, kill1]; rw [if_neg (by omega)]
    have hcl : ((rowsC rows).map (killRef (100000 + n))).length = rows.length := by simp [rowsC_len]
    simp (disch := omega) [-Gh.run, -del, -killReg, hat, rowsC_len, hn, hw, hlk, hlen1, encN_len, tLn_wid, h14, hk, hl47]
    refine ⟨by omega, ?_⟩
    rw [show ∀ st, look st.env 8 = some (.t (tI n)) → (Gh.renS 47 100000 8).run st = renSt 47 (100000 + n) st from fun st hs => by simp [Gh.run, hs]]
    · rw [fin (p := (i, k)) hn hn2 (by simp [hcl]; omega) (fun j hj => (hset j hj _ _ hcl).trans (hcs j hj)) (by rw [hseta _ _ hcl, hrow]) (by rw [hrow]; simp [look]; rw [show [tI i, tI k] = tLn (i, k) from rfl, encN_snoc]) (by simp [look]) (by rw [look, if_neg (by omega), look, if_neg (by omega), htl, if_pos rfl]) (fun t h1 h2 h3 => ?_) (fun q hq => ?_)]
      · simpa [renRef, ren1, ren0, toName] using h
      · rw [look, if_neg (by omega), look, if_neg (by omega), htl, if_neg h3, rowsH, look_rowsK, if_pos (by omega)]
      · rcases List.mem_cons.1 hq with rfl | hq
        · exact .inl rfl
        · rcases List.mem_cons.1 hq with rfl | hq
          · exact .inr (.inl rfl)
          · exact .inr (.inr (hkeys q hq))
    · rfl
end Go.Lg

/- The fanout of a circuit: its contract. Conditions: none. -/
set_option linter.unusedSimpArgs false
set_option linter.unusedVariables false
set_option maxRecDepth 100000
namespace Go.Lg
open Go Go.Proofs
variable {Γ : Tables}

def fanPins (c : Cir) (i : Nat) : List Int → Nat → List Row → List Row
  | [], _, rows => rows
  | n :: l, k, rows => fanPins c i l (k + 1) (if outP c n then rows else addRow rows n.toNat (i, k))
def fanNodes (c : Cir) : List Nd → Nat → List Row → List Row
  | [], _, rows => rows
  | x :: l, i, rows => fanNodes c l (i + 1) (fanPins c i x.inn.l 0 rows)
def RB (rows : List Row) (B : Nat) : Prop := ∀ r ∈ rows, r.length ≤ B

theorem RB.add {rows : List Row} {B n : Nat} {p : Int × Int} (h : RB rows B) : RB (addRow rows n p) (B + 1) := by
  intro r hr
  unfold addRow at hr
  by_cases hn : n < rows.length
  · rcases List.mem_or_eq_of_mem_set hr with hr | rfl
    · have := h r hr; omega
    · have : (rows.getD n []).length ≤ B := by
        have e : rows.getD n [] = rows[n] := by simp [hn]
        rw [e]; exact h _ (List.getElem_mem hn)
      simp at this ⊢; omega
  · rw [List.set_eq_of_length_le (by omega)] at hr
    have := h r hr; omega
theorem RB.mono {rows : List Row} {B C : Nat} (h : RB rows B) (hc : B ≤ C) : RB rows C := fun r hr => Nat.le_trans (h r hr) hc
theorem RB.at {rows : List Row} {B : Nat} (h : RB rows B) (n : Nat) : (rows.getD n []).length ≤ B := by
  by_cases hn : n < rows.length
  · have e : rows.getD n [] = rows[n] := by simp [hn]
    rw [e]; exact h _ (List.getElem_mem hn)
  · simp [List.getD, List.getElem?_eq_none (Nat.not_lt.1 hn)]
theorem fanPins_ok (c : Cir) (i : Nat) : ∀ (l : List Int) (k : Nat) (rows : List Row) (B : Nat), RB rows B → (fanPins c i l k rows).length = rows.length ∧ RB (fanPins c i l k rows) (B + l.length)
  | [], k, rows, B, h => ⟨rfl, h⟩
  | n :: l, k, rows, B, h => by
    simp only [fanPins, List.length_cons]
    split
    · have := fanPins_ok c i l (k + 1) rows B h
      exact ⟨this.1, this.2.mono (by omega)⟩
    · have := fanPins_ok c i l (k + 1) _ (B + 1) (h.add (n := n.toNat) (p := (i, k)))
      exact ⟨this.1.trans addRow_len, this.2.mono (by omega)⟩

theorem pins_loop {Q : AX → St → Prop} (c : Cir) (hn : c.nodes.l.length ≤ 16384) (i : Nat) (s : Sl Int) (hs : s.l.length ≤ 1000000000) (R : List Row)
    (h0 : Q (.exit 2) ⟨[(3, .lb 14 c.nodes.l.length), (4, .t (.fn 126 [.ip (tC c) 0])), (5, .t (tI i)), (18, .t (tNodes c.nodes)), (19, .t (tI c.nodes.l.length)), (20, .t (tI i)), (26, .t (tSl s)), (27, .t (tI s.l.length)), (28, .t (tI s.l.length)), (29, .t (tB false))], (14, .bx (rowsC R)) :: rowsH R⟩) :
    ∀ (kk k : Nat) (rows : List Row), kk + k = s.l.length → rows.length = c.nodes.l.length → (∀ n, (rows.getD n []).length + kk ≤ 1000000000) → fanPins c i (s.l.drop k) k rows = R →
    run Tryd.prog Γ netlists_Fanout_l1 Q ⟨[(3, .lb 14 c.nodes.l.length), (4, .t (.fn 126 [.ip (tC c) 0])), (5, .t (tI i)), (18, .t (tNodes c.nodes)), (19, .t (tI c.nodes.l.length)), (20, .t (tI i)), (26, .t (tSl s)), (27, .t (tI s.l.length)), (28, .t (tI k))], (14, .bx (rowsC rows)) :: rowsH rows⟩
  | 0, k, rows, h, hl, hb, hR => by
    refine netlists_Fanout_l1_run fun K hK => ?_
    have h2 : ¬ k < s.l.length := by omega
    have h3 : k = s.l.length := by omega
    simp [h2, -Gh.run, keepB_S]
    subst h3
    rw [List.drop_of_length_le (Nat.le_refl _)] at hR
    simp only [fanPins] at hR
    subst hR
    exact h0
  | kk + 1, k, rows, h, hl, hb, hR => by
    refine netlists_Fanout_l1_run fun K hK => ?_
    have h2 : k < s.l.length := by omega
    rw [List.drop_eq_getElem_cons h2] at hR
    simp only [fanPins] at hR
    have e := outside1_spec (Γ := Γ) c s.l[k] (by omega)
    simp (disch := omega) [h2, -Gh.run, keepB_S, -netlists_Fanout_r10, tSl, enc1_len, enc1_get (0 : Int), enc1_wid]
    refine callK_clos e ?_
    by_cases ho : outP c s.l[k] = true
    · rw [if_pos ho] at hR
      simp (disch := omega) [ho, -Gh.run, keepB_S, -netlists_Fanout_r10, wrap_i64]
      rw [hK]
      have := pins_loop c hn i s hs R h0 kk (k + 1) rows (by omega) hl (fun n => by have := hb n; omega) hR
      simpa [tSl] using this
    · have ho' : outP c s.l[k] = false := by simpa using ho
      rw [if_neg ho] at hR
      have hr := any_out (c := c) (l := [s.l[k]]) (by simp [ho']) s.l[k] (by simp)
      simp (disch := omega) [ho', -Gh.run, keepB_S, -netlists_Fanout_r10]
      have hz : ((s.l[k]).toNat : Int) = s.l[k] := by omega
      have := r10_ok (Γ := Γ) (Q := blockX 3 (thenX (run Tryd.prog Γ (.reg netlists_Fanout_r11 [.keepB [3, 4, 5, 18, 19, 20, 26, 27, 28] [14] 100000 16384]) (thenX (fun s => thenX K Q .normal (ghs [.keepB [3, 4, 5, 18, 19, 20, 26, 27, 28] [14] 100000 16384] s)) (thenX K Q))) (thenX (fun s => thenX K Q .normal (ghs [.keepB [3, 4, 5, 18, 19, 20, 26, 27, 28] [14] 100000 16384] s)) (thenX K Q)))) rows (s.l[k]).toNat (by omega) (by omega) i k (by have := hb (s.l[k]).toNat; omega)
        (.fn 126 [.ip (tC c) 0]) (tNodes c.nodes) (tI c.nodes.l.length) (tI i) (.sl (ints s.l) s.cap s.nl) (tI s.l.length) (tI k) (tB true) c.nodes.l.length hl.symm ?_
      · rw [hz] at this; exact this
      · simp (disch := omega) [-Gh.run, keepB_S, wrap_i64]
        rw [hK]
        have hbb : ∀ n, ((addRow rows (s.l[k]).toNat (i, k)).getD n []).length + kk ≤ 1000000000 := by
          intro n
          unfold addRow
          have h5 := hb n
          have h6 := hb (s.l[k]).toNat
          by_cases hq : n = (s.l[k]).toNat
          · subst hq
            have hlt : (s.l[k]).toNat < rows.length := by omega
            simp [List.getD, List.getElem?_set, hlt] at h6 ⊢
            omega
          · have : ¬ (s.l[k]).toNat = n := fun e => hq e.symm
            simp [List.getD, List.getElem?_set, this] at h5 ⊢
            omega
        have := pins_loop c hn i s hs R h0 kk (k + 1) (addRow rows (s.l[k]).toNat (i, k)) (by omega) (addRow_len.trans hl) hbb hR
        simpa [tSl] using this
end Go.Lg

/- The fanout of a circuit: its contract, the outer loops. Conditions: none. -/
set_option linter.unusedSimpArgs false
set_option linter.unusedVariables false
set_option maxRecDepth 100000
namespace Go.Lg
open Go Go.Proofs
variable {Γ : Tables}

theorem gh_keep {ks rs : List Nat} {st : St} : Gh.run (.keep ks rs) st = ⟨(killAll ((st.hp.map (·.1)).filter fun id => !rs.contains id) ⟨Lg.keep ks st.env, st.hp⟩).env, Lg.keep rs (killAll ((st.hp.map (·.1)).filter fun id => !rs.contains id) ⟨Lg.keep ks st.env, st.hp⟩).hp⟩ := rfl

theorem keepB_6k {env : List (Nat × AV)} {ks : List Nat} {rows : List Row} {q : Reg} : Gh.run (.keepB ks [6, 14] 100000 16384) ⟨env, (6, q) :: (14, .bx (rowsC rows)) :: rowsH rows⟩ = ⟨Lg.keep ks env, (6, q) :: (14, .bx (rowsC rows)) :: rowsH rows⟩ := by
  have hk : (((6, q) :: (14, Reg.bx (rowsC rows)) :: rowsH rows).map (·.1)).filter (fun id => !([6, 14] : List Nat).contains id && !(decide (100000 ≤ id) && decide (id < 100000 + 16384))) = [] := by
    rw [List.filter_eq_nil_iff]
    intro id hid
    simp only [List.map_cons, List.mem_cons] at hid
    rcases hid with rfl | rfl | hid
    · simp
    · simp
    · obtain ⟨p, hp, rfl⟩ := List.mem_map.1 hid
      have := mem_rowsK p hp
      simp; omega
  simp only [Gh.run, keepBSt, hk, killAll, keep_cons, keep_nil, look, ↓reduceIte]
  simp only [show ¬ (6 = 14) by omega, ↓reduceIte, List.cons_append, List.nil_append]
  congr 3
  refine keep_rows fun t ht => ?_
  rw [List.mem_range'_1] at ht
  rw [look, if_neg (by omega), look_rows, if_neg (by omega), if_pos ⟨ht.1, by omega⟩]

theorem nodes_loop {Q : AX → St → Prop} (c : Cir) (hn : c.nodes.l.length ≤ 16384) (hi : ∀ x ∈ c.nodes.l, x.inn.l.length ≤ 16) (R : List Row)
    (h0 : Q (.exit 0) ⟨[(3, .lb 14 c.nodes.l.length), (4, .t (.fn 126 [.ip (tC c) 0])), (18, .t (tNodes c.nodes)), (19, .t (tI c.nodes.l.length)), (20, .t (tI c.nodes.l.length)), (21, .t (tB false))], (14, .bx (rowsC R)) :: rowsH R⟩) :
    ∀ (kk i : Nat) (rows : List Row), kk + i = c.nodes.l.length → rows.length = c.nodes.l.length → RB rows (16 * i) → fanNodes c (c.nodes.l.drop i) i rows = R →
    run Tryd.prog Γ netlists_Fanout_l3 Q ⟨[(3, .lb 14 c.nodes.l.length), (4, .t (.fn 126 [.ip (tC c) 0])), (18, .t (tNodes c.nodes)), (19, .t (tI c.nodes.l.length)), (20, .t (tI i))], (14, .bx (rowsC rows)) :: rowsH rows⟩
  | 0, i, rows, h, hl, hb, hR => by
    refine netlists_Fanout_l3_run fun K hK => ?_
    have h2 : ¬ i < c.nodes.l.length := by omega
    have h3 : i = c.nodes.l.length := by omega
    simp [h2, -Gh.run, keepB_S]
    subst h3
    rw [List.drop_of_length_le (Nat.le_refl _)] at hR
    simp only [fanNodes] at hR
    subst hR
    exact h0
  | kk + 1, i, rows, h, hl, hb, hR => by
    refine netlists_Fanout_l3_run fun K hK => ?_
    have h2 : i < c.nodes.l.length := by omega
    rw [List.drop_eq_getElem_cons h2] at hR
    simp only [fanNodes] at hR
    have hx := hi _ (List.getElem_mem h2)
    have hlk6 : look (rowsH rows) 6 = none := by rw [rowsH, look_rowsK, if_neg (by omega)]
    simp (disch := omega) [h2, -Gh.run, keepB_S, keepB_6, keepB_6k, tNodes, encN_len, encN_get Nd.d, tNd_wid, tNd, tSl, hlk6, enc1_len]
    refine pins_loop c hn i c.nodes.l[i].inn (by omega) _ ?_ c.nodes.l[i].inn.l.length 0 rows (by omega) hl (fun n => by have := hb.at n; omega) rfl
    obtain ⟨hf1, hf2⟩ := fanPins_ok c i c.nodes.l[i].inn.l 0 rows (16 * i) hb
    simp (disch := omega) [-Gh.run, keepB_S, wrap_i64, List.drop_zero]
    rw [hK]
    have := nodes_loop c hn hi R h0 kk (i + 1) _ (by omega) (hf1.trans hl) (hf2.mono (by omega)) hR
    simpa [tNodes] using this

def rowTC (r : Row) : T := .sl (encN tLn r) (some r.length) (if r = [] then some true else none)
theorem clip_row (r : Row) : PureCalls Tryd.prog Γ 108 [rowT r] (rowTC r) := by
  unfold rowT rowTC
  by_cases h : r = []
  · subst h; simpa [encN] using clip_line (Γ := Γ) [] (some 0) (some true) wid_nil
  · rw [if_neg h, if_neg h]
    have := clip_line (Γ := Γ) (encN tLn r) none none tLn_wid
    rwa [encN_len] at this

def mixC (rows : List Row) (i : Nat) : List AV := rows.mapIdx fun j r => .t (if j < i then rowTC r else rowT r)

theorem mixC_len {rows : List Row} {i : Nat} : (mixC rows i).length = rows.length := by simp [mixC]
theorem mixC_at {rows : List Row} {i : Nat} (h : i < rows.length) : ((mixC rows i).drop i).take 1 = [.t (rowT rows[i])] := by
  rw [List.drop_eq_getElem_cons (by rw [mixC_len]; exact h)]
  simp [mixC]
theorem mixC_next {rows : List Row} {i : Nat} (h : i < rows.length) : (mixC rows i).take i ++ .t (rowTC rows[i]) :: (mixC rows i).drop (i + 1) = mixC rows (i + 1) := by
  apply List.ext_getElem?
  intro j
  rw [List.getElem?_append]
  have e : ((mixC rows i).take i).length = i := by simp [mixC_len]; omega
  rw [e]
  by_cases h1 : j < i
  · rw [if_pos h1, List.getElem?_take, if_pos h1]
    simp only [mixC, List.getElem?_mapIdx]
    cases rows[j]? with
    | none => rfl
    | some r => simp only [Option.map_some]; rw [if_pos h1, if_pos (by omega)]
  · rw [if_neg h1]
    by_cases h2 : j = i
    · subst h2
      simp [mixC, List.getElem?_eq_getElem h]
    · rw [show j - i = (j - i - 1) + 1 by omega, List.getElem?_cons_succ, List.getElem?_drop]
      rw [show i + 1 + (j - i - 1) = j by omega]
      simp only [mixC, List.getElem?_mapIdx]
      cases rows[j]? with
      | none => rfl
      | some r => simp only [Option.map_some]; rw [if_neg h1, if_neg (by omega)]

theorem clip_loop {Q : AX → St → Prop} (rows : List Row) (hn : rows.length ≤ 16384)
    (h0 : Q (.exit 4) ⟨[(3, .lb 14 rows.length), (51, .lb 14 rows.length), (52, .t (tI rows.length)), (53, .t (tI rows.length)), (54, .t (tB false))], [(14, .bx (mixC rows rows.length))]⟩) :
    ∀ (kk i : Nat), kk + i = rows.length →
    run Tryd.prog Γ netlists_Fanout_l5 Q ⟨[(3, .lb 14 rows.length), (51, .lb 14 rows.length), (52, .t (tI rows.length)), (53, .t (tI i))], [(14, .bx (mixC rows i))]⟩
  | 0, i, h => by
    refine netlists_Fanout_l5_run fun K hK => ?_
    have h2 : ¬ i < rows.length := by omega
    have h3 : i = rows.length := by omega
    simp [h2]
    subst h3
    exact h0
  | kk + 1, i, h => by
    refine netlists_Fanout_l5_run fun K hK => ?_
    have h2 : i < rows.length := by omega
    have h3 : i + 1 ≤ rows.length := h2
    have e := clip_row (Γ := Γ) rows[i]
    have ho : (rowT rows[i]).one = true := by unfold rowT; split <;> rfl
    simp (disch := omega) [h2, h3, mixC_at h2, mixC_len]
    refine callK_pure e rfl ?_
    simp (disch := omega) [h2, h3, mixC_len, wrap_i64, rowTC]
    rw [hK]
    have := clip_loop rows hn h0 kk (i + 1) (by omega)
    rw [← mixC_next h2] at this
    simpa [rowTC] using this

def fanRows (c : Cir) : List Row := fanNodes c c.nodes.l 0 (List.replicate c.nodes.l.length [])
def tFan (rows : List Row) : T := .sl (enc1 rowTC rows) (some rows.length) none

theorem fanNodes_len (c : Cir) : ∀ (l : List Nd) (i : Nat) (rows : List Row), (fanNodes c l i rows).length = rows.length
  | [], _, _ => rfl
  | x :: l, i, rows => by
    simp only [fanNodes]
    rw [fanNodes_len c l]
    exact (fanPins_ok c i x.inn.l 0 rows (rows.foldr (fun r m => r.length + m) 0) (by
      intro r hr
      induction rows with
      | nil => cases hr
      | cons y ys ih =>
        simp only [List.foldr_cons]
        rcases List.mem_cons.1 hr with rfl | hr
        · omega
        · have := ih hr; omega)).1
theorem fanRows_len (c : Cir) : (fanRows c).length = c.nodes.l.length := by rw [fanRows, fanNodes_len]; simp

theorem fanout_spec (c : Cir) (hn : c.nodes.l.length ≤ 16384) (hi : ∀ x ∈ c.nodes.l, x.inn.l.length ≤ 16) : PureCalls Tryd.prog Γ 77 [.agg (tC c)] (tFan (fanRows c)) := by
  refine run_pureQ netlists_Fanout_chk rfl ?_
  have eo := outside_spec (Γ := Γ) c
  have hR := fanRows_len c
  have hk1 : ∀ (env : List (Nat × AV)) (ks : List Nat), Gh.run (.keepB ks [14] 100000 16384) ⟨env, [(14, .bx (List.replicate c.nodes.l.length (.t (.sl [] (some 0) (some true)))))]⟩ = ⟨Lg.keep ks env, (14, .bx (rowsC (List.replicate c.nodes.l.length []))) :: rowsH (List.replicate c.nodes.l.length [])⟩ := by
    intro env ks
    have hc : rowsC (List.replicate c.nodes.l.length []) = List.replicate c.nodes.l.length (.t (.sl [] (some 0) (some true))) := by
      apply List.ext_getElem?
      intro j
      simp only [rowsC, List.getElem?_mapIdx, List.getElem?_replicate]
      split <;> simp [rowC]
    refine keepB_gen (by simp) (by simp [look, hc]) fun t h1 h2 => ?_
    rw [look, if_neg (by omega)]
    unfold rowR
    rw [List.getElem?_replicate]
    split <;> rename_i hq
    · split at hq
      · simp only [Option.some.injEq] at hq; subst hq; rfl
      · cases hq
    · rfl
  simp (disch := omega) [netlists_Fanout_ic, tC, tNodes, tNames, tMems, tSl, encN_len, -Gh.run, gh_keep, hk1, wrap_i64]
  refine ⟨by omega, ?_⟩
  refine callK_pure eo rfl ?_
  simp (disch := omega) [-Gh.run, keepB_S, encN_len]
  have hp0 : RB (List.replicate c.nodes.l.length []) (16 * 0) := by
    intro r hr; rw [List.eq_of_mem_replicate hr]; simp
  refine nodes_loop c hn hi (fanRows c) ?_ c.nodes.l.length 0 (List.replicate c.nodes.l.length []) (by omega) (by simp) hp0 rfl
  generalize fanRows c = R at hR
  rw [← hR]
  simp (disch := omega) [-Gh.run]
  rw [frz_rows (by omega) (fun id r h p hp => by
    simp only [List.mem_cons, List.not_mem_nil, or_false] at hp
    have h14 : ¬ 14 = id := by omega
    rcases hp with rfl | rfl | rfl | rfl | rfl | rfl | rfl | rfl | rfl <;> simp [frzRef, frz1, frz0, h14])]
  have hmix : (R.map fun r => AV.t (rowT r)) = mixC R 0 := by
    apply List.ext_getElem?
    intro j
    simp only [List.getElem?_map, mixC, List.getElem?_mapIdx]
    cases R[j]? <;> simp
  rw [hmix]
  simp
  refine clip_loop R (by omega) ?_ R.length 0 (by omega)
  have hfin : mixC R R.length = (R.map rowTC).map .t := by
    apply List.ext_getElem?
    intro j
    simp only [List.getElem?_map, mixC, List.getElem?_mapIdx, Option.map_map]
    cases hj : R[j]? with
    | none => rfl
    | some r =>
      have := (List.getElem?_eq_some_iff.1 hj).1
      simp only [Option.map_some, Function.comp_def]
      rw [if_pos this]
  have hopt : optAll ((mixC R R.length).map (reify [(14, .bx (mixC R R.length))] 3)) = some (R.map rowTC) := by
    conv => lhs; rw [hfin]
    rw [List.map_map]
    have : (R.map rowTC).map (reify [(14, .bx ((R.map rowTC).map .t))] 3 ∘ AV.t) = (R.map rowTC).map fun t => some t := List.map_congr_left fun t _ => by simp [reify]
    rw [this]; exact optAll_some
  simp [netlists_Fanout_rv, tFan, hopt, enc1]
end Go.Lg
