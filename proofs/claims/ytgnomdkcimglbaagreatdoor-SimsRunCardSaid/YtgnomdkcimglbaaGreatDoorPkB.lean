/- THE LOGIC, part 19b: rows of variables, the ranges over strings are sound. Conditions: none. -/
import Derived.Test.YtgnomdkcimglbaaGreatDoorPkA
import Derived.ArgAppend
import Derived.DeepKeys
import Derived.Orders
set_option linter.unusedSimpArgs false
set_option linter.unusedVariables false
namespace Go.Lg
open Go
section
variable {P : Program} {Γ : Tables} {w0 : World} {B : Nat} {κ : D6} {X : Nat → Prop} {μ : D6} {st : St} {tm : Array Value} {w : World} {ds : List Deferred} {o : Oper}
theorem qGV {t ty d : TypeId} {zs : List Value} {l c : Operand} {n m : Int} {k1 k2 : IntKind} (he : Ei P t ty 1) (hzo : Dq P ty = some zs) (hc1 : Lh zs = true) (h : Bo w0 B κ X μ st tm w) (hg : Gl Γ w X) (ho : o.op = .makeSlice t l c) (kl : Aj l = true) (kc : Aj c = true)
    (hl : ev Γ st.env l = some (.t (.v (.int k1 n)))) (hc : ev Γ st.env c = some (.t (.v (.int k2 m)))) (h0 : 0 ≤ n) (hnm : n = m) (hm : m ≤ 2147483648) (hd : A7 st.hp d = none) (hdb : d < 1000000) :
    Ap P w0 B κ X o (.lb d n.toNat) ⟨st.env, (d, .bx (List.replicate n.toNat (.t (C5 (zs.headD undef))))) :: st.hp⟩ tm w ds := by
  subst hnm
  obtain ⟨arr, harr, hsz, hzl, hrun⟩ := q9T (ds := ds) he hzo hc1 h hg ho kl kc hl hc h0 (by omega) hm
  obtain ⟨z, rfl⟩ : ∃ z, zs = [z] := by
    match zs, hzl with
    | [z], _ => exact ⟨z, rfl⟩
  have harr' : arr.toList = List.replicate n.toNat z := by
    rw [harr]; simp [List.flatten_replicate_singleton]
  have hsz' : arr.size = n.toNat := by rw [hsz]; omega
  have hz1 : z.oneCell' = true := by simpa [Lh] using hc1
  refine Ap.region h (arr := arr) (ty := ty) (v := .slice (some ⟨w.heap.size, 0, none⟩) n.toNat n.toNat) w.drawn hd hdb hrun ?_ ?_
  · have hon : Cc (List.replicate n.toNat (AV.t (C5 z))) = true := List.all_eq_true.2 fun a ha => by rw [List.eq_of_mem_replicate ha]; exact q23 hz1
    have := q9P (ty := ty) (as := List.replicate n.toNat (AV.t (C5 z))) (xs := arr.toList) h w.drawn hd hon ⟨by simp [hsz'], fun k a x ha hx => by
      rw [harr'] at hx
      rw [List.eq_of_mem_replicate (List.mem_of_getElem? ha), List.eq_of_mem_replicate (List.mem_of_getElem? hx)]
      exact .t _ _ (q18 z)⟩
    simpa using this
  · have := AR.lb (w := World.alloc { w with drawn := w.drawn } (.cells arr ty)) (X := X) (μ := μ.set d (some (w.heap.size, arr.size))) (sh := St.sh ⟨st.env, (d, .bx (List.replicate n.toNat (.t (C5 ([z].headD undef))))) :: st.hp⟩) d w.heap.size n.toNat (by rw [Rj]; rfl) (by simp only [D6.set, ↓reduceIte, hsz']) (Ll (by omega))
    exact this
theorem qB7 {t e : TypeId} {s : Nat} {cs : List AV} {x i : Operand} {id m : Nat} {k : IntKind} {n : Int} (h : Bo w0 B κ X μ st tm w) (hg : Gl Γ w X) (ho : o.op = .indexAddr t x i) (kx : Aj x = true) (ki : Aj i = true)
    (hu : slO P t = some e) (hz : N6 P e = some s) (hx : ev Γ st.env x = some (.lb id m)) (hl : A7 st.hp id = some (.bx cs)) (hs1 : s = 1) (hi : ev Γ st.env i = some (.t (.v (.int k n)))) (h0 : 0 ≤ n) (h1 : n < m) :
    Ap P w0 B κ X o (.lp id 0 n.toNat) st tm w ds := by
  have hix := (B6 (ds := ds) h hg hi ki).t_inv.v_inv
  obtain ⟨g, hs, hm, hle, he⟩ := (B6 (ds := ds) h hg hx kx).lb_inv
  subst hs1
  refine Ap.same h (v := .pointer (some ⟨g, n.toNat, none⟩)) ?_ (.lpbx id _ g m hs hm)
  have hlt : (0 ≤ n ∧ n < (m : Int)) := ⟨h0, h1⟩
  simp [execOp, ho, he, hix, Instr.indexAt, asIntOf, run_underlying (By hu), hlt, Dj hz, Addr.add_lit, Nat.add_mul]
theorem qGW {t d : TypeId} {x : Operand} {s : ByteArray} (h : Bo w0 B κ X μ st tm w) (hg : Gl Γ w X) (ho : o.op = .range t x) (kx : Aj x = true) (hu : q3h P t = true) (hx : ev Γ st.env x = some (.t (.v (.string s)))) (hd : A7 st.hp d = none) (hdb : d < 1000000) :
    Ap P w0 B κ X o (.li d) ⟨st.env, (d, .it s 0) :: st.hp⟩ tm w ds := by
  have hxv := (B6 (ds := ds) h hg hx kx).t_inv.v_inv
  have hb : RowKit.Below w.heap.size w (w.alloc (.stringIter s 0)) := (RowKit.Below.refl _ _).alloc (Nat.le_refl _) _
  have h2 := h.grow (X' := X) hb (fun _ hx => hx) (fun b hx => .inl hx)
  refine ⟨_, .pointer (some ⟨w.heap.size, 0, none⟩), w.alloc (.stringIter s 0), μ.set d (some (w.heap.size, 0)), X, by simp [execOp, ho, Instr.range, hxv, run_underlying (Tu hu)], .inl rfl, h2.addReg hd hdb (.it s 0) (some (w.heap.size, 0)) ?_ ?_, ?_, fun _ hx => hx, fun b hx => hb.block b (h.xlt b hx), fun _ hx => .inl hx⟩
  · intro g m e
    cases e
    refine ⟨fun hx => ?_, by simp, fun hlt => absurd h.size (by omega), fun id n' hi hm => ?_⟩
    · have := h.xlt _ hx; omega
    · have := (h.loc id _ _ hi hm).2.1; omega
  · exact ⟨w.heap.size, 0, by simp [D6.set], heap_alloc_new w _⟩
  · exact .li d w.heap.size 0 (by rw [Rj]; rfl) (by simp [D6.set])
theorem qGX {x : Operand} {s : ByteArray} {id pos : Nat} (h : Bo w0 B κ X μ st tm w) (hg : Gl Γ w X) (ho : o.op = .next x true) (kx : Aj x = true) (hx : ev Γ st.env x = some (.li id)) (hl : A7 st.hp id = some (.it s pos)) :
    (pos < s.size → Ap P w0 B κ X o (.t (.tup [.v (.bool true), .v (.int .i64 pos), .v (.int .i32 (Utf8.decode s pos).1)])) ⟨st.env, Fq id (.it s (pos + (Utf8.decode s pos).2)) st.hp⟩ tm w ds) ∧
    (¬ pos < s.size → Ap P w0 B κ X o (.t (.tup [.v (.bool false)])) st tm w ds) := by
  obtain ⟨g, m, hs, hm, he⟩ := (B6 (ds := ds) h hg hx kx).li_inv
  obtain ⟨g', n', hm', hh⟩ := h.reg _ _ hl
  rw [hm] at hm'; cases hm'
  have hglt : g < w.heap.size := (Array.getElem?_eq_some_iff.1 hh).1
  constructor
  · intro hp
    obtain ⟨hsim, hs'⟩ := h.setReg hl (r' := .it s (pos + (Utf8.decode s pos).2)) rfl hm (w' := { w with heap := w.heap.setIfInBounds g (.stringIter s (pos + (Utf8.decode s pos).2)) }) rfl rfl rfl (by simp) (fun j hj => by simp [Array.getElem?_setIfInBounds, Ne.symm hj])
      (fun hs' => ⟨g, m, hm, by simp [hglt]⟩)
    refine ⟨_, .tuple #[.bool true, goInt pos, .int .i32 (Utf8.decode s pos).1], _, μ, X, ?_, .inl rfl, hsim, .t _ _ (TR.mk_tup (Fj.cons (.v _) (Fj.cons (.v _) (Fj.cons (.v _) (Fj.nil _ _))))), fun _ hx => hx, hs', fun _ hx => .inl hx⟩
    simp [execOp, ho, he, Instr.next, getObj, setObj, Sem.run, hh, hp, goInt]
  · intro hp
    refine Ap.same h (v := .tuple #[.bool false]) ?_ (.t _ _ (TR.mk_tup (Fj.cons (.v _) (Fj.nil _ _))))
    simp [execOp, ho, he, Instr.next, getObj, Sem.run, hh, hp]
end
end Go.Lg
namespace Go.Lg
open Go
section
variable {P : Program} {Γ : Tables} {w0 : World} {B : Nat} {κ : D6} {X : Nat → Prop} {μ : D6} {st : St} {tm : Array Value} {w : World} {ds : List Deferred} {o : Oper}
theorem q6t {id : Nat} {r : Bj} : ∀ {hp : List (Nat × Bj)}, A7 hp id = some r → Fq id r hp = hp
  | [], h => by simp [A7] at h
  | (k, v) :: e, h => by
    simp only [A7] at h
    simp only [Fq]
    split
    · rename_i hk; rw [if_pos hk] at h; cases h; rw [hk]
    · rename_i hk; rw [if_neg hk] at h; rw [q6t h]
theorem qBu {s : Nat} {es : List (List T)} {vs : List (List Value)} (h : Els w X s es vs) (n : Nat) : Els w X s (es.drop n) (vs.drop n) := by
  refine ⟨by simp [h.1], fun v hv => h.2.1 v (List.mem_of_mem_drop hv), fun e he => h.2.2.1 e (List.mem_of_mem_drop he), fun i e v he hv => ?_⟩
  rw [List.getElem?_drop] at he hv
  exact h.2.2.2 _ e v he hv
theorem q9Y {id ty s : Nat} {es : List (List T)} {vs : List (List Value)} {sh : Nat → Option Sh} {g : Nat} {arr : Array Value} {rest : List Value} (hm : μ id = some (g, arr.size)) (hh : w.heap[g]? = some (.cells arr ty (0, 0))) (he : Els w X s es vs) (ha : arr.toList = vs.flatten ++ rest) : Lq w X μ sh id (.sl ty s es) := by
  have hfl := Bz he.2.1
  refine ⟨fun i e hi => ?_, .inr ⟨g, arr, hm, hh, ?_, fun i k e t x h1 h2 h3 => ?_⟩⟩
  · have := he.2.2.1 e (List.mem_of_getElem? hi)
    exact ⟨this.1, fun k t hk => List.all_eq_true.1 this.2 t (List.mem_of_getElem? hk)⟩
  · have := congrArg List.length ha
    simp only [Array.length_toList, List.length_append] at this
    rw [he.1]; omega
  · have hi := (List.getElem?_eq_some_iff.1 h1).1
    have hes := (he.2.2.1 e (List.mem_of_getElem? h1)).1
    have hk : k < s := by rw [← hes]; exact (List.getElem?_eq_some_iff.1 h2).1
    have hf := U0 he.2.1 i k hk
    have h3' : (vs.flatten ++ rest)[i * s + k]? = some x := by rw [← ha]; simpa using h3
    have hlt : i * s + k < vs.flatten.length := by
      rw [hfl, ← he.1]
      have := Ky (s := s) hi
      omega
    rw [List.getElem?_append_left hlt, hf] at h3'
    obtain ⟨v, hv, hx⟩ := Option.bind_eq_some_iff.1 h3'
    exact (he.2.2.2 i e v h1 hv).2 k t x h2 hx
theorem q8F {x y : Operand} {t t2 : TypeId} (ho : o.op = .call { callee := .builtin .copy, args := #[x, y], argTypes := #[t, t2] }) {v : Value} {w' : World}
    (h : (Builtin.copy_ #[t, t2] o.type #[Act.eval ⟨tm, ds⟩ x, Act.eval ⟨tm, ds⟩ y]).run P w = .ok v w') : (execOp (Act.eval ⟨tm, ds⟩) o).run P w = .ok (.value v) w' := by
  simp [execOp, ho, resolve, invoke, builtin, h]
theorem qGY {t t2 ty ty2 s id off len : Nat} {cap : Option Nat} {x y : Operand} {es news : List (List T)} {ay : AV} (hsl : slO P t = some ty) (hsz : N6 P ty = some s) (hpos : 0 < s) (h : Bo w0 B κ X μ st tm w) (hg : Gl Γ w X) (ho : o.op = .call { callee := .builtin .copy, args := #[x, y], argTypes := #[t, t2] }) (kx : Aj x = true) (ky : Aj y = true)
    (hx : ev Γ st.env x = some (.ls id off len cap)) (hl : A7 st.hp id = some (.sl ty2 s es)) (hy : ev Γ st.env y = some ay) (hnews : Bq st.hp ay = some news) (hw : Dz s news) :
    Ap P w0 B κ X o (.t (.v (.int .i64 (min len news.length : Nat)))) ⟨st.env, Fq id (.sl ty2 s (es.take off ++ news.take (min len news.length) ++ es.drop (off + min len news.length))) st.hp⟩ tm w ds := by
  have hrb := B6 (ds := ds) h hg hx kx
  have hrx := B6 (ds := ds) h hg hy ky
  have hreg := h.reg id _ hl
  have hid : st.sh id ≠ none := by simp [Eo hl]
  obtain ⟨oa, c2, vs, hvx, hels, hone, hsrc⟩ := U1 h hrx hnews hw
  obtain ⟨s2, n2, hs2, hcase⟩ := hrb.ls_inv
  rw [Eo hl] at hs2
  simp only [Bj.sh, Option.some.injEq, Sh.sl.injEq] at hs2
  obtain ⟨rfl, rfl⟩ := hs2
  have hfc0 : (Builtin.firstCells s 0 (.slice oa news.length c2)).run P w = .ok #[] w := by
    cases oa <;> simp [Builtin.firstCells, loadCells, loadCellsFrom]
  -- nothing is copied
  have zero : ∀ (ab : Option Addr) (cb : Nat), Act.eval ⟨tm, ds⟩ x = .slice ab len cb → min len news.length = 0 → Ap P w0 B κ X o (.t (.v (.int .i64 (min len news.length : Nat)))) ⟨st.env, Fq id (.sl ty2 s (es.take off ++ news.take (min len news.length) ++ es.drop (off + min len news.length))) st.hp⟩ tm w ds := by
    intro ab cb hv h0
    have hrun : (Builtin.copy_ #[t, t2] o.type #[Act.eval ⟨tm, ds⟩ x, Act.eval ⟨tm, ds⟩ y]).run P w = .ok (goInt 0) w := by
      rw [hv, hvx]
      have hm0 : Nat.min news.length len = 0 := (Nat.min_comm news.length len).trans h0
      simp only [Builtin.copy_, Sem.run_bind, List.getElem?_toArray, List.getElem?_cons_zero, List.getElem?_cons_succ, run_underlying (By hsl), Result.andThen_ok, Dj hsz, Sem.run_pure, Builtin.lenOf, hm0, hfc0]
      cases ab <;> simp [storeCells]
    rw [h0, List.take_zero, List.append_nil, Nat.add_zero, List.take_append_drop, q6t hl]
    exact Ap.same h (q8F ho hrun) (.t _ _ (.v _))
  rcases hcase with ⟨hm, ⟨ab, hvb⟩, _, rfl, _⟩ | ⟨g, m, cb, ad, hm, hvb, hle, hlc, hcm, hfit, hfull, _, had⟩
  · exact zero ab 0 hvb (Nat.zero_min _)
  · by_cases h0 : min len news.length = 0
    · exact zero (some ad) cb hvb h0
    · have hlen : 0 < len := by
        rcases Nat.eq_zero_or_pos len with h | h
        · subst h; exact absurd (Nat.zero_min _) h0
        · exact h
      have hnl : 0 < news.length := by
        rcases Nat.eq_zero_or_pos news.length with h | h
        · rw [h] at h0; exact absurd (Nat.min_zero _) h0
        · exact h
      have hadg := had (.inl (by omega))
      subst hadg
      obtain ⟨bb, boff, rfl, hcell⟩ := hsrc (List.length_pos_iff.1 hnl)
      generalize hn : min len news.length = n at *
      have hnlen : n ≤ len := by rw [← hn]; exact Nat.min_le_left _ _
      have hnnew : n ≤ news.length := by rw [← hn]; exact Nat.min_le_right _ _
      obtain ⟨arr, rest, us, hheap, hsza, helsr, harr⟩ := q5W hreg hpos hm
      have helst := q04 hels n
      have hvn : (vs.take n).length = n := by simp; rw [← hels.1]; exact Nat.min_eq_left hnnew
      have hfl : (vs.take n).flatten.length = n * s := by rw [Bz helst.2.1, hvn]
      have hpre : ∀ (j : Nat) (v : Value), (vs.take n).flatten[j]? = some v → vs.flatten[j]? = some v := fun j v hv => by
        have e : vs.flatten = (vs.take n).flatten ++ (vs.drop n).flatten := by rw [← List.flatten_append, List.take_append_drop]
        rw [e, List.getElem?_append_left (List.getElem?_eq_some_iff.1 hv).1]; exact hv
      have hfc := run_firstCells_some (P := P) w s n ⟨bb, boff, none⟩ news.length c2 (vs.take n).flatten hfl (fun j v hv => by rw [Addr.add_lit]; exact hcell j v (hpre j v hv))
      have h1 : ∀ u ∈ (vs.take n).flatten, u.oneCell' = true := fun u hu => by
        obtain ⟨v, hv, hu⟩ := List.mem_flatten.1 hu
        exact hone v (List.mem_of_mem_take hv) u hu
      have hlu : us.flatten.length = es.length * s := by rw [Bz helsr.2.1, helsr.1]
      have hofit : off * s + (vs.take n).flatten.length ≤ arr.size := by
        have hA := congrArg List.length harr
        simp only [Array.length_toList, List.length_append] at hA
        rw [hfl, ← Nat.add_mul]
        have : (off + n) * s ≤ es.length * s := Nat.mul_le_mul_right _ (by omega)
        omega
      have hst := run_storeCells_at P g (off * s) ty2 (vs.take n).flatten 0 arr w hheap (by simpa using hofit) h1
      simp only [Nat.add_zero] at hst
      have hrun : (Builtin.copy_ #[t, t2] o.type #[Act.eval ⟨tm, ds⟩ x, Act.eval ⟨tm, ds⟩ y]).run P w = .ok (goInt n) (w.setRow g (arr.toList.take (off * s) ++ (vs.take n).flatten ++ arr.toList.drop (off * s + (vs.take n).flatten.length)).toArray) := by
        rw [hvb, hvx]
        have hm0 : Nat.min news.length len = n := (Nat.min_comm news.length len).trans hn
        simp only [Builtin.copy_, Sem.run_bind, List.getElem?_toArray, List.getElem?_cons_zero, List.getElem?_cons_succ, run_underlying (By hsl), Result.andThen_ok, Dj hsz, Sem.run_pure, Builtin.lenOf, hm0, hfc]
        simp [hst]
      have huf : ∀ k, us.flatten.take (k * s) = (us.take k).flatten := fun k => by
        by_cases hk : k ≤ us.length
        · have e : us.flatten = (us.take k).flatten ++ (us.drop k).flatten := by rw [← List.flatten_append, List.take_append_drop]
          have hl2 : (us.take k).flatten.length = k * s := by rw [Bz (q04 helsr k).2.1]; simp; rw [Nat.min_eq_left hk]
          rw [e, List.take_append_of_le_length (by omega), List.take_of_length_le (by omega)]
        · rw [List.take_of_length_le (by rw [Bz helsr.2.1]; exact Nat.mul_le_mul_right _ (by omega)), List.take_of_length_le (by omega)]
      have hud : us.flatten.drop ((off + n) * s) = (us.drop (off + n)).flatten := by
        have e : us.flatten = (us.take (off + n)).flatten ++ (us.drop (off + n)).flatten := by rw [← List.flatten_append, List.take_append_drop]
        have hl2 : (us.take (off + n)).flatten.length = (off + n) * s := by rw [Bz (q04 helsr (off + n)).2.1]; simp; rw [Nat.min_eq_left (by rw [← helsr.1]; omega)]
        rw [e, List.drop_append_of_le_length (by omega), List.drop_of_length_le (by omega), List.nil_append]
      have hul : us.flatten.length = es.length * s := hlu
      have hon : (off + n) * s ≤ es.length * s := Nat.mul_le_mul_right _ (by omega)
      have hoo : off * s ≤ es.length * s := Nat.mul_le_mul_right _ (by omega)
      have hta : arr.toList.take (off * s) = (us.take off).flatten := by
        rw [harr, List.take_append_of_le_length (by omega), huf]
      have hda : arr.toList.drop (off * s + (vs.take n).flatten.length) = (us.drop (off + n)).flatten ++ rest := by
        rw [hfl, ← Nat.add_mul, harr, List.drop_append_of_le_length (by omega), hud]
      have hsz2 : (arr.toList.take (off * s) ++ (vs.take n).flatten ++ arr.toList.drop (off * s + (vs.take n).flatten.length)).toArray.size = arr.size := q2k rfl hofit
      have hsh : (Bj.sl ty2 s (es.take off ++ news.take n ++ es.drop (off + n))).sh = (Bj.sl ty2 s es).sh := by
        simp only [Bj.sh, List.length_append, List.length_take, List.length_drop]
        rw [show min off es.length + min n news.length + (es.length - (off + n)) = es.length by rw [Nat.min_eq_left (by omega), Nat.min_eq_left hnnew]; omega]
      obtain ⟨hsim, hs'⟩ := h.setReg hl hsh hm (w' := w.setRow g (arr.toList.take (off * s) ++ (vs.take n).flatten ++ arr.toList.drop (off * s + (vs.take n).flatten.length)).toArray) rfl rfl rfl (by simp) (fun j hj => setRow_other w g j _ hj) (fun hs' => by
        refine q9Y (rest := rest) (by rw [hsz2, hsza]; exact hm) (setRow_heap w g arr _ ty2 _ hheap) ((((q04 helsr off).append helst).append (qBu helsr (off + n))).mono hs' fun _ hx => hx) ?_
        simp only [List.flatten_append]
        rw [hta, hda, List.append_assoc, List.append_assoc, List.append_assoc])
      exact ⟨_, goInt n, _, μ, X, q8F ho hrun, .inl rfl, hsim, .t _ _ (.v _), fun _ hx => hx, hs', fun _ hx => .inl hx⟩
end
end Go.Lg
namespace Go.Lg
open Go
section
variable {P : Program} {Γ : Tables} {w0 : World} {B : Nat} {κ : D6} {X : Nat → Prop} {μ : D6} {st : St} {tm : Array Value} {w : World} {ds : List Deferred} {o : Oper}
def q5Z : Value → Lit
  | .int k n => .int k n
  | .bool b => .bool b
  | _ => .nil
theorem q25 {α β : Type} (f : α → Option β) (g : α → β) : ∀ l : List α, (∀ x ∈ l, f x = some (g x)) → l.mapM f = some (l.map g)
  | [], _ => rfl
  | a :: l, h => by
    rw [List.mapM_cons, h a List.mem_cons_self, q25 f g l fun x hx => h x (List.mem_cons_of_mem _ hx)]
    rfl
theorem q2n : ∀ {ks : List (Option IntKind)} {vs : List Value}, Zp ks vs → vs.length = ks.length
  | [], [], _ => rfl
  | k :: ks, v :: vs, h => by simp [q2n h.2]
  | [], _ :: _, h => h.elim
  | _ :: _, [], h => h.elim
theorem q3n : ∀ {n : Nat} {ks : List (Option IntKind)} {vs : List Value}, Zp ks vs → Zp (ks.drop n) (vs.drop n)
  | 0, _, _, h => h
  | n + 1, [], [], _ => trivial
  | n + 1, k :: ks, v :: vs, h => q3n (n := n) h.2
  | n + 1, [], _ :: _, h => h.elim
  | n + 1, _ :: _, [], h => h.elim
theorem q3o : ∀ {n : Nat} {ks : List (Option IntKind)} {vs : List Value}, Zp ks vs → Zp (ks.take n) (vs.take n)
  | 0, ks, vs, _ => by simp [Zp]
  | n + 1, [], [], _ => trivial
  | n + 1, k :: ks, v :: vs, h => ⟨h.1, q3o (n := n) h.2⟩
  | n + 1, [], _ :: _, h => h.elim
  | n + 1, _ :: _, [], h => h.elim
theorem q4U {α : Type} (s : Nat) (l : List α) : ∀ n, n * s ≤ l.length → ((List.range n).map fun i => (l.drop (i * s)).take s).flatten = l.take (n * s)
  | 0, _ => by simp
  | n + 1, h => by
    rw [Nat.add_mul, Nat.one_mul] at h
    rw [List.range_succ, List.map_append, List.flatten_append, q4U s l n (by omega), Nat.add_mul, Nat.one_mul, List.take_add]
    simp
theorem q6u {α : Type} (l : List α) : ∀ (fs : List Field) (off : Nat), q4P P fs off l.length = true → off ≤ l.length → (fs.map fun f => (l.drop f.offset).take (P.cellsOf f.type)).flatten = l.drop off
  | [], off, h, _ => by
    simp only [q4P, beq_iff_eq] at h
    subst h
    simp
  | f :: fs, off, h, ho => by
    simp only [q4P, Bool.and_eq_true, beq_iff_eq] at h
    obtain ⟨h1, h2⟩ := h
    have hle : ∀ (fs : List Field) (off : Nat), q4P P fs off l.length = true → off ≤ l.length := by
      intro fs
      induction fs with
      | nil => intro off h; simp only [q4P, beq_iff_eq] at h; omega
      | cons g gs ih =>
        intro off h
        simp only [q4P, Bool.and_eq_true, beq_iff_eq] at h
        have := ih _ h.2
        omega
    rw [List.map_cons, List.flatten_cons, q6u l fs _ h2 (hle _ _ h2), h1, ← List.drop_drop, List.take_append_drop]
theorem Yj : ∀ (d : Nat) (t : TypeId) (ks : List (Option IntKind)), q2g P d t ks = true → ∀ vs, Zp ks vs → P.keyLits d t vs = some (vs.map q5Z)
  | 0, _, _, h, _, _ => by simp [q2g] at h
  | d + 1, t, ks, h, vs, hv => by
    simp only [q2g] at h
    split at h
    · rename_i hu
      have := of_decide_eq_true h
      subst this
      match vs, hv with
      | [.bool b], _ => simp [Program.keyLits, hu, q5Z]
      | [.int _ _], h => exact h.1.elim
      | v :: u :: vs, h => exact h.2.elim
    · rename_i q hu
      have := of_decide_eq_true h
      subst this
      match vs, hv with
      | [.int j n], h =>
        obtain ⟨⟨rfl, hw⟩, _⟩ := h
        simp [Program.keyLits, hu, q5Z, hw]
      | v :: u :: vs, h => exact h.2.elim
    · rename_i n e hu
      simp only [Bool.and_eq_true, beq_iff_eq] at h
      obtain ⟨⟨h1, h2⟩, h3⟩ := h
      have hl := q2n hv
      rw [List.all_eq_true] at h3
      have hm := q25 (fun i => P.keyLits d e ((vs.drop (i * P.cellsOf e)).take (P.cellsOf e))) (fun i => ((vs.drop (i * P.cellsOf e)).take (P.cellsOf e)).map q5Z) (List.range n) fun i hi => Yj d e _ (h3 i hi) _ (q3o (q3n hv))
      simp only [Program.keyLits, hu]
      rw [if_pos (by omega), hm]
      simp only [Option.map_some, Option.some.injEq]
      have := q4U (P.cellsOf e) (vs.map q5Z) n (by rw [List.length_map]; omega)
      rw [List.take_of_length_le (by rw [List.length_map]; omega)] at this
      rw [← this]
      simp [List.map_drop, List.map_take]
    · rename_i fs hu
      simp only [Bool.and_eq_true, beq_iff_eq] at h
      obtain ⟨⟨⟨h1, h2⟩, h3⟩, h4⟩ := h
      have hl := q2n hv
      rw [List.all_eq_true] at h4
      have hm := q25 (fun f : Field => P.keyLits d f.type ((vs.drop f.offset).take (P.cellsOf f.type))) (fun f => ((vs.drop f.offset).take (P.cellsOf f.type)).map q5Z) fs.toList fun f hf => Yj d f.type _ (h4 f hf) _ (q3o (q3n hv))
      simp only [Program.keyLits, hu]
      rw [if_pos ⟨by omega, h2⟩, hm]
      simp only [Option.map_some, Option.some.injEq]
      have := q6u (P := P) (vs.map q5Z) fs.toList 0 (by rw [List.length_map, hl]; exact h3) (Nat.zero_le _)
      rw [List.drop_zero] at this
      rw [← this]
      simp [List.map_drop, List.map_take]
    · cases h
theorem q8G : ∀ {ks : List (Option IntKind)} {as bs : List Value}, Zp ks as → Zp ks bs → (Zq as bs = true ↔ as.map q5Z = bs.map q5Z)
  | [], [], [], _, _ => by simp [Zq]
  | k :: ks, a :: as, b :: bs, h, g => by
    have ih := q8G h.2 g.2
    simp only [Zq, Bool.and_eq_true, List.map_cons, List.cons.injEq, ih]
    refine and_congr_left fun _ => ?_
    match k, a, b, h.1, g.1 with
    | some k, .int j n, .int i m, ⟨e1, _⟩, ⟨e2, _⟩ =>
      subst e1
      subst e2
      simp [qD8, q5Z]
    | none, .bool x, .bool y, _, _ => simp [qD8, q5Z]
  | [], _ :: _, _, h, _ => h.elim
  | [], [], _ :: _, _, g => g.elim
  | _ :: _, [], _, h, _ => h.elim
  | _ :: _, _ :: _, [], _, g => g.elim
theorem qAL : ∀ {cs : List AV} {xs as : List Value}, J0 w X μ st.sh cs xs → Ar (cs.map qDA) = some as → xs = as
  | [], xs, as, h, ha => by
    have := h.nil_inv; subst this
    simpa [Ar] using ha
  | c :: cs, xs, as, h, ha => by
    obtain ⟨y, ys, rfl, h1, h2⟩ := h.cons_inv
    match c, h1, ha with
    | .t (.v x), h1, ha =>
      simp only [List.map_cons, qDA, Ar, Option.map_eq_some_iff] at ha
      obtain ⟨bs, hb, rfl⟩ := ha
      rw [qAL h2 hb, h1.t_inv.v_inv]
theorem qAM : ∀ {cs : List T} {xs as : List Value}, Fj w X cs xs → Ar (cs.map qD9) = some as → xs = as
  | [], xs, as, h, ha => by
    have := h.nil_inv; subst this
    simpa [Ar] using ha
  | c :: cs, xs, as, h, ha => by
    obtain ⟨y, ys, rfl, h1, h2⟩ := h.cons_inv
    match c, h1, ha with
    | .v x, h1, ha =>
      simp only [List.map_cons, qD9, Ar, Option.map_eq_some_iff] at ha
      obtain ⟨bs, hb, rfl⟩ := ha
      rw [qAM h2 hb, h1.v_inv]
theorem qAN {a : AV} {x : Value} {as : List Value} (h : AR w X μ st.sh a x) (ha : q83 a = some as) : x = .agg as.toArray := by
  match a, h, ha with
  | .ag cs, h, ha =>
    obtain ⟨xs, rfl, _, hr⟩ := h.ag_inv
    rw [qAL hr ha]
  | .t (.agg ts), h, ha =>
    obtain ⟨xs, rfl, _, hr⟩ := h.t_inv.agg_inv
    rw [qAM hr ha]
theorem q8H {d : Nat} {t : TypeId} {ks : List (Option IntKind)} (hw : (match P.underlying t with | some (.array _ _) | some (.struct _) => true | _ => false) = true) (hl : q2g P (d + 1) t ks = true) : ks.length = P.cellsOf t := by
  simp only [q2g] at hl
  split at hw
  · rename_i hu
    simp only [hu, Bool.and_eq_true, beq_iff_eq] at hl
    exact hl.1.1
  · rename_i hu
    simp only [hu, Bool.and_eq_true, beq_iff_eq] at hl
    exact hl.1.1.1
  · cases hw
theorem qGZ {t u : TypeId} {pos : Bool} {ks : List (Option IntKind)} {x y : Operand} {a b : AV} {as bs : List Value} (h : Bo w0 B κ X μ st tm w) (hg : Gl Γ w X) (ho : o.op = .binOp (if pos then .eql else .neq) t x y u)
    (hw : (match P.underlying t with | some (.array _ _) | some (.struct _) => true | _ => false) = true) (hk : P.keyTypeAt 20 t = true) (hl : q2g P 20 t ks = true) (hq : P.eqGuardType P.depth t = false) (kx : Aj x = true) (ky : Aj y = true)
    (hx : ev Γ st.env x = some a) (hy : ev Γ st.env y = some b) (ha : q83 a = some as) (hb : q83 b = some bs) (oa : Zp ks as) (ob : Zp ks bs) : Ap P w0 B κ X o (.t (.v (.bool (if pos then Zq as bs else !Zq as bs)))) st tm w ds := by
  have h1 := qAN (B6 (ds := ds) h hg hx kx) ha
  have h2 := qAN (B6 (ds := ds) h hg hy ky) hb
  have hcell : ks.length = P.cellsOf t := q8H (d := 19) hw hl
  have fm : ∀ {vs : List Value}, Zp ks vs → (Value.agg vs.toArray).formed P t = true := by
    intro vs hv
    have := q2n hv
    split at hw
    · rename_i hu; simp [Value.formed, hu]; omega
    · rename_i hu; simp [Value.formed, hu]; omega
    · cases hw
  obtain ⟨r, hr, hiff⟩ := run_equalIn_deep 9980 20 t hk w 20 20 (.agg as.toArray) (.agg bs.toArray) _ _ (fm oa) (fm ob) (by simpa [Value.cells] using Yj 20 t ks hl as oa) (by simpa [Value.cells] using Yj 20 t ks hl bs ob)
  rw [← q8G oa ob] at hiff
  have hre : r = Zq as bs := by
    cases r <;> cases he : Zq as bs <;> simp_all
  subst hre
  have hr' : (Op.equal t (.agg as.toArray) (.agg bs.toArray)).run P w = .ok (Zq as bs) w := hr
  clear hr hiff
  refine Ap.same h (v := .bool (if pos then Zq as bs else !Zq as bs)) ?_ (.t _ _ (.v _))
  generalize Zq as bs = r at *
  generalize as.toArray = A at *
  generalize bs.toArray = B2 at *
  have hG : ∀ op, (eqGuard op t x y (.agg A) (.agg B2)).run P w = .ok () w := by
    intro op
    cases op <;> simp [eqGuard, hq]
  cases pos
  · simp only [execOp, ho, h1, h2, Bool.false_eq_true, ↓reduceIte, Sem.run_bind, hG, Result.andThen_ok, binOp, hr', Sem.run_pure]
  · simp only [execOp, ho, h1, h2, ↓reduceIte, Sem.run_bind, hG, Result.andThen_ok, binOp, hr', Sem.run_pure]
end
end Go.Lg
namespace Go.Lg
open Go
section
variable {P : Program} {Γ : Tables} {w0 : World} {B : Nat} {κ : D6} {X : Nat → Prop} {μ : D6} {st : St} {tm : Array Value} {w : World} {ds : List Deferred} {o : Oper}
theorem Fh {α : Type} [DecidableEq α] {a : Option α} {b : α} (h : (a == some b) = true) : a = some b := by simpa using h
theorem Sz {c : Call} {b : Builtin} {ys : List Operand} {ts : List TypeId} (h1 : c.callee = .builtin b) (h2 : c.args.toList = ys) (h3 : c.argTypes.toList = ts) : c = { callee := .builtin b, args := ys.toArray, argTypes := ts.toArray } := by
  cases c with
  | mk cc ca ct => simp at h1 h2 h3; subst h1; subst h2; subst h3; simp
theorem qB8 {k : Nat} {x : Operand} {c : Prop} {r : AV} {st1 : St} {d : Nat} (h : Bo w0 B κ X μ st tm w) (hg : Gl Γ w X) (hchk : Qe P (.len k x) o.op = true) (hk : Aj x = true) (hs : Aq Γ d (.len k x) st = some (c, r, st1)) (hc : c) : Ap P w0 B κ X o r st1 tm w ds := by
  generalize hop : o.op = op at hchk
  simp only [Qe] at hchk
  split at hchk
  case h_2 => cases hchk
  split at hchk
  case h_2 => cases hchk
  rename_i cc _ _ _ y t e1 e2 e3
  simp only [Bool.and_eq_true] at hchk
  have := Ag hchk.1; subst this
  have he := Sz e1 e2 e3
  subst he
  simp only [Aq, Option.bind_eq_some_iff] at hs
  obtain ⟨a, ha, hs⟩ := hs
  split at hs
  case isFalse => cases hs
  rename_i hlk
  simp only [Option.map_eq_some_iff, Prod.mk.injEq] at hs
  obtain ⟨n, hn, _, rfl, rfl⟩ := hs
  refine qGM h hg hop hk ha ?_ hn
  have h2 := hchk.2
  unfold qD7 at hlk
  split at hlk
  · simp only [Option.isSome_iff_exists] at h2
    obtain ⟨e, he⟩ := h2
    rw [By he]; rfl
  · simp only [Option.isSome_iff_exists] at h2
    obtain ⟨e, he⟩ := h2
    rw [By he]; rfl
  · simp only [Option.isSome_iff_exists] at h2
    obtain ⟨e, he⟩ := h2
    rw [By he]; rfl
  · rw [Tu h2]; rfl
  · simp only [Option.isSome_iff_exists] at h2
    obtain ⟨e, he⟩ := h2
    rw [P5 (k := e.1) (e := e.2) he]; rfl
  · simp only [Option.isSome_iff_exists] at h2
    obtain ⟨e, he⟩ := h2
    rw [P5 (k := e.1) (e := e.2) he]; rfl
  · cases hlk
set_option maxHeartbeats 1000000 in
theorem P7 {io : Cj} {d : Nat} {c : Prop} {r : AV} {st1 : St} (hnt : ∀ ty s b x, io ≠ .appT ty s b x) (hns : ∀ id n a x, io ≠ .stR id n a x) (hnl : ∀ id n g a, io ≠ .ldR id n g a) (hn4 : ∀ n g a, io ≠ .ldT n g a) (hn5 : ∀ kt zv ok m k, io ≠ .lkT kt zv ok m k) (h : Bo w0 B κ X μ st tm w) (hg : Gl Γ w X) (hchk : Qe P io o.op = true) (hok : io.opds.all Aj = true) (hd : d < 1000000) (hs : Aq Γ d io st = some (c, r, st1)) (hc : c) : Ap P w0 B κ X o r st1 tm w ds := by
  cases io with
  | mv x =>
    have hk : Aj x = true := by simpa [Cj.opds] using hok
    generalize hop : o.op = op at hchk
    simp only [Aq, Option.map_eq_some_iff, Prod.mk.injEq] at hs
    obtain ⟨a, ha, _, rfl, rfl⟩ := hs
    simp only [Qe] at hchk
    split at hchk
    · have := Ag hchk; subst this
      exact qGJ h hg (.inl hop) ha hk
    · have := Ag hchk; subst this
      exact qGJ h hg (.inr hop) ha hk
    · cases hchk
  | pick c1 a b =>
    generalize hop : o.op = op at hchk
    simp only [Qe] at hchk
    split at hchk
    case h_2 => cases hchk
    simp only [Bool.and_eq_true] at hchk
    obtain ⟨⟨h1, h2⟩, h3⟩ := hchk
    have := Ag h1; subst this
    have := Ag h2; subst this
    have := Ag h3; subst this
    simp only [Cj.opds, List.all_cons, Bool.and_eq_true] at hok
    simp only [Aq] at hs
    split at hs
    · rename_i p va vb e1 e2 e3
      simp only [Option.some.injEq, Prod.mk.injEq] at hs
      obtain ⟨_, rfl, rfl⟩ := hs
      exact qEf h hg hop e1 e2 e3 hok.1 hok.2.1 hok.2.2.1
    · cases hs
  | alloc fz zs =>
    generalize hop : o.op = op at hchk
    simp only [Qe] at hchk
    split at hchk
    case h_2 => cases hchk
    simp only [Bool.and_eq_true] at hchk
    obtain ⟨h1, h2⟩ := hchk
    rename_i t
    have hz : Dq P t = some zs := by
      split at h1
      · rename_i z hz; rw [hz, P4 h1]
      · cases h1
    simp only [Aq] at hs
    split at hs <;> simp only [Option.some.injEq, Prod.mk.injEq] at hs <;> obtain ⟨rfl, rfl, rfl⟩ := hs
    · exact q9O h hop hz h2
    · exact qDD h hop hz h2 hc hd
  | box fz x =>
    have hk : Aj x = true := by simpa [Cj.opds] using hok
    generalize hop : o.op = op at hchk
    simp only [Qe] at hchk
    split at hchk
    case h_2 => cases hchk
    have := Ag hchk; subst this
    simp only [Aq, Option.bind_eq_some_iff] at hs
    obtain ⟨a, ha, hs⟩ := hs
    split at hs
    · simp only [Option.map_eq_some_iff, Prod.mk.injEq] at hs
      obtain ⟨ts, hts, rfl, rfl, rfl⟩ := hs
      exact qBn h hg hop hk ha hts hc
    · simp only [Option.some.injEq, Prod.mk.injEq] at hs
      obtain ⟨rfl, rfl, rfl⟩ := hs
      exact qGR h hg hop hk ha hc.2 hc.1 hd
  | build qs =>
    generalize hop : o.op = op at hchk
    simp only [Qe] at hchk
    split at hchk
    case h_2 => cases hchk
    split at hchk
    · rename_i fs zs hf hz
      simp only [Aq, Option.map_eq_some_iff, Prod.mk.injEq] at hs
      obtain ⟨as, ha, rfl, rfl, rfl⟩ := hs
      exact qDE h hg hop hok hf hz hchk ha hc.1 hc.2
    · rename_i zs hf hz
      simp only [Aq, Option.map_eq_some_iff, Prod.mk.injEq] at hs
      obtain ⟨as, ha, rfl, rfl, rfl⟩ := hs
      simp only [Bool.and_eq_true] at hchk
      exact q87 h hg hop hok hchk.1.1 hchk.1.2 hz hchk.2 ha hc.1 hc.2
    · cases hchk
  | bsl fz ty s xs =>
    generalize hop : o.op = op at hchk
    simp only [Qe] at hchk
    split at hchk
    case h_2 => cases hchk
    rename_i t n ps
    simp only [Bool.and_eq_true, decide_eq_true_eq] at hchk
    obtain ⟨⟨⟨⟨⟨⟨⟨h1, h2⟩, h3⟩, h4⟩, h5⟩, h6⟩, h7⟩, h8⟩ := hchk
    have h4 : n = xs.length := by simpa using h4
    obtain ⟨zs, hz, hzl⟩ : ∃ zs, Dq P ty = some zs ∧ zs.length = s := by
      split at h8
      · rename_i z hz; exact ⟨z, hz, by simpa using h8⟩
      · cases h8
    simp only [Aq, Option.bind_eq_some_iff, Option.map_eq_some_iff] at hs
    obtain ⟨as, ha, es, hes, hs⟩ := hs
    split at hs <;> simp only [Prod.mk.injEq] at hs <;> obtain ⟨rfl, rfl, rfl⟩ := hs
    · exact qBo h hg hop hok (Fh h1) (Fh h2) h4 h5 hz hzl h3 h7 ha hes hc
    · exact qGS h hg hop hok (Fh h1) (Fh h2) h4 h5 hz hzl h3 h7 ha hes hc.2 hc.1 hd
  | load n g a =>
    have hk : Aj a = true := by simpa [Cj.opds] using hok
    generalize hop : o.op = op at hchk
    simp only [Qe] at hchk
    split at hchk
    case h_2 => cases hchk
    simp only [Bool.and_eq_true] at hchk
    obtain ⟨⟨⟨h1, h2⟩, h3⟩, h4⟩ := hchk
    have := Ag h1; subst this
    simp only [Aq] at hs
    split at hs
    · rename_i cs k e1
      simp only [Option.some.injEq, Prod.mk.injEq] at hs
      obtain ⟨rfl, rfl, rfl⟩ := hs
      exact qB0 h hg hop e1 hk (Fh h2) (Fh h3) h4 hc
    · rename_i id i k e1
      split at hs
      · rename_i ty s es hl
        simp only [Option.some.injEq, Prod.mk.injEq] at hs
        obtain ⟨rfl, rfl, rfl⟩ := hs
        exact qB2 h hg hop e1 hk (Fh h2) (Fh h3) h4 hl hc.1 hc.2
      · rename_i cs hl
        simp only [Option.some.injEq, Prod.mk.injEq] at hs
        obtain ⟨rfl, rfl, rfl⟩ := hs
        exact qB1 h hg hop e1 hk (Fh h2) (Fh h3) h4 hl hc.2
      · cases hs
    · cases hs
  | store n a x =>
    generalize hop : o.op = op at hchk
    simp only [Qe] at hchk
    split at hchk
    case h_2 => cases hchk
    simp only [Bool.and_eq_true] at hchk
    obtain ⟨⟨h1, h2⟩, h3⟩ := hchk
    have := Ag h1; subst this
    have := Ag h2; subst this
    simp only [Cj.opds, List.all_cons, Bool.and_eq_true] at hok
    simp only [Aq, Option.bind_eq_some_iff] at hs
    obtain ⟨v, hv, hs⟩ := hs
    split at hs
    · rename_i id i k e1
      split at hs
      · rename_i ty s es hl
        simp only [Option.map_eq_some_iff, Prod.mk.injEq] at hs
        obtain ⟨ts, hts, rfl, rfl, rfl⟩ := hs
        obtain ⟨c1, c2, c3, c4⟩ := hc
        exact q9R h hg hop hok.1 hok.2.1 (Fh h3) e1 hv hl c1 c2 hts c3 c4
      · rename_i cs hl
        simp only [Option.some.injEq, Prod.mk.injEq] at hs
        obtain ⟨rfl, rfl, rfl⟩ := hs
        obtain ⟨rfl, c2, c3, c4⟩ := hc
        exact q9Q h hg hop hok.1 hok.2.1 (Fh h3) e1 hv hl c2 c3 c4 (.inr trivial)
      · cases hs
    · cases hs
  | fadr off a =>
    have hk : Aj a = true := by simpa [Cj.opds] using hok
    generalize hop : o.op = op at hchk
    simp only [Qe] at hchk
    split at hchk
    case h_2 => cases hchk
    simp only [Bool.and_eq_true] at hchk
    obtain ⟨h1, h2⟩ := hchk
    have := Ag h1; subst this
    split at h2
    case h_2 => cases h2
    rename_i fs hu
    split at h2
    case h_2 => cases h2
    rename_i f hf
    simp only [Bool.and_eq_true, beq_iff_eq] at h2
    obtain ⟨h3, h4⟩ := h2
    obtain ⟨s, hz, hp⟩ : ∃ s, N6 P f.type = some s ∧ 0 < s := by
      split at h4
      · rename_i s hz; exact ⟨s, hz, by simpa using h4⟩
      · cases h4
    simp only [Aq] at hs
    split at hs
    · rename_i cs k e1
      simp only [Option.some.injEq, Prod.mk.injEq] at hs
      obtain ⟨_, rfl, rfl⟩ := hs
      exact qEg h hg hop hk hu hf h3 hz hp e1
    · rename_i id j k e1
      simp only [Option.some.injEq, Prod.mk.injEq] at hs
      obtain ⟨_, rfl, rfl⟩ := hs
      exact qB3 h hg hop hk hu hf h3 hz hp e1
    · cases hs
  | fld off n g x =>
    have hk : Aj x = true := by simpa [Cj.opds] using hok
    generalize hop : o.op = op at hchk
    simp only [Qe] at hchk
    split at hchk
    case h_2 => cases hchk
    simp only [Bool.and_eq_true] at hchk
    obtain ⟨h1, h2⟩ := hchk
    have := Ag h1; subst this
    split at h2
    case h_2 => cases h2
    rename_i fs hu
    split at h2
    case h_2 => cases h2
    rename_i f hf
    simp only [Bool.and_eq_true] at h2
    obtain ⟨⟨⟨h3, h4⟩, h5⟩, h6⟩ := h2
    simp only [Aq, Option.bind_eq_some_iff] at hs
    obtain ⟨a, ha, hs⟩ := hs
    split at hs
    · simp only [Option.some.injEq, Prod.mk.injEq] at hs
      obtain ⟨rfl, rfl, rfl⟩ := hs
      exact qBk h hg hop hk hu hf (by simpa using h3) (Fh h4) (Fh h5) h6 ha hc
    · simp only [Option.some.injEq, Prod.mk.injEq] at hs
      obtain ⟨rfl, rfl, rfl⟩ := hs
      exact qDC h hg hop hk hu hf (by simpa using h3) (Fh h4) (Fh h5) h6 ha hc
    · cases hs
  | iadr s x i =>
    generalize hop : o.op = op at hchk
    simp only [Qe] at hchk
    split at hchk
    case h_2 => cases hchk
    simp only [Bool.and_eq_true] at hchk
    obtain ⟨⟨h1, h2⟩, h3⟩ := hchk
    have := Ag h1; subst this
    have := Ag h2; subst this
    simp only [Cj.opds, List.all_cons, Bool.and_eq_true] at hok
    split at h3
    case h_2 => cases h3
    rename_i e he
    simp only [Aq] at hs
    split at hs
    · rename_i es cap nl k n e1 e2
      simp only [Option.some.injEq, Prod.mk.injEq] at hs
      obtain ⟨rfl, rfl, rfl⟩ := hs
      exact qBl h hg hop hok.1 hok.2.1 he (Fh h3) e1 e2 hc.1 hc.2.1 hc.2.2
    · rename_i id off len cap k n e1 e2
      split at hs
      · rename_i ty q es hl
        simp only [Option.some.injEq, Prod.mk.injEq] at hs
        obtain ⟨rfl, rfl, rfl⟩ := hs
        exact qB4 h hg hop hok.1 hok.2.1 he (Fh h3) e1 hl hc.1 e2 hc.2.1 hc.2.2
      · cases hs
    · rename_i id m k n e1 e2
      split at hs
      · rename_i cs hl
        simp only [Option.some.injEq, Prod.mk.injEq] at hs
        obtain ⟨rfl, rfl, rfl⟩ := hs
        exact qB7 h hg hop hok.1 hok.2.1 he (Fh h3) e1 hl hc.1 e2 hc.2.1 hc.2.2
      · cases hs
    · cases hs
  | iadT s x i =>
    generalize hop : o.op = op at hchk
    simp only [Qe] at hchk
    split at hchk
    case h_2 => cases hchk
    simp only [Bool.and_eq_true] at hchk
    obtain ⟨⟨h1, h2⟩, h3⟩ := hchk
    have := Ag h1; subst this
    have := Ag h2; subst this
    simp only [Cj.opds, List.all_cons, Bool.and_eq_true] at hok
    split at h3
    case h_2 => cases h3
    rename_i e he
    simp only [Aq] at hs
    split at hs
    · rename_i es cap nl k n e1 e2
      simp only [Option.some.injEq, Prod.mk.injEq] at hs
      obtain ⟨rfl, rfl, rfl⟩ := hs
      exact qBl h hg hop hok.1 hok.2.1 he (Fh h3) e1 e2 hc.1 hc.2.1 hc.2.2
    · cases hs
  | iadrA len s x i =>
    generalize hop : o.op = op at hchk
    simp only [Qe] at hchk
    split at hchk
    case h_2 => cases hchk
    simp only [Bool.and_eq_true] at hchk
    obtain ⟨⟨h1, h2⟩, h3⟩ := hchk
    have := Ag h1; subst this
    have := Ag h2; subst this
    simp only [Cj.opds, List.all_cons, Bool.and_eq_true] at hok
    split at h3
    case h_2 => cases h3
    rename_i n e he
    simp only [Bool.and_eq_true] at h3
    obtain ⟨h4, h3⟩ := h3
    have : n = len := by simpa using h4
    subst this
    simp only [Aq] at hs
    split at hs
    · rename_i cs k kk n e1 e2
      simp only [Option.some.injEq, Prod.mk.injEq] at hs
      obtain ⟨rfl, rfl, rfl⟩ := hs
      exact q9K h hg hop hok.1 hok.2.1 he (Fh h3) e1 e2 hc.1 hc.2
    · rename_i id jj k kk n e1 e2
      simp only [Option.some.injEq, Prod.mk.injEq] at hs
      obtain ⟨rfl, rfl, rfl⟩ := hs
      exact q9L h hg hop hok.1 hok.2.1 he (Fh h3) e1 e2 hc.1 hc.2
    · cases hs
  | idxS x i =>
    generalize hop : o.op = op at hchk
    simp only [Qe] at hchk
    split at hchk
    case h_2 => cases hchk
    simp only [Bool.and_eq_true] at hchk
    obtain ⟨⟨h1, h2⟩, h3⟩ := hchk
    have := Ag h1; subst this
    have := Ag h2; subst this
    simp only [Cj.opds, List.all_cons, Bool.and_eq_true] at hok
    simp only [Aq] at hs
    split at hs
    · rename_i s k n e1 e2
      simp only [Option.some.injEq, Prod.mk.injEq] at hs
      obtain ⟨rfl, rfl, rfl⟩ := hs
      exact qEh h hg hop hok.1 hok.2.1 h3 e1 e2 hc.1 hc.2
    · cases hs
  | idxA len s g x i =>
    generalize hop : o.op = op at hchk
    simp only [Qe] at hchk
    split at hchk
    case h_2 => cases hchk
    simp only [Bool.and_eq_true] at hchk
    obtain ⟨⟨h1, h2⟩, h3⟩ := hchk
    have := Ag h1; subst this
    have := Ag h2; subst this
    simp only [Cj.opds, List.all_cons, Bool.and_eq_true] at hok
    split at h3
    case h_2 => cases h3
    rename_i n e he
    simp only [Bool.and_eq_true] at h3
    obtain ⟨⟨⟨h4, h5⟩, h6⟩, h7⟩ := h3
    have : n = len := by simpa using h4
    subst this
    simp only [Aq] at hs
    split at hs
    · rename_i ts k nn e1 e2
      simp only [Option.some.injEq, Prod.mk.injEq] at hs
      obtain ⟨rfl, rfl, rfl⟩ := hs
      exact qBm h hg hop hok.1 hok.2.1 he (Fh h5) (Fh h6) h7 e1 e2 hc.1 hc.2.1 hc.2.2
    · rename_i cs k nn e1 e2
      simp only [Option.some.injEq, Prod.mk.injEq] at hs
      obtain ⟨rfl, rfl, rfl⟩ := hs
      exact qB5 h hg hop hok.1 hok.2.1 he (Fh h5) (Fh h6) h7 e1 e2 hc.1 hc.2.1 hc.2.2
    · cases hs
  | bin op x y =>
    generalize hop : o.op = op' at hchk
    simp only [Qe] at hchk
    split at hchk
    case h_2 => cases hchk
    simp only [Bool.and_eq_true, decide_eq_true_eq] at hchk
    obtain ⟨⟨rfl, h1⟩, h2⟩ := hchk
    have := Ag h1; subst this
    have := Ag h2; subst this
    simp only [Cj.opds, List.all_cons, Bool.and_eq_true] at hok
    simp only [Aq] at hs
    split at hs
    · rename_i a b e1 e2
      simp only [Option.map_eq_some_iff, Prod.mk.injEq] at hs
      obtain ⟨⟨c', r'⟩, hb, rfl, rfl, rfl⟩ := hs
      exact qGK h hg hop e1 e2 hok.1 hok.2.1 hb hc
    · cases hs
  | isNil pos x =>
    have hk : Aj x = true := by simpa [Cj.opds] using hok
    generalize hop : o.op = op' at hchk
    simp only [Qe] at hchk
    split at hchk
    case h_2 => cases hchk
    simp only [Bool.and_eq_true, decide_eq_true_eq, Bool.or_eq_true, Option.isSome_iff_exists] at hchk
    obtain ⟨⟨rfl, e, he⟩, hpq⟩ := hchk
    rename_i t p q u
    have hpq' : (p = x ∧ q = .const (.slice none 0 0)) ∨ (q = x ∧ p = .const (.slice none 0 0)) := by
      rcases hpq with ⟨h1, h2⟩ | ⟨h1, h2⟩
      · exact .inl ⟨(Ag h1).symm, (Ag h2).symm⟩
      · exact .inr ⟨(Ag h1).symm, (Ag h2).symm⟩
    simp only [Aq] at hs
    split at hs
    · rename_i es cap nl e1
      split at hs
      · rename_i b
        simp only [Option.some.injEq, Prod.mk.injEq] at hs
        obtain ⟨_, rfl, rfl⟩ := hs
        exact qAI h hg hop hpq' hk he e1 (.inl ⟨b, rfl, rfl⟩)
      · simp only [Option.some.injEq, Prod.mk.injEq] at hs
        obtain ⟨rfl, rfl, rfl⟩ := hs
        exact qAI h hg hop hpq' hk he e1 (.inr ⟨hc, rfl⟩)
    · cases hs
  | eqg pos ks x y =>
    generalize hop : o.op = op' at hchk
    simp only [Qe] at hchk
    split at hchk
    case h_2 => cases hchk
    simp only [Bool.and_eq_true, decide_eq_true_eq, Bool.not_eq_true'] at hchk
    obtain ⟨⟨⟨⟨⟨⟨rfl, h0⟩, h1⟩, h2⟩, h3⟩, h4⟩, h5⟩ := hchk
    have := Ag h4; subst this
    have := Ag h5; subst this
    simp only [Cj.opds, List.all_cons, Bool.and_eq_true] at hok
    simp only [Aq, Option.bind_eq_some_iff, Option.map_eq_some_iff, Prod.mk.injEq] at hs
    obtain ⟨as, ⟨a, e1, f1⟩, bs, ⟨b, e2, f2⟩, rfl, rfl, rfl⟩ := hs
    exact qGZ h hg hop h0 h1 h2 h3 hok.1 hok.2.1 e1 e2 f1 f2 hc.1 hc.2
  | eqb pos x y =>
    generalize hop : o.op = op' at hchk
    simp only [Qe] at hchk
    split at hchk
    case h_2 => cases hchk
    simp only [Bool.and_eq_true, decide_eq_true_eq] at hchk
    obtain ⟨⟨⟨rfl, h0⟩, h1⟩, h2⟩ := hchk
    have := Ag h1; subst this
    have := Ag h2; subst this
    simp only [Cj.opds, List.all_cons, Bool.and_eq_true] at hok
    split at h0
    case h_2 => cases h0
    rename_i hu
    simp only [Aq] at hs
    split at hs
    · rename_i a b e1 e2
      simp only [Option.some.injEq, Prod.mk.injEq] at hs
      obtain ⟨_, rfl, rfl⟩ := hs
      exact qGN h hg hop hu hok.1 hok.2.1 e1 e2
    · cases hs
  | un op x =>
    have hk : Aj x = true := by simpa [Cj.opds] using hok
    generalize hop : o.op = op' at hchk
    simp only [Qe] at hchk
    split at hchk
    case h_2 => cases hchk
    simp only [Bool.and_eq_true, decide_eq_true_eq] at hchk
    obtain ⟨rfl, h1⟩ := hchk
    have := Ag h1; subst this
    simp only [Aq] at hs
    split at hs
    · rename_i a e1
      simp only [Option.map_eq_some_iff, Prod.mk.injEq] at hs
      obtain ⟨r', hb, _, rfl, rfl⟩ := hs
      exact qHe h hg hop e1 hk hb
    · cases hs
  | conv k x =>
    have hk : Aj x = true := by simpa [Cj.opds] using hok
    generalize hop : o.op = op' at hchk
    simp only [Qe] at hchk
    split at hchk
    case h_2 => cases hchk
    simp only [Bool.and_eq_true] at hchk
    obtain ⟨⟨h1, h2⟩, h3⟩ := hchk
    have := Ag h1; subst this
    simp only [Aq] at hs
    split at hs
    · rename_i k' n e1
      simp only [Option.some.injEq, Prod.mk.injEq] at hs
      obtain ⟨_, rfl, rfl⟩ := hs
      exact qEi h hg hop e1 hk h2 (Fh h3)
    · cases hs
  | bytesStr x =>
    have hk : Aj x = true := by simpa [Cj.opds] using hok
    generalize hop : o.op = op' at hchk
    simp only [Qe] at hchk
    split at hchk
    case h_2 => cases hchk
    simp only [Bool.and_eq_true] at hchk
    obtain ⟨⟨h1, h2⟩, h3⟩ := hchk
    have := Ag h1; subst this
    split at h2
    case h_2 => cases h2
    rename_i e he
    simp only [Aq, Option.bind_eq_some_iff, Option.map_eq_some_iff, Prod.mk.injEq] at hs
    obtain ⟨es, ⟨a, ha, hes⟩, bs, hb, _, rfl, rfl⟩ := hs
    exact q9X h hg hop hk he (Fh h2) h3 ha hes hb
  | runeStr x =>
    have hk : Aj x = true := by simpa [Cj.opds] using hok
    generalize hop : o.op = op' at hchk
    simp only [Qe] at hchk
    split at hchk
    case h_2 => cases hchk
    simp only [Bool.and_eq_true, Option.isSome_iff_exists] at hchk
    obtain ⟨⟨h1, k, h2⟩, h3⟩ := hchk
    have := Ag h1; subst this
    simp only [Aq] at hs
    split at hs
    · rename_i k' n e1
      simp only [Option.some.injEq, Prod.mk.injEq] at hs
      obtain ⟨_, rfl, rfl⟩ := hs
      exact qEj h hg hop e1 hk h2 h3
    · cases hs
  | len k x => exact qB8 h hg hchk (by simpa [Cj.opds] using hok) hs hc
  | cap x =>
    have hk : Aj x = true := by simpa [Cj.opds] using hok
    generalize hop : o.op = op' at hchk
    simp only [Qe] at hchk
    split at hchk
    case h_2 => cases hchk
    split at hchk
    case h_2 => cases hchk
    rename_i cc _ _ _ y t e1 e2 e3
    simp only [Bool.and_eq_true, Option.isSome_iff_exists] at hchk
    obtain ⟨h1, e, he⟩ := hchk
    have := Ag h1; subst this
    have hce := Sz e1 e2 e3
    subst hce
    simp only [Aq] at hs
    split at hs
    · rename_i es cc nl e4
      simp only [Option.some.injEq, Prod.mk.injEq] at hs
      obtain ⟨_, rfl, rfl⟩ := hs
      exact qDz h hg hop hk he e4 (.inl ⟨es, nl, rfl⟩)
    · rename_i id off len cc e4
      simp only [Option.some.injEq, Prod.mk.injEq] at hs
      obtain ⟨_, rfl, rfl⟩ := hs
      exact qDz h hg hop hk he e4 (.inr ⟨id, off, len, rfl⟩)
    · cases hs
  | mmx mx xs =>
    generalize hop : o.op = op' at hchk
    simp only [Qe] at hchk
    split at hchk
    case h_2 => cases hchk
    rename_i cc
    simp only [Aq, Option.bind_eq_some_iff, Option.map_eq_some_iff, Prod.mk.injEq] at hs
    obtain ⟨as, ha, r', hr, rfl, rfl, rfl⟩ := hs
    split at hchk
    · rename_i e1
      simp only [Bool.and_eq_true] at hchk
      obtain ⟨rfl, h1⟩ := hchk
      have := Na h1; subst this
      have hce := Sz (ts := cc.argTypes.toList) e1 rfl rfl
      rw [hce] at hop
      exact qGP h hg hop hok ha hr hc
    · rename_i e1
      simp only [Bool.and_eq_true, Bool.not_eq_true'] at hchk
      obtain ⟨rfl, h1⟩ := hchk
      have := Na h1; subst this
      have hce := Sz (ts := cc.argTypes.toList) e1 rfl rfl
      rw [hce] at hop
      exact qGO h hg hop hok ha hr hc
    · cases hchk
  | app fz ty s b x =>
    generalize hop : o.op = op' at hchk
    simp only [Qe] at hchk
    split at hchk
    case h_2 => cases hchk
    split at hchk
    case h_2 => cases hchk
    rename_i cc _ _ _ b' x' t t' e1 e2 e3
    simp only [Bool.and_eq_true, decide_eq_true_eq] at hchk
    obtain ⟨⟨⟨⟨⟨⟨⟨h1, h2⟩, h3⟩, h4⟩, h5⟩, h6⟩, h7⟩, h8⟩ := hchk
    have := Ag h1; subst this
    have := Ag h2; subst this
    have : t = t' := by simpa using h3
    subst this
    have hce := Sz e1 e2 e3
    subst hce
    have hel : Ei P t ty s := by
      refine ⟨Fh h4, Fh h5, h6, ?_, ?_⟩
      · split at h7
        · rename_i z hz; exact ⟨z, hz, by simpa using h7⟩
        · cases h7
      · split at h8
        · rename_i n hn; exact ⟨n, hn, by simpa using h8⟩
        · cases h8
    simp only [Cj.opds, List.all_cons, Bool.and_eq_true] at hok
    simp only [Aq, Option.bind_eq_some_iff] at hs
    obtain ⟨news, ⟨ax, hax, hnews⟩, a, ha, hs⟩ := hs
    split at hs
    · rename_i es c1 nl
      split at hs <;> simp only [Option.some.injEq, Prod.mk.injEq] at hs <;> obtain ⟨rfl, rfl, rfl⟩ := hs
      · rename_i hfz
        obtain ⟨cw, cw2, cc, cb, cz⟩ := hc
        exact (q5V (d := d) hel h hg hop hok.1 hok.2.1 hax hnews cw ha cw2 cc cb cz).1 hfz
      · rename_i hfz
        obtain ⟨⟨cw, cw2, cc, cb, cz⟩, cd⟩ := hc
        exact (q5V (d := d) hel h hg hop hok.1 hok.2.1 hax hnews cw ha cw2 cc cb cz).2 (by simpa using hfz) cd hd
    · rename_i id off len c1
      split at hs
      case h_2 => cases hs
      rename_i ty2 q es hl
      split at hs <;> simp only [Option.some.injEq, Prod.mk.injEq] at hs <;> obtain ⟨rfl, rfl, rfl⟩ := hs
      · obtain ⟨cw, rfl, rfl, cc, cb, cz⟩ := hc
        exact (q6s (d := d) hel h hg hop hok.1 hok.2.1 hax hnews cw ha hl cc cb cz).1
      · obtain ⟨⟨cw, rfl, rfl, cc, cb, cz⟩, cd⟩ := hc
        exact (q6s (d := d) hel h hg hop hok.1 hok.2.1 hax hnews cw ha hl cc cb cz).2 cd hd
    · rename_i id len
      split at hs
      case h_2 => cases hs
      rename_i ty2 q es hl
      split at hs <;> simp only [Option.some.injEq, Prod.mk.injEq] at hs <;> obtain ⟨rfl, rfl, rfl⟩ := hs
      · obtain ⟨cw, rfl, rfl, cb⟩ := hc
        exact (q89 (d := d) hel h hg hop hok.1 hok.2.1 hax hnews cw ha hl cb).1
      · obtain ⟨⟨cw, rfl, rfl, cb⟩, cd⟩ := hc
        exact (q89 (d := d) hel h hg hop hok.1 hok.2.1 hax hnews cw ha hl cb).2 cd hd
    · cases hs
  | appN ty s x =>
    generalize hop : o.op = op' at hchk
    simp only [Qe] at hchk
    split at hchk
    case h_2 => cases hchk
    split at hchk
    case h_2 => cases hchk
    rename_i cc _ _ _ b' x' t t' e1 e2 e3
    simp only [Bool.and_eq_true, decide_eq_true_eq] at hchk
    obtain ⟨⟨⟨⟨⟨⟨⟨h1, h2⟩, h3⟩, h4⟩, h5⟩, h6⟩, h7⟩, h8⟩ := hchk
    have := Ag h1; subst this
    have := Ag h2; subst this
    have : t = t' := by simpa using h3
    subst this
    have hce := Sz e1 e2 e3
    subst hce
    have hel : Ei P t ty s := by
      refine ⟨Fh h4, Fh h5, h6, ?_, ?_⟩
      · split at h7
        · rename_i z hz; exact ⟨z, hz, by simpa using h7⟩
        · cases h7
      · split at h8
        · rename_i n hn; exact ⟨n, hn, by simpa using h8⟩
        · cases h8
    have hk : Aj x = true := by simpa [Cj.opds] using hok
    simp only [Aq] at hs
    split at hs
    case h_2 => cases hs
    rename_i es c1 nl e4
    simp only [Option.some.injEq, Prod.mk.injEq] at hs
    obtain ⟨rfl, rfl, rfl⟩ := hs
    obtain ⟨cd, cw, cb⟩ := hc
    exact (q5V (d := d) (fz := false) hel h hg hop rfl hk e4 rfl cw (show ev Γ st.env (.const (.slice none 0 0)) = some (.t (.sl [] (some 0) (some true))) from rfl) (fun e he => by cases he) rfl (by simpa using cb) (.inr (.inr rfl))).2 rfl cd hd
  | appB b x =>
    generalize hop : o.op = op' at hchk
    simp only [Qe] at hchk
    split at hchk
    case h_2 => cases hchk
    split at hchk
    case h_2 => cases hchk
    rename_i cc _ _ _ b' x' t t' e1 e2 e3
    simp only [Bool.and_eq_true] at hchk
    obtain ⟨⟨⟨h1, h2⟩, h3⟩, h4⟩ := hchk
    have := Ag h1; subst this
    have := Ag h2; subst this
    have : t = t' := by simpa using h3
    subst this
    have hce := Sz e1 e2 e3
    subst hce
    split at h4
    case h_2 => cases h4
    rename_i ty hty
    simp only [Bool.and_eq_true] at h4
    obtain ⟨⟨h5, h7⟩, h8⟩ := h4
    have hel : Ei P t ty 1 1 := by
      refine ⟨hty, Fh h5, Nat.one_pos, ?_, ?_⟩
      · split at h7
        · rename_i z hz; exact ⟨z, hz, by simpa using h7⟩
        · cases h7
      · split at h8
        · rename_i n hn; exact ⟨n, hn, by simpa using h8⟩
        · cases h8
    simp only [Cj.opds, List.all_cons, Bool.and_eq_true] at hok
    simp only [Aq, Option.bind_eq_some_iff] at hs
    obtain ⟨news, ⟨ax, hax, hnews⟩, hs⟩ := hs
    split at hs
    · rename_i es q nl hb
      simp only [Option.some.injEq, Prod.mk.injEq] at hs
      obtain ⟨rfl, rfl, rfl⟩ := hs
      obtain ⟨cw, cw2, cc, cb⟩ := hc
      exact qEl hel h hg hop hok.1 hok.2.1 hax hnews cw hb cw2 cc cb
    · cases hs
  | appZ ty s zs b n =>
    generalize hop : o.op = op' at hchk
    simp only [Qe] at hchk
    split at hchk
    case h_2 => cases hchk
    split at hchk
    case h_2 => cases hchk
    rename_i cc _ _ _ b' n' t t' e1 e2 e3
    simp only [Bool.and_eq_true, decide_eq_true_eq] at hchk
    obtain ⟨⟨⟨⟨⟨⟨⟨⟨h1, h2⟩, h3⟩, h4⟩, h5⟩, h6⟩, h7⟩, h8⟩, h9⟩ := hchk
    have := Ag h1; subst this
    have := Ag h2; subst this
    have hce := Sz e1 e2 e3
    subst hce
    simp only [Cj.opds, List.all_cons, Bool.and_eq_true] at hok
    obtain ⟨hz, hzl⟩ : Dq P ty = some zs ∧ zs.length = s := by
      split at h6
      · rename_i z hz
        simp only [Bool.and_eq_true] at h6
        have := P4 h6.1; subst this
        exact ⟨hz, by simpa using h6.2⟩
      · cases h6
    have hel : Ei P t ty s := by
      refine ⟨Fh h3, Fh h4, h5, ⟨zs, hz, hzl⟩, ?_⟩
      split at h8
      · rename_i n hn; exact ⟨n, hn, by simpa using h8⟩
      · cases h8
    obtain ⟨ki, hki⟩ := Option.isSome_iff_exists.1 h9
    simp only [Aq] at hs
    split at hs
    · rename_i es q nl k m f1 f2
      simp only [Option.some.injEq, Prod.mk.injEq] at hs
      obtain ⟨rfl, rfl, rfl⟩ := hs
      exact qEm hel hz h7 hki h hg hop hok.1 hok.2.1 f1 f2 hc.2.1 hc.2.2.1.1 hc.2.2.1.2 hc.2.2.2 hc.1 hd
    · cases hs
  | cpy s x y =>
    generalize hop : o.op = op' at hchk
    simp only [Qe] at hchk
    split at hchk
    case h_2 => cases hchk
    split at hchk
    case h_2 => cases hchk
    rename_i cc _ _ _ x' y' t t' e1 e2 e3
    simp only [Bool.and_eq_true, decide_eq_true_eq] at hchk
    obtain ⟨⟨⟨h1, h2⟩, h3⟩, h4⟩ := hchk
    have := Ag h1; subst this
    have := Ag h2; subst this
    have hce := Sz e1 e2 e3
    subst hce
    simp only [Cj.opds, List.all_cons, Bool.and_eq_true] at hok
    obtain ⟨ty, hsl, hsz⟩ : ∃ ty, slO P t = some ty ∧ N6 P ty = some s := by
      split at h3
      · rename_i ty hty; exact ⟨ty, hty, Fh h3⟩
      · cases h3
    simp only [Aq] at hs
    split at hs
    case h_2 => cases hs
    rename_i id off len cap f1
    split at hs
    case h_2 => cases hs
    rename_i ty2 q es f2
    obtain ⟨news, hn, he⟩ := Option.map_eq_some_iff.1 hs
    simp only [Prod.mk.injEq] at he
    obtain ⟨rfl, rfl, rfl⟩ := he
    obtain ⟨ay, fy, fe⟩ := Option.bind_eq_some_iff.1 hn
    obtain ⟨rfl, hw⟩ := hc
    exact qGY hsl hsz h4 h hg hop hok.1 hok.2.1 f1 f2 fy fe hw
  | slice s x lo hi mx =>
    generalize hop : o.op = op' at hchk
    simp only [Qe] at hchk
    split at hchk
    case h_2 => cases hchk
    rename_i t x' lo' hi' mx'
    simp only [Bool.and_eq_true] at hchk
    obtain ⟨⟨⟨⟨⟨h1, h2⟩, h3⟩, h4⟩, h5⟩, h6⟩ := hchk
    have := Ag h1; subst this
    have := q5N h2; subst this
    have := q5N h3; subst this
    have := q5N h4; subst this
    simp only [Cj.opds, List.all_append, Bool.and_eq_true] at hok
    obtain ⟨⟨⟨k1, k2⟩, k3⟩, k4⟩ := hok
    have k1 : Aj x = true := by simpa using k1
    simp only [Aq, Option.bind_eq_some_iff] at hs
    obtain ⟨a, ha, hs⟩ := hs
    split at hs
    · -- a string
      rename_i b
      simp only [Option.bind_eq_some_iff, Option.map_eq_some_iff, Prod.mk.injEq] at hs
      obtain ⟨l, hl, hh, hhh, rfl, rfl, rfl⟩ := hs
      obtain ⟨rfl, c1, c2, c3, c4⟩ := hc
      simp only [beq_self_eq_true, ↓reduceIte, Bool.and_eq_true, Option.isNone_iff_eq_none] at h6
      obtain ⟨hst, rfl⟩ := h6
      exact q8C h hg hop k1 hst ha (Kz h hg hl c1 k2) (Kz h hg hhh c2 k3) c3 c4
    · -- an immutable slice
      rename_i es cap nl
      simp only [Option.bind_eq_some_iff] at hs
      obtain ⟨l, hl, hh, hhh, hs⟩ := hs
      split at hs
      · simp only [Option.some.injEq, Prod.mk.injEq] at hs
        obtain ⟨rfl, rfl, rfl⟩ := hs
        obtain ⟨c0, cw, c1, c2, c3, c4⟩ := hc
        have hs0 : (s == 0) = false := by simpa using c0
        simp only [hs0, Bool.false_eq_true, ↓reduceIte] at h6
        split at h6
        case h_2 => cases h6
        rename_i e he
        exact q9V h hg hop k1 he (Fh h6) ha cw (Kz h hg hl c1 k2) (Kz h hg hhh c2 k3) c3 c4
      · rename_i m0
        simp only [Option.map_eq_some_iff, Prod.mk.injEq] at hs
        obtain ⟨m, hm, rfl, rfl, rfl⟩ := hs
        obtain ⟨c0, cw, c1, c2, c2', c3, c4, c5⟩ := hc
        have hs0 : (s == 0) = false := by simpa using c0
        simp only [hs0, Bool.false_eq_true, ↓reduceIte] at h6
        split at h6
        case h_2 => cases h6
        rename_i e he
        have hhi : hi.isSome = true := by simpa using h5
        obtain ⟨hi, rfl⟩ := Option.isSome_iff_exists.1 hhi
        exact q8D h hg hop k1 he (Fh h6) ha cw (Kz h hg hl c1 k2) (Kz h hg hhh c2 k3) (Kz h hg hm c2' k4) c3 c4 c5
    · -- a part of a region
      rename_i id off len cap
      simp only [Option.bind_eq_some_iff] at hs
      obtain ⟨l, hl, hh, hhh, hs⟩ := hs
      split at hs
      case h_2 => cases hs
      rename_i ty q es hlk
      split at hs
      · simp only [Option.some.injEq, Prod.mk.injEq] at hs
        obtain ⟨rfl, rfl, rfl⟩ := hs
        obtain ⟨c0, cq, c1, c2, c3, c4⟩ := hc
        have hs0 : (s == 0) = false := by simpa using c0
        simp only [hs0, Bool.false_eq_true, ↓reduceIte] at h6
        split at h6
        case h_2 => cases h6
        rename_i e he
        exact q9W h hg hop k1 he (Fh h6) ha hlk cq (Kz h hg hl c1 k2) (Kz h hg hhh c2 k3) c3 c4
      · rename_i m0
        simp only [Option.map_eq_some_iff, Prod.mk.injEq] at hs
        obtain ⟨m, hm, rfl, rfl, rfl⟩ := hs
        obtain ⟨c0, cq, c1, c2, c2', c3, c4, c5⟩ := hc
        have hs0 : (s == 0) = false := by simpa using c0
        simp only [hs0, Bool.false_eq_true, ↓reduceIte] at h6
        split at h6
        case h_2 => cases h6
        rename_i e he
        have hhi : hi.isSome = true := by simpa using h5
        obtain ⟨hi, rfl⟩ := Option.isSome_iff_exists.1 hhi
        exact q8E h hg hop k1 he (Fh h6) ha hlk cq (Kz h hg hl c1 k2) (Kz h hg hhh c2 k3) (Kz h hg hm c2' k4) c3 c4 c5
    · cases hs
  | mk ty s zs l c1 =>
    generalize hop : o.op = op' at hchk
    simp only [Qe] at hchk
    split at hchk
    case h_2 => cases hchk
    rename_i t l' c'
    simp only [Bool.and_eq_true, decide_eq_true_eq] at hchk
    obtain ⟨⟨⟨⟨⟨⟨⟨h1, h2⟩, h3⟩, h4⟩, h5⟩, h6⟩, h7⟩, h8⟩ := hchk
    have := Ag h1; subst this
    have := Ag h2; subst this
    simp only [Cj.opds, List.all_cons, Bool.and_eq_true] at hok
    obtain ⟨hz, hzl⟩ : Dq P ty = some zs ∧ zs.length = s := by
      split at h6
      · rename_i z hz
        simp only [Bool.and_eq_true] at h6
        have := P4 h6.1; subst this
        exact ⟨hz, by simpa using h6.2⟩
      · cases h6
    have hel : Ei P t ty s := by
      refine ⟨Fh h3, Fh h4, h5, ⟨zs, hz, hzl⟩, ?_⟩
      split at h8
      · rename_i n hn; exact ⟨n, hn, by simpa using h8⟩
      · cases h8
    simp only [Aq] at hs
    split at hs
    · rename_i k n k2 m e1 e2
      simp only [Option.some.injEq, Prod.mk.injEq] at hs
      obtain ⟨rfl, rfl, rfl⟩ := hs
      exact qHf hel hz h7 h hg hop hok.1 hok.2.1 e1 e2 hc.2.1 hc.2.2.1 hc.2.2.2 hc.1 hd
    · cases hs
  | mkE ty s zs l c1 =>
    generalize hop : o.op = op' at hchk
    simp only [Qe] at hchk
    split at hchk
    case h_2 => cases hchk
    rename_i t l' c'
    simp only [Bool.and_eq_true, decide_eq_true_eq] at hchk
    obtain ⟨⟨⟨⟨⟨⟨⟨h1, h2⟩, h3⟩, h4⟩, h5⟩, h6⟩, h7⟩, h8⟩ := hchk
    have := Ag h1; subst this
    have := Ag h2; subst this
    simp only [Cj.opds, List.all_cons, Bool.and_eq_true] at hok
    obtain ⟨hz, hzl⟩ : Dq P ty = some zs ∧ zs.length = s := by
      split at h6
      · rename_i z hz
        simp only [Bool.and_eq_true] at h6
        have := P4 h6.1; subst this
        exact ⟨hz, by simpa using h6.2⟩
      · cases h6
    have hel : Ei P t ty s := by
      refine ⟨Fh h3, Fh h4, h5, ⟨zs, hz, hzl⟩, ?_⟩
      split at h8
      · rename_i n hn; exact ⟨n, hn, by simpa using h8⟩
      · cases h8
    simp only [Aq] at hs
    split at hs
    · rename_i k n k2 m e1 e2
      simp only [Option.some.injEq, Prod.mk.injEq] at hs
      obtain ⟨rfl, rfl, rfl⟩ := hs
      exact qGT hel hz h7 h hg hop hok.1 hok.2.1 e1 e2 hc.2.1 hc.2.2.1 hc.2.2.2 hc.1 hd
    · cases hs
  | mkf f xs =>
    generalize hop : o.op = op' at hchk
    simp only [Qe] at hchk
    split at hchk
    case h_2 => cases hchk
    rename_i f' first caps
    simp only [Bool.and_eq_true] at hchk
    obtain ⟨⟨h1, h2⟩, h3⟩ := hchk
    have : f = f' := by simpa using h1
    subst this
    have hf : first = #[] := by simpa using h2
    subst hf
    have := Na h3; subst this
    simp only [Aq, Option.map_eq_some_iff, Prod.mk.injEq] at hs
    obtain ⟨as, ha, _, rfl, rfl⟩ := hs
    exact qGQ h hg (by rw [hop]; simp [Cj.opds]) hok ha
  | ext x i =>
    have hk : Aj x = true := by simpa [Cj.opds] using hok
    generalize hop : o.op = op' at hchk
    simp only [Qe] at hchk
    split at hchk
    case h_2 => cases hchk
    simp only [Bool.and_eq_true] at hchk
    have := Ag hchk.1; subst this
    rename_i y j
    have : i = j := by simpa using hchk.2
    subst this
    simp only [Aq] at hs
    split at hs
    · rename_i vs e1
      simp only [Option.map_eq_some_iff, Prod.mk.injEq] at hs
      obtain ⟨t, ht, _, rfl, rfl⟩ := hs
      exact qGL h hg hop e1 hk ht
    · cases hs
  | nck x =>
    have hk : Aj x = true := by simpa [Cj.opds] using hok
    generalize hop : o.op = op' at hchk
    simp only [Qe] at hchk
    split at hchk
    case h_2 => cases hchk
    have := Ag hchk; subst this
    simp only [Aq] at hs
    split at hs <;> first | (cases hs; done) | skip
    · rename_i cs k e1
      simp only [Option.some.injEq, Prod.mk.injEq] at hs
      obtain ⟨_, rfl, rfl⟩ := hs
      exact qAG h hg hop e1 hk (.inl ⟨_, _, rfl⟩)
    · rename_i id i k e1
      simp only [Option.some.injEq, Prod.mk.injEq] at hs
      obtain ⟨_, rfl, rfl⟩ := hs
      exact qAG h hg hop e1 hk (.inr (.inl ⟨_, _, _, rfl⟩))
    · rename_i f cs e1
      simp only [Option.some.injEq, Prod.mk.injEq] at hs
      obtain ⟨_, rfl, rfl⟩ := hs
      exact qAG h hg hop e1 hk (.inr (.inr (.inl ⟨_, _, rfl⟩)))
    · rename_i f cs e1
      simp only [Option.some.injEq, Prod.mk.injEq] at hs
      obtain ⟨_, rfl, rfl⟩ := hs
      exact qAG h hg hop e1 hk (.inr (.inr (.inr ⟨_, _, rfl⟩)))
  | mkmap =>
    generalize hop : o.op = op' at hchk
    simp only [Qe] at hchk
    split at hchk
    case h_2 => cases hchk
    simp only [Bool.and_eq_true, Option.isNone_iff_eq_none] at hchk
    obtain ⟨rfl, _⟩ := hchk
    simp only [Aq, Option.some.injEq, Prod.mk.injEq] at hs
    obtain ⟨rfl, rfl, rfl⟩ := hs
    exact qDG h hop hc hd
  | mkB ty zs l c1 =>
    generalize hop : o.op = op' at hchk
    simp only [Qe] at hchk
    split at hchk
    case h_2 => cases hchk
    rename_i t l' c'
    simp only [Bool.and_eq_true, decide_eq_true_eq] at hchk
    obtain ⟨⟨⟨⟨⟨⟨h1, h2⟩, h3⟩, h4⟩, h6⟩, h7⟩, h8⟩ := hchk
    have := Ag h1; subst this
    have := Ag h2; subst this
    simp only [Cj.opds, List.all_cons, Bool.and_eq_true] at hok
    obtain ⟨hz, hzl⟩ : Dq P ty = some zs ∧ zs.length = 1 := by
      split at h6
      · rename_i z hz
        simp only [Bool.and_eq_true] at h6
        have := P4 h6.1; subst this
        exact ⟨hz, by simpa using h6.2⟩
      · cases h6
    have hel : Ei P t ty 1 := by
      refine ⟨Fh h3, Fh h4, Nat.zero_lt_one, ⟨zs, hz, hzl⟩, ?_⟩
      split at h8
      · rename_i n hn; exact ⟨n, hn, by simpa using h8⟩
      · cases h8
    simp only [Aq] at hs
    split at hs
    · rename_i k n k2 m e1 e2
      simp only [Option.some.injEq, Prod.mk.injEq] at hs
      obtain ⟨rfl, rfl, rfl⟩ := hs
      exact qGV hel hz h7 h hg hop hok.1 hok.2.1 e1 e2 hc.2.1 hc.2.2.1 hc.2.2.2 hc.1 hd
    · cases hs
  | rng x =>
    have hk : Aj x = true := by simpa [Cj.opds] using hok
    generalize hop : o.op = op' at hchk
    simp only [Qe] at hchk
    split at hchk
    case h_2 => cases hchk
    simp only [Bool.and_eq_true] at hchk
    have := Ag hchk.1; subst this
    simp only [Aq] at hs
    split at hs
    · rename_i s e1
      simp only [Option.some.injEq, Prod.mk.injEq] at hs
      obtain ⟨rfl, rfl, rfl⟩ := hs
      exact qGW h hg hop hk hchk.2 e1 hc hd
    · cases hs
  | nxt x =>
    have hk : Aj x = true := by simpa [Cj.opds] using hok
    generalize hop : o.op = op' at hchk
    simp only [Qe] at hchk
    split at hchk
    case h_2 => cases hchk
    simp only [Bool.and_eq_true] at hchk
    have := Ag hchk.1; subst this
    rw [hchk.2] at hop
    simp only [Aq] at hs
    split at hs
    case h_2 => cases hs
    rename_i id e1
    split at hs
    case h_2 => cases hs
    rename_i s pos hl
    obtain ⟨g1, g2⟩ := qGX (ds := ds) h hg hop hk e1 hl
    split at hs <;> rename_i hp <;> simp only [Option.some.injEq, Prod.mk.injEq] at hs <;> obtain ⟨_, rfl, rfl⟩ := hs
    · exact g1 hp
    · exact g2 hp
  | lkup kt zv ok m k =>
    generalize hop : o.op = op' at hchk
    simp only [Qe] at hchk
    split at hchk
    case h_2 => cases hchk
    simp only [Bool.and_eq_true] at hchk
    obtain ⟨⟨⟨h1, h2⟩, h3⟩, h4⟩ := hchk
    have := Ag h1; subst this
    have := Ag h2; subst this
    rename_i t ok'
    have : ok = ok' := by simpa using h3
    subst this
    split at h4
    case h_2 => cases h4
    rename_i q e hm
    simp only [Bool.and_eq_true] at h4
    obtain ⟨⟨h5, h6⟩, h7⟩ := h4
    have hz : (P.info? e).bind (·.zero) = some zv := by
      split at h6
      · rename_i z hz; rw [hz, qAF h6]
      · cases h6
    simp only [Cj.opds, List.all_cons, Bool.and_eq_true] at hok
    simp only [Aq] at hs
    split at hs
    case h_2 => cases hs
    rename_i kv e1
    split at hs
    · rename_i es e2
      simp only [Option.some.injEq, Prod.mk.injEq] at hs
      obtain ⟨rfl, rfl, rfl⟩ := hs
      exact qBr h hg hop hok.1 hok.2.1 hm h5 hz h7 e1 e2 (.inl rfl) hc.1 hc.2
    · rename_i id e2
      split at hs
      · rename_i es hl
        simp only [Option.some.injEq, Prod.mk.injEq] at hs
        obtain ⟨rfl, rfl, rfl⟩ := hs
        exact qBr h hg hop hok.1 hok.2.1 hm h5 hz h7 e1 e2 (.inr ⟨id, rfl, hl⟩) hc.1 hc.2
      · cases hs
    · cases hs
  | mup kt m k x =>
    generalize hop : o.op = op' at hchk
    simp only [Qe] at hchk
    split at hchk
    case h_2 => cases hchk
    simp only [Bool.and_eq_true] at hchk
    obtain ⟨⟨⟨h1, h2⟩, h3⟩, h4⟩ := hchk
    have := Ag h1; subst this
    have := Ag h2; subst this
    have := Ag h3; subst this
    split at h4
    case h_2 => cases h4
    rename_i q e hm
    simp only [Cj.opds, List.all_cons, Bool.and_eq_true] at hok
    simp only [Aq] at hs
    split at hs
    case h_2 => cases hs
    rename_i kv id e1 e2
    split at hs
    case h_2 => cases hs
    rename_i es hl
    simp only [Option.map_eq_some_iff, Option.bind_eq_some_iff, Prod.mk.injEq] at hs
    obtain ⟨y, ⟨a, ha, hy⟩, rfl, rfl, rfl⟩ := hs
    exact qGU h hg hop hok.1 hok.2.1 hok.2.2.1 hm h4 e1 e2 hl ha hy hc.1 hc.2
  | appT ty s b x => exact absurd rfl (hnt ty s b x)
  | stR id n a x => exact absurd rfl (hns id n a x)
  | ldR id n g a => exact absurd rfl (hnl id n g a)
  | ldT n g a => exact absurd rfl (hn4 n g a)
  | lkT kt zv ok m k => exact absurd rfl (hn5 kt zv ok m k)
  | hcall f xs rs base => simp [Aq] at hs
  | ncall f xs base => simp [Aq] at hs
  | callT f xs => simp [Aq] at hs
  | rcall f xs rs => simp [Aq] at hs
  | call f xs => simp [Aq] at hs
  | callv x xs => simp [Aq] at hs
theorem qB9 {io : Cj} {d : Nat} {c : Prop} {r : AV} {st1 : St} (h : Bo w0 B κ X μ st tm w) (hg : Gl Γ w X) (hchk : Qe P io o.op = true) (hok : io.opds.all Aj = true) (hd : d < 1000000) (hs : Aq Γ d io st = some (c, r, st1)) (hc : c) : Ap P w0 B κ X o r st1 tm w ds := by
  by_cases ht : ∃ ty s b x, io = .appT ty s b x
  · obtain ⟨ty, s, b, x, rfl⟩ := ht
    simp only [Aq, Option.bind_eq_some_iff] at hs
    obtain ⟨news, ⟨a, ha, hn⟩, hs⟩ := hs
    split at hs
    · rename_i es q nl hb
      simp only [Option.some.injEq, Prod.mk.injEq] at hs
      obtain ⟨rfl, rfl, rfl⟩ := hs
      obtain ⟨h1, h2, h3, h4⟩ := hc
      refine P7 (io := .app true ty s b x) (c := Dz s news ∧ Dz s es ∧ q = es.length ∧ es.length + news.length ≤ 2147483648 ∧ (true = true ∨ news ≠ [] ∨ es = [])) (by simp) (by simp) (by simp) (by simp) (by simp) h hg hchk hok hd ?_ ⟨h1, h2, h3, h4, .inl rfl⟩
      simp [Aq, ha, hn, hb]
    · cases hs
  · by_cases ht2 : ∃ id n a x, io = .stR id n a x
    · obtain ⟨id, n, a, x, rfl⟩ := ht2
      simp only [Aq] at hs
      split at hs
      · exact P7 (io := .store n a x) (by simp) (by simp) (by simp) (by simp) (by simp) h hg hchk hok hd (by simp only [Aq]; exact hs) hc
      · cases hs
    · by_cases ht3 : ∃ id n g a, io = .ldR id n g a
      · obtain ⟨id, n, g, a, rfl⟩ := ht3
        simp only [Aq] at hs
        split at hs
        · exact P7 (io := .load n g a) (by simp) (by simp) (by simp) (by simp) (by simp) h hg hchk hok hd (by simp only [Aq]; exact hs) hc
        · cases hs
      · by_cases ht4 : ∃ n g a, io = .ldT n g a
        · obtain ⟨n, g, a, rfl⟩ := ht4
          simp only [Aq] at hs
          split at hs
          · rename_i ha
            exact P7 (io := .load n g a) (by simp) (by simp) (by simp) (by simp) (by simp) h hg hchk hok hd (by simp only [Aq, ha]; exact hs) hc
          · cases hs
        · by_cases ht5 : ∃ kt zv ok m k, io = .lkT kt zv ok m k
          · obtain ⟨kt, zv, ok, m, k, rfl⟩ := ht5
            simp only [Aq] at hs
            split at hs
            · rename_i hk hm
              exact P7 (io := .lkup kt zv ok m k) (by simp) (by simp) (by simp) (by simp) (by simp) h hg hchk hok hd (by simp only [Aq, hk, hm]; exact hs) hc
            · cases hs
          · exact P7 (fun ty s b x e => ht ⟨ty, s, b, x, e⟩) (fun id n a x e => ht2 ⟨id, n, a, x, e⟩) (fun id n g a e => ht3 ⟨id, n, g, a, e⟩) (fun n g a e => ht4 ⟨n, g, a, e⟩) (fun kt zv ok m k e => ht5 ⟨kt, zv, ok, m, k, e⟩) h hg hchk hok hd hs hc
end
end Go.Lg
namespace Go.Lg
open Go
def Wm (P : Program) (f : FuncId) (vs : Array Value) (w : World) (R : Value → World → Prop) : Prop :=
  ((callFunc f vs).run P w = .ok (.enter f vs) w ∧ Calls P f vs w fun e w' => ∃ v, e = .returned v ∧ R v w') ∨ ∃ v, (callFunc f vs).run P w = .ok (.value v) w ∧ R v w
theorem Wm.mono {P : Program} {f : FuncId} {vs : Array Value} {w : World} {R R' : Value → World → Prop} (h : Wm P f vs w R) (hr : ∀ v w', R v w' → R' v w') : Wm P f vs w R' := by
  rcases h with ⟨h1, h2⟩ | ⟨v, h1, h2⟩
  · exact .inl ⟨h1, h2.mono fun e w' ⟨v, he, hR⟩ => ⟨v, he, hr v w' hR⟩⟩
  · exact .inr ⟨v, h1, hr v w h2⟩
def Au (P : Program) (Γ : Tables) (f : FuncId) (args : List T) (res : T) : Prop :=
  ∀ (w : World) (X : Nat → Prop) (vs : List Value), Gl Γ w X → (∀ b, X b → b < w.heap.size) → Fj w X args vs →
    Wm P f vs.toArray w fun v w' => RowKit.Below w.heap.size w w' ∧ TR w' (fun b => X b ∨ (w.heap.size ≤ b ∧ b < w'.heap.size)) res v
def A8 (P : Program) (Γ : Tables) (f : FuncId) (args : List T) (res : T) : Prop :=
  ∀ (w : World) (X : Nat → Prop) (vs : List Value), Gl Γ w X → (∀ b, X b → b < w.heap.size) → Fj w X args vs →
    Wm P f vs.toArray w fun v w' => RowKit.Below w.heap.size w w' ∧ TR w' (fun b => w.heap.size ≤ b ∧ b < w'.heap.size) res v
theorem A8.pure {P : Program} {Γ : Tables} {f : FuncId} {args : List T} {res : T} (h : A8 P Γ f args res) : Au P Γ f args res :=
  fun w X vs hg hx hr => (h w X vs hg hx hr).mono fun v w' ⟨hb, ht⟩ => ⟨hb, ht.mono (fun _ _ => rfl) (fun _ hb => .inr hb)⟩
def Xc : T → Bool
  | .v _ => true
  | .sl [] _ _ => true
  | _ => false
def Ak : T → Bool
  | .tup vs => vs.all Xc
  | .agg vs => vs.all Xc
  | t => Xc t
theorem q8I {w : World} {X Y : Nat → Prop} {t : T} {x : Value} (h : TR w X t x) (hf : Xc t = true) : TR w Y t x := by
  cases h with
  | v x => exact .v x
  | nil cap nl a c hc hn hz => exact .nil cap nl a c hc hn hz
  | sl es cap nl s b off c f hcell hlen hrel hone hx hle hc hn =>
    cases es with
    | nil => exact .nil cap nl _ c hc (fun q hq => by rw [hn q hq]; rfl) (fun e => by cases e)
    | cons e es => simp [Xc] at hf
  | agg => simp [Xc] at hf
  | tup => simp [Xc] at hf
  | ip => simp [Xc] at hf
  | fn => simp [Xc] at hf
  | mpnil => simp [Xc] at hf
  | mp => simp [Xc] at hf
theorem q5a {w : World} {X Y : Nat → Prop} {t : T} {x : Value} (h : TR w X t x) (hf : Ak t = true) : TR w Y t x := by
  have one : ∀ {ts : List T} {xs : List Value}, ts.all Xc = true → Fj w X ts xs → Fj w Y ts xs := by
    intro ts xs h1 h2
    exact ⟨h2.1, fun k t x ht hx => q8I (h2.2 k t x ht hx) (List.all_eq_true.1 h1 t (List.mem_of_getElem? ht))⟩
  cases t with
  | tup vs => obtain ⟨xs, rfl, hr⟩ := h.tup_inv; exact TR.mk_tup (one hf hr)
  | agg vs => obtain ⟨xs, rfl, h1, hr⟩ := h.agg_inv; exact TR.mk_agg h1 (one hf hr)
  | _ => exact q8I h hf
structure RO where
  dst : Option Nat
  op : Cj
  guard : Option (Nat × Bool) := none
  rid : Option Nat := none
def RO.d (ro : RO) : Nat := match ro.rid with
  | some r => r
  | none => ro.dst.getD 0
def St.put (st : St) (d : Option Nat) (a : AV) : St := match d with
  | some d => ⟨(d, a) :: st.env, st.hp⟩
  | none => st
def q7X (st : St) (μ : D6) (b : Nat) : Prop := ∃ id n, st.sh id ≠ none ∧ μ id = some (b, n)
section
variable {P : Program} {Γ : Tables} {w0 : World} {B : Nat} {κ : D6} {X : Nat → Prop} {μ : D6} {st : St} {tm : Array Value} {w : World} {ds : List Deferred} {o : Oper}
theorem P8 {Y : Nat → Prop} {f : AV → Option T} : ∀ {cs : List AV} {xs : List Value} {ts : List T}, J0 w X μ st.sh cs xs → (∀ c ∈ cs, ∀ t x, AR w X μ st.sh c x → f c = some t → TR w Y t x) → Ar (cs.map f) = some ts → Fj w Y ts xs
  | [], xs, ts, h, hf, ho => by
    simp only [List.map_nil, Ar, Option.some.injEq] at ho
    subst ho; rw [h.nil_inv]; exact Fj.nil _ _
  | c :: cs, xs, ts, h, hf, ho => by
    obtain ⟨x, ys, rfl, hx, hs⟩ := h.cons_inv
    simp only [List.map_cons] at ho
    cases hc : f c with
    | none => rw [hc] at ho; simp [Ar] at ho
    | some t =>
      rw [hc] at ho
      simp only [Ar, Option.map_eq_some_iff] at ho
      obtain ⟨ts', ho', rfl⟩ := ho
      exact Fj.cons (hf c (by simp) t x hx hc) (P8 hs (fun c hm => hf c (by simp [hm])) ho')
theorem q6v : ∀ {n : Nat} {hp : List (Nat × Bj)} {a : AV} {t : T}, a.one = true → Ai hp n a = some t → t.one = true := by
  intro n hp a t h1 h
  cases a with
  | t x => cases n <;> simp only [Ai, Option.some.injEq] at h <;> subst h <;> exact h1
  | ag cs => simp [AV.one] at h1
  | un => simp [AV.one] at h1
  | dead => cases n <;> simp [Ai] at h
  | ls id off len cap =>
    cases n with
    | zero => simp [Ai] at h
    | succ n => simp only [Ai] at h; split at h <;> simp at h; subst h; rfl
  | lp id i k =>
    cases n with
    | zero => simp [Ai] at h
    | succ n =>
      simp only [Ai] at h
      split at h
      · simp at h; subst h; rfl
      · simp only [Option.map_eq_some_iff] at h; obtain ⟨ts, _, rfl⟩ := h; rfl
      · cases h
  | li id => cases n <;> simp [Ai] at h
  | lb id m =>
    cases n with
    | zero => simp [Ai] at h
    | succ n =>
      simp only [Ai] at h
      split at h
      · simp only [Option.map_eq_some_iff] at h; obtain ⟨ts, _, rfl⟩ := h; rfl
      · cases h
  | lm id =>
    cases n with
    | zero => simp [Ai] at h
    | succ n => simp only [Ai] at h; split at h <;> simp at h; subst h; rfl
  | fn f cs =>
    cases n with
    | zero => simp [Ai] at h
    | succ n => simp only [Ai, Option.map_eq_some_iff] at h; obtain ⟨ts, _, rfl⟩ := h; rfl
theorem Vg {n : Nat} {hp : List (Nat × Bj)} : ∀ {cs : List AV} {ts : List T}, Cc cs = true → Ar (cs.map (Ai hp n)) = some ts → C7 ts = true
  | [], ts, h, ho => by simp only [List.map_nil, Ar, Option.some.injEq] at ho; subst ho; rfl
  | c :: cs, ts, h, ho => by
    simp only [Cc, List.all_cons, Bool.and_eq_true] at h
    simp only [List.map_cons] at ho
    cases hc : Ai hp n c with
    | none => rw [hc] at ho; simp [Ar] at ho
    | some t =>
      rw [hc] at ho
      simp only [Ar, Option.map_eq_some_iff] at ho
      obtain ⟨ts', ho', rfl⟩ := ho
      simp only [C7, List.all_cons, Bool.and_eq_true]
      exact ⟨q6v h.1 hc, Vg h.2 ho'⟩
theorem q5b (h : Bo w0 B κ X μ st tm w) : ∀ (n : Nat) {a : AV} {x : Value} {t : T}, AR w X μ st.sh a x → Ai st.hp n a = some t → TR w (fun b => X b ∨ q7X st μ b) t x := by
  have hmono : ∀ {t : T} {x : Value}, TR w X t x → TR w (fun b => X b ∨ q7X st μ b) t x := fun ht => ht.mono (fun _ _ => rfl) (fun _ hb => .inl hb)
  intro n
  induction n with
  | zero =>
    intro a x t ha hr
    cases a <;> simp only [Ai, Option.some.injEq, reduceCtorEq] at hr
    subst hr; exact hmono ha.t_inv
  | succ n ih =>
    intro a x t ha hr
    cases a with
    | t y => simp only [Ai, Option.some.injEq] at hr; subst hr; exact hmono ha.t_inv
    | ag cs =>
      simp only [Ai, Option.map_eq_some_iff] at hr
      obtain ⟨ts, hts, rfl⟩ := hr
      obtain ⟨xs, rfl, h1, hs⟩ := ha.ag_inv
      exact TR.mk_agg (Vg h1 hts) (P8 hs (fun c _ t x hc hf => ih hc hf) hts)
    | fn f cs =>
      simp only [Ai, Option.map_eq_some_iff] at hr
      obtain ⟨ts, hts, rfl⟩ := hr
      cases ha with
      | fn f cs xs hlen hrel =>
        have := P8 (w := w) (μ := μ) (st := st) (X := X) (cs := cs) (xs := xs) ⟨hlen, hrel⟩ (fun c _ t x hc hf => ih hc hf) hts
        exact .fn f ts xs this.1 this.2
    | ls id off len cap =>
      have hel : ∃ ty s es, A7 st.hp id = some (.sl ty s es) ∧ t = .sl ((es.drop off).take len) cap none := by
        simp only [Ai] at hr
        split at hr
        · rename_i ty s es hl; simp only [Option.some.injEq] at hr; exact ⟨ty, s, es, hl, hr.symm⟩
        · cases hr
      obtain ⟨ty, s, es, hl, rfl⟩ := hel
      have hwr := qAK (h.reg id _ hl)
      obtain ⟨s', n', hs, hcase⟩ := ha.ls_inv
      rw [Eo hl] at hs
      simp only [Bj.sh, Option.some.injEq, Sh.sl.injEq] at hs
      obtain ⟨rfl, rfl⟩ := hs
      rcases hcase with ⟨hm, ⟨oa, rfl⟩, rfl, rfl, hc⟩ | ⟨g, m, c, ad, hm, rfl, hle, hlc, hcm, hfit, hfull, hcq, had⟩
      · simp only [List.take_zero]
        exact .nil _ _ _ _ (fun q hq => (hc q hq).symm) (fun b hb => by cases hb) (fun _ => rfl)
      · have hlen : ((es.drop off).take len).length = len := by simp; omega
        by_cases h0 : len = 0
        · subst h0
          simp only [List.take_zero]
          exact .nil _ _ _ _ hcq (fun b hb => by cases hb) (fun e => by cases e)
        · obtain ⟨hw, hcase⟩ := h.reg id _ hl
          rcases hcase with ⟨_, hm0⟩ | ⟨g', arr, hm', hg, hle', hrel⟩
          · rw [hm] at hm0; cases hm0
          rw [hm] at hm'; cases hm'
          have hge : ∀ i, i < len → ((es.drop off).take len)[i]? = es[off + i]? := fun i hi => by rw [List.getElem?_take, if_pos hi, List.getElem?_drop]
          have hmem : ∀ e ∈ (es.drop off).take len, ∃ i, es[i]? = some e := fun e hme => by
            obtain ⟨i, hi, rfl⟩ := List.getElem_of_mem (List.mem_of_mem_drop (List.mem_of_mem_take hme))
            exact ⟨i, List.getElem?_eq_getElem hi⟩
          have := TR.mk_sl (w := w) (X := fun b => X b ∨ q7X st μ b) (es := (es.drop off).take len) (cap := cap) (nl := none) (s := s) (b := g) (off := off * s) (c := c) (f := fun i k => (arr[(off + i) * s + k]?).getD undef)
            (.inr ⟨id, _, by simp [Eo hl], hm⟩) (by omega) hcq (fun q hq => by cases hq) (fun e hme => by obtain ⟨i, hi⟩ := hmem e hme; exact (hw i e hi).1)
            (fun e hme => by
              obtain ⟨i, hi⟩ := hmem e hme
              exact List.all_eq_true.2 fun t ht => by obtain ⟨k, hk, rfl⟩ := List.getElem_of_mem ht; exact (hw i e hi).2 k _ (List.getElem?_eq_getElem hk))
            (fun i k hi hk => by
              rw [hlen] at hi
              have hf := Ky (s := s) (i := off + i) (len := es.length) (by omega)
              have hin : (off + i) * s + k < arr.size := by omega
              rw [cell_of_row _ _ _ _ _ _ hg, show off * s + i * s + k = (off + i) * s + k by rw [Nat.add_mul]]
              simp [hin])
            (fun i k e t he ht => by
              have hi := (List.getElem?_eq_some_iff.1 he).1
              rw [hlen] at hi
              rw [hge i hi] at he
              have hk : k < s := by rw [← (hw _ e he).1]; exact (List.getElem?_eq_some_iff.1 ht).1
              have hf := Ky (s := s) (i := off + i) (len := es.length) (by omega)
              have hin : (off + i) * s + k < arr.size := by omega
              have := hrel (off + i) k e t arr[(off + i) * s + k] he ht (by simp [hin])
              simp only [hin, getElem?_pos, Option.getD_some]
              exact hmono this)
          rw [hlen] at this
          rw [had (.inl (by omega))]
          exact this
    | lp id i k =>
      simp only [Ai] at hr
      obtain ⟨g, m, hm, hp⟩ := ha.lp_inv
      split at hr
      · rename_i ty s es hl
        simp only [Option.some.injEq] at hr; subst hr
        rcases hp with ⟨s', n', hs, rfl⟩ | ⟨hs, _, _⟩
        case inr => rw [Eo hl] at hs; cases hs
        rw [Eo hl] at hs
        simp only [Bj.sh, Option.some.injEq, Sh.sl.injEq] at hs
        obtain ⟨rfl, rfl⟩ := hs
        have hx : X g ∨ q7X st μ g := .inr ⟨id, _, by simp [Eo hl], hm⟩
        by_cases hi : i < es.length
        · obtain ⟨g', arr, hm', hheap, hle, hlen, h1, hrr⟩ := (h.reg id _ hl).elem hi
          rw [hm] at hm'; cases hm'
          refine TR.mk_ip h1 (hrr.mono (fun _ _ => rfl) (fun _ hb => .inl hb)) hx (fun j y hy => ?_)
          rw [cell_of_row _ _ _ _ _ _ hheap]
          rw [List.getElem?_take] at hy
          split at hy
          · rw [List.getElem?_drop] at hy; simpa using hy
          · cases hy
        · have : es.getD i [] = [] := by simp [List.getD, hi]
          rw [this]
          exact TR.mk_ip rfl (Fj.nil _ _) hx (fun j y hy => by simp at hy)
      · rename_i cs hl
        simp only [Option.map_eq_some_iff] at hr
        obtain ⟨ts, hts, rfl⟩ := hr
        rcases hp with ⟨s', n', hs, rfl⟩ | ⟨hs, rfl, rfl⟩
        · rw [Eo hl] at hs; cases hs
        obtain ⟨hone, g', arr, ty, hm', hheap, hsz, hrel⟩ := h.reg id _ hl
        rw [hm] at hm'; cases hm'
        have hcs : J0 w X μ st.sh cs arr.toList := ⟨by simp [hsz], fun j a y h2 h3 => hrel j a y h2 (by simpa using h3)⟩
        have h1 : Cc cs = true := List.all_eq_true.2 fun t ht => by obtain ⟨j, hj, rfl⟩ := List.getElem_of_mem ht; exact hone j _ (List.getElem?_eq_getElem hj)
        have := TR.mk_ip (w := w) (X := fun b => X b ∨ q7X st μ b) (k := k) (b := g) (off := 0) (Vg h1 hts) (P8 hcs (fun c _ t x hc hf => ih hc hf) hts) (.inr ⟨id, _, by simp [Eo hl], hm⟩) (fun j y hy => by
          rw [cell_of_row _ _ _ _ _ _ hheap]; simpa using hy)
        simpa using this
      · cases hr
    | li id => simp [Ai] at hr
    | lb id m =>
      simp only [Ai] at hr
      obtain ⟨g, hsb, hm, hmx, rfl⟩ := ha.lb_inv
      split at hr
      · rename_i cs hl
        simp only [Option.map_eq_some_iff] at hr
        obtain ⟨ts, hts, rfl⟩ := hr
        obtain ⟨hone, g', arr, ty, hm', hheap, hsz, hrel⟩ := h.reg id _ hl
        rw [hm] at hm'; cases hm'
        have hcs : J0 w X μ st.sh cs arr.toList := ⟨by simp [hsz], fun j a y h2 h3 => hrel j a y h2 (by simpa using h3)⟩
        have h1 : Cc cs = true := List.all_eq_true.2 fun t ht => by obtain ⟨j, hj, rfl⟩ := List.getElem_of_mem ht; exact hone j _ (List.getElem?_eq_getElem hj)
        have h1t := Vg h1 hts
        have hrt := P8 hcs (fun c _ t x hc hf => ih hc hf) hts
        have hlen : (ts.map fun t => [t]).length = arr.size := by have := hrt.1; simpa using this
        by_cases h0 : ts = []
        · subst h0
          have h00 : arr.size = 0 := by simpa using hlen.symm
          rw [h00]
          exact .nil _ _ _ _ (fun q hq => by cases hq; rfl) (fun b hb => by cases hb) (fun e => by cases e)
        · have := TR.mk_sl (w := w) (X := fun b => X b ∨ q7X st μ b) (es := ts.map fun t => [t]) (cap := some arr.size) (nl := none) (s := 1) (b := g) (off := 0) (c := arr.size) (f := fun i k => (arr[i + k]?).getD undef)
            (.inr ⟨id, _, by simp [Eo hl], hm⟩) (by omega) (fun q hq => by cases hq; rfl) (fun q hq => by cases hq) (fun e hme => by obtain ⟨t, _, rfl⟩ := List.mem_map.1 hme; rfl)
            (fun e hme => by
              obtain ⟨t, ht, rfl⟩ := List.mem_map.1 hme
              simpa [C7] using List.all_eq_true.1 h1t t ht)
            (fun i k hi hk => by
              rw [cell_of_row _ _ _ _ _ _ hheap, show 0 + i * 1 + k = i + k by omega]
              rw [hlen] at hi
              have : i + k < arr.size := by omega
              simp [this])
            (fun i k e t he ht => by
              have hi := (List.getElem?_eq_some_iff.1 he).1
              simp only [List.getElem?_map, Option.map_eq_some_iff] at he
              obtain ⟨t', ht', rfl⟩ := he
              have hk : k = 0 := by have := (List.getElem?_eq_some_iff.1 ht).1; simpa using this
              subst hk
              simp only [List.getElem?_cons_zero, Option.some.injEq] at ht; subst ht
              rw [hlen] at hi
              have := hrt.2 i t' arr[i] ht' (by simp [hi])
              simpa [hi] using this)
          rw [hlen] at this
          exact this
      · cases hr
    | lm id =>
      simp only [Ai] at hr
      split at hr
      · rename_i es hl
        simp only [Option.some.injEq] at hr; subst hr
        obtain ⟨g, n', hs, hm, rfl⟩ := ha.lm_inv
        obtain ⟨g', n2, clock, ms, hm', hh, hlen, hrel⟩ := h.reg _ _ hl
        rw [hm] at hm'; cases hm'
        exact .mp es g clock ms hh (.inr ⟨id, _, by simp [Eo hl], hm⟩) hlen (fun i e m h1 h2 => (hrel i e m h1 h2).1) (fun i e m h1 h2 => hmono (hrel i e m h1 h2).2)
      · cases hr
    | dead => simp [Ai] at hr
    | un => simp [Ai] at hr
end
end Go.Lg
namespace Go.Lg
open Go
def qBv : AV → Bool
  | .ag _ => false
  | _ => true
def ren0 (φ : Nat → Option Nat) : AV → AV
  | .ls i off len cap => match φ i with | some j => .ls j off len cap | none => .dead
  | .lp i a k => match φ i with | some j => .lp j a k | none => .dead
  | .lm i => match φ i with | some j => .lm j | none => .dead
  | .lb i m => match φ i with | some j => .lb j m | none => .dead
  | .li i => match φ i with | some j => .li j | none => .dead
  | .fn f [] => .fn f []
  | .fn _ (_ :: _) => .dead
  | .t x => .t x
  | .dead => .dead
  | .un => .un
  | .ag cs => .ag cs
def ren1 (φ : Nat → Option Nat) : AV → AV
  | .fn f cs => if cs.all qBv then .fn f (cs.map (ren0 φ)) else .dead
  | a => ren0 φ a
def Bm (φ : Nat → Option Nat) : AV → AV
  | .ag cs => .ag (cs.map (ren1 φ))
  | a => ren1 φ a
def Cd (φ : Nat → Option Nat) : Bj → Bj
  | .bx cs => .bx (cs.map (Bm φ))
  | q => q
theorem Lt {φ : Nat → Option Nat} (q : Bj) : (Cd φ q).sh = q.sh := by cases q <;> rfl
section
variable {P : Program} {Γ : Tables} {w0 : World} {B : Nat} {κ : D6} {X X' : Nat → Prop} {μ μ' : D6} {st : St} {tm : Array Value} {w w' : World} {sh sh' : Nat → Option Sh} {φ : Nat → Option Nat}
theorem AR.ren0 (hsh : ∀ i j q, φ i = some j → sh i = some q → sh' j = some q ∧ μ' j = μ i) {a : AV} {x : Value} (ha : AR w X μ sh a x) (hna : ∀ cs, a ≠ .ag cs) : AR w X μ' sh' (Lg.ren0 φ a) x := by
  cases ha with
  | t y v hy => exact .t _ _ hy
  | lsnil i s n hs hm oa cap hq =>
    simp only [Lg.ren0]; split
    · rename_i j hj; exact .lsnil j s n (hsh _ _ _ hj hs).1 ((hsh _ _ _ hj hs).2.trans hm) oa cap hq
    · exact .dead _ rfl
  | ls i off len s n g m c cap hs hm hle hlc hcm hfit hfull hq ad had =>
    simp only [Lg.ren0]; split
    · rename_i j hj; exact .ls j off len s n g m c cap (hsh _ _ _ hj hs).1 ((hsh _ _ _ hj hs).2.trans hm) hle hlc hcm hfit hfull hq ad had
    · exact .dead _ rfl
  | lpsl i a k s n g m hs hm =>
    simp only [Lg.ren0]; split
    · rename_i j hj; exact .lpsl j a k s n g m (hsh _ _ _ hj hs).1 ((hsh _ _ _ hj hs).2.trans hm)
    · exact .dead _ rfl
  | lpbx i k g m hs hm =>
    simp only [Lg.ren0]; split
    · rename_i j hj; exact .lpbx j k g m (hsh _ _ _ hj hs).1 ((hsh _ _ _ hj hs).2.trans hm)
    · exact .dead _ rfl
  | lm i g m hs hm =>
    simp only [Lg.ren0]; split
    · rename_i j hj; exact .lm j g m (hsh _ _ _ hj hs).1 ((hsh _ _ _ hj hs).2.trans hm)
    · exact .dead _ rfl
  | lb i g m hs hm hle =>
    simp only [Lg.ren0]; split
    · rename_i j hj; exact .lb j g m (hsh _ _ _ hj hs).1 ((hsh _ _ _ hj hs).2.trans hm) hle
    · exact .dead _ rfl
  | li i g m hs hm =>
    simp only [Lg.ren0]; split
    · rename_i j hj; exact .li j g m (hsh _ _ _ hj hs).1 ((hsh _ _ _ hj hs).2.trans hm)
    · exact .dead _ rfl
  | fn f cs xs hlen hrel =>
    cases cs with
    | nil => exact .fn f [] xs hlen (fun k a x h => by simp at h)
    | cons c cs => exact .dead _ rfl
  | dead v h => exact .dead _ h
  | un => exact .un
  | ag cs xs => exact absurd rfl (hna cs)
theorem AR.ren1 (hsh : ∀ i j q, φ i = some j → sh i = some q → sh' j = some q ∧ μ' j = μ i) {a : AV} {x : Value} (ha : AR w X μ sh a x) (hna : ∀ cs, a ≠ .ag cs) : AR w X μ' sh' (Lg.ren1 φ a) x := by
  by_cases hf : ∃ f cs, a = .fn f cs
  · obtain ⟨f, cs, rfl⟩ := hf
    simp only [Lg.ren1]
    split
    · rename_i hall
      cases ha with
      | fn f cs xs hlen hrel =>
        refine .fn f _ xs (by simpa using hlen) fun k a x ha hx => ?_
        simp only [List.getElem?_map, Option.map_eq_some_iff] at ha
        obtain ⟨b, hb, rfl⟩ := ha
        refine (hrel k b x hb hx).ren0 hsh fun cs e => ?_
        have := List.all_eq_true.1 hall b (List.mem_of_getElem? hb)
        rw [e] at this; cases this
    · cases ha; exact .dead _ rfl
  · have e : Lg.ren1 φ a = Lg.ren0 φ a := by cases a <;> first | rfl | exact absurd ⟨_, _, rfl⟩ hf
    rw [e]; exact ha.ren0 hsh hna
theorem qBw {a : AV} (h : a.one = true) : (Lg.ren0 φ a).one = true := by
  cases a with
  | fn f cs => cases cs <;> rfl
  | ag cs => simp [AV.one] at h
  | un => simp [AV.one] at h
  | t x => exact h
  | dead => rfl
  | ls i off len cap => simp only [Lg.ren0]; split <;> rfl
  | lp i j k => simp only [Lg.ren0]; split <;> rfl
  | lm i => simp only [Lg.ren0]; split <;> rfl
  | lb i m => simp only [Lg.ren0]; split <;> rfl
  | li i => simp only [Lg.ren0]; split <;> rfl
theorem q8J {a : AV} (h : a.one = true) : (Lg.ren1 φ a).one = true := by
  by_cases hf : ∃ f cs, a = .fn f cs
  · obtain ⟨f, cs, rfl⟩ := hf
    simp only [Lg.ren1]; split <;> rfl
  · have e : Lg.ren1 φ a = Lg.ren0 φ a := by cases a <;> first | rfl | exact absurd ⟨_, _, rfl⟩ hf
    rw [e]; exact qBw h
theorem q9Z {a : AV} (h : a.one = true) : (Bm φ a).one = true := by
  have e : Bm φ a = Lg.ren1 φ a := by cases a <;> first | rfl | simp [AV.one] at h
  rw [e]; exact q8J h
theorem AR.ren (hsh : ∀ i j q, φ i = some j → sh i = some q → sh' j = some q ∧ μ' j = μ i) {a : AV} {x : Value} (ha : AR w X μ sh a x) : AR w X μ' sh' (Bm φ a) x := by
  by_cases hg : ∃ cs, a = .ag cs
  · obtain ⟨cs, rfl⟩ := hg
    obtain ⟨xs, rfl, h1, hr⟩ := ha.ag_inv
    refine AR.mk_ag (List.all_eq_true.2 fun b hb => ?_) ⟨by simpa using hr.1, fun k b y hb hy => ?_⟩
    · obtain ⟨c, hc, rfl⟩ := List.mem_map.1 hb
      exact q8J (List.all_eq_true.1 h1 c hc)
    · simp only [List.getElem?_map, Option.map_eq_some_iff] at hb
      obtain ⟨c, hc', rfl⟩ := hb
      exact (hr.2 k c y hc' hy).ren1 hsh (fun cs e => by have := Tt h1 hc'; rw [e] at this; simp [AV.one] at this)
  · have e : Bm φ a = Lg.ren1 φ a := by cases a <;> first | rfl | exact absurd ⟨_, rfl⟩ hg
    rw [e]; exact ha.ren1 hsh (fun cs e => hg ⟨cs, e⟩)
theorem J0.ren (hsh : ∀ i j q, φ i = some j → sh i = some q → sh' j = some q ∧ μ' j = μ i) {as : List AV} {xs : List Value} (ha : J0 w X μ sh as xs) : J0 w X μ' sh' (as.map (Bm φ)) xs :=
  ⟨by simpa using ha.1, fun k a x h hx => by
    simp only [List.getElem?_map, Option.map_eq_some_iff] at h
    obtain ⟨b, hb, rfl⟩ := h
    exact (ha.2 k b x hb hx).ren hsh⟩
theorem Lq.ren {id id' : Nat} {r : Bj} (hsh : ∀ i j q, φ i = some j → sh i = some q → sh' j = some q ∧ μ' j = μ i) (hid : μ' id' = μ id) (h : Lq w X μ sh id r) : Lq w X μ' sh' id' (Cd φ r) := by
  cases r with
  | sl ty s es =>
    refine ⟨h.1, h.2.imp (fun ⟨h1, h2⟩ => ⟨h1, hid.trans h2⟩) fun ⟨g, arr, hm, hr⟩ => ⟨g, arr, hid.trans hm, hr⟩⟩
  | mp es => obtain ⟨g, n, clock, ms, hm, hr⟩ := h; exact ⟨g, n, clock, ms, hid.trans hm, hr⟩
  | it s pos => obtain ⟨g, n, hm, hr⟩ := h; exact ⟨g, n, hid.trans hm, hr⟩
  | bx cs =>
    obtain ⟨h1, g, arr, ty, hm, hg, hle, hr⟩ := h
    refine ⟨fun k a ha => ?_, g, arr, ty, hid.trans hm, hg, by simpa using hle, fun k a x ha hx => ?_⟩
    · simp only [List.getElem?_map, Option.map_eq_some_iff] at ha
      obtain ⟨b, hb, rfl⟩ := ha
      exact q9Z (h1 k b hb)
    · simp only [List.getElem?_map, Option.map_eq_some_iff] at ha
      obtain ⟨b, hb, rfl⟩ := ha
      exact (hr k b x hb hx).ren hsh
def Hf (P : Program) (Γ : Tables) (f : FuncId) (hp : List (Nat × Bj)) (args : List AV) (res : AV) (hp' : List (Nat × Bj)) : Prop :=
  ∀ (w : World) (X : Nat → Prop) (κ : D6) (vs : List Value), Gl Γ w X → (∀ id, κ id ≠ none → A7 hp id ≠ none) → Bo w w.heap.size κ X κ ⟨[], hp⟩ #[] w → J0 w X κ (St.sh ⟨[], hp⟩) args vs →
    Wm P f vs.toArray w fun v w' => ∃ X' μ', Bo w w.heap.size κ X' μ' ⟨[], hp'⟩ #[] w' ∧ AR w' X' μ' (St.sh ⟨[], hp'⟩) res v ∧ (∀ b, X b → X' b) ∧ (∀ b, X' b → X b ∨ w.heap.size ≤ b ∨ ∃ id n, κ id = some (b, n))
theorem Hf.alike {f : FuncId} {hp hq : List (Nat × Bj)} {args : List AV} {res : AV} {hp' : List (Nat × Bj)} (hl : ∀ t, A7 hq t = A7 hp t) (h : Hf P Γ f hp args res hp') : Hf P Γ f hq args res hp' := by
  intro w X κ vs hg hk hs ha
  have e : St.sh ⟨[], hq⟩ = St.sh ⟨[], hp⟩ := funext fun t => by simp only [St.sh, hl]
  refine h w X κ vs hg (fun id hi => by rw [← hl]; exact hk id hi) ?_ (by rw [← e]; exact ha)
  refine ⟨fun t a ht => by simp [A7] at ht, fun id r hr => ?_, ?_, ?_, ?_, hs.kbig, hs.xlt, hs.os, hs.tape, hs.output, hs.size, hs.fr⟩
  · rw [← e]; exact hs.reg id r (by show A7 hq id = _; rw [hl]; exact hr)
  · rw [← e]; exact hs.inj
  · rw [← e]; exact hs.loc
  · rw [← e]; exact hs.kap
def fwd (rs : List Nat) (i : Nat) : Option Nat := if rs.contains i then some (1000000 + rs.idxOf i) else none
def bwd (rs : List Nat) (base j : Nat) : Nat := if j < 1000000 then base + j else rs.getD (j - 1000000) 0
def H5 (rs : List Nat) (hp : List (Nat × Bj)) : List (Nat × Bj) := rs.filterMap fun i => (A7 hp i).map fun r => (1000000 + rs.idxOf i, Cd (fwd rs) r)
def Jw (rs : List Nat) (base : Nat) : List (Nat × Bj) → List (Nat × Bj)
  | [] => []
  | (j, r) :: l => if j < 1000000 then (base + j, Cd (fun i => some (bwd rs base i)) r) :: Jw rs base l else Jw rs base l
def q3p (rs : List Nat) (hp' : List (Nat × Bj)) (i : Nat) : Option Nat := if rs.contains i && (A7 hp' (1000000 + rs.idxOf i)).isNone then none else some i
def q4V (rs : List Nat) (base : Nat) (hp' : List (Nat × Bj)) : List (Nat × Bj) → List (Nat × Bj)
  | [] => []
  | (t, q) :: l =>
    if rs.contains t then (match A7 hp' (1000000 + rs.idxOf t) with
      | some r => (t, Cd (fun i => some (bwd rs base i)) r) :: q4V rs base hp' l
      | none => q4V rs base hp' l)
    else (t, Cd (q3p rs hp') q) :: q4V rs base hp' l
def Lu (rs : List Nat) (base : Nat) (hp' : List (Nat × Bj)) (st : St) : St := ⟨st.env.map fun p => (p.1, Bm (q3p rs hp') p.2), Jw rs base hp' ++ q4V rs base hp' st.hp⟩
def okB (rs : List Nat) (base : Nat) (hp : List (Nat × Bj)) : List (Nat × Bj) → Prop
  | [] => True
  | (j, r) :: l => (if j < 1000000 then A7 hp (base + j) = none ∧ base + j < 1000000 else j - 1000000 < rs.length ∧ (A7 hp (rs.getD (j - 1000000) 0)).map Bj.sh = some r.sh) ∧ okB rs base hp l
theorem q2o {rs : List Nat} {base : Nat} {hp : List (Nat × Bj)} : ∀ {hp' : List (Nat × Bj)} {j : Nat} {r : Bj}, okB rs base hp hp' → A7 hp' j = some r →
    if j < 1000000 then A7 hp (base + j) = none ∧ base + j < 1000000 else j - 1000000 < rs.length ∧ (A7 hp (rs.getD (j - 1000000) 0)).map Bj.sh = some r.sh
  | [], j, r, _, h => by simp [A7] at h
  | (k, q) :: l, j, r, ho, h => by
    simp only [A7] at h
    split at h
    · rename_i e; subst e; simp only [Option.some.injEq] at h; subst h; exact ho.1
    · exact q2o ho.2 h
theorem q3q {rs : List Nat} {base t : Nat} : ∀ {hp' : List (Nat × Bj)}, A7 (Jw rs base hp') t = if base ≤ t ∧ t - base < 1000000 then (A7 hp' (t - base)).map (Cd fun i => some (bwd rs base i)) else none
  | [] => by simp [Jw, A7]
  | (j, r) :: l => by
    have ih := q3q (rs := rs) (base := base) (t := t) (hp' := l)
    simp only [Jw]
    split
    · rename_i hj
      simp only [A7, ih]
      by_cases e : base + j = t
      · have h1 : base ≤ t ∧ t - base < 1000000 := by omega
        have h2 : j = t - base := by omega
        simp [e, h1, h2]
      · by_cases h1 : base ≤ t ∧ t - base < 1000000
        · have h2 : ¬ j = t - base := by omega
          simp [e, h1, h2]
        · simp [e, h1]
    · rename_i hj
      rw [ih]
      by_cases h1 : base ≤ t ∧ t - base < 1000000
      · have h2 : ¬ j = t - base := by omega
        simp [h1, A7, h2]
      · simp [h1]
theorem q1D {rs : List Nat} {base t : Nat} {hp' : List (Nat × Bj)} : ∀ {hp : List (Nat × Bj)}, A7 (q4V rs base hp' hp) t =
    if rs.contains t then (A7 hp t).bind fun _ => (A7 hp' (1000000 + rs.idxOf t)).map (Cd fun i => some (bwd rs base i)) else (A7 hp t).map (Cd (q3p rs hp'))
  | [] => by simp [q4V, A7]
  | (k, q) :: l => by
    have ih := q1D (rs := rs) (base := base) (t := t) (hp' := hp') (hp := l)
    simp only [q4V]
    by_cases e : k = t
    · subst e
      by_cases hc : rs.contains k
      · simp only [hc, ↓reduceIte] at ih ⊢
        split
        · rename_i r hr; simp [A7, hr]
        · rename_i hr; rw [ih]; simp [A7, hr]
      · simp only [hc, Bool.false_eq_true, ↓reduceIte, A7, Option.map_some]
    · by_cases hc : rs.contains k
      · simp only [hc, ↓reduceIte]
        split
        · simp only [A7, e, ↓reduceIte, ih]
        · simp only [A7, e, ↓reduceIte, ih]
      · simp only [hc, Bool.false_eq_true, ↓reduceIte, A7, e, ih]
theorem Ds {α : Type} {a b : List (Nat × α)} {t : Nat} : A7 (a ++ b) t = (A7 a t).or (A7 b t) := by
  induction a with
  | nil => simp [A7]
  | cons p a ih =>
    simp only [List.cons_append, A7]
    split
    · simp
    · exact ih
theorem q6w {rs : List Nat} {hp : List (Nat × Bj)} {j : Nat} {r : Bj} (h : A7 (H5 rs hp) j = some r) : ∃ i q, i ∈ rs ∧ A7 hp i = some q ∧ j = 1000000 + rs.idxOf i ∧ r = Cd (fwd rs) q := by
  have key : ∀ l : List Nat, (∀ i ∈ l, i ∈ rs) → A7 (l.filterMap fun i => (A7 hp i).map fun r => (1000000 + rs.idxOf i, Cd (fwd rs) r)) j = some r → ∃ i q, i ∈ rs ∧ A7 hp i = some q ∧ j = 1000000 + rs.idxOf i ∧ r = Cd (fwd rs) q := by
    intro l
    induction l with
    | nil => intro _ h; simp [A7] at h
    | cons i l ih =>
      intro hm h
      rw [List.filterMap_cons] at h
      cases hq : A7 hp i with
      | none => rw [hq] at h; exact ih (fun i hi => hm i (List.mem_cons_of_mem _ hi)) h
      | some q =>
        rw [hq] at h
        simp only [Option.map_some, A7] at h
        split at h
        · rename_i e
          simp only [Option.some.injEq] at h
          exact ⟨i, q, hm i List.mem_cons_self, hq, e.symm, h.symm⟩
        · exact ih (fun i hi => hm i (List.mem_cons_of_mem _ hi)) h
  exact key rs (fun _ h => h) h
theorem q5c {rs : List Nat} {hp : List (Nat × Bj)} {i : Nat} {q : Bj} (hi : i ∈ rs) (hq : A7 hp i = some q) : A7 (H5 rs hp) (1000000 + rs.idxOf i) = some (Cd (fwd rs) q) := by
  have key : ∀ l : List Nat, i ∈ l → (∀ i ∈ l, i ∈ rs) → A7 (l.filterMap fun i => (A7 hp i).map fun r => (1000000 + rs.idxOf i, Cd (fwd rs) r)) (1000000 + rs.idxOf i) = some (Cd (fwd rs) q) := by
    intro l
    induction l with
    | nil => intro h; cases h
    | cons k l ih =>
      intro h hm
      rw [List.filterMap_cons]
      by_cases e : k = i
      · subst e; simp [hq, A7]
      · have hne : rs.idxOf k ≠ rs.idxOf i := by
          intro he
          have h1 := List.getElem_idxOf (List.idxOf_lt_length_of_mem (hm k List.mem_cons_self))
          have h2 := List.getElem_idxOf (List.idxOf_lt_length_of_mem hi)
          apply e
          rw [← h1, ← h2]
          simp only [he]
        have ih' := ih (by rcases List.mem_cons.1 h with h | h; exact absurd h.symm e; exact h) (fun i hi => hm i (List.mem_cons_of_mem _ hi))
        cases A7 hp k with
        | none => exact ih'
        | some r =>
          simp only [Option.map_some, A7]
          rw [if_neg (by omega)]
          exact ih'
  exact key rs hi (fun _ h => h)
theorem q5d {rs : List Nat} {k : Nat} (h : k < rs.length) : rs.getD k 0 = rs[k] := by simp [List.getD, h]
def K9 (μ : D6) (st : St) (rs : List Nat) : D6 := fun j => if 1000000 ≤ j ∧ j - 1000000 < rs.length ∧ st.sh (rs.getD (j - 1000000) 0) ≠ none then μ (rs.getD (j - 1000000) 0) else none
theorem G1 {rs : List Nat} {j : Nat} {l : Nat × Nat} (h : K9 μ st rs j = some l) : ∃ t, t ∈ rs ∧ st.sh t ≠ none ∧ μ t = some l := by
  unfold K9 at h
  split at h
  · rename_i hc
    refine ⟨_, ?_, hc.2.2, h⟩
    simp [List.getD, hc.2.1]
  · cases h
theorem Nc {rs : List Nat} {t : Nat} (ht : t ∈ rs) (hs : st.sh t ≠ none) : K9 μ st rs (1000000 + rs.idxOf t) = μ t := by
  have hlt := List.idxOf_lt_length_of_mem ht
  have e : rs.getD (rs.idxOf t) 0 = t := by simp [List.getD, hlt]
  unfold K9
  have e2 : 1000000 + rs.idxOf t - 1000000 = rs.idxOf t := by omega
  rw [e2, e, if_pos ⟨by omega, hlt, hs⟩]
theorem Yk {rs : List Nat} {t : Nat} {q : Sh} (ht : t ∈ rs) (hs : st.sh t = some q) : St.sh ⟨[], H5 rs st.hp⟩ (1000000 + rs.idxOf t) = some q := by
  simp only [St.sh, Option.map_eq_some_iff] at hs ⊢
  obtain ⟨r, hr, rfl⟩ := hs
  exact ⟨_, q5c ht hr, Lt _⟩
theorem Vh {rs : List Nat} {j : Nat} (hs : St.sh ⟨[], H5 rs st.hp⟩ j ≠ none) : ∃ t, t ∈ rs ∧ j = 1000000 + rs.idxOf t ∧ st.sh t ≠ none := by
  cases h : A7 (H5 rs st.hp) j with
  | none => exact absurd (by simp [St.sh, h]) hs
  | some r =>
    obtain ⟨i, q, h1, h2, h3, _⟩ := q6w h
    exact ⟨i, h1, h3, by simp [St.sh, h2]⟩
theorem qDH {rs : List Nat} {a b : Nat} (ha : a ∈ rs) (hb : b ∈ rs) (h : rs.idxOf a = rs.idxOf b) : a = b := by
  have h1 := List.getElem_idxOf (List.idxOf_lt_length_of_mem ha)
  have h2 := List.getElem_idxOf (List.idxOf_lt_length_of_mem hb)
  rw [← h1, ← h2]
  simp only [h]
theorem Bo.hand (h : Bo w0 B κ X μ st tm w) (rs : List Nat) : Bo w w.heap.size (K9 μ st rs) X (K9 μ st rs) ⟨[], H5 rs st.hp⟩ #[] w := by
  have hfw : ∀ i j q, fwd rs i = some j → st.sh i = some q → St.sh ⟨[], H5 rs st.hp⟩ j = some q ∧ K9 μ st rs j = μ i := by
    intro i j q hj hs
    unfold fwd at hj
    split at hj
    · rename_i hc
      have hm : i ∈ rs := by simpa using hc
      simp only [Option.some.injEq] at hj; subst hj
      exact ⟨Yk hm hs, Nc hm (by simp [hs])⟩
    · cases hj
  refine ⟨fun t a ht => by simp [A7] at ht, ?_, ?_, ?_, fun _ _ _ => rfl, ?_, h.xlt, rfl, rfl, rfl, Nat.le_refl _, fun _ _ _ => rfl⟩
  · intro id r hr
    obtain ⟨i, q, h1, h2, rfl, rfl⟩ := q6w hr
    exact (h.reg i q h2).ren hfw (Nc h1 (by simp [St.sh, h2]))
  · intro a b g n n' ha hb hma hmb
    obtain ⟨i, h1, rfl, h2⟩ := Vh ha
    obtain ⟨j, h3, rfl, h4⟩ := Vh hb
    rw [Nc h1 h2] at hma
    rw [Nc h3 h4] at hmb
    rw [h.inj i j g n n' h2 h4 hma hmb]
  · intro a g n ha hm
    obtain ⟨i, h1, rfl, h2⟩ := Vh ha
    have hm' := hm
    rw [Nc h1 h2] at hm'
    obtain ⟨h5, h6, _⟩ := h.loc i g n h2 hm'
    exact ⟨h5, h6, fun _ => ⟨_, _, hm⟩⟩
  · intro j l hk
    unfold K9 at hk
    split at hk
    · rename_i hc; exact hc.1
    · cases hk
theorem q3r {rs : List Nat} {as : List AV} {xs : List Value} (h : Bo w0 B κ X μ st tm w) (ha : J0 w X μ st.sh as xs) : J0 w X (K9 μ st rs) (St.sh ⟨[], H5 rs st.hp⟩) (as.map (Bm (fwd rs))) xs := by
  refine ha.ren fun i j q hj hs => ?_
  unfold fwd at hj
  split at hj
  · rename_i hc
    have hm : i ∈ rs := by simpa using hc
    simp only [Option.some.injEq] at hj; subst hj
    exact ⟨Yk hm hs, Nc hm (by simp [hs])⟩
  · cases hj
def Lx (μ μ' : D6) (base : Nat) (hp' : List (Nat × Bj)) : D6 := fun t => if base ≤ t ∧ t - base < 1000000 ∧ A7 hp' (t - base) ≠ none then μ' (t - base) else μ t
theorem Bo.back {rs : List Nat} {base : Nat} {hp' : List (Nat × Bj)} (hnd : rs.Nodup) (h : Bo w0 B κ X μ st tm w) (h' : Bo w w.heap.size (K9 μ st rs) X' μ' ⟨[], hp'⟩ #[] w') (hok : okB rs base st.hp hp') (hX : ∀ b, X b → X' b)
    (hX' : ∀ b, X' b → X b ∨ w.heap.size ≤ b ∨ ∃ id n, K9 μ st rs id = some (b, n)) :
    Bo w0 B κ X' (Lx μ μ' base hp') (Lu rs base hp' st) tm w' ∧ Same X w w' ∧
      ∀ i q, St.sh ⟨[], hp'⟩ i = some q → (Lu rs base hp' st).sh (bwd rs base i) = some q ∧ Lx μ μ' base hp' (bwd rs base i) = μ' i := by
  have hsame : Same X w w' := by
    intro b hb
    refine h'.fr b (h.xlt b hb) fun id n hk => ?_
    obtain ⟨t, _, h2, h3⟩ := G1 hk
    exact (h.loc t b n h2 h3).1 hb
  have hlook : ∀ t, A7 (Lu rs base hp' st).hp t = ((if base ≤ t ∧ t - base < 1000000 then (A7 hp' (t - base)).map (Cd fun i => some (bwd rs base i)) else none).or
      (if rs.contains t then (A7 st.hp t).bind fun _ => (A7 hp' (1000000 + rs.idxOf t)).map (Cd fun i => some (bwd rs base i)) else (A7 st.hp t).map (Cd (q3p rs hp')))) := fun t => by
    simp only [Lu, Ds, q3q, q1D]
  have hnew : ∀ t, base ≤ t ∧ t - base < 1000000 ∧ A7 hp' (t - base) ≠ none → A7 st.hp t = none ∧ t < 1000000 := by
    intro t ⟨h1, h2, h3⟩
    cases hr : A7 hp' (t - base) with
    | none => exact absurd hr h3
    | some r =>
      have := q2o hok hr
      rw [if_pos h2] at this
      have e : base + (t - base) = t := by omega
      rw [e] at this; exact this
  have hold : ∀ j r, A7 hp' j = some r → ¬ j < 1000000 → ∃ t, t ∈ rs ∧ j = 1000000 + rs.idxOf t ∧ bwd rs base j = t ∧ st.sh t = some r.sh := by
    intro j r hr hj
    have := q2o hok hr
    rw [if_neg hj] at this
    obtain ⟨h1, h2⟩ := this
    have hg : rs.getD (j - 1000000) 0 = rs[j - 1000000] := by simp [List.getD, h1]
    refine ⟨rs[j - 1000000], List.getElem_mem h1, ?_, by simp only [bwd, hj, ↓reduceIte, hg], by rw [hg] at h2; exact h2⟩
    rw [hnd.idxOf_getElem]; omega
  have hbwd : ∀ i q, St.sh ⟨[], hp'⟩ i = some q → (Lu rs base hp' st).sh (bwd rs base i) = some q ∧ Lx μ μ' base hp' (bwd rs base i) = μ' i := by
    intro i q hq
    simp only [St.sh, Option.map_eq_some_iff] at hq
    obtain ⟨r, hr, rfl⟩ := hq
    by_cases hi : i < 1000000
    · have e : base + i - base = i := by omega
      have hb : bwd rs base i = base + i := by simp [bwd, hi]
      rw [hb]
      constructor
      · simp only [St.sh, hlook, e]
        rw [if_pos ⟨by omega, hi⟩]
        simp [hr, Lt]
      · simp only [Lx, e]
        rw [if_pos ⟨by omega, hi, by simp [hr]⟩]
    · obtain ⟨t, ht, rfl, hb, hs⟩ := hold i r hr hi
      rw [hb]
      have hnn : ¬ (base ≤ t ∧ t - base < 1000000 ∧ A7 hp' (t - base) ≠ none) := fun hc => by
        have := (hnew t hc).1
        simp [St.sh, this] at hs
      have hts : st.sh t ≠ none := by simp [hs]
      have hz : (if base ≤ t ∧ t - base < 1000000 then (A7 hp' (t - base)).map (Cd fun i => some (bwd rs base i)) else none) = none := by
        split
        · rename_i hc
          cases hl : A7 hp' (t - base) with
          | none => rfl
          | some _ => exact absurd ⟨hc.1, hc.2, by simp [hl]⟩ hnn
        · rfl
      constructor
      · obtain ⟨q0, hq0⟩ : ∃ q0, A7 st.hp t = some q0 := by
          cases hl : A7 st.hp t with
          | none => simp [St.sh, hl] at hs
          | some q0 => exact ⟨q0, rfl⟩
        have hct : rs.contains t = true := by simpa using ht
        show (A7 (Lu rs base hp' st).hp t).map Bj.sh = _
        rw [hlook, hz]
        simp [ht, hq0, hr, Lt]
      · simp only [Lx]
        rw [if_neg hnn, h'.kap _ (by omega) (by simp [St.sh, hr]), Nc ht hts]
  have hgone : ∀ i j q, q3p rs hp' i = some j → st.sh i = some q → (Lu rs base hp' st).sh j = some q ∧ Lx μ μ' base hp' j = μ i := by
    intro i j q hg hs
    unfold q3p at hg
    split at hg
    · cases hg
    rename_i hc
    simp only [Option.some.injEq] at hg; subst hg
    have his : A7 st.hp i ≠ none := fun e => by simp [St.sh, e] at hs
    have hnn : ¬ (base ≤ i ∧ i - base < 1000000 ∧ A7 hp' (i - base) ≠ none) := fun hc => his (hnew i hc).1
    have hz : (if base ≤ i ∧ i - base < 1000000 then (A7 hp' (i - base)).map (Cd fun i => some (bwd rs base i)) else none) = none := by
      split
      · rename_i hc
        cases hl : A7 hp' (i - base) with
        | none => rfl
        | some _ => exact absurd ⟨hc.1, hc.2, by simp [hl]⟩ hnn
      · rfl
    refine ⟨?_, by simp only [Lx]; rw [if_neg hnn]⟩
    obtain ⟨q0, hq0⟩ : ∃ q0, A7 st.hp i = some q0 := by
      cases hl : A7 st.hp i with
      | none => exact absurd hl his
      | some q0 => exact ⟨q0, rfl⟩
    have hq0s : q0.sh = q := by simpa [St.sh, hq0] using hs
    by_cases hm : i ∈ rs
    · have hct : rs.contains i = true := by simpa using hm
      simp only [hct, Bool.true_and, Bool.not_eq_true, Option.isNone_eq_false_iff, Option.isSome_iff_exists] at hc
      obtain ⟨r, hr⟩ := hc
      obtain ⟨t, ht, he, _, hs'⟩ := hold _ r hr (by omega)
      have := qDH hm ht (by omega)
      subst this
      have hrs : r.sh = q := by rw [hs] at hs'; simpa using hs'.symm
      show (A7 (Lu rs base hp' st).hp i).map Bj.sh = _
      rw [hlook, hz]
      simp [hm, hq0, hr, Lt, hrs]
    · show (A7 (Lu rs base hp' st).hp i).map Bj.sh = _
      rw [hlook, hz]
      simp [hm, hq0, Lt, hq0s]
  -- every region behind the call: a new one, one that came back, one that was not handed over
  have hcase : ∀ t r, A7 (Lu rs base hp' st).hp t = some r → (∃ r', base ≤ t ∧ t - base < 1000000 ∧ A7 hp' (t - base) = some r' ∧ r = Cd (fun i => some (bwd rs base i)) r' ∧ Lx μ μ' base hp' t = μ' (t - base)) ∨
      (t ∈ rs ∧ st.sh t ≠ none ∧ Lx μ μ' base hp' t = μ t ∧ ∃ r', A7 hp' (1000000 + rs.idxOf t) = some r' ∧ r = Cd (fun i => some (bwd rs base i)) r') ∨
      (t ∉ rs ∧ Lx μ μ' base hp' t = μ t ∧ ∃ q, A7 st.hp t = some q ∧ r = Cd (q3p rs hp') q) := by
    intro t r hr
    rw [hlook] at hr
    by_cases hn : base ≤ t ∧ t - base < 1000000 ∧ A7 hp' (t - base) ≠ none
    · obtain ⟨r', hr'⟩ : ∃ r', A7 hp' (t - base) = some r' := by
        cases hl : A7 hp' (t - base) with
        | none => exact absurd hl hn.2.2
        | some r' => exact ⟨r', rfl⟩
      rw [if_pos ⟨hn.1, hn.2.1⟩] at hr
      simp only [hr', Option.map_some, Option.some_or, Option.some.injEq] at hr
      exact .inl ⟨r', hn.1, hn.2.1, hr', hr.symm, by simp only [Lx]; rw [if_pos hn]⟩
    · have hz : (if base ≤ t ∧ t - base < 1000000 then (A7 hp' (t - base)).map (Cd fun i => some (bwd rs base i)) else none) = none := by
        split
        · rename_i hc
          cases hl : A7 hp' (t - base) with
          | none => rfl
          | some _ => exact absurd ⟨hc.1, hc.2, by simp [hl]⟩ hn
        · rfl
      have hbm : Lx μ μ' base hp' t = μ t := by simp only [Lx]; rw [if_neg hn]
      rw [hz] at hr
      simp only [Option.none_or] at hr
      by_cases hm : t ∈ rs
      · have hct : rs.contains t = true := by simpa using hm
        simp only [hct, ↓reduceIte, Option.bind_eq_some_iff, Option.map_eq_some_iff] at hr
        obtain ⟨q, hq, r', hr', rfl⟩ := hr
        exact .inr (.inl ⟨hm, by simp [St.sh, hq], hbm, r', hr', rfl⟩)
      · have hct : rs.contains t = false := by simpa using hm
        simp only [hct, Bool.false_eq_true, ↓reduceIte, Option.map_eq_some_iff] at hr
        obtain ⟨q, hq, rfl⟩ := hr
        exact .inr (.inr ⟨hm, hbm, q, hq, rfl⟩)
  have hshc : ∀ t, (Lu rs base hp' st).sh t ≠ none → (∃ r', base ≤ t ∧ t - base < 1000000 ∧ A7 hp' (t - base) = some r' ∧ Lx μ μ' base hp' t = μ' (t - base)) ∨
      (t ∈ rs ∧ st.sh t ≠ none ∧ Lx μ μ' base hp' t = μ t ∧ A7 hp' (1000000 + rs.idxOf t) ≠ none) ∨ (t ∉ rs ∧ st.sh t ≠ none ∧ Lx μ μ' base hp' t = μ t) := by
    intro t ht
    cases hl : A7 (Lu rs base hp' st).hp t with
    | none => exact absurd (by simp [St.sh, hl]) ht
    | some r =>
      rcases hcase t r hl with ⟨r', h1, h2, h3, _, h4⟩ | ⟨h1, h2, h3, r', h4, _⟩ | ⟨h1, h2, q, h3, _⟩
      · exact .inl ⟨r', h1, h2, h3, h4⟩
      · exact .inr (.inl ⟨h1, h2, h3, by simp [h4]⟩)
      · exact .inr (.inr ⟨h1, by simp [St.sh, h3], h2⟩)
  have shp : ∀ j r, A7 hp' j = some r → St.sh ⟨[], hp'⟩ j ≠ none := fun j r hr => by simp [St.sh, hr]
  have hmono : ∀ {a : AV} {x : Value} {sh0 : Nat → Option Sh} {μ0 : D6}, AR w X μ0 sh0 a x → AR w' X' μ0 sh0 a x := fun ha => ha.mono hsame hX (fun _ _ hq => ⟨hq, rfl⟩)
  refine ⟨⟨?_, ?_, ?_, ?_, ?_, h.kbig, h'.xlt, h'.os.trans h.os, h'.tape.trans h.tape, h'.output.trans h.output, Nat.le_trans h.size h'.size, ?_⟩, hsame, hbwd⟩
  · intro t a ht
    have h1 : A7 (st.env.map fun p => (p.1, Bm (q3p rs hp') p.2)) t = (A7 st.env t).map (Bm (q3p rs hp')) := N8 _ _ _
    have ht' : A7 (st.env.map fun p => (p.1, Bm (q3p rs hp') p.2)) t = some a := ht
    rw [h1, Option.map_eq_some_iff] at ht'
    obtain ⟨b, hb, rfl⟩ := ht'
    exact (hmono (h.env t b hb)).ren hgone
  · intro t r hr
    rcases hcase t r hr with ⟨r', h1, h2, h3, rfl, h4⟩ | ⟨h1, h2, h3, r', h4, rfl⟩ | ⟨h1, h2, q, h3, rfl⟩
    · exact (h'.reg _ r' h3).ren (fun i j q hj hs => by cases hj; exact hbwd i q hs) h4
    · refine (h'.reg _ r' h4).ren (fun i j q hj hs => by cases hj; exact hbwd i q hs) ?_
      rw [h3, h'.kap _ (by omega) (shp _ _ h4), Nc h1 h2]
    · refine ((h.reg t q h3).mono hsame hX (fun _ _ hq => ⟨hq, rfl⟩) rfl fun g n hm => ?_).ren hgone h2
      obtain ⟨h5, h6, h7⟩ := h.loc t g n (by simp [St.sh, h3]) hm
      refine h'.fr g h6 fun id n' hk => ?_
      obtain ⟨t', h8, h9, h10⟩ := G1 hk
      exact h1 (h.inj t t' g n n' (by simp [St.sh, h3]) h9 hm h10 ▸ h8)
  · intro a b g n n' ha hb hma hmb
    -- an old one's block lies below; a new one's block, if below, was a handed region's that is q3p
    have hno : ∀ t u g n n' r', base ≤ t → t - base < 1000000 → A7 hp' (t - base) = some r' → μ' (t - base) = some (g, n) → st.sh u ≠ none → μ u = some (g, n') → (u ∈ rs → A7 hp' (1000000 + rs.idxOf u) ≠ none) → False := by
      intro t u g n n' r' h1 h2 h3 h4 h5 h6 h7
      obtain ⟨_, h8, _⟩ := h.loc u g n' h5 h6
      obtain ⟨id', n2, hk⟩ := (h'.loc (t - base) g n (shp _ _ h3) h4).2.2 h8
      obtain ⟨t', h9, h10, h11⟩ := G1 hk
      have := h.inj u t' g n' n2 h5 h10 h6 h11
      subst this
      have h12 := h7 h9
      have h13 : St.sh ⟨[], hp'⟩ (1000000 + rs.idxOf u) ≠ none := by
        cases hl : A7 hp' (1000000 + rs.idxOf u) with
        | none => exact absurd hl h12
        | some r => exact shp _ r hl
      have h14 : μ' (1000000 + rs.idxOf u) = some (g, n') := by rw [h'.kap _ (by omega) h13, Nc h9 h5]; exact h6
      have := h'.inj (t - base) (1000000 + rs.idxOf u) g n n' (shp _ _ h3) h13 h4 h14
      omega
    rcases hshc a ha with ⟨r', h1, h2, h3, h4⟩ | ⟨h1, h2, h3, h4⟩ | ⟨h1, h2, h3⟩ <;> rcases hshc b hb with ⟨q', k1, k2, k3, k4⟩ | ⟨k1, k2, k3, k4⟩ | ⟨k1, k2, k3⟩
    · rw [h4] at hma; rw [k4] at hmb
      have := h'.inj (a - base) (b - base) g n n' (shp _ _ h3) (shp _ _ k3) hma hmb
      omega
    · rw [h4] at hma; rw [k3] at hmb
      exact (hno a b g n n' r' h1 h2 h3 hma k2 hmb fun _ => k4).elim
    · rw [h4] at hma; rw [k3] at hmb
      exact (hno a b g n n' r' h1 h2 h3 hma k2 hmb fun hc => absurd hc k1).elim
    · rw [h3] at hma; rw [k4] at hmb
      exact (hno b a g n' n q' k1 k2 k3 hmb h2 hma fun _ => h4).elim
    · rw [h3] at hma; rw [k3] at hmb; exact h.inj a b g n n' h2 k2 hma hmb
    · rw [h3] at hma; rw [k3] at hmb; exact h.inj a b g n n' h2 k2 hma hmb
    · rw [h3] at hma; rw [k4] at hmb
      exact (hno b a g n' n q' k1 k2 k3 hmb h2 hma fun hc => absurd hc h1).elim
    · rw [h3] at hma; rw [k3] at hmb; exact h.inj a b g n n' h2 k2 hma hmb
    · rw [h3] at hma; rw [k3] at hmb; exact h.inj a b g n n' h2 k2 hma hmb
  · intro t g n ht hm
    rcases hshc t ht with ⟨r', h1, h2, h3, h4⟩ | ⟨h1, h2, h3, h4⟩ | ⟨h1, h2, h3⟩
    · rw [h4] at hm
      obtain ⟨h5, h6, h7⟩ := h'.loc _ g n (shp _ _ h3) hm
      refine ⟨h5, h6, fun hlt => ?_⟩
      obtain ⟨id', n', hk⟩ := h7 (Nat.lt_of_lt_of_le hlt h.size)
      obtain ⟨t', h8, h9, h10⟩ := G1 hk
      exact (h.loc t' g n' h9 h10).2.2 hlt
    · rw [h3] at hm
      obtain ⟨h5, h6, h7⟩ := h.loc t g n h2 hm
      have h13 : St.sh ⟨[], hp'⟩ (1000000 + rs.idxOf t) ≠ none := by
        cases hl : A7 hp' (1000000 + rs.idxOf t) with
        | none => exact absurd hl h4
        | some r => exact shp _ r hl
      have h14 : μ' (1000000 + rs.idxOf t) = some (g, n) := by rw [h'.kap _ (by omega) h13, Nc h1 h2]; exact hm
      obtain ⟨h8, h9, _⟩ := h'.loc _ g n h13 h14
      exact ⟨h8, h9, h7⟩
    · rw [h3] at hm
      obtain ⟨h5, h6, h7⟩ := h.loc t g n h2 hm
      refine ⟨fun hx => ?_, Nat.lt_of_lt_of_le h6 h'.size, h7⟩
      rcases hX' g hx with hx | hx | ⟨id, n', hk⟩
      · exact h5 hx
      · omega
      · obtain ⟨t', h8, h9, h10⟩ := G1 hk
        exact h1 (h.inj t t' g n n' h2 h9 hm h10 ▸ h8)
  · intro t hbig ht
    rcases hshc t ht with ⟨r', h1, h2, h3, h4⟩ | ⟨h1, h2, h3, h4⟩ | ⟨h1, h2, h3⟩
    · have := (hnew t ⟨h1, h2, by simp [h3]⟩).2; omega
    · rw [h3]; exact h.kap t hbig h2
    · rw [h3]; exact h.kap t hbig h2
  · intro k hk hn
    refine (h'.fr k (Nat.lt_of_lt_of_le hk h.size) fun id n hkk => ?_).trans (h.fr k hk hn)
    obtain ⟨t', h8, h9, h10⟩ := G1 hkk
    obtain ⟨id', n', hq⟩ := (h.loc t' k n h9 h10).2.2 hk
    exact hn id' n' hq
theorem Bo.news {base : Nat} {hp' : List (Nat × Bj)} (h : Bo w0 B κ X μ st tm w) (h' : Bo w w.heap.size (K9 μ st []) X' μ' ⟨[], hp'⟩ #[] w') (hok : okB [] base st.hp hp') (hX : ∀ b, X b → X' b)
    (hX' : ∀ b, X' b → X b ∨ w.heap.size ≤ b ∨ ∃ id n, K9 μ st [] id = some (b, n)) :
    Bo w0 B κ X' (Lx μ μ' base hp') ⟨st.env, Jw [] base hp' ++ st.hp⟩ tm w' ∧ Same X w w' ∧
      ∀ i q, St.sh ⟨[], hp'⟩ i = some q → St.sh ⟨st.env, Jw [] base hp' ++ st.hp⟩ (bwd [] base i) = some q ∧ Lx μ μ' base hp' (bwd [] base i) = μ' i := by
  obtain ⟨h2, hsame, hb⟩ := h.back List.nodup_nil h' hok hX hX'
  have hk0 : ∀ id, K9 μ st [] id = none := fun id => by
    unfold K9
    rw [if_neg]
    rintro ⟨_, hlt, _⟩
    simp at hlt
  have hall : ∀ k, k < w.heap.size → w'.heap[k]? = w.heap[k]? := fun k hk => h'.fr k hk fun id n e => by rw [hk0] at e; cases e
  have hshE : (Lu [] base hp' st).sh = St.sh ⟨st.env, Jw [] base hp' ++ st.hp⟩ := by
    funext t
    simp only [St.sh, Lu, Ds, q1D]
    cases A7 (Jw [] base hp') t with
    | some q => rfl
    | none =>
      simp only [Option.none_or]
      have : ([] : List Nat).contains t = false := rfl
      rw [this]
      simp only [Bool.false_eq_true, if_false, Option.map_map]
      cases A7 st.hp t with
      | none => rfl
      | some q => simp [Lt]
  have hfree : ∀ t, base ≤ t → t - base < 1000000 → A7 hp' (t - base) ≠ none → A7 st.hp t = none := by
    intro t h1 h3 h4
    cases hr : A7 hp' (t - base) with
    | none => exact absurd hr h4
    | some r =>
      have := q2o hok hr
      rw [if_pos h3] at this
      have e : base + (t - base) = t := by omega
      rw [e] at this; exact this.1
  have hold : ∀ id q, st.sh id = some q → St.sh ⟨st.env, Jw [] base hp' ++ st.hp⟩ id = some q ∧ Lx μ μ' base hp' id = μ id := by
    intro id q hq
    have hne : A7 st.hp id ≠ none := fun e => by simp [St.sh, e] at hq
    have hn : A7 (Jw [] base hp') id = none := by
      rw [q3q]
      split
      · rename_i hc
        cases hl : A7 hp' (id - base) with
        | none => rfl
        | some r => exact absurd (hfree id hc.1 hc.2 (by simp [hl])) hne
      · rfl
    refine ⟨?_, ?_⟩
    · simp only [St.sh, Ds, hn, Option.none_or]; exact hq
    · unfold Lx
      rw [if_neg]
      rintro ⟨h1, h3, h4⟩
      exact hne (hfree id h1 h3 h4)
  refine ⟨⟨fun t a ht => (h.env t a ht).mono hsame hX hold, fun id r hr => ?_, ?_, ?_, ?_, h2.kbig, h2.xlt, h2.os, h2.tape, h2.output, h2.size, h2.fr⟩, hsame, fun i q hq => by rw [← hshE]; exact hb i q hq⟩
  · simp only [Ds] at hr
    cases hn : A7 (Jw [] base hp') id with
    | some q =>
      rw [hn] at hr
      simp only [Option.some_or, Option.some.injEq] at hr
      subst hr
      rw [← hshE]
      exact h2.reg id q (by simp only [Lu, Ds, hn, Option.some_or])
    | none =>
      rw [hn, Option.none_or] at hr
      have hq : st.sh id = some r.sh := by simp [St.sh, hr]
      refine (h.reg id r hr).mono hsame hX hold (hold id _ hq).2 fun g m hm => hall g (h.loc id g m (by simp [hq]) hm).2.1
  · rw [← hshE]; exact h2.inj
  · rw [← hshE]; exact h2.loc
  · rw [← hshE]; exact h2.kap
theorem Bo.looked {rs : List Nat} (hnd : rs.Nodup) (hsl : ∀ i ∈ rs, ∃ ty s es, A7 st.hp i = some (.sl ty s es)) (h : Bo w0 B κ X μ st tm w) (h' : Bo w w.heap.size (K9 μ st rs) X' μ' ⟨[], H5 rs st.hp⟩ #[] w') (hX : ∀ b, X b → X' b)
    (hX' : ∀ b, X' b → X b ∨ w.heap.size ≤ b ∨ ∃ id n, K9 μ st rs id = some (b, n)) :
    Bo w0 B κ X' μ st tm w' ∧ Same X w w' ∧ ∀ i q, St.sh ⟨[], H5 rs st.hp⟩ i = some q → st.sh (bwd rs 0 i) = some q ∧ μ (bwd rs 0 i) = μ' i := by
  have hsame : Same X w w' := by
    intro b hb
    refine h'.fr b (h.xlt b hb) fun id n hk => ?_
    obtain ⟨t, _, h2, h3⟩ := G1 hk
    exact (h.loc t b n h2 h3).1 hb
  have hshr : ∀ t ∈ rs, ∃ q, st.sh t = some q := fun t ht => by
    obtain ⟨ty, s, es, hl⟩ := hsl t ht
    exact ⟨_, by simp [St.sh, hl]; rfl⟩
  have hat : ∀ t ∈ rs, μ' (1000000 + rs.idxOf t) = μ t := fun t ht => by
    obtain ⟨q, hq⟩ := hshr t ht
    rw [h'.kap _ (by omega) (by rw [Yk ht hq]; simp), Nc ht (by simp [hq])]
  have hxn : ∀ t ∈ rs, ∀ g n, μ t = some (g, n) → ¬ X' g := fun t ht g n hm => by
    obtain ⟨q, hq⟩ := hshr t ht
    exact (h'.loc (1000000 + rs.idxOf t) g n (by rw [Yk ht hq]; simp) (by rw [hat t ht]; exact hm)).1
  refine ⟨⟨fun t a ht => (h.env t a ht).mono hsame hX fun _ _ hq => ⟨hq, rfl⟩, fun id r hr => ?_, h.inj, fun id g n hs hm => ?_, h.kap, h.kbig, h'.xlt, h'.os.trans h.os, h'.tape.trans h.tape, h'.output.trans h.output, Nat.le_trans h.size h'.size, fun k hk hn => ?_⟩, hsame, fun i q hq => ?_⟩
  · by_cases hid : id ∈ rs
    · obtain ⟨ty, s, es, hl⟩ := hsl id hid
      rw [hl] at hr
      simp only [Option.some.injEq] at hr
      subst hr
      have hh := q5c (hp := st.hp) hid hl
      have := h'.reg _ _ hh
      simp only [Cd, Lq, hat id hid] at this ⊢
      exact this
    · have hq : st.sh id = some r.sh := by simp [St.sh, hr]
      refine (h.reg id r hr).mono hsame hX (fun _ _ hq => ⟨hq, rfl⟩) rfl fun g m hm => ?_
      refine h'.fr g (h.loc id g m (by simp [hq]) hm).2.1 fun id' n hk => ?_
      obtain ⟨t, ht, h2, h3⟩ := G1 hk
      have := h.inj id t g m n (by simp [hq]) h2 hm h3
      subst this
      exact hid ht
  · obtain ⟨h1, h2, h3⟩ := h.loc id g n hs hm
    refine ⟨fun hx => ?_, Nat.lt_of_lt_of_le h2 h'.size, h3⟩
    rcases hX' g hx with hx' | hx' | ⟨id', n', hk⟩
    · exact h1 hx'
    · omega
    · obtain ⟨t, ht, h4, h5⟩ := G1 hk
      exact hxn t ht g n' h5 hx
  · rw [h'.fr k (Nat.lt_of_lt_of_le hk h.size) fun id n e => ?_]
    · exact h.fr k hk hn
    · obtain ⟨t, ht, h4, h5⟩ := G1 e
      obtain ⟨id', n', hq⟩ := (h.loc t k n h4 h5).2.2 hk
      exact hn id' n' hq
  · obtain ⟨t, ht, rfl, hs⟩ := Vh (by rw [hq]; simp)
    obtain ⟨q0, hq0⟩ := hshr t ht
    have hb : bwd rs 0 (1000000 + rs.idxOf t) = t := by
      have hi : rs.idxOf t < rs.length := List.idxOf_lt_length_iff.2 ht
      unfold bwd
      rw [if_neg (by omega), Nat.add_sub_cancel_left, q5d hi, List.getElem_idxOf]
    rw [hb, hat t ht]
    have := Yk ht hq0
    rw [hq] at this
    exact ⟨by rw [hq0, this], rfl⟩
end
end Go.Lg
namespace Go.Lg
open Go
def q26 (P : Program) (Γ : Tables) (hp : List (Nat × Bj)) (f : FuncId) (as : List AV) (res : T) : Prop :=
  (∃ ts, Ar (as.map toT) = some ts ∧ Au P Γ f ts res) ∨ ∃ ts, Ar (as.map (Ai hp 4)) = some ts ∧ A8 P Γ f ts res
def qBx : AV → Option (FuncId × List AV)
  | .t (.fn f cs) => some (f, cs.map .t)
  | .fn f cs => some (f, cs)
  | _ => none
def Ep (P : Program) (Γ : Tables) (d : Nat) (io : Cj) (st : St) (r : AV) (st1 : St) : Prop :=
  match io with
  | .call f args => ∃ as res, evs Γ st.env args = some as ∧ q26 P Γ st.hp f as res ∧ r = .t res ∧ st1 = st
  | .callv x args => ∃ a f cs as res, ev Γ st.env x = some a ∧ qBx a = some (f, cs) ∧ evs Γ st.env args = some as ∧ q26 P Γ st.hp f (as ++ cs) res ∧ r = .t res ∧ st1 = st
  | .hcall f args rs base => ∃ as res hp', evs Γ st.env args = some as ∧ rs.Nodup ∧ Hf P Γ f (H5 rs st.hp) (as.map (Bm (fwd rs))) res hp' ∧ okB rs base st.hp hp' ∧ r = Bm (fun i => some (bwd rs base i)) res ∧ st1 = Lu rs base hp' st
  | .ncall f args base => ∃ as res hp', evs Γ st.env args = some as ∧ Hf P Γ f [] (as.map (Bm (fwd []))) res hp' ∧ okB [] base st.hp hp' ∧ r = Bm (fun i => some (bwd [] base i)) res ∧ st1 = ⟨st.env, Jw [] base hp' ++ st.hp⟩
  | .callT f args => ∃ as ts res, evs Γ st.env args = some as ∧ Ar (as.map toT) = some ts ∧ (Au P Γ f ts res ∨ A8 P Γ f ts res) ∧ r = .t res ∧ st1 = st
  | .rcall f args rs => ∃ as res, evs Γ st.env args = some as ∧ rs.Nodup ∧ (∀ i ∈ rs, ∃ ty s es, A7 st.hp i = some (.sl ty s es)) ∧ Hf P Γ f (H5 rs st.hp) (as.map (Bm (fwd rs))) res (H5 rs st.hp) ∧ r = Bm (fun i => some (bwd rs 0 i)) res ∧ st1 = st
  | io => ∃ c, Aq Γ d io st = some (c, r, st1) ∧ c
def Jx (env : List (Nat × AV)) : Option (Nat × Bool) → Option Bool
  | none => some true
  | some (g, b) => match A7 env g with
    | some (.t (.v (.bool p))) => some (p == b)
    | some .un => some false
    | _ => none
def U2 (P : Program) (Γ : Tables) (ro : RO) (st st2 : St) : Prop :=
  (Jx st.env ro.guard = some true ∧ ∃ r st1, Ep P Γ ro.d ro.op st r st1 ∧ st2 = st1.put ro.dst r) ∨ (Jx st.env ro.guard = some false ∧ st2 = st.put ro.dst .un)
def Nh (P : Program) (Γ : Tables) : List RO → St → St → Prop
  | [], st, st2 => st2 = st
  | ro :: ros, st, st2 => ∃ st1, U2 P Γ ro st st1 ∧ Nh P Γ ros st1 st2
def q7Y (P : Program) (N : Nat) (ops : List Oper) (ro : RO) (o : Oper) : Bool :=
  decide (ro.dst = o.dst) && Qe P ro.op o.op && ro.op.opds.all Aj && (match ro.dst with | some d => decide (d < N) | none => true) && decide (ro.d < 1000000) &&
  match ro.guard, o.guard with
  | none, none => true
  | some (g, b), some (j, b') => b == b' && decide ((ops[j]?).bind (·.dst) = some g)
  | _, _ => false
def Inv (Γ : Tables) (w0 : World) (B : Nat) (κ : D6) (X0 : Nat → Prop) (N : Nat) (st : St) (a : Act) (w : World) : Prop :=
  ∃ X μ, Bo w0 B κ X μ st a.tmps w ∧ Gl Γ w X ∧ (∀ b, X0 b → X b) ∧ (∀ b, X b → X0 b ∨ B ≤ b ∨ ∃ id n, κ id = some (b, n)) ∧ a.tmps.size = N ∧ a.defers = []
section
variable {P : Program} {Γ : Tables} {w0 : World} {B : Nat} {κ : D6} {X0 X : Nat → Prop} {μ : D6} {st st1 : St} {tm : Array Value} {w : World} {N : Nat} {a : Act} {o : Oper} {K : Act → World → Prop} {Q : Exit → Act → World → Prop}
theorem qDI {a : Act} (h : a.defers = []) : a = ⟨a.tmps, []⟩ := by cases a; simp at h; subst h; rfl
theorem q3s (h : Bo w0 B κ X μ st a.tmps w) (hsz : a.tmps.size = N) {d : Option Nat} (hd : ∀ t, d = some t → t < N) {r : AV} {v : Value} (hv : AR w X μ st.sh r v) : Bo w0 B κ X μ (st.put d r) (a.put d v).tmps w ∧ (a.put d v).tmps.size = N ∧ (a.put d v).defers = a.defers := by
  cases d with
  | none => exact ⟨h, hsz, rfl⟩
  | some t =>
    refine ⟨h.put (by rw [hsz]; exact hd t rfl) hv, ?_, rfl⟩
    simp [Act.put, hsz]
theorem Yl {hp : List (Nat × Bj)} : ∀ {as : List AV} {xs : List Value} {ts : List T}, J0 w X μ st.sh as xs → Ar (as.map toT) = some ts → Fj w X ts xs
  | [], xs, ts, h, ho => by
    simp only [List.map_nil, Ar, Option.some.injEq] at ho
    subst ho; rw [h.nil_inv]; exact Fj.nil _ _
  | c :: cs, xs, ts, h, ho => by
    obtain ⟨x, ys, rfl, hx, hs⟩ := h.cons_inv
    simp only [List.map_cons] at ho
    cases hc : toT c with
    | none => rw [hc] at ho; simp [Ar] at ho
    | some t =>
      rw [hc] at ho
      simp only [Ar, Option.map_eq_some_iff] at ho
      obtain ⟨ts', ho', rfl⟩ := ho
      exact Fj.cons (q7V hx hc) (Yl (hp := hp) hs ho')
theorem q6x {f : FuncId} {as : List AV} {xs : List Value} {res : T} (h : Bo w0 B κ X μ st tm w) (hg : Gl Γ w X) (has : J0 w X μ st.sh as xs) (hc : q26 P Γ st.hp f as res) :
    Wm P f xs.toArray w fun v w' => RowKit.Below w.heap.size w w' ∧ TR w' (fun b => X b ∨ (w.heap.size ≤ b ∧ b < w'.heap.size)) res v := by
  rcases hc with ⟨ts, hts, hp⟩ | ⟨ts, hts, hp⟩
  · exact hp w X xs hg h.xlt (Yl (hp := st.hp) has hts)
  · have h1 := P8 has (fun c _ t x hc hf => q5b h 4 hc hf) hts
    refine (hp w (fun b => X b ∨ q7X st μ b) xs (hg.mono (fun _ _ => rfl) (fun _ hb => .inl hb)) (fun b hb => ?_) h1).mono fun v w' ⟨hb, ht⟩ => ⟨hb, ht.mono (fun _ _ => rfl) (fun _ hb => .inr hb)⟩
    rcases hb with hb | ⟨id, n, hi, hm⟩
    · exact h.xlt b hb
    · exact (h.loc id b n hi hm).2.1
theorem q9a {f : FuncId} {as : List AV} {ts : List T} {xs : List Value} {res : T} (h : Bo w0 B κ X μ st tm w) (hg : Gl Γ w X) (has : J0 w X μ st.sh as xs) (hts : Ar (as.map toT) = some ts) (hc : Au P Γ f ts res ∨ A8 P Γ f ts res) :
    Wm P f xs.toArray w fun v w' => RowKit.Below w.heap.size w w' ∧ TR w' (fun b => X b ∨ (w.heap.size ≤ b ∧ b < w'.heap.size)) res v := by
  rcases hc with hp | hp
  · exact hp w X xs hg h.xlt (Yl (hp := st.hp) has hts)
  · exact (hp w X xs hg h.xlt (Yl (hp := st.hp) has hts)).mono fun v w' ⟨hb, ht⟩ => ⟨hb, ht.mono (fun _ _ => rfl) (fun _ hb => .inr hb)⟩
theorem q9b {f : FuncId} {xs : List Value} {res : T} (hsim : Bo w0 B κ X μ st a.tmps w) (hg : Gl Γ w X) (h0 : ∀ b, X0 b → X b) (hbd : ∀ b, X b → X0 b ∨ B ≤ b ∨ ∃ id n, κ id = some (b, n)) (hsz : a.tmps.size = N) (hds : a.defers = []) (hd : ∀ t, o.dst = some t → t < N)
    (hrun : (execOp a.eval o).run P w = (callFunc f xs.toArray).run P w)
    (hr : Wm P f xs.toArray w fun v w' => RowKit.Below w.heap.size w w' ∧ TR w' (fun b => X b ∨ (w.heap.size ≤ b ∧ b < w'.heap.size)) res v)
    (hK : ∀ a' w', Inv Γ w0 B κ X0 N (st.put o.dst (.t res)) a' w' → K a' w') : o.wp P a w K Q := by
  have fin : ∀ v w', RowKit.Below w.heap.size w w' → TR w' (fun b => X b ∨ (w.heap.size ≤ b ∧ b < w'.heap.size)) res v → K (a.put o.dst v) w' := by
    intro v w' hb ht
    have hs2 := hsim.grow (X' := fun b => X b ∨ (w.heap.size ≤ b ∧ b < w'.heap.size)) hb (fun _ hx => .inl hx) (fun _ hx => hx)
    obtain ⟨h1, h2, h3⟩ := q3s hs2 hsz hd (AR.t _ _ ht)
    refine hK _ _ ⟨_, _, h1, hg.mono (fun b hx => hb.block b (hsim.xlt b hx)) (fun _ hx => .inl hx), fun b hx => .inl (h0 b hx), fun b hx => ?_, h2, h3.trans hds⟩
    rcases hx with hx | hx
    · exact hbd b hx
    · exact .inr (.inl (Nat.le_trans hsim.size hx.1))
  unfold Oper.wp
  rcases hr with ⟨hr1, hr2⟩ | ⟨v, hr1, hb, ht⟩
  · rw [hrun, hr1, Oper.upon_enter]
    exact hr2.mono fun e w' ⟨v, he, hb, ht⟩ => by subst he; exact fin v w' hb ht
  · rw [hrun, hr1, Oper.upon_value]
    exact fin v w hb ht
theorem q9c {ro : RO} {ops : List Oper} {r : AV} (hI : Inv Γ w0 B κ X0 N st a w) (hN : N ≤ 1000000) (hchk : q7Y P N ops ro o = true) (hx : Ep P Γ ro.d ro.op st r st1) (hK : ∀ a' w', Inv Γ w0 B κ X0 N (st1.put ro.dst r) a' w' → K a' w') : o.wp P a w K Q := by
  obtain ⟨X, μ, hsim, hg, h0, hbd, hsz, hds⟩ := hI
  simp only [q7Y, Bool.and_eq_true, decide_eq_true_eq] at hchk
  obtain ⟨⟨⟨⟨⟨hdst, hch⟩, hok⟩, hdn⟩, hd1⟩, _⟩ := hchk
  have hd : ∀ t, o.dst = some t → t < N := fun t ht => by
    rw [← hdst] at ht
    rw [ht] at hdn
    simpa using hdn
  have hae : a.eval = Act.eval ⟨a.tmps, []⟩ := by rw [← qDI hds]
  have plain : (∃ c, Aq Γ ro.d ro.op st = some (c, r, st1) ∧ c) → o.wp P a w K Q := by
    rintro ⟨c, hs, hc⟩
    obtain ⟨nx, v, w', μ', X', hrun, hnx, hsim', har, hX, hsame, hX'⟩ := qB9 (ds := []) hsim hg hch hok hd1 hs hc
    unfold Oper.wp
    rw [hae, hrun]
    obtain ⟨h1, h2, h3⟩ := q3s hsim' hsz hd har
    have hfin : K (a.put o.dst v) w' := hK _ _ ⟨X', μ', by rw [hdst]; exact h1, hg.mono hsame hX, fun b hb => hX b (h0 b hb), fun b hb => by
      rcases hX' b hb with hb | hb
      · exact hbd b hb
      · exact .inr hb, h2, h3.trans hds⟩
    rcases hnx with rfl | ⟨rfl, rfl⟩
    · exact hfin
    · exact hfin
  have callee : ∀ (f : FuncId) (xs : List Value) (res : T), (execOp a.eval o).run P w = (callFunc f xs.toArray).run P w → r = .t res → st1 = st →
      Wm P f xs.toArray w (fun v w' => RowKit.Below w.heap.size w w' ∧ TR w' (fun b => X b ∨ (w.heap.size ≤ b ∧ b < w'.heap.size)) res v) → o.wp P a w K Q := by
    rintro f xs res hrun rfl rfl hr
    exact q9b hsim hg h0 hbd hsz hds hd hrun hr (by rw [← hdst]; exact hK)
  cases hop : ro.op with
  | hcall f args rs base =>
    rw [hop] at hx hch hok
    obtain ⟨as, res, hp', has, hnd, hcall, hokB, rfl, rfl⟩ := hx
    have hars := Lj (ds := []) hsim hg has (by simpa [Cj.opds] using hok)
    have hrun : (execOp a.eval o).run P w = (callFunc f (args.map (Act.eval ⟨a.tmps, []⟩)).toArray).run P w := by
      generalize hoo : o.op = op at hch
      simp only [Qe] at hch
      split at hch
      case h_2 => cases hch
      split at hch
      case h_2 => cases hch
      rename_i c f' hcal
      simp only [Bool.and_eq_true] at hch
      have hf : f = f' := by simpa using hch.1
      subst hf
      have := Na hch.2; subst this
      rw [hae]
      rw [← Array.toList_map, Array.toArray_toList]
      simp [execOp, hoo, resolve, hcal, Deferred.ofValue, Act.eval, invoke]
    have hr := hcall w X (K9 μ st rs) (args.map (Act.eval ⟨a.tmps, []⟩)) hg (fun id hi => by
      cases hk : K9 μ st rs id with
      | none => exact absurd hk hi
      | some l =>
        unfold K9 at hk
        split at hk
        · rename_i hc
          have e0 := q5d hc.2.1
          have hm : rs.getD (id - 1000000) 0 ∈ rs := by rw [e0]; exact List.getElem_mem _
          have hidx : rs.idxOf (rs.getD (id - 1000000) 0) = id - 1000000 := by rw [e0, hnd.idxOf_getElem]
          obtain ⟨q, hq⟩ : ∃ q, st.sh (rs.getD (id - 1000000) 0) = some q := by
            cases he : st.sh (rs.getD (id - 1000000) 0) with
            | none => exact absurd he hc.2.2
            | some q => exact ⟨q, rfl⟩
          have := Yk hm hq
          rw [hidx] at this
          have e : 1000000 + (id - 1000000) = id := by have := hc.1; omega
          rw [e] at this
          intro hn
          simp only [St.sh, hn, Option.map_none, reduceCtorEq] at this
        · cases hk) (hsim.hand rs) (q3r hsim hars)
    have fin : ∀ v w', (∃ X' μ', Bo w w.heap.size (K9 μ st rs) X' μ' ⟨[], hp'⟩ #[] w' ∧ AR w' X' μ' (St.sh ⟨[], hp'⟩) res v ∧ (∀ b, X b → X' b) ∧ (∀ b, X' b → X b ∨ w.heap.size ≤ b ∨ ∃ id n, K9 μ st rs id = some (b, n))) → K (a.put o.dst v) w' := by
      rintro v w' ⟨X', μ', hs', hav, hX, hX'⟩
      obtain ⟨hs2, hsame, hbw⟩ := hsim.back hnd hs' hokB hX hX'
      obtain ⟨h1, h2, h3⟩ := q3s hs2 hsz hd (hav.ren (φ := fun i => some (bwd rs base i)) fun i j q hj hs => by simp only [Option.some.injEq] at hj; subst hj; exact hbw i q hs)
      refine hK _ _ ⟨X', _, by rw [hdst]; exact h1, hg.mono hsame hX, fun b hb => hX b (h0 b hb), fun b hb => ?_, h2, h3.trans hds⟩
      rcases hX' b hb with hb | hb | ⟨id, n, hk⟩
      · exact hbd b hb
      · exact .inr (.inl (Nat.le_trans hsim.size hb))
      · obtain ⟨t', h8, h9, h10⟩ := G1 hk
        rcases Nat.lt_or_ge b B with hlt | hge
        · obtain ⟨id', n', hq⟩ := (hsim.loc t' b n h9 h10).2.2 hlt
          exact .inr (.inr ⟨id', n', hq⟩)
        · exact .inr (.inl hge)
    unfold Oper.wp
    rcases hr with ⟨hr1, hr2⟩ | ⟨v, hr1, hp⟩
    · rw [hrun, hr1, Oper.upon_enter]
      exact hr2.mono fun e w' ⟨v, he, hp⟩ => by subst he; exact fin v w' hp
    · rw [hrun, hr1, Oper.upon_value]
      exact fin v w hp
  | ncall f args base =>
    rw [hop] at hx hch hok
    obtain ⟨as, res, hp', has, hcall, hokB, rfl, rfl⟩ := hx
    have hars := Lj (ds := []) hsim hg has (by simpa [Cj.opds] using hok)
    have hrun : (execOp a.eval o).run P w = (callFunc f (args.map (Act.eval ⟨a.tmps, []⟩)).toArray).run P w := by
      generalize hoo : o.op = op at hch
      simp only [Qe] at hch
      split at hch
      case h_2 => cases hch
      split at hch
      case h_2 => cases hch
      rename_i c f' hcal
      simp only [Bool.and_eq_true] at hch
      have hf : f = f' := by simpa using hch.1
      subst hf
      have := Na hch.2; subst this
      rw [hae]
      rw [← Array.toList_map, Array.toArray_toList]
      simp [execOp, hoo, resolve, hcal, Deferred.ofValue, Act.eval, invoke]
    have hk0 : ∀ id, K9 μ st [] id = none := fun id => by
      unfold K9
      rw [if_neg]
      rintro ⟨_, hlt, _⟩
      simp at hlt
    have hr := hcall w X (K9 μ st []) (args.map (Act.eval ⟨a.tmps, []⟩)) hg (fun id hi => absurd (hk0 id) hi) (hsim.hand []) (q3r hsim hars)
    have fin : ∀ v w', (∃ X' μ', Bo w w.heap.size (K9 μ st []) X' μ' ⟨[], hp'⟩ #[] w' ∧ AR w' X' μ' (St.sh ⟨[], hp'⟩) res v ∧ (∀ b, X b → X' b) ∧ (∀ b, X' b → X b ∨ w.heap.size ≤ b ∨ ∃ id n, K9 μ st [] id = some (b, n))) → K (a.put o.dst v) w' := by
      rintro v w' ⟨X', μ', hs', hav, hX, hX'⟩
      obtain ⟨hs2, hsame, hbw⟩ := hsim.news hs' hokB hX hX'
      obtain ⟨h1, h2, h3⟩ := q3s hs2 hsz hd (hav.ren (φ := fun i => some (bwd [] base i)) fun i j q hj hs => by simp only [Option.some.injEq] at hj; subst hj; exact hbw i q hs)
      refine hK _ _ ⟨X', _, by rw [hdst]; exact h1, hg.mono hsame hX, fun b hb => hX b (h0 b hb), fun b hb => ?_, h2, h3.trans hds⟩
      rcases hX' b hb with hb | hb | ⟨id, n, hk⟩
      · exact hbd b hb
      · exact .inr (.inl (Nat.le_trans hsim.size hb))
      · rw [hk0] at hk; cases hk
    unfold Oper.wp
    rcases hr with ⟨hr1, hr2⟩ | ⟨v, hr1, hp⟩
    · rw [hrun, hr1, Oper.upon_enter]
      exact hr2.mono fun e w' ⟨v, he, hp⟩ => by subst he; exact fin v w' hp
    · rw [hrun, hr1, Oper.upon_value]
      exact fin v w hp
  | rcall f args rs =>
    rw [hop] at hx hch hok
    obtain ⟨as, res, has, hnd, hsl, hcall, rfl, hst⟩ := hx
    have hst := hst.symm
    subst hst
    have hars := Lj (ds := []) hsim hg has (by simpa [Cj.opds] using hok)
    have hrun : (execOp a.eval o).run P w = (callFunc f (args.map (Act.eval ⟨a.tmps, []⟩)).toArray).run P w := by
      generalize hoo : o.op = op at hch
      simp only [Qe] at hch
      split at hch
      case h_2 => cases hch
      split at hch
      case h_2 => cases hch
      rename_i c f' hcal
      simp only [Bool.and_eq_true] at hch
      have hf : f = f' := by simpa using hch.1
      subst hf
      have := Na hch.2; subst this
      rw [hae]
      rw [← Array.toList_map, Array.toArray_toList]
      simp [execOp, hoo, resolve, hcal, Deferred.ofValue, Act.eval, invoke]
    have hr := hcall w X (K9 μ st rs) (args.map (Act.eval ⟨a.tmps, []⟩)) hg (fun id hi => by
      cases hk : K9 μ st rs id with
      | none => exact absurd hk hi
      | some l =>
        unfold K9 at hk
        split at hk
        · rename_i hc
          have e0 := q5d hc.2.1
          have hm : rs.getD (id - 1000000) 0 ∈ rs := by rw [e0]; exact List.getElem_mem _
          have hidx : rs.idxOf (rs.getD (id - 1000000) 0) = id - 1000000 := by rw [e0, hnd.idxOf_getElem]
          obtain ⟨q, hq⟩ : ∃ q, st.sh (rs.getD (id - 1000000) 0) = some q := by
            cases he : st.sh (rs.getD (id - 1000000) 0) with
            | none => exact absurd he hc.2.2
            | some q => exact ⟨q, rfl⟩
          have := Yk hm hq
          rw [hidx] at this
          have e : 1000000 + (id - 1000000) = id := by have := hc.1; omega
          rw [e] at this
          intro hn
          simp only [St.sh, hn, Option.map_none, reduceCtorEq] at this
        · cases hk) (hsim.hand rs) (q3r hsim hars)
    have fin : ∀ v w', (∃ X' μ', Bo w w.heap.size (K9 μ st rs) X' μ' ⟨[], H5 rs st.hp⟩ #[] w' ∧ AR w' X' μ' (St.sh ⟨[], H5 rs st.hp⟩) res v ∧ (∀ b, X b → X' b) ∧ (∀ b, X' b → X b ∨ w.heap.size ≤ b ∨ ∃ id n, K9 μ st rs id = some (b, n))) → K (a.put o.dst v) w' := by
      rintro v w' ⟨X', μ', hs', hav, hX, hX'⟩
      obtain ⟨hs2, hsame, hbw⟩ := hsim.looked hnd hsl hs' hX hX'
      obtain ⟨h1, h2, h3⟩ := q3s hs2 hsz hd (hav.ren (φ := fun i => some (bwd rs 0 i)) fun i j q hj hs => by simp only [Option.some.injEq] at hj; subst hj; exact hbw i q hs)
      refine hK _ _ ⟨X', _, by rw [hdst]; exact h1, hg.mono hsame hX, fun b hb => hX b (h0 b hb), fun b hb => ?_, h2, h3.trans hds⟩
      rcases hX' b hb with hb | hb | ⟨id, n, hk⟩
      · exact hbd b hb
      · exact .inr (.inl (Nat.le_trans hsim.size hb))
      · obtain ⟨t', h8, h9, h10⟩ := G1 hk
        rcases Nat.lt_or_ge b B with hlt | hge
        · obtain ⟨id', n', hq⟩ := (hsim.loc t' b n h9 h10).2.2 hlt
          exact .inr (.inr ⟨id', n', hq⟩)
        · exact .inr (.inl hge)
    unfold Oper.wp
    rcases hr with ⟨hr1, hr2⟩ | ⟨v, hr1, hp⟩
    · rw [hrun, hr1, Oper.upon_enter]
      exact hr2.mono fun e w' ⟨v, he, hp⟩ => by subst he; exact fin v w' hp
    · rw [hrun, hr1, Oper.upon_value]
      exact fin v w hp
  | callT f args =>
    rw [hop] at hx hch hok
    obtain ⟨as, ts, res, has, hts, hcall, hr, hst⟩ := hx
    have hars := Lj (ds := []) hsim hg has (by simpa [Cj.opds] using hok)
    refine callee f (args.map (Act.eval ⟨a.tmps, []⟩)) res ?_ hr hst (q9a hsim hg hars hts hcall)
    generalize hoo : o.op = op at hch
    simp only [Qe] at hch
    split at hch
    case h_2 => cases hch
    split at hch
    case h_2 => cases hch
    rename_i c f' hcal
    simp only [Bool.and_eq_true] at hch
    have hf : f = f' := by simpa using hch.1
    subst hf
    have := Na hch.2; subst this
    rw [hae]
    rw [← Array.toList_map, Array.toArray_toList]
    simp [execOp, hoo, resolve, hcal, Deferred.ofValue, Act.eval, invoke]
  | call f args =>
    rw [hop] at hx hch hok
    obtain ⟨as, res, has, hcall, hr, hst⟩ := hx
    have hars := Lj (ds := []) hsim hg has (by simpa [Cj.opds] using hok)
    refine callee f (args.map (Act.eval ⟨a.tmps, []⟩)) res ?_ hr hst (q6x hsim hg hars hcall)
    generalize hoo : o.op = op at hch
    simp only [Qe] at hch
    split at hch
    case h_2 => cases hch
    split at hch
    case h_2 => cases hch
    rename_i c f' hcal
    simp only [Bool.and_eq_true] at hch
    have hf : f = f' := by simpa using hch.1
    subst hf
    have := Na hch.2; subst this
    rw [hae]
    rw [← Array.toList_map, Array.toArray_toList]
    simp [execOp, hoo, resolve, hcal, Deferred.ofValue, Act.eval, invoke]
  | callv x args =>
    rw [hop] at hx hch hok
    obtain ⟨av, f, cs, as, res, hxv, hfn, has, hcall, hr, hst⟩ := hx
    simp only [Cj.opds, List.all_cons, Bool.and_eq_true] at hok
    have hars := Lj (ds := []) hsim hg has hok.2
    have harx := B6 (ds := []) hsim hg hxv hok.1
    have hfv : ∃ ys : List Value, Act.eval ⟨a.tmps, []⟩ x = .func (.func f) #[] ys.toArray ∧ J0 w X μ st.sh cs ys := by
      unfold qBx at hfn
      split at hfn
      · simp only [Option.some.injEq, Prod.mk.injEq] at hfn
        obtain ⟨rfl, rfl⟩ := hfn
        generalize hev : Act.eval ⟨a.tmps, []⟩ x = v at harx
        cases harx.t_inv with
        | fn f cs xs hlen hrel => exact ⟨xs, rfl, J0.ofT ⟨hlen, hrel⟩⟩
      · simp only [Option.some.injEq, Prod.mk.injEq] at hfn
        obtain ⟨rfl, rfl⟩ := hfn
        generalize hev : Act.eval ⟨a.tmps, []⟩ x = v at harx
        cases harx with
        | fn f cs xs hlen hrel => exact ⟨xs, rfl, hlen, hrel⟩
      · cases hfn
    obtain ⟨ys, hy, hys⟩ := hfv
    refine callee f (args.map (Act.eval ⟨a.tmps, []⟩) ++ ys) res ?_ hr hst (q6x hsim hg (hars.append hys) hcall)
    generalize hoo : o.op = op at hch
    simp only [Qe] at hch
    split at hch
    case h_2 => cases hch
    split at hch
    case h_2 => cases hch
    rename_i cc c y hcal
    simp only [Bool.and_eq_true] at hch
    have := Ag hch.1; subst this
    have := Na hch.2; subst this
    rw [hae]
    rw [show (List.map (Act.eval ⟨a.tmps, []⟩) cc.args.toList ++ ys).toArray = cc.args.map (Act.eval ⟨a.tmps, []⟩) ++ ys.toArray from by simp]
    simp [execOp, hoo, resolve, hcal, Deferred.ofValue, hy, invoke]
  | _ => exact plain (by simpa only [Ep, hop] using hx)
theorem qDJ {tm : Array Value} {g : Nat} {p : Bool} (h : tm.getD g undef = .bool p) : tm[g]? = some (.bool p) := by
  rw [Array.getD_eq_getD_getElem?] at h
  cases hg : tm[g]? with
  | none => rw [hg] at h; simp [undef] at h
  | some v => rw [hg] at h; simp at h; rw [h]
theorem qAO {ops : List Oper} {ro : RO} {q : Bool} (hsim : Bo w0 B κ X μ st a.tmps w) (hchk : q7Y P N ops ro o = true) (hw : Jx st.env ro.guard = some q) : Region.wanted o (yielded ops.toArray a.tmps) = q := by
  simp only [q7Y, Bool.and_eq_true] at hchk
  have hgd := hchk.2
  cases hr : ro.guard with
  | none =>
    rw [hr] at hw hgd
    simp only [Jx, Option.some.injEq] at hw; subst hw
    cases ho : o.guard with
    | none => simp [Region.wanted, ho]
    | some x => rw [ho] at hgd; cases hgd
  | some gb =>
    obtain ⟨g, b⟩ := gb
    rw [hr] at hw hgd
    cases ho : o.guard with
    | none => rw [ho] at hgd; cases hgd
    | some jb =>
      obtain ⟨j, b'⟩ := jb
      rw [ho] at hgd
      simp only [Bool.and_eq_true, decide_eq_true_eq] at hgd
      obtain ⟨hb, hj⟩ := hgd
      have hb : b = b' := by simpa using hb
      subst hb
      have hy : yielded ops.toArray a.tmps j = match a.tmps[g]? with | some (.bool b) => some b | _ => none := by
        simp only [yielded, List.getElem?_toArray, hj, Option.bind_some]
        rfl
      simp only [Jx] at hw
      split at hw
      · rename_i p hl
        simp only [Option.some.injEq] at hw; subst hw
        have hv := (hsim.env g _ hl).t_inv.v_inv
        have hv : a.tmps.getD g undef = .bool p := hv
        simp only [Region.wanted, ho, hy, qDJ hv]
        cases p <;> cases b <;> rfl
      · rename_i hl
        simp only [Option.some.injEq] at hw; subst hw
        have hu := hsim.env g _ hl
        have hv : a.tmps.getD g undef = undef := by
          generalize a.tmps.getD g undef = v at hu
          cases hu; rfl
        have : (match a.tmps[g]? with | some (.bool b) => some b | _ => none) = (none : Option Bool) := by
          rw [Array.getD_eq_getD_getElem?] at hv
          cases hg : a.tmps[g]? with
          | none => rfl
          | some v => rw [hg] at hv; simp [undef] at hv; subst hv; rfl
        simp only [Region.wanted, ho, hy, this]
        cases b <;> rfl
      · cases hw
theorem q5e {ro : RO} {ops : List Oper} {st2 : St} (hI : Inv Γ w0 B κ X0 N st a w) (hN : N ≤ 1000000) (hchk : q7Y P N ops ro o = true) (hx : U2 P Γ ro st st2) (hK : ∀ a' w', Inv Γ w0 B κ X0 N st2 a' w' → K a' w') :
    if Region.wanted o (yielded ops.toArray a.tmps) then o.wp P a w K Q ∨ (o.asks P a w ∧ LetsOut Q) else K (a.put o.dst undef) w := by
  obtain ⟨X, μ, hsim, hrest⟩ := id hI
  rcases hx with ⟨hw, r, st1, hex, rfl⟩ | ⟨hw, rfl⟩
  · rw [qAO hsim hchk hw, if_pos rfl]
    exact .inl (q9c hI hN hchk hex hK)
  · rw [qAO hsim hchk hw, if_neg (by simp)]
    obtain ⟨hg, h0, hbd, hsz, hds⟩ := hrest
    simp only [q7Y, Bool.and_eq_true, decide_eq_true_eq] at hchk
    obtain ⟨⟨⟨⟨⟨hdst, hch⟩, hok⟩, hdn⟩, _⟩, _⟩ := hchk
    have hd : ∀ t, ro.dst = some t → t < N := fun t ht => by rw [ht] at hdn; simpa using hdn
    obtain ⟨h1, h2, h3⟩ := q3s hsim hsz hd AR.un
    rw [← hdst]
    exact hK _ _ ⟨X, μ, h1, hg, h0, hbd, h2, h3.trans hds⟩
def q05 (P : Program) (N : Nat) (ops : List Oper) : List RO → List Oper → Bool
  | [], [] => true
  | ro :: ros, o :: os => q7Y P N ops ro o && q05 P N ops ros os
  | _, _ => false
theorem q4W {ops : List Oper} (hN : N ≤ 1000000) : ∀ {ros : List RO} {os : List Oper} {st st2 : St} {a : Act} {w : World}, Inv Γ w0 B κ X0 N st a w → q05 P N ops ros os = true → Nh P Γ ros st st2 → (∀ a' w', Inv Γ w0 B κ X0 N st2 a' w' → Q .normal a' w') → wpList P ops.toArray Q os a w
  | [], [], st, st2, a, w, hI, hc, hs, hQ => by
    simp only [Nh] at hs; subst hs
    exact hQ a w hI
  | [], _ :: _, _, _, _, _, _, hc, _, _ => by simp [q05] at hc
  | _ :: _, [], _, _, _, _, _, hc, _, _ => by simp [q05] at hc
  | ro :: ros, o :: os, st, st2, a, w, hI, hc, hs, hQ => by
    simp only [q05, Bool.and_eq_true] at hc
    obtain ⟨st1, h1, h2⟩ := hs
    unfold wpList
    exact q5e hI hN hc.1 h1 (fun a' w' hI' => q4W hN hI' hc.2 h2 hQ)
end
end Go.Lg
namespace Go.Lg
open Go
def Cj.kd : Cj → Nat
  | .alloc fz _ | .box fz _ | .bsl fz _ _ _ => if fz then 0 else 2
  | .app _ _ _ _ _ | .hcall _ _ _ _ => 3
  | .cpy _ _ _ | .ncall _ _ _ | .mk _ _ _ _ _ | .mkE _ _ _ _ _ | .mkB _ _ _ _ | .appZ _ _ _ _ _ | .appN _ _ _ | .mkmap | .rng _ | .nxt _ | .store _ _ _ | .stR _ _ _ _ | .mup _ _ _ _ => 2
  | .load _ _ _ | .ldR _ _ _ _ | .bytesStr _ | .len _ _ | .iadr _ _ _ | .slice _ _ _ _ _ | .appT _ _ _ _ | .appB _ _ | .lkup _ _ _ _ _ | .call _ _ | .callv _ _ | .rcall _ _ _ => 1
  | _ => 0
section
variable {P : Program} {Γ : Tables} {d : Nat} {io : Cj} {e e' : List (Nat × AV)} {h h' : List (Nat × Bj)} {c : Prop} {r : AV} {s st st1 : St}
theorem Ly : ∀ {xs : List Operand}, (∀ o ∈ xs, ev Γ e' o = ev Γ e o) → evs Γ e' xs = evs Γ e xs
  | [], _ => rfl
  | x :: xs, hx => by
    have h1 := Ly (xs := xs) (fun o ho => hx o (List.mem_cons_of_mem _ ho))
    unfold evs at h1 ⊢
    simp only [List.map_cons, hx x List.mem_cons_self]
    cases ev Γ e x <;> simp [Ar, h1]
theorem q27 {o : Option Operand} {n : Nat} (hx : ∀ x ∈ o.toList, ev Γ e' x = ev Γ e x) : Hv Γ e' o n = Hv Γ e o n := by
  cases o with
  | none => rfl
  | some x => simp only [Hv, hx x (by simp)]
theorem q5D (hk : io.kd ≤ 2) (hx : ∀ o ∈ io.opds, ev Γ e' o = ev Γ e o) : Aq Γ d io ⟨e', h⟩ = (Aq Γ d io ⟨e, h⟩).map fun q => (q.1, q.2.1, ⟨e', q.2.2.hp⟩) := by
  cases io
  case app => simp [Cj.kd] at hk
  case hcall => simp [Cj.kd] at hk
  case call => simp [Aq]
  case callv => simp [Aq]
  case slice s0 x lo hi mx =>
    have h1 := hx x (by simp [Cj.opds])
    have h2 : ∀ n, Hv Γ e' lo n = Hv Γ e lo n := fun n => q27 fun y hy => hx y (by simp [Cj.opds]; simp at hy; simp [hy])
    have h3 : ∀ n, Hv Γ e' hi n = Hv Γ e hi n := fun n => q27 fun y hy => hx y (by simp [Cj.opds]; simp at hy; simp [hy])
    have h4 : ∀ n, Hv Γ e' mx n = Hv Γ e mx n := fun n => q27 fun y hy => hx y (by simp [Cj.opds]; simp at hy; simp [hy])
    simp only [Aq, h1, h2, h3, h4]
    cases ev Γ e x with
    | none => simp
    | some a =>
      simp only [Option.bind_some]
      split
      · cases Hv Γ e lo 0 <;> simp only [Option.bind_none, Option.bind_some, Option.map_none, Option.map_map, Function.comp_def]
      · cases Hv Γ e lo 0 <;> simp only [Option.bind_none, Option.bind_some, Option.map_none]
        cases Hv Γ e hi _ <;> simp only [Option.bind_none, Option.bind_some, Option.map_none]
        cases mx <;> simp only [Option.map_some, Option.map_map, Function.comp_def]
      · cases Hv Γ e lo 0 <;> simp only [Option.bind_none, Option.bind_some, Option.map_none]
        cases Hv Γ e hi _ <;> simp only [Option.bind_none, Option.bind_some, Option.map_none]
        split <;> try rfl
        cases mx <;> simp only [Option.map_some, Option.map_map, Function.comp_def]
      · rfl
  case appZ ty s0 zs b n =>
    have h1 := hx b (by simp [Cj.opds])
    have h2 := hx n (by simp [Cj.opds])
    simp only [Aq, h1, h2]
    split <;> rfl
  all_goals
    try simp only [Cj.opds, List.mem_cons, List.not_mem_nil, or_false, false_or, forall_eq_or_imp, forall_eq] at hx
    try have hxs := Ly hx
    simp only [Aq]
    try simp only [hx]
    try simp only [hxs]
    try rfl
    try simp only [Option.map_map, Option.map_bind, Function.comp_def]
    repeat' (first | rfl | split | (refine congrArg _ (funext fun _ => ?_)) | simp only [Option.map_map, Option.map_bind, Function.comp_def])
theorem qBy (hk : io.kd ≤ 1) : Aq Γ d io ⟨e, h⟩ = (Aq Γ d io ⟨e, h⟩).map fun q => (q.1, q.2.1, ⟨e, h⟩) := by
  cases io
  all_goals try (simp [Cj.kd] at hk; done)
  case alloc fz zs => cases fz; (simp [Cj.kd] at hk); rfl
  case box fz zs => cases fz; (simp [Cj.kd] at hk); (simp [Aq, Option.map_bind, Option.map_map, Function.comp_def])
  case bsl fz ty s zs => cases fz; (simp [Cj.kd] at hk); (simp [Aq, Option.map_bind, Option.map_map, Function.comp_def])
  case slice s0 x lo hi mx =>
    simp only [Aq]
    cases ev Γ e x with
    | none => simp
    | some a =>
      simp only [Option.bind_some]
      split
      · cases Hv Γ e lo 0 <;> simp only [Option.bind_none, Option.bind_some, Option.map_none, Option.map_map, Function.comp_def]
      · cases Hv Γ e lo 0 <;> simp only [Option.bind_none, Option.bind_some, Option.map_none]
        cases Hv Γ e hi _ <;> simp only [Option.bind_none, Option.bind_some, Option.map_none]
        cases mx <;> simp only [Option.map_some, Option.map_map, Function.comp_def]
      · cases Hv Γ e lo 0 <;> simp only [Option.bind_none, Option.bind_some, Option.map_none]
        cases Hv Γ e hi _ <;> simp only [Option.bind_none, Option.bind_some, Option.map_none]
        split <;> try rfl
        cases mx <;> simp only [Option.map_some, Option.map_map, Function.comp_def]
      · rfl
  all_goals
    simp only [Aq]
    try rfl
    try simp only [Option.map_map, Option.map_bind, Function.comp_def]
    repeat' (first | rfl | split | (refine congrArg _ (funext fun _ => ?_)) | simp only [Option.map_map, Option.map_bind, Function.comp_def])
theorem qBz (hk : io.kd = 0) : Aq Γ d io ⟨e, h'⟩ = (Aq Γ d io ⟨e, h⟩).map fun q => (q.1, q.2.1, ⟨e, h'⟩) := by
  cases io
  all_goals try (simp [Cj.kd] at hk; done)
  case alloc fz zs => cases fz; (simp [Cj.kd] at hk); rfl
  case box fz zs => cases fz; (simp [Cj.kd] at hk); (simp [Aq, Option.map_bind, Option.map_map, Function.comp_def])
  case bsl fz ty s zs => cases fz; (simp [Cj.kd] at hk); (simp [Aq, Option.map_bind, Option.map_map, Function.comp_def])
  all_goals
    simp only [Aq]
    try rfl
    try simp only [Option.map_map, Option.map_bind, Function.comp_def]
    repeat' (first | rfl | split | (refine congrArg _ (funext fun _ => ?_)) | simp only [Option.map_map, Option.map_bind, Function.comp_def])
def Cj.isNew : Cj → Bool
  | .alloc _ _ | .box _ _ | .bsl _ _ _ _ | .mk _ _ _ _ _ | .mkE _ _ _ _ _ | .mkB _ _ _ _ | .appZ _ _ _ _ _ | .appN _ _ _ | .mkmap | .rng _ => true
  | _ => false
theorem qDK (hn : io.isNew = true) (hs : Aq Γ d io ⟨e, h⟩ = some (c, r, s)) (hc : c) : s.hp = h ∨ ∃ q, s.hp = (d, q) :: h ∧ A7 h d = none := by
  cases io
  all_goals try (simp [Cj.isNew] at hn; done)
  case alloc fz zs =>
    cases fz <;> simp [Aq] at hs
    · obtain ⟨hcc, rfl, rfl⟩ := hs; exact .inr ⟨_, rfl, hcc.2 hc⟩
    · obtain ⟨_, rfl, rfl⟩ := hs; exact .inl rfl
  case box fz x =>
    simp only [Aq, Option.bind_eq_some_iff] at hs
    obtain ⟨a, ha, hs⟩ := hs
    cases fz <;> simp at hs
    · obtain ⟨hcc, rfl, rfl⟩ := hs; exact .inr ⟨_, rfl, (hcc.2 hc).1⟩
    · obtain ⟨_, _, _, _, rfl⟩ := hs; exact .inl rfl
  case bsl fz ty s0 parts =>
    simp only [Aq, Option.bind_eq_some_iff, Option.map_eq_some_iff] at hs
    obtain ⟨as, ha, es, he, hs⟩ := hs
    cases fz <;> simp at hs
    · obtain ⟨hcc, rfl, rfl⟩ := hs; exact .inr ⟨_, rfl, (hcc.2 hc).1⟩
    · obtain ⟨_, _, rfl⟩ := hs; exact .inl rfl
  case mk ty s0 zs l cc =>
    simp only [Aq] at hs
    split at hs
    · simp only [Option.some.injEq, Prod.mk.injEq] at hs
      obtain ⟨rfl, rfl, rfl⟩ := hs; exact .inr ⟨_, rfl, hc.1⟩
    · cases hs
  case mkE ty s0 zs l cc =>
    simp only [Aq] at hs
    split at hs
    · simp only [Option.some.injEq, Prod.mk.injEq] at hs
      obtain ⟨rfl, rfl, rfl⟩ := hs; exact .inr ⟨_, rfl, hc.1⟩
    · cases hs
  case appZ ty s0 zs l cc =>
    simp only [Aq] at hs
    split at hs
    · simp only [Option.some.injEq, Prod.mk.injEq] at hs
      obtain ⟨rfl, rfl, rfl⟩ := hs; exact .inr ⟨_, rfl, hc.1⟩
    · cases hs
  case appN ty s0 x =>
    simp only [Aq] at hs
    split at hs
    · simp only [Option.some.injEq, Prod.mk.injEq] at hs
      obtain ⟨rfl, rfl, rfl⟩ := hs; exact .inr ⟨_, rfl, hc.1⟩
    · cases hs
  case mkB ty zs l cc =>
    simp only [Aq] at hs
    split at hs
    · simp only [Option.some.injEq, Prod.mk.injEq] at hs
      obtain ⟨rfl, rfl, rfl⟩ := hs; exact .inr ⟨_, rfl, hc.1⟩
    · cases hs
  case rng x =>
    simp only [Aq] at hs
    split at hs
    · simp only [Option.some.injEq, Prod.mk.injEq] at hs
      obtain ⟨rfl, rfl, rfl⟩ := hs; exact .inr ⟨_, rfl, hc⟩
    · cases hs
  case mkmap =>
    simp only [Aq, Option.some.injEq, Prod.mk.injEq] at hs
    obtain ⟨rfl, rfl, rfl⟩ := hs; exact .inr ⟨_, rfl, hc⟩
theorem q06 (hl : ∀ id x, A7 h id = some x → A7 h' id = some x) {a : AV} {es : List (List T)} (hs : Bq h a = some es) : Bq h' a = some es := by
  unfold Bq at hs ⊢
  split at hs
  · exact hs
  · split at hs
    · rename_i hq; rw [hl _ _ hq]; exact hs
    · cases hs
  · cases hs
theorem qBA (hl : ∀ id x, A7 h id = some x → A7 h' id = some x) {a : AV} {n : Nat} (hs : lenOf h a = some n) : lenOf h' a = some n := by
  unfold lenOf at hs ⊢
  split at hs
  · exact hs
  · exact hs
  · exact hs
  · exact hs
  · exact hs
  · split at hs
    · rename_i hq; rw [hl _ _ hq]; exact hs
    · cases hs
  · cases hs
theorem qDL (hk : io.kd ≤ 1) (hl : ∀ id x, A7 h id = some x → A7 h' id = some x) (hs : Aq Γ d io ⟨e, h⟩ = some (c, r, s)) : Aq Γ d io ⟨e, h'⟩ = some (c, r, ⟨e, h'⟩) := by
  by_cases h0 : io.kd = 0
  · rw [qBz (h := h) h0, hs]; rfl
  cases io
  all_goals try (simp [Cj.kd] at hk h0; done)
  case alloc fz zs => cases fz <;> simp [Cj.kd] at hk h0
  case box fz zs => cases fz <;> simp [Cj.kd] at hk h0
  case bsl fz ty s zs => cases fz <;> simp [Cj.kd] at hk h0
  case rcall => simp [Aq] at hs
  case call => simp [Aq] at hs
  case callv => simp [Aq] at hs
  case load n g a =>
    simp only [Aq] at hs ⊢
    split at hs
    · simp only [Option.some.injEq, Prod.mk.injEq] at hs
      obtain ⟨rfl, rfl, rfl⟩ := hs; rfl
    · split at hs
      · rename_i hq; rw [hl _ _ hq]
        simp only [Option.some.injEq, Prod.mk.injEq] at hs
        obtain ⟨rfl, rfl, rfl⟩ := hs; rfl
      · rename_i hq; rw [hl _ _ hq]
        simp only [Option.some.injEq, Prod.mk.injEq] at hs
        obtain ⟨rfl, rfl, rfl⟩ := hs; rfl
      · cases hs
    · cases hs
  case ldR id n g a =>
    simp only [Aq] at hs ⊢
    split at hs
    case isFalse => cases hs
    rename_i hp
    rw [if_pos hp]
    split at hs
    · simp only [Option.some.injEq, Prod.mk.injEq] at hs
      obtain ⟨rfl, rfl, rfl⟩ := hs; rfl
    · split at hs
      · rename_i hq; rw [hl _ _ hq]
        simp only [Option.some.injEq, Prod.mk.injEq] at hs
        obtain ⟨rfl, rfl, rfl⟩ := hs; rfl
      · rename_i hq; rw [hl _ _ hq]
        simp only [Option.some.injEq, Prod.mk.injEq] at hs
        obtain ⟨rfl, rfl, rfl⟩ := hs; rfl
      · cases hs
    · cases hs
  case iadr s0 x i =>
    simp only [Aq] at hs ⊢
    split at hs
    · simp only [Option.some.injEq, Prod.mk.injEq] at hs
      obtain ⟨rfl, rfl, rfl⟩ := hs; rfl
    · split at hs
      · rename_i hq; rw [hl _ _ hq]
        simp only [Option.some.injEq, Prod.mk.injEq] at hs
        obtain ⟨rfl, rfl, rfl⟩ := hs; rfl
      · cases hs
    · split at hs
      · rename_i hq; rw [hl _ _ hq]
        simp only [Option.some.injEq, Prod.mk.injEq] at hs
        obtain ⟨rfl, rfl, rfl⟩ := hs; rfl
      · cases hs
    · cases hs
  case bytesStr x =>
    simp only [Aq, Option.bind_eq_some_iff, Option.map_eq_some_iff, Prod.mk.injEq] at hs ⊢
    obtain ⟨es, ⟨a, ha, he⟩, bs, hb, rfl, rfl, rfl⟩ := hs
    exact ⟨es, ⟨a, ha, q06 hl he⟩, bs, hb, rfl, rfl, trivial⟩
  case appT ty s0 b x =>
    simp only [Aq, Option.bind_eq_some_iff] at hs ⊢
    obtain ⟨es, ⟨a, ha, he⟩, hs⟩ := hs
    refine ⟨es, ⟨a, ha, q06 hl he⟩, ?_⟩
    split at hs
    · simp only [Option.some.injEq, Prod.mk.injEq] at hs ⊢
      obtain ⟨rfl, rfl, rfl⟩ := hs; exact ⟨rfl, rfl, trivial⟩
    · cases hs
  case appB b x =>
    simp only [Aq, Option.bind_eq_some_iff] at hs ⊢
    obtain ⟨es, ⟨a, ha, he⟩, hs⟩ := hs
    refine ⟨es, ⟨a, ha, q06 hl he⟩, ?_⟩
    split at hs
    · simp only [Option.some.injEq, Prod.mk.injEq] at hs ⊢
      obtain ⟨rfl, rfl, rfl⟩ := hs; exact ⟨rfl, rfl, trivial⟩
    · cases hs
  case len k x =>
    simp only [Aq, Option.bind_eq_some_iff] at hs ⊢
    obtain ⟨a, ha, hs⟩ := hs
    refine ⟨a, ha, ?_⟩
    split at hs
    · rename_i hq
      rw [if_pos hq]
      simp only [Option.map_eq_some_iff, Prod.mk.injEq] at hs ⊢
      obtain ⟨n, hn, rfl, rfl, rfl⟩ := hs
      exact ⟨n, qBA hl hn, rfl, rfl, trivial⟩
    · cases hs
  case lkup kt zv ok m k =>
    simp only [Aq] at hs ⊢
    split at hs
    · split at hs
      · simp only [Option.some.injEq, Prod.mk.injEq] at hs
        obtain ⟨rfl, rfl, rfl⟩ := hs; rfl
      · split at hs
        · rename_i hq; rw [hl _ _ hq]
          simp only [Option.some.injEq, Prod.mk.injEq] at hs
          obtain ⟨rfl, rfl, rfl⟩ := hs; rfl
        · cases hs
      · cases hs
    · cases hs
  case slice s0 x lo hi mx =>
    simp only [Aq, Option.bind_eq_some_iff] at hs ⊢
    obtain ⟨a, ha, hs⟩ := hs
    refine ⟨a, ha, ?_⟩
    split at hs
    · simp only [Option.bind_eq_some_iff, Option.map_eq_some_iff, Prod.mk.injEq] at hs ⊢
      obtain ⟨l, hl1, q, hq, rfl, rfl, rfl⟩ := hs
      exact ⟨l, hl1, q, hq, rfl, rfl, trivial⟩
    · simp only [Option.bind_eq_some_iff] at hs ⊢
      obtain ⟨l, hl1, q, hq, hs⟩ := hs
      refine ⟨l, hl1, q, hq, ?_⟩
      cases mx
      · simp only [Option.some.injEq, Prod.mk.injEq] at hs ⊢
        obtain ⟨rfl, rfl, rfl⟩ := hs; exact ⟨rfl, rfl, trivial⟩
      · simp only [Option.map_eq_some_iff, Prod.mk.injEq] at hs ⊢
        obtain ⟨m, hm, rfl, rfl, rfl⟩ := hs
        exact ⟨m, hm, rfl, rfl, trivial⟩
    · simp only [Option.bind_eq_some_iff] at hs ⊢
      obtain ⟨l, hl1, q, hq, hs⟩ := hs
      refine ⟨l, hl1, q, hq, ?_⟩
      split at hs
      · rename_i hz; rw [hl _ _ hz]
        cases mx
        · simp only [Option.some.injEq, Prod.mk.injEq] at hs ⊢
          obtain ⟨rfl, rfl, rfl⟩ := hs; exact ⟨rfl, rfl, trivial⟩
        · simp only [Option.map_eq_some_iff, Prod.mk.injEq] at hs ⊢
          obtain ⟨m, hm, rfl, rfl, rfl⟩ := hs
          exact ⟨m, hm, rfl, rfl, trivial⟩
      · cases hs
    · cases hs
theorem q8K (hn : io.isNew = true) (hs : Aq Γ d io ⟨e, h⟩ = some (c, r, s)) (hc : c) : (s.hp = h ∧ ∀ h', ∃ c', Aq Γ d io ⟨e, h'⟩ = some (c', r, ⟨e, h'⟩) ∧ c') ∨
    ∃ q, A7 h d = none ∧ s.hp = (d, q) :: h ∧ ∀ h', A7 h' d = none → ∃ c', Aq Γ d io ⟨e, h'⟩ = some (c', r, ⟨e, (d, q) :: h'⟩) ∧ c' := by
  cases io
  all_goals try (simp [Cj.isNew] at hn; done)
  case alloc fz zs =>
    cases fz <;> simp [Aq] at hs
    · obtain ⟨hcc, rfl, rfl⟩ := hs; exact .inr ⟨_, hcc.2 hc, rfl, fun h' hh => ⟨A7 h' d = none, by simp [Aq], hh⟩⟩
    · obtain ⟨_, rfl, rfl⟩ := hs; exact .inl ⟨rfl, fun h' => ⟨True, by simp [Aq], trivial⟩⟩
  case box fz x =>
    simp only [Aq, Option.bind_eq_some_iff] at hs
    obtain ⟨a, ha, hs⟩ := hs
    cases fz <;> simp only [Bool.false_eq_true, ↓reduceIte, Option.map_eq_some_iff, Option.some.injEq, Prod.mk.injEq] at hs
    · obtain ⟨rfl, rfl, rfl⟩ := hs; exact .inr ⟨_, hc.1, rfl, fun h' hh => ⟨A7 h' d = none ∧ Cc a.cells = true, by simp [Aq, ha], hh, hc.2⟩⟩
    · obtain ⟨ts, hts, rfl, rfl, rfl⟩ := hs; exact .inl ⟨rfl, fun h' => ⟨C7 ts = true, by simp [Aq, ha, hts], hc⟩⟩
  case bsl fz ty s0 parts =>
    simp only [Aq, Option.bind_eq_some_iff, Option.map_eq_some_iff] at hs
    obtain ⟨as, ha, es, he, hs⟩ := hs
    cases fz <;> simp only [Bool.false_eq_true, ↓reduceIte, Prod.mk.injEq] at hs
    · obtain ⟨rfl, rfl, rfl⟩ := hs; exact .inr ⟨_, hc.1, rfl, fun h' hh => ⟨A7 h' d = none ∧ ∀ e ∈ es, e.length = s0 ∧ C7 e = true, by simp [Aq, ha, he], hh, hc.2⟩⟩
    · obtain ⟨rfl, rfl, rfl⟩ := hs; exact .inl ⟨rfl, fun h' => ⟨∀ e ∈ es, e.length = s0 ∧ C7 e = true, by simp [Aq, ha, he], hc⟩⟩
  case mk ty s0 zs l cc =>
    simp only [Aq] at hs
    split at hs
    · rename_i e1 e2
      simp only [Option.some.injEq, Prod.mk.injEq] at hs
      obtain ⟨rfl, rfl, rfl⟩ := hs; exact .inr ⟨_, hc.1, rfl, fun h' hh => ⟨_, by simp only [Aq, e1, e2]; rfl, by exact ⟨hh, hc.2⟩⟩⟩
    · cases hs
  case mkE ty s0 zs l cc =>
    simp only [Aq] at hs
    split at hs
    · rename_i e1 e2
      simp only [Option.some.injEq, Prod.mk.injEq] at hs
      obtain ⟨rfl, rfl, rfl⟩ := hs; exact .inr ⟨_, hc.1, rfl, fun h' hh => ⟨_, by simp only [Aq, e1, e2]; rfl, by exact ⟨hh, hc.2⟩⟩⟩
    · cases hs
  case appZ ty s0 zs l cc =>
    simp only [Aq] at hs
    split at hs
    · rename_i e1 e2
      simp only [Option.some.injEq, Prod.mk.injEq] at hs
      obtain ⟨rfl, rfl, rfl⟩ := hs; exact .inr ⟨_, hc.1, rfl, fun h' hh => ⟨_, by simp only [Aq, e1, e2]; rfl, by exact ⟨hh, hc.2⟩⟩⟩
    · cases hs
  case appN ty s0 x =>
    simp only [Aq] at hs
    split at hs
    · rename_i e1
      simp only [Option.some.injEq, Prod.mk.injEq] at hs
      obtain ⟨rfl, rfl, rfl⟩ := hs; exact .inr ⟨_, hc.1, rfl, fun h' hh => ⟨_, by simp only [Aq, e1]; rfl, by exact ⟨hh, hc.2⟩⟩⟩
    · cases hs
  case mkB ty zs l cc =>
    simp only [Aq] at hs
    split at hs
    · rename_i e1 e2
      simp only [Option.some.injEq, Prod.mk.injEq] at hs
      obtain ⟨rfl, rfl, rfl⟩ := hs; exact .inr ⟨_, hc.1, rfl, fun h' hh => ⟨_, by simp only [Aq, e1, e2]; rfl, by exact ⟨hh, hc.2⟩⟩⟩
    · cases hs
  case mkmap =>
    simp only [Aq, Option.some.injEq, Prod.mk.injEq] at hs
    obtain ⟨rfl, rfl, rfl⟩ := hs; exact .inr ⟨_, hc, rfl, fun h' hh => ⟨_, by simp only [Aq], hh⟩⟩
  case rng x =>
    simp only [Aq] at hs
    split at hs
    · rename_i e1
      simp only [Option.some.injEq, Prod.mk.injEq] at hs
      obtain ⟨rfl, rfl, rfl⟩ := hs; exact .inr ⟨_, hc, rfl, fun h' hh => ⟨_, by simp only [Aq, e1], hh⟩⟩
    · cases hs
theorem qAP {id n : Nat} {a x : Operand} (hs : Aq Γ d (.stR id n a x) ⟨e, h⟩ = some (c, r, s)) (hc : c) :
    ∃ q q', A7 h id = some q ∧ q'.sh = q.sh ∧ s.hp = Fq id q' h ∧ ∀ h', A7 h' id = some q → ∃ c', Aq Γ d (.stR id n a x) ⟨e, h'⟩ = some (c', r, ⟨e, Fq id q' h'⟩) ∧ c' := by
  simp only [Aq] at hs
  split at hs
  case isFalse => cases hs
  rename_i hp
  simp only [Option.bind_eq_some_iff] at hs
  obtain ⟨v, hv, hs⟩ := hs
  split at hs
  case h_2 => cases hs
  rename_i j i k ha
  have hj : j = id := by rw [ha] at hp; simpa [Hw] using hp
  subst hj
  split at hs
  · rename_i ty s0 es hl
    simp only [Option.map_eq_some_iff, Prod.mk.injEq] at hs
    obtain ⟨ts, hts, rfl, rfl, rfl⟩ := hs
    exact ⟨_, _, hl, by simp [Bj.sh], rfl, fun h' hh => ⟨_, by simp only [Aq, hv, ha, hh, hts, Hw, beq_self_eq_true, ↓reduceIte, Option.bind_some, Option.map_some], hc⟩⟩
  · rename_i cs hl
    simp only [Option.some.injEq, Prod.mk.injEq] at hs
    obtain ⟨rfl, rfl, rfl⟩ := hs
    exact ⟨_, .bx (cs.take k ++ v.cells ++ cs.drop (k + n)), hl, rfl, rfl, fun h' hh => ⟨_, by simp only [Aq, hv, ha, hh, Hw, beq_self_eq_true, ↓reduceIte, Option.bind_some, Option.map_some], hc⟩⟩
  · cases hs
theorem qDM {id n : Nat} {g : Bool} {a : Operand} (hs : Aq Γ d (.ldR id n g a) ⟨e, h⟩ = some (c, r, s)) (hh : A7 h' id = A7 h id) : Aq Γ d (.ldR id n g a) ⟨e, h'⟩ = some (c, r, ⟨e, h'⟩) := by
  simp only [Aq] at hs
  split at hs
  case isFalse => cases hs
  rename_i hp
  split at hs
  · rename_i ha; rw [ha] at hp; simp [Hw] at hp
  · rename_i j i k ha
    have hj : j = id := by rw [ha] at hp; simpa [Hw] using hp
    subst hj
    split at hs
    · rename_i hl
      simp only [Option.some.injEq, Prod.mk.injEq] at hs
      obtain ⟨rfl, rfl, rfl⟩ := hs
      simp only [Aq, ha, hh, hl, Hw, beq_self_eq_true, ↓reduceIte]
    · rename_i hl
      simp only [Option.some.injEq, Prod.mk.injEq] at hs
      obtain ⟨rfl, rfl, rfl⟩ := hs
      simp only [Aq, ha, hh, hl, Hw, beq_self_eq_true, ↓reduceIte]
    · cases hs
  · cases hs
theorem qDN {s0 : Nat} {x i : Operand} (hs : Aq Γ d (.iadr s0 x i) ⟨e, h⟩ = some (c, r, s)) (hh : ∀ k, (A7 h' k).map Bj.sh = (A7 h k).map Bj.sh) : Aq Γ d (.iadr s0 x i) ⟨e, h'⟩ = some (c, r, ⟨e, h'⟩) := by
  simp only [Aq] at hs
  split at hs
  · rename_i e1 e2
    simp only [Option.some.injEq, Prod.mk.injEq] at hs
    obtain ⟨rfl, rfl, rfl⟩ := hs
    simp only [Aq, e1, e2]
  · rename_i id off len cap k n e1 e2
    split at hs
    · rename_i ty q es hl
      simp only [Option.some.injEq, Prod.mk.injEq] at hs
      obtain ⟨rfl, rfl, rfl⟩ := hs
      have := hh id
      rw [hl] at this
      simp only [Option.map_some, Bj.sh, Option.map_eq_some_iff] at this
      obtain ⟨q', h1, h2⟩ := this
      cases q' <;> simp at h2
      obtain ⟨rfl, _⟩ := h2
      simp only [Aq, e1, e2, h1]
    · cases hs
  · rename_i id m k n e1 e2
    split at hs
    · rename_i cs hl
      simp only [Option.some.injEq, Prod.mk.injEq] at hs
      obtain ⟨rfl, rfl, rfl⟩ := hs
      have := hh id
      rw [hl] at this
      simp only [Option.map_some, Bj.sh, Option.map_eq_some_iff] at this
      obtain ⟨q', h1, h2⟩ := this
      cases q' <;> simp at h2
      simp only [Aq, e1, e2, h1]
    · cases hs
  · cases hs
end
end Go.Lg
namespace Go.Lg
open Go
def RO.reads (ro : RO) : List Nat := (ro.op.opds.filterMap fun | .tmp t => some t | _ => none) ++ (ro.guard.map (·.1)).toList
def qC0 (x y : RO) : Bool := match x.op, y.op with
  | .stR i _ _ _, .stR j _ _ _ | .stR i _ _ _, .ldR j _ _ _ | .ldR i _ _ _, .stR j _ _ _ => i != j
  | .stR _ _ _ _, .iadr _ _ _ | .iadr _ _ _, .stR _ _ _ _ => true
  | .stR i _ _ _, io => io.isNew && i != y.d
  | io, .stR j _ _ _ => io.isNew && j != x.d
  | io, jo => io.isNew && jo.isNew && x.d != y.d
def Cj.isN : Cj → Bool
  | .ncall _ _ _ => true
  | io => io.isNew
def qC1 (x y : RO) : Bool := match x.op, y.op, x.dst, y.dst with
  | .mv (.tmp a), .app _ _ _ b v, some dx, some dy => x.guard.isNone && y.guard.isNone && (match b with | .tmp t => t != dx | _ => true) && (match v with | .tmp t => t != dx | _ => true) && dy != a && dy != dx
  | _, _, _, _ => false
def q9d (x y : RO) : Bool := qC1 x y ||
  (x.op.kd ≤ 2 && y.op.kd ≤ 2 && (x.op.kd == 0 || y.op.kd == 0 || (x.op.kd ≤ 1 && y.op.kd ≤ 1) || (x.op.kd ≤ 1 && y.op.isN) || (x.op.isN && y.op.isN) || qC0 x y)) &&
  (match x.dst with | some d => !y.reads.contains d && y.dst != some d | none => true) &&
  (match y.dst with | some d => !x.reads.contains d | none => true)
def F2 (a b : St) : Prop := (∀ k, A7 b.env k = A7 a.env k) ∧ ∀ k, A7 b.hp k = A7 a.hp k
theorem F2.rfl' {a : St} : F2 a a := ⟨fun _ => rfl, fun _ => rfl⟩
theorem F2.trans {a b c : St} (h : F2 a b) (h' : F2 b c) : F2 a c := ⟨fun k => (h'.1 k).trans (h.1 k), fun k => (h'.2 k).trans (h.2 k)⟩
section
variable {P : Program} {Γ : Tables} {d : Nat} {io : Cj} {e e' : List (Nat × AV)} {h h' h1 h2 : List (Nat × Bj)} {c : Prop} {r r1 r2 : AV} {s st st' st1 st2 s2 : St} {ro x y : RO}
theorem Bo.alike {w0 : World} {B : Nat} {κ : D6} {X : Nat → Prop} {μ : D6} {tm : Array Value} {w : World} (hs : Bo w0 B κ X μ st tm w) (ha : F2 st st') : Bo w0 B κ X μ st' tm w := by
  have e : st'.sh = st.sh := funext fun t => by simp only [St.sh, ha.2]
  refine ⟨fun t a ht => ?_, fun id r hr => ?_, ?_, ?_, ?_, hs.kbig, hs.xlt, hs.os, hs.tape, hs.output, hs.size, hs.fr⟩
  · rw [e]; exact hs.env t a (by rw [← ha.1 t]; exact ht)
  · rw [e]; exact hs.reg id r (by rw [← ha.2]; exact hr)
  · rw [e]; exact hs.inj
  · rw [e]; exact hs.loc
  · rw [e]; exact hs.kap
theorem q3t (hk : io.kd ≤ 2) (hx : ∀ o ∈ io.opds, ev Γ e' o = ev Γ e o) (hs : Ep P Γ d io ⟨e, h⟩ r s) : s.env = e ∧ Ep P Γ d io ⟨e', h⟩ r ⟨e', s.hp⟩ := by
  have gen : (∃ c, Aq Γ d io ⟨e, h⟩ = some (c, r, s) ∧ c) → s.env = e ∧ ∃ c, Aq Γ d io ⟨e', h⟩ = some (c, r, ⟨e', s.hp⟩) ∧ c := by
    rintro ⟨c, hs, hc⟩
    refine ⟨?_, c, ?_, hc⟩
    · have := q5D (Γ := Γ) (d := d) (e := e) (e' := e) (h := h) hk (fun _ _ => rfl)
      rw [hs] at this
      simp only [Option.map_some, Option.some.injEq, Prod.mk.injEq] at this
      rw [this.2.2]
    · rw [q5D hk hx, hs]; rfl
  cases io with
  | call f args =>
    obtain ⟨as, res, h1, h2, h3, rfl⟩ := hs
    exact ⟨rfl, as, res, (Ly hx).trans h1, h2, h3, rfl⟩
  | callv a args =>
    obtain ⟨b, f, cs, as, res, h0, h1, h2, h3, h4, rfl⟩ := hs
    simp only [Cj.opds, List.mem_cons, forall_eq_or_imp] at hx
    exact ⟨rfl, b, f, cs, as, res, hx.1.trans h0, h1, (Ly hx.2).trans h2, h3, h4, rfl⟩
  | hcall f args rs base => simp [Cj.kd] at hk
  | ncall f args base =>
    obtain ⟨as, res, hp', h1, h2, h3, h4, rfl⟩ := hs
    exact ⟨rfl, as, res, hp', (Ly hx).trans h1, h2, h3, h4, rfl⟩
  | callT f args =>
    obtain ⟨as, ts, res, h1, h2, h3, h4, rfl⟩ := hs
    exact ⟨rfl, as, ts, res, (Ly hx).trans h1, h2, h3, h4, rfl⟩
  | rcall f args rs =>
    obtain ⟨as, res, h1, h2, h3, h4, h5, rfl⟩ := hs
    exact ⟨rfl, as, res, (Ly hx).trans h1, h2, h3, h4, h5, rfl⟩
  | _ => exact gen hs
theorem q5f (hk : io.kd ≤ 1) (hs : Ep P Γ d io st r s) : s = st := by
  obtain ⟨e, h⟩ := st
  have gen : (∃ c, Aq Γ d io ⟨e, h⟩ = some (c, r, s) ∧ c) → s = ⟨e, h⟩ := by
    rintro ⟨c, hs, hc⟩
    have := qBy (Γ := Γ) (d := d) (e := e) (h := h) hk
    rw [hs] at this
    simp only [Option.map_some, Option.some.injEq, Prod.mk.injEq] at this
    exact this.2.2
  cases io with
  | call f args => obtain ⟨as, res, h1, h2, h3, h4⟩ := hs; exact h4
  | callv a args => obtain ⟨b, f, cs, as, res, h0, h1, h2, h3, h4, h5⟩ := hs; exact h5
  | hcall f args rs base => simp [Cj.kd] at hk
  | ncall f args base => simp [Cj.kd] at hk
  | callT f args => obtain ⟨as, ts, res, h1, h2, h3, h4, h5⟩ := hs; exact h5
  | rcall f args rs => obtain ⟨as, res, h1, h2, h3, h4, h5, h6⟩ := hs; exact h6
  | _ => exact gen hs
theorem qC2 (hk : io.kd = 0) (hs : Ep P Γ d io ⟨e, h⟩ r s) : Ep P Γ d io ⟨e, h'⟩ r ⟨e, h'⟩ := by
  have gen : (∃ c, Aq Γ d io ⟨e, h⟩ = some (c, r, s) ∧ c) → ∃ c, Aq Γ d io ⟨e, h'⟩ = some (c, r, ⟨e, h'⟩) ∧ c := by
    rintro ⟨c, hs, hc⟩
    refine ⟨c, ?_, hc⟩
    rw [qBz (h := h) hk, hs]; rfl
  cases io with
  | call f args => simp [Cj.kd] at hk
  | callv a args => simp [Cj.kd] at hk
  | hcall f args rs base => simp [Cj.kd] at hk
  | ncall f args base => simp [Cj.kd] at hk
  | callT f args => obtain ⟨as, ts, res, h1, h2, h3, h4, h5⟩ := hs; exact ⟨as, ts, res, h1, h2, h3, h4, rfl⟩
  | rcall f args rs => simp [Cj.kd] at hk
  | _ => exact gen hs
def B9 (P : Program) (Γ : Tables) (ro : RO) (st : St) (r : AV) (h1 : List (Nat × Bj)) : Prop :=
  (Jx st.env ro.guard = some true ∧ Ep P Γ ro.d ro.op st r ⟨st.env, h1⟩) ∨ (Jx st.env ro.guard = some false ∧ r = .un ∧ h1 = st.hp)
theorem qAQ (hk : ro.op.kd ≤ 2) (hs : U2 P Γ ro st s) : ∃ r h1, B9 P Γ ro st r h1 ∧ s = St.put ⟨st.env, h1⟩ ro.dst r := by
  rcases hs with ⟨hw, r, st1, hx, rfl⟩ | ⟨hw, rfl⟩
  · have h1 := (q3t (e' := st.env) hk (fun _ _ => rfl) hx).1
    obtain ⟨e1, hp1⟩ := st1
    simp only at h1; subst h1
    exact ⟨r, hp1, .inl ⟨hw, hx⟩, rfl⟩
  · exact ⟨.un, st.hp, .inr ⟨hw, rfl, rfl⟩, rfl⟩
theorem B9.step (hs : B9 P Γ ro st r h1) : U2 P Γ ro st (St.put ⟨st.env, h1⟩ ro.dst r) := by
  rcases hs with ⟨hw, hx⟩ | ⟨hw, rfl, rfl⟩
  · exact .inl ⟨hw, r, _, hx, rfl⟩
  · exact .inr ⟨hw, rfl⟩
theorem qC3 (hx : ∀ t ∈ ro.reads, A7 e' t = A7 e t) : ∀ o ∈ ro.op.opds, ev Γ e' o = ev Γ e o := by
  intro o ho
  cases o with
  | tmp t => exact hx t (List.mem_append_left _ (List.mem_filterMap.2 ⟨_, ho, rfl⟩))
  | _ => rfl
theorem q9e (hx : ∀ t ∈ ro.reads, A7 e' t = A7 e t) : Jx e' ro.guard = Jx e ro.guard := by
  cases hg : ro.guard with
  | none => rfl
  | some gb => simp only [Jx, hx gb.1 (List.mem_append_right _ (by simp [hg]))]
theorem B9.env (hk : ro.op.kd ≤ 2) (hx : ∀ t ∈ ro.reads, A7 e' t = A7 e t) (hs : B9 P Γ ro ⟨e, h⟩ r h1) : B9 P Γ ro ⟨e', h⟩ r h1 := by
  have hw : Jx e' ro.guard = Jx e ro.guard := q9e hx
  rcases hs with ⟨hw', ha⟩ | ⟨hw', rfl, rfl⟩
  · exact .inl ⟨hw.trans hw', (q3t hk (qC3 hx) ha).2⟩
  · exact .inr ⟨hw.trans hw', rfl, rfl⟩
theorem B9.same (hk : ro.op.kd ≤ 1) (hs : B9 P Γ ro ⟨e, h⟩ r h1) : h1 = h := by
  rcases hs with ⟨hw', ha⟩ | ⟨hw', rfl, rfl⟩
  · have := q5f hk ha
    simpa using this
  · rfl
theorem B9.hp (hk : ro.op.kd = 0) (hs : B9 P Γ ro ⟨e, h⟩ r h1) : B9 P Γ ro ⟨e, h'⟩ r h' := by
  rcases hs with ⟨hw', ha⟩ | ⟨hw', rfl, rfl⟩
  · exact .inl ⟨hw', qC2 hk ha⟩
  · exact .inr ⟨hw', rfl, rfl⟩
theorem P9 {f g : AV → Option T} : ∀ {cs : List AV} {ts : List T}, (∀ c ∈ cs, ∀ t, f c = some t → g c = some t) → Ar (cs.map f) = some ts → Ar (cs.map g) = some ts
  | [], ts, _, ho => ho
  | c :: cs, ts, hf, ho => by
    simp only [List.map_cons] at ho ⊢
    cases hc : f c with
    | none => rw [hc] at ho; simp [Ar] at ho
    | some t =>
      rw [hc] at ho; rw [hf c List.mem_cons_self t hc]
      simp only [Ar, Option.map_eq_some_iff] at ho ⊢
      obtain ⟨ts', ho', rfl⟩ := ho
      exact ⟨ts', P9 (fun c hm => hf c (List.mem_cons_of_mem _ hm)) ho', rfl⟩
theorem qBB (hl : ∀ id x, A7 h id = some x → A7 h' id = some x) : ∀ {n : Nat} {a : AV} {t : T}, Ai h n a = some t → Ai h' n a = some t := by
  intro n
  induction n with
  | zero => intro a t hs; cases a <;> simp only [Ai] at hs ⊢ <;> exact hs
  | succ n ih =>
    intro a t hs
    cases a with
    | t x => simp only [Ai] at hs ⊢; exact hs
    | ag cs =>
      simp only [Ai, Option.map_eq_some_iff] at hs ⊢
      obtain ⟨ts, h1, h2⟩ := hs
      exact ⟨ts, P9 (fun c _ t hc => ih hc) h1, h2⟩
    | fn f cs =>
      simp only [Ai, Option.map_eq_some_iff] at hs ⊢
      obtain ⟨ts, h1, h2⟩ := hs
      exact ⟨ts, P9 (fun c _ t hc => ih hc) h1, h2⟩
    | ls id off len cap =>
      simp only [Ai] at hs ⊢
      split at hs
      · rename_i hq; rw [hl _ _ hq]; exact hs
      · cases hs
    | lp id i k =>
      simp only [Ai] at hs ⊢
      split at hs
      · rename_i hq; rw [hl _ _ hq]; exact hs
      · rename_i hq; rw [hl _ _ hq]
        simp only [Option.map_eq_some_iff] at hs ⊢
        obtain ⟨ts, h1, h2⟩ := hs
        exact ⟨ts, P9 (fun c _ t hc => ih hc) h1, h2⟩
      · cases hs
    | li id => simp [Ai] at hs
    | lb id m =>
      simp only [Ai] at hs ⊢
      split at hs
      · rename_i hq; rw [hl _ _ hq]
        simp only [Option.map_eq_some_iff] at hs ⊢
        obtain ⟨ts, h1, h2⟩ := hs
        exact ⟨ts, P9 (fun c _ t hc => ih hc) h1, h2⟩
      · cases hs
    | lm id =>
      simp only [Ai] at hs ⊢
      split at hs
      · rename_i hq; rw [hl _ _ hq]; exact hs
      · cases hs
    | dead => simp [Ai] at hs
    | un => simp [Ai] at hs
theorem q26.add {f : FuncId} {as : List AV} {res : T} (hl : ∀ id x, A7 h id = some x → A7 h' id = some x) (hc : q26 P Γ h f as res) : q26 P Γ h' f as res := by
  rcases hc with hc | ⟨ts, h1, h2⟩
  · exact .inl hc
  · exact .inr ⟨ts, P9 (fun c _ t hc => qBB hl hc) h1, h2⟩
theorem q6y (hl : ∀ id x, A7 h id = some x → A7 h' id = some x) (hk : io.kd ≤ 1) (hs : Ep P Γ d io ⟨e, h⟩ r s) : Ep P Γ d io ⟨e, h'⟩ r ⟨e, h'⟩ := by
  have gen : (∃ c, Aq Γ d io ⟨e, h⟩ = some (c, r, s) ∧ c) → ∃ c, Aq Γ d io ⟨e, h'⟩ = some (c, r, ⟨e, h'⟩) ∧ c := by
    rintro ⟨c, hs, hc⟩
    exact ⟨c, qDL hk hl hs, hc⟩
  cases io with
  | call f args => obtain ⟨as, res, h1, h2, h3, h4⟩ := hs; exact ⟨as, res, h1, h2.add hl, h3, rfl⟩
  | callv a args => obtain ⟨b, f, cs, as, res, h0, h1, h2, h3, h4, h5⟩ := hs; exact ⟨b, f, cs, as, res, h0, h1, h2, h3.add hl, h4, rfl⟩
  | hcall f args rs base => simp [Cj.kd] at hk
  | ncall f args base => simp [Cj.kd] at hk
  | callT f args => obtain ⟨as, ts, res, h1, h2, h3, h4, h5⟩ := hs; exact ⟨as, ts, res, h1, h2, h3, h4, rfl⟩
  | rcall f args rs =>
    obtain ⟨as, res, h1, h2, h3, h4, h5, h6⟩ := hs
    have he : H5 rs h' = H5 rs h := by
      unfold H5
      have : ∀ l : List Nat, (∀ i ∈ l, i ∈ rs) → l.filterMap (fun i => (A7 h' i).map fun r => (1000000 + rs.idxOf i, Cd (fwd rs) r)) = l.filterMap (fun i => (A7 h i).map fun r => (1000000 + rs.idxOf i, Cd (fwd rs) r)) := by
        intro l
        induction l with
        | nil => intro _; rfl
        | cons i l ih =>
          intro hm
          obtain ⟨ty, s, es, hl'⟩ := h3 i (hm i List.mem_cons_self)
          simp only at hl'
          simp only [List.filterMap_cons, hl', hl _ _ hl', ih fun j hj => hm j (List.mem_cons_of_mem _ hj)]
      exact this rs fun i hi => hi
    refine ⟨as, res, h1, h2, fun i hi => ?_, by rw [he]; exact h4, h5, rfl⟩
    obtain ⟨ty, s, es, hl'⟩ := h3 i hi
    exact ⟨ty, s, es, hl _ _ hl'⟩
  | _ => exact gen hs
theorem B9.add (hl : ∀ id x, A7 h id = some x → A7 h' id = some x) (hk : ro.op.kd ≤ 1) (hs : B9 P Γ ro ⟨e, h⟩ r h1) : B9 P Γ ro ⟨e, h'⟩ r h' := by
  rcases hs with ⟨hw', ha⟩ | ⟨hw', rfl, rfl⟩
  · exact .inl ⟨hw', q6y hl hk ha⟩
  · exact .inr ⟨hw', rfl, rfl⟩
theorem B9.new (hn : ro.op.isNew = true) (hs : B9 P Γ ro ⟨e, h⟩ r h1) : ∀ id x, A7 h id = some x → A7 h1 id = some x := by
  rcases hs with ⟨hw', ha⟩ | ⟨hw', rfl, rfl⟩
  · have gen : (∃ c, Aq Γ ro.d ro.op ⟨e, h⟩ = some (c, r, ⟨e, h1⟩) ∧ c) → ∀ id x, A7 h id = some x → A7 h1 id = some x := by
      rintro ⟨c, hs, hc⟩ id x hx
      rcases qDK hn hs hc with h2 | ⟨q, h2, h3⟩
      · simp only at h2; rw [h2]; exact hx
      · simp only at h2; rw [h2]
        have : ro.d ≠ id := fun e => by rw [e, hx] at h3; cases h3
        simp [A7, this, hx]
    cases hop : ro.op with
    | call f args => rw [hop] at hn; simp [Cj.isNew] at hn
    | callv f args => rw [hop] at hn; simp [Cj.isNew] at hn
    | hcall => rw [hop] at hn; simp [Cj.isNew] at hn
    | ncall => rw [hop] at hn; simp [Cj.isNew] at hn
    | callT => rw [hop] at hn; simp [Cj.isNew] at hn
    | rcall => rw [hop] at hn; simp [Cj.isNew] at hn
    | _ => exact gen (by simpa only [Ep, hop] using ha)
  · exact fun id x h => h
theorem q8L {dst : Option Nat} {k : Nat} (hd : dst ≠ some k) : A7 (St.put ⟨e, h⟩ dst r).env k = A7 e k := by
  cases dst with
  | none => rfl
  | some t =>
    have : t ≠ k := fun e => hd (e ▸ rfl)
    simp [St.put, A7, this]
theorem qEn {dst : Option Nat} : (St.put ⟨e, h⟩ dst r).hp = h := by cases dst <;> rfl
theorem qAR {dst : Option Nat} : St.put ⟨e, h⟩ dst r = ⟨(St.put ⟨e, h⟩ dst r).env, h⟩ := by cases dst <;> rfl
theorem B9.newF (hn : ro.op.isNew = true) (hs : B9 P Γ ro ⟨e, h⟩ r h1) : (h1 = h ∧ ∀ h', B9 P Γ ro ⟨e, h'⟩ r h') ∨ ∃ q, A7 h ro.d = none ∧ h1 = (ro.d, q) :: h ∧ ∀ h', A7 h' ro.d = none → B9 P Γ ro ⟨e, h'⟩ r ((ro.d, q) :: h') := by
  rcases hs with ⟨hw, ha⟩ | ⟨hw, rfl, rfl⟩
  · have gen : (∃ c, Aq Γ ro.d ro.op ⟨e, h⟩ = some (c, r, ⟨e, h1⟩) ∧ c) → (∀ h' h2, (∃ c, Aq Γ ro.d ro.op ⟨e, h'⟩ = some (c, r, ⟨e, h2⟩) ∧ c) → Ep P Γ ro.d ro.op ⟨e, h'⟩ r ⟨e, h2⟩) →
        (h1 = h ∧ ∀ h', B9 P Γ ro ⟨e, h'⟩ r h') ∨ ∃ q, A7 h ro.d = none ∧ h1 = (ro.d, q) :: h ∧ ∀ h', A7 h' ro.d = none → B9 P Γ ro ⟨e, h'⟩ r ((ro.d, q) :: h') := by
      rintro ⟨c, hs, hc⟩ back
      rcases q8K hn hs hc with ⟨h2, h3⟩ | ⟨q, h2, h3, h4⟩
      · exact .inl ⟨h2, fun h' => .inl ⟨hw, back _ _ (h3 h')⟩⟩
      · exact .inr ⟨q, h2, h3, fun h' hh => .inl ⟨hw, back _ _ (h4 h' hh)⟩⟩
    cases hop : ro.op with
    | call f args => rw [hop] at hn; simp [Cj.isNew] at hn
    | callv f args => rw [hop] at hn; simp [Cj.isNew] at hn
    | hcall => rw [hop] at hn; simp [Cj.isNew] at hn
    | ncall => rw [hop] at hn; simp [Cj.isNew] at hn
    | callT => rw [hop] at hn; simp [Cj.isNew] at hn
    | rcall => rw [hop] at hn; simp [Cj.isNew] at hn
    | _ => exact gen (by simpa only [Ep, hop] using ha) (fun h' h2 hq => by simpa only [Ep, hop] using hq)
  · exact .inl ⟨rfl, fun h' => .inr ⟨hw, rfl, rfl⟩⟩
theorem q3u {base : Nat} {hp : List (Nat × Bj)} : ∀ {hp' : List (Nat × Bj)}, okB [] base hp hp' → ∀ p ∈ Jw [] base hp', A7 hp p.1 = none
  | [], _, p, hp' => by cases hp'
  | (j, r) :: l, ho, p, hm => by
    simp only [Jw] at hm
    have h0 := ho.1
    split at hm
    · rename_i hj
      rw [if_pos hj] at h0
      rcases List.mem_cons.1 hm with rfl | hm
      · exact h0.1
      · exact q3u ho.2 p hm
    · exact q3u ho.2 p hm
theorem q2p {base : Nat} {hp hq : List (Nat × Bj)} : ∀ {hp' : List (Nat × Bj)}, okB [] base hp hp' → (∀ p ∈ Jw [] base hp', A7 hq p.1 = none) → okB [] base hq hp'
  | [], _, _ => trivial
  | (j, r) :: l, ho, hf => by
    have h0 := ho.1
    by_cases hj : j < 1000000
    · rw [if_pos hj] at h0
      refine ⟨by rw [if_pos hj]; exact ⟨hf (base + j, Cd (fun i => some (bwd [] base i)) r) (by simp only [Jw, hj, if_true]; exact List.mem_cons_self), h0.2⟩, q2p ho.2 fun p hp => hf p (by simp only [Jw, hj, if_true]; exact List.mem_cons_of_mem _ hp)⟩
    · rw [if_neg hj] at h0
      simp at h0
theorem B9.newG (hn : ro.op.isN = true) (hs : B9 P Γ ro ⟨e, h⟩ r h1) : ∃ L, h1 = L ++ h ∧ (∀ p ∈ L, A7 h p.1 = none) ∧ ∀ h', (∀ p ∈ L, A7 h' p.1 = none) → B9 P Γ ro ⟨e, h'⟩ r (L ++ h') := by
  by_cases ho : ∃ f args base, ro.op = .ncall f args base
  · obtain ⟨f, args, base, ho⟩ := ho
    rcases hs with ⟨hw, ha⟩ | ⟨hw, rfl, rfl⟩
    · simp only [Ep, ho] at ha
      obtain ⟨as, res, hp', h2, h3, h4, h5, h6⟩ := ha
      simp only [St.mk.injEq, true_and] at h6
      refine ⟨Jw [] base hp', h6, q3u h4, fun h' hf => .inl ⟨hw, ?_⟩⟩
      simp only [Ep, ho]
      exact ⟨as, res, hp', h2, h3, q2p h4 hf, h5, rfl⟩
    · exact ⟨[], rfl, by simp, fun h' _ => .inr ⟨hw, rfl, rfl⟩⟩
  · have hn' : ro.op.isNew = true := by
      cases hop : ro.op with
      | ncall f args base => exact absurd ⟨_, _, _, hop⟩ ho
      | _ => rw [hop] at hn; exact hn
    rcases hs.newF hn' with ⟨h2, h3⟩ | ⟨q, h2, h3, h4⟩
    · exact ⟨[], h2, by simp, fun h' _ => h3 h'⟩
    · exact ⟨[(ro.d, q)], h3, by simpa using h2, fun h' hf => h4 h' (hf (ro.d, q) List.mem_cons_self)⟩
theorem Ym {L : List (Nat × Bj)} {t : Nat} (hl : ∀ p ∈ L, p.1 ≠ t) : A7 L t = none := by
  induction L with
  | nil => rfl
  | cons p L ih =>
    obtain ⟨k, q⟩ := p
    simp only [A7]
    rw [if_neg (hl (k, q) List.mem_cons_self)]
    exact ih fun p hp => hl p (List.mem_cons_of_mem _ hp)
theorem q6X {L : List (Nat × Bj)} {p : Nat × Bj} (hp : p ∈ L) : A7 L p.1 ≠ none := by
  induction L with
  | nil => cases hp
  | cons q L ih =>
    obtain ⟨k, r⟩ := q
    simp only [A7]
    split
    · simp
    · rename_i hk
      rcases List.mem_cons.1 hp with rfl | hp
      · exact absurd rfl hk
      · exact ih hp
theorem B9.newN (hn : ro.op.isN = true) (hs : B9 P Γ ro ⟨e, h⟩ r h1) : ∀ id x, A7 h id = some x → A7 h1 id = some x := by
  obtain ⟨L, rfl, hf, _⟩ := hs.newG hn
  intro id x hx
  have : A7 L id = none := Ym fun p hp e => by
    have := hf p hp
    rw [e, hx] at this; cases this
  rw [Ds, this, Option.none_or]; exact hx
theorem qDO (hn : x.op.isN = true) (hn' : y.op.isN = true) (hx : B9 P Γ x ⟨e, h⟩ r1 h1) (hy : B9 P Γ y ⟨e, h1⟩ r2 h2) : ∃ h3 h4, B9 P Γ y ⟨e, h⟩ r2 h3 ∧ B9 P Γ x ⟨e, h3⟩ r1 h4 ∧ ∀ k, A7 h4 k = A7 h2 k := by
  obtain ⟨L, rfl, hf, fx⟩ := hx.newG hn
  obtain ⟨M, rfl, hg, fy⟩ := hy.newG hn'
  have hLM : ∀ p ∈ M, A7 L p.1 = none ∧ A7 h p.1 = none := fun p hp => by
    have := hg p hp
    rw [Ds] at this
    cases hl : A7 L p.1 with
    | some q => rw [hl] at this; cases this
    | none => rw [hl, Option.none_or] at this; exact ⟨rfl, this⟩
  have hML : ∀ p ∈ L, A7 M p.1 = none := fun p hp => Ym fun q hq e => by
    have := (hLM q hq).1
    rw [e] at this
    exact q6X hp this
  refine ⟨M ++ h, L ++ (M ++ h), fy h fun p hp => (hLM p hp).2, fx _ fun p hp => by rw [Ds, hML p hp, Option.none_or]; exact hf p hp, fun k => ?_⟩
  simp only [Ds]
  cases hl : A7 L k with
  | none => simp
  | some q =>
    cases hm : A7 M k with
    | none => simp
    | some p =>
      exfalso
      have : ∃ p ∈ M, p.1 = k := by
        by_cases he : ∃ p ∈ M, p.1 = k
        · exact he
        · rw [Ym fun p hp e => he ⟨p, hp, e⟩] at hm; cases hm
      obtain ⟨p, hp, rfl⟩ := this
      have := (hLM p hp).1
      rw [hl] at this; cases this
theorem B9.stF {i n : Nat} {a x : Operand} (ho : ro.op = .stR i n a x) (hs : B9 P Γ ro ⟨e, h⟩ r h1) : (h1 = h ∧ ∀ h', B9 P Γ ro ⟨e, h'⟩ r h') ∨
    ∃ q q', A7 h i = some q ∧ q'.sh = q.sh ∧ h1 = Fq i q' h ∧ ∀ h', A7 h' i = some q → B9 P Γ ro ⟨e, h'⟩ r (Fq i q' h') := by
  rcases hs with ⟨hw, ha⟩ | ⟨hw, rfl, rfl⟩
  · simp only [Ep, ho] at ha
    obtain ⟨c, hs, hc⟩ := ha
    obtain ⟨q, q', h2, h3, h4, h5⟩ := qAP hs hc
    exact .inr ⟨q, q', h2, h3, h4, fun h' hh => .inl ⟨hw, by simp only [Ep, ho]; exact h5 h' hh⟩⟩
  · exact .inl ⟨rfl, fun h' => .inr ⟨hw, rfl, rfl⟩⟩
theorem B9.ldF {i n : Nat} {g : Bool} {a : Operand} (ho : ro.op = .ldR i n g a) (hs : B9 P Γ ro ⟨e, h⟩ r h1) : h1 = h ∧ ∀ h', A7 h' i = A7 h i → B9 P Γ ro ⟨e, h'⟩ r h' := by
  refine ⟨hs.same (by rw [ho]; exact Nat.le_refl _), fun h' hh => ?_⟩
  rcases hs with ⟨hw, ha⟩ | ⟨hw, rfl, rfl⟩
  · simp only [Ep, ho] at ha
    obtain ⟨c, hs, hc⟩ := ha
    exact .inl ⟨hw, by simp only [Ep, ho]; exact ⟨c, qDM hs hh, hc⟩⟩
  · exact .inr ⟨hw, rfl, rfl⟩
theorem B9.iaF {s0 : Nat} {x i : Operand} (ho : ro.op = .iadr s0 x i) (hs : B9 P Γ ro ⟨e, h⟩ r h1) : h1 = h ∧ ∀ h', (∀ k, (A7 h' k).map Bj.sh = (A7 h k).map Bj.sh) → B9 P Γ ro ⟨e, h'⟩ r h' := by
  refine ⟨hs.same (by rw [ho]; exact Nat.le_refl _), fun h' hh => ?_⟩
  rcases hs with ⟨hw, ha⟩ | ⟨hw, rfl, rfl⟩
  · simp only [Ep, ho] at ha
    obtain ⟨c, hs, hc⟩ := ha
    exact .inl ⟨hw, by simp only [Ep, ho]; exact ⟨c, qDN hs hh, hc⟩⟩
  · exact .inr ⟨hw, rfl, rfl⟩
theorem qAS {i : Nat} {q q' : Bj} (hq : A7 h i = some q) (he : q'.sh = q.sh) (k : Nat) : (A7 (Fq i q' h) k).map Bj.sh = (A7 h k).map Bj.sh := by
  rw [E7]
  split
  · rename_i e; subst e; simp [hq, he]
  · rfl
theorem qC4 (hc : qC0 x y = true) (hx : B9 P Γ x ⟨e, h⟩ r1 h1) (hy : B9 P Γ y ⟨e, h1⟩ r2 h2) : ∃ h3 h4, B9 P Γ y ⟨e, h⟩ r2 h3 ∧ B9 P Γ x ⟨e, h3⟩ r1 h4 ∧ ∀ k, A7 h4 k = A7 h2 k := by
  have newst : ∀ {j n : Nat} {a v : Operand}, x.op.isNew = true → y.op = .stR j n a v → j ≠ x.d → ∃ h3 h4, B9 P Γ y ⟨e, h⟩ r2 h3 ∧ B9 P Γ x ⟨e, h3⟩ r1 h4 ∧ ∀ k, A7 h4 k = A7 h2 k := by
    intro j n a v hn ho hne
    rcases hx.newF hn with ⟨rfl, fx⟩ | ⟨q, hq, rfl, fx⟩
    · exact ⟨h2, h2, hy, fx h2, fun k => rfl⟩
    · rcases hy.stF ho with ⟨rfl, fy⟩ | ⟨p, p', hp, hs, rfl, fy⟩
      · exact ⟨h, _, fy h, fx h hq, fun k => rfl⟩
      · have hp' : A7 h j = some p := by simpa [A7, Ne.symm hne] using hp
        refine ⟨_, _, fy h hp', fx _ (by rw [E7, if_neg (Ne.symm hne)]; exact hq), fun k => ?_⟩
        simp only [A7, E7]
        by_cases h1 : x.d = k
        · have : ¬ k = j := fun e => hne (e.symm.trans h1.symm)
          simp [h1, this]
        · by_cases h2 : k = j
          · subst h2; simp [h1]
          · simp [h1, h2]
  have stnew : ∀ {j n : Nat} {a v : Operand}, y.op.isNew = true → x.op = .stR j n a v → j ≠ y.d → ∃ h3 h4, B9 P Γ y ⟨e, h⟩ r2 h3 ∧ B9 P Γ x ⟨e, h3⟩ r1 h4 ∧ ∀ k, A7 h4 k = A7 h2 k := by
    intro j n a v hn ho hne
    rcases hx.stF ho with ⟨rfl, fx⟩ | ⟨p, p', hp, hs, rfl, fx⟩
    · exact ⟨h2, h2, hy, fx h2, fun k => rfl⟩
    · rcases hy.newF hn with ⟨rfl, fy⟩ | ⟨q, hq, rfl, fy⟩
      · exact ⟨h, _, fy h, fx h hp, fun k => rfl⟩
      · have hq' : A7 h y.d = none := by rw [E7, if_neg (Ne.symm hne)] at hq; exact hq
        refine ⟨_, _, fy h hq', fx _ (by simp [A7, Ne.symm hne, hp]), fun k => ?_⟩
        simp only [A7, E7]
        by_cases h1 : y.d = k
        · have : ¬ k = j := fun e => hne (e.symm.trans h1.symm)
          simp [h1, this]
        · by_cases h2 : k = j
          · subst h2; simp [h1]
          · simp [h1, h2]
  have newnew : x.op.isNew = true → y.op.isNew = true → x.d ≠ y.d → ∃ h3 h4, B9 P Γ y ⟨e, h⟩ r2 h3 ∧ B9 P Γ x ⟨e, h3⟩ r1 h4 ∧ ∀ k, A7 h4 k = A7 h2 k := by
    intro hn hn' hne
    rcases hx.newF hn with ⟨rfl, fx⟩ | ⟨q, hq, rfl, fx⟩
    · exact ⟨h2, h2, hy, fx h2, fun k => rfl⟩
    · rcases hy.newF hn' with ⟨rfl, fy⟩ | ⟨p, hp, rfl, fy⟩
      · exact ⟨h, _, fy h, fx h hq, fun k => rfl⟩
      · have hp' : A7 h y.d = none := by simpa [A7, hne] using hp
        refine ⟨_, _, fy h hp', fx _ (by simp [A7, Ne.symm hne, hq]), fun k => ?_⟩
        simp only [A7]
        by_cases h1 : x.d = k
        · have : ¬ y.d = k := fun e => hne (h1.trans e.symm)
          simp [h1, this]
        · simp [h1]
  unfold qC0 at hc
  split at hc
  · rename_i i n a v j n' a' v' ox oy
    have hne : i ≠ j := by simpa using hc
    rcases hx.stF ox with ⟨rfl, fx⟩ | ⟨q, q', hq, hs, rfl, fx⟩
    · exact ⟨h2, h2, hy, fx h2, fun k => rfl⟩
    · rcases hy.stF oy with ⟨rfl, fy⟩ | ⟨p, p', hp, hs', rfl, fy⟩
      · exact ⟨h, _, fy h, fx h hq, fun k => rfl⟩
      · have hp' : A7 h j = some p := by rw [E7, if_neg (Ne.symm hne)] at hp; exact hp
        refine ⟨_, _, fy h hp', fx _ (by rw [E7, if_neg hne]; exact hq), fun k => ?_⟩
        simp only [E7]
        by_cases h1 : k = i
        · subst h1; simp [hne]
        · by_cases h2 : k = j
          · subst h2; simp [h1]
          · simp [h1, h2]
  · rename_i i n a v j n' g' a' ox oy
    have hne : i ≠ j := by simpa using hc
    obtain ⟨rfl, fy⟩ := hy.ldF oy
    rcases hx.stF ox with ⟨rfl, fx⟩ | ⟨q, q', hq, hs, rfl, fx⟩
    · exact ⟨_, _, hy, hx, fun k => rfl⟩
    · exact ⟨h, _, fy h (by rw [E7, if_neg (Ne.symm hne)]), hx, fun k => rfl⟩
  · rename_i i n g a j n' a' v' ox oy
    have hne : i ≠ j := by simpa using hc
    obtain ⟨rfl, fx⟩ := hx.ldF ox
    rcases hy.stF oy with ⟨rfl, fy⟩ | ⟨p, p', hp, hs', rfl, fy⟩
    · exact ⟨_, _, hy, hx, fun k => rfl⟩
    · exact ⟨_, _, hy, fx _ (by rw [E7, if_neg hne]), fun k => rfl⟩
  · rename_i i n a v s0 x' i' ox oy
    obtain ⟨rfl, fy⟩ := hy.iaF oy
    rcases hx.stF ox with ⟨rfl, fx⟩ | ⟨q, q', hq, hs, rfl, fx⟩
    · exact ⟨_, _, hy, hx, fun k => rfl⟩
    · exact ⟨h, _, fy h (fun k => (qAS hq hs k).symm), hx, fun k => rfl⟩
  · rename_i s0 x' i' i n a v ox oy
    obtain ⟨rfl, fx⟩ := hx.iaF ox
    rcases hy.stF oy with ⟨rfl, fy⟩ | ⟨p, p', hp, hs', rfl, fy⟩
    · exact ⟨_, _, hy, hx, fun k => rfl⟩
    · exact ⟨_, _, hy, fx _ (qAS hp hs'), fun k => rfl⟩
  · simp only [Bool.and_eq_true] at hc
    exact stnew hc.1 (by assumption) (by simpa using hc.2)
  · simp only [Bool.and_eq_true] at hc
    exact newst hc.1 (by assumption) (by simpa using hc.2)
  · simp only [Bool.and_eq_true] at hc
    exact newnew hc.1.1 hc.1.2 (by simpa using hc.2)
theorem qDP {fz : Bool} {ty s0 d dx : Nat} {b v : Operand} {av : AV} (hs : Aq Γ d (.app fz ty s0 b v) ⟨(dx, av) :: e, h⟩ = some (c, r, st1)) (hb : ev Γ ((dx, av) :: e) b = ev Γ e b) (hv : ev Γ ((dx, av) :: e) v = ev Γ e v) :
    ∃ F : AV → AV, st1.env = ((dx, av) :: e).map (fun p => (p.1, F p.2)) ∧ Aq Γ d (.app fz ty s0 b v) ⟨e, h⟩ = some (c, r, ⟨e.map fun p => (p.1, F p.2), st1.hp⟩) := by
  have idm : ∀ l : List (Nat × AV), l.map (fun p => (p.1, id p.2)) = l := fun l => by simp
  simp only [Aq, hb, hv] at hs ⊢
  revert hs
  cases ev Γ e v with
  | none => simp
  | some ax =>
    simp only [Option.bind_some]
    cases Bq h ax with
    | none => simp
    | some news =>
      simp only [Option.bind_some]
      cases ev Γ e b with
      | none => simp
      | some a =>
        simp only [Option.bind_some]
        intro hs
        split at hs
        · split at hs <;> simp only [Option.some.injEq, Prod.mk.injEq] at hs <;> obtain ⟨rfl, rfl, rfl⟩ := hs
          · exact ⟨id, (idm _).symm, by rw [idm, if_pos (by assumption)]⟩
          · exact ⟨id, (idm _).symm, by rw [idm, if_neg (by assumption)]⟩
        · split at hs
          case h_2 => cases hs
          split at hs <;> simp only [Option.some.injEq, Prod.mk.injEq] at hs <;> obtain ⟨rfl, rfl, rfl⟩ := hs
          · exact ⟨id, (idm _).symm, by rw [idm, if_pos (by assumption)]⟩
          · exact ⟨id, (idm _).symm, by rw [idm, if_neg (by assumption)]⟩
        · split at hs
          case h_2 => cases hs
          rename_i id0 len _ _ _ _ _
          split at hs <;> simp only [Option.some.injEq, Prod.mk.injEq] at hs <;> obtain ⟨rfl, rfl, rfl⟩ := hs
          · exact ⟨Ff _, rfl, by rw [if_pos (by assumption)]; rfl⟩
          · exact ⟨Ff _, rfl, by rw [if_neg (by assumption)]; rfl⟩
        · cases hs
theorem q8M (hc : qC1 x y = true) (hx : U2 P Γ x st s) (hy : U2 P Γ y s s2) : ∃ t t2, U2 P Γ y st t ∧ U2 P Γ x t t2 ∧ F2 s2 t2 := by
  obtain ⟨dst1, op1, g1, id1⟩ := x
  obtain ⟨dst2, op2, g2, id2⟩ := y
  unfold qC1 at hc
  split at hc
  case h_2 => cases hc
  rename_i a fz ty s0 b v dx dy ox oy e1 e2
  simp only at ox oy e1 e2
  subst ox; subst oy; subst e1; subst e2
  simp only [Bool.and_eq_true, Option.isNone_iff_eq_none, bne_iff_ne, ne_eq] at hc
  obtain ⟨⟨⟨⟨⟨rfl, rfl⟩, hb⟩, hv⟩, hda⟩, hdd⟩ := hc
  obtain ⟨e, h⟩ := st
  simp only [U2, Jx, reduceCtorEq, Option.some.injEq, Bool.true_eq_false, false_and, or_false, true_and] at hx hy
  obtain ⟨r1, st1, ⟨c1, hs1, hc1⟩, rfl⟩ := hx
  obtain ⟨r2, st2, ⟨c2, hs2, hc2⟩, rfl⟩ := hy
  simp only [Aq, ev, Option.map_eq_some_iff, Prod.mk.injEq] at hs1
  obtain ⟨av, hav, rfl, rfl, rfl⟩ := hs1
  have evne : ∀ {o : Operand}, (match o with | .tmp t => t != dx | _ => true) = true → ev Γ ((dx, av) :: e) o = ev Γ e o := fun {o} ho => by
    cases o with
    | tmp t =>
      simp only [bne_iff_ne, ne_eq] at ho
      simp only [ev, A7]
      rw [if_neg (fun h => ho h.symm)]
    | _ => rfl
  obtain ⟨F, h1, h2⟩ := qDP (d := RO.d ⟨some dy, .app fz ty s0 b v, none, id2⟩) hs2 (evne hb) (evne hv)
  refine ⟨⟨(dy, r2) :: e.map fun p => (p.1, F p.2), st2.hp⟩, ⟨(dx, F av) :: (dy, r2) :: e.map fun p => (p.1, F p.2), st2.hp⟩, .inl ⟨rfl, r2, _, ⟨c2, h2, hc2⟩, rfl⟩, .inl ⟨rfl, F av, ⟨(dy, r2) :: e.map fun p => (p.1, F p.2), st2.hp⟩, ⟨True, ?_, trivial⟩, rfl⟩, fun k => ?_, fun k => rfl⟩
  · simp only [Aq, ev, A7]
    rw [if_neg hda, N8 F, hav]
    rfl
  · show A7 ((dx, F av) :: (dy, r2) :: _) k = A7 ((dy, r2) :: st2.env) k
    rw [h1]
    simp only [A7, List.map_cons]
    by_cases h3 : dx = k
    · subst h3
      rw [if_pos rfl, if_neg hdd, if_pos rfl]
    · rw [if_neg h3]
      simp only [if_neg h3]
theorem q9f (hc : q9d x y = true) (hx : U2 P Γ x st s) (hy : U2 P Γ y s s2) : ∃ t t2, U2 P Γ y st t ∧ U2 P Γ x t t2 ∧ F2 s2 t2 := by
  rw [q9d, Bool.or_eq_true] at hc
  rcases hc with hc | hc
  · exact q8M hc hx hy
  simp only [Bool.and_eq_true, Bool.or_eq_true, decide_eq_true_eq, beq_iff_eq] at hc
  obtain ⟨⟨⟨⟨kx, ky⟩, kk⟩, c1⟩, c2⟩ := hc
  obtain ⟨e, h⟩ := st
  obtain ⟨r, h1, h2, rfl⟩ := qAQ kx hx
  obtain ⟨r', h3, h4, rfl⟩ := qAQ ky hy
  have ry : ∀ t ∈ y.reads, x.dst ≠ some t := by
    intro t ht he
    rw [he] at c1
    simp only [Bool.and_eq_true, Bool.not_eq_true', List.contains_eq_mem, decide_eq_false_iff_not] at c1
    exact c1.1 ht
  have rx : ∀ t ∈ x.reads, y.dst ≠ some t := by
    intro t ht he
    rw [he] at c2
    simp only [Bool.not_eq_true', List.contains_eq_mem, decide_eq_false_iff_not] at c2
    exact c2 ht
  have xy : ∀ t, x.dst = some t → y.dst ≠ some t := by
    intro t he hy'
    rw [he, hy'] at c1
    simp at c1
  rw [qAR] at h4
  have h5 : B9 P Γ y ⟨e, h1⟩ r' h3 := h4.env ky fun t ht => (q8L (ry t ht)).symm
  have key : ∃ hm he, B9 P Γ y ⟨e, h⟩ r' hm ∧ B9 P Γ x ⟨e, hm⟩ r he ∧ ∀ k, A7 he k = A7 h3 k := by
    rcases kk with (kk | kk) | kk
    · refine ⟨if x.op.kd ≤ 1 then h3 else h, h3, ?_, ?_, fun k => rfl⟩
      all_goals
        by_cases k1 : x.op.kd ≤ 1
        · rw [if_pos k1]
          have := h2.same k1; subst this
          first
          | exact h5
          | (rcases kk with ((k0 | k0) | k0) | k0
             · exact h2.hp k0
             · have := h5.same (by omega); subst this; exact h2
             · have := h5.same k0.2; subst this; exact h2
             · exact h2.add (h5.newN k0.2) k1)
        · rw [if_neg k1]
          have k0 : y.op.kd = 0 := by
            rcases kk with ((k0 | k0) | k0) | k0
            · omega
            · exact k0
            · omega
            · omega
          have := h5.same (by omega); subst this
          first
          | exact h2
          | exact h5.hp k0
    · exact qDO kk.1 kk.2 h2 h5
    · exact qC4 kk h2 h5
  obtain ⟨hm, he, key1, key2, key3⟩ := key
  have h6 : B9 P Γ x ⟨(St.put ⟨e, hm⟩ y.dst r').env, hm⟩ r he := key2.env kx fun t ht => q8L (rx t ht)
  have h7 := h6.step
  rw [← qAR] at h7
  refine ⟨_, _, key1.step, h7, fun k => ?_, fun k => by simp only [qEn]; exact key3 k⟩
  cases hxd : x.dst <;> cases hyd : y.dst <;> simp only [St.put]
  rename_i a b
  have hne : b ≠ a := fun e => xy a hxd (e ▸ hyd)
  simp only [A7]
  by_cases h1 : a = k
  · have : b ≠ k := fun e => hne (e.trans h1.symm)
    simp [h1, this]
  · simp [h1]
def q07 (a b : St) : Prop := (∀ k, A7 b.env k = A7 a.env k) ∧ b.hp = a.hp
theorem q08 {a b : St} {dst : Option Nat} (h : F2 a b) : F2 (a.put dst r) (b.put dst r) := by
  cases dst with
  | none => exact h
  | some t =>
    refine ⟨fun k => ?_, h.2⟩
    simp only [St.put, A7]
    split
    · rfl
    · exact h.1 k
theorem q7Z (hl : q07 st st') (hs : Ep P Γ d io st r s) : ∃ s', Ep P Γ d io st' r s' ∧ q07 s s' := by
  obtain ⟨e, h⟩ := st
  obtain ⟨e', h'⟩ := st'
  obtain ⟨hl1, hl2⟩ := hl
  simp only at hl1 hl2; subst hl2
  have hev : ∀ o, ev Γ e' o = ev Γ e o := by
    intro o
    cases o with
    | tmp t => exact hl1 t
    | _ => rfl
  by_cases hk : io.kd ≤ 2
  · have := q3t hk (fun o _ => hev o) hs
    refine ⟨_, this.2, fun k => ?_, rfl⟩
    rw [this.1]; exact hl1 k
  · cases io
    case hcall f args rs base =>
      obtain ⟨as, res, hp', h1, h2, h3, h4, rfl, rfl⟩ := hs
      refine ⟨_, ⟨as, res, hp', (Ly fun o _ => hev o).trans h1, h2, h3, h4, rfl, rfl⟩, fun k => ?_, rfl⟩
      have := hl1 k
      simp only [Lu, N8 (Bm (q3p rs hp')), this]
    case cpy s0 x y =>
      obtain ⟨c, hs, hc⟩ := hs
      simp only [Aq] at hs
      split at hs
      case h_2 => cases hs
      rename_i id off len cap f1
      split at hs
      case h_2 => cases hs
      rename_i ty2 q es f2
      obtain ⟨news, hn, he⟩ := Option.map_eq_some_iff.1 hs
      simp only [Prod.mk.injEq] at he
      obtain ⟨rfl, rfl, rfl⟩ := he
      exact ⟨⟨e', _⟩, ⟨_, by simp only [Aq, hev, f1, f2, hn, Option.map_some], hc⟩, hl1, rfl⟩
    case app fz ty s0 b x =>
      obtain ⟨c, hs, hc⟩ := hs
      simp only [Aq] at hs
      revert hs
      cases hx : ev Γ e x with
      | none => simp
      | some ax =>
        simp only [Option.bind_some]
        cases hn : Bq h' ax with
        | none => simp
        | some news =>
          simp only [Option.bind_some]
          cases hb : ev Γ e b with
          | none => simp
          | some a =>
            simp only [Option.bind_some]
            have fin : ∀ {c0 : Prop} {es : List (List T)} {t t' : St}, q07 t t' →
                (if fz = true then some (Dz s0 news ∧ c0, AV.t (T.sl es none none), t) else some ((Dz s0 news ∧ c0) ∧ A7 t.hp d = none, AV.ls d 0 es.length none, (⟨t.env, (d, Bj.sl ty s0 es) :: t.hp⟩ : St))) = some (c, r, s) →
                ∃ s', (if fz = true then some (Dz s0 news ∧ c0, AV.t (T.sl es none none), t') else some ((Dz s0 news ∧ c0) ∧ A7 t'.hp d = none, AV.ls d 0 es.length none, (⟨t'.env, (d, Bj.sl ty s0 es) :: t'.hp⟩ : St))) = some (c, r, s') ∧ q07 s s' := by
              intro c0 es t t' hl hq
              obtain ⟨h1, h2⟩ := hl
              split at hq
              · rename_i hf
                simp only [Option.some.injEq, Prod.mk.injEq] at hq
                obtain ⟨rfl, rfl, rfl⟩ := hq
                rw [if_pos hf]
                exact ⟨t', rfl, h1, h2⟩
              · rename_i hf
                simp only [Option.some.injEq, Prod.mk.injEq] at hq
                obtain ⟨rfl, rfl, rfl⟩ := hq
                rw [if_neg hf, h2]
                exact ⟨_, rfl, h1, rfl⟩
            have out : ∀ {s'}, Aq Γ d (.app fz ty s0 b x) ⟨e', h'⟩ = some (c, r, s') → q07 s s' → ∃ s', Ep P Γ d (.app fz ty s0 b x) ⟨e', h'⟩ r s' ∧ q07 s s' := fun h1 h2 => ⟨_, ⟨c, h1, hc⟩, h2⟩
            have hst : q07 ⟨e, h'⟩ ⟨e', h'⟩ := ⟨hl1, rfl⟩
            have hki : ∀ id, q07 (St.kill id ⟨e, h'⟩) (St.kill id ⟨e', h'⟩) := by
              intro id
              refine ⟨fun k => ?_, rfl⟩
              have := hl1 k
              simp only [St.kill, N8 (Ff id), this]
            split
            · intro hq
              obtain ⟨s', h1, h2⟩ := fin hst hq
              exact out (s' := s') (by simp only [Aq, hev, hx, hn, hb, Option.bind_some]; exact h1) h2
            · split
              · intro hq
                rename_i hlk
                obtain ⟨s', h1, h2⟩ := fin hst hq
                exact out (s' := s') (by simp only [Aq, hev, hx, hn, hb, Option.bind_some, hlk]; exact h1) h2
              · simp
            · split
              · intro hq
                rename_i hlk
                obtain ⟨s', h1, h2⟩ := fin (hki _) hq
                exact out (s' := s') (by simp only [Aq, hev, hx, hn, hb, Option.bind_some, hlk]; exact h1) h2
              · simp
            · simp
    all_goals simp [Cj.kd] at hk
    all_goals (split at hk <;> simp at hk)
theorem q1X (hl : ∀ k, A7 h' k = A7 h k) (a : AV) : Bq h' a = Bq h a := by
  unfold Bq
  split <;> simp only [hl]
theorem Pe (hl : ∀ k, A7 h' k = A7 h k) (i : Nat) (q : Bj) : ∀ k, A7 (Fq i q h') k = A7 (Fq i q h) k := fun k => by simp only [E7, hl]
theorem q9g (hl : ∀ k, A7 h' k = A7 h k) (i : Nat) : ∀ k, A7 (St.kill i ⟨e, h'⟩).hp k = A7 (St.kill i ⟨e, h⟩).hp k := fun k => by simp only [Xa, hl]
theorem q7a (hl : ∀ k, A7 h' k = A7 h k) (hs : Ep P Γ d io ⟨e, h⟩ r s) : ∃ s', Ep P Γ d io ⟨e, h'⟩ r s' ∧ F2 s s' := by
  by_cases hk : io.kd ≤ 1
  · have h1 := q5f hk hs
    subst h1
    exact ⟨_, q6y (fun id x hx => (hl id).trans hx) hk hs, fun _ => rfl, hl⟩
  have cons : ∀ (d : Nat) (q : Bj) (k : Nat), A7 ((d, q) :: h') k = A7 ((d, q) :: h) k := fun d q k => by simp only [A7, hl]
  by_cases hn : io.isNew = true
  · have gen : (∃ c, Aq Γ d io ⟨e, h⟩ = some (c, r, s) ∧ c) → ∃ s', (∃ c, Aq Γ d io ⟨e, h'⟩ = some (c, r, s') ∧ c) ∧ F2 s s' := by
      rintro ⟨c, hs, hc⟩
      have hen : s.env = e := by
        have := q5D (Γ := Γ) (d := d) (e := e) (e' := e) (h := h) (io := io) (by cases io <;> simp [Cj.isNew, Cj.kd] at hn ⊢ <;> split <;> omega) (fun _ _ => rfl)
        rw [hs] at this
        simp only [Option.map_some, Option.some.injEq, Prod.mk.injEq] at this
        rw [this.2.2]
      rcases q8K hn hs hc with ⟨h2, h3⟩ | ⟨q, h2, h3, h4⟩
      · exact ⟨_, h3 h', fun k => by rw [hen], fun k => by rw [h2]; exact hl k⟩
      · exact ⟨_, h4 h' ((hl d).trans h2), fun k => by rw [hen], fun k => by rw [h3]; exact cons d q k⟩
    cases io with
    | call f args => simp [Cj.isNew] at hn
    | callv f args => simp [Cj.isNew] at hn
    | hcall => simp [Cj.isNew] at hn
    | ncall => simp [Cj.isNew] at hn
    | callT => simp [Cj.isNew] at hn
    | rcall => simp [Cj.isNew] at hn
    | _ => exact gen hs
  cases io
  all_goals try (simp [Cj.kd] at hk; done)
  all_goals try (simp [Cj.isNew] at hn; done)
  case store n a x =>
    obtain ⟨c, hs, hc⟩ := hs
    simp only [Aq, Option.bind_eq_some_iff] at hs
    obtain ⟨v, hv, hs⟩ := hs
    split at hs
    case h_2 => cases hs
    rename_i id i k ha
    split at hs
    · rename_i ty s0 es hq
      simp only [Option.map_eq_some_iff, Prod.mk.injEq] at hs
      obtain ⟨ts, hts, rfl, rfl, rfl⟩ := hs
      exact ⟨⟨e, Fq id _ h'⟩, ⟨_, by simp only [Aq, hv, ha, hl, hq, hts, Option.bind_some, Option.map_some], hc⟩, fun _ => rfl, Pe hl _ _⟩
    · rename_i cs hq
      simp only [Option.some.injEq, Prod.mk.injEq] at hs
      obtain ⟨rfl, rfl, rfl⟩ := hs
      exact ⟨⟨e, Fq id _ h'⟩, ⟨_, by simp only [Aq, hv, ha, hl, hq, Option.bind_some], hc⟩, fun _ => rfl, Pe hl _ _⟩
    · cases hs
  case stR id n a x =>
    obtain ⟨c, hs, hc⟩ := hs
    have hen : s.env = e := by
      have := q5D (Γ := Γ) (d := d) (e := e) (e' := e) (h := h) (io := .stR id n a x) (by simp [Cj.kd]) (fun _ _ => rfl)
      rw [hs] at this
      simp only [Option.map_some, Option.some.injEq, Prod.mk.injEq] at this
      rw [this.2.2]
    obtain ⟨q, q', h2, h3, h4, h5⟩ := qAP hs hc
    exact ⟨_, h5 h' ((hl id).trans h2), fun k => by rw [hen], fun k => by rw [h4]; exact Pe hl _ _ k⟩
  case mup kt m k x =>
    obtain ⟨c, hs, hc⟩ := hs
    simp only [Aq] at hs
    split at hs
    case h_2 => cases hs
    rename_i kv id e1 e2
    split at hs
    case h_2 => cases hs
    rename_i es hq
    simp only [Option.map_eq_some_iff, Prod.mk.injEq] at hs
    obtain ⟨t, ht, rfl, rfl, rfl⟩ := hs
    exact ⟨⟨e, Fq id _ h'⟩, ⟨_, by simp only [Aq, e1, e2, hl, hq, ht, Option.map_some], hc⟩, fun _ => rfl, Pe hl _ _⟩
  case nxt x =>
    obtain ⟨c, hs, hc⟩ := hs
    simp only [Aq] at hs
    split at hs
    case h_2 => cases hs
    rename_i id e1
    split at hs
    case h_2 => cases hs
    rename_i b pos hq
    split at hs <;> rename_i hp <;> simp only [Option.some.injEq, Prod.mk.injEq] at hs <;> obtain ⟨rfl, rfl, rfl⟩ := hs
    · exact ⟨⟨e, Fq id _ h'⟩, ⟨True, by simp only [Aq, e1, hl, hq, hp, ↓reduceIte], trivial⟩, fun _ => rfl, Pe hl _ _⟩
    · exact ⟨⟨e, h'⟩, ⟨True, by simp only [Aq, e1, hl, hq, hp, ↓reduceIte], trivial⟩, fun _ => rfl, hl⟩
  case hcall f args rs base =>
    obtain ⟨as, res, hp', h1, h2, h3, h4, rfl, rfl⟩ := hs
    have hh : H5 rs h' = H5 rs h := by simp only [H5, hl]
    have hb : ∀ l, okB rs base h l → okB rs base h' l := by
      intro l
      induction l with
      | nil => exact fun h => h
      | cons p l ih => intro hq; obtain ⟨j, q⟩ := p; simp only [okB, hl] at hq ⊢; exact ⟨hq.1, ih hq.2⟩
    refine ⟨_, ⟨as, res, hp', h1, h2, by simp only [hh]; exact h3, hb _ h4, rfl, rfl⟩, fun k => rfl, fun k => ?_⟩
    simp only [Lu, Ds, q1D, hl]
  case ncall f args base =>
    obtain ⟨as, res, hp', h1, h2, h3, h4, rfl⟩ := hs
    have hb : ∀ l, okB [] base h l → okB [] base h' l := by
      intro l
      induction l with
      | nil => exact fun h => h
      | cons p l ih => intro hq; obtain ⟨j, q⟩ := p; simp only [okB, hl] at hq ⊢; exact ⟨hq.1, ih hq.2⟩
    exact ⟨_, ⟨as, res, hp', h1, h2, hb _ h3, h4, rfl⟩, fun k => rfl, fun k => by simp only [Ds, hl]⟩
  case cpy s0 x y =>
    obtain ⟨c, hs, hc⟩ := hs
    simp only [Aq] at hs
    split at hs
    case h_2 => cases hs
    rename_i id off len cap f1
    split at hs
    case h_2 => cases hs
    rename_i ty2 q es f2
    obtain ⟨news, hn, he⟩ := Option.map_eq_some_iff.1 hs
    simp only [Prod.mk.injEq] at he
    obtain ⟨rfl, rfl, rfl⟩ := he
    obtain ⟨ay, fy, fe⟩ := Option.bind_eq_some_iff.1 hn
    exact ⟨⟨e, Fq id _ h'⟩, ⟨_, by simp only [Aq, f1, hl, f2, fy, Option.bind_some, (q1X hl ay).trans fe, Option.map_some], hc⟩, fun _ => rfl, Pe hl _ _⟩
  case app fz ty s0 b x =>
    obtain ⟨c, hs, hc⟩ := hs
    simp only [Aq] at hs
    revert hs
    cases hx : ev Γ e x with
    | none => simp
    | some ax =>
      simp only [Option.bind_some]
      cases hn : Bq h ax with
      | none => simp
      | some news =>
        have hn' := (q1X hl ax).trans hn
        simp only [Option.bind_some]
        cases hb : ev Γ e b with
        | none => simp
        | some a =>
          simp only [Option.bind_some]
          have fin : ∀ {c0 : Prop} {es : List (List T)} {t t' : St}, F2 t t' →
              (if fz = true then some (Dz s0 news ∧ c0, AV.t (T.sl es none none), t) else some ((Dz s0 news ∧ c0) ∧ A7 t.hp d = none, AV.ls d 0 es.length none, (⟨t.env, (d, Bj.sl ty s0 es) :: t.hp⟩ : St))) = some (c, r, s) →
              ∃ c' s', (if fz = true then some (Dz s0 news ∧ c0, AV.t (T.sl es none none), t') else some ((Dz s0 news ∧ c0) ∧ A7 t'.hp d = none, AV.ls d 0 es.length none, (⟨t'.env, (d, Bj.sl ty s0 es) :: t'.hp⟩ : St))) = some (c', r, s') ∧ c' ∧ F2 s s' := by
            intro c0 es t t' hl hq
            obtain ⟨h1, h2⟩ := hl
            split at hq
            · rename_i hf
              simp only [Option.some.injEq, Prod.mk.injEq] at hq
              obtain ⟨rfl, rfl, rfl⟩ := hq
              rw [if_pos hf]
              exact ⟨_, t', rfl, hc, h1, h2⟩
            · rename_i hf
              simp only [Option.some.injEq, Prod.mk.injEq] at hq
              obtain ⟨rfl, rfl, rfl⟩ := hq
              rw [if_neg hf]
              exact ⟨_, _, rfl, ⟨hc.1, by rw [h2]; exact hc.2⟩, h1, fun k => by simp only [A7, h2]⟩
          have out : ∀ {c' s'}, Aq Γ d (.app fz ty s0 b x) ⟨e, h'⟩ = some (c', r, s') → c' → F2 s s' → ∃ s', Ep P Γ d (.app fz ty s0 b x) ⟨e, h'⟩ r s' ∧ F2 s s' := fun h1 h2 h3 => ⟨_, ⟨_, h1, h2⟩, h3⟩
          have hst : F2 ⟨e, h⟩ ⟨e, h'⟩ := ⟨fun _ => rfl, hl⟩
          have hki : ∀ id, F2 (St.kill id ⟨e, h⟩) (St.kill id ⟨e, h'⟩) := fun id => ⟨fun k => rfl, q9g hl id⟩
          split
          · intro hq
            obtain ⟨c', s', h1, h2, h3⟩ := fin hst hq
            exact out (s' := s') (by simp only [Aq, hx, hn', hb, Option.bind_some]; exact h1) h2 h3
          · split
            · intro hq
              rename_i hlk
              obtain ⟨c', s', h1, h2, h3⟩ := fin hst hq
              exact out (s' := s') (by simp only [Aq, hx, hn', hb, Option.bind_some, (hl _).trans hlk]; exact h1) h2 h3
            · simp
          · split
            · intro hq
              rename_i hlk
              obtain ⟨c', s', h1, h2, h3⟩ := fin (hki _) hq
              exact out (s' := s') (by simp only [Aq, hx, hn', hb, Option.bind_some, (hl _).trans hlk]; exact h1) h2 h3
            · simp
          · simp
  all_goals (simp only [Cj.kd] at hk; split at hk <;> simp [Cj.isNew] at hn hk)
theorem q8N (hl : F2 st st') (hs : Ep P Γ d io st r s) : ∃ s', Ep P Γ d io st' r s' ∧ F2 s s' := by
  obtain ⟨e, h⟩ := st
  obtain ⟨e', h'⟩ := st'
  obtain ⟨s1, h1, h2⟩ := q7a (h' := h') hl.2 hs
  obtain ⟨s2, h3, h4⟩ := q7Z (st := ⟨e, h'⟩) (st' := ⟨e', h'⟩) ⟨hl.1, rfl⟩ h1
  exact ⟨s2, h3, h2.trans ⟨h4.1, fun k => by rw [h4.2]⟩⟩
theorem q8O (hl : F2 st st') (hs : U2 P Γ ro st s) : ∃ s', U2 P Γ ro st' s' ∧ F2 s s' := by
  have hw : Jx st'.env ro.guard = Jx st.env ro.guard := by
    cases hg : ro.guard with
    | none => rfl
    | some gb => simp only [Jx, hl.1 gb.1]
  rcases hs with ⟨hw', r, st1, hx, rfl⟩ | ⟨hw', rfl⟩
  · obtain ⟨s', h1, h2⟩ := q8N hl hx
    exact ⟨_, .inl ⟨hw.trans hw', r, s', h1, rfl⟩, q08 h2⟩
  · exact ⟨_, .inr ⟨hw.trans hw', rfl⟩, q08 hl⟩
theorem q2q : ∀ {ros : List RO} {st st' s : St}, F2 st st' → Nh P Γ ros st s → ∃ s', Nh P Γ ros st' s' ∧ F2 s s'
  | [], st, st', s, hl, hs => by simp only [Nh] at hs; subst hs; exact ⟨st', rfl, hl⟩
  | ro :: ros, st, st', s, hl, hs => by
    obtain ⟨t, h1, h2⟩ := hs
    obtain ⟨t', h3, h4⟩ := q8O hl h1
    obtain ⟨s', h5, h6⟩ := q2q h4 h2
    exact ⟨s', ⟨t', h3, h5⟩, h6⟩
theorem qC5 {y : RO} {l2 : List RO} : ∀ {l1 : List RO} {st s : St}, (∀ x ∈ l1, q9d x y = true) → Nh P Γ (l1 ++ y :: l2) st s → ∃ s', Nh P Γ (y :: (l1 ++ l2)) st s' ∧ F2 s s'
  | [], st, s, _, hs => ⟨s, hs, F2.rfl'⟩
  | x :: l1, st, s, hc, hs => by
    obtain ⟨t, h1, h2⟩ := hs
    obtain ⟨s1, ⟨t2, h3, h4⟩, hl⟩ := qC5 (fun z hz => hc z (List.mem_cons_of_mem _ hz)) h2
    obtain ⟨u, u2, h5, h6, hl2⟩ := q9f (hc x List.mem_cons_self) h1 h3
    obtain ⟨s2, h7, hl3⟩ := q2q hl2 h4
    exact ⟨s2, ⟨u, h5, u2, h6, h7⟩, hl.trans hl3⟩
end
end Go.Lg
namespace Go.Lg
open Go
def Z8 (o : Oper) : List Nat := o.after.toList.filterMap fun e => if Region.binds .any e then some e.on else none
def q9h (ms : List Nat) (es : List Nat) : Nat := es.foldl (fun m k => m ||| 2 ^ k ||| ms.getD k 0) 0
def q09 : List Oper → List Nat → List Nat
  | [], ms => ms
  | o :: os, ms => q09 os (ms ++ [q9h ms (Z8 o)])
structure Pt where
  i : Nat
  ro : RO
  m : Nat
def pts : Nat → List RO → List Nat → List Pt
  | i, ro :: ros, m :: ms => ⟨i, ro, m⟩ :: pts (i + 1) ros ms
  | _, _, _ => []
def q5E : List Pt → Bool
  | [] => true
  | p :: l => (l.all fun q => q.m.testBit p.i || q9d p.ro q.ro) && q5E l
def q5F : Nat → List Oper → Bool
  | _, [] => true
  | i, o :: os => (Z8 o).all (· < i) && q5F (i + 1) os
def q9i (ros : List RO) (ops : List Oper) : Bool := q5F 0 ops && q5E (pts 0 ros (q09 ops []))
def q9j (ops : List Oper) (listed : Nat → Bool) : Prop := ∀ (k : Nat) (o : Oper), listed k = true → ops[k]? = some o → ∀ e ∈ Z8 o, listed e = true
def q5g (ops : List Oper) (es : List Nat) (m : Nat) : Prop := ∀ listed, q9j ops listed → (∀ e ∈ es, listed e = true) → ∀ i, m.testBit i = true → listed i = true
theorem qBC {ops : List Oper} {ms : List Nat} (hms : ∀ (k m : Nat) (o : Oper), ms[k]? = some m → ops[k]? = some o → q5g ops (Z8 o) m) (hlen : ms.length ≤ ops.length) {es : List Nat} : q5g ops es (q9h ms es) := by
  have key : ∀ (es : List Nat) (m0 : Nat) listed, q9j ops listed → (∀ e ∈ es, listed e = true) → (∀ i, m0.testBit i = true → listed i = true) → ∀ i, (es.foldl (fun m k => m ||| 2 ^ k ||| ms.getD k 0) m0).testBit i = true → listed i = true := by
    intro es
    induction es with
    | nil => intro m0 listed _ _ h0 i hi; exact h0 i hi
    | cons k es ih =>
      intro m0 listed hc he h0 i hi
      rw [List.foldl_cons] at hi
      refine ih _ listed hc (fun e h => he e (List.mem_cons_of_mem _ h)) (fun i hi => ?_) i hi
      simp only [Nat.testBit_or, Bool.or_eq_true] at hi
      rcases hi with (hi | hi) | hi
      · exact h0 i hi
      · rw [Nat.testBit_two_pow] at hi
        simp at hi; subst hi; exact he _ List.mem_cons_self
      · cases hk : ms[k]? with
        | none => simp [List.getD, hk] at hi
        | some m =>
          simp only [List.getD, hk, Option.getD_some] at hi
          have hlt : k < ops.length := Nat.lt_of_lt_of_le (List.getElem?_eq_some_iff.1 hk).1 hlen
          exact hms k m _ hk (List.getElem?_eq_getElem hlt) listed hc (fun e he' => hc k _ (he k List.mem_cons_self) (List.getElem?_eq_getElem hlt) e he') i hi
  intro listed hc he i hi
  exact key es 0 listed hc he (by simp) i hi
theorem q8P {ops : List Oper} : ∀ {os : List Oper} {ms : List Nat} {done : List Oper}, ops = done ++ os → ms.length = done.length → (∀ (k m : Nat) (o : Oper), ms[k]? = some m → ops[k]? = some o → q5g ops (Z8 o) m) →
    (q09 os ms).length = ops.length ∧ ∀ (k m : Nat) (o : Oper), (q09 os ms)[k]? = some m → ops[k]? = some o → q5g ops (Z8 o) m
  | [], ms, done, h1, h2, h3 => ⟨by simp [q09, h1, h2], h3⟩
  | o :: os, ms, done, h1, h2, h3 => by
    refine q8P (os := os) (ms := ms ++ [q9h ms (Z8 o)]) (done := done ++ [o]) (by simp [h1]) (by simp [h2]) ?_
    intro k m o' hm ho
    rw [List.getElem?_append] at hm
    split at hm
    · exact h3 k m o' hm ho
    · rename_i hk
      have hk' : k = ms.length := by
        have := (List.getElem?_eq_some_iff.1 hm).1
        simp at this; omega
      subst hk'
      simp only [Nat.sub_self, List.getElem?_cons_zero, Option.some.injEq] at hm
      subst hm
      have : o' = o := by
        rw [h1, h2] at ho
        simpa using ho.symm
      subst this
      exact qBC h3 (by simp [h1, h2])
theorem q5h : ∀ {os : List Oper} {i : Nat}, q5F i os = true → ∀ (k : Nat) (o : Oper), os[k]? = some o → ∀ e ∈ Z8 o, e < i + k
  | [], i, _, k, o, hk => by simp at hk
  | o :: os, i, h, k, o', hk => by
    simp only [q5F, Bool.and_eq_true, List.all_eq_true, decide_eq_true_eq] at h
    cases k with
    | zero => simp only [List.getElem?_cons_zero, Option.some.injEq] at hk; subst hk; exact h.1
    | succ k =>
      intro e he
      have := q5h h.2 k o' (by simpa using hk) e he
      omega
theorem q5i : ∀ {l : List Pt}, q5E l = true → l.Pairwise fun p q => q.m.testBit p.i = true ∨ q9d p.ro q.ro = true
  | [], _ => .nil
  | p :: l, h => by
    simp only [q5E, Bool.and_eq_true, List.all_eq_true, Bool.or_eq_true] at h
    exact .cons h.1 (q5i h.2)
theorem qAT : ∀ {ros : List RO} {ms : List Nat} {i : Nat}, ros.length = ms.length → (pts i ros ms).map (·.ro) = ros ∧ (pts i ros ms).map (·.i) = List.range' i ros.length ∧
    ∀ p ∈ pts i ros ms, i ≤ p.i ∧ ms[p.i - i]? = some p.m ∧ ros[p.i - i]? = some p.ro
  | [], [], i, _ => by simp [pts]
  | [], _ :: _, i, h => by simp at h
  | _ :: _, [], i, h => by simp at h
  | ro :: ros, m :: ms, i, h => by
    obtain ⟨h1, h2, h3⟩ := qAT (ros := ros) (ms := ms) (i := i + 1) (by simpa using h)
    refine ⟨by simp [pts, h1], by simp [pts, h2, List.range'_succ], ?_⟩
    intro p hp
    simp only [pts, List.mem_cons] at hp
    rcases hp with rfl | hp
    · simp
    · obtain ⟨h4, h5, h6⟩ := h3 p hp
      have : p.i - i = (p.i - (i + 1)) + 1 := by omega
      exact ⟨by omega, by rw [this]; simpa using h5, by rw [this]; simpa using h6⟩
theorem q6z {P : Program} {N : Nat} {ops : List Oper} : ∀ {ros : List RO} {os : List Oper}, q05 P N ops ros os = true → ros.length = os.length ∧ ∀ (k : Nat) (ro : RO) (o : Oper), ros[k]? = some ro → os[k]? = some o → q7Y P N ops ro o = true
  | [], [], _ => by simp
  | [], _ :: _, h => by simp [q05] at h
  | _ :: _, [], h => by simp [q05] at h
  | ro :: ros, o :: os, h => by
    simp only [q05, Bool.and_eq_true] at h
    obtain ⟨h1, h2⟩ := q6z h.2
    refine ⟨by simp [h1], fun k ro' o' h3 h4 => ?_⟩
    cases k with
    | zero => simp at h3 h4; subst h3; subst h4; exact h.1
    | succ k => exact h2 k ro' o' (by simpa using h3) (by simpa using h4)
theorem F2.symm {a b : St} (h : F2 a b) : F2 b a := ⟨fun k => (h.1 k).symm, fun k => (h.2 k).symm⟩
section
variable {P : Program} {Γ : Tables} {w0 : World} {B : Nat} {κ : D6} {X0 X : Nat → Prop} {st st1 : St} {N : Nat} {a : Act} {w : World} {Q : Exit → Act → World → Prop}
theorem Inv.alike (h : Inv Γ w0 B κ X0 N st a w) (hl : F2 st st1) : Inv Γ w0 B κ X0 N st1 a w := by
  obtain ⟨X, μ, h1, h2⟩ := h
  exact ⟨X, μ, h1.alike hl, h2⟩
theorem qDQ {ops : List Oper} (hN : N ≤ 1000000) (hlt : ∀ (k : Nat) (o : Oper), ops[k]? = some o → ∀ e ∈ Z8 o, e < k) :
    ∀ (fuel : Nat) (listed : Array Bool) (ps : List Pt) (st s : St) (a : Act) (w : World), Inv Γ w0 B κ X0 N st a w → (ps.Pairwise fun p q => p.i < q.i) → (∀ i, listed.getD i true = false ↔ ∃ p ∈ ps, p.i = i) → listed.size = ops.length →
      q9j ops (fun i => listed.getD i false) → (ps.Pairwise fun p q => q.m.testBit p.i = true ∨ q9d p.ro q.ro = true) → (∀ p ∈ ps, ∃ o, ops[p.i]? = some o ∧ q7Y P N ops p.ro o = true ∧ q5g ops (Z8 o) p.m) → ps.length ≤ fuel →
      Nh P Γ (ps.map (·.ro)) st s → (∀ a' w', Inv Γ w0 B κ X0 N s a' w' → Q .normal a' w') → wpAny P .any ops.toArray Q fuel listed a w := by
  intro fuel
  induction fuel with
  | zero =>
    intro listed ps st s a w hI hsort hun hsz hcl hpr hps hlen hst hQ
    have : ps = [] := List.eq_nil_of_length_eq_zero (by omega)
    subst this
    refine ⟨List.eq_nil_iff_forall_not_mem.2 fun j hj => ?_, ?_⟩
    · have := (hun j).1 (mem_ready.1 hj).1
      simp at this
    · simp only [List.map_nil, Nh] at hst; subst hst
      exact hQ a w hI
  | succ fuel ih =>
    intro listed ps st s a w hI hsort hun hsz hcl hpr hps hlen hst hQ
    have hedge : ∀ {o : Oper} {e : Edge}, e ∈ o.after → Region.binds .any e = true → e.on ∈ Z8 o := by
      intro o e he hb
      exact List.mem_filterMap.2 ⟨e, by simpa using he, by rw [if_pos hb]⟩
    have hedge' : ∀ {o : Oper} {k : Nat}, k ∈ Z8 o → ∃ e ∈ o.after, Region.binds .any e = true ∧ e.on = k := by
      intro o k hk
      obtain ⟨e, he, hb⟩ := List.mem_filterMap.1 hk
      split at hb
      · exact ⟨e, by simpa using he, by assumption, by simpa using hb⟩
      · cases hb
    refine ⟨fun hnil => ?_, fun i hi => ?_⟩
    · cases ps with
      | nil => simp only [List.map_nil, Nh] at hst; subst hst; exact hQ a w hI
      | cons p ps =>
        exfalso
        obtain ⟨o, ho, _, _⟩ := hps p List.mem_cons_self
        have : p.i ∈ Region.ready .any ops.toArray listed := by
          refine mem_ready.2 ⟨(hun p.i).2 ⟨p, List.mem_cons_self, rfl⟩, o, by simpa using ho, fun e he hb => ?_⟩
          have h1 := hlt p.i o ho e.on (hedge he hb)
          have h2 : p.i < ops.length := (List.getElem?_eq_some_iff.1 ho).1
          have h3 : listed.getD e.on true = true := by
            cases hq : listed.getD e.on true with
            | true => rfl
            | false =>
              obtain ⟨q, hq, hqi⟩ := (hun e.on).1 hq
              rcases List.mem_cons.1 hq with rfl | hq
              · omega
              · have := (List.pairwise_cons.1 hsort).1 q hq
                omega
          have h4 : e.on < listed.size := by omega
          simpa [Array.getD, h4] using h3
        rw [hnil] at this; cases this
    · obtain ⟨hi0, o, ho, hall⟩ := mem_ready.1 hi
      have ho' : ops[i]? = some o := by simpa using ho
      obtain ⟨p, hp, rfl⟩ := (hun i).1 hi0
      obtain ⟨l1, l2, rfl⟩ := List.append_of_mem hp
      obtain ⟨o2, ho2, hch, hmk⟩ := hps p hp
      rw [ho'] at ho2; cases ho2
      have hdone : ∀ i, p.m.testBit i = true → listed.getD i false = true := hmk _ hcl (fun e he => by
        obtain ⟨e', he', hb, rfl⟩ := hedge' he
        exact hall e' he' hb)
      have hsort' := List.pairwise_append.1 hsort
      have hpr' := List.pairwise_append.1 hpr
      have hcm : ∀ x ∈ l1.map (·.ro), q9d x p.ro = true := by
        intro x hx
        obtain ⟨q, hq, rfl⟩ := List.mem_map.1 hx
        rcases hpr'.2.2 q hq p List.mem_cons_self with hb | hb
        · have h1 := hdone _ hb
          have h2 : listed.getD q.i true = false := (hun q.i).2 ⟨q, List.mem_append_left _ hq, rfl⟩
          have : q.i < listed.size := by
            rcases Nat.lt_or_ge q.i listed.size with h' | h'
            · exact h'
            · rw [Array.getD_eq_getD_getElem?, Array.getElem?_eq_none h'] at h2; simp at h2
          rw [Array.getD_eq_getD_getElem?, Array.getElem?_eq_getElem this] at h1 h2
          simp only [Option.getD_some] at h1 h2
          rw [h1] at h2; cases h2
        · exact hb
      rw [List.map_append, List.map_cons] at hst
      obtain ⟨s', ⟨t, hs1, hs2⟩, hl⟩ := qC5 hcm hst
      unfold wpOp
      simp only [ho]
      refine q5e hI hN hch hs1 fun a' w' hI' => ?_
      have hne : ∀ q ∈ l1 ++ l2, q.i ≠ p.i := by
        intro q hq
        rcases List.mem_append.1 hq with hq | hq
        · have := hsort'.2.2 q hq p List.mem_cons_self; omega
        · have := (List.pairwise_cons.1 hsort'.2.1).1 q hq; omega
      have hsub : (l1 ++ l2).Sublist (l1 ++ p :: l2) := List.Sublist.append_left (List.sublist_cons_self _ _) _
      have hpi : p.i < listed.size := by rw [hsz]; exact (List.getElem?_eq_some_iff.1 ho').1
      refine ih (listed.setIfInBounds p.i true) (l1 ++ l2) t s' a' w' hI' (hsort.sublist hsub) ?_ (by simpa using hsz) ?_ (hpr.sublist hsub) (fun q hq => hps q (hsub.subset hq)) (by simp at hlen ⊢; omega) (by rw [List.map_append]; exact hs2) (fun a' w' h => hQ a' w' (h.alike hl.symm))
      · intro j
        by_cases hj : p.i = j
        · subst hj
          refine ⟨fun h => ?_, fun ⟨q, hq, he⟩ => absurd he (hne q hq)⟩
          simp [Array.getD, hpi] at h
        · rw [getD_set_ne true hj, hun j]
          constructor
          · rintro ⟨q, hq, rfl⟩
            refine ⟨q, ?_, rfl⟩
            rcases List.mem_append.1 hq with hq | hq
            · exact List.mem_append_left _ hq
            · rcases List.mem_cons.1 hq with rfl | hq
              · exact absurd rfl hj
              · exact List.mem_append_right _ hq
          · rintro ⟨q, hq, rfl⟩
            exact ⟨q, hsub.subset hq, rfl⟩
      · intro k ok hk hok e he
        by_cases hkp : p.i = k
        · subst hkp
          rw [ho'] at hok; cases hok
          obtain ⟨e', he', hb, rfl⟩ := hedge' he
          exact getD_set_true (hall e' he' hb)
        · have hk2 : listed.getD k false = true := by
            have : (listed.setIfInBounds p.i true).getD k false = true := hk
            rwa [getD_set_ne false hkp] at this
          exact getD_set_true (hcl k ok hk2 hok e he)
theorem q9k {ops : List Oper} {ros : List RO} {s : St} (hN : N ≤ 1000000) (hI : Inv Γ w0 B κ X0 N st a w) (hc : q05 P N ops ros ops = true) (hd : q9i ros ops = true) (hs : Nh P Γ ros st s)
    (hQ : ∀ a' w', Inv Γ w0 B κ X0 N s a' w' → Q .normal a' w') : wpAny P .any ops.toArray Q ops.toArray.size (Array.replicate ops.toArray.size false) a w := by
  simp only [q9i, Bool.and_eq_true] at hd
  obtain ⟨hlen, hch⟩ := q6z hc
  obtain ⟨hml, hmk⟩ := q8P (ops := ops) (os := ops) (ms := []) (done := []) rfl rfl (by simp)
  obtain ⟨h1, h2, h3⟩ := qAT (ros := ros) (ms := q09 ops []) (i := 0) (by rw [hml, hlen])
  have hmem : ∀ p ∈ pts 0 ros (q09 ops []), p.i < ops.length := by
    intro p hp
    have := (List.getElem?_eq_some_iff.1 (h3 p hp).2.2).1
    omega
  refine qDQ hN (fun k o ho e he => by have := q5h hd.1 k o ho e he; omega) _ _ (pts 0 ros (q09 ops [])) st s a w hI ?_ ?_ (by simp) ?_ (q5i hd.2) ?_ ?_ (by rw [h1]; exact hs) hQ
  · have : ((pts 0 ros (q09 ops [])).map (·.i)).Pairwise (· < ·) := by rw [h2]; exact List.pairwise_lt_range'
    exact List.pairwise_map.1 this
  · intro i
    constructor
    · intro h
      have hi : i < ops.length := by
        rcases Nat.lt_or_ge i ops.length with h' | h'
        · exact h'
        · simp [Array.getD, Nat.not_lt.2 h'] at h
      have : i ∈ (pts 0 ros (q09 ops [])).map (·.i) := by rw [h2, List.mem_range'_1]; omega
      obtain ⟨p, hp, he⟩ := List.mem_map.1 this
      exact ⟨p, hp, he⟩
    · rintro ⟨p, hp, rfl⟩
      simp [Array.getD, hmem p hp]
  · intro k o hk
    exfalso
    simp only [Array.getD] at hk
    split at hk <;> simp at hk
  · intro p hp
    obtain ⟨_, h5, h6⟩ := h3 p hp
    have hlt := hmem p hp
    exact ⟨ops[p.i], List.getElem?_eq_getElem hlt, hch _ _ _ h6 (List.getElem?_eq_getElem hlt), hmk _ _ _ h5 (List.getElem?_eq_getElem hlt)⟩
  · have : (pts 0 ros (q09 ops [])).length = ros.length := by
      have := congrArg List.length h1
      simpa using this
    simp [this, hlen]
end
end Go.Lg
namespace Go.Lg
open Go
def Bj.closed : Bj → Bool
  | .bx cs => cs.all fun | .t _ => true | _ => false
  | _ => true
def frz0 (id : Nat) (r : Bj) : AV → AV
  | .ls i off len cap => if i = id then (match Ai [(id, r)] 4 (.ls id off len cap) with | some t => .t t | none => .dead) else .ls i off len cap
  | .lp i a k => if i = id then (match Ai [(id, r)] 4 (.lp id a k) with | some t => .t t | none => .dead) else .lp i a k
  | .lm i => if i = id then (match Ai [(id, r)] 4 (.lm id) with | some t => .t t | none => .dead) else .lm i
  | .lb i m => if i = id then (match Ai [(id, r)] 4 (.lb id m) with | some t => .t t | none => .dead) else .lb i m
  | .li i => if i = id then .dead else .li i
  | .fn f [] => .fn f []
  | .fn _ (_ :: _) => .dead
  | a => a
def frz1 (id : Nat) (r : Bj) : AV → AV
  | .fn f cs => if cs.all qBv then .fn f (cs.map (frz0 id r)) else .dead
  | a => frz0 id r a
def Ej (id : Nat) (r : Bj) : AV → AV
  | .ag cs => .ag (cs.map (frz1 id r))
  | a => frz1 id r a
def Ni (id : Nat) (r : Bj) : Bj → Bj
  | .bx cs => .bx (cs.map (Ej id r))
  | q => q
def St.freeze (id : Nat) (st : St) : St := match A7 st.hp id with
  | some r => if r.closed then ⟨st.env.map fun p => (p.1, Ej id r p.2), (del id st.hp).map fun p => (p.1, Ni id r p.2)⟩ else st
  | none => st
section
variable {P : Program} {Γ : Tables} {w0 : World} {B : Nat} {κ : D6} {X : Nat → Prop} {μ : D6} {st : St} {tm : Array Value} {w : World} {id : Nat} {r : Bj}
theorem Bo.lone (h : Bo w0 B κ X μ st tm w) (hl : A7 st.hp id = some r) (hc : r.closed = true) : Bo w0 B κ X μ ⟨[], [(id, r)]⟩ tm w := by
  have hsh : ∀ i, St.sh ⟨[], [(id, r)]⟩ i ≠ none → i = id ∧ st.sh i ≠ none := by
    intro i hi
    by_cases e : i = id
    · subst e; exact ⟨rfl, by simp [Eo hl]⟩
    · simp [St.sh, A7, Ne.symm e] at hi
  refine ⟨fun t a ht => by simp [A7] at ht, ?_, fun i j g n n' hi hj => h.inj i j g n n' (hsh i hi).2 (hsh j hj).2, fun i g n hi => h.loc i g n (hsh i hi).2, fun i hk hi => h.kap i hk (hsh i hi).2, h.kbig, h.xlt, h.os, h.tape, h.output, h.size, h.fr⟩
  intro i q hq
  simp only [A7] at hq
  split at hq
  · rename_i e; subst e
    simp only [Option.some.injEq] at hq; subst hq
    have := h.reg id _ hl
    cases r with
    | sl ty s es => exact this
    | mp es => exact this
    | it s pos => exact this
    | bx cs =>
      obtain ⟨h1, g, arr, ty, hm, hg, hle, hr⟩ := this
      refine ⟨h1, g, arr, ty, hm, hg, hle, fun k a x ha hx => ?_⟩
      have := List.all_eq_true.1 hc a (List.mem_of_getElem? ha)
      have h2 := hr k a x ha hx
      cases a <;> simp at this
      exact .t _ _ h2.t_inv
  · cases hq
variable {sh' : Nat → Option Sh}
theorem AR.frz0 (h : Bo w0 B κ X μ st tm w) (hl : A7 st.hp id = some r) (hc : r.closed = true) (hsh : ∀ i q, i ≠ id → st.sh i = some q → sh' i = some q) {a : AV} {x : Value} (ha : AR w X μ st.sh a x) (hna : ∀ cs, a ≠ .ag cs) :
    AR w (fun b => X b ∨ ∃ n, μ id = some (b, n)) μ sh' (frz0 id r a) x := by
  have hX : ∀ b, X b → X b ∨ ∃ n, μ id = some (b, n) := fun b hb => .inl hb
  have hS : Same X w w := fun _ _ => rfl
  have hlone := h.lone hl hc
  have hshid : St.sh ⟨[], [(id, r)]⟩ id = st.sh id := by rw [Eo hl]; simp [St.sh, A7]
  have conv : ∀ {a : AV} {x : Value} {t : T}, AR w X μ (St.sh ⟨[], [(id, r)]⟩) a x → Ai [(id, r)] 4 a = some t → TR w (fun b => X b ∨ ∃ n, μ id = some (b, n)) t x := by
    intro a x t ha hr
    refine (q5b hlone 4 ha hr).mono (fun _ _ => rfl) (fun b hb => ?_)
    rcases hb with hb | ⟨i, n, hi, hm⟩
    · exact .inl hb
    · have : i = id := by
        by_cases e : i = id
        · exact e
        · simp [St.sh, A7, Ne.symm e] at hi
      subst this; exact .inr ⟨n, hm⟩
  cases ha with
  | t y v hy => exact .t _ _ (hy.mono hS hX)
  | lsnil i s n hs hm oa cap hq =>
    simp only [Lg.frz0]; split
    · rename_i e; subst e
      split
      · rename_i t ht; exact .t _ _ (conv (.lsnil i s n (hshid.trans hs) hm oa cap hq) ht)
      · exact .dead _ rfl
    · rename_i hne; exact .lsnil i s n (hsh _ _ hne hs) hm oa cap hq
  | ls i off len s n g m c cap hs hm hle hlc hcm hfit hfull hq ad had =>
    simp only [Lg.frz0]; split
    · rename_i e; subst e
      split
      · rename_i t ht; exact .t _ _ (conv (.ls i off len s n g m c cap (hshid.trans hs) hm hle hlc hcm hfit hfull hq ad had) ht)
      · exact .dead _ rfl
    · rename_i hne; exact .ls i off len s n g m c cap (hsh _ _ hne hs) hm hle hlc hcm hfit hfull hq ad had
  | lpsl i j k s n g m hs hm =>
    simp only [Lg.frz0]; split
    · rename_i e; subst e
      split
      · rename_i t ht; exact .t _ _ (conv (.lpsl i j k s n g m (hshid.trans hs) hm) ht)
      · exact .dead _ rfl
    · rename_i hne; exact .lpsl i j k s n g m (hsh _ _ hne hs) hm
  | lpbx i k g m hs hm =>
    simp only [Lg.frz0]; split
    · rename_i e; subst e
      split
      · rename_i t ht; exact .t _ _ (conv (.lpbx i k g m (hshid.trans hs) hm) ht)
      · exact .dead _ rfl
    · rename_i hne; exact .lpbx i k g m (hsh _ _ hne hs) hm
  | lm i g m hs hm =>
    simp only [Lg.frz0]; split
    · rename_i e; subst e
      split
      · rename_i t ht; exact .t _ _ (conv (.lm i g m (hshid.trans hs) hm) ht)
      · exact .dead _ rfl
    · rename_i hne; exact .lm i g m (hsh _ _ hne hs) hm
  | lb i g m hs hm hle =>
    simp only [Lg.frz0]; split
    · rename_i e; subst e
      split
      · rename_i t ht; exact .t _ _ (conv (.lb i g m (hshid.trans hs) hm hle) ht)
      · exact .dead _ rfl
    · rename_i hne; exact .lb i g m (hsh _ _ hne hs) hm hle
  | li i g m hs hm =>
    simp only [Lg.frz0]; split
    · exact .dead _ rfl
    · rename_i hne; exact .li i g m (hsh _ _ hne hs) hm
  | fn f cs xs hlen hrel =>
    cases cs with
    | nil => exact .fn f [] xs hlen (fun k a x h => by simp at h)
    | cons c cs => exact .dead _ rfl
  | dead v h => exact .dead _ h
  | un => exact .un
  | ag cs xs => exact absurd rfl (hna cs)
theorem AR.frz1 (h : Bo w0 B κ X μ st tm w) (hl : A7 st.hp id = some r) (hc : r.closed = true) (hsh : ∀ i q, i ≠ id → st.sh i = some q → sh' i = some q) {a : AV} {x : Value} (ha : AR w X μ st.sh a x) (hna : ∀ cs, a ≠ .ag cs) :
    AR w (fun b => X b ∨ ∃ n, μ id = some (b, n)) μ sh' (frz1 id r a) x := by
  by_cases hf : ∃ f cs, a = .fn f cs
  · obtain ⟨f, cs, rfl⟩ := hf
    simp only [Lg.frz1]
    split
    · rename_i hall
      cases ha with
      | fn f cs xs hlen hrel =>
        refine .fn f _ xs (by simpa using hlen) fun k a x ha hx => ?_
        simp only [List.getElem?_map, Option.map_eq_some_iff] at ha
        obtain ⟨b, hb, rfl⟩ := ha
        refine (hrel k b x hb hx).frz0 h hl hc hsh fun cs e => ?_
        have := List.all_eq_true.1 hall b (List.mem_of_getElem? hb)
        rw [e] at this; cases this
    · cases ha; exact .dead _ rfl
  · have e : Lg.frz1 id r a = Lg.frz0 id r a := by cases a <;> first | rfl | exact absurd ⟨_, _, rfl⟩ hf
    rw [e]; exact ha.frz0 h hl hc hsh hna
theorem q0A {a : AV} (h : a.one = true) : (frz0 id r a).one = true := by
  have key : ∀ a : AV, a.one = true → (∀ x, a ≠ .t x) → (match Ai [(id, r)] 4 a with | some t => AV.t t | none => .dead).one = true := by
    intro a h1 _
    split
    · rename_i t ht; exact q6v h1 ht
    · rfl
  cases a with
  | fn f cs => cases cs <;> rfl
  | ag cs => simp [AV.one] at h
  | un => simp [AV.one] at h
  | t x => exact h
  | dead => rfl
  | ls i off len cap => simp only [frz0]; split; exact key (.ls id off len cap) rfl (by simp); rfl
  | lp i j k => simp only [frz0]; split; exact key (.lp id j k) rfl (by simp); rfl
  | lm i => simp only [frz0]; split; exact key (.lm id) rfl (by simp); rfl
  | lb i m => simp only [frz0]; split; exact key (.lb id m) rfl (by simp); rfl
  | li i => simp only [frz0]; split <;> rfl
theorem q8Q {a : AV} (h : a.one = true) : (frz1 id r a).one = true := by
  cases a with
  | fn f cs => simp only [frz1]; split <;> rfl
  | ag cs => simp [AV.one] at h
  | un => simp [AV.one] at h
  | t x => exact h
  | dead => rfl
  | ls i off len cap => exact q0A (a := .ls i off len cap) rfl
  | lp i j k => exact q0A (a := .lp i j k) rfl
  | lm i => exact q0A (a := .lm i) rfl
  | lb i m => exact q0A (a := .lb i m) rfl
  | li i => exact q0A (id := id) (r := r) (a := .li i) rfl
theorem q9l {a : AV} (h : a.one = true) : (Ej id r a).one = true := by
  have e : Ej id r a = frz1 id r a := by cases a <;> first | rfl | simp [AV.one] at h
  rw [e]; exact q8Q h
theorem AR.frz (h : Bo w0 B κ X μ st tm w) (hl : A7 st.hp id = some r) (hc : r.closed = true) (hsh : ∀ i q, i ≠ id → st.sh i = some q → sh' i = some q) {a : AV} {x : Value} (ha : AR w X μ st.sh a x) :
    AR w (fun b => X b ∨ ∃ n, μ id = some (b, n)) μ sh' (Ej id r a) x := by
  by_cases hg : ∃ cs, a = .ag cs
  · obtain ⟨cs, rfl⟩ := hg
    obtain ⟨xs, rfl, h1, hr⟩ := ha.ag_inv
    refine AR.mk_ag (List.all_eq_true.2 fun b hb => ?_) ⟨by simpa using hr.1, fun k b y hb hy => ?_⟩
    · obtain ⟨c, hc, rfl⟩ := List.mem_map.1 hb
      exact q8Q (List.all_eq_true.1 h1 c hc)
    · simp only [List.getElem?_map, Option.map_eq_some_iff] at hb
      obtain ⟨c, hc', rfl⟩ := hb
      exact (hr.2 k c y hc' hy).frz1 h hl hc hsh (fun cs e => by have := Tt h1 hc'; rw [e] at this; simp [AV.one] at this)
  · have e : Ej id r a = Lg.frz1 id r a := by cases a <;> first | rfl | exact absurd ⟨_, rfl⟩ hg
    rw [e]; exact ha.frz1 h hl hc hsh (fun cs e => hg ⟨cs, e⟩)
theorem qBD (q : Bj) : (Ni id r q).sh = q.sh := by cases q <;> rfl
theorem Bo.freeze (h : Bo w0 B κ X μ st tm w) (hl : A7 st.hp id = some r) (hc : r.closed = true) :
    Bo w0 B κ (fun b => X b ∨ ∃ n, μ id = some (b, n)) μ ⟨st.env.map fun p => (p.1, Ej id r p.2), (del id st.hp).map fun p => (p.1, Ni id r p.2)⟩ tm w := by
  have hlook : ∀ t, A7 ((del id st.hp).map fun p => (p.1, Ni id r p.2)) t = if t = id then none else (A7 st.hp t).map (Ni id r) := by
    intro t
    rw [N8 (Ni id r), q5M]
    split <;> rfl
  have hs : ∀ t, St.sh ⟨st.env.map fun p => (p.1, Ej id r p.2), (del id st.hp).map fun p => (p.1, Ni id r p.2)⟩ t = if t = id then none else st.sh t := by
    intro t
    simp only [St.sh, hlook]
    split
    · rfl
    · cases A7 st.hp t <;> simp [qBD]
  have hsh : ∀ i q, i ≠ id → st.sh i = some q → St.sh ⟨st.env.map fun p => (p.1, Ej id r p.2), (del id st.hp).map fun p => (p.1, Ni id r p.2)⟩ i = some q := fun i q hi hq => by rw [hs, if_neg hi]; exact hq
  have hback : ∀ i, St.sh ⟨st.env.map fun p => (p.1, Ej id r p.2), (del id st.hp).map fun p => (p.1, Ni id r p.2)⟩ i ≠ none → i ≠ id ∧ st.sh i ≠ none := fun i hi => by
    rw [hs] at hi
    split at hi
    · exact absurd rfl hi
    · rename_i hne; exact ⟨hne, hi⟩
  have hid : st.sh id ≠ none := by simp [Eo hl]
  refine ⟨?_, ?_, fun a b g n n' ha hb => h.inj a b g n n' (hback a ha).2 (hback b hb).2, ?_, fun a hk ha => h.kap a hk (hback a ha).2, h.kbig, ?_, h.os, h.tape, h.output, h.size, h.fr⟩
  · intro t a ht
    have h1 : A7 (st.env.map fun p => (p.1, Ej id r p.2)) t = (A7 st.env t).map (Ej id r) := N8 _ _ _
    simp only [h1, Option.map_eq_some_iff] at ht
    obtain ⟨b, hb, rfl⟩ := ht
    exact (h.env t b hb).frz h hl hc hsh
  · intro i q hq
    simp only [hlook] at hq
    split at hq
    · cases hq
    · rename_i hne
      rw [Option.map_eq_some_iff] at hq
      obtain ⟨q, hq, rfl⟩ := hq
      have := h.reg i q hq
      cases q with
      | sl ty s es =>
        refine ⟨this.1, this.2.imp (fun h => h) fun ⟨g, arr, hm, hg, hle, hr⟩ => ⟨g, arr, hm, hg, hle, fun i k e t x h1 h2 h3 => (hr i k e t x h1 h2 h3).mono (fun _ _ => rfl) (fun _ hb => .inl hb)⟩⟩
      | it s pos => exact this
      | mp es =>
        obtain ⟨g, n, clock, ms, hm, hg, hle, hr⟩ := this
        exact ⟨g, n, clock, ms, hm, hg, hle, fun i e m h1 h2 => ⟨(hr i e m h1 h2).1, (hr i e m h1 h2).2.mono (fun _ _ => rfl) (fun _ hb => .inl hb)⟩⟩
      | bx cs =>
        obtain ⟨h1, g, arr, ty, hm, hg, hle, hr⟩ := this
        refine ⟨fun k a ha => ?_, g, arr, ty, hm, hg, by simpa using hle, fun k a x ha hx => ?_⟩
        · simp only [List.getElem?_map, Option.map_eq_some_iff] at ha
          obtain ⟨b, hb, rfl⟩ := ha
          exact q9l (h1 k b hb)
        · simp only [List.getElem?_map, Option.map_eq_some_iff] at ha
          obtain ⟨b, hb, rfl⟩ := ha
          exact (hr k b x hb hx).frz h hl hc hsh
  · intro i g n hi hm
    obtain ⟨h1, h2⟩ := h.loc i g n (hback i hi).2 hm
    refine ⟨fun hx => ?_, h2⟩
    rcases hx with hx | ⟨n', hx⟩
    · exact h1 hx
    · exact (hback i hi).1 (h.inj i id g n n' (hback i hi).2 hid hm hx)
  · intro b hb
    rcases hb with hb | ⟨n, hb⟩
    · exact h.xlt b hb
    · exact (h.loc id b n hid hb).2.1
end
end Go.Lg
