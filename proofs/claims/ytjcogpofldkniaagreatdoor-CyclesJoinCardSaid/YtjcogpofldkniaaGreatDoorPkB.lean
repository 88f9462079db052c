/- THE LOGIC, part 19: cuts, strings of bytes are sound. Conditions: none. -/
import Derived.Test.YtjcogpofldkniaaGreatDoorPkA
import Derived.ArgAppend
import Derived.DeepKeys
set_option linter.unusedSimpArgs false
set_option linter.unusedVariables false
namespace Go.Lg
open Go
section
variable {P : Program} {Γ : Tables} {w0 : World} {B : Nat} {κ : Da} {X : Nat → Prop} {μ : Da} {st : St} {tm : Array Value} {w : World} {ds : List Deferred} {o : Oper}
def R7 (ρ : Operand → Value) (o : Option Operand) (dflt n : Nat) : Prop := (o = none ∧ n = dflt) ∨ ∃ x k i, o = some x ∧ ρ x = .int k i ∧ 0 ≤ i ∧ n = i.toNat
theorem O5 {x : Option Operand} {dflt : Nat} {r : Prop × Nat} (h : Bt w0 B κ X μ st tm w) (hg : Gl Γ w X) (hx : J0 Γ st.env x dflt = some r) (hc : r.1) (hk : x.toList.all Ak = true) : R7 (Act.eval ⟨tm, ds⟩) x dflt r.2 := by
 unfold J0 at hx
 split at hx
 ·simp only [Option.some.injEq] at hx; subst hx; exact .inl ⟨rfl, rfl⟩
 ·rename_i o
  split at hx
  ·rename_i k n he
   simp only [Option.some.injEq] at hx; subst hx
   exact .inr ⟨o, k, n, rfl, (B6 (ds := ds) h hg he (by simpa using hk)).t_inv.v_inv, hc, rfl⟩
  ·cases hx
theorem Lc {ρ : Operand → Value} {x : Operand} {k : IntKind} {i : Int} {y : Nat} (h : ρ x = .int k i) (h0 : 0 ≤ i) (h1 : i.toNat ≤ y) (code : BoundsCode) (w : World) : (Instr.sliceBound (ρ x) y code).run P w = .ok i.toNat w := by
 rw [h]; exact run_sliceBound (P := P) w k i y code h0 (by omega)
theorem q5M {ρ : Operand → Value} {lo hi : Option Operand} {len cap l h : Nat} (isS : Bool) (hlo : R7 ρ lo 0 l) (hhi : R7 ρ hi len h) (h1 : l ≤ h) (h2 : h ≤ cap) (w : World) : (Instr.sliceBounds isS len cap (lo.map ρ) (hi.map ρ) none).run P w = .ok (l, h, cap) w := by
 rcases hhi with ⟨rfl, rfl⟩ | ⟨x, k, i, rfl, hx, h0, rfl⟩ <;> rcases hlo with ⟨rfl, rfl⟩ | ⟨y, k', j, rfl, hy, h0', rfl⟩
 ·simp [Instr.sliceBounds]
 ·simp [Instr.sliceBounds, Lc (P := P) hy h0' h1]
 ·simp [Instr.sliceBounds, Lc (P := P) hx h0 h2]
 ·simp [Instr.sliceBounds, Lc (P := P) hx h0 h2, Lc (P := P) hy h0' h1]
theorem q88 {ρ : Operand → Value} {lo : Option Operand} {hi mx : Operand} {len cap l h m : Nat} (hlo : R7 ρ lo 0 l) (hhi : R7 ρ (some hi) len h) (hmx : R7 ρ (some mx) 0 m) (h1 : l ≤ h) (h2 : h ≤ m) (h3 : m ≤ cap) (w : World) :
  (Instr.sliceBounds true len cap (lo.map ρ) (some (ρ hi)) (some (ρ mx))).run P w = .ok (l, h, m) w := by
 rcases hmx with ⟨e, _⟩ | ⟨x2, k2, i2, e2, hx2, h02, rfl⟩
 ·cases e
 rcases hhi with ⟨e, _⟩ | ⟨x, k, i, e, hx, h0, rfl⟩
 ·cases e
 cases e; cases e2
 rcases hlo with ⟨rfl, rfl⟩ | ⟨y, k', j, rfl, hy, h0', rfl⟩
 ·simp [Instr.sliceBounds, Lc (P := P) hx h0 h2, Lc (P := P) hx2 h02 h3]
 ·simp [Instr.sliceBounds, Lc (P := P) hx h0 h2, Lc (P := P) hx2 h02 h3, Lc (P := P) hy h0' h1]
theorem qCm {t : TypeId} {x : Operand} {lo hi : Option Operand} {b : ByteArray} {l h' : Nat} (h : Bt w0 B κ X μ st tm w) (hg : Gl Γ w X) (ho : o.op = .slice t x lo hi none) (kx : Ak x = true) (hu : q7L P t = true)
  (hx : ev Γ st.env x = some (.t (.v (.string b)))) (hlo : R7 (Act.eval ⟨tm, ds⟩) lo 0 l) (hhi : R7 (Act.eval ⟨tm, ds⟩) hi b.size h') (h1 : l ≤ h') (h2 : h' ≤ b.size) : Au P w0 B κ X o (.t (.v (.string (b.extract l h')))) st tm w ds := by
 have he := (B6 (ds := ds) h hg hx kx).t_inv.v_inv
 refine Au.same h (v := .string (b.extract l h')) ?_ (.t _ _ (.v _))
 have hb := q5M (P := P) false hlo hhi h1 h2 w
 simp [execOp, ho, he, Instr.sliceAt, Instr.slice, run_underlying (Xg hu), hb]
def q2e (a : Option Addr) (c l h m s : Nat) : Value := .slice (if m = l then a else a.map (·.add (l * s))) (h - l) (m - l)
theorem q45 {t e : TypeId} {s : Nat} (hu : slO P t = some e) (hz : O7 P e = some s) {a : Option Addr} {len c l h m : Nat} {lo hi mx : Option Value} (hb : ∀ w, (Instr.sliceBounds true len c lo hi mx).run P w = .ok (l, h, m) w) (w : World) :
  (Instr.sliceAt t (.slice a len c) lo hi mx).run P w = .ok (q2e a c l h m s) w := by
 simp [Instr.sliceAt, Instr.slice, run_underlying (By hu), hb, Dk hz, q2e]
theorem qHV {es : List (List T)} {cap : Option Nat} {nl : Option Bool} {x : Value} {s l h : Nat} (hx : TR w X (.sl es cap nl) x) (hw : Ce s es) (h1 : l ≤ h) (h2 : h ≤ es.length) :
  ∃ a c, x = .slice a es.length c ∧ es.length ≤ c ∧ (∀ n, cap = some n → c = n) ∧ ∀ m, h ≤ m → m ≤ c → ∀ cap' : Option Nat, (∀ n, cap' = some n → m - l = n) → TR w X (.sl ((es.drop l).take (h - l)) cap' nl) (q2e a c l h m s) := by
 have hlen : ((es.drop l).take (h - l)).length = h - l := by simp; omega
 rcases hx.sl_inv with ⟨rfl, a, c, rfl, hc, hn, hz⟩ | ⟨s', b, off, c, rfl, hxb, hle, hc, hn, hw', hone, f, hcell, hrel⟩
 ·refine ⟨a, c, rfl, Nat.zero_le _, hc, fun m hhm hmc cap' hcap => ?_⟩
  simp at h2; subst h2
  have : l = 0 := by omega
  subst this
  have e : (if m = 0 then a else a.map (·.add (0 * s))) = a := by
   split
   ·rfl
   ·cases a <;> simp [Addr.add]
  simp only [q2e, e, List.drop_nil, List.take_nil]
  exact .nil _ _ _ _ hcap hn (fun e => by have := hz e; omega)
 ·refine ⟨_, c, rfl, hle, hc, fun m hhm hmc cap' hcap => ?_⟩
  by_cases hlh : l = h
  ·subst hlh
   have e : (es.drop l).take (l - l) = [] := by simp
   simp only [q2e, e, Nat.sub_self]
   refine .nil _ _ _ _ hcap (fun q hq => ?_) (fun e => ?_)
   ·rw [hn q hq]; split <;> rfl
   ·split at e <;> simp at e
  ·have hss : s' = s := by
    have hmem := (q2s (es := es) (i := 0) (by omega)).1
    exact (hw' _ hmem).symm.trans (hw _ hmem)
   subst hss
   have hml : ¬ m = l := by omega
   have hge : ∀ i, i < h - l → ((es.drop l).take (h - l))[i]? = es[l + i]? := fun i hi => by rw [List.getElem?_take, if_pos hi, List.getElem?_drop]
   have hmem : ∀ e ∈ (es.drop l).take (h - l), e ∈ es := fun e he => List.mem_of_mem_drop (List.mem_of_mem_take he)
   have := TR.mk_sl (w := w) (X := X) (es := (es.drop l).take (h - l)) (cap := cap') (nl := nl) (s := s') (b := b) (off := off + l * s') (c := m - l) (f := fun i k => f (l + i) k) hxb (by omega) hcap hn (fun e he => hw' e (hmem e he)) (fun e he => hone e (hmem e he))
    (fun i k hi hk => by rw [hlen] at hi; have := hcell (l + i) k (by omega) hk; rw [Nat.add_mul] at this; rwa [show off + l * s' + i * s' + k = off + (l * s' + i * s') + k by omega])
    (fun i k e t he ht => by
     have hi := (List.getElem?_eq_some_iff.1 he).1
     rw [hlen] at hi
     rw [hge i hi] at he
     exact hrel (l + i) k e t he ht)
   rw [hlen] at this
   simp only [q2e, hml, ↓reduceIte, Option.map_some, Addr.add_lit]
   exact this
theorem qEE {t e : TypeId} {s : Nat} {x : Operand} {lo hi : Option Operand} {es : List (List T)} {cap : Option Nat} {nl : Option Bool} {l h' : Nat} (h : Bt w0 B κ X μ st tm w) (hg : Gl Γ w X) (ho : o.op = .slice t x lo hi none) (kx : Ak x = true) (hu : slO P t = some e) (hz : O7 P e = some s)
  (hx : ev Γ st.env x = some (.t (.sl es cap nl))) (hw : Ce s es) (hlo : R7 (Act.eval ⟨tm, ds⟩) lo 0 l) (hhi : R7 (Act.eval ⟨tm, ds⟩) hi es.length h') (h1 : l ≤ h') (h2 : h' ≤ es.length) : Au P w0 B κ X o (.t (.sl ((es.drop l).take (h' - l)) (cap.map (· - l)) nl)) st tm w ds := by
 obtain ⟨a, c, he, hle, hc, hcut⟩ := qHV (B6 (ds := ds) h hg hx kx).t_inv hw h1 h2
 refine Au.same h (v := q2e a c l h' c s) ?_ (.t _ _ (hcut c (by omega) (Nat.le_refl _) _ (fun n hn => ?_)))
 ·have hrun := q45 (P := P) hu hz (a := a) (len := es.length) (c := c) (fun w => q5M (P := P) (cap := c) true hlo hhi h1 (by omega) w) w
  simp only [execOp, ho, he, Sem.run_bind, Option.map_none, hrun]; rfl
 ·simp only [Option.map_eq_some_iff] at hn
  obtain ⟨q, hq, rfl⟩ := hn
  rw [hc q hq]
theorem qCn {t e : TypeId} {s : Nat} {x hi mx : Operand} {lo : Option Operand} {es : List (List T)} {cap : Option Nat} {nl : Option Bool} {l h' m : Nat} (h : Bt w0 B κ X μ st tm w) (hg : Gl Γ w X) (ho : o.op = .slice t x lo (some hi) (some mx)) (kx : Ak x = true) (hu : slO P t = some e) (hz : O7 P e = some s)
  (hx : ev Γ st.env x = some (.t (.sl es cap nl))) (hw : Ce s es) (hlo : R7 (Act.eval ⟨tm, ds⟩) lo 0 l) (hhi : R7 (Act.eval ⟨tm, ds⟩) (some hi) es.length h') (hmx : R7 (Act.eval ⟨tm, ds⟩) (some mx) 0 m) (h1 : l ≤ h') (h2 : h' ≤ m) (h3 : m ≤ es.length) :
  Au P w0 B κ X o (.t (.sl ((es.drop l).take (h' - l)) (some (m - l)) nl)) st tm w ds := by
 obtain ⟨a, c, he, hle, hc, hcut⟩ := qHV (B6 (ds := ds) h hg hx kx).t_inv hw h1 (by omega : h' ≤ es.length)
 refine Au.same h (v := q2e a c l h' m s) ?_ (.t _ _ (hcut m h2 (by omega) _ (fun n hn => by cases hn; rfl)))
 have hrun := q45 (P := P) hu hz (a := a) (len := es.length) (c := c) (fun w => q88 (P := P) (cap := c) hlo hhi hmx h1 h2 (by omega) w) w
 simp only [execOp, ho, he, Sem.run_bind, Option.map_some, hrun]; rfl
theorem qHW {id off len : Nat} {cap : Option Nat} {x : Value} {q l h m : Nat} {sh : Nat → Option Sh} {n : Nat} (hx : AR w X μ sh (.ls id off len cap) x) (hs : sh id = some (.sl q n)) (h1 : l ≤ h) (h2 : h ≤ len) :
  ∃ a c, x = .slice a len c ∧ len ≤ c ∧ (∀ q, cap = some q → c = q) ∧ (m = c → AR w X μ sh (.ls id (off + l) (h - l) (cap.map (· - l))) (q2e a c l h m q)) ∧ (h ≤ m → m ≤ len → AR w X μ sh (.ls id (off + l) (h - l) (some (m - l))) (q2e a c l h m q)) := by
 obtain ⟨s', n', hs', hcase⟩ := hx.ls_inv
 rw [hs] at hs'
 simp only [Option.some.injEq, Sh.sl.injEq] at hs'
 obtain ⟨rfl, rfl⟩ := hs'
 rcases hcase with ⟨hm, ⟨a, rfl⟩, rfl, rfl, hc⟩ | ⟨g, mm, c, a, hm, rfl, hle, hlc, hcm, hfit, hfull, hc, ha⟩
 ·have : h = 0 := by omega
  subst this
  have : l = 0 := by omega
  subst this
  refine ⟨a, 0, rfl, Nat.le_refl _, fun q hq => (hc q hq).symm, fun hm0 => ?_, fun _ hm0 => ?_⟩
  ·subst hm0
   simp only [q2e, ↓reduceIte, Nat.sub_zero, Nat.add_zero]
   exact .lsnil id q n hs hm a _ (fun z hz => by simp only [Option.map_eq_some_iff] at hz; obtain ⟨y, hy, rfl⟩ := hz; exact hc y hy)
  ·have : m = 0 := by omega
   subst this
   simp only [q2e, ↓reduceIte, Nat.sub_zero, Nat.add_zero]
   exact .lsnil id q n hs hm a _ (fun z hz => by cases hz; rfl)
 ·refine ⟨some a, c, rfl, hlc, hc, fun hmc => ?_, fun hhm hml => ?_⟩
  ·subst hmc
   have hadd : (off + l) * q + (m - l) * q = (off + m) * q := by rw [← Nat.add_mul]; congr 1; omega
   have e : q2e (some a) m l h m q = .slice (some (if m = l then a else a.add (l * q))) (h - l) (m - l) := by
    unfold q2e; split <;> rfl
   rw [e]
   refine .ls id (off + l) (h - l) q n g mm (m - l) _ hs hm (by omega) (by omega) (by omega) (by rw [Nat.add_mul (off + l), hadd]; exact hfit) (fun hn => by
    rw [Nat.add_mul (off + l), hadd]; exact hfull (by cases cap <;> simp at hn ⊢)) (fun z hz => by
    simp only [Option.map_eq_some_iff] at hz; obtain ⟨y, hy, rfl⟩ := hz; rw [hc y hy]) _ (fun hor => ?_)
   by_cases hml : m = l
   ·subst hml
    simp only [↓reduceIte]
    have h0 : off + m = 0 := by rcases hor with hor | hor <;> omega
    have := ha (.inr (by omega))
    have ho : off = 0 := by omega
    have hm0 : m = 0 := by omega
    rw [this, ho, hm0]
   ·simp only [hml, ↓reduceIte]
    have := ha (.inl (by omega))
    rw [this, Addr.add_lit, Nat.add_mul]
  ·have e : q2e (some a) c l h m q = .slice (some (if m = l then a else a.add (l * q))) (h - l) (m - l) := by
    unfold q2e; split <;> rfl
   rw [e]
   have hle2 : (off + l + (m - l)) * q ≤ (off + c) * q := Nat.mul_le_mul_right _ (by omega)
   refine .ls id (off + l) (h - l) q n g mm (m - l) _ hs hm (by omega) (by omega) (by omega) (by omega) (fun hn => by cases hn) (fun z hz => by cases hz; rfl) _ (fun hor => ?_)
   by_cases hml2 : m = l
   ·subst hml2
    simp only [↓reduceIte]
    have h0 : off + m = 0 := by rcases hor with hor | hor <;> omega
    have := ha (.inr (by omega))
    have ho : off = 0 := by omega
    have hm0 : m = 0 := by omega
    rw [this, ho, hm0]
   ·simp only [hml2, ↓reduceIte]
    have := ha (.inl (by omega))
    rw [this, Addr.add_lit, Nat.add_mul]
theorem qEF {t e ty : TypeId} {s q id off len : Nat} {es : List (List T)} {x : Operand} {lo hi : Option Operand} {cap : Option Nat} {l h' : Nat} (h : Bt w0 B κ X μ st tm w) (hg : Gl Γ w X) (ho : o.op = .slice t x lo hi none) (kx : Ak x = true) (hu : slO P t = some e) (hz : O7 P e = some s)
  (hx : ev Γ st.env x = some (.ls id off len cap)) (hl : A2 st.hp id = some (.sl ty q es)) (hq : q = s) (hlo : R7 (Act.eval ⟨tm, ds⟩) lo 0 l) (hhi : R7 (Act.eval ⟨tm, ds⟩) hi len h') (h1 : l ≤ h') (h2 : h' ≤ len) : Au P w0 B κ X o (.ls id (off + l) (h' - l) (cap.map (· - l))) st tm w ds := by
 subst hq
 obtain ⟨a, c, he, hle, hc, hcut, _⟩ := qHW (m := (match Act.eval ⟨tm, ds⟩ x with | .slice _ _ c => c | _ => 0)) (B6 (ds := ds) h hg hx kx) (by rw [Fb hl]; rfl) h1 h2
 rw [he] at hcut
 have hcut := hcut rfl
 refine Au.same h (v := q2e a c l h' c q) ?_ hcut
 have hrun := q45 (P := P) hu hz (a := a) (len := len) (c := c) (fun w => q5M (P := P) (cap := c) true hlo hhi h1 (by omega) w) w
 simp only [execOp, ho, he, Sem.run_bind, Option.map_none, hrun]; rfl
theorem qCo {t e ty : TypeId} {s q id off len : Nat} {es : List (List T)} {x hi mx : Operand} {lo : Option Operand} {cap : Option Nat} {l h' m : Nat} (h : Bt w0 B κ X μ st tm w) (hg : Gl Γ w X) (ho : o.op = .slice t x lo (some hi) (some mx)) (kx : Ak x = true) (hu : slO P t = some e) (hz : O7 P e = some s)
  (hx : ev Γ st.env x = some (.ls id off len cap)) (hl : A2 st.hp id = some (.sl ty q es)) (hq : q = s) (hlo : R7 (Act.eval ⟨tm, ds⟩) lo 0 l) (hhi : R7 (Act.eval ⟨tm, ds⟩) (some hi) len h') (hmx : R7 (Act.eval ⟨tm, ds⟩) (some mx) 0 m) (h1 : l ≤ h') (h2 : h' ≤ m) (h3 : m ≤ len) :
  Au P w0 B κ X o (.ls id (off + l) (h' - l) (some (m - l))) st tm w ds := by
 subst hq
 obtain ⟨a, c, he, hle, hc, _, hcut⟩ := qHW (m := m) (B6 (ds := ds) h hg hx kx) (by rw [Fb hl]; rfl) h1 (by omega : h' ≤ len)
 refine Au.same h (v := q2e a c l h' m q) ?_ (hcut h2 h3)
 have hrun := q45 (P := P) hu hz (a := a) (len := len) (c := c) (fun w => q88 (P := P) (cap := c) hlo hhi hmx h1 h2 (by omega) w) w
 simp only [execOp, ho, he, Sem.run_bind, Option.map_some, hrun]; rfl
theorem q1j : ∀ {es : List (List T)} {bs : List UInt8}, O0 es = some bs → Ce 1 es ∧ es.length = bs.length ∧ ∀ (i : Nat) (e : List T), es[i]? = some e → ∃ n, e = [.v (.int .u8 n)] ∧ bs[i]? = some (UInt8.ofNat n.toNat)
 | [], bs, h => by simp only [O0, Option.some.injEq] at h; subst h; exact ⟨fun e he => by simp at he, rfl, fun i e he => by simp at he⟩
 | e :: es, bs, h => by
  unfold O0 at h
  split at h
  ·rename_i heq; cases heq
  ·rename_i n es' heq
   cases heq
   simp only [Option.map_eq_some_iff] at h
   obtain ⟨bs', h', rfl⟩ := h
   obtain ⟨h1, h2, h3⟩ := q1j h'
   refine ⟨fun e he => ?_, by simp [h2], fun i e he => ?_⟩
   ·rcases List.mem_cons.1 he with rfl | he
    ·rfl
    ·exact h1 e he
   ·cases i with
    | zero => simp at he; subst he; exact ⟨n, rfl, rfl⟩
    | succ i => simp at he; simpa using h3 i e he
  ·cases h
theorem q89 (body : Value → ByteArray → Sem (ForInStep ByteArray)) (hb : ∀ n r, body (.int .u8 n) r = pure (ForInStep.yield (r.push (UInt8.ofNat n.toNat)))) : ∀ (xs : List Value) (ns : List Int), xs = ns.map (Value.int .u8) → ∀ (s : ByteArray) (w : World),
  (forIn xs s body).run P w = .ok (ns.foldl (fun r n => r.push (UInt8.ofNat n.toNat)) s) w
 | _, [], rfl, s, w => by simp
 | _, n :: ns, rfl, s, w => by
  have ih := q89 body hb (ns.map (Value.int .u8)) ns rfl (s.push (UInt8.ofNat n.toNat)) w
  simp only [List.map_cons, List.forIn_cons, hb, Sem.run_bind, Sem.run_pure, Result.andThen_ok, ih, List.foldl_cons]
theorem qGS (ns : List Int) : ∀ s : ByteArray, (ns.foldl (fun r n => r.push (UInt8.ofNat n.toNat)) s).data.toList = s.data.toList ++ ns.map fun n => UInt8.ofNat n.toNat := by
 induction ns with
 | nil => intro s; simp
 | cons n ns ih => intro s; rw [List.foldl_cons, ih]; simp [ByteArray.push]
theorem qC4 {bs : List UInt8} {es : List (List T)} {x : Value} {a : AV} (h : Bt w0 B κ X μ st tm w) (ha : AR w X μ st.sh a x) (he : Br st.hp a = some es) (hb : O0 es = some bs) : (Conv.bytesToString x).run P w = .ok (.string ⟨bs.toArray⟩) w := by
 obtain ⟨hw, hlen, hget⟩ := q1j hb
 obtain ⟨oa, c, vs, rfl, hels, _, hsrc⟩ := Xm h ha he hw
 have hvals : ∃ ns : List Int, vs.flatten = ns.map (Value.int .u8) ∧ ns.map (fun n => UInt8.ofNat n.toNat) = bs := by
  clear hsrc
  have : ∀ (es : List (List T)) (vs : List (List Value)) (bs : List UInt8), Els w X 1 es vs → es.length = bs.length → (∀ (i : Nat) (e : List T), es[i]? = some e → ∃ n, e = [.v (.int .u8 n)] ∧ bs[i]? = some (UInt8.ofNat n.toNat)) → ∃ ns : List Int, vs.flatten = ns.map (Value.int .u8) ∧ ns.map (fun n => UInt8.ofNat n.toNat) = bs := by
   intro es
   induction es with
   | nil =>
    intro vs bs h1 h2 _
    have : vs = [] := List.eq_nil_of_length_eq_zero h1.1.symm
    subst this
    have : bs = [] := List.eq_nil_of_length_eq_zero h2.symm
    subst this
    exact ⟨[], rfl, rfl⟩
   | cons e es ih =>
    intro vs bs h1 h2 h3
    match vs, bs, h1, h2, h3 with
    | v :: vs, b :: bs, h1, h2, h3 =>
     obtain ⟨n, rfl, hb⟩ := h3 0 e rfl
     simp at hb
     have hv := h1.2.2.2 0 _ v rfl rfl
     obtain ⟨y, ys, rfl, hy, hys⟩ := hv.cons_inv
     have := hys.nil_inv; subst this
     have := hy.v_inv; subst this
     obtain ⟨ns, hn1, hn2⟩ := ih vs bs ⟨by have := h1.1; simpa using this, fun v hv => h1.2.1 v (by simp [hv]), fun e he => h1.2.2.1 e (by simp [he]), fun i e v he hv => h1.2.2.2 (i + 1) e v (by simpa using he) (by simpa using hv)⟩ (by simpa using h2) (fun i e he => by simpa using h3 (i + 1) e (by simpa using he))
     exact ⟨n :: ns, by simp [hn1], by simp [hn2, hb]⟩
    | [], _, h1, _, _ => exact absurd h1.1 (by simp)
    | _ :: _, [], _, h2, _ => exact absurd h2 (by simp)
  exact this es vs bs hels hlen hget
 obtain ⟨ns, hn1, hn2⟩ := hvals
 have hfin : (ns.foldl (fun r n => r.push (UInt8.ofNat n.toNat)) ByteArray.empty) = ⟨bs.toArray⟩ := by
  have := qGS ns ByteArray.empty
  generalize ns.foldl (fun r n => r.push (UInt8.ofNat n.toNat)) ByteArray.empty = R at this
  cases R with
  | mk d =>
   congr 1
   apply Array.toList_inj.1
   rw [this, hn2]; rfl
 by_cases hne : es = []
 ·subst hne
  have hbs : bs = [] := List.eq_nil_of_length_eq_zero hlen.symm
  subst hbs
  cases oa with
  | none => simp [Conv.bytesToString]; rfl
  | some b =>
   simp only [Conv.bytesToString, List.length_nil, loadCells, loadCellsFrom, Sem.run_bind, Sem.run_pure, Result.andThen_ok]
   simp; rfl
 ·obtain ⟨b, off, rfl, hcell⟩ := hsrc hne
  have hl := C4 hels.2.1
  rw [Nat.mul_one, ← hels.1] at hl
  have hload := run_loadCells_list (P := P) w ⟨b, off, none⟩ vs.flatten (fun j v hv => by rw [Addr.add_lit]; exact hcell j v hv)
  rw [hl] at hload
  simp only [Conv.bytesToString, Sem.run_bind, hload, Result.andThen_ok]
  rw [← Array.forIn_toList, q89 (P := P) _ (fun n r => rfl) vs.flatten ns hn1 ByteArray.empty w, hfin]
  rfl
theorem qEG {src dst e : TypeId} {x : Operand} {a : AV} {es : List (List T)} {bs : List UInt8} (h : Bt w0 B κ X μ st tm w) (hg : Gl Γ w X) (ho : o.op = .convert src dst x) (kx : Ak x = true) (hs : slO P src = some e) (hi : qAg P e = some .u8) (hd : q7L P dst = true)
  (hx : ev Γ st.env x = some a) (he : Br st.hp a = some es) (hb : O0 es = some bs) : Au P w0 B κ X o (.t (.v (.string ⟨bs.toArray⟩))) st tm w ds := by
 have hr := B6 (ds := ds) h hg hx kx
 have hrun := qC4 (P := P) h hr he hb
 obtain ⟨oa, c, vs, hv, _⟩ := Xm h hr he (q1j hb).1
 refine Au.same h (v := .string ⟨bs.toArray⟩) ?_ (.t _ _ (.v _))
 rw [hv] at hrun
 simp only [execOp, ho, hv, convert, Sem.run_bind, run_underlying (By hs), run_underlying (Xg hd), Result.andThen_ok]
 cases oa with
 | none => simp only [run_underlying (q0p hi), Sem.run_bind, Result.andThen_ok, hrun, Sem.run_pure]
 | some b => simp only [run_underlying (q0p hi), Sem.run_bind, Result.andThen_ok, hrun, Sem.run_pure]
end
end Go.Lg
namespace Go.Lg
open Go
section
variable {P : Program} {Γ : Tables} {w0 : World} {B : Nat} {κ : Da} {X : Nat → Prop} {μ : Da} {st : St} {tm : Array Value} {w : World} {ds : List Deferred} {o : Oper}
theorem qNE {t ty d : TypeId} {zs : List Value} {l c : Operand} {n m : Int} {k1 k2 : IntKind} (he : Ej P t ty 1) (hzo : E2 P ty = some zs) (hc1 : O8 zs = true) (h : Bt w0 B κ X μ st tm w) (hg : Gl Γ w X) (ho : o.op = .makeSlice t l c) (kl : Ak l = true) (kc : Ak c = true)
  (hl : ev Γ st.env l = some (.t (.v (.int k1 n)))) (hc : ev Γ st.env c = some (.t (.v (.int k2 m)))) (h0 : 0 ≤ n) (hnm : n = m) (hm : m ≤ 2147483648) (hd : A2 st.hp d = none) (hdb : d < 1000000) :
  Au P w0 B κ X o (.lb d n.toNat) ⟨st.env, (d, .bx (List.replicate n.toNat (.t (Bn (zs.headD undef))))) :: st.hp⟩ tm w ds := by
 subst hnm
 obtain ⟨arr, harr, hsz, hzl, hrun⟩ := qEC (ds := ds) he hzo hc1 h hg ho kl kc hl hc h0 (by omega) hm
 obtain ⟨z, rfl⟩ : ∃ z, zs = [z] := by
  match zs, hzl with
  | [z], _ => exact ⟨z, rfl⟩
 have harr' : arr.toList = List.replicate n.toNat z := by
  rw [harr]; simp [List.flatten_replicate_singleton]
 have hsz' : arr.size = n.toNat := by rw [hsz]; omega
 have hz1 : z.oneCell' = true := by simpa [O8] using hc1
 refine Au.region h (arr := arr) (ty := ty) (v := .slice (some ⟨w.heap.size, 0, none⟩) n.toNat n.toNat) w.drawn hd hdb hrun ?_ ?_
 ·have hon : D2 (List.replicate n.toNat (AV.t (Bn z))) = true := List.all_eq_true.2 fun a ha => by rw [List.eq_of_mem_replicate ha]; exact q5K hz1
  have := qE8 (ty := ty) (as := List.replicate n.toNat (AV.t (Bn z))) (xs := arr.toList) h w.drawn hd hon ⟨by simp [hsz'], fun k a x ha hx => by
   rw [harr'] at hx
   rw [List.eq_of_mem_replicate (List.mem_of_getElem? ha), List.eq_of_mem_replicate (List.mem_of_getElem? hx)]
   exact .t _ _ (q42 z)⟩
  simpa using this
 ·have := AR.lb (w := World.alloc { w with drawn := w.drawn } (.cells arr ty)) (X := X) (μ := μ.set d (some (w.heap.size, arr.size))) (sh := St.sh ⟨st.env, (d, .bx (List.replicate n.toNat (.t (Bn ([z].headD undef))))) :: st.hp⟩) d w.heap.size n.toNat (by rw [Vf]; rfl) (by simp only [Da.set, ↓reduceIte, hsz']) (O9 (by omega))
  exact this
theorem qGT {t e : TypeId} {s : Nat} {cs : List AV} {x i : Operand} {id m : Nat} {k : IntKind} {n : Int} (h : Bt w0 B κ X μ st tm w) (hg : Gl Γ w X) (ho : o.op = .indexAddr t x i) (kx : Ak x = true) (ki : Ak i = true)
  (hu : slO P t = some e) (hz : O7 P e = some s) (hx : ev Γ st.env x = some (.lb id m)) (hl : A2 st.hp id = some (.bx cs)) (hs1 : s = 1) (hi : ev Γ st.env i = some (.t (.v (.int k n)))) (h0 : 0 ≤ n) (h1 : n < m) :
  Au P w0 B κ X o (.lp id 0 n.toNat) st tm w ds := by
 have hix := (B6 (ds := ds) h hg hi ki).t_inv.v_inv
 obtain ⟨g, hs, hm, hle, he⟩ := (B6 (ds := ds) h hg hx kx).lb_inv
 subst hs1
 refine Au.same h (v := .pointer (some ⟨g, n.toNat, none⟩)) ?_ (.lpbx id _ g m hs hm)
 have hlt : (0 ≤ n ∧ n < (m : Int)) := ⟨h0, h1⟩
 simp [execOp, ho, he, hix, Instr.indexAt, asIntOf, run_underlying (By hu), hlt, Dk hz, Addr.add_lit, Nat.add_mul]
theorem qNF {t d : TypeId} {x : Operand} {s : ByteArray} (h : Bt w0 B κ X μ st tm w) (hg : Gl Γ w X) (ho : o.op = .range t x) (kx : Ak x = true) (hu : q7L P t = true) (hx : ev Γ st.env x = some (.t (.v (.string s)))) (hd : A2 st.hp d = none) (hdb : d < 1000000) :
  Au P w0 B κ X o (.li d) ⟨st.env, (d, .it s 0) :: st.hp⟩ tm w ds := by
 have hxv := (B6 (ds := ds) h hg hx kx).t_inv.v_inv
 have hb : RowKit.Below w.heap.size w (w.alloc (.stringIter s 0)) := (RowKit.Below.refl _ _).alloc (Nat.le_refl _) _
 have h2 := h.grow (X' := X) hb (fun _ hx => hx) (fun b hx => .inl hx)
 refine ⟨_, .pointer (some ⟨w.heap.size, 0, none⟩), w.alloc (.stringIter s 0), μ.set d (some (w.heap.size, 0)), X, by simp [execOp, ho, Instr.range, hxv, run_underlying (Xg hu)], .inl rfl, h2.addReg hd hdb (.it s 0) (some (w.heap.size, 0)) ?_ ?_, ?_, fun _ hx => hx, fun b hx => hb.block b (h.xlt b hx), fun _ hx => .inl hx⟩
 ·intro g m e
  cases e
  refine ⟨fun hx => ?_, by simp, fun hlt => absurd h.size (by omega), fun id n' hi hm => ?_⟩
  ·have := h.xlt _ hx; omega
  ·have := (h.loc id _ _ hi hm).2.1; omega
 ·exact ⟨w.heap.size, 0, by simp [Da.set], heap_alloc_new w _⟩
 ·exact .li d w.heap.size 0 (by rw [Vf]; rfl) (by simp [Da.set])
theorem qNG {x : Operand} {s : ByteArray} {id pos : Nat} (h : Bt w0 B κ X μ st tm w) (hg : Gl Γ w X) (ho : o.op = .next x true) (kx : Ak x = true) (hx : ev Γ st.env x = some (.li id)) (hl : A2 st.hp id = some (.it s pos)) :
  (pos < s.size → Au P w0 B κ X o (.t (.tup [.v (.bool true), .v (.int .i64 pos), .v (.int .i32 (Utf8.decode s pos).1)])) ⟨st.env, Gf id (.it s (pos + (Utf8.decode s pos).2)) st.hp⟩ tm w ds) ∧
  (¬ pos < s.size → Au P w0 B κ X o (.t (.tup [.v (.bool false)])) st tm w ds) := by
 obtain ⟨g, m, hs, hm, he⟩ := (B6 (ds := ds) h hg hx kx).li_inv
 obtain ⟨g', n', hm', hh⟩ := h.reg _ _ hl
 rw [hm] at hm'; cases hm'
 have hglt : g < w.heap.size := (Array.getElem?_eq_some_iff.1 hh).1
 constructor
 ·intro hp
  obtain ⟨hsim, hs'⟩ := h.setReg hl (r' := .it s (pos + (Utf8.decode s pos).2)) rfl hm (w' := { w with heap := w.heap.setIfInBounds g (.stringIter s (pos + (Utf8.decode s pos).2)) }) rfl rfl rfl (by simp) (fun j hj => by simp [Array.getElem?_setIfInBounds, Ne.symm hj])
   (fun hs' => ⟨g, m, hm, by simp [hglt]⟩)
  refine ⟨_, .tuple #[.bool true, goInt pos, .int .i32 (Utf8.decode s pos).1], _, μ, X, ?_, .inl rfl, hsim, .t _ _ (TR.mk_tup (F3.cons (.v _) (F3.cons (.v _) (F3.cons (.v _) (F3.nil _ _))))), fun _ hx => hx, hs', fun _ hx => .inl hx⟩
  simp [execOp, ho, he, Instr.next, getObj, setObj, Sem.run, hh, hp, goInt]
 ·intro hp
  refine Au.same h (v := .tuple #[.bool false]) ?_ (.t _ _ (TR.mk_tup (F3.cons (.v _) (F3.nil _ _))))
  simp [execOp, ho, he, Instr.next, getObj, Sem.run, hh, hp]
end
end Go.Lg
namespace Go.Lg
open Go
section
variable {P : Program} {Γ : Tables} {w0 : World} {B : Nat} {κ : Da} {X : Nat → Prop} {μ : Da} {st : St} {tm : Array Value} {w : World} {ds : List Deferred} {o : Oper}
theorem qB9 {id : Nat} {r : B7} : ∀ {hp : List (Nat × B7)}, A2 hp id = some r → Gf id r hp = hp
 | [], h => by simp [A2] at h
 | (k, v) :: e, h => by
  simp only [A2] at h
  simp only [Gf]
  split
  ·rename_i hk; rw [if_pos hk] at h; cases h; rw [hk]
  ·rename_i hk; rw [if_neg hk] at h; rw [qB9 h]
theorem qHX {s : Nat} {es : List (List T)} {vs : List (List Value)} (h : Els w X s es vs) (n : Nat) : Els w X s (es.drop n) (vs.drop n) := by
 refine ⟨by simp [h.1], fun v hv => h.2.1 v (List.mem_of_mem_drop hv), fun e he => h.2.2.1 e (List.mem_of_mem_drop he), fun i e v he hv => ?_⟩
 rw [List.getElem?_drop] at he hv
 exact h.2.2.2 _ e v he hv
theorem qEH {id ty s : Nat} {es : List (List T)} {vs : List (List Value)} {sh : Nat → Option Sh} {g : Nat} {arr : Array Value} {rest : List Value} (hm : μ id = some (g, arr.size)) (hh : w.heap[g]? = some (.cells arr ty (0, 0))) (he : Els w X s es vs) (ha : arr.toList = vs.flatten ++ rest) : Ot w X μ sh id (.sl ty s es) := by
 have hfl := C4 he.2.1
 refine ⟨fun i e hi => ?_, .inr ⟨g, arr, hm, hh, ?_, fun i k e t x h1 h2 h3 => ?_⟩⟩
 ·have := he.2.2.1 e (List.mem_of_getElem? hi)
  exact ⟨this.1, fun k t hk => List.all_eq_true.1 this.2 t (List.mem_of_getElem? hk)⟩
 ·have := congrArg List.length ha
  simp only [Array.length_toList, List.length_append] at this
  rw [he.1]; omega
 ·have hi := (List.getElem?_eq_some_iff.1 h1).1
  have hes := (he.2.2.1 e (List.mem_of_getElem? h1)).1
  have hk : k < s := by rw [← hes]; exact (List.getElem?_eq_some_iff.1 h2).1
  have hf := Xl he.2.1 i k hk
  have h3' : (vs.flatten ++ rest)[i * s + k]? = some x := by rw [← ha]; simpa using h3
  have hlt : i * s + k < vs.flatten.length := by
   rw [hfl, ← he.1]
   have := O4 (s := s) hi
   omega
  rw [List.getElem?_append_left hlt, hf] at h3'
  obtain ⟨v, hv, hx⟩ := Option.bind_eq_some_iff.1 h3'
  exact (he.2.2.2 i e v h1 hv).2 k t x h2 hx
theorem qCp {x y : Operand} {t t2 : TypeId} (ho : o.op = .call { callee := .builtin .copy, args := #[x, y], argTypes := #[t, t2] }) {v : Value} {w' : World}
  (h : (Builtin.copy_ #[t, t2] o.type #[Act.eval ⟨tm, ds⟩ x, Act.eval ⟨tm, ds⟩ y]).run P w = .ok v w') : (execOp (Act.eval ⟨tm, ds⟩) o).run P w = .ok (.value v) w' := by
 simp [execOp, ho, resolve, invoke, builtin, h]
theorem qNH {t t2 ty ty2 s id off len : Nat} {cap : Option Nat} {x y : Operand} {es news : List (List T)} {ay : AV} (hsl : slO P t = some ty) (hsz : O7 P ty = some s) (hpos : 0 < s) (h : Bt w0 B κ X μ st tm w) (hg : Gl Γ w X) (ho : o.op = .call { callee := .builtin .copy, args := #[x, y], argTypes := #[t, t2] }) (kx : Ak x = true) (ky : Ak y = true)
  (hx : ev Γ st.env x = some (.ls id off len cap)) (hl : A2 st.hp id = some (.sl ty2 s es)) (hy : ev Γ st.env y = some ay) (hnews : Br st.hp ay = some news) (hw : Ce s news) :
  Au P w0 B κ X o (.t (.v (.int .i64 (min len news.length : Nat)))) ⟨st.env, Gf id (.sl ty2 s (es.take off ++ news.take (min len news.length) ++ es.drop (off + min len news.length))) st.hp⟩ tm w ds := by
 have hrb := B6 (ds := ds) h hg hx kx
 have hrx := B6 (ds := ds) h hg hy ky
 have hreg := h.reg id _ hl
 have hid : st.sh id ≠ none := by simp [Fb hl]
 obtain ⟨oa, c2, vs, hvx, hels, hone, hsrc⟩ := Xm h hrx hnews hw
 obtain ⟨s2, n2, hs2, hcase⟩ := hrb.ls_inv
 rw [Fb hl] at hs2
 simp only [B7.sh, Option.some.injEq, Sh.sl.injEq] at hs2
 obtain ⟨rfl, rfl⟩ := hs2
 have hfc0 : (Builtin.firstCells s 0 (.slice oa news.length c2)).run P w = .ok #[] w := by
  cases oa <;> simp [Builtin.firstCells, loadCells, loadCellsFrom]
 -- nothing is copied
 have zero : ∀ (ab : Option Addr) (cb : Nat), Act.eval ⟨tm, ds⟩ x = .slice ab len cb → min len news.length = 0 → Au P w0 B κ X o (.t (.v (.int .i64 (min len news.length : Nat)))) ⟨st.env, Gf id (.sl ty2 s (es.take off ++ news.take (min len news.length) ++ es.drop (off + min len news.length))) st.hp⟩ tm w ds := by
  intro ab cb hv h0
  have hrun : (Builtin.copy_ #[t, t2] o.type #[Act.eval ⟨tm, ds⟩ x, Act.eval ⟨tm, ds⟩ y]).run P w = .ok (goInt 0) w := by
   rw [hv, hvx]
   have hm0 : Nat.min news.length len = 0 := (Nat.min_comm news.length len).trans h0
   simp only [Builtin.copy_, Sem.run_bind, List.getElem?_toArray, List.getElem?_cons_zero, List.getElem?_cons_succ, run_underlying (By hsl), Result.andThen_ok, Dk hsz, Sem.run_pure, Builtin.lenOf, hm0, hfc0]
   cases ab <;> simp [storeCells]
  rw [h0, List.take_zero, List.append_nil, Nat.add_zero, List.take_append_drop, qB9 hl]
  exact Au.same h (qCp ho hrun) (.t _ _ (.v _))
 rcases hcase with ⟨hm, ⟨ab, hvb⟩, _, rfl, _⟩ | ⟨g, m, cb, ad, hm, hvb, hle, hlc, hcm, hfit, hfull, _, had⟩
 ·exact zero ab 0 hvb (Nat.zero_min _)
 ·by_cases h0 : min len news.length = 0
  ·exact zero (some ad) cb hvb h0
  ·have hlen : 0 < len := by
    rcases Nat.eq_zero_or_pos len with h | h
    ·subst h; exact absurd (Nat.zero_min _) h0
    ·exact h
   have hnl : 0 < news.length := by
    rcases Nat.eq_zero_or_pos news.length with h | h
    ·rw [h] at h0; exact absurd (Nat.min_zero _) h0
    ·exact h
   have hadg := had (.inl (by omega))
   subst hadg
   obtain ⟨bb, boff, rfl, hcell⟩ := hsrc (List.length_pos_iff.1 hnl)
   generalize hn : min len news.length = n at *
   have hnlen : n ≤ len := by rw [← hn]; exact Nat.min_le_left _ _
   have hnnew : n ≤ news.length := by rw [← hn]; exact Nat.min_le_right _ _
   obtain ⟨arr, rest, us, hheap, hsza, helsr, harr⟩ := q9S hreg hpos hm
   have helst := q2u hels n
   have hvn : (vs.take n).length = n := by simp; rw [← hels.1]; exact Nat.min_eq_left hnnew
   have hfl : (vs.take n).flatten.length = n * s := by rw [C4 helst.2.1, hvn]
   have hpre : ∀ (j : Nat) (v : Value), (vs.take n).flatten[j]? = some v → vs.flatten[j]? = some v := fun j v hv => by
    have e : vs.flatten = (vs.take n).flatten ++ (vs.drop n).flatten := by rw [← List.flatten_append, List.take_append_drop]
    rw [e, List.getElem?_append_left (List.getElem?_eq_some_iff.1 hv).1]; exact hv
   have hfc := run_firstCells_some (P := P) w s n ⟨bb, boff, none⟩ news.length c2 (vs.take n).flatten hfl (fun j v hv => by rw [Addr.add_lit]; exact hcell j v (hpre j v hv))
   have h1 : ∀ u ∈ (vs.take n).flatten, u.oneCell' = true := fun u hu => by
    obtain ⟨v, hv, hu⟩ := List.mem_flatten.1 hu
    exact hone v (List.mem_of_mem_take hv) u hu
   have hlu : us.flatten.length = es.length * s := by rw [C4 helsr.2.1, helsr.1]
   have hofit : off * s + (vs.take n).flatten.length ≤ arr.size := by
    have hA := congrArg List.length harr
    simp only [Array.length_toList, List.length_append] at hA
    rw [hfl, ← Nat.add_mul]
    have : (off + n) * s ≤ es.length * s := Nat.mul_le_mul_right _ (by omega)
    omega
   have hst := run_storeCells_at P g (off * s) ty2 (vs.take n).flatten 0 arr w hheap (by simpa using hofit) h1
   simp only [Nat.add_zero] at hst
   have hrun : (Builtin.copy_ #[t, t2] o.type #[Act.eval ⟨tm, ds⟩ x, Act.eval ⟨tm, ds⟩ y]).run P w = .ok (goInt n) (w.setRow g (arr.toList.take (off * s) ++ (vs.take n).flatten ++ arr.toList.drop (off * s + (vs.take n).flatten.length)).toArray) := by
    rw [hvb, hvx]
    have hm0 : Nat.min news.length len = n := (Nat.min_comm news.length len).trans hn
    simp only [Builtin.copy_, Sem.run_bind, List.getElem?_toArray, List.getElem?_cons_zero, List.getElem?_cons_succ, run_underlying (By hsl), Result.andThen_ok, Dk hsz, Sem.run_pure, Builtin.lenOf, hm0, hfc]
    simp [hst]
   have huf : ∀ k, us.flatten.take (k * s) = (us.take k).flatten := fun k => by
    by_cases hk : k ≤ us.length
    ·have e : us.flatten = (us.take k).flatten ++ (us.drop k).flatten := by rw [← List.flatten_append, List.take_append_drop]
     have hl2 : (us.take k).flatten.length = k * s := by rw [C4 (q2u helsr k).2.1]; simp; rw [Nat.min_eq_left hk]
     rw [e, List.take_append_of_le_length (by omega), List.take_of_length_le (by omega)]
    ·rw [List.take_of_length_le (by rw [C4 helsr.2.1]; exact Nat.mul_le_mul_right _ (by omega)), List.take_of_length_le (by omega)]
   have hud : us.flatten.drop ((off + n) * s) = (us.drop (off + n)).flatten := by
    have e : us.flatten = (us.take (off + n)).flatten ++ (us.drop (off + n)).flatten := by rw [← List.flatten_append, List.take_append_drop]
    have hl2 : (us.take (off + n)).flatten.length = (off + n) * s := by rw [C4 (q2u helsr (off + n)).2.1]; simp; rw [Nat.min_eq_left (by rw [← helsr.1]; omega)]
    rw [e, List.drop_append_of_le_length (by omega), List.drop_of_length_le (by omega), List.nil_append]
   have hul : us.flatten.length = es.length * s := hlu
   have hon : (off + n) * s ≤ es.length * s := Nat.mul_le_mul_right _ (by omega)
   have hoo : off * s ≤ es.length * s := Nat.mul_le_mul_right _ (by omega)
   have hta : arr.toList.take (off * s) = (us.take off).flatten := by
    rw [harr, List.take_append_of_le_length (by omega), huf]
   have hda : arr.toList.drop (off * s + (vs.take n).flatten.length) = (us.drop (off + n)).flatten ++ rest := by
    rw [hfl, ← Nat.add_mul, harr, List.drop_append_of_le_length (by omega), hud]
   have hsz2 : (arr.toList.take (off * s) ++ (vs.take n).flatten ++ arr.toList.drop (off * s + (vs.take n).flatten.length)).toArray.size = arr.size := q6J rfl hofit
   have hsh : (B7.sl ty2 s (es.take off ++ news.take n ++ es.drop (off + n))).sh = (B7.sl ty2 s es).sh := by
    simp only [B7.sh, List.length_append, List.length_take, List.length_drop]
    rw [show min off es.length + min n news.length + (es.length - (off + n)) = es.length by rw [Nat.min_eq_left (by omega), Nat.min_eq_left hnnew]; omega]
   obtain ⟨hsim, hs'⟩ := h.setReg hl hsh hm (w' := w.setRow g (arr.toList.take (off * s) ++ (vs.take n).flatten ++ arr.toList.drop (off * s + (vs.take n).flatten.length)).toArray) rfl rfl rfl (by simp) (fun j hj => setRow_other w g j _ hj) (fun hs' => by
    refine qEH (rest := rest) (by rw [hsz2, hsza]; exact hm) (setRow_heap w g arr _ ty2 _ hheap) ((((q2u helsr off).append helst).append (qHX helsr (off + n))).mono hs' fun _ hx => hx) ?_
    simp only [List.flatten_append]
    rw [hta, hda, List.append_assoc, List.append_assoc, List.append_assoc])
   exact ⟨_, goInt n, _, μ, X, qCp ho hrun, .inl rfl, hsim, .t _ _ (.v _), fun _ hx => hx, hs', fun _ hx => .inl hx⟩
end
end Go.Lg
namespace Go.Lg
open Go
section
variable {P : Program} {Γ : Tables} {w0 : World} {B : Nat} {κ : Da} {X : Nat → Prop} {μ : Da} {st : St} {tm : Array Value} {w : World} {ds : List Deferred} {o : Oper}
def q9W : Value → Lit
 | .int k n => .int k n
 | .bool b => .bool b
 | _ => .nil
theorem q5N {α β : Type} (f : α → Option β) (g : α → β) : ∀ l : List α, (∀ x ∈ l, f x = some (g x)) → l.mapM f = some (l.map g)
 | [], _ => rfl
 | a :: l, h => by
  rw [List.mapM_cons, h a List.mem_cons_self, q5N f g l fun x hx => h x (List.mem_cons_of_mem _ hx)]
  rfl
theorem q6M : ∀ {ks : List (Option IntKind)} {vs : List Value}, q2p ks vs → vs.length = ks.length
 | [], [], _ => rfl
 | k :: ks, v :: vs, h => by simp [q6M h.2]
 | [], _ :: _, h => h.elim
 | _ :: _, [], h => h.elim
theorem q7T : ∀ {n : Nat} {ks : List (Option IntKind)} {vs : List Value}, q2p ks vs → q2p (ks.drop n) (vs.drop n)
 | 0, _, _, h => h
 | n + 1, [], [], _ => trivial
 | n + 1, k :: ks, v :: vs, h => q7T (n := n) h.2
 | n + 1, [], _ :: _, h => h.elim
 | n + 1, _ :: _, [], h => h.elim
theorem q7U : ∀ {n : Nat} {ks : List (Option IntKind)} {vs : List Value}, q2p ks vs → q2p (ks.take n) (vs.take n)
 | 0, ks, vs, _ => by simp [q2p]
 | n + 1, [], [], _ => trivial
 | n + 1, k :: ks, v :: vs, h => ⟨h.1, q7U (n := n) h.2⟩
 | n + 1, [], _ :: _, h => h.elim
 | n + 1, _ :: _, [], h => h.elim
theorem q8A {α : Type} (s : Nat) (l : List α) : ∀ n, n * s ≤ l.length → ((List.range n).map fun i => (l.drop (i * s)).take s).flatten = l.take (n * s)
 | 0, _ => by simp
 | n + 1, h => by
  rw [Nat.add_mul, Nat.one_mul] at h
  rw [List.range_succ, List.map_append, List.flatten_append, q8A s l n (by omega), Nat.add_mul, Nat.one_mul, List.take_add]
  simp
theorem qBA {α : Type} (l : List α) : ∀ (fs : List Field) (off : Nat), q86 P fs off l.length = true → off ≤ l.length → (fs.map fun f => (l.drop f.offset).take (P.cellsOf f.type)).flatten = l.drop off
 | [], off, h, _ => by
  simp only [q86, beq_iff_eq] at h
  subst h
  simp
 | f :: fs, off, h, ho => by
  simp only [q86, Bool.and_eq_true, beq_iff_eq] at h
  obtain ⟨h1, h2⟩ := h
  have hle : ∀ (fs : List Field) (off : Nat), q86 P fs off l.length = true → off ≤ l.length := by
   intro fs
   induction fs with
   | nil => intro off h; simp only [q86, beq_iff_eq] at h; omega
   | cons g gs ih =>
    intro off h
    simp only [q86, Bool.and_eq_true, beq_iff_eq] at h
    have := ih _ h.2
    omega
  rw [List.map_cons, List.flatten_cons, qBA l fs _ h2 (hle _ _ h2), h1, ← List.drop_drop, List.take_append_drop]
theorem q1k : ∀ (d : Nat) (t : TypeId) (ks : List (Option IntKind)), q6F P d t ks = true → ∀ vs, q2p ks vs → P.keyLits d t vs = some (vs.map q9W)
 | 0, _, _, h, _, _ => by simp [q6F] at h
 | d + 1, t, ks, h, vs, hv => by
  simp only [q6F] at h
  split at h
  ·rename_i hu
   have := of_decide_eq_true h
   subst this
   match vs, hv with
   | [.bool b], _ => simp [Program.keyLits, hu, q9W]
   | [.int _ _], h => exact h.1.elim
   | v :: u :: vs, h => exact h.2.elim
  ·rename_i q hu
   have := of_decide_eq_true h
   subst this
   match vs, hv with
   | [.int j n], h =>
    obtain ⟨⟨rfl, hw⟩, _⟩ := h
    simp [Program.keyLits, hu, q9W, hw]
   | v :: u :: vs, h => exact h.2.elim
  ·rename_i n e hu
   simp only [Bool.and_eq_true, beq_iff_eq] at h
   obtain ⟨⟨h1, h2⟩, h3⟩ := h
   have hl := q6M hv
   rw [List.all_eq_true] at h3
   have hm := q5N (fun i => P.keyLits d e ((vs.drop (i * P.cellsOf e)).take (P.cellsOf e))) (fun i => ((vs.drop (i * P.cellsOf e)).take (P.cellsOf e)).map q9W) (List.range n) fun i hi => q1k d e _ (h3 i hi) _ (q7U (q7T hv))
   simp only [Program.keyLits, hu]
   rw [if_pos (by omega), hm]
   simp only [Option.map_some, Option.some.injEq]
   have := q8A (P.cellsOf e) (vs.map q9W) n (by rw [List.length_map]; omega)
   rw [List.take_of_length_le (by rw [List.length_map]; omega)] at this
   rw [← this]
   simp [List.map_drop, List.map_take]
  ·rename_i fs hu
   simp only [Bool.and_eq_true, beq_iff_eq] at h
   obtain ⟨⟨⟨h1, h2⟩, h3⟩, h4⟩ := h
   have hl := q6M hv
   rw [List.all_eq_true] at h4
   have hm := q5N (fun f : Field => P.keyLits d f.type ((vs.drop f.offset).take (P.cellsOf f.type))) (fun f => ((vs.drop f.offset).take (P.cellsOf f.type)).map q9W) fs.toList fun f hf => q1k d f.type _ (h4 f hf) _ (q7U (q7T hv))
   simp only [Program.keyLits, hu]
   rw [if_pos ⟨by omega, h2⟩, hm]
   simp only [Option.map_some, Option.some.injEq]
   have := qBA (P := P) (vs.map q9W) fs.toList 0 (by rw [List.length_map, hl]; exact h3) (Nat.zero_le _)
   rw [List.drop_zero] at this
   rw [← this]
   simp [List.map_drop, List.map_take]
  ·cases h
theorem qCq : ∀ {ks : List (Option IntKind)} {as bs : List Value}, q2p ks as → q2p ks bs → (q4G as bs = true ↔ as.map q9W = bs.map q9W)
 | [], [], [], _, _ => by simp [q4G]
 | k :: ks, a :: as, b :: bs, h, g => by
  have ih := qCq h.2 g.2
  simp only [q4G, Bool.and_eq_true, List.map_cons, List.cons.injEq, ih]
  refine and_congr_left fun _ => ?_
  match k, a, b, h.1, g.1 with
  | some k, .int j n, .int i m, ⟨e1, _⟩, ⟨e2, _⟩ =>
   subst e1
   subst e2
   simp [qL4, q9W]
  | none, .bool x, .bool y, _, _ => simp [qL4, q9W]
 | [], _ :: _, _, h, _ => h.elim
 | [], [], _ :: _, _, g => g.elim
 | _ :: _, [], _, h, _ => h.elim
 | _ :: _, _ :: _, [], _, g => g.elim
theorem qFQ : ∀ {cs : List AV} {xs as : List Value}, Jc w X μ st.sh cs xs → Af (cs.map qL6) = some as → xs = as
 | [], xs, as, h, ha => by
  have := h.nil_inv; subst this
  simpa [Af] using ha
 | c :: cs, xs, as, h, ha => by
  obtain ⟨y, ys, rfl, h1, h2⟩ := h.cons_inv
  match c, h1, ha with
  | .t (.v x), h1, ha =>
   simp only [List.map_cons, qL6, Af, Option.map_eq_some_iff] at ha
   obtain ⟨bs, hb, rfl⟩ := ha
   rw [qFQ h2 hb, h1.t_inv.v_inv]
theorem qFR : ∀ {cs : List T} {xs as : List Value}, F3 w X cs xs → Af (cs.map qL5) = some as → xs = as
 | [], xs, as, h, ha => by
  have := h.nil_inv; subst this
  simpa [Af] using ha
 | c :: cs, xs, as, h, ha => by
  obtain ⟨y, ys, rfl, h1, h2⟩ := h.cons_inv
  match c, h1, ha with
  | .v x, h1, ha =>
   simp only [List.map_cons, qL5, Af, Option.map_eq_some_iff] at ha
   obtain ⟨bs, hb, rfl⟩ := ha
   rw [qFR h2 hb, h1.v_inv]
theorem qFS {a : AV} {x : Value} {as : List Value} (h : AR w X μ st.sh a x) (ha : qE1 a = some as) : x = .agg as.toArray := by
 match a, h, ha with
 | .ag cs, h, ha =>
  obtain ⟨xs, rfl, _, hr⟩ := h.ag_inv
  rw [qFQ hr ha]
 | .t (.agg ts), h, ha =>
  obtain ⟨xs, rfl, _, hr⟩ := h.t_inv.agg_inv
  rw [qFR hr ha]
theorem qCr {d : Nat} {t : TypeId} {ks : List (Option IntKind)} (hw : (match P.underlying t with | some (.array _ _) | some (.struct _) => true | _ => false) = true) (hl : q6F P (d + 1) t ks = true) : ks.length = P.cellsOf t := by
 simp only [q6F] at hl
 split at hw
 ·rename_i hu
  simp only [hu, Bool.and_eq_true, beq_iff_eq] at hl
  exact hl.1.1
 ·rename_i hu
  simp only [hu, Bool.and_eq_true, beq_iff_eq] at hl
  exact hl.1.1.1
 ·cases hw
theorem qNI {t u : TypeId} {pos : Bool} {ks : List (Option IntKind)} {x y : Operand} {a b : AV} {as bs : List Value} (h : Bt w0 B κ X μ st tm w) (hg : Gl Γ w X) (ho : o.op = .binOp (if pos then .eql else .neq) t x y u)
  (hw : (match P.underlying t with | some (.array _ _) | some (.struct _) => true | _ => false) = true) (hk : P.keyTypeAt 20 t = true) (hl : q6F P 20 t ks = true) (hq : P.eqGuardType P.depth t = false) (kx : Ak x = true) (ky : Ak y = true)
  (hx : ev Γ st.env x = some a) (hy : ev Γ st.env y = some b) (ha : qE1 a = some as) (hb : qE1 b = some bs) (oa : q2p ks as) (ob : q2p ks bs) : Au P w0 B κ X o (.t (.v (.bool (if pos then q4G as bs else !q4G as bs)))) st tm w ds := by
 have h1 := qFS (B6 (ds := ds) h hg hx kx) ha
 have h2 := qFS (B6 (ds := ds) h hg hy ky) hb
 have hcell : ks.length = P.cellsOf t := qCr (d := 19) hw hl
 have fm : ∀ {vs : List Value}, q2p ks vs → (Value.agg vs.toArray).formed P t = true := by
  intro vs hv
  have := q6M hv
  split at hw
  ·rename_i hu; simp [Value.formed, hu]; omega
  ·rename_i hu; simp [Value.formed, hu]; omega
  ·cases hw
 obtain ⟨r, hr, hiff⟩ := run_equalIn_deep 9980 20 t hk w 20 20 (.agg as.toArray) (.agg bs.toArray) _ _ (fm oa) (fm ob) (by simpa [Value.cells] using q1k 20 t ks hl as oa) (by simpa [Value.cells] using q1k 20 t ks hl bs ob)
 rw [← qCq oa ob] at hiff
 have hre : r = q4G as bs := by
  cases r <;> cases he : q4G as bs <;> simp_all
 subst hre
 have hr' : (Op.equal t (.agg as.toArray) (.agg bs.toArray)).run P w = .ok (q4G as bs) w := hr
 clear hr hiff
 refine Au.same h (v := .bool (if pos then q4G as bs else !q4G as bs)) ?_ (.t _ _ (.v _))
 generalize q4G as bs = r at *
 generalize as.toArray = A at *
 generalize bs.toArray = B2 at *
 have hG : ∀ op, (eqGuard op t x y (.agg A) (.agg B2)).run P w = .ok () w := by
  intro op
  cases op <;> simp [eqGuard, hq]
 cases pos
 ·simp only [execOp, ho, h1, h2, Bool.false_eq_true, ↓reduceIte, Sem.run_bind, hG, Result.andThen_ok, binOp, hr', Sem.run_pure]
 ·simp only [execOp, ho, h1, h2, ↓reduceIte, Sem.run_bind, hG, Result.andThen_ok, binOp, hr', Sem.run_pure]
end
end Go.Lg
namespace Go.Lg
open Go
section
variable {P : Program} {Γ : Tables} {w0 : World} {B : Nat} {κ : Da} {X : Nat → Prop} {μ : Da} {st : St} {tm : Array Value} {w : World} {ds : List Deferred} {o : Oper}
theorem Ft {α : Type} [DecidableEq α] {a : Option α} {b : α} (h : (a == some b) = true) : a = some b := by simpa using h
theorem To {c : Call} {b : Builtin} {ys : List Operand} {ts : List TypeId} (h1 : c.callee = .builtin b) (h2 : c.args.toList = ys) (h3 : c.argTypes.toList = ts) : c = { callee := .builtin b, args := ys.toArray, argTypes := ts.toArray } := by
 cases c with
 | mk cc ca ct => simp at h1 h2 h3; subst h1; subst h2; subst h3; simp
theorem qGU {k : Nat} {x : Operand} {c : Prop} {r : AV} {st1 : St} {d : Nat} (h : Bt w0 B κ X μ st tm w) (hg : Gl Γ w X) (hchk : Pm P (.len k x) o.op = true) (hk : Ak x = true) (hs : Ao Γ d (.len k x) st = some (c, r, st1)) (hc : c) : Au P w0 B κ X o r st1 tm w ds := by
 generalize hop : o.op = op at hchk
 simp only [Pm] at hchk
 split at hchk
 case h_2 => cases hchk
 split at hchk
 case h_2 => cases hchk
 rename_i cc _ _ _ y t e1 e2 e3
 simp only [Bool.and_eq_true] at hchk
 have := Ai hchk.1; subst this
 have he := To e1 e2 e3
 subst he
 simp only [Ao, Option.bind_eq_some_iff] at hs
 obtain ⟨a, ha, hs⟩ := hs
 split at hs
 case isFalse => cases hs
 rename_i hlk
 simp only [Option.map_eq_some_iff, Prod.mk.injEq] at hs
 obtain ⟨n, hn, _, rfl, rfl⟩ := hs
 refine qN5 h hg hop hk ha ?_ hn
 have h2 := hchk.2
 unfold qJL at hlk
 split at hlk
 ·simp only [Option.isSome_iff_exists] at h2
  obtain ⟨e, he⟩ := h2
  rw [By he]; rfl
 ·simp only [Option.isSome_iff_exists] at h2
  obtain ⟨e, he⟩ := h2
  rw [By he]; rfl
 ·simp only [Option.isSome_iff_exists] at h2
  obtain ⟨e, he⟩ := h2
  rw [By he]; rfl
 ·rw [Xg h2]; rfl
 ·simp only [Option.isSome_iff_exists] at h2
  obtain ⟨e, he⟩ := h2
  rw [S7 (k := e.1) (e := e.2) he]; rfl
 ·simp only [Option.isSome_iff_exists] at h2
  obtain ⟨e, he⟩ := h2
  rw [S7 (k := e.1) (e := e.2) he]; rfl
 ·cases hlk
set_option maxHeartbeats 1000000 in
theorem S9 {io : Cb} {d : Nat} {c : Prop} {r : AV} {st1 : St} (hnt : ∀ ty s b x, io ≠ .appT ty s b x) (hns : ∀ id n a x, io ≠ .stR id n a x) (hnl : ∀ id n g a, io ≠ .ldR id n g a) (hn4 : ∀ n g a, io ≠ .ldT n g a) (hn5 : ∀ kt zv ok m k, io ≠ .lkT kt zv ok m k) (h : Bt w0 B κ X μ st tm w) (hg : Gl Γ w X) (hchk : Pm P io o.op = true) (hok : io.opds.all Ak = true) (hd : d < 1000000) (hs : Ao Γ d io st = some (c, r, st1)) (hc : c) : Au P w0 B κ X o r st1 tm w ds := by
 cases io with
 | mv x =>
  have hk : Ak x = true := by simpa [Cb.opds] using hok
  generalize hop : o.op = op at hchk
  simp only [Ao, Option.map_eq_some_iff, Prod.mk.injEq] at hs
  obtain ⟨a, ha, _, rfl, rfl⟩ := hs
  simp only [Pm] at hchk
  split at hchk
  ·have := Ai hchk; subst this
   exact qN2 h hg (.inl hop) ha hk
  ·have := Ai hchk; subst this
   exact qN2 h hg (.inr hop) ha hk
  ·cases hchk
 | pick c1 a b =>
  generalize hop : o.op = op at hchk
  simp only [Pm] at hchk
  split at hchk
  case h_2 => cases hchk
  simp only [Bool.and_eq_true] at hchk
  obtain ⟨⟨h1, h2⟩, h3⟩ := hchk
  have := Ai h1; subst this
  have := Ai h2; subst this
  have := Ai h3; subst this
  simp only [Cb.opds, List.all_cons, Bool.and_eq_true] at hok
  simp only [Ao] at hs
  split at hs
  ·rename_i p va vb e1 e2 e3
   simp only [Option.some.injEq, Prod.mk.injEq] at hs
   obtain ⟨_, rfl, rfl⟩ := hs
   exact qL9 h hg hop e1 e2 e3 hok.1 hok.2.1 hok.2.2.1
  ·cases hs
 | alloc fz zs =>
  generalize hop : o.op = op at hchk
  simp only [Pm] at hchk
  split at hchk
  case h_2 => cases hchk
  simp only [Bool.and_eq_true] at hchk
  obtain ⟨h1, h2⟩ := hchk
  rename_i t
  have hz : E2 P t = some zs := by
   split at h1
   ·rename_i z hz; rw [hz, S5 h1]
   ·cases h1
  simp only [Ao] at hs
  split at hs <;> simp only [Option.some.injEq, Prod.mk.injEq] at hs <;> obtain ⟨rfl, rfl, rfl⟩ := hs
  ·exact qE7 h hop hz h2
  ·exact qJO h hop hz h2 hc hd
 | box fz x =>
  have hk : Ak x = true := by simpa [Cb.opds] using hok
  generalize hop : o.op = op at hchk
  simp only [Pm] at hchk
  split at hchk
  case h_2 => cases hchk
  have := Ai hchk; subst this
  simp only [Ao, Option.bind_eq_some_iff] at hs
  obtain ⟨a, ha, hs⟩ := hs
  split at hs
  ·simp only [Option.map_eq_some_iff, Prod.mk.injEq] at hs
   obtain ⟨ts, hts, rfl, rfl, rfl⟩ := hs
   exact qHQ h hg hop hk ha hts hc
  ·simp only [Option.some.injEq, Prod.mk.injEq] at hs
   obtain ⟨rfl, rfl, rfl⟩ := hs
   exact qNA h hg hop hk ha hc.2 hc.1 hd
 | build qs =>
  generalize hop : o.op = op at hchk
  simp only [Pm] at hchk
  split at hchk
  case h_2 => cases hchk
  split at hchk
  ·rename_i fs zs hf hz
   simp only [Ao, Option.map_eq_some_iff, Prod.mk.injEq] at hs
   obtain ⟨as, ha, rfl, rfl, rfl⟩ := hs
   exact qJP h hg hop hok hf hz hchk ha hc.1 hc.2
  ·rename_i zs hf hz
   simp only [Ao, Option.map_eq_some_iff, Prod.mk.injEq] at hs
   obtain ⟨as, ha, rfl, rfl, rfl⟩ := hs
   simp only [Bool.and_eq_true] at hchk
   exact qCg h hg hop hok hchk.1.1 hchk.1.2 hz hchk.2 ha hc.1 hc.2
  ·cases hchk
 | bsl fz ty s xs =>
  generalize hop : o.op = op at hchk
  simp only [Pm] at hchk
  split at hchk
  case h_2 => cases hchk
  rename_i t n ps
  simp only [Bool.and_eq_true, decide_eq_true_eq] at hchk
  obtain ⟨⟨⟨⟨⟨⟨⟨h1, h2⟩, h3⟩, h4⟩, h5⟩, h6⟩, h7⟩, h8⟩ := hchk
  have h4 : n = xs.length := by simpa using h4
  obtain ⟨zs, hz, hzl⟩ : ∃ zs, E2 P ty = some zs ∧ zs.length = s := by
   split at h8
   ·rename_i z hz; exact ⟨z, hz, by simpa using h8⟩
   ·cases h8
  simp only [Ao, Option.bind_eq_some_iff, Option.map_eq_some_iff] at hs
  obtain ⟨as, ha, es, hes, hs⟩ := hs
  split at hs <;> simp only [Prod.mk.injEq] at hs <;> obtain ⟨rfl, rfl, rfl⟩ := hs
  ·exact qHR h hg hop hok (Ft h1) (Ft h2) h4 h5 hz hzl h3 h7 ha hes hc
  ·exact qNB h hg hop hok (Ft h1) (Ft h2) h4 h5 hz hzl h3 h7 ha hes hc.2 hc.1 hd
 | load n g a =>
  have hk : Ak a = true := by simpa [Cb.opds] using hok
  generalize hop : o.op = op at hchk
  simp only [Pm] at hchk
  split at hchk
  case h_2 => cases hchk
  simp only [Bool.and_eq_true] at hchk
  obtain ⟨⟨⟨h1, h2⟩, h3⟩, h4⟩ := hchk
  have := Ai h1; subst this
  simp only [Ao] at hs
  split at hs
  ·rename_i cs k e1
   simp only [Option.some.injEq, Prod.mk.injEq] at hs
   obtain ⟨rfl, rfl, rfl⟩ := hs
   exact qGM h hg hop e1 hk (Ft h2) (Ft h3) h4 hc
  ·rename_i id i k e1
   split at hs
   ·rename_i ty s es hl
    simp only [Option.some.injEq, Prod.mk.injEq] at hs
    obtain ⟨rfl, rfl, rfl⟩ := hs
    exact qGO h hg hop e1 hk (Ft h2) (Ft h3) h4 hl hc.1 hc.2
   ·rename_i cs hl
    simp only [Option.some.injEq, Prod.mk.injEq] at hs
    obtain ⟨rfl, rfl, rfl⟩ := hs
    exact qGN h hg hop e1 hk (Ft h2) (Ft h3) h4 hl hc.2
   ·cases hs
  ·cases hs
 | store n a x =>
  generalize hop : o.op = op at hchk
  simp only [Pm] at hchk
  split at hchk
  case h_2 => cases hchk
  simp only [Bool.and_eq_true] at hchk
  obtain ⟨⟨h1, h2⟩, h3⟩ := hchk
  have := Ai h1; subst this
  have := Ai h2; subst this
  simp only [Cb.opds, List.all_cons, Bool.and_eq_true] at hok
  simp only [Ao, Option.bind_eq_some_iff] at hs
  obtain ⟨v, hv, hs⟩ := hs
  split at hs
  ·rename_i id i k e1
   split at hs
   ·rename_i ty s es hl
    simp only [Option.map_eq_some_iff, Prod.mk.injEq] at hs
    obtain ⟨ts, hts, rfl, rfl, rfl⟩ := hs
    obtain ⟨c1, c2, c3, c4⟩ := hc
    exact qEA h hg hop hok.1 hok.2.1 (Ft h3) e1 hv hl c1 c2 hts c3 c4
   ·rename_i cs hl
    simp only [Option.some.injEq, Prod.mk.injEq] at hs
    obtain ⟨rfl, rfl, rfl⟩ := hs
    obtain ⟨rfl, c2, c3, c4⟩ := hc
    exact qE9 h hg hop hok.1 hok.2.1 (Ft h3) e1 hv hl c2 c3 c4 (.inr trivial)
   ·cases hs
  ·cases hs
 | fadr off a =>
  have hk : Ak a = true := by simpa [Cb.opds] using hok
  generalize hop : o.op = op at hchk
  simp only [Pm] at hchk
  split at hchk
  case h_2 => cases hchk
  simp only [Bool.and_eq_true] at hchk
  obtain ⟨h1, h2⟩ := hchk
  have := Ai h1; subst this
  split at h2
  case h_2 => cases h2
  rename_i fs hu
  split at h2
  case h_2 => cases h2
  rename_i f hf
  simp only [Bool.and_eq_true, beq_iff_eq] at h2
  obtain ⟨h3, h4⟩ := h2
  obtain ⟨s, hz, hp⟩ : ∃ s, O7 P f.type = some s ∧ 0 < s := by
   split at h4
   ·rename_i s hz; exact ⟨s, hz, by simpa using h4⟩
   ·cases h4
  simp only [Ao] at hs
  split at hs
  ·rename_i cs k e1
   simp only [Option.some.injEq, Prod.mk.injEq] at hs
   obtain ⟨_, rfl, rfl⟩ := hs
   exact qLA h hg hop hk hu hf h3 hz hp e1
  ·rename_i id j k e1
   simp only [Option.some.injEq, Prod.mk.injEq] at hs
   obtain ⟨_, rfl, rfl⟩ := hs
   exact qGP h hg hop hk hu hf h3 hz hp e1
  ·cases hs
 | fld off n g x =>
  have hk : Ak x = true := by simpa [Cb.opds] using hok
  generalize hop : o.op = op at hchk
  simp only [Pm] at hchk
  split at hchk
  case h_2 => cases hchk
  simp only [Bool.and_eq_true] at hchk
  obtain ⟨h1, h2⟩ := hchk
  have := Ai h1; subst this
  split at h2
  case h_2 => cases h2
  rename_i fs hu
  split at h2
  case h_2 => cases h2
  rename_i f hf
  simp only [Bool.and_eq_true] at h2
  obtain ⟨⟨⟨h3, h4⟩, h5⟩, h6⟩ := h2
  simp only [Ao, Option.bind_eq_some_iff] at hs
  obtain ⟨a, ha, hs⟩ := hs
  split at hs
  ·simp only [Option.some.injEq, Prod.mk.injEq] at hs
   obtain ⟨rfl, rfl, rfl⟩ := hs
   exact qHN h hg hop hk hu hf (by simpa using h3) (Ft h4) (Ft h5) h6 ha hc
  ·simp only [Option.some.injEq, Prod.mk.injEq] at hs
   obtain ⟨rfl, rfl, rfl⟩ := hs
   exact qJN h hg hop hk hu hf (by simpa using h3) (Ft h4) (Ft h5) h6 ha hc
  ·cases hs
 | iadr s x i =>
  generalize hop : o.op = op at hchk
  simp only [Pm] at hchk
  split at hchk
  case h_2 => cases hchk
  simp only [Bool.and_eq_true] at hchk
  obtain ⟨⟨h1, h2⟩, h3⟩ := hchk
  have := Ai h1; subst this
  have := Ai h2; subst this
  simp only [Cb.opds, List.all_cons, Bool.and_eq_true] at hok
  split at h3
  case h_2 => cases h3
  rename_i e he
  simp only [Ao] at hs
  split at hs
  ·rename_i es cap nl k n e1 e2
   simp only [Option.some.injEq, Prod.mk.injEq] at hs
   obtain ⟨rfl, rfl, rfl⟩ := hs
   exact qHO h hg hop hok.1 hok.2.1 he (Ft h3) e1 e2 hc.1 hc.2.1 hc.2.2
  ·rename_i id off len cap k n e1 e2
   split at hs
   ·rename_i ty q es hl
    simp only [Option.some.injEq, Prod.mk.injEq] at hs
    obtain ⟨rfl, rfl, rfl⟩ := hs
    exact qGQ h hg hop hok.1 hok.2.1 he (Ft h3) e1 hl hc.1 e2 hc.2.1 hc.2.2
   ·cases hs
  ·rename_i id m k n e1 e2
   split at hs
   ·rename_i cs hl
    simp only [Option.some.injEq, Prod.mk.injEq] at hs
    obtain ⟨rfl, rfl, rfl⟩ := hs
    exact qGT h hg hop hok.1 hok.2.1 he (Ft h3) e1 hl hc.1 e2 hc.2.1 hc.2.2
   ·cases hs
  ·cases hs
 | iadT s x i =>
  generalize hop : o.op = op at hchk
  simp only [Pm] at hchk
  split at hchk
  case h_2 => cases hchk
  simp only [Bool.and_eq_true] at hchk
  obtain ⟨⟨h1, h2⟩, h3⟩ := hchk
  have := Ai h1; subst this
  have := Ai h2; subst this
  simp only [Cb.opds, List.all_cons, Bool.and_eq_true] at hok
  split at h3
  case h_2 => cases h3
  rename_i e he
  simp only [Ao] at hs
  split at hs
  ·rename_i es cap nl k n e1 e2
   simp only [Option.some.injEq, Prod.mk.injEq] at hs
   obtain ⟨rfl, rfl, rfl⟩ := hs
   exact qHO h hg hop hok.1 hok.2.1 he (Ft h3) e1 e2 hc.1 hc.2.1 hc.2.2
  ·cases hs
 | iadrA len s x i =>
  generalize hop : o.op = op at hchk
  simp only [Pm] at hchk
  split at hchk
  case h_2 => cases hchk
  simp only [Bool.and_eq_true] at hchk
  obtain ⟨⟨h1, h2⟩, h3⟩ := hchk
  have := Ai h1; subst this
  have := Ai h2; subst this
  simp only [Cb.opds, List.all_cons, Bool.and_eq_true] at hok
  split at h3
  case h_2 => cases h3
  rename_i n e he
  simp only [Bool.and_eq_true] at h3
  obtain ⟨h4, h3⟩ := h3
  have : n = len := by simpa using h4
  subst this
  simp only [Ao] at hs
  split at hs
  ·rename_i cs k kk n e1 e2
   simp only [Option.some.injEq, Prod.mk.injEq] at hs
   obtain ⟨rfl, rfl, rfl⟩ := hs
   exact qE3 h hg hop hok.1 hok.2.1 he (Ft h3) e1 e2 hc.1 hc.2
  ·rename_i id jj k kk n e1 e2
   simp only [Option.some.injEq, Prod.mk.injEq] at hs
   obtain ⟨rfl, rfl, rfl⟩ := hs
   exact qE4 h hg hop hok.1 hok.2.1 he (Ft h3) e1 e2 hc.1 hc.2
  ·cases hs
 | idxS x i =>
  generalize hop : o.op = op at hchk
  simp only [Pm] at hchk
  split at hchk
  case h_2 => cases hchk
  simp only [Bool.and_eq_true] at hchk
  obtain ⟨⟨h1, h2⟩, h3⟩ := hchk
  have := Ai h1; subst this
  have := Ai h2; subst this
  simp only [Cb.opds, List.all_cons, Bool.and_eq_true] at hok
  simp only [Ao] at hs
  split at hs
  ·rename_i s k n e1 e2
   simp only [Option.some.injEq, Prod.mk.injEq] at hs
   obtain ⟨rfl, rfl, rfl⟩ := hs
   exact qLB h hg hop hok.1 hok.2.1 h3 e1 e2 hc.1 hc.2
  ·cases hs
 | idxA len s g x i =>
  generalize hop : o.op = op at hchk
  simp only [Pm] at hchk
  split at hchk
  case h_2 => cases hchk
  simp only [Bool.and_eq_true] at hchk
  obtain ⟨⟨h1, h2⟩, h3⟩ := hchk
  have := Ai h1; subst this
  have := Ai h2; subst this
  simp only [Cb.opds, List.all_cons, Bool.and_eq_true] at hok
  split at h3
  case h_2 => cases h3
  rename_i n e he
  simp only [Bool.and_eq_true] at h3
  obtain ⟨⟨⟨h4, h5⟩, h6⟩, h7⟩ := h3
  have : n = len := by simpa using h4
  subst this
  simp only [Ao] at hs
  split at hs
  ·rename_i ts k nn e1 e2
   simp only [Option.some.injEq, Prod.mk.injEq] at hs
   obtain ⟨rfl, rfl, rfl⟩ := hs
   exact qHP h hg hop hok.1 hok.2.1 he (Ft h5) (Ft h6) h7 e1 e2 hc.1 hc.2.1 hc.2.2
  ·rename_i cs k nn e1 e2
   simp only [Option.some.injEq, Prod.mk.injEq] at hs
   obtain ⟨rfl, rfl, rfl⟩ := hs
   exact qGR h hg hop hok.1 hok.2.1 he (Ft h5) (Ft h6) h7 e1 e2 hc.1 hc.2.1 hc.2.2
  ·cases hs
 | bin op x y =>
  generalize hop : o.op = op' at hchk
  simp only [Pm] at hchk
  split at hchk
  case h_2 => cases hchk
  simp only [Bool.and_eq_true, decide_eq_true_eq] at hchk
  obtain ⟨⟨rfl, h1⟩, h2⟩ := hchk
  have := Ai h1; subst this
  have := Ai h2; subst this
  simp only [Cb.opds, List.all_cons, Bool.and_eq_true] at hok
  simp only [Ao] at hs
  split at hs
  ·rename_i a b e1 e2
   simp only [Option.map_eq_some_iff, Prod.mk.injEq] at hs
   obtain ⟨⟨c', r'⟩, hb, rfl, rfl, rfl⟩ := hs
   exact qN3 h hg hop e1 e2 hok.1 hok.2.1 hb hc
  ·cases hs
 | isNil pos x =>
  have hk : Ak x = true := by simpa [Cb.opds] using hok
  generalize hop : o.op = op' at hchk
  simp only [Pm] at hchk
  split at hchk
  case h_2 => cases hchk
  simp only [Bool.and_eq_true, decide_eq_true_eq, Bool.or_eq_true, Option.isSome_iff_exists] at hchk
  obtain ⟨⟨rfl, e, he⟩, hpq⟩ := hchk
  rename_i t p q u
  have hpq' : (p = x ∧ q = .const (.slice none 0 0)) ∨ (q = x ∧ p = .const (.slice none 0 0)) := by
   rcases hpq with ⟨h1, h2⟩ | ⟨h1, h2⟩
   ·exact .inl ⟨(Ai h1).symm, (Ai h2).symm⟩
   ·exact .inr ⟨(Ai h1).symm, (Ai h2).symm⟩
  simp only [Ao] at hs
  split at hs
  ·rename_i es cap nl e1
   split at hs
   ·rename_i b
    simp only [Option.some.injEq, Prod.mk.injEq] at hs
    obtain ⟨_, rfl, rfl⟩ := hs
    exact qFN h hg hop hpq' hk he e1 (.inl ⟨b, rfl, rfl⟩)
   ·simp only [Option.some.injEq, Prod.mk.injEq] at hs
    obtain ⟨rfl, rfl, rfl⟩ := hs
    exact qFN h hg hop hpq' hk he e1 (.inr ⟨hc, rfl⟩)
  ·cases hs
 | eqg pos ks x y =>
  generalize hop : o.op = op' at hchk
  simp only [Pm] at hchk
  split at hchk
  case h_2 => cases hchk
  simp only [Bool.and_eq_true, decide_eq_true_eq, Bool.not_eq_true'] at hchk
  obtain ⟨⟨⟨⟨⟨⟨rfl, h0⟩, h1⟩, h2⟩, h3⟩, h4⟩, h5⟩ := hchk
  have := Ai h4; subst this
  have := Ai h5; subst this
  simp only [Cb.opds, List.all_cons, Bool.and_eq_true] at hok
  simp only [Ao, Option.bind_eq_some_iff, Option.map_eq_some_iff, Prod.mk.injEq] at hs
  obtain ⟨as, ⟨a, e1, f1⟩, bs, ⟨b, e2, f2⟩, rfl, rfl, rfl⟩ := hs
  exact qNI h hg hop h0 h1 h2 h3 hok.1 hok.2.1 e1 e2 f1 f2 hc.1 hc.2
 | eqb pos x y =>
  generalize hop : o.op = op' at hchk
  simp only [Pm] at hchk
  split at hchk
  case h_2 => cases hchk
  simp only [Bool.and_eq_true, decide_eq_true_eq] at hchk
  obtain ⟨⟨⟨rfl, h0⟩, h1⟩, h2⟩ := hchk
  have := Ai h1; subst this
  have := Ai h2; subst this
  simp only [Cb.opds, List.all_cons, Bool.and_eq_true] at hok
  split at h0
  case h_2 => cases h0
  rename_i hu
  simp only [Ao] at hs
  split at hs
  ·rename_i a b e1 e2
   simp only [Option.some.injEq, Prod.mk.injEq] at hs
   obtain ⟨_, rfl, rfl⟩ := hs
   exact qN6 h hg hop hu hok.1 hok.2.1 e1 e2
  ·cases hs
 | un op x =>
  have hk : Ak x = true := by simpa [Cb.opds] using hok
  generalize hop : o.op = op' at hchk
  simp only [Pm] at hchk
  split at hchk
  case h_2 => cases hchk
  simp only [Bool.and_eq_true, decide_eq_true_eq] at hchk
  obtain ⟨rfl, h1⟩ := hchk
  have := Ai h1; subst this
  simp only [Ao] at hs
  split at hs
  ·rename_i a e1
   simp only [Option.map_eq_some_iff, Prod.mk.injEq] at hs
   obtain ⟨r', hb, _, rfl, rfl⟩ := hs
   exact qOX h hg hop e1 hk hb
  ·cases hs
 | conv k x =>
  have hk : Ak x = true := by simpa [Cb.opds] using hok
  generalize hop : o.op = op' at hchk
  simp only [Pm] at hchk
  split at hchk
  case h_2 => cases hchk
  simp only [Bool.and_eq_true] at hchk
  obtain ⟨⟨h1, h2⟩, h3⟩ := hchk
  have := Ai h1; subst this
  simp only [Ao] at hs
  split at hs
  ·rename_i k' n e1
   simp only [Option.some.injEq, Prod.mk.injEq] at hs
   obtain ⟨_, rfl, rfl⟩ := hs
   exact qLC h hg hop e1 hk h2 (Ft h3)
  ·cases hs
 | bytesStr x =>
  have hk : Ak x = true := by simpa [Cb.opds] using hok
  generalize hop : o.op = op' at hchk
  simp only [Pm] at hchk
  split at hchk
  case h_2 => cases hchk
  simp only [Bool.and_eq_true] at hchk
  obtain ⟨⟨h1, h2⟩, h3⟩ := hchk
  have := Ai h1; subst this
  split at h2
  case h_2 => cases h2
  rename_i e he
  simp only [Ao, Option.bind_eq_some_iff, Option.map_eq_some_iff, Prod.mk.injEq] at hs
  obtain ⟨es, ⟨a, ha, hes⟩, bs, hb, _, rfl, rfl⟩ := hs
  exact qEG h hg hop hk he (Ft h2) h3 ha hes hb
 | runeStr x =>
  have hk : Ak x = true := by simpa [Cb.opds] using hok
  generalize hop : o.op = op' at hchk
  simp only [Pm] at hchk
  split at hchk
  case h_2 => cases hchk
  simp only [Bool.and_eq_true, Option.isSome_iff_exists] at hchk
  obtain ⟨⟨h1, k, h2⟩, h3⟩ := hchk
  have := Ai h1; subst this
  simp only [Ao] at hs
  split at hs
  ·rename_i k' n e1
   simp only [Option.some.injEq, Prod.mk.injEq] at hs
   obtain ⟨_, rfl, rfl⟩ := hs
   exact qLD h hg hop e1 hk h2 h3
  ·cases hs
 | len k x => exact qGU h hg hchk (by simpa [Cb.opds] using hok) hs hc
 | cap x =>
  have hk : Ak x = true := by simpa [Cb.opds] using hok
  generalize hop : o.op = op' at hchk
  simp only [Pm] at hchk
  split at hchk
  case h_2 => cases hchk
  split at hchk
  case h_2 => cases hchk
  rename_i cc _ _ _ y t e1 e2 e3
  simp only [Bool.and_eq_true, Option.isSome_iff_exists] at hchk
  obtain ⟨h1, e, he⟩ := hchk
  have := Ai h1; subst this
  have hce := To e1 e2 e3
  subst hce
  simp only [Ao] at hs
  split at hs
  ·rename_i es cc nl e4
   simp only [Option.some.injEq, Prod.mk.injEq] at hs
   obtain ⟨_, rfl, rfl⟩ := hs
   exact qKM h hg hop hk he e4 (.inl ⟨es, nl, rfl⟩)
  ·rename_i id off len cc e4
   simp only [Option.some.injEq, Prod.mk.injEq] at hs
   obtain ⟨_, rfl, rfl⟩ := hs
   exact qKM h hg hop hk he e4 (.inr ⟨id, off, len, rfl⟩)
  ·cases hs
 | mmx mx xs =>
  generalize hop : o.op = op' at hchk
  simp only [Pm] at hchk
  split at hchk
  case h_2 => cases hchk
  rename_i cc
  simp only [Ao, Option.bind_eq_some_iff, Option.map_eq_some_iff, Prod.mk.injEq] at hs
  obtain ⟨as, ha, r', hr, rfl, rfl, rfl⟩ := hs
  split at hchk
  ·rename_i e1
   simp only [Bool.and_eq_true] at hchk
   obtain ⟨rfl, h1⟩ := hchk
   have := Nj h1; subst this
   have hce := To (ts := cc.argTypes.toList) e1 rfl rfl
   rw [hce] at hop
   exact qN8 h hg hop hok ha hr hc
  ·rename_i e1
   simp only [Bool.and_eq_true, Bool.not_eq_true'] at hchk
   obtain ⟨rfl, h1⟩ := hchk
   have := Nj h1; subst this
   have hce := To (ts := cc.argTypes.toList) e1 rfl rfl
   rw [hce] at hop
   exact qN7 h hg hop hok ha hr hc
  ·cases hchk
 | app fz ty s b x =>
  generalize hop : o.op = op' at hchk
  simp only [Pm] at hchk
  split at hchk
  case h_2 => cases hchk
  split at hchk
  case h_2 => cases hchk
  rename_i cc _ _ _ b' x' t t' e1 e2 e3
  simp only [Bool.and_eq_true, decide_eq_true_eq] at hchk
  obtain ⟨⟨⟨⟨⟨⟨⟨h1, h2⟩, h3⟩, h4⟩, h5⟩, h6⟩, h7⟩, h8⟩ := hchk
  have := Ai h1; subst this
  have := Ai h2; subst this
  have : t = t' := by simpa using h3
  subst this
  have hce := To e1 e2 e3
  subst hce
  have hel : Ej P t ty s := by
   refine ⟨Ft h4, Ft h5, h6, ?_, ?_⟩
   ·split at h7
    ·rename_i z hz; exact ⟨z, hz, by simpa using h7⟩
    ·cases h7
   ·split at h8
    ·rename_i n hn; exact ⟨n, hn, by simpa using h8⟩
    ·cases h8
  simp only [Cb.opds, List.all_cons, Bool.and_eq_true] at hok
  simp only [Ao, Option.bind_eq_some_iff] at hs
  obtain ⟨news, ⟨ax, hax, hnews⟩, a, ha, hs⟩ := hs
  split at hs
  ·rename_i es c1 nl
   split at hs <;> simp only [Option.some.injEq, Prod.mk.injEq] at hs <;> obtain ⟨rfl, rfl, rfl⟩ := hs
   ·rename_i hfz
    obtain ⟨cw, cw2, cc, cb, cz⟩ := hc
    exact (q9R (d := d) hel h hg hop hok.1 hok.2.1 hax hnews cw ha cw2 cc cb cz).1 hfz
   ·rename_i hfz
    obtain ⟨⟨cw, cw2, cc, cb, cz⟩, cd⟩ := hc
    exact (q9R (d := d) hel h hg hop hok.1 hok.2.1 hax hnews cw ha cw2 cc cb cz).2 (by simpa using hfz) cd hd
  ·rename_i id off len c1
   split at hs
   case h_2 => cases hs
   rename_i ty2 q es hl
   split at hs <;> simp only [Option.some.injEq, Prod.mk.injEq] at hs <;> obtain ⟨rfl, rfl, rfl⟩ := hs
   ·obtain ⟨cw, rfl, rfl, cc, cb, cz⟩ := hc
    exact (qB8 (d := d) hel h hg hop hok.1 hok.2.1 hax hnews cw ha hl cc cb cz).1
   ·obtain ⟨⟨cw, rfl, rfl, cc, cb, cz⟩, cd⟩ := hc
    exact (qB8 (d := d) hel h hg hop hok.1 hok.2.1 hax hnews cw ha hl cc cb cz).2 cd hd
  ·rename_i id len
   split at hs
   case h_2 => cases hs
   rename_i ty2 q es hl
   split at hs <;> simp only [Option.some.injEq, Prod.mk.injEq] at hs <;> obtain ⟨rfl, rfl, rfl⟩ := hs
   ·obtain ⟨cw, rfl, rfl, cb⟩ := hc
    exact (qCj (d := d) hel h hg hop hok.1 hok.2.1 hax hnews cw ha hl cb).1
   ·obtain ⟨⟨cw, rfl, rfl, cb⟩, cd⟩ := hc
    exact (qCj (d := d) hel h hg hop hok.1 hok.2.1 hax hnews cw ha hl cb).2 cd hd
  ·cases hs
 | appN ty s x =>
  generalize hop : o.op = op' at hchk
  simp only [Pm] at hchk
  split at hchk
  case h_2 => cases hchk
  split at hchk
  case h_2 => cases hchk
  rename_i cc _ _ _ b' x' t t' e1 e2 e3
  simp only [Bool.and_eq_true, decide_eq_true_eq] at hchk
  obtain ⟨⟨⟨⟨⟨⟨⟨h1, h2⟩, h3⟩, h4⟩, h5⟩, h6⟩, h7⟩, h8⟩ := hchk
  have := Ai h1; subst this
  have := Ai h2; subst this
  have : t = t' := by simpa using h3
  subst this
  have hce := To e1 e2 e3
  subst hce
  have hel : Ej P t ty s := by
   refine ⟨Ft h4, Ft h5, h6, ?_, ?_⟩
   ·split at h7
    ·rename_i z hz; exact ⟨z, hz, by simpa using h7⟩
    ·cases h7
   ·split at h8
    ·rename_i n hn; exact ⟨n, hn, by simpa using h8⟩
    ·cases h8
  have hk : Ak x = true := by simpa [Cb.opds] using hok
  simp only [Ao] at hs
  split at hs
  case h_2 => cases hs
  rename_i es c1 nl e4
  simp only [Option.some.injEq, Prod.mk.injEq] at hs
  obtain ⟨rfl, rfl, rfl⟩ := hs
  obtain ⟨cd, cw, cb⟩ := hc
  exact (q9R (d := d) (fz := false) hel h hg hop rfl hk e4 rfl cw (show ev Γ st.env (.const (.slice none 0 0)) = some (.t (.sl [] (some 0) (some true))) from rfl) (fun e he => by cases he) rfl (by simpa using cb) (.inr (.inr rfl))).2 rfl cd hd
 | appB b x =>
  generalize hop : o.op = op' at hchk
  simp only [Pm] at hchk
  split at hchk
  case h_2 => cases hchk
  split at hchk
  case h_2 => cases hchk
  rename_i cc _ _ _ b' x' t t' e1 e2 e3
  simp only [Bool.and_eq_true] at hchk
  obtain ⟨⟨⟨h1, h2⟩, h3⟩, h4⟩ := hchk
  have := Ai h1; subst this
  have := Ai h2; subst this
  have : t = t' := by simpa using h3
  subst this
  have hce := To e1 e2 e3
  subst hce
  split at h4
  case h_2 => cases h4
  rename_i ty hty
  simp only [Bool.and_eq_true] at h4
  obtain ⟨⟨h5, h7⟩, h8⟩ := h4
  have hel : Ej P t ty 1 1 := by
   refine ⟨hty, Ft h5, Nat.one_pos, ?_, ?_⟩
   ·split at h7
    ·rename_i z hz; exact ⟨z, hz, by simpa using h7⟩
    ·cases h7
   ·split at h8
    ·rename_i n hn; exact ⟨n, hn, by simpa using h8⟩
    ·cases h8
  simp only [Cb.opds, List.all_cons, Bool.and_eq_true] at hok
  simp only [Ao, Option.bind_eq_some_iff] at hs
  obtain ⟨news, ⟨ax, hax, hnews⟩, hs⟩ := hs
  split at hs
  ·rename_i es q nl hb
   simp only [Option.some.injEq, Prod.mk.injEq] at hs
   obtain ⟨rfl, rfl, rfl⟩ := hs
   obtain ⟨cw, cw2, cc, cb⟩ := hc
   exact qLG hel h hg hop hok.1 hok.2.1 hax hnews cw hb cw2 cc cb
  ·cases hs
 | appR fz ii ty b x =>
  generalize hop : o.op = op' at hchk
  simp only [Pm] at hchk
  split at hchk
  case h_2 => cases hchk
  split at hchk
  case h_2 => cases hchk
  rename_i cc _ _ _ b' x' t t' e1 e2 e3
  simp only [Bool.and_eq_true] at hchk
  obtain ⟨⟨⟨⟨⟨⟨h1, h2⟩, h3⟩, h4⟩, h5⟩, h7⟩, h8⟩ := hchk
  have := Ai h1; subst this
  have := Ai h2; subst this
  have : t = t' := by simpa using h3
  subst this
  have hce := To e1 e2 e3
  subst hce
  have hel : Ej P t ty 1 1 := by
   refine ⟨Ft h4, Ft h5, Nat.one_pos, ?_, ?_⟩
   ·split at h7
    ·rename_i z hz; exact ⟨z, hz, by simpa using h7⟩
    ·cases h7
   ·split at h8
    ·rename_i n hn; exact ⟨n, hn, by simpa using h8⟩
    ·cases h8
  simp only [Cb.opds, List.all_cons, Bool.and_eq_true] at hok
  simp only [Ao] at hs
  split at hs
  case h_2 => cases hs
  rename_i news _ _ id len hax hb
  split at hs
  case h_2 => cases hs
  rename_i t0 q es hl
  cases fz with
  | true =>
   simp only [if_true, Option.some.injEq, Prod.mk.injEq] at hs
   obtain ⟨rfl, rfl, rfl⟩ := hs
   obtain ⟨rfl, cw, rfl, rfl, cb⟩ := hc
   exact (q7Q (d := d) hel h hg hop hok.1 hok.2.1 hax rfl cw hb hl (by omega) (by unfold maxLen; omega)).1
  | false =>
   simp only [Bool.false_eq_true, if_false, Option.some.injEq, Prod.mk.injEq] at hs
   obtain ⟨rfl, rfl, rfl⟩ := hs
   obtain ⟨⟨rfl, cw, rfl, rfl, cb⟩, hd0⟩ := hc
   exact (q7Q hel h hg hop hok.1 hok.2.1 hax rfl cw hb hl (by omega) (by unfold maxLen; omega)).2 hd0 hd
 | appZ ty s zs b n =>
  generalize hop : o.op = op' at hchk
  simp only [Pm] at hchk
  split at hchk
  case h_2 => cases hchk
  split at hchk
  case h_2 => cases hchk
  rename_i cc _ _ _ b' n' t t' e1 e2 e3
  simp only [Bool.and_eq_true, decide_eq_true_eq] at hchk
  obtain ⟨⟨⟨⟨⟨⟨⟨⟨h1, h2⟩, h3⟩, h4⟩, h5⟩, h6⟩, h7⟩, h8⟩, h9⟩ := hchk
  have := Ai h1; subst this
  have := Ai h2; subst this
  have hce := To e1 e2 e3
  subst hce
  simp only [Cb.opds, List.all_cons, Bool.and_eq_true] at hok
  obtain ⟨hz, hzl⟩ : E2 P ty = some zs ∧ zs.length = s := by
   split at h6
   ·rename_i z hz
    simp only [Bool.and_eq_true] at h6
    have := S5 h6.1; subst this
    exact ⟨hz, by simpa using h6.2⟩
   ·cases h6
  have hel : Ej P t ty s := by
   refine ⟨Ft h3, Ft h4, h5, ⟨zs, hz, hzl⟩, ?_⟩
   split at h8
   ·rename_i n hn; exact ⟨n, hn, by simpa using h8⟩
   ·cases h8
  obtain ⟨ki, hki⟩ := Option.isSome_iff_exists.1 h9
  simp only [Ao] at hs
  split at hs
  ·rename_i es q nl k m f1 f2
   simp only [Option.some.injEq, Prod.mk.injEq] at hs
   obtain ⟨rfl, rfl, rfl⟩ := hs
   exact qLH hel hz h7 hki h hg hop hok.1 hok.2.1 f1 f2 hc.2.1 hc.2.2.1.1 hc.2.2.1.2 hc.2.2.2 hc.1 hd
  ·cases hs
 | cpy s x y =>
  generalize hop : o.op = op' at hchk
  simp only [Pm] at hchk
  split at hchk
  case h_2 => cases hchk
  split at hchk
  case h_2 => cases hchk
  rename_i cc _ _ _ x' y' t t' e1 e2 e3
  simp only [Bool.and_eq_true, decide_eq_true_eq] at hchk
  obtain ⟨⟨⟨h1, h2⟩, h3⟩, h4⟩ := hchk
  have := Ai h1; subst this
  have := Ai h2; subst this
  have hce := To e1 e2 e3
  subst hce
  simp only [Cb.opds, List.all_cons, Bool.and_eq_true] at hok
  obtain ⟨ty, hsl, hsz⟩ : ∃ ty, slO P t = some ty ∧ O7 P ty = some s := by
   split at h3
   ·rename_i ty hty; exact ⟨ty, hty, Ft h3⟩
   ·cases h3
  simp only [Ao] at hs
  split at hs
  case h_2 => cases hs
  rename_i id off len cap f1
  split at hs
  case h_2 => cases hs
  rename_i ty2 q es f2
  obtain ⟨news, hn, he⟩ := Option.map_eq_some_iff.1 hs
  simp only [Prod.mk.injEq] at he
  obtain ⟨rfl, rfl, rfl⟩ := he
  obtain ⟨ay, fy, fe⟩ := Option.bind_eq_some_iff.1 hn
  obtain ⟨rfl, hw⟩ := hc
  exact qNH hsl hsz h4 h hg hop hok.1 hok.2.1 f1 f2 fy fe hw
 | slice s x lo hi mx =>
  generalize hop : o.op = op' at hchk
  simp only [Pm] at hchk
  split at hchk
  case h_2 => cases hchk
  rename_i t x' lo' hi' mx'
  simp only [Bool.and_eq_true] at hchk
  obtain ⟨⟨⟨⟨⟨h1, h2⟩, h3⟩, h4⟩, h5⟩, h6⟩ := hchk
  have := Ai h1; subst this
  have := q9K h2; subst this
  have := q9K h3; subst this
  have := q9K h4; subst this
  simp only [Cb.opds, List.all_append, Bool.and_eq_true] at hok
  obtain ⟨⟨⟨k1, k2⟩, k3⟩, k4⟩ := hok
  have k1 : Ak x = true := by simpa using k1
  simp only [Ao, Option.bind_eq_some_iff] at hs
  obtain ⟨a, ha, hs⟩ := hs
  split at hs
  ·-- a string
   rename_i b
   simp only [Option.bind_eq_some_iff, Option.map_eq_some_iff, Prod.mk.injEq] at hs
   obtain ⟨l, hl, hh, hhh, rfl, rfl, rfl⟩ := hs
   obtain ⟨rfl, c1, c2, c3, c4⟩ := hc
   simp only [beq_self_eq_true, ↓reduceIte, Bool.and_eq_true, Option.isNone_iff_eq_none] at h6
   obtain ⟨hst, rfl⟩ := h6
   exact qCm h hg hop k1 hst ha (O5 h hg hl c1 k2) (O5 h hg hhh c2 k3) c3 c4
  ·-- an immutable slice
   rename_i es cap nl
   simp only [Option.bind_eq_some_iff] at hs
   obtain ⟨l, hl, hh, hhh, hs⟩ := hs
   split at hs
   ·simp only [Option.some.injEq, Prod.mk.injEq] at hs
    obtain ⟨rfl, rfl, rfl⟩ := hs
    obtain ⟨c0, cw, c1, c2, c3, c4⟩ := hc
    have hs0 : (s == 0) = false := by simpa using c0
    simp only [hs0, Bool.false_eq_true, ↓reduceIte] at h6
    split at h6
    case h_2 => cases h6
    rename_i e he
    exact qEE h hg hop k1 he (Ft h6) ha cw (O5 h hg hl c1 k2) (O5 h hg hhh c2 k3) c3 c4
   ·rename_i m0
    simp only [Option.map_eq_some_iff, Prod.mk.injEq] at hs
    obtain ⟨m, hm, rfl, rfl, rfl⟩ := hs
    obtain ⟨c0, cw, c1, c2, c2', c3, c4, c5⟩ := hc
    have hs0 : (s == 0) = false := by simpa using c0
    simp only [hs0, Bool.false_eq_true, ↓reduceIte] at h6
    split at h6
    case h_2 => cases h6
    rename_i e he
    have hhi : hi.isSome = true := by simpa using h5
    obtain ⟨hi, rfl⟩ := Option.isSome_iff_exists.1 hhi
    exact qCn h hg hop k1 he (Ft h6) ha cw (O5 h hg hl c1 k2) (O5 h hg hhh c2 k3) (O5 h hg hm c2' k4) c3 c4 c5
  ·-- a part of a region
   rename_i id off len cap
   simp only [Option.bind_eq_some_iff] at hs
   obtain ⟨l, hl, hh, hhh, hs⟩ := hs
   split at hs
   case h_2 => cases hs
   rename_i ty q es hlk
   split at hs
   ·simp only [Option.some.injEq, Prod.mk.injEq] at hs
    obtain ⟨rfl, rfl, rfl⟩ := hs
    obtain ⟨c0, cq, c1, c2, c3, c4⟩ := hc
    have hs0 : (s == 0) = false := by simpa using c0
    simp only [hs0, Bool.false_eq_true, ↓reduceIte] at h6
    split at h6
    case h_2 => cases h6
    rename_i e he
    exact qEF h hg hop k1 he (Ft h6) ha hlk cq (O5 h hg hl c1 k2) (O5 h hg hhh c2 k3) c3 c4
   ·rename_i m0
    simp only [Option.map_eq_some_iff, Prod.mk.injEq] at hs
    obtain ⟨m, hm, rfl, rfl, rfl⟩ := hs
    obtain ⟨c0, cq, c1, c2, c2', c3, c4, c5⟩ := hc
    have hs0 : (s == 0) = false := by simpa using c0
    simp only [hs0, Bool.false_eq_true, ↓reduceIte] at h6
    split at h6
    case h_2 => cases h6
    rename_i e he
    have hhi : hi.isSome = true := by simpa using h5
    obtain ⟨hi, rfl⟩ := Option.isSome_iff_exists.1 hhi
    exact qCo h hg hop k1 he (Ft h6) ha hlk cq (O5 h hg hl c1 k2) (O5 h hg hhh c2 k3) (O5 h hg hm c2' k4) c3 c4 c5
  ·cases hs
 | mk ty s zs l c1 =>
  generalize hop : o.op = op' at hchk
  simp only [Pm] at hchk
  split at hchk
  case h_2 => cases hchk
  rename_i t l' c'
  simp only [Bool.and_eq_true, decide_eq_true_eq] at hchk
  obtain ⟨⟨⟨⟨⟨⟨⟨h1, h2⟩, h3⟩, h4⟩, h5⟩, h6⟩, h7⟩, h8⟩ := hchk
  have := Ai h1; subst this
  have := Ai h2; subst this
  simp only [Cb.opds, List.all_cons, Bool.and_eq_true] at hok
  obtain ⟨hz, hzl⟩ : E2 P ty = some zs ∧ zs.length = s := by
   split at h6
   ·rename_i z hz
    simp only [Bool.and_eq_true] at h6
    have := S5 h6.1; subst this
    exact ⟨hz, by simpa using h6.2⟩
   ·cases h6
  have hel : Ej P t ty s := by
   refine ⟨Ft h3, Ft h4, h5, ⟨zs, hz, hzl⟩, ?_⟩
   split at h8
   ·rename_i n hn; exact ⟨n, hn, by simpa using h8⟩
   ·cases h8
  simp only [Ao] at hs
  split at hs
  ·rename_i k n k2 m e1 e2
   simp only [Option.some.injEq, Prod.mk.injEq] at hs
   obtain ⟨rfl, rfl, rfl⟩ := hs
   exact qOY hel hz h7 h hg hop hok.1 hok.2.1 e1 e2 hc.2.1 hc.2.2.1 hc.2.2.2 hc.1 hd
  ·cases hs
 | mkE ty s zs l c1 =>
  generalize hop : o.op = op' at hchk
  simp only [Pm] at hchk
  split at hchk
  case h_2 => cases hchk
  rename_i t l' c'
  simp only [Bool.and_eq_true, decide_eq_true_eq] at hchk
  obtain ⟨⟨⟨⟨⟨⟨⟨h1, h2⟩, h3⟩, h4⟩, h5⟩, h6⟩, h7⟩, h8⟩ := hchk
  have := Ai h1; subst this
  have := Ai h2; subst this
  simp only [Cb.opds, List.all_cons, Bool.and_eq_true] at hok
  obtain ⟨hz, hzl⟩ : E2 P ty = some zs ∧ zs.length = s := by
   split at h6
   ·rename_i z hz
    simp only [Bool.and_eq_true] at h6
    have := S5 h6.1; subst this
    exact ⟨hz, by simpa using h6.2⟩
   ·cases h6
  have hel : Ej P t ty s := by
   refine ⟨Ft h3, Ft h4, h5, ⟨zs, hz, hzl⟩, ?_⟩
   split at h8
   ·rename_i n hn; exact ⟨n, hn, by simpa using h8⟩
   ·cases h8
  simp only [Ao] at hs
  split at hs
  ·rename_i k n k2 m e1 e2
   simp only [Option.some.injEq, Prod.mk.injEq] at hs
   obtain ⟨rfl, rfl, rfl⟩ := hs
   exact qNC hel hz h7 h hg hop hok.1 hok.2.1 e1 e2 hc.2.1 hc.2.2.1 hc.2.2.2 hc.1 hd
  ·cases hs
 | mkf f xs =>
  generalize hop : o.op = op' at hchk
  simp only [Pm] at hchk
  split at hchk
  case h_2 => cases hchk
  rename_i f' first caps
  simp only [Bool.and_eq_true] at hchk
  obtain ⟨⟨h1, h2⟩, h3⟩ := hchk
  have : f = f' := by simpa using h1
  subst this
  have hf : first = #[] := by simpa using h2
  subst hf
  have := Nj h3; subst this
  simp only [Ao, Option.map_eq_some_iff, Prod.mk.injEq] at hs
  obtain ⟨as, ha, _, rfl, rfl⟩ := hs
  exact qN9 h hg (by rw [hop]; simp [Cb.opds]) hok ha
 | ext x i =>
  have hk : Ak x = true := by simpa [Cb.opds] using hok
  generalize hop : o.op = op' at hchk
  simp only [Pm] at hchk
  split at hchk
  case h_2 => cases hchk
  simp only [Bool.and_eq_true] at hchk
  have := Ai hchk.1; subst this
  rename_i y j
  have : i = j := by simpa using hchk.2
  subst this
  simp only [Ao] at hs
  split at hs
  ·rename_i vs e1
   simp only [Option.map_eq_some_iff, Prod.mk.injEq] at hs
   obtain ⟨t, ht, _, rfl, rfl⟩ := hs
   exact qN4 h hg hop e1 hk ht
  ·rename_i vs e1
   simp only [Option.map_eq_some_iff, Prod.mk.injEq] at hs
   obtain ⟨t, ht, _, rfl, rfl⟩ := hs
   exact qLE h hg hop e1 hk ht
  ·cases hs
 | nck x =>
  have hk : Ak x = true := by simpa [Cb.opds] using hok
  generalize hop : o.op = op' at hchk
  simp only [Pm] at hchk
  split at hchk
  case h_2 => cases hchk
  have := Ai hchk; subst this
  simp only [Ao] at hs
  split at hs <;> first | (cases hs; done) | skip
  ·rename_i cs k e1
   simp only [Option.some.injEq, Prod.mk.injEq] at hs
   obtain ⟨_, rfl, rfl⟩ := hs
   exact qFL h hg hop e1 hk (.inl ⟨_, _, rfl⟩)
  ·rename_i id i k e1
   simp only [Option.some.injEq, Prod.mk.injEq] at hs
   obtain ⟨_, rfl, rfl⟩ := hs
   exact qFL h hg hop e1 hk (.inr (.inl ⟨_, _, _, rfl⟩))
  ·rename_i f cs e1
   simp only [Option.some.injEq, Prod.mk.injEq] at hs
   obtain ⟨_, rfl, rfl⟩ := hs
   exact qFL h hg hop e1 hk (.inr (.inr (.inl ⟨_, _, rfl⟩)))
  ·rename_i f cs e1
   simp only [Option.some.injEq, Prod.mk.injEq] at hs
   obtain ⟨_, rfl, rfl⟩ := hs
   exact qFL h hg hop e1 hk (.inr (.inr (.inr ⟨_, _, rfl⟩)))
 | mkmap =>
  generalize hop : o.op = op' at hchk
  simp only [Pm] at hchk
  split at hchk
  case h_2 => cases hchk
  simp only [Bool.and_eq_true, Option.isNone_iff_eq_none] at hchk
  obtain ⟨rfl, _⟩ := hchk
  simp only [Ao, Option.some.injEq, Prod.mk.injEq] at hs
  obtain ⟨rfl, rfl, rfl⟩ := hs
  exact qJR h hop hc hd
 | mkB ty zs l c1 =>
  generalize hop : o.op = op' at hchk
  simp only [Pm] at hchk
  split at hchk
  case h_2 => cases hchk
  rename_i t l' c'
  simp only [Bool.and_eq_true, decide_eq_true_eq] at hchk
  obtain ⟨⟨⟨⟨⟨⟨h1, h2⟩, h3⟩, h4⟩, h6⟩, h7⟩, h8⟩ := hchk
  have := Ai h1; subst this
  have := Ai h2; subst this
  simp only [Cb.opds, List.all_cons, Bool.and_eq_true] at hok
  obtain ⟨hz, hzl⟩ : E2 P ty = some zs ∧ zs.length = 1 := by
   split at h6
   ·rename_i z hz
    simp only [Bool.and_eq_true] at h6
    have := S5 h6.1; subst this
    exact ⟨hz, by simpa using h6.2⟩
   ·cases h6
  have hel : Ej P t ty 1 := by
   refine ⟨Ft h3, Ft h4, Nat.zero_lt_one, ⟨zs, hz, hzl⟩, ?_⟩
   split at h8
   ·rename_i n hn; exact ⟨n, hn, by simpa using h8⟩
   ·cases h8
  simp only [Ao] at hs
  split at hs
  ·rename_i k n k2 m e1 e2
   simp only [Option.some.injEq, Prod.mk.injEq] at hs
   obtain ⟨rfl, rfl, rfl⟩ := hs
   exact qNE hel hz h7 h hg hop hok.1 hok.2.1 e1 e2 hc.2.1 hc.2.2.1 hc.2.2.2 hc.1 hd
  ·cases hs
 | rng x =>
  have hk : Ak x = true := by simpa [Cb.opds] using hok
  generalize hop : o.op = op' at hchk
  simp only [Pm] at hchk
  split at hchk
  case h_2 => cases hchk
  simp only [Bool.and_eq_true] at hchk
  have := Ai hchk.1; subst this
  simp only [Ao] at hs
  split at hs
  ·rename_i s e1
   simp only [Option.some.injEq, Prod.mk.injEq] at hs
   obtain ⟨rfl, rfl, rfl⟩ := hs
   exact qNF h hg hop hk hchk.2 e1 hc hd
  ·cases hs
 | nxt x =>
  have hk : Ak x = true := by simpa [Cb.opds] using hok
  generalize hop : o.op = op' at hchk
  simp only [Pm] at hchk
  split at hchk
  case h_2 => cases hchk
  simp only [Bool.and_eq_true] at hchk
  have := Ai hchk.1; subst this
  rw [hchk.2] at hop
  simp only [Ao] at hs
  split at hs
  case h_2 => cases hs
  rename_i id e1
  split at hs
  case h_2 => cases hs
  rename_i s pos hl
  obtain ⟨g1, g2⟩ := qNG (ds := ds) h hg hop hk e1 hl
  split at hs <;> rename_i hp <;> simp only [Option.some.injEq, Prod.mk.injEq] at hs <;> obtain ⟨_, rfl, rfl⟩ := hs
  ·exact g1 hp
  ·exact g2 hp
 | lkup kt zv ok m k =>
  generalize hop : o.op = op' at hchk
  simp only [Pm] at hchk
  split at hchk
  case h_2 => cases hchk
  simp only [Bool.and_eq_true] at hchk
  obtain ⟨⟨⟨h1, h2⟩, h3⟩, h4⟩ := hchk
  have := Ai h1; subst this
  have := Ai h2; subst this
  rename_i t ok'
  have : ok = ok' := by simpa using h3
  subst this
  split at h4
  case h_2 => cases h4
  rename_i q e hm
  simp only [Bool.and_eq_true] at h4
  obtain ⟨⟨h5, h6⟩, h7⟩ := h4
  have hz : (P.info? e).bind (·.zero) = some zv := by
   split at h6
   ·rename_i z hz; rw [hz, qFK h6]
   ·cases h6
  simp only [Cb.opds, List.all_cons, Bool.and_eq_true] at hok
  simp only [Ao] at hs
  split at hs
  case h_2 => cases hs
  rename_i kv e1
  split at hs
  ·rename_i es e2
   simp only [Option.some.injEq, Prod.mk.injEq] at hs
   obtain ⟨rfl, rfl, rfl⟩ := hs
   exact qHU h hg hop hok.1 hok.2.1 hm h5 hz h7 e1 e2 (.inl rfl) hc.1 hc.2
  ·rename_i id e2
   split at hs
   ·rename_i es hl
    simp only [Option.some.injEq, Prod.mk.injEq] at hs
    obtain ⟨rfl, rfl, rfl⟩ := hs
    exact qHU h hg hop hok.1 hok.2.1 hm h5 hz h7 e1 e2 (.inr ⟨id, rfl, hl⟩) hc.1 hc.2
   ·cases hs
  ·cases hs
 | mup kt m k x =>
  generalize hop : o.op = op' at hchk
  simp only [Pm] at hchk
  split at hchk
  case h_2 => cases hchk
  simp only [Bool.and_eq_true] at hchk
  obtain ⟨⟨⟨h1, h2⟩, h3⟩, h4⟩ := hchk
  have := Ai h1; subst this
  have := Ai h2; subst this
  have := Ai h3; subst this
  split at h4
  case h_2 => cases h4
  rename_i q e hm
  simp only [Cb.opds, List.all_cons, Bool.and_eq_true] at hok
  simp only [Ao] at hs
  split at hs
  case h_2 => cases hs
  rename_i kv id e1 e2
  split at hs
  case h_2 => cases hs
  rename_i es hl
  simp only [Option.map_eq_some_iff, Option.bind_eq_some_iff, Prod.mk.injEq] at hs
  obtain ⟨y, ⟨a, ha, hy⟩, rfl, rfl, rfl⟩ := hs
  exact qND h hg hop hok.1 hok.2.1 hok.2.2.1 hm h4 e1 e2 hl ha hy hc.1 hc.2
 | appT ty s b x => exact absurd rfl (hnt ty s b x)
 | stR id n a x => exact absurd rfl (hns id n a x)
 | ldR id n g a => exact absurd rfl (hnl id n g a)
 | ldT n g a => exact absurd rfl (hn4 n g a)
 | lkT kt zv ok m k => exact absurd rfl (hn5 kt zv ok m k)
 | hcall f xs rs base => simp [Ao] at hs
 | hcallv x xs rs base => simp [Ao] at hs
 | ncall f xs base => simp [Ao] at hs
 | callT f xs => simp [Ao] at hs
 | rcall f xs rs => simp [Ao] at hs
 | call f xs => simp [Ao] at hs
 | callv x xs => simp [Ao] at hs
theorem qGV {io : Cb} {d : Nat} {c : Prop} {r : AV} {st1 : St} (h : Bt w0 B κ X μ st tm w) (hg : Gl Γ w X) (hchk : Pm P io o.op = true) (hok : io.opds.all Ak = true) (hd : d < 1000000) (hs : Ao Γ d io st = some (c, r, st1)) (hc : c) : Au P w0 B κ X o r st1 tm w ds := by
 by_cases ht : ∃ ty s b x, io = .appT ty s b x
 ·obtain ⟨ty, s, b, x, rfl⟩ := ht
  simp only [Ao, Option.bind_eq_some_iff] at hs
  obtain ⟨news, ⟨a, ha, hn⟩, hs⟩ := hs
  split at hs
  ·rename_i es q nl hb
   simp only [Option.some.injEq, Prod.mk.injEq] at hs
   obtain ⟨rfl, rfl, rfl⟩ := hs
   obtain ⟨h1, h2, h3, h4⟩ := hc
   refine S9 (io := .app true ty s b x) (c := Ce s news ∧ Ce s es ∧ q = es.length ∧ es.length + news.length ≤ 2147483648 ∧ (true = true ∨ news ≠ [] ∨ es = [])) (by simp) (by simp) (by simp) (by simp) (by simp) h hg hchk hok hd ?_ ⟨h1, h2, h3, h4, .inl rfl⟩
   simp [Ao, ha, hn, hb]
  ·cases hs
 ·by_cases ht2 : ∃ id n a x, io = .stR id n a x
  ·obtain ⟨id, n, a, x, rfl⟩ := ht2
   simp only [Ao] at hs
   split at hs
   ·exact S9 (io := .store n a x) (by simp) (by simp) (by simp) (by simp) (by simp) h hg hchk hok hd (by simp only [Ao]; exact hs) hc
   ·cases hs
  ·by_cases ht3 : ∃ id n g a, io = .ldR id n g a
   ·obtain ⟨id, n, g, a, rfl⟩ := ht3
    simp only [Ao] at hs
    split at hs
    ·exact S9 (io := .load n g a) (by simp) (by simp) (by simp) (by simp) (by simp) h hg hchk hok hd (by simp only [Ao]; exact hs) hc
    ·cases hs
   ·by_cases ht4 : ∃ n g a, io = .ldT n g a
    ·obtain ⟨n, g, a, rfl⟩ := ht4
     simp only [Ao] at hs
     split at hs
     ·rename_i ha
      exact S9 (io := .load n g a) (by simp) (by simp) (by simp) (by simp) (by simp) h hg hchk hok hd (by simp only [Ao, ha]; exact hs) hc
     ·cases hs
    ·by_cases ht5 : ∃ kt zv ok m k, io = .lkT kt zv ok m k
     ·obtain ⟨kt, zv, ok, m, k, rfl⟩ := ht5
      simp only [Ao] at hs
      split at hs
      ·rename_i hk hm
       exact S9 (io := .lkup kt zv ok m k) (by simp) (by simp) (by simp) (by simp) (by simp) h hg hchk hok hd (by simp only [Ao, hk, hm]; exact hs) hc
      ·cases hs
     ·exact S9 (fun ty s b x e => ht ⟨ty, s, b, x, e⟩) (fun id n a x e => ht2 ⟨id, n, a, x, e⟩) (fun id n g a e => ht3 ⟨id, n, g, a, e⟩) (fun n g a e => ht4 ⟨n, g, a, e⟩) (fun kt zv ok m k e => ht5 ⟨kt, zv, ok, m, k, e⟩) h hg hchk hok hd hs hc
end
end Go.Lg
namespace Go.Lg
open Go
def q0V (P : Program) (f : FuncId) (vs : Array Value) (w : World) (R : Value → World → Prop) : Prop :=
 ((callFunc f vs).run P w = .ok (.enter f vs) w ∧ Calls P f vs w fun e w' => ∃ v, e = .returned v ∧ R v w') ∨ ∃ v, (callFunc f vs).run P w = .ok (.value v) w ∧ R v w
theorem q0V.mono {P : Program} {f : FuncId} {vs : Array Value} {w : World} {R R' : Value → World → Prop} (h : q0V P f vs w R) (hr : ∀ v w', R v w' → R' v w') : q0V P f vs w R' := by
 rcases h with ⟨h1, h2⟩ | ⟨v, h1, h2⟩
 ·exact .inl ⟨h1, h2.mono fun e w' ⟨v, he, hR⟩ => ⟨v, he, hr v w' hR⟩⟩
 ·exact .inr ⟨v, h1, hr v w h2⟩
def Ac (P : Program) (Γ : Tables) (f : FuncId) (args : List T) (res : T) : Prop :=
 ∀ (w : World) (X : Nat → Prop) (vs : List Value), Gl Γ w X → (∀ b, X b → b < w.heap.size) → F3 w X args vs →
  q0V P f vs.toArray w fun v w' => RowKit.Below w.heap.size w w' ∧ TR w' (fun b => X b ∨ (w.heap.size ≤ b ∧ b < w'.heap.size)) res v
def A3 (P : Program) (Γ : Tables) (f : FuncId) (args : List T) (res : T) : Prop :=
 ∀ (w : World) (X : Nat → Prop) (vs : List Value), Gl Γ w X → (∀ b, X b → b < w.heap.size) → F3 w X args vs →
  q0V P f vs.toArray w fun v w' => RowKit.Below w.heap.size w w' ∧ TR w' (fun b => w.heap.size ≤ b ∧ b < w'.heap.size) res v
theorem A3.pure {P : Program} {Γ : Tables} {f : FuncId} {args : List T} {res : T} (h : A3 P Γ f args res) : Ac P Γ f args res :=
 fun w X vs hg hx hr => (h w X vs hg hx hr).mono fun v w' ⟨hb, ht⟩ => ⟨hb, ht.mono (fun _ _ => rfl) (fun _ hb => .inr hb)⟩
def Ht : T → Bool
 | .v _ => true
 | .sl [] _ _ => true
 | _ => false
def As : T → Bool
 | .tup vs => vs.all Ht
 | .agg vs => vs.all Ht
 | t => Ht t
theorem qCs {w : World} {X Y : Nat → Prop} {t : T} {x : Value} (h : TR w X t x) (hf : Ht t = true) : TR w Y t x := by
 cases h with
 | v x => exact .v x
 | nil cap nl a c hc hn hz => exact .nil cap nl a c hc hn hz
 | sl es cap nl s b off c f hcell hlen hrel hone hx hle hc hn =>
  cases es with
  | nil => exact .nil cap nl _ c hc (fun q hq => by rw [hn q hq]; rfl) (fun e => by cases e)
  | cons e es => simp [Ht] at hf
 | agg => simp [Ht] at hf
 | tup => simp [Ht] at hf
 | ip => simp [Ht] at hf
 | fn => simp [Ht] at hf
 | mpnil => simp [Ht] at hf
 | mp => simp [Ht] at hf
 | pin => simp [Ht] at hf
theorem q9X {w : World} {X Y : Nat → Prop} {t : T} {x : Value} (h : TR w X t x) (hf : As t = true) : TR w Y t x := by
 have one : ∀ {ts : List T} {xs : List Value}, ts.all Ht = true → F3 w X ts xs → F3 w Y ts xs := by
  intro ts xs h1 h2
  exact ⟨h2.1, fun k t x ht hx => qCs (h2.2 k t x ht hx) (List.all_eq_true.1 h1 t (List.mem_of_getElem? ht))⟩
 cases t with
 | tup vs => obtain ⟨xs, rfl, hr⟩ := h.tup_inv; exact TR.mk_tup (one hf hr)
 | agg vs => obtain ⟨xs, rfl, h1, hr⟩ := h.agg_inv; exact TR.mk_agg h1 (one hf hr)
 | _ => exact qCs h hf
structure RO where
 dst : Option Nat
 op : Cb
 guard : Option (Nat × Bool) := none
 rid : Option Nat := none
def RO.d (ro : RO) : Nat := match ro.rid with
 | some r => r
 | none => ro.dst.getD 0
def St.put (st : St) (d : Option Nat) (a : AV) : St := match d with
 | some d => ⟨(d, a) :: st.env, st.hp⟩
 | none => st
def qC5 (st : St) (μ : Da) (b : Nat) : Prop := ∃ id n, st.sh id ≠ none ∧ μ id = some (b, n)
section
variable {P : Program} {Γ : Tables} {w0 : World} {B : Nat} {κ : Da} {X : Nat → Prop} {μ : Da} {st : St} {tm : Array Value} {w : World} {ds : List Deferred} {o : Oper}
theorem Si {Y : Nat → Prop} {f : AV → Option T} : ∀ {cs : List AV} {xs : List Value} {ts : List T}, Jc w X μ st.sh cs xs → (∀ c ∈ cs, ∀ t x, AR w X μ st.sh c x → f c = some t → TR w Y t x) → Af (cs.map f) = some ts → F3 w Y ts xs
 | [], xs, ts, h, hf, ho => by
  simp only [List.map_nil, Af, Option.some.injEq] at ho
  subst ho; rw [h.nil_inv]; exact F3.nil _ _
 | c :: cs, xs, ts, h, hf, ho => by
  obtain ⟨x, ys, rfl, hx, hs⟩ := h.cons_inv
  simp only [List.map_cons] at ho
  cases hc : f c with
  | none => rw [hc] at ho; simp [Af] at ho
  | some t =>
   rw [hc] at ho
   simp only [Af, Option.map_eq_some_iff] at ho
   obtain ⟨ts', ho', rfl⟩ := ho
   exact F3.cons (hf c (by simp) t x hx hc) (Si hs (fun c hm => hf c (by simp [hm])) ho')
theorem qBB : ∀ {n : Nat} {hp : List (Nat × B7)} {a : AV} {t : T}, a.one = true → Ah hp n a = some t → t.one = true := by
 intro n hp a t h1 h
 cases a with
 | t x => cases n <;> simp only [Ah, Option.some.injEq] at h <;> subst h <;> exact h1
 | ag cs => simp [AV.one] at h1
 | un => simp [AV.one] at h1
 | tu => simp [AV.one] at h1
 | dead => cases n <;> simp [Ah] at h
 | ls id off len cap =>
  cases n with
  | zero => simp [Ah] at h
  | succ n => simp only [Ah] at h; split at h <;> simp at h; subst h; rfl
 | lp id i k =>
  cases n with
  | zero => simp [Ah] at h
  | succ n =>
   simp only [Ah] at h
   split at h
   ·simp at h; subst h; rfl
   ·simp only [Option.map_eq_some_iff] at h; obtain ⟨ts, _, rfl⟩ := h; rfl
   ·cases h
 | li id => cases n <;> simp [Ah] at h
 | lb id m =>
  cases n with
  | zero => simp [Ah] at h
  | succ n =>
   simp only [Ah] at h
   split at h
   ·simp only [Option.map_eq_some_iff] at h; obtain ⟨ts, _, rfl⟩ := h; rfl
   ·cases h
 | lm id =>
  cases n with
  | zero => simp [Ah] at h
  | succ n => simp only [Ah] at h; split at h <;> simp at h; subst h; rfl
 | fn f cs =>
  cases n with
  | zero => simp [Ah] at h
  | succ n => simp only [Ah, Option.map_eq_some_iff] at h; obtain ⟨ts, _, rfl⟩ := h; rfl
theorem Z9 {n : Nat} {hp : List (Nat × B7)} : ∀ {cs : List AV} {ts : List T}, D2 cs = true → Af (cs.map (Ah hp n)) = some ts → C6 ts = true
 | [], ts, h, ho => by simp only [List.map_nil, Af, Option.some.injEq] at ho; subst ho; rfl
 | c :: cs, ts, h, ho => by
  simp only [D2, List.all_cons, Bool.and_eq_true] at h
  simp only [List.map_cons] at ho
  cases hc : Ah hp n c with
  | none => rw [hc] at ho; simp [Af] at ho
  | some t =>
   rw [hc] at ho
   simp only [Af, Option.map_eq_some_iff] at ho
   obtain ⟨ts', ho', rfl⟩ := ho
   simp only [C6, List.all_cons, Bool.and_eq_true]
   exact ⟨qBB h.1 hc, Z9 h.2 ho'⟩
theorem q9Y (h : Bt w0 B κ X μ st tm w) : ∀ (n : Nat) {a : AV} {x : Value} {t : T}, AR w X μ st.sh a x → Ah st.hp n a = some t → TR w (fun b => X b ∨ qC5 st μ b) t x := by
 have hmono : ∀ {t : T} {x : Value}, TR w X t x → TR w (fun b => X b ∨ qC5 st μ b) t x := fun ht => ht.mono (fun _ _ => rfl) (fun _ hb => .inl hb)
 intro n
 induction n with
 | zero =>
  intro a x t ha hr
  cases a <;> simp only [Ah, Option.some.injEq, reduceCtorEq] at hr
  subst hr; exact hmono ha.t_inv
 | succ n ih =>
  intro a x t ha hr
  cases a with
  | t y => simp only [Ah, Option.some.injEq] at hr; subst hr; exact hmono ha.t_inv
  | ag cs =>
   simp only [Ah, Option.map_eq_some_iff] at hr
   obtain ⟨ts, hts, rfl⟩ := hr
   obtain ⟨xs, rfl, h1, hs⟩ := ha.ag_inv
   exact TR.mk_agg (Z9 h1 hts) (Si hs (fun c _ t x hc hf => ih hc hf) hts)
  | fn f cs =>
   simp only [Ah, Option.map_eq_some_iff] at hr
   obtain ⟨ts, hts, rfl⟩ := hr
   cases ha with
   | fn f cs xs hlen hrel =>
    have := Si (w := w) (μ := μ) (st := st) (X := X) (cs := cs) (xs := xs) ⟨hlen, hrel⟩ (fun c _ t x hc hf => ih hc hf) hts
    exact .fn f ts xs this.1 this.2
  | ls id off len cap =>
   have hel : ∃ ty s es, A2 st.hp id = some (.sl ty s es) ∧ t = .sl ((es.drop off).take len) cap none := by
    simp only [Ah] at hr
    split at hr
    ·rename_i ty s es hl; simp only [Option.some.injEq] at hr; exact ⟨ty, s, es, hl, hr.symm⟩
    ·cases hr
   obtain ⟨ty, s, es, hl, rfl⟩ := hel
   have hwr := qFP (h.reg id _ hl)
   obtain ⟨s', n', hs, hcase⟩ := ha.ls_inv
   rw [Fb hl] at hs
   simp only [B7.sh, Option.some.injEq, Sh.sl.injEq] at hs
   obtain ⟨rfl, rfl⟩ := hs
   rcases hcase with ⟨hm, ⟨oa, rfl⟩, rfl, rfl, hc⟩ | ⟨g, m, c, ad, hm, rfl, hle, hlc, hcm, hfit, hfull, hcq, had⟩
   ·simp only [List.take_zero]
    exact .nil _ _ _ _ (fun q hq => (hc q hq).symm) (fun b hb => by cases hb) (fun _ => rfl)
   ·have hlen : ((es.drop off).take len).length = len := by simp; omega
    by_cases h0 : len = 0
    ·subst h0
     simp only [List.take_zero]
     exact .nil _ _ _ _ hcq (fun b hb => by cases hb) (fun e => by cases e)
    ·obtain ⟨hw, hcase⟩ := h.reg id _ hl
     rcases hcase with ⟨_, hm0⟩ | ⟨g', arr, hm', hg, hle', hrel⟩
     ·rw [hm] at hm0; cases hm0
     rw [hm] at hm'; cases hm'
     have hge : ∀ i, i < len → ((es.drop off).take len)[i]? = es[off + i]? := fun i hi => by rw [List.getElem?_take, if_pos hi, List.getElem?_drop]
     have hmem : ∀ e ∈ (es.drop off).take len, ∃ i, es[i]? = some e := fun e hme => by
      obtain ⟨i, hi, rfl⟩ := List.getElem_of_mem (List.mem_of_mem_drop (List.mem_of_mem_take hme))
      exact ⟨i, List.getElem?_eq_getElem hi⟩
     have := TR.mk_sl (w := w) (X := fun b => X b ∨ qC5 st μ b) (es := (es.drop off).take len) (cap := cap) (nl := none) (s := s) (b := g) (off := off * s) (c := c) (f := fun i k => (arr[(off + i) * s + k]?).getD undef)
      (.inr ⟨id, _, by simp [Fb hl], hm⟩) (by omega) hcq (fun q hq => by cases hq) (fun e hme => by obtain ⟨i, hi⟩ := hmem e hme; exact (hw i e hi).1)
      (fun e hme => by
       obtain ⟨i, hi⟩ := hmem e hme
       exact List.all_eq_true.2 fun t ht => by obtain ⟨k, hk, rfl⟩ := List.getElem_of_mem ht; exact (hw i e hi).2 k _ (List.getElem?_eq_getElem hk))
      (fun i k hi hk => by
       rw [hlen] at hi
       have hf := O4 (s := s) (i := off + i) (len := es.length) (by omega)
       have hin : (off + i) * s + k < arr.size := by omega
       rw [cell_of_row _ _ _ _ _ _ hg, show off * s + i * s + k = (off + i) * s + k by rw [Nat.add_mul]]
       simp [hin])
      (fun i k e t he ht => by
       have hi := (List.getElem?_eq_some_iff.1 he).1
       rw [hlen] at hi
       rw [hge i hi] at he
       have hk : k < s := by rw [← (hw _ e he).1]; exact (List.getElem?_eq_some_iff.1 ht).1
       have hf := O4 (s := s) (i := off + i) (len := es.length) (by omega)
       have hin : (off + i) * s + k < arr.size := by omega
       have := hrel (off + i) k e t arr[(off + i) * s + k] he ht (by simp [hin])
       simp only [hin, getElem?_pos, Option.getD_some]
       exact hmono this)
     rw [hlen] at this
     rw [had (.inl (by omega))]
     exact this
  | lp id i k =>
   simp only [Ah] at hr
   obtain ⟨g, m, hm, hp⟩ := ha.lp_inv
   split at hr
   ·rename_i ty s es hl
    simp only [Option.some.injEq] at hr; subst hr
    rcases hp with ⟨s', n', hs, rfl⟩ | ⟨hs, _, _⟩
    case inr => rw [Fb hl] at hs; cases hs
    rw [Fb hl] at hs
    simp only [B7.sh, Option.some.injEq, Sh.sl.injEq] at hs
    obtain ⟨rfl, rfl⟩ := hs
    have hx : X g ∨ qC5 st μ g := .inr ⟨id, _, by simp [Fb hl], hm⟩
    by_cases hi : i < es.length
    ·obtain ⟨g', arr, hm', hheap, hle, hlen, h1, hrr⟩ := (h.reg id _ hl).elem hi
     rw [hm] at hm'; cases hm'
     refine TR.mk_ip h1 (hrr.mono (fun _ _ => rfl) (fun _ hb => .inl hb)) hx (fun j y hy => ?_)
     rw [cell_of_row _ _ _ _ _ _ hheap]
     rw [List.getElem?_take] at hy
     split at hy
     ·rw [List.getElem?_drop] at hy; simpa using hy
     ·cases hy
    ·have : es.getD i [] = [] := by simp [List.getD, hi]
     rw [this]
     exact TR.mk_ip rfl (F3.nil _ _) hx (fun j y hy => by simp at hy)
   ·rename_i cs hl
    simp only [Option.map_eq_some_iff] at hr
    obtain ⟨ts, hts, rfl⟩ := hr
    rcases hp with ⟨s', n', hs, rfl⟩ | ⟨hs, rfl, rfl⟩
    ·rw [Fb hl] at hs; cases hs
    obtain ⟨hone, g', arr, ty, hm', hheap, hsz, hrel⟩ := h.reg id _ hl
    rw [hm] at hm'; cases hm'
    have hcs : Jc w X μ st.sh cs arr.toList := ⟨by simp [hsz], fun j a y h2 h3 => hrel j a y h2 (by simpa using h3)⟩
    have h1 : D2 cs = true := List.all_eq_true.2 fun t ht => by obtain ⟨j, hj, rfl⟩ := List.getElem_of_mem ht; exact hone j _ (List.getElem?_eq_getElem hj)
    have := TR.mk_ip (w := w) (X := fun b => X b ∨ qC5 st μ b) (k := k) (b := g) (off := 0) (Z9 h1 hts) (Si hcs (fun c _ t x hc hf => ih hc hf) hts) (.inr ⟨id, _, by simp [Fb hl], hm⟩) (fun j y hy => by
     rw [cell_of_row _ _ _ _ _ _ hheap]; simpa using hy)
    simpa using this
   ·cases hr
  | li id => simp [Ah] at hr
  | lb id m =>
   simp only [Ah] at hr
   obtain ⟨g, hsb, hm, hmx, rfl⟩ := ha.lb_inv
   split at hr
   ·rename_i cs hl
    simp only [Option.map_eq_some_iff] at hr
    obtain ⟨ts, hts, rfl⟩ := hr
    obtain ⟨hone, g', arr, ty, hm', hheap, hsz, hrel⟩ := h.reg id _ hl
    rw [hm] at hm'; cases hm'
    have hcs : Jc w X μ st.sh cs arr.toList := ⟨by simp [hsz], fun j a y h2 h3 => hrel j a y h2 (by simpa using h3)⟩
    have h1 : D2 cs = true := List.all_eq_true.2 fun t ht => by obtain ⟨j, hj, rfl⟩ := List.getElem_of_mem ht; exact hone j _ (List.getElem?_eq_getElem hj)
    have h1t := Z9 h1 hts
    have hrt := Si hcs (fun c _ t x hc hf => ih hc hf) hts
    have hlen : (ts.map fun t => [t]).length = arr.size := by have := hrt.1; simpa using this
    by_cases h0 : ts = []
    ·subst h0
     have h00 : arr.size = 0 := by simpa using hlen.symm
     rw [h00]
     exact .nil _ _ _ _ (fun q hq => by cases hq; rfl) (fun b hb => by cases hb) (fun e => by cases e)
    ·have := TR.mk_sl (w := w) (X := fun b => X b ∨ qC5 st μ b) (es := ts.map fun t => [t]) (cap := some arr.size) (nl := none) (s := 1) (b := g) (off := 0) (c := arr.size) (f := fun i k => (arr[i + k]?).getD undef)
      (.inr ⟨id, _, by simp [Fb hl], hm⟩) (by omega) (fun q hq => by cases hq; rfl) (fun q hq => by cases hq) (fun e hme => by obtain ⟨t, _, rfl⟩ := List.mem_map.1 hme; rfl)
      (fun e hme => by
       obtain ⟨t, ht, rfl⟩ := List.mem_map.1 hme
       simpa [C6] using List.all_eq_true.1 h1t t ht)
      (fun i k hi hk => by
       rw [cell_of_row _ _ _ _ _ _ hheap, show 0 + i * 1 + k = i + k by omega]
       rw [hlen] at hi
       have : i + k < arr.size := by omega
       simp [this])
      (fun i k e t he ht => by
       have hi := (List.getElem?_eq_some_iff.1 he).1
       simp only [List.getElem?_map, Option.map_eq_some_iff] at he
       obtain ⟨t', ht', rfl⟩ := he
       have hk : k = 0 := by have := (List.getElem?_eq_some_iff.1 ht).1; simpa using this
       subst hk
       simp only [List.getElem?_cons_zero, Option.some.injEq] at ht; subst ht
       rw [hlen] at hi
       have := hrt.2 i t' arr[i] ht' (by simp [hi])
       simpa [hi] using this)
     rw [hlen] at this
     exact this
   ·cases hr
  | lm id =>
   simp only [Ah] at hr
   split at hr
   ·rename_i es hl
    simp only [Option.some.injEq] at hr; subst hr
    obtain ⟨g, n', hs, hm, rfl⟩ := ha.lm_inv
    obtain ⟨g', n2, clock, ms, hm', hh, hlen, hrel⟩ := h.reg _ _ hl
    rw [hm] at hm'; cases hm'
    exact .mp es g clock ms hh (.inr ⟨id, _, by simp [Fb hl], hm⟩) hlen (fun i e m h1 h2 => (hrel i e m h1 h2).1) (fun i e m h1 h2 => hmono (hrel i e m h1 h2).2)
   ·cases hr
  | dead => simp [Ah] at hr
  | un => simp [Ah] at hr
  | tu => simp [Ah] at hr
end
end Go.Lg
namespace Go.Lg
open Go
def ren0 (φ : Nat → Option Nat) : AV → AV
 | .ls i off len cap => match φ i with | some j => .ls j off len cap | none => .dead
 | .lp i a k => match φ i with | some j => .lp j a k | none => .dead
 | .lm i => match φ i with | some j => .lm j | none => .dead
 | .lb i m => match φ i with | some j => .lb j m | none => .dead
 | .li i => match φ i with | some j => .li j | none => .dead
 | .fn f [] => .fn f []
 | .fn _ (_ :: _) => .dead
 | .t x => .t x
 | .dead => .dead
 | .un => .un
 | .ag cs => .ag cs
 | .tu cs => .tu cs
def ren1 (φ : Nat → Option Nat) : AV → AV
 | .fn f cs => if cs.all Cd then .fn f (cs.map (ren0 φ)) else .dead
 | a => ren0 φ a
def Bc (φ : Nat → Option Nat) : AV → AV
 | .ag cs => .ag (cs.map (ren1 φ))
 | .tu cs => .tu (cs.map (ren1 φ))
 | a => ren1 φ a
def D3 (φ : Nat → Option Nat) : B7 → B7
 | .bx cs => .bx (cs.map (Bc φ))
 | q => q
theorem Ov {φ : Nat → Option Nat} (q : B7) : (D3 φ q).sh = q.sh := by cases q <;> rfl
section
variable {P : Program} {Γ : Tables} {w0 : World} {B : Nat} {κ : Da} {X X' : Nat → Prop} {μ μ' : Da} {st : St} {tm : Array Value} {w w' : World} {sh sh' : Nat → Option Sh} {φ : Nat → Option Nat}
theorem AR.ren0 (hsh : ∀ i j q, φ i = some j → sh i = some q → sh' j = some q ∧ μ' j = μ i) {a : AV} {x : Value} (ha : AR w X μ sh a x) (hna : Cd a = true) : AR w X μ' sh' (Lg.ren0 φ a) x := by
 cases ha with
 | t y v hy => exact .t _ _ hy
 | lsnil i s n hs hm oa cap hq =>
  simp only [Lg.ren0]; split
  ·rename_i j hj; exact .lsnil j s n (hsh _ _ _ hj hs).1 ((hsh _ _ _ hj hs).2.trans hm) oa cap hq
  ·exact .dead _ rfl
 | ls i off len s n g m c cap hs hm hle hlc hcm hfit hfull hq ad had =>
  simp only [Lg.ren0]; split
  ·rename_i j hj; exact .ls j off len s n g m c cap (hsh _ _ _ hj hs).1 ((hsh _ _ _ hj hs).2.trans hm) hle hlc hcm hfit hfull hq ad had
  ·exact .dead _ rfl
 | lpsl i a k s n g m hs hm =>
  simp only [Lg.ren0]; split
  ·rename_i j hj; exact .lpsl j a k s n g m (hsh _ _ _ hj hs).1 ((hsh _ _ _ hj hs).2.trans hm)
  ·exact .dead _ rfl
 | lpbx i k g m hs hm =>
  simp only [Lg.ren0]; split
  ·rename_i j hj; exact .lpbx j k g m (hsh _ _ _ hj hs).1 ((hsh _ _ _ hj hs).2.trans hm)
  ·exact .dead _ rfl
 | lm i g m hs hm =>
  simp only [Lg.ren0]; split
  ·rename_i j hj; exact .lm j g m (hsh _ _ _ hj hs).1 ((hsh _ _ _ hj hs).2.trans hm)
  ·exact .dead _ rfl
 | lb i g m hs hm hle =>
  simp only [Lg.ren0]; split
  ·rename_i j hj; exact .lb j g m (hsh _ _ _ hj hs).1 ((hsh _ _ _ hj hs).2.trans hm) hle
  ·exact .dead _ rfl
 | li i g m hs hm =>
  simp only [Lg.ren0]; split
  ·rename_i j hj; exact .li j g m (hsh _ _ _ hj hs).1 ((hsh _ _ _ hj hs).2.trans hm)
  ·exact .dead _ rfl
 | fn f cs xs hlen hrel =>
  cases cs with
  | nil => exact .fn f [] xs hlen (fun k a x h => by simp at h)
  | cons c cs => exact .dead _ rfl
 | dead v h => exact .dead _ h
 | un => exact .un
 | ag => simp [Cd] at hna
 | tu => simp [Cd] at hna
theorem AR.ren1 (hsh : ∀ i j q, φ i = some j → sh i = some q → sh' j = some q ∧ μ' j = μ i) {a : AV} {x : Value} (ha : AR w X μ sh a x) (hna : Cd a = true) : AR w X μ' sh' (Lg.ren1 φ a) x := by
 by_cases hf : ∃ f cs, a = .fn f cs
 ·obtain ⟨f, cs, rfl⟩ := hf
  simp only [Lg.ren1]
  split
  ·rename_i hall
   cases ha with
   | fn f cs xs hlen hrel =>
    refine .fn f _ xs (by simpa using hlen) fun k a x ha hx => ?_
    simp only [List.getElem?_map, Option.map_eq_some_iff] at ha
    obtain ⟨b, hb, rfl⟩ := ha
    exact (hrel k b x hb hx).ren0 hsh (List.all_eq_true.1 hall b (List.mem_of_getElem? hb))
  ·cases ha; exact .dead _ rfl
 ·have e : Lg.ren1 φ a = Lg.ren0 φ a := by cases a <;> first | rfl | exact absurd ⟨_, _, rfl⟩ hf
  rw [e]; exact ha.ren0 hsh hna
theorem qHY {a : AV} (h : a.one = true) : (Lg.ren0 φ a).one = true := by
 cases a with
 | fn f cs => cases cs <;> rfl
 | ag cs => simp [AV.one] at h
 | tu cs => simp [AV.one] at h
 | un => simp [AV.one] at h
 | t x => exact h
 | dead => rfl
 | ls i off len cap => simp only [Lg.ren0]; split <;> rfl
 | lp i j k => simp only [Lg.ren0]; split <;> rfl
 | lm i => simp only [Lg.ren0]; split <;> rfl
 | lb i m => simp only [Lg.ren0]; split <;> rfl
 | li i => simp only [Lg.ren0]; split <;> rfl
theorem qCt {a : AV} (h : a.one = true) : (Lg.ren1 φ a).one = true := by
 by_cases hf : ∃ f cs, a = .fn f cs
 ·obtain ⟨f, cs, rfl⟩ := hf
  simp only [Lg.ren1]; split <;> rfl
 ·have e : Lg.ren1 φ a = Lg.ren0 φ a := by cases a <;> first | rfl | exact absurd ⟨_, _, rfl⟩ hf
  rw [e]; exact qHY h
theorem qEI {a : AV} (h : a.one = true) : (Bc φ a).one = true := by
 have e : Bc φ a = Lg.ren1 φ a := by cases a <;> first | rfl | simp [AV.one] at h
 rw [e]; exact qCt h
theorem qEJ {a : AV} (h : Cd a = true) : Cd (Lg.ren0 φ a) = true := by
 cases a with
 | ag => simp [Cd] at h
 | tu => simp [Cd] at h
 | fn f cs => cases cs <;> rfl
 | t | dead | un => rfl
 | _ => simp only [Lg.ren0]; split <;> rfl
theorem qEK {a : AV} (h : Cd a = true) : Cd (Lg.ren1 φ a) = true := by
 by_cases hf : ∃ f cs, a = .fn f cs
 ·obtain ⟨f, cs, rfl⟩ := hf
  simp only [Lg.ren1]; split <;> rfl
 ·have e : Lg.ren1 φ a = Lg.ren0 φ a := by cases a <;> first | rfl | exact absurd ⟨_, _, rfl⟩ hf
  rw [e]; exact qEJ h
theorem AR.ren (hsh : ∀ i j q, φ i = some j → sh i = some q → sh' j = some q ∧ μ' j = μ i) {a : AV} {x : Value} (ha : AR w X μ sh a x) : AR w X μ' sh' (Bc φ a) x := by
 by_cases hg : Cd a = true
 ·have e : Bc φ a = Lg.ren1 φ a := by cases a <;> first | rfl | simp [Cd] at hg
  rw [e]; exact ha.ren1 hsh hg
 ·cases a with
  | ag cs =>
   obtain ⟨xs, rfl, h1, hr⟩ := ha.ag_inv
   refine AR.mk_ag (List.all_eq_true.2 fun b hb => ?_) ⟨by simpa using hr.1, fun k b y hb hy => ?_⟩
   ·obtain ⟨c, hc, rfl⟩ := List.mem_map.1 hb
    exact qCt (List.all_eq_true.1 h1 c hc)
   ·simp only [List.getElem?_map, Option.map_eq_some_iff] at hb
    obtain ⟨c, hc', rfl⟩ := hb
    exact (hr.2 k c y hc' hy).ren1 hsh (q41 (Xf h1 hc'))
  | tu cs =>
   obtain ⟨xs, rfl, h1, hr⟩ := ha.tu_inv
   refine AR.mk_tu (fun k b hb => ?_) ⟨by simpa using hr.1, fun k b y hb hy => ?_⟩
   ·simp only [List.getElem?_map, Option.map_eq_some_iff] at hb
    obtain ⟨c, hc', rfl⟩ := hb
    exact qEK (h1 k c hc')
   ·simp only [List.getElem?_map, Option.map_eq_some_iff] at hb
    obtain ⟨c, hc', rfl⟩ := hb
    exact (hr.2 k c y hc' hy).ren1 hsh (h1 k c hc')
  | _ => exact absurd rfl hg
theorem Jc.ren (hsh : ∀ i j q, φ i = some j → sh i = some q → sh' j = some q ∧ μ' j = μ i) {as : List AV} {xs : List Value} (ha : Jc w X μ sh as xs) : Jc w X μ' sh' (as.map (Bc φ)) xs :=
 ⟨by simpa using ha.1, fun k a x h hx => by
  simp only [List.getElem?_map, Option.map_eq_some_iff] at h
  obtain ⟨b, hb, rfl⟩ := h
  exact (ha.2 k b x hb hx).ren hsh⟩
theorem Ot.ren {id id' : Nat} {r : B7} (hsh : ∀ i j q, φ i = some j → sh i = some q → sh' j = some q ∧ μ' j = μ i) (hid : μ' id' = μ id) (h : Ot w X μ sh id r) : Ot w X μ' sh' id' (D3 φ r) := by
 cases r with
 | sl ty s es =>
  refine ⟨h.1, h.2.imp (fun ⟨h1, h2⟩ => ⟨h1, hid.trans h2⟩) fun ⟨g, arr, hm, hr⟩ => ⟨g, arr, hid.trans hm, hr⟩⟩
 | mp es => obtain ⟨g, n, clock, ms, hm, hr⟩ := h; exact ⟨g, n, clock, ms, hid.trans hm, hr⟩
 | it s pos => obtain ⟨g, n, hm, hr⟩ := h; exact ⟨g, n, hid.trans hm, hr⟩
 | bx cs =>
  obtain ⟨h1, g, arr, ty, hm, hg, hle, hr⟩ := h
  refine ⟨fun k a ha => ?_, g, arr, ty, hid.trans hm, hg, by simpa using hle, fun k a x ha hx => ?_⟩
  ·simp only [List.getElem?_map, Option.map_eq_some_iff] at ha
   obtain ⟨b, hb, rfl⟩ := ha
   exact qEI (h1 k b hb)
  ·simp only [List.getElem?_map, Option.map_eq_some_iff] at ha
   obtain ⟨b, hb, rfl⟩ := ha
   exact (hr k b x hb hx).ren hsh
def Eu (P : Program) (Γ : Tables) (f : FuncId) (hp : List (Nat × B7)) (args : List AV) (res : AV) (hp' : List (Nat × B7)) : Prop :=
 ∀ (w : World) (X : Nat → Prop) (κ : Da) (vs : List Value), Gl Γ w X → (∀ id, κ id ≠ none → A2 hp id ≠ none) → Bt w w.heap.size κ X κ ⟨[], hp⟩ #[] w → Jc w X κ (St.sh ⟨[], hp⟩) args vs →
  q0V P f vs.toArray w fun v w' => ∃ X' μ', Bt w w.heap.size κ X' μ' ⟨[], hp'⟩ #[] w' ∧ AR w' X' μ' (St.sh ⟨[], hp'⟩) res v ∧ (∀ b, X b → X' b) ∧ (∀ b, X' b → X b ∨ w.heap.size ≤ b ∨ ∃ id n, κ id = some (b, n))
theorem Eu.alike {f : FuncId} {hp hq : List (Nat × B7)} {args : List AV} {res : AV} {hp' : List (Nat × B7)} (hl : ∀ t, A2 hq t = A2 hp t) (h : Eu P Γ f hp args res hp') : Eu P Γ f hq args res hp' := by
 intro w X κ vs hg hk hs ha
 have e : St.sh ⟨[], hq⟩ = St.sh ⟨[], hp⟩ := funext fun t => by simp only [St.sh, hl]
 refine h w X κ vs hg (fun id hi => by rw [← hl]; exact hk id hi) ?_ (by rw [← e]; exact ha)
 refine ⟨fun t a ht => by simp [A2] at ht, fun id r hr => ?_, ?_, ?_, ?_, hs.kbig, hs.xlt, hs.os, hs.tape, hs.output, hs.size, hs.fr⟩
 ·rw [← e]; exact hs.reg id r (by show A2 hq id = _; rw [hl]; exact hr)
 ·rw [← e]; exact hs.inj
 ·rw [← e]; exact hs.loc
 ·rw [← e]; exact hs.kap
def fwd (rs : List Nat) (i : Nat) : Option Nat := if rs.contains i then some (1000000 + rs.idxOf i) else none
def bwd (rs : List Nat) (base j : Nat) : Nat := if j < 1000000 then base + j else rs.getD (j - 1000000) 0
def Fe (rs : List Nat) (hp : List (Nat × B7)) : List (Nat × B7) := rs.filterMap fun i => (A2 hp i).map fun r => (1000000 + rs.idxOf i, D3 (fwd rs) r)
def M3 (rs : List Nat) (base : Nat) : List (Nat × B7) → List (Nat × B7)
 | [] => []
 | (j, r) :: l => if j < 1000000 then (base + j, D3 (fun i => some (bwd rs base i)) r) :: M3 rs base l else M3 rs base l
def q6N (rs : List Nat) (hp' : List (Nat × B7)) (i : Nat) : Option Nat := if rs.contains i && (A2 hp' (1000000 + rs.idxOf i)).isNone then none else some i
def q8B (rs : List Nat) (base : Nat) (hp' : List (Nat × B7)) : List (Nat × B7) → List (Nat × B7)
 | [] => []
 | (t, q) :: l =>
  if rs.contains t then (match A2 hp' (1000000 + rs.idxOf t) with
   | some r => (t, D3 (fun i => some (bwd rs base i)) r) :: q8B rs base hp' l
   | none => q8B rs base hp' l)
  else (t, D3 (q6N rs hp') q) :: q8B rs base hp' l
def Kq (rs : List Nat) (base : Nat) (hp' : List (Nat × B7)) (st : St) : St := ⟨st.env.map fun p => (p.1, Bc (q6N rs hp') p.2), M3 rs base hp' ++ q8B rs base hp' st.hp⟩
def okB (rs : List Nat) (base : Nat) (hp : List (Nat × B7)) : List (Nat × B7) → Prop
 | [] => True
 | (j, r) :: l => (if j < 1000000 then A2 hp (base + j) = none ∧ base + j < 1000000 else j - 1000000 < rs.length ∧ (A2 hp (rs.getD (j - 1000000) 0)).map B7.sh = some r.sh) ∧ okB rs base hp l
theorem q6O {rs : List Nat} {base : Nat} {hp : List (Nat × B7)} : ∀ {hp' : List (Nat × B7)} {j : Nat} {r : B7}, okB rs base hp hp' → A2 hp' j = some r →
  if j < 1000000 then A2 hp (base + j) = none ∧ base + j < 1000000 else j - 1000000 < rs.length ∧ (A2 hp (rs.getD (j - 1000000) 0)).map B7.sh = some r.sh
 | [], j, r, _, h => by simp [A2] at h
 | (k, q) :: l, j, r, ho, h => by
  simp only [A2] at h
  split at h
  ·rename_i e; subst e; simp only [Option.some.injEq] at h; subst h; exact ho.1
  ·exact q6O ho.2 h
theorem q7V {rs : List Nat} {base t : Nat} : ∀ {hp' : List (Nat × B7)}, A2 (M3 rs base hp') t = if base ≤ t ∧ t - base < 1000000 then (A2 hp' (t - base)).map (D3 fun i => some (bwd rs base i)) else none
 | [] => by simp [M3, A2]
 | (j, r) :: l => by
  have ih := q7V (rs := rs) (base := base) (t := t) (hp' := l)
  simp only [M3]
  split
  ·rename_i hj
   simp only [A2, ih]
   by_cases e : base + j = t
   ·have h1 : base ≤ t ∧ t - base < 1000000 := by omega
    have h2 : j = t - base := by omega
    simp [e, h1, h2]
   ·by_cases h1 : base ≤ t ∧ t - base < 1000000
    ·have h2 : ¬ j = t - base := by omega
     simp [e, h1, h2]
    ·simp [e, h1]
  ·rename_i hj
   rw [ih]
   by_cases h1 : base ≤ t ∧ t - base < 1000000
   ·have h2 : ¬ j = t - base := by omega
    simp [h1, A2, h2]
   ·simp [h1]
theorem q0s {rs : List Nat} {base t : Nat} {hp' : List (Nat × B7)} : ∀ {hp : List (Nat × B7)}, A2 (q8B rs base hp' hp) t =
  if rs.contains t then (A2 hp t).bind fun _ => (A2 hp' (1000000 + rs.idxOf t)).map (D3 fun i => some (bwd rs base i)) else (A2 hp t).map (D3 (q6N rs hp'))
 | [] => by simp [q8B, A2]
 | (k, q) :: l => by
  have ih := q0s (rs := rs) (base := base) (t := t) (hp' := hp') (hp := l)
  simp only [q8B]
  by_cases e : k = t
  ·subst e
   by_cases hc : rs.contains k
   ·simp only [hc, ↓reduceIte] at ih ⊢
    split
    ·rename_i r hr; simp [A2, hr]
    ·rename_i hr; rw [ih]; simp [A2, hr]
   ·simp only [hc, Bool.false_eq_true, ↓reduceIte, A2, Option.map_some]
  ·by_cases hc : rs.contains k
   ·simp only [hc, ↓reduceIte]
    split
    ·simp only [A2, e, ↓reduceIte, ih]
    ·simp only [A2, e, ↓reduceIte, ih]
   ·simp only [hc, Bool.false_eq_true, ↓reduceIte, A2, e, ih]
theorem Dv {α : Type} {a b : List (Nat × α)} {t : Nat} : A2 (a ++ b) t = (A2 a t).or (A2 b t) := by
 induction a with
 | nil => simp [A2]
 | cons p a ih =>
  simp only [List.cons_append, A2]
  split
  ·simp
  ·exact ih
theorem qBC {rs : List Nat} {hp : List (Nat × B7)} {j : Nat} {r : B7} (h : A2 (Fe rs hp) j = some r) : ∃ i q, i ∈ rs ∧ A2 hp i = some q ∧ j = 1000000 + rs.idxOf i ∧ r = D3 (fwd rs) q := by
 have key : ∀ l : List Nat, (∀ i ∈ l, i ∈ rs) → A2 (l.filterMap fun i => (A2 hp i).map fun r => (1000000 + rs.idxOf i, D3 (fwd rs) r)) j = some r → ∃ i q, i ∈ rs ∧ A2 hp i = some q ∧ j = 1000000 + rs.idxOf i ∧ r = D3 (fwd rs) q := by
  intro l
  induction l with
  | nil => intro _ h; simp [A2] at h
  | cons i l ih =>
   intro hm h
   rw [List.filterMap_cons] at h
   cases hq : A2 hp i with
   | none => rw [hq] at h; exact ih (fun i hi => hm i (List.mem_cons_of_mem _ hi)) h
   | some q =>
    rw [hq] at h
    simp only [Option.map_some, A2] at h
    split at h
    ·rename_i e
     simp only [Option.some.injEq] at h
     exact ⟨i, q, hm i List.mem_cons_self, hq, e.symm, h.symm⟩
    ·exact ih (fun i hi => hm i (List.mem_cons_of_mem _ hi)) h
 exact key rs (fun _ h => h) h
theorem q9Z {rs : List Nat} {hp : List (Nat × B7)} {i : Nat} {q : B7} (hi : i ∈ rs) (hq : A2 hp i = some q) : A2 (Fe rs hp) (1000000 + rs.idxOf i) = some (D3 (fwd rs) q) := by
 have key : ∀ l : List Nat, i ∈ l → (∀ i ∈ l, i ∈ rs) → A2 (l.filterMap fun i => (A2 hp i).map fun r => (1000000 + rs.idxOf i, D3 (fwd rs) r)) (1000000 + rs.idxOf i) = some (D3 (fwd rs) q) := by
  intro l
  induction l with
  | nil => intro h; cases h
  | cons k l ih =>
   intro h hm
   rw [List.filterMap_cons]
   by_cases e : k = i
   ·subst e; simp [hq, A2]
   ·have hne : rs.idxOf k ≠ rs.idxOf i := by
     intro he
     have h1 := List.getElem_idxOf (List.idxOf_lt_length_of_mem (hm k List.mem_cons_self))
     have h2 := List.getElem_idxOf (List.idxOf_lt_length_of_mem hi)
     apply e
     rw [← h1, ← h2]
     simp only [he]
    have ih' := ih (by rcases List.mem_cons.1 h with h | h; exact absurd h.symm e; exact h) (fun i hi => hm i (List.mem_cons_of_mem _ hi))
    cases A2 hp k with
    | none => exact ih'
    | some r =>
     simp only [Option.map_some, A2]
     rw [if_neg (by omega)]
     exact ih'
 exact key rs hi (fun _ h => h)
theorem q6P {rs : List Nat} {k : Nat} (h : k < rs.length) : rs.getD k 0 = rs[k] := by simp [List.getD, h]
def Jd (μ : Da) (st : St) (rs : List Nat) : Da := fun j => if 1000000 ≤ j ∧ j - 1000000 < rs.length ∧ st.sh (rs.getD (j - 1000000) 0) ≠ none then μ (rs.getD (j - 1000000) 0) else none
theorem Fv {rs : List Nat} {j : Nat} {l : Nat × Nat} (h : Jd μ st rs j = some l) : ∃ t, t ∈ rs ∧ st.sh t ≠ none ∧ μ t = some l := by
 unfold Jd at h
 split at h
 ·rename_i hc
  refine ⟨_, ?_, hc.2.2, h⟩
  simp [List.getD, hc.2.1]
 ·cases h
theorem Pq {rs : List Nat} {t : Nat} (ht : t ∈ rs) (hs : st.sh t ≠ none) : Jd μ st rs (1000000 + rs.idxOf t) = μ t := by
 have hlt := List.idxOf_lt_length_of_mem ht
 have e : rs.getD (rs.idxOf t) 0 = t := by simp [List.getD, hlt]
 unfold Jd
 have e2 : 1000000 + rs.idxOf t - 1000000 = rs.idxOf t := by omega
 rw [e2, e, if_pos ⟨by omega, hlt, hs⟩]
theorem Za {rs : List Nat} {t : Nat} {q : Sh} (ht : t ∈ rs) (hs : st.sh t = some q) : St.sh ⟨[], Fe rs st.hp⟩ (1000000 + rs.idxOf t) = some q := by
 simp only [St.sh, Option.map_eq_some_iff] at hs ⊢
 obtain ⟨r, hr, rfl⟩ := hs
 exact ⟨_, q9Z ht hr, Ov _⟩
theorem Zb {rs : List Nat} {j : Nat} (hs : St.sh ⟨[], Fe rs st.hp⟩ j ≠ none) : ∃ t, t ∈ rs ∧ j = 1000000 + rs.idxOf t ∧ st.sh t ≠ none := by
 cases h : A2 (Fe rs st.hp) j with
 | none => exact absurd (by simp [St.sh, h]) hs
 | some r =>
  obtain ⟨i, q, h1, h2, h3, _⟩ := qBC h
  exact ⟨i, h1, h3, by simp [St.sh, h2]⟩
theorem qJS {rs : List Nat} {a b : Nat} (ha : a ∈ rs) (hb : b ∈ rs) (h : rs.idxOf a = rs.idxOf b) : a = b := by
 have h1 := List.getElem_idxOf (List.idxOf_lt_length_of_mem ha)
 have h2 := List.getElem_idxOf (List.idxOf_lt_length_of_mem hb)
 rw [← h1, ← h2]
 simp only [h]
theorem Bt.hand (h : Bt w0 B κ X μ st tm w) (rs : List Nat) : Bt w w.heap.size (Jd μ st rs) X (Jd μ st rs) ⟨[], Fe rs st.hp⟩ #[] w := by
 have hfw : ∀ i j q, fwd rs i = some j → st.sh i = some q → St.sh ⟨[], Fe rs st.hp⟩ j = some q ∧ Jd μ st rs j = μ i := by
  intro i j q hj hs
  unfold fwd at hj
  split at hj
  ·rename_i hc
   have hm : i ∈ rs := by simpa using hc
   simp only [Option.some.injEq] at hj; subst hj
   exact ⟨Za hm hs, Pq hm (by simp [hs])⟩
  ·cases hj
 refine ⟨fun t a ht => by simp [A2] at ht, ?_, ?_, ?_, fun _ _ _ => rfl, ?_, h.xlt, rfl, rfl, rfl, Nat.le_refl _, fun _ _ _ => rfl⟩
 ·intro id r hr
  obtain ⟨i, q, h1, h2, rfl, rfl⟩ := qBC hr
  exact (h.reg i q h2).ren hfw (Pq h1 (by simp [St.sh, h2]))
 ·intro a b g n n' ha hb hma hmb
  obtain ⟨i, h1, rfl, h2⟩ := Zb ha
  obtain ⟨j, h3, rfl, h4⟩ := Zb hb
  rw [Pq h1 h2] at hma
  rw [Pq h3 h4] at hmb
  rw [h.inj i j g n n' h2 h4 hma hmb]
 ·intro a g n ha hm
  obtain ⟨i, h1, rfl, h2⟩ := Zb ha
  have hm' := hm
  rw [Pq h1 h2] at hm'
  obtain ⟨h5, h6, _⟩ := h.loc i g n h2 hm'
  exact ⟨h5, h6, fun _ => ⟨_, _, hm⟩⟩
 ·intro j l hk
  unfold Jd at hk
  split at hk
  ·rename_i hc; exact hc.1
  ·cases hk
theorem q46 {rs : List Nat} {as : List AV} {xs : List Value} (h : Bt w0 B κ X μ st tm w) (ha : Jc w X μ st.sh as xs) : Jc w X (Jd μ st rs) (St.sh ⟨[], Fe rs st.hp⟩) (as.map (Bc (fwd rs))) xs := by
 refine ha.ren fun i j q hj hs => ?_
 unfold fwd at hj
 split at hj
 ·rename_i hc
  have hm : i ∈ rs := by simpa using hc
  simp only [Option.some.injEq] at hj; subst hj
  exact ⟨Za hm hs, Pq hm (by simp [hs])⟩
 ·cases hj
def Ox (μ μ' : Da) (base : Nat) (hp' : List (Nat × B7)) : Da := fun t => if base ≤ t ∧ t - base < 1000000 ∧ A2 hp' (t - base) ≠ none then μ' (t - base) else μ t
theorem Bt.back {rs : List Nat} {base : Nat} {hp' : List (Nat × B7)} (hnd : rs.Nodup) (h : Bt w0 B κ X μ st tm w) (h' : Bt w w.heap.size (Jd μ st rs) X' μ' ⟨[], hp'⟩ #[] w') (hok : okB rs base st.hp hp') (hX : ∀ b, X b → X' b)
  (hX' : ∀ b, X' b → X b ∨ w.heap.size ≤ b ∨ ∃ id n, Jd μ st rs id = some (b, n)) :
  Bt w0 B κ X' (Ox μ μ' base hp') (Kq rs base hp' st) tm w' ∧ Same X w w' ∧
   ∀ i q, St.sh ⟨[], hp'⟩ i = some q → (Kq rs base hp' st).sh (bwd rs base i) = some q ∧ Ox μ μ' base hp' (bwd rs base i) = μ' i := by
 have hsame : Same X w w' := by
  intro b hb
  refine h'.fr b (h.xlt b hb) fun id n hk => ?_
  obtain ⟨t, _, h2, h3⟩ := Fv hk
  exact (h.loc t b n h2 h3).1 hb
 have hlook : ∀ t, A2 (Kq rs base hp' st).hp t = ((if base ≤ t ∧ t - base < 1000000 then (A2 hp' (t - base)).map (D3 fun i => some (bwd rs base i)) else none).or
   (if rs.contains t then (A2 st.hp t).bind fun _ => (A2 hp' (1000000 + rs.idxOf t)).map (D3 fun i => some (bwd rs base i)) else (A2 st.hp t).map (D3 (q6N rs hp')))) := fun t => by
  simp only [Kq, Dv, q7V, q0s]
 have hnew : ∀ t, base ≤ t ∧ t - base < 1000000 ∧ A2 hp' (t - base) ≠ none → A2 st.hp t = none ∧ t < 1000000 := by
  intro t ⟨h1, h2, h3⟩
  cases hr : A2 hp' (t - base) with
  | none => exact absurd hr h3
  | some r =>
   have := q6O hok hr
   rw [if_pos h2] at this
   have e : base + (t - base) = t := by omega
   rw [e] at this; exact this
 have hold : ∀ j r, A2 hp' j = some r → ¬ j < 1000000 → ∃ t, t ∈ rs ∧ j = 1000000 + rs.idxOf t ∧ bwd rs base j = t ∧ st.sh t = some r.sh := by
  intro j r hr hj
  have := q6O hok hr
  rw [if_neg hj] at this
  obtain ⟨h1, h2⟩ := this
  have hg : rs.getD (j - 1000000) 0 = rs[j - 1000000] := by simp [List.getD, h1]
  refine ⟨rs[j - 1000000], List.getElem_mem h1, ?_, by simp only [bwd, hj, ↓reduceIte, hg], by rw [hg] at h2; exact h2⟩
  rw [hnd.idxOf_getElem]; omega
 have hbwd : ∀ i q, St.sh ⟨[], hp'⟩ i = some q → (Kq rs base hp' st).sh (bwd rs base i) = some q ∧ Ox μ μ' base hp' (bwd rs base i) = μ' i := by
  intro i q hq
  simp only [St.sh, Option.map_eq_some_iff] at hq
  obtain ⟨r, hr, rfl⟩ := hq
  by_cases hi : i < 1000000
  ·have e : base + i - base = i := by omega
   have hb : bwd rs base i = base + i := by simp [bwd, hi]
   rw [hb]
   constructor
   ·simp only [St.sh, hlook, e]
    rw [if_pos ⟨by omega, hi⟩]
    simp [hr, Ov]
   ·simp only [Ox, e]
    rw [if_pos ⟨by omega, hi, by simp [hr]⟩]
  ·obtain ⟨t, ht, rfl, hb, hs⟩ := hold i r hr hi
   rw [hb]
   have hnn : ¬ (base ≤ t ∧ t - base < 1000000 ∧ A2 hp' (t - base) ≠ none) := fun hc => by
    have := (hnew t hc).1
    simp [St.sh, this] at hs
   have hts : st.sh t ≠ none := by simp [hs]
   have hz : (if base ≤ t ∧ t - base < 1000000 then (A2 hp' (t - base)).map (D3 fun i => some (bwd rs base i)) else none) = none := by
    split
    ·rename_i hc
     cases hl : A2 hp' (t - base) with
     | none => rfl
     | some _ => exact absurd ⟨hc.1, hc.2, by simp [hl]⟩ hnn
    ·rfl
   constructor
   ·obtain ⟨q0, hq0⟩ : ∃ q0, A2 st.hp t = some q0 := by
     cases hl : A2 st.hp t with
     | none => simp [St.sh, hl] at hs
     | some q0 => exact ⟨q0, rfl⟩
    have hct : rs.contains t = true := by simpa using ht
    show (A2 (Kq rs base hp' st).hp t).map B7.sh = _
    rw [hlook, hz]
    simp [ht, hq0, hr, Ov]
   ·simp only [Ox]
    rw [if_neg hnn, h'.kap _ (by omega) (by simp [St.sh, hr]), Pq ht hts]
 have hgone : ∀ i j q, q6N rs hp' i = some j → st.sh i = some q → (Kq rs base hp' st).sh j = some q ∧ Ox μ μ' base hp' j = μ i := by
  intro i j q hg hs
  unfold q6N at hg
  split at hg
  ·cases hg
  rename_i hc
  simp only [Option.some.injEq] at hg; subst hg
  have his : A2 st.hp i ≠ none := fun e => by simp [St.sh, e] at hs
  have hnn : ¬ (base ≤ i ∧ i - base < 1000000 ∧ A2 hp' (i - base) ≠ none) := fun hc => his (hnew i hc).1
  have hz : (if base ≤ i ∧ i - base < 1000000 then (A2 hp' (i - base)).map (D3 fun i => some (bwd rs base i)) else none) = none := by
   split
   ·rename_i hc
    cases hl : A2 hp' (i - base) with
    | none => rfl
    | some _ => exact absurd ⟨hc.1, hc.2, by simp [hl]⟩ hnn
   ·rfl
  refine ⟨?_, by simp only [Ox]; rw [if_neg hnn]⟩
  obtain ⟨q0, hq0⟩ : ∃ q0, A2 st.hp i = some q0 := by
   cases hl : A2 st.hp i with
   | none => exact absurd hl his
   | some q0 => exact ⟨q0, rfl⟩
  have hq0s : q0.sh = q := by simpa [St.sh, hq0] using hs
  by_cases hm : i ∈ rs
  ·have hct : rs.contains i = true := by simpa using hm
   simp only [hct, Bool.true_and, Bool.not_eq_true, Option.isNone_eq_false_iff, Option.isSome_iff_exists] at hc
   obtain ⟨r, hr⟩ := hc
   obtain ⟨t, ht, he, _, hs'⟩ := hold _ r hr (by omega)
   have := qJS hm ht (by omega)
   subst this
   have hrs : r.sh = q := by rw [hs] at hs'; simpa using hs'.symm
   show (A2 (Kq rs base hp' st).hp i).map B7.sh = _
   rw [hlook, hz]
   simp [hm, hq0, hr, Ov, hrs]
  ·show (A2 (Kq rs base hp' st).hp i).map B7.sh = _
   rw [hlook, hz]
   simp [hm, hq0, Ov, hq0s]
 -- every region behind the call: a new one, one that came back, one that was not handed over
 have hcase : ∀ t r, A2 (Kq rs base hp' st).hp t = some r → (∃ r', base ≤ t ∧ t - base < 1000000 ∧ A2 hp' (t - base) = some r' ∧ r = D3 (fun i => some (bwd rs base i)) r' ∧ Ox μ μ' base hp' t = μ' (t - base)) ∨
   (t ∈ rs ∧ st.sh t ≠ none ∧ Ox μ μ' base hp' t = μ t ∧ ∃ r', A2 hp' (1000000 + rs.idxOf t) = some r' ∧ r = D3 (fun i => some (bwd rs base i)) r') ∨
   (t ∉ rs ∧ Ox μ μ' base hp' t = μ t ∧ ∃ q, A2 st.hp t = some q ∧ r = D3 (q6N rs hp') q) := by
  intro t r hr
  rw [hlook] at hr
  by_cases hn : base ≤ t ∧ t - base < 1000000 ∧ A2 hp' (t - base) ≠ none
  ·obtain ⟨r', hr'⟩ : ∃ r', A2 hp' (t - base) = some r' := by
    cases hl : A2 hp' (t - base) with
    | none => exact absurd hl hn.2.2
    | some r' => exact ⟨r', rfl⟩
   rw [if_pos ⟨hn.1, hn.2.1⟩] at hr
   simp only [hr', Option.map_some, Option.some_or, Option.some.injEq] at hr
   exact .inl ⟨r', hn.1, hn.2.1, hr', hr.symm, by simp only [Ox]; rw [if_pos hn]⟩
  ·have hz : (if base ≤ t ∧ t - base < 1000000 then (A2 hp' (t - base)).map (D3 fun i => some (bwd rs base i)) else none) = none := by
    split
    ·rename_i hc
     cases hl : A2 hp' (t - base) with
     | none => rfl
     | some _ => exact absurd ⟨hc.1, hc.2, by simp [hl]⟩ hn
    ·rfl
   have hbm : Ox μ μ' base hp' t = μ t := by simp only [Ox]; rw [if_neg hn]
   rw [hz] at hr
   simp only [Option.none_or] at hr
   by_cases hm : t ∈ rs
   ·have hct : rs.contains t = true := by simpa using hm
    simp only [hct, ↓reduceIte, Option.bind_eq_some_iff, Option.map_eq_some_iff] at hr
    obtain ⟨q, hq, r', hr', rfl⟩ := hr
    exact .inr (.inl ⟨hm, by simp [St.sh, hq], hbm, r', hr', rfl⟩)
   ·have hct : rs.contains t = false := by simpa using hm
    simp only [hct, Bool.false_eq_true, ↓reduceIte, Option.map_eq_some_iff] at hr
    obtain ⟨q, hq, rfl⟩ := hr
    exact .inr (.inr ⟨hm, hbm, q, hq, rfl⟩)
 have hshc : ∀ t, (Kq rs base hp' st).sh t ≠ none → (∃ r', base ≤ t ∧ t - base < 1000000 ∧ A2 hp' (t - base) = some r' ∧ Ox μ μ' base hp' t = μ' (t - base)) ∨
   (t ∈ rs ∧ st.sh t ≠ none ∧ Ox μ μ' base hp' t = μ t ∧ A2 hp' (1000000 + rs.idxOf t) ≠ none) ∨ (t ∉ rs ∧ st.sh t ≠ none ∧ Ox μ μ' base hp' t = μ t) := by
  intro t ht
  cases hl : A2 (Kq rs base hp' st).hp t with
  | none => exact absurd (by simp [St.sh, hl]) ht
  | some r =>
   rcases hcase t r hl with ⟨r', h1, h2, h3, _, h4⟩ | ⟨h1, h2, h3, r', h4, _⟩ | ⟨h1, h2, q, h3, _⟩
   ·exact .inl ⟨r', h1, h2, h3, h4⟩
   ·exact .inr (.inl ⟨h1, h2, h3, by simp [h4]⟩)
   ·exact .inr (.inr ⟨h1, by simp [St.sh, h3], h2⟩)
 have shp : ∀ j r, A2 hp' j = some r → St.sh ⟨[], hp'⟩ j ≠ none := fun j r hr => by simp [St.sh, hr]
 have hmono : ∀ {a : AV} {x : Value} {sh0 : Nat → Option Sh} {μ0 : Da}, AR w X μ0 sh0 a x → AR w' X' μ0 sh0 a x := fun ha => ha.mono hsame hX (fun _ _ hq => ⟨hq, rfl⟩)
 refine ⟨⟨?_, ?_, ?_, ?_, ?_, h.kbig, h'.xlt, h'.os.trans h.os, h'.tape.trans h.tape, h'.output.trans h.output, Nat.le_trans h.size h'.size, ?_⟩, hsame, hbwd⟩
 ·intro t a ht
  have h1 : A2 (st.env.map fun p => (p.1, Bc (q6N rs hp') p.2)) t = (A2 st.env t).map (Bc (q6N rs hp')) := F4 _ _ _
  have ht' : A2 (st.env.map fun p => (p.1, Bc (q6N rs hp') p.2)) t = some a := ht
  rw [h1, Option.map_eq_some_iff] at ht'
  obtain ⟨b, hb, rfl⟩ := ht'
  exact (hmono (h.env t b hb)).ren hgone
 ·intro t r hr
  rcases hcase t r hr with ⟨r', h1, h2, h3, rfl, h4⟩ | ⟨h1, h2, h3, r', h4, rfl⟩ | ⟨h1, h2, q, h3, rfl⟩
  ·exact (h'.reg _ r' h3).ren (fun i j q hj hs => by cases hj; exact hbwd i q hs) h4
  ·refine (h'.reg _ r' h4).ren (fun i j q hj hs => by cases hj; exact hbwd i q hs) ?_
   rw [h3, h'.kap _ (by omega) (shp _ _ h4), Pq h1 h2]
  ·refine ((h.reg t q h3).mono hsame hX (fun _ _ hq => ⟨hq, rfl⟩) rfl fun g n hm => ?_).ren hgone h2
   obtain ⟨h5, h6, h7⟩ := h.loc t g n (by simp [St.sh, h3]) hm
   refine h'.fr g h6 fun id n' hk => ?_
   obtain ⟨t', h8, h9, h10⟩ := Fv hk
   exact h1 (h.inj t t' g n n' (by simp [St.sh, h3]) h9 hm h10 ▸ h8)
 ·intro a b g n n' ha hb hma hmb
  -- an old one's block lies below; a new one's block, if below, was a handed region's that is q6N
  have hno : ∀ t u g n n' r', base ≤ t → t - base < 1000000 → A2 hp' (t - base) = some r' → μ' (t - base) = some (g, n) → st.sh u ≠ none → μ u = some (g, n') → (u ∈ rs → A2 hp' (1000000 + rs.idxOf u) ≠ none) → False := by
   intro t u g n n' r' h1 h2 h3 h4 h5 h6 h7
   obtain ⟨_, h8, _⟩ := h.loc u g n' h5 h6
   obtain ⟨id', n2, hk⟩ := (h'.loc (t - base) g n (shp _ _ h3) h4).2.2 h8
   obtain ⟨t', h9, h10, h11⟩ := Fv hk
   have := h.inj u t' g n' n2 h5 h10 h6 h11
   subst this
   have h12 := h7 h9
   have h13 : St.sh ⟨[], hp'⟩ (1000000 + rs.idxOf u) ≠ none := by
    cases hl : A2 hp' (1000000 + rs.idxOf u) with
    | none => exact absurd hl h12
    | some r => exact shp _ r hl
   have h14 : μ' (1000000 + rs.idxOf u) = some (g, n') := by rw [h'.kap _ (by omega) h13, Pq h9 h5]; exact h6
   have := h'.inj (t - base) (1000000 + rs.idxOf u) g n n' (shp _ _ h3) h13 h4 h14
   omega
  rcases hshc a ha with ⟨r', h1, h2, h3, h4⟩ | ⟨h1, h2, h3, h4⟩ | ⟨h1, h2, h3⟩ <;> rcases hshc b hb with ⟨q', k1, k2, k3, k4⟩ | ⟨k1, k2, k3, k4⟩ | ⟨k1, k2, k3⟩
  ·rw [h4] at hma; rw [k4] at hmb
   have := h'.inj (a - base) (b - base) g n n' (shp _ _ h3) (shp _ _ k3) hma hmb
   omega
  ·rw [h4] at hma; rw [k3] at hmb
   exact (hno a b g n n' r' h1 h2 h3 hma k2 hmb fun _ => k4).elim
  ·rw [h4] at hma; rw [k3] at hmb
   exact (hno a b g n n' r' h1 h2 h3 hma k2 hmb fun hc => absurd hc k1).elim
  ·rw [h3] at hma; rw [k4] at hmb
   exact (hno b a g n' n q' k1 k2 k3 hmb h2 hma fun _ => h4).elim
  ·rw [h3] at hma; rw [k3] at hmb; exact h.inj a b g n n' h2 k2 hma hmb
  ·rw [h3] at hma; rw [k3] at hmb; exact h.inj a b g n n' h2 k2 hma hmb
  ·rw [h3] at hma; rw [k4] at hmb
   exact (hno b a g n' n q' k1 k2 k3 hmb h2 hma fun hc => absurd hc h1).elim
  ·rw [h3] at hma; rw [k3] at hmb; exact h.inj a b g n n' h2 k2 hma hmb
  ·rw [h3] at hma; rw [k3] at hmb; exact h.inj a b g n n' h2 k2 hma hmb
 ·intro t g n ht hm
  rcases hshc t ht with ⟨r', h1, h2, h3, h4⟩ | ⟨h1, h2, h3, h4⟩ | ⟨h1, h2, h3⟩
  ·rw [h4] at hm
   obtain ⟨h5, h6, h7⟩ := h'.loc _ g n (shp _ _ h3) hm
   refine ⟨h5, h6, fun hlt => ?_⟩
   obtain ⟨id', n', hk⟩ := h7 (Nat.lt_of_lt_of_le hlt h.size)
   obtain ⟨t', h8, h9, h10⟩ := Fv hk
   exact (h.loc t' g n' h9 h10).2.2 hlt
  ·rw [h3] at hm
   obtain ⟨h5, h6, h7⟩ := h.loc t g n h2 hm
   have h13 : St.sh ⟨[], hp'⟩ (1000000 + rs.idxOf t) ≠ none := by
    cases hl : A2 hp' (1000000 + rs.idxOf t) with
    | none => exact absurd hl h4
    | some r => exact shp _ r hl
   have h14 : μ' (1000000 + rs.idxOf t) = some (g, n) := by rw [h'.kap _ (by omega) h13, Pq h1 h2]; exact hm
   obtain ⟨h8, h9, _⟩ := h'.loc _ g n h13 h14
   exact ⟨h8, h9, h7⟩
  ·rw [h3] at hm
   obtain ⟨h5, h6, h7⟩ := h.loc t g n h2 hm
   refine ⟨fun hx => ?_, Nat.lt_of_lt_of_le h6 h'.size, h7⟩
   rcases hX' g hx with hx | hx | ⟨id, n', hk⟩
   ·exact h5 hx
   ·omega
   ·obtain ⟨t', h8, h9, h10⟩ := Fv hk
    exact h1 (h.inj t t' g n n' h2 h9 hm h10 ▸ h8)
 ·intro t hbig ht
  rcases hshc t ht with ⟨r', h1, h2, h3, h4⟩ | ⟨h1, h2, h3, h4⟩ | ⟨h1, h2, h3⟩
  ·have := (hnew t ⟨h1, h2, by simp [h3]⟩).2; omega
  ·rw [h3]; exact h.kap t hbig h2
  ·rw [h3]; exact h.kap t hbig h2
 ·intro k hk hn
  refine (h'.fr k (Nat.lt_of_lt_of_le hk h.size) fun id n hkk => ?_).trans (h.fr k hk hn)
  obtain ⟨t', h8, h9, h10⟩ := Fv hkk
  obtain ⟨id', n', hq⟩ := (h.loc t' k n h9 h10).2.2 hk
  exact hn id' n' hq
theorem Bt.news {base : Nat} {hp' : List (Nat × B7)} (h : Bt w0 B κ X μ st tm w) (h' : Bt w w.heap.size (Jd μ st []) X' μ' ⟨[], hp'⟩ #[] w') (hok : okB [] base st.hp hp') (hX : ∀ b, X b → X' b)
  (hX' : ∀ b, X' b → X b ∨ w.heap.size ≤ b ∨ ∃ id n, Jd μ st [] id = some (b, n)) :
  Bt w0 B κ X' (Ox μ μ' base hp') ⟨st.env, M3 [] base hp' ++ st.hp⟩ tm w' ∧ Same X w w' ∧
   ∀ i q, St.sh ⟨[], hp'⟩ i = some q → St.sh ⟨st.env, M3 [] base hp' ++ st.hp⟩ (bwd [] base i) = some q ∧ Ox μ μ' base hp' (bwd [] base i) = μ' i := by
 obtain ⟨h2, hsame, hb⟩ := h.back List.nodup_nil h' hok hX hX'
 have hk0 : ∀ id, Jd μ st [] id = none := fun id => by
  unfold Jd
  rw [if_neg]
  rintro ⟨_, hlt, _⟩
  simp at hlt
 have hall : ∀ k, k < w.heap.size → w'.heap[k]? = w.heap[k]? := fun k hk => h'.fr k hk fun id n e => by rw [hk0] at e; cases e
 have hshE : (Kq [] base hp' st).sh = St.sh ⟨st.env, M3 [] base hp' ++ st.hp⟩ := by
  funext t
  simp only [St.sh, Kq, Dv, q0s]
  cases A2 (M3 [] base hp') t with
  | some q => rfl
  | none =>
   simp only [Option.none_or]
   have : ([] : List Nat).contains t = false := rfl
   rw [this]
   simp only [Bool.false_eq_true, if_false, Option.map_map]
   cases A2 st.hp t with
   | none => rfl
   | some q => simp [Ov]
 have hfree : ∀ t, base ≤ t → t - base < 1000000 → A2 hp' (t - base) ≠ none → A2 st.hp t = none := by
  intro t h1 h3 h4
  cases hr : A2 hp' (t - base) with
  | none => exact absurd hr h4
  | some r =>
   have := q6O hok hr
   rw [if_pos h3] at this
   have e : base + (t - base) = t := by omega
   rw [e] at this; exact this.1
 have hold : ∀ id q, st.sh id = some q → St.sh ⟨st.env, M3 [] base hp' ++ st.hp⟩ id = some q ∧ Ox μ μ' base hp' id = μ id := by
  intro id q hq
  have hne : A2 st.hp id ≠ none := fun e => by simp [St.sh, e] at hq
  have hn : A2 (M3 [] base hp') id = none := by
   rw [q7V]
   split
   ·rename_i hc
    cases hl : A2 hp' (id - base) with
    | none => rfl
    | some r => exact absurd (hfree id hc.1 hc.2 (by simp [hl])) hne
   ·rfl
  refine ⟨?_, ?_⟩
  ·simp only [St.sh, Dv, hn, Option.none_or]; exact hq
  ·unfold Ox
   rw [if_neg]
   rintro ⟨h1, h3, h4⟩
   exact hne (hfree id h1 h3 h4)
 refine ⟨⟨fun t a ht => (h.env t a ht).mono hsame hX hold, fun id r hr => ?_, ?_, ?_, ?_, h2.kbig, h2.xlt, h2.os, h2.tape, h2.output, h2.size, h2.fr⟩, hsame, fun i q hq => by rw [← hshE]; exact hb i q hq⟩
 ·simp only [Dv] at hr
  cases hn : A2 (M3 [] base hp') id with
  | some q =>
   rw [hn] at hr
   simp only [Option.some_or, Option.some.injEq] at hr
   subst hr
   rw [← hshE]
   exact h2.reg id q (by simp only [Kq, Dv, hn, Option.some_or])
  | none =>
   rw [hn, Option.none_or] at hr
   have hq : st.sh id = some r.sh := by simp [St.sh, hr]
   refine (h.reg id r hr).mono hsame hX hold (hold id _ hq).2 fun g m hm => hall g (h.loc id g m (by simp [hq]) hm).2.1
 ·rw [← hshE]; exact h2.inj
 ·rw [← hshE]; exact h2.loc
 ·rw [← hshE]; exact h2.kap
theorem Bt.looked {rs : List Nat} (hnd : rs.Nodup) (hsl : ∀ i ∈ rs, ∃ ty s es, A2 st.hp i = some (.sl ty s es)) (h : Bt w0 B κ X μ st tm w) (h' : Bt w w.heap.size (Jd μ st rs) X' μ' ⟨[], Fe rs st.hp⟩ #[] w') (hX : ∀ b, X b → X' b)
  (hX' : ∀ b, X' b → X b ∨ w.heap.size ≤ b ∨ ∃ id n, Jd μ st rs id = some (b, n)) :
  Bt w0 B κ X' μ st tm w' ∧ Same X w w' ∧ ∀ i q, St.sh ⟨[], Fe rs st.hp⟩ i = some q → st.sh (bwd rs 0 i) = some q ∧ μ (bwd rs 0 i) = μ' i := by
 have hsame : Same X w w' := by
  intro b hb
  refine h'.fr b (h.xlt b hb) fun id n hk => ?_
  obtain ⟨t, _, h2, h3⟩ := Fv hk
  exact (h.loc t b n h2 h3).1 hb
 have hshr : ∀ t ∈ rs, ∃ q, st.sh t = some q := fun t ht => by
  obtain ⟨ty, s, es, hl⟩ := hsl t ht
  exact ⟨_, by simp [St.sh, hl]; rfl⟩
 have hat : ∀ t ∈ rs, μ' (1000000 + rs.idxOf t) = μ t := fun t ht => by
  obtain ⟨q, hq⟩ := hshr t ht
  rw [h'.kap _ (by omega) (by rw [Za ht hq]; simp), Pq ht (by simp [hq])]
 have hxn : ∀ t ∈ rs, ∀ g n, μ t = some (g, n) → ¬ X' g := fun t ht g n hm => by
  obtain ⟨q, hq⟩ := hshr t ht
  exact (h'.loc (1000000 + rs.idxOf t) g n (by rw [Za ht hq]; simp) (by rw [hat t ht]; exact hm)).1
 refine ⟨⟨fun t a ht => (h.env t a ht).mono hsame hX fun _ _ hq => ⟨hq, rfl⟩, fun id r hr => ?_, h.inj, fun id g n hs hm => ?_, h.kap, h.kbig, h'.xlt, h'.os.trans h.os, h'.tape.trans h.tape, h'.output.trans h.output, Nat.le_trans h.size h'.size, fun k hk hn => ?_⟩, hsame, fun i q hq => ?_⟩
 ·by_cases hid : id ∈ rs
  ·obtain ⟨ty, s, es, hl⟩ := hsl id hid
   rw [hl] at hr
   simp only [Option.some.injEq] at hr
   subst hr
   have hh := q9Z (hp := st.hp) hid hl
   have := h'.reg _ _ hh
   simp only [D3, Ot, hat id hid] at this ⊢
   exact this
  ·have hq : st.sh id = some r.sh := by simp [St.sh, hr]
   refine (h.reg id r hr).mono hsame hX (fun _ _ hq => ⟨hq, rfl⟩) rfl fun g m hm => ?_
   refine h'.fr g (h.loc id g m (by simp [hq]) hm).2.1 fun id' n hk => ?_
   obtain ⟨t, ht, h2, h3⟩ := Fv hk
   have := h.inj id t g m n (by simp [hq]) h2 hm h3
   subst this
   exact hid ht
 ·obtain ⟨h1, h2, h3⟩ := h.loc id g n hs hm
  refine ⟨fun hx => ?_, Nat.lt_of_lt_of_le h2 h'.size, h3⟩
  rcases hX' g hx with hx' | hx' | ⟨id', n', hk⟩
  ·exact h1 hx'
  ·omega
  ·obtain ⟨t, ht, h4, h5⟩ := Fv hk
   exact hxn t ht g n' h5 hx
 ·rw [h'.fr k (Nat.lt_of_lt_of_le hk h.size) fun id n e => ?_]
  ·exact h.fr k hk hn
  ·obtain ⟨t, ht, h4, h5⟩ := Fv e
   obtain ⟨id', n', hq⟩ := (h.loc t k n h4 h5).2.2 hk
   exact hn id' n' hq
 ·obtain ⟨t, ht, rfl, hs⟩ := Zb (by rw [hq]; simp)
  obtain ⟨q0, hq0⟩ := hshr t ht
  have hb : bwd rs 0 (1000000 + rs.idxOf t) = t := by
   have hi : rs.idxOf t < rs.length := List.idxOf_lt_length_iff.2 ht
   unfold bwd
   rw [if_neg (by omega), Nat.add_sub_cancel_left, q6P hi, List.getElem_idxOf]
  rw [hb, hat t ht]
  have := Za ht hq0
  rw [hq] at this
  exact ⟨by rw [hq0, this], rfl⟩
end
end Go.Lg
namespace Go.Lg
open Go
def q5O (P : Program) (Γ : Tables) (hp : List (Nat × B7)) (f : FuncId) (as : List AV) (res : T) : Prop :=
 (∃ ts, Af (as.map toT) = some ts ∧ Ac P Γ f ts res) ∨ ∃ ts, Af (as.map (Ah hp 4)) = some ts ∧ A3 P Γ f ts res
def qC6 : AV → Option (FuncId × List AV)
 | .t (.fn f cs) => some (f, cs.map .t)
 | .fn f cs => some (f, cs)
 | _ => none
def Ff (P : Program) (Γ : Tables) (d : Nat) (io : Cb) (st : St) (r : AV) (st1 : St) : Prop :=
 match io with
 | .call f args => ∃ as res, evs Γ st.env args = some as ∧ q5O P Γ st.hp f as res ∧ r = .t res ∧ st1 = st
 | .callv x args => ∃ a f cs as res, ev Γ st.env x = some a ∧ qC6 a = some (f, cs) ∧ evs Γ st.env args = some as ∧ q5O P Γ st.hp f (as ++ cs) res ∧ r = .t res ∧ st1 = st
 | .hcall f args rs base => ∃ as res hp', evs Γ st.env args = some as ∧ rs.Nodup ∧ Eu P Γ f (Fe rs st.hp) (as.map (Bc (fwd rs))) res hp' ∧ okB rs base st.hp hp' ∧ r = Bc (fun i => some (bwd rs base i)) res ∧ st1 = Kq rs base hp' st
 | .hcallv x args rs base => ∃ a f cs as res hp', ev Γ st.env x = some a ∧ qC6 a = some (f, cs) ∧ evs Γ st.env args = some as ∧ rs.Nodup ∧ Eu P Γ f (Fe rs st.hp) ((as ++ cs).map (Bc (fwd rs))) res hp' ∧ okB rs base st.hp hp' ∧ r = Bc (fun i => some (bwd rs base i)) res ∧ st1 = Kq rs base hp' st
 | .ncall f args base => ∃ as res hp', evs Γ st.env args = some as ∧ Eu P Γ f [] (as.map (Bc (fwd []))) res hp' ∧ okB [] base st.hp hp' ∧ r = Bc (fun i => some (bwd [] base i)) res ∧ st1 = ⟨st.env, M3 [] base hp' ++ st.hp⟩
 | .callT f args => ∃ as ts res, evs Γ st.env args = some as ∧ Af (as.map toT) = some ts ∧ (Ac P Γ f ts res ∨ A3 P Γ f ts res) ∧ r = .t res ∧ st1 = st
 | .rcall f args rs => ∃ as res, evs Γ st.env args = some as ∧ rs.Nodup ∧ (∀ i ∈ rs, ∃ ty s es, A2 st.hp i = some (.sl ty s es)) ∧ Eu P Γ f (Fe rs st.hp) (as.map (Bc (fwd rs))) res (Fe rs st.hp) ∧ r = Bc (fun i => some (bwd rs 0 i)) res ∧ st1 = st
 | io => ∃ c, Ao Γ d io st = some (c, r, st1) ∧ c
def Gw (env : List (Nat × AV)) : Option (Nat × Bool) → Option Bool
 | none => some true
 | some (g, b) => match A2 env g with
  | some (.t (.v (.bool p))) => some (p == b)
  | some .un => some false
  | _ => none
def Gg (P : Program) (Γ : Tables) (ro : RO) (st st2 : St) : Prop :=
 (Gw st.env ro.guard = some true ∧ ∃ r st1, Ff P Γ ro.d ro.op st r st1 ∧ st2 = st1.put ro.dst r) ∨ (Gw st.env ro.guard = some false ∧ st2 = st.put ro.dst .un)
def Pv (P : Program) (Γ : Tables) : List RO → St → St → Prop
 | [], st, st2 => st2 = st
 | ro :: ros, st, st2 => ∃ st1, Gg P Γ ro st st1 ∧ Pv P Γ ros st1 st2
def q9a (P : Program) (N : Nat) (ops : List Oper) (ro : RO) (o : Oper) : Bool :=
 decide (ro.dst = o.dst) && Pm P ro.op o.op && ro.op.opds.all Ak && (match ro.dst with | some d => decide (d < N) | none => true) && decide (ro.d < 1000000) &&
 match ro.guard, o.guard with
 | none, none => true
 | some (g, b), some (j, b') => b == b' && decide ((ops[j]?).bind (·.dst) = some g)
 | _, _ => false
def Inv (Γ : Tables) (w0 : World) (B : Nat) (κ : Da) (X0 : Nat → Prop) (N : Nat) (st : St) (a : Act) (w : World) : Prop :=
 ∃ X μ, Bt w0 B κ X μ st a.tmps w ∧ Gl Γ w X ∧ (∀ b, X0 b → X b) ∧ (∀ b, X b → X0 b ∨ B ≤ b ∨ ∃ id n, κ id = some (b, n)) ∧ a.tmps.size = N ∧ a.defers = []
section
variable {P : Program} {Γ : Tables} {w0 : World} {B : Nat} {κ : Da} {X0 X : Nat → Prop} {μ : Da} {st st1 : St} {tm : Array Value} {w : World} {N : Nat} {a : Act} {o : Oper} {K : Act → World → Prop} {Q : Exit → Act → World → Prop}
theorem qJT {a : Act} (h : a.defers = []) : a = ⟨a.tmps, []⟩ := by cases a; simp at h; subst h; rfl
theorem q5P (h : Bt w0 B κ X μ st a.tmps w) (hsz : a.tmps.size = N) {d : Option Nat} (hd : ∀ t, d = some t → t < N) {r : AV} {v : Value} (hv : AR w X μ st.sh r v) : Bt w0 B κ X μ (st.put d r) (a.put d v).tmps w ∧ (a.put d v).tmps.size = N ∧ (a.put d v).defers = a.defers := by
 cases d with
 | none => exact ⟨h, hsz, rfl⟩
 | some t =>
  refine ⟨h.put (by rw [hsz]; exact hd t rfl) hv, ?_, rfl⟩
  simp [Act.put, hsz]
theorem q1l {hp : List (Nat × B7)} : ∀ {as : List AV} {xs : List Value} {ts : List T}, Jc w X μ st.sh as xs → Af (as.map toT) = some ts → F3 w X ts xs
 | [], xs, ts, h, ho => by
  simp only [List.map_nil, Af, Option.some.injEq] at ho
  subst ho; rw [h.nil_inv]; exact F3.nil _ _
 | c :: cs, xs, ts, h, ho => by
  obtain ⟨x, ys, rfl, hx, hs⟩ := h.cons_inv
  simp only [List.map_cons] at ho
  cases hc : toT c with
  | none => rw [hc] at ho; simp [Af] at ho
  | some t =>
   rw [hc] at ho
   simp only [Af, Option.map_eq_some_iff] at ho
   obtain ⟨ts', ho', rfl⟩ := ho
   exact F3.cons (q9V hx hc) (q1l (hp := hp) hs ho')
theorem qBD {f : FuncId} {as : List AV} {xs : List Value} {res : T} (h : Bt w0 B κ X μ st tm w) (hg : Gl Γ w X) (has : Jc w X μ st.sh as xs) (hc : q5O P Γ st.hp f as res) :
  q0V P f xs.toArray w fun v w' => RowKit.Below w.heap.size w w' ∧ TR w' (fun b => X b ∨ (w.heap.size ≤ b ∧ b < w'.heap.size)) res v := by
 rcases hc with ⟨ts, hts, hp⟩ | ⟨ts, hts, hp⟩
 ·exact hp w X xs hg h.xlt (q1l (hp := st.hp) has hts)
 ·have h1 := Si has (fun c _ t x hc hf => q9Y h 4 hc hf) hts
  refine (hp w (fun b => X b ∨ qC5 st μ b) xs (hg.mono (fun _ _ => rfl) (fun _ hb => .inl hb)) (fun b hb => ?_) h1).mono fun v w' ⟨hb, ht⟩ => ⟨hb, ht.mono (fun _ _ => rfl) (fun _ hb => .inr hb)⟩
  rcases hb with hb | ⟨id, n, hi, hm⟩
  ·exact h.xlt b hb
  ·exact (h.loc id b n hi hm).2.1
theorem qEL {f : FuncId} {as : List AV} {ts : List T} {xs : List Value} {res : T} (h : Bt w0 B κ X μ st tm w) (hg : Gl Γ w X) (has : Jc w X μ st.sh as xs) (hts : Af (as.map toT) = some ts) (hc : Ac P Γ f ts res ∨ A3 P Γ f ts res) :
  q0V P f xs.toArray w fun v w' => RowKit.Below w.heap.size w w' ∧ TR w' (fun b => X b ∨ (w.heap.size ≤ b ∧ b < w'.heap.size)) res v := by
 rcases hc with hp | hp
 ·exact hp w X xs hg h.xlt (q1l (hp := st.hp) has hts)
 ·exact (hp w X xs hg h.xlt (q1l (hp := st.hp) has hts)).mono fun v w' ⟨hb, ht⟩ => ⟨hb, ht.mono (fun _ _ => rfl) (fun _ hb => .inr hb)⟩
theorem qEM {f : FuncId} {xs : List Value} {res : T} (hsim : Bt w0 B κ X μ st a.tmps w) (hg : Gl Γ w X) (h0 : ∀ b, X0 b → X b) (hbd : ∀ b, X b → X0 b ∨ B ≤ b ∨ ∃ id n, κ id = some (b, n)) (hsz : a.tmps.size = N) (hds : a.defers = []) (hd : ∀ t, o.dst = some t → t < N)
  (hrun : (execOp a.eval o).run P w = (callFunc f xs.toArray).run P w)
  (hr : q0V P f xs.toArray w fun v w' => RowKit.Below w.heap.size w w' ∧ TR w' (fun b => X b ∨ (w.heap.size ≤ b ∧ b < w'.heap.size)) res v)
  (hK : ∀ a' w', Inv Γ w0 B κ X0 N (st.put o.dst (.t res)) a' w' → K a' w') : o.wp P a w K Q := by
 have fin : ∀ v w', RowKit.Below w.heap.size w w' → TR w' (fun b => X b ∨ (w.heap.size ≤ b ∧ b < w'.heap.size)) res v → K (a.put o.dst v) w' := by
  intro v w' hb ht
  have hs2 := hsim.grow (X' := fun b => X b ∨ (w.heap.size ≤ b ∧ b < w'.heap.size)) hb (fun _ hx => .inl hx) (fun _ hx => hx)
  obtain ⟨h1, h2, h3⟩ := q5P hs2 hsz hd (AR.t _ _ ht)
  refine hK _ _ ⟨_, _, h1, hg.mono (fun b hx => hb.block b (hsim.xlt b hx)) (fun _ hx => .inl hx), fun b hx => .inl (h0 b hx), fun b hx => ?_, h2, h3.trans hds⟩
  rcases hx with hx | hx
  ·exact hbd b hx
  ·exact .inr (.inl (Nat.le_trans hsim.size hx.1))
 unfold Oper.wp
 rcases hr with ⟨hr1, hr2⟩ | ⟨v, hr1, hb, ht⟩
 ·rw [hrun, hr1, Oper.upon_enter]
  exact hr2.mono fun e w' ⟨v, he, hb, ht⟩ => by subst he; exact fin v w' hb ht
 ·rw [hrun, hr1, Oper.upon_value]
  exact fin v w hb ht
theorem qEN {ro : RO} {ops : List Oper} {r : AV} (hI : Inv Γ w0 B κ X0 N st a w) (hN : N ≤ 1000000) (hchk : q9a P N ops ro o = true) (hx : Ff P Γ ro.d ro.op st r st1) (hK : ∀ a' w', Inv Γ w0 B κ X0 N (st1.put ro.dst r) a' w' → K a' w') : o.wp P a w K Q := by
 obtain ⟨X, μ, hsim, hg, h0, hbd, hsz, hds⟩ := hI
 simp only [q9a, Bool.and_eq_true, decide_eq_true_eq] at hchk
 obtain ⟨⟨⟨⟨⟨hdst, hch⟩, hok⟩, hdn⟩, hd1⟩, _⟩ := hchk
 have hd : ∀ t, o.dst = some t → t < N := fun t ht => by
  rw [← hdst] at ht
  rw [ht] at hdn
  simpa using hdn
 have hae : a.eval = Act.eval ⟨a.tmps, []⟩ := by rw [← qJT hds]
 have plain : (∃ c, Ao Γ ro.d ro.op st = some (c, r, st1) ∧ c) → o.wp P a w K Q := by
  rintro ⟨c, hs, hc⟩
  obtain ⟨nx, v, w', μ', X', hrun, hnx, hsim', har, hX, hsame, hX'⟩ := qGV (ds := []) hsim hg hch hok hd1 hs hc
  unfold Oper.wp
  rw [hae, hrun]
  obtain ⟨h1, h2, h3⟩ := q5P hsim' hsz hd har
  have hfin : K (a.put o.dst v) w' := hK _ _ ⟨X', μ', by rw [hdst]; exact h1, hg.mono hsame hX, fun b hb => hX b (h0 b hb), fun b hb => by
   rcases hX' b hb with hb | hb
   ·exact hbd b hb
   ·exact .inr hb, h2, h3.trans hds⟩
  rcases hnx with rfl | ⟨rfl, rfl⟩
  ·exact hfin
  ·exact hfin
 have callee : ∀ (f : FuncId) (xs : List Value) (res : T), (execOp a.eval o).run P w = (callFunc f xs.toArray).run P w → r = .t res → st1 = st →
   q0V P f xs.toArray w (fun v w' => RowKit.Below w.heap.size w w' ∧ TR w' (fun b => X b ∨ (w.heap.size ≤ b ∧ b < w'.heap.size)) res v) → o.wp P a w K Q := by
  rintro f xs res hrun rfl rfl hr
  exact qEM hsim hg h0 hbd hsz hds hd hrun hr (by rw [← hdst]; exact hK)
 cases hop : ro.op with
 | hcall f args rs base =>
  rw [hop] at hx hch hok
  obtain ⟨as, res, hp', has, hnd, hcall, hokB, rfl, rfl⟩ := hx
  have hars := Me (ds := []) hsim hg has (by simpa [Cb.opds] using hok)
  have hrun : (execOp a.eval o).run P w = (callFunc f (args.map (Act.eval ⟨a.tmps, []⟩)).toArray).run P w := by
   generalize hoo : o.op = op at hch
   simp only [Pm] at hch
   split at hch
   case h_2 => cases hch
   split at hch
   case h_2 => cases hch
   rename_i c f' hcal
   simp only [Bool.and_eq_true] at hch
   have hf : f = f' := by simpa using hch.1
   subst hf
   have := Nj hch.2; subst this
   rw [hae]
   rw [← Array.toList_map, Array.toArray_toList]
   simp [execOp, hoo, resolve, hcal, Deferred.ofValue, Act.eval, invoke]
  have hr := hcall w X (Jd μ st rs) (args.map (Act.eval ⟨a.tmps, []⟩)) hg (fun id hi => by
   cases hk : Jd μ st rs id with
   | none => exact absurd hk hi
   | some l =>
    unfold Jd at hk
    split at hk
    ·rename_i hc
     have e0 := q6P hc.2.1
     have hm : rs.getD (id - 1000000) 0 ∈ rs := by rw [e0]; exact List.getElem_mem _
     have hidx : rs.idxOf (rs.getD (id - 1000000) 0) = id - 1000000 := by rw [e0, hnd.idxOf_getElem]
     obtain ⟨q, hq⟩ : ∃ q, st.sh (rs.getD (id - 1000000) 0) = some q := by
      cases he : st.sh (rs.getD (id - 1000000) 0) with
      | none => exact absurd he hc.2.2
      | some q => exact ⟨q, rfl⟩
     have := Za hm hq
     rw [hidx] at this
     have e : 1000000 + (id - 1000000) = id := by have := hc.1; omega
     rw [e] at this
     intro hn
     simp only [St.sh, hn, Option.map_none, reduceCtorEq] at this
    ·cases hk) (hsim.hand rs) (q46 hsim hars)
  have fin : ∀ v w', (∃ X' μ', Bt w w.heap.size (Jd μ st rs) X' μ' ⟨[], hp'⟩ #[] w' ∧ AR w' X' μ' (St.sh ⟨[], hp'⟩) res v ∧ (∀ b, X b → X' b) ∧ (∀ b, X' b → X b ∨ w.heap.size ≤ b ∨ ∃ id n, Jd μ st rs id = some (b, n))) → K (a.put o.dst v) w' := by
   rintro v w' ⟨X', μ', hs', hav, hX, hX'⟩
   obtain ⟨hs2, hsame, hbw⟩ := hsim.back hnd hs' hokB hX hX'
   obtain ⟨h1, h2, h3⟩ := q5P hs2 hsz hd (hav.ren (φ := fun i => some (bwd rs base i)) fun i j q hj hs => by simp only [Option.some.injEq] at hj; subst hj; exact hbw i q hs)
   refine hK _ _ ⟨X', _, by rw [hdst]; exact h1, hg.mono hsame hX, fun b hb => hX b (h0 b hb), fun b hb => ?_, h2, h3.trans hds⟩
   rcases hX' b hb with hb | hb | ⟨id, n, hk⟩
   ·exact hbd b hb
   ·exact .inr (.inl (Nat.le_trans hsim.size hb))
   ·obtain ⟨t', h8, h9, h10⟩ := Fv hk
    rcases Nat.lt_or_ge b B with hlt | hge
    ·obtain ⟨id', n', hq⟩ := (hsim.loc t' b n h9 h10).2.2 hlt
     exact .inr (.inr ⟨id', n', hq⟩)
    ·exact .inr (.inl hge)
  unfold Oper.wp
  rcases hr with ⟨hr1, hr2⟩ | ⟨v, hr1, hp⟩
  ·rw [hrun, hr1, Oper.upon_enter]
   exact hr2.mono fun e w' ⟨v, he, hp⟩ => by subst he; exact fin v w' hp
  ·rw [hrun, hr1, Oper.upon_value]
   exact fin v w hp
 | hcallv x args rs base =>
  rw [hop] at hx hch hok
  obtain ⟨av, f, cs, as, res, hp', hxv, hfn, has, hnd, hcall, hokB, rfl, rfl⟩ := hx
  simp only [Cb.opds, List.all_cons, Bool.and_eq_true] at hok
  have hars0 := Me (ds := []) hsim hg has hok.2
  have harx := B6 (ds := []) hsim hg hxv hok.1
  have hfv : ∃ ys : List Value, Act.eval ⟨a.tmps, []⟩ x = .func (.func f) #[] ys.toArray ∧ Jc w X μ st.sh cs ys := by
   unfold qC6 at hfn
   split at hfn
   ·simp only [Option.some.injEq, Prod.mk.injEq] at hfn
    obtain ⟨rfl, rfl⟩ := hfn
    generalize hev : Act.eval ⟨a.tmps, []⟩ x = v at harx
    cases harx.t_inv with
    | fn f cs xs hlen hrel => exact ⟨xs, rfl, Jc.ofT ⟨hlen, hrel⟩⟩
   ·simp only [Option.some.injEq, Prod.mk.injEq] at hfn
    obtain ⟨rfl, rfl⟩ := hfn
    generalize hev : Act.eval ⟨a.tmps, []⟩ x = v at harx
    cases harx with
    | fn f cs xs hlen hrel => exact ⟨xs, rfl, hlen, hrel⟩
   ·cases hfn
  obtain ⟨ys, hy, hys⟩ := hfv
  have hars := hars0.append hys
  have hrun : (execOp a.eval o).run P w = (callFunc f (args.map (Act.eval ⟨a.tmps, []⟩) ++ ys).toArray).run P w := by
   generalize hoo : o.op = op at hch
   simp only [Pm] at hch
   split at hch
   case h_2 => cases hch
   split at hch
   case h_2 => cases hch
   rename_i cc c y hcal
   simp only [Bool.and_eq_true] at hch
   have := Ai hch.1; subst this
   have := Nj hch.2; subst this
   rw [hae]
   rw [show (List.map (Act.eval ⟨a.tmps, []⟩) cc.args.toList ++ ys).toArray = cc.args.map (Act.eval ⟨a.tmps, []⟩) ++ ys.toArray from by simp]
   simp [execOp, hoo, resolve, hcal, Deferred.ofValue, hy, invoke]
  have hr := hcall w X (Jd μ st rs) (args.map (Act.eval ⟨a.tmps, []⟩) ++ ys) hg (fun id hi => by
   cases hk : Jd μ st rs id with
   | none => exact absurd hk hi
   | some l =>
    unfold Jd at hk
    split at hk
    ·rename_i hc
     have e0 := q6P hc.2.1
     have hm : rs.getD (id - 1000000) 0 ∈ rs := by rw [e0]; exact List.getElem_mem _
     have hidx : rs.idxOf (rs.getD (id - 1000000) 0) = id - 1000000 := by rw [e0, hnd.idxOf_getElem]
     obtain ⟨q, hq⟩ : ∃ q, st.sh (rs.getD (id - 1000000) 0) = some q := by
      cases he : st.sh (rs.getD (id - 1000000) 0) with
      | none => exact absurd he hc.2.2
      | some q => exact ⟨q, rfl⟩
     have := Za hm hq
     rw [hidx] at this
     have e : 1000000 + (id - 1000000) = id := by have := hc.1; omega
     rw [e] at this
     intro hn
     simp only [St.sh, hn, Option.map_none, reduceCtorEq] at this
    ·cases hk) (hsim.hand rs) (q46 hsim hars)
  have fin : ∀ v w', (∃ X' μ', Bt w w.heap.size (Jd μ st rs) X' μ' ⟨[], hp'⟩ #[] w' ∧ AR w' X' μ' (St.sh ⟨[], hp'⟩) res v ∧ (∀ b, X b → X' b) ∧ (∀ b, X' b → X b ∨ w.heap.size ≤ b ∨ ∃ id n, Jd μ st rs id = some (b, n))) → K (a.put o.dst v) w' := by
   rintro v w' ⟨X', μ', hs', hav, hX, hX'⟩
   obtain ⟨hs2, hsame, hbw⟩ := hsim.back hnd hs' hokB hX hX'
   obtain ⟨h1, h2, h3⟩ := q5P hs2 hsz hd (hav.ren (φ := fun i => some (bwd rs base i)) fun i j q hj hs => by simp only [Option.some.injEq] at hj; subst hj; exact hbw i q hs)
   refine hK _ _ ⟨X', _, by rw [hdst]; exact h1, hg.mono hsame hX, fun b hb => hX b (h0 b hb), fun b hb => ?_, h2, h3.trans hds⟩
   rcases hX' b hb with hb | hb | ⟨id, n, hk⟩
   ·exact hbd b hb
   ·exact .inr (.inl (Nat.le_trans hsim.size hb))
   ·obtain ⟨t', h8, h9, h10⟩ := Fv hk
    rcases Nat.lt_or_ge b B with hlt | hge
    ·obtain ⟨id', n', hq⟩ := (hsim.loc t' b n h9 h10).2.2 hlt
     exact .inr (.inr ⟨id', n', hq⟩)
    ·exact .inr (.inl hge)
  unfold Oper.wp
  rcases hr with ⟨hr1, hr2⟩ | ⟨v, hr1, hp⟩
  ·rw [hrun, hr1, Oper.upon_enter]
   exact hr2.mono fun e w' ⟨v, he, hp⟩ => by subst he; exact fin v w' hp
  ·rw [hrun, hr1, Oper.upon_value]
   exact fin v w hp
 | ncall f args base =>
  rw [hop] at hx hch hok
  obtain ⟨as, res, hp', has, hcall, hokB, rfl, rfl⟩ := hx
  have hars := Me (ds := []) hsim hg has (by simpa [Cb.opds] using hok)
  have hrun : (execOp a.eval o).run P w = (callFunc f (args.map (Act.eval ⟨a.tmps, []⟩)).toArray).run P w := by
   generalize hoo : o.op = op at hch
   simp only [Pm] at hch
   split at hch
   case h_2 => cases hch
   split at hch
   case h_2 => cases hch
   rename_i c f' hcal
   simp only [Bool.and_eq_true] at hch
   have hf : f = f' := by simpa using hch.1
   subst hf
   have := Nj hch.2; subst this
   rw [hae]
   rw [← Array.toList_map, Array.toArray_toList]
   simp [execOp, hoo, resolve, hcal, Deferred.ofValue, Act.eval, invoke]
  have hk0 : ∀ id, Jd μ st [] id = none := fun id => by
   unfold Jd
   rw [if_neg]
   rintro ⟨_, hlt, _⟩
   simp at hlt
  have hr := hcall w X (Jd μ st []) (args.map (Act.eval ⟨a.tmps, []⟩)) hg (fun id hi => absurd (hk0 id) hi) (hsim.hand []) (q46 hsim hars)
  have fin : ∀ v w', (∃ X' μ', Bt w w.heap.size (Jd μ st []) X' μ' ⟨[], hp'⟩ #[] w' ∧ AR w' X' μ' (St.sh ⟨[], hp'⟩) res v ∧ (∀ b, X b → X' b) ∧ (∀ b, X' b → X b ∨ w.heap.size ≤ b ∨ ∃ id n, Jd μ st [] id = some (b, n))) → K (a.put o.dst v) w' := by
   rintro v w' ⟨X', μ', hs', hav, hX, hX'⟩
   obtain ⟨hs2, hsame, hbw⟩ := hsim.news hs' hokB hX hX'
   obtain ⟨h1, h2, h3⟩ := q5P hs2 hsz hd (hav.ren (φ := fun i => some (bwd [] base i)) fun i j q hj hs => by simp only [Option.some.injEq] at hj; subst hj; exact hbw i q hs)
   refine hK _ _ ⟨X', _, by rw [hdst]; exact h1, hg.mono hsame hX, fun b hb => hX b (h0 b hb), fun b hb => ?_, h2, h3.trans hds⟩
   rcases hX' b hb with hb | hb | ⟨id, n, hk⟩
   ·exact hbd b hb
   ·exact .inr (.inl (Nat.le_trans hsim.size hb))
   ·rw [hk0] at hk; cases hk
  unfold Oper.wp
  rcases hr with ⟨hr1, hr2⟩ | ⟨v, hr1, hp⟩
  ·rw [hrun, hr1, Oper.upon_enter]
   exact hr2.mono fun e w' ⟨v, he, hp⟩ => by subst he; exact fin v w' hp
  ·rw [hrun, hr1, Oper.upon_value]
   exact fin v w hp
 | rcall f args rs =>
  rw [hop] at hx hch hok
  obtain ⟨as, res, has, hnd, hsl, hcall, rfl, hst⟩ := hx
  have hst := hst.symm
  subst hst
  have hars := Me (ds := []) hsim hg has (by simpa [Cb.opds] using hok)
  have hrun : (execOp a.eval o).run P w = (callFunc f (args.map (Act.eval ⟨a.tmps, []⟩)).toArray).run P w := by
   generalize hoo : o.op = op at hch
   simp only [Pm] at hch
   split at hch
   case h_2 => cases hch
   split at hch
   case h_2 => cases hch
   rename_i c f' hcal
   simp only [Bool.and_eq_true] at hch
   have hf : f = f' := by simpa using hch.1
   subst hf
   have := Nj hch.2; subst this
   rw [hae]
   rw [← Array.toList_map, Array.toArray_toList]
   simp [execOp, hoo, resolve, hcal, Deferred.ofValue, Act.eval, invoke]
  have hr := hcall w X (Jd μ st rs) (args.map (Act.eval ⟨a.tmps, []⟩)) hg (fun id hi => by
   cases hk : Jd μ st rs id with
   | none => exact absurd hk hi
   | some l =>
    unfold Jd at hk
    split at hk
    ·rename_i hc
     have e0 := q6P hc.2.1
     have hm : rs.getD (id - 1000000) 0 ∈ rs := by rw [e0]; exact List.getElem_mem _
     have hidx : rs.idxOf (rs.getD (id - 1000000) 0) = id - 1000000 := by rw [e0, hnd.idxOf_getElem]
     obtain ⟨q, hq⟩ : ∃ q, st.sh (rs.getD (id - 1000000) 0) = some q := by
      cases he : st.sh (rs.getD (id - 1000000) 0) with
      | none => exact absurd he hc.2.2
      | some q => exact ⟨q, rfl⟩
     have := Za hm hq
     rw [hidx] at this
     have e : 1000000 + (id - 1000000) = id := by have := hc.1; omega
     rw [e] at this
     intro hn
     simp only [St.sh, hn, Option.map_none, reduceCtorEq] at this
    ·cases hk) (hsim.hand rs) (q46 hsim hars)
  have fin : ∀ v w', (∃ X' μ', Bt w w.heap.size (Jd μ st rs) X' μ' ⟨[], Fe rs st.hp⟩ #[] w' ∧ AR w' X' μ' (St.sh ⟨[], Fe rs st.hp⟩) res v ∧ (∀ b, X b → X' b) ∧ (∀ b, X' b → X b ∨ w.heap.size ≤ b ∨ ∃ id n, Jd μ st rs id = some (b, n))) → K (a.put o.dst v) w' := by
   rintro v w' ⟨X', μ', hs', hav, hX, hX'⟩
   obtain ⟨hs2, hsame, hbw⟩ := hsim.looked hnd hsl hs' hX hX'
   obtain ⟨h1, h2, h3⟩ := q5P hs2 hsz hd (hav.ren (φ := fun i => some (bwd rs 0 i)) fun i j q hj hs => by simp only [Option.some.injEq] at hj; subst hj; exact hbw i q hs)
   refine hK _ _ ⟨X', _, by rw [hdst]; exact h1, hg.mono hsame hX, fun b hb => hX b (h0 b hb), fun b hb => ?_, h2, h3.trans hds⟩
   rcases hX' b hb with hb | hb | ⟨id, n, hk⟩
   ·exact hbd b hb
   ·exact .inr (.inl (Nat.le_trans hsim.size hb))
   ·obtain ⟨t', h8, h9, h10⟩ := Fv hk
    rcases Nat.lt_or_ge b B with hlt | hge
    ·obtain ⟨id', n', hq⟩ := (hsim.loc t' b n h9 h10).2.2 hlt
     exact .inr (.inr ⟨id', n', hq⟩)
    ·exact .inr (.inl hge)
  unfold Oper.wp
  rcases hr with ⟨hr1, hr2⟩ | ⟨v, hr1, hp⟩
  ·rw [hrun, hr1, Oper.upon_enter]
   exact hr2.mono fun e w' ⟨v, he, hp⟩ => by subst he; exact fin v w' hp
  ·rw [hrun, hr1, Oper.upon_value]
   exact fin v w hp
 | callT f args =>
  rw [hop] at hx hch hok
  obtain ⟨as, ts, res, has, hts, hcall, hr, hst⟩ := hx
  have hars := Me (ds := []) hsim hg has (by simpa [Cb.opds] using hok)
  refine callee f (args.map (Act.eval ⟨a.tmps, []⟩)) res ?_ hr hst (qEL hsim hg hars hts hcall)
  generalize hoo : o.op = op at hch
  simp only [Pm] at hch
  split at hch
  case h_2 => cases hch
  split at hch
  case h_2 => cases hch
  rename_i c f' hcal
  simp only [Bool.and_eq_true] at hch
  have hf : f = f' := by simpa using hch.1
  subst hf
  have := Nj hch.2; subst this
  rw [hae]
  rw [← Array.toList_map, Array.toArray_toList]
  simp [execOp, hoo, resolve, hcal, Deferred.ofValue, Act.eval, invoke]
 | call f args =>
  rw [hop] at hx hch hok
  obtain ⟨as, res, has, hcall, hr, hst⟩ := hx
  have hars := Me (ds := []) hsim hg has (by simpa [Cb.opds] using hok)
  refine callee f (args.map (Act.eval ⟨a.tmps, []⟩)) res ?_ hr hst (qBD hsim hg hars hcall)
  generalize hoo : o.op = op at hch
  simp only [Pm] at hch
  split at hch
  case h_2 => cases hch
  split at hch
  case h_2 => cases hch
  rename_i c f' hcal
  simp only [Bool.and_eq_true] at hch
  have hf : f = f' := by simpa using hch.1
  subst hf
  have := Nj hch.2; subst this
  rw [hae]
  rw [← Array.toList_map, Array.toArray_toList]
  simp [execOp, hoo, resolve, hcal, Deferred.ofValue, Act.eval, invoke]
 | callv x args =>
  rw [hop] at hx hch hok
  obtain ⟨av, f, cs, as, res, hxv, hfn, has, hcall, hr, hst⟩ := hx
  simp only [Cb.opds, List.all_cons, Bool.and_eq_true] at hok
  have hars := Me (ds := []) hsim hg has hok.2
  have harx := B6 (ds := []) hsim hg hxv hok.1
  have hfv : ∃ ys : List Value, Act.eval ⟨a.tmps, []⟩ x = .func (.func f) #[] ys.toArray ∧ Jc w X μ st.sh cs ys := by
   unfold qC6 at hfn
   split at hfn
   ·simp only [Option.some.injEq, Prod.mk.injEq] at hfn
    obtain ⟨rfl, rfl⟩ := hfn
    generalize hev : Act.eval ⟨a.tmps, []⟩ x = v at harx
    cases harx.t_inv with
    | fn f cs xs hlen hrel => exact ⟨xs, rfl, Jc.ofT ⟨hlen, hrel⟩⟩
   ·simp only [Option.some.injEq, Prod.mk.injEq] at hfn
    obtain ⟨rfl, rfl⟩ := hfn
    generalize hev : Act.eval ⟨a.tmps, []⟩ x = v at harx
    cases harx with
    | fn f cs xs hlen hrel => exact ⟨xs, rfl, hlen, hrel⟩
   ·cases hfn
  obtain ⟨ys, hy, hys⟩ := hfv
  refine callee f (args.map (Act.eval ⟨a.tmps, []⟩) ++ ys) res ?_ hr hst (qBD hsim hg (hars.append hys) hcall)
  generalize hoo : o.op = op at hch
  simp only [Pm] at hch
  split at hch
  case h_2 => cases hch
  split at hch
  case h_2 => cases hch
  rename_i cc c y hcal
  simp only [Bool.and_eq_true] at hch
  have := Ai hch.1; subst this
  have := Nj hch.2; subst this
  rw [hae]
  rw [show (List.map (Act.eval ⟨a.tmps, []⟩) cc.args.toList ++ ys).toArray = cc.args.map (Act.eval ⟨a.tmps, []⟩) ++ ys.toArray from by simp]
  simp [execOp, hoo, resolve, hcal, Deferred.ofValue, hy, invoke]
 | _ => exact plain (by simpa only [Ff, hop] using hx)
theorem qJU {tm : Array Value} {g : Nat} {p : Bool} (h : tm.getD g undef = .bool p) : tm[g]? = some (.bool p) := by
 rw [Array.getD_eq_getD_getElem?] at h
 cases hg : tm[g]? with
 | none => rw [hg] at h; simp [undef] at h
 | some v => rw [hg] at h; simp at h; rw [h]
theorem qFT {ops : List Oper} {ro : RO} {q : Bool} (hsim : Bt w0 B κ X μ st a.tmps w) (hchk : q9a P N ops ro o = true) (hw : Gw st.env ro.guard = some q) : Region.wanted o (yielded ops.toArray a.tmps) = q := by
 simp only [q9a, Bool.and_eq_true] at hchk
 have hgd := hchk.2
 cases hr : ro.guard with
 | none =>
  rw [hr] at hw hgd
  simp only [Gw, Option.some.injEq] at hw; subst hw
  cases ho : o.guard with
  | none => simp [Region.wanted, ho]
  | some x => rw [ho] at hgd; cases hgd
 | some gb =>
  obtain ⟨g, b⟩ := gb
  rw [hr] at hw hgd
  cases ho : o.guard with
  | none => rw [ho] at hgd; cases hgd
  | some jb =>
   obtain ⟨j, b'⟩ := jb
   rw [ho] at hgd
   simp only [Bool.and_eq_true, decide_eq_true_eq] at hgd
   obtain ⟨hb, hj⟩ := hgd
   have hb : b = b' := by simpa using hb
   subst hb
   have hy : yielded ops.toArray a.tmps j = match a.tmps[g]? with | some (.bool b) => some b | _ => none := by
    simp only [yielded, List.getElem?_toArray, hj, Option.bind_some]
    rfl
   simp only [Gw] at hw
   split at hw
   ·rename_i p hl
    simp only [Option.some.injEq] at hw; subst hw
    have hv := (hsim.env g _ hl).t_inv.v_inv
    have hv : a.tmps.getD g undef = .bool p := hv
    simp only [Region.wanted, ho, hy, qJU hv]
    cases p <;> cases b <;> rfl
   ·rename_i hl
    simp only [Option.some.injEq] at hw; subst hw
    have hu := hsim.env g _ hl
    have hv : a.tmps.getD g undef = undef := by
     generalize a.tmps.getD g undef = v at hu
     cases hu; rfl
    have : (match a.tmps[g]? with | some (.bool b) => some b | _ => none) = (none : Option Bool) := by
     rw [Array.getD_eq_getD_getElem?] at hv
     cases hg : a.tmps[g]? with
     | none => rfl
     | some v => rw [hg] at hv; simp [undef] at hv; subst hv; rfl
    simp only [Region.wanted, ho, hy, this]
    cases b <;> rfl
   ·cases hw
theorem q9b {ro : RO} {ops : List Oper} {st2 : St} (hI : Inv Γ w0 B κ X0 N st a w) (hN : N ≤ 1000000) (hchk : q9a P N ops ro o = true) (hx : Gg P Γ ro st st2) (hK : ∀ a' w', Inv Γ w0 B κ X0 N st2 a' w' → K a' w') :
  if Region.wanted o (yielded ops.toArray a.tmps) then o.wp P a w K Q ∨ (o.asks P a w ∧ LetsOut Q) else K (a.put o.dst undef) w := by
 obtain ⟨X, μ, hsim, hrest⟩ := id hI
 rcases hx with ⟨hw, r, st1, hex, rfl⟩ | ⟨hw, rfl⟩
 ·rw [qFT hsim hchk hw, if_pos rfl]
  exact .inl (qEN hI hN hchk hex hK)
 ·rw [qFT hsim hchk hw, if_neg (by simp)]
  obtain ⟨hg, h0, hbd, hsz, hds⟩ := hrest
  simp only [q9a, Bool.and_eq_true, decide_eq_true_eq] at hchk
  obtain ⟨⟨⟨⟨⟨hdst, hch⟩, hok⟩, hdn⟩, _⟩, _⟩ := hchk
  have hd : ∀ t, ro.dst = some t → t < N := fun t ht => by rw [ht] at hdn; simpa using hdn
  obtain ⟨h1, h2, h3⟩ := q5P hsim hsz hd AR.un
  rw [← hdst]
  exact hK _ _ ⟨X, μ, h1, hg, h0, hbd, h2, h3.trans hds⟩
def R9 (P : Program) (N : Nat) (ops : List Oper) : List RO → List Oper → Bool
 | [], [] => true
 | ro :: ros, o :: os => q9a P N ops ro o && R9 P N ops ros os
 | _, _ => false
theorem q8C {ops : List Oper} (hN : N ≤ 1000000) : ∀ {ros : List RO} {os : List Oper} {st st2 : St} {a : Act} {w : World}, Inv Γ w0 B κ X0 N st a w → R9 P N ops ros os = true → Pv P Γ ros st st2 → (∀ a' w', Inv Γ w0 B κ X0 N st2 a' w' → Q .normal a' w') → wpList P ops.toArray Q os a w
 | [], [], st, st2, a, w, hI, hc, hs, hQ => by
  simp only [Pv] at hs; subst hs
  exact hQ a w hI
 | [], _ :: _, _, _, _, _, _, hc, _, _ => by simp [R9] at hc
 | _ :: _, [], _, _, _, _, _, hc, _, _ => by simp [R9] at hc
 | ro :: ros, o :: os, st, st2, a, w, hI, hc, hs, hQ => by
  simp only [R9, Bool.and_eq_true] at hc
  obtain ⟨st1, h1, h2⟩ := hs
  unfold wpList
  exact q9b hI hN hc.1 h1 (fun a' w' hI' => q8C hN hI' hc.2 h2 hQ)
end
end Go.Lg
namespace Go.Lg
open Go
def Cb.kd : Cb → Nat
 | .alloc fz _ | .box fz _ | .bsl fz _ _ _ => if fz then 0 else 2
 | .app _ _ _ _ _ | .appR _ _ _ _ _ | .hcall _ _ _ _ | .hcallv _ _ _ _ => 3
 | .cpy _ _ _ | .ncall _ _ _ | .mk _ _ _ _ _ | .mkE _ _ _ _ _ | .mkB _ _ _ _ | .appZ _ _ _ _ _ | .appN _ _ _ | .mkmap | .rng _ | .nxt _ | .store _ _ _ | .stR _ _ _ _ | .mup _ _ _ _ => 2
 | .load _ _ _ | .ldR _ _ _ _ | .bytesStr _ | .len _ _ | .iadr _ _ _ | .slice _ _ _ _ _ | .appT _ _ _ _ | .appB _ _ | .lkup _ _ _ _ _ | .call _ _ | .callv _ _ | .rcall _ _ _ => 1
 | _ => 0
section
variable {P : Program} {Γ : Tables} {d : Nat} {io : Cb} {e e' : List (Nat × AV)} {h h' : List (Nat × B7)} {c : Prop} {r : AV} {s st st1 : St}
theorem Ld : ∀ {xs : List Operand}, (∀ o ∈ xs, ev Γ e' o = ev Γ e o) → evs Γ e' xs = evs Γ e xs
 | [], _ => rfl
 | x :: xs, hx => by
  have h1 := Ld (xs := xs) (fun o ho => hx o (List.mem_cons_of_mem _ ho))
  unfold evs at h1 ⊢
  simp only [List.map_cons, hx x List.mem_cons_self]
  cases ev Γ e x <;> simp [Af, h1]
theorem q5Q {o : Option Operand} {n : Nat} (hx : ∀ x ∈ o.toList, ev Γ e' x = ev Γ e x) : J0 Γ e' o n = J0 Γ e o n := by
 cases o with
 | none => rfl
 | some x => simp only [J0, hx x (by simp)]
theorem q95 (hk : io.kd ≤ 2) (hx : ∀ o ∈ io.opds, ev Γ e' o = ev Γ e o) : Ao Γ d io ⟨e', h⟩ = (Ao Γ d io ⟨e, h⟩).map fun q => (q.1, q.2.1, ⟨e', q.2.2.hp⟩) := by
 cases io
 case app => simp [Cb.kd] at hk
 case appR => simp [Cb.kd] at hk
 case hcall => simp [Cb.kd] at hk
 case hcallv => simp [Cb.kd] at hk
 case call => simp [Ao]
 case callv => simp [Ao]
 case slice s0 x lo hi mx =>
  have h1 := hx x (by simp [Cb.opds])
  have h2 : ∀ n, J0 Γ e' lo n = J0 Γ e lo n := fun n => q5Q fun y hy => hx y (by simp [Cb.opds]; simp at hy; simp [hy])
  have h3 : ∀ n, J0 Γ e' hi n = J0 Γ e hi n := fun n => q5Q fun y hy => hx y (by simp [Cb.opds]; simp at hy; simp [hy])
  have h4 : ∀ n, J0 Γ e' mx n = J0 Γ e mx n := fun n => q5Q fun y hy => hx y (by simp [Cb.opds]; simp at hy; simp [hy])
  simp only [Ao, h1, h2, h3, h4]
  cases ev Γ e x with
  | none => simp
  | some a =>
   simp only [Option.bind_some]
   split
   ·cases J0 Γ e lo 0 <;> simp only [Option.bind_none, Option.bind_some, Option.map_none, Option.map_map, Function.comp_def]
   ·cases J0 Γ e lo 0 <;> simp only [Option.bind_none, Option.bind_some, Option.map_none]
    cases J0 Γ e hi _ <;> simp only [Option.bind_none, Option.bind_some, Option.map_none]
    cases mx <;> simp only [Option.map_some, Option.map_map, Function.comp_def]
   ·cases J0 Γ e lo 0 <;> simp only [Option.bind_none, Option.bind_some, Option.map_none]
    cases J0 Γ e hi _ <;> simp only [Option.bind_none, Option.bind_some, Option.map_none]
    split <;> try rfl
    cases mx <;> simp only [Option.map_some, Option.map_map, Function.comp_def]
   ·rfl
 case appZ ty s0 zs b n =>
  have h1 := hx b (by simp [Cb.opds])
  have h2 := hx n (by simp [Cb.opds])
  simp only [Ao, h1, h2]
  split <;> rfl
 all_goals
  try simp only [Cb.opds, List.mem_cons, List.not_mem_nil, or_false, false_or, forall_eq_or_imp, forall_eq] at hx
  try have hxs := Ld hx
  simp only [Ao]
  try simp only [hx]
  try simp only [hxs]
  try rfl
  try simp only [Option.map_map, Option.map_bind, Function.comp_def]
  repeat' (first | rfl | split | (refine congrArg _ (funext fun _ => ?_)) | simp only [Option.map_map, Option.map_bind, Function.comp_def])
theorem qHZ (hk : io.kd ≤ 1) : Ao Γ d io ⟨e, h⟩ = (Ao Γ d io ⟨e, h⟩).map fun q => (q.1, q.2.1, ⟨e, h⟩) := by
 cases io
 all_goals try (simp [Cb.kd] at hk; done)
 case alloc fz zs => cases fz; (simp [Cb.kd] at hk); rfl
 case box fz zs => cases fz; (simp [Cb.kd] at hk); (simp [Ao, Option.map_bind, Option.map_map, Function.comp_def])
 case bsl fz ty s zs => cases fz; (simp [Cb.kd] at hk); (simp [Ao, Option.map_bind, Option.map_map, Function.comp_def])
 case slice s0 x lo hi mx =>
  simp only [Ao]
  cases ev Γ e x with
  | none => simp
  | some a =>
   simp only [Option.bind_some]
   split
   ·cases J0 Γ e lo 0 <;> simp only [Option.bind_none, Option.bind_some, Option.map_none, Option.map_map, Function.comp_def]
   ·cases J0 Γ e lo 0 <;> simp only [Option.bind_none, Option.bind_some, Option.map_none]
    cases J0 Γ e hi _ <;> simp only [Option.bind_none, Option.bind_some, Option.map_none]
    cases mx <;> simp only [Option.map_some, Option.map_map, Function.comp_def]
   ·cases J0 Γ e lo 0 <;> simp only [Option.bind_none, Option.bind_some, Option.map_none]
    cases J0 Γ e hi _ <;> simp only [Option.bind_none, Option.bind_some, Option.map_none]
    split <;> try rfl
    cases mx <;> simp only [Option.map_some, Option.map_map, Function.comp_def]
   ·rfl
 all_goals
  simp only [Ao]
  try rfl
  try simp only [Option.map_map, Option.map_bind, Function.comp_def]
  repeat' (first | rfl | split | (refine congrArg _ (funext fun _ => ?_)) | simp only [Option.map_map, Option.map_bind, Function.comp_def])
theorem qHa (hk : io.kd = 0) : Ao Γ d io ⟨e, h'⟩ = (Ao Γ d io ⟨e, h⟩).map fun q => (q.1, q.2.1, ⟨e, h'⟩) := by
 cases io
 all_goals try (simp [Cb.kd] at hk; done)
 case alloc fz zs => cases fz; (simp [Cb.kd] at hk); rfl
 case box fz zs => cases fz; (simp [Cb.kd] at hk); (simp [Ao, Option.map_bind, Option.map_map, Function.comp_def])
 case bsl fz ty s zs => cases fz; (simp [Cb.kd] at hk); (simp [Ao, Option.map_bind, Option.map_map, Function.comp_def])
 all_goals
  simp only [Ao]
  try rfl
  try simp only [Option.map_map, Option.map_bind, Function.comp_def]
  repeat' (first | rfl | split | (refine congrArg _ (funext fun _ => ?_)) | simp only [Option.map_map, Option.map_bind, Function.comp_def])
def Cb.isNew : Cb → Bool
 | .alloc _ _ | .box _ _ | .bsl _ _ _ _ | .mk _ _ _ _ _ | .mkE _ _ _ _ _ | .mkB _ _ _ _ | .appZ _ _ _ _ _ | .appN _ _ _ | .mkmap | .rng _ => true
 | _ => false
theorem qJV (hn : io.isNew = true) (hs : Ao Γ d io ⟨e, h⟩ = some (c, r, s)) (hc : c) : s.hp = h ∨ ∃ q, s.hp = (d, q) :: h ∧ A2 h d = none := by
 cases io
 all_goals try (simp [Cb.isNew] at hn; done)
 case alloc fz zs =>
  cases fz <;> simp [Ao] at hs
  ·obtain ⟨hcc, rfl, rfl⟩ := hs; exact .inr ⟨_, rfl, hcc.2 hc⟩
  ·obtain ⟨_, rfl, rfl⟩ := hs; exact .inl rfl
 case box fz x =>
  simp only [Ao, Option.bind_eq_some_iff] at hs
  obtain ⟨a, ha, hs⟩ := hs
  cases fz <;> simp at hs
  ·obtain ⟨hcc, rfl, rfl⟩ := hs; exact .inr ⟨_, rfl, (hcc.2 hc).1⟩
  ·obtain ⟨_, _, _, _, rfl⟩ := hs; exact .inl rfl
 case bsl fz ty s0 parts =>
  simp only [Ao, Option.bind_eq_some_iff, Option.map_eq_some_iff] at hs
  obtain ⟨as, ha, es, he, hs⟩ := hs
  cases fz <;> simp at hs
  ·obtain ⟨hcc, rfl, rfl⟩ := hs; exact .inr ⟨_, rfl, (hcc.2 hc).1⟩
  ·obtain ⟨_, _, rfl⟩ := hs; exact .inl rfl
 case mk ty s0 zs l cc =>
  simp only [Ao] at hs
  split at hs
  ·simp only [Option.some.injEq, Prod.mk.injEq] at hs
   obtain ⟨rfl, rfl, rfl⟩ := hs; exact .inr ⟨_, rfl, hc.1⟩
  ·cases hs
 case mkE ty s0 zs l cc =>
  simp only [Ao] at hs
  split at hs
  ·simp only [Option.some.injEq, Prod.mk.injEq] at hs
   obtain ⟨rfl, rfl, rfl⟩ := hs; exact .inr ⟨_, rfl, hc.1⟩
  ·cases hs
 case appZ ty s0 zs l cc =>
  simp only [Ao] at hs
  split at hs
  ·simp only [Option.some.injEq, Prod.mk.injEq] at hs
   obtain ⟨rfl, rfl, rfl⟩ := hs; exact .inr ⟨_, rfl, hc.1⟩
  ·cases hs
 case appN ty s0 x =>
  simp only [Ao] at hs
  split at hs
  ·simp only [Option.some.injEq, Prod.mk.injEq] at hs
   obtain ⟨rfl, rfl, rfl⟩ := hs; exact .inr ⟨_, rfl, hc.1⟩
  ·cases hs
 case mkB ty zs l cc =>
  simp only [Ao] at hs
  split at hs
  ·simp only [Option.some.injEq, Prod.mk.injEq] at hs
   obtain ⟨rfl, rfl, rfl⟩ := hs; exact .inr ⟨_, rfl, hc.1⟩
  ·cases hs
 case rng x =>
  simp only [Ao] at hs
  split at hs
  ·simp only [Option.some.injEq, Prod.mk.injEq] at hs
   obtain ⟨rfl, rfl, rfl⟩ := hs; exact .inr ⟨_, rfl, hc⟩
  ·cases hs
 case mkmap =>
  simp only [Ao, Option.some.injEq, Prod.mk.injEq] at hs
  obtain ⟨rfl, rfl, rfl⟩ := hs; exact .inr ⟨_, rfl, hc⟩
theorem q2v (hl : ∀ id x, A2 h id = some x → A2 h' id = some x) {a : AV} {es : List (List T)} (hs : Br h a = some es) : Br h' a = some es := by
 unfold Br at hs ⊢
 split at hs
 ·exact hs
 ·split at hs
  ·rename_i hq; rw [hl _ _ hq]; exact hs
  ·cases hs
 ·cases hs
theorem qGW (hl : ∀ id x, A2 h id = some x → A2 h' id = some x) {a : AV} {n : Nat} (hs : lenOf h a = some n) : lenOf h' a = some n := by
 unfold lenOf at hs ⊢
 split at hs
 ·exact hs
 ·exact hs
 ·exact hs
 ·exact hs
 ·exact hs
 ·split at hs
  ·rename_i hq; rw [hl _ _ hq]; exact hs
  ·cases hs
 ·cases hs
theorem qJW (hk : io.kd ≤ 1) (hl : ∀ id x, A2 h id = some x → A2 h' id = some x) (hs : Ao Γ d io ⟨e, h⟩ = some (c, r, s)) : Ao Γ d io ⟨e, h'⟩ = some (c, r, ⟨e, h'⟩) := by
 by_cases h0 : io.kd = 0
 ·rw [qHa (h := h) h0, hs]; rfl
 cases io
 all_goals try (simp [Cb.kd] at hk h0; done)
 case alloc fz zs => cases fz <;> simp [Cb.kd] at hk h0
 case box fz zs => cases fz <;> simp [Cb.kd] at hk h0
 case bsl fz ty s zs => cases fz <;> simp [Cb.kd] at hk h0
 case rcall => simp [Ao] at hs
 case call => simp [Ao] at hs
 case callv => simp [Ao] at hs
 case load n g a =>
  simp only [Ao] at hs ⊢
  split at hs
  ·simp only [Option.some.injEq, Prod.mk.injEq] at hs
   obtain ⟨rfl, rfl, rfl⟩ := hs; rfl
  ·split at hs
   ·rename_i hq; rw [hl _ _ hq]
    simp only [Option.some.injEq, Prod.mk.injEq] at hs
    obtain ⟨rfl, rfl, rfl⟩ := hs; rfl
   ·rename_i hq; rw [hl _ _ hq]
    simp only [Option.some.injEq, Prod.mk.injEq] at hs
    obtain ⟨rfl, rfl, rfl⟩ := hs; rfl
   ·cases hs
  ·cases hs
 case ldR id n g a =>
  simp only [Ao] at hs ⊢
  split at hs
  case isFalse => cases hs
  rename_i hp
  rw [if_pos hp]
  split at hs
  ·simp only [Option.some.injEq, Prod.mk.injEq] at hs
   obtain ⟨rfl, rfl, rfl⟩ := hs; rfl
  ·split at hs
   ·rename_i hq; rw [hl _ _ hq]
    simp only [Option.some.injEq, Prod.mk.injEq] at hs
    obtain ⟨rfl, rfl, rfl⟩ := hs; rfl
   ·rename_i hq; rw [hl _ _ hq]
    simp only [Option.some.injEq, Prod.mk.injEq] at hs
    obtain ⟨rfl, rfl, rfl⟩ := hs; rfl
   ·cases hs
  ·cases hs
 case iadr s0 x i =>
  simp only [Ao] at hs ⊢
  split at hs
  ·simp only [Option.some.injEq, Prod.mk.injEq] at hs
   obtain ⟨rfl, rfl, rfl⟩ := hs; rfl
  ·split at hs
   ·rename_i hq; rw [hl _ _ hq]
    simp only [Option.some.injEq, Prod.mk.injEq] at hs
    obtain ⟨rfl, rfl, rfl⟩ := hs; rfl
   ·cases hs
  ·split at hs
   ·rename_i hq; rw [hl _ _ hq]
    simp only [Option.some.injEq, Prod.mk.injEq] at hs
    obtain ⟨rfl, rfl, rfl⟩ := hs; rfl
   ·cases hs
  ·cases hs
 case bytesStr x =>
  simp only [Ao, Option.bind_eq_some_iff, Option.map_eq_some_iff, Prod.mk.injEq] at hs ⊢
  obtain ⟨es, ⟨a, ha, he⟩, bs, hb, rfl, rfl, rfl⟩ := hs
  exact ⟨es, ⟨a, ha, q2v hl he⟩, bs, hb, rfl, rfl, trivial⟩
 case appT ty s0 b x =>
  simp only [Ao, Option.bind_eq_some_iff] at hs ⊢
  obtain ⟨es, ⟨a, ha, he⟩, hs⟩ := hs
  refine ⟨es, ⟨a, ha, q2v hl he⟩, ?_⟩
  split at hs
  ·simp only [Option.some.injEq, Prod.mk.injEq] at hs ⊢
   obtain ⟨rfl, rfl, rfl⟩ := hs; exact ⟨rfl, rfl, trivial⟩
  ·cases hs
 case appB b x =>
  simp only [Ao, Option.bind_eq_some_iff] at hs ⊢
  obtain ⟨es, ⟨a, ha, he⟩, hs⟩ := hs
  refine ⟨es, ⟨a, ha, q2v hl he⟩, ?_⟩
  split at hs
  ·simp only [Option.some.injEq, Prod.mk.injEq] at hs ⊢
   obtain ⟨rfl, rfl, rfl⟩ := hs; exact ⟨rfl, rfl, trivial⟩
  ·cases hs
 case len k x =>
  simp only [Ao, Option.bind_eq_some_iff] at hs ⊢
  obtain ⟨a, ha, hs⟩ := hs
  refine ⟨a, ha, ?_⟩
  split at hs
  ·rename_i hq
   rw [if_pos hq]
   simp only [Option.map_eq_some_iff, Prod.mk.injEq] at hs ⊢
   obtain ⟨n, hn, rfl, rfl, rfl⟩ := hs
   exact ⟨n, qGW hl hn, rfl, rfl, trivial⟩
  ·cases hs
 case lkup kt zv ok m k =>
  simp only [Ao] at hs ⊢
  split at hs
  ·split at hs
   ·simp only [Option.some.injEq, Prod.mk.injEq] at hs
    obtain ⟨rfl, rfl, rfl⟩ := hs; rfl
   ·split at hs
    ·rename_i hq; rw [hl _ _ hq]
     simp only [Option.some.injEq, Prod.mk.injEq] at hs
     obtain ⟨rfl, rfl, rfl⟩ := hs; rfl
    ·cases hs
   ·cases hs
  ·cases hs
 case slice s0 x lo hi mx =>
  simp only [Ao, Option.bind_eq_some_iff] at hs ⊢
  obtain ⟨a, ha, hs⟩ := hs
  refine ⟨a, ha, ?_⟩
  split at hs
  ·simp only [Option.bind_eq_some_iff, Option.map_eq_some_iff, Prod.mk.injEq] at hs ⊢
   obtain ⟨l, hl1, q, hq, rfl, rfl, rfl⟩ := hs
   exact ⟨l, hl1, q, hq, rfl, rfl, trivial⟩
  ·simp only [Option.bind_eq_some_iff] at hs ⊢
   obtain ⟨l, hl1, q, hq, hs⟩ := hs
   refine ⟨l, hl1, q, hq, ?_⟩
   cases mx
   ·simp only [Option.some.injEq, Prod.mk.injEq] at hs ⊢
    obtain ⟨rfl, rfl, rfl⟩ := hs; exact ⟨rfl, rfl, trivial⟩
   ·simp only [Option.map_eq_some_iff, Prod.mk.injEq] at hs ⊢
    obtain ⟨m, hm, rfl, rfl, rfl⟩ := hs
    exact ⟨m, hm, rfl, rfl, trivial⟩
  ·simp only [Option.bind_eq_some_iff] at hs ⊢
   obtain ⟨l, hl1, q, hq, hs⟩ := hs
   refine ⟨l, hl1, q, hq, ?_⟩
   split at hs
   ·rename_i hz; rw [hl _ _ hz]
    cases mx
    ·simp only [Option.some.injEq, Prod.mk.injEq] at hs ⊢
     obtain ⟨rfl, rfl, rfl⟩ := hs; exact ⟨rfl, rfl, trivial⟩
    ·simp only [Option.map_eq_some_iff, Prod.mk.injEq] at hs ⊢
     obtain ⟨m, hm, rfl, rfl, rfl⟩ := hs
     exact ⟨m, hm, rfl, rfl, trivial⟩
   ·cases hs
  ·cases hs
theorem qCu (hn : io.isNew = true) (hs : Ao Γ d io ⟨e, h⟩ = some (c, r, s)) (hc : c) : (s.hp = h ∧ ∀ h', ∃ c', Ao Γ d io ⟨e, h'⟩ = some (c', r, ⟨e, h'⟩) ∧ c') ∨
  ∃ q, A2 h d = none ∧ s.hp = (d, q) :: h ∧ ∀ h', A2 h' d = none → ∃ c', Ao Γ d io ⟨e, h'⟩ = some (c', r, ⟨e, (d, q) :: h'⟩) ∧ c' := by
 cases io
 all_goals try (simp [Cb.isNew] at hn; done)
 case alloc fz zs =>
  cases fz <;> simp [Ao] at hs
  ·obtain ⟨hcc, rfl, rfl⟩ := hs; exact .inr ⟨_, hcc.2 hc, rfl, fun h' hh => ⟨A2 h' d = none, by simp [Ao], hh⟩⟩
  ·obtain ⟨_, rfl, rfl⟩ := hs; exact .inl ⟨rfl, fun h' => ⟨True, by simp [Ao], trivial⟩⟩
 case box fz x =>
  simp only [Ao, Option.bind_eq_some_iff] at hs
  obtain ⟨a, ha, hs⟩ := hs
  cases fz <;> simp only [Bool.false_eq_true, ↓reduceIte, Option.map_eq_some_iff, Option.some.injEq, Prod.mk.injEq] at hs
  ·obtain ⟨rfl, rfl, rfl⟩ := hs; exact .inr ⟨_, hc.1, rfl, fun h' hh => ⟨A2 h' d = none ∧ D2 a.cells = true, by simp [Ao, ha], hh, hc.2⟩⟩
  ·obtain ⟨ts, hts, rfl, rfl, rfl⟩ := hs; exact .inl ⟨rfl, fun h' => ⟨C6 ts = true, by simp [Ao, ha, hts], hc⟩⟩
 case bsl fz ty s0 parts =>
  simp only [Ao, Option.bind_eq_some_iff, Option.map_eq_some_iff] at hs
  obtain ⟨as, ha, es, he, hs⟩ := hs
  cases fz <;> simp only [Bool.false_eq_true, ↓reduceIte, Prod.mk.injEq] at hs
  ·obtain ⟨rfl, rfl, rfl⟩ := hs; exact .inr ⟨_, hc.1, rfl, fun h' hh => ⟨A2 h' d = none ∧ ∀ e ∈ es, e.length = s0 ∧ C6 e = true, by simp [Ao, ha, he], hh, hc.2⟩⟩
  ·obtain ⟨rfl, rfl, rfl⟩ := hs; exact .inl ⟨rfl, fun h' => ⟨∀ e ∈ es, e.length = s0 ∧ C6 e = true, by simp [Ao, ha, he], hc⟩⟩
 case mk ty s0 zs l cc =>
  simp only [Ao] at hs
  split at hs
  ·rename_i e1 e2
   simp only [Option.some.injEq, Prod.mk.injEq] at hs
   obtain ⟨rfl, rfl, rfl⟩ := hs; exact .inr ⟨_, hc.1, rfl, fun h' hh => ⟨_, by simp only [Ao, e1, e2]; rfl, by exact ⟨hh, hc.2⟩⟩⟩
  ·cases hs
 case mkE ty s0 zs l cc =>
  simp only [Ao] at hs
  split at hs
  ·rename_i e1 e2
   simp only [Option.some.injEq, Prod.mk.injEq] at hs
   obtain ⟨rfl, rfl, rfl⟩ := hs; exact .inr ⟨_, hc.1, rfl, fun h' hh => ⟨_, by simp only [Ao, e1, e2]; rfl, by exact ⟨hh, hc.2⟩⟩⟩
  ·cases hs
 case appZ ty s0 zs l cc =>
  simp only [Ao] at hs
  split at hs
  ·rename_i e1 e2
   simp only [Option.some.injEq, Prod.mk.injEq] at hs
   obtain ⟨rfl, rfl, rfl⟩ := hs; exact .inr ⟨_, hc.1, rfl, fun h' hh => ⟨_, by simp only [Ao, e1, e2]; rfl, by exact ⟨hh, hc.2⟩⟩⟩
  ·cases hs
 case appN ty s0 x =>
  simp only [Ao] at hs
  split at hs
  ·rename_i e1
   simp only [Option.some.injEq, Prod.mk.injEq] at hs
   obtain ⟨rfl, rfl, rfl⟩ := hs; exact .inr ⟨_, hc.1, rfl, fun h' hh => ⟨_, by simp only [Ao, e1]; rfl, by exact ⟨hh, hc.2⟩⟩⟩
  ·cases hs
 case mkB ty zs l cc =>
  simp only [Ao] at hs
  split at hs
  ·rename_i e1 e2
   simp only [Option.some.injEq, Prod.mk.injEq] at hs
   obtain ⟨rfl, rfl, rfl⟩ := hs; exact .inr ⟨_, hc.1, rfl, fun h' hh => ⟨_, by simp only [Ao, e1, e2]; rfl, by exact ⟨hh, hc.2⟩⟩⟩
  ·cases hs
 case mkmap =>
  simp only [Ao, Option.some.injEq, Prod.mk.injEq] at hs
  obtain ⟨rfl, rfl, rfl⟩ := hs; exact .inr ⟨_, hc, rfl, fun h' hh => ⟨_, by simp only [Ao], hh⟩⟩
 case rng x =>
  simp only [Ao] at hs
  split at hs
  ·rename_i e1
   simp only [Option.some.injEq, Prod.mk.injEq] at hs
   obtain ⟨rfl, rfl, rfl⟩ := hs; exact .inr ⟨_, hc, rfl, fun h' hh => ⟨_, by simp only [Ao, e1], hh⟩⟩
  ·cases hs
theorem qFU {id n : Nat} {a x : Operand} (hs : Ao Γ d (.stR id n a x) ⟨e, h⟩ = some (c, r, s)) (hc : c) :
  ∃ q q', A2 h id = some q ∧ q'.sh = q.sh ∧ s.hp = Gf id q' h ∧ ∀ h', A2 h' id = some q → ∃ c', Ao Γ d (.stR id n a x) ⟨e, h'⟩ = some (c', r, ⟨e, Gf id q' h'⟩) ∧ c' := by
 simp only [Ao] at hs
 split at hs
 case isFalse => cases hs
 rename_i hp
 simp only [Option.bind_eq_some_iff] at hs
 obtain ⟨v, hv, hs⟩ := hs
 split at hs
 case h_2 => cases hs
 rename_i j i k ha
 have hj : j = id := by rw [ha] at hp; simpa [Ei] using hp
 subst hj
 split at hs
 ·rename_i ty s0 es hl
  simp only [Option.map_eq_some_iff, Prod.mk.injEq] at hs
  obtain ⟨ts, hts, rfl, rfl, rfl⟩ := hs
  exact ⟨_, _, hl, by simp [B7.sh], rfl, fun h' hh => ⟨_, by simp only [Ao, hv, ha, hh, hts, Ei, beq_self_eq_true, ↓reduceIte, Option.bind_some, Option.map_some], hc⟩⟩
 ·rename_i cs hl
  simp only [Option.some.injEq, Prod.mk.injEq] at hs
  obtain ⟨rfl, rfl, rfl⟩ := hs
  exact ⟨_, .bx (cs.take k ++ v.cells ++ cs.drop (k + n)), hl, rfl, rfl, fun h' hh => ⟨_, by simp only [Ao, hv, ha, hh, Ei, beq_self_eq_true, ↓reduceIte, Option.bind_some, Option.map_some], hc⟩⟩
 ·cases hs
theorem qJX {id n : Nat} {g : Bool} {a : Operand} (hs : Ao Γ d (.ldR id n g a) ⟨e, h⟩ = some (c, r, s)) (hh : A2 h' id = A2 h id) : Ao Γ d (.ldR id n g a) ⟨e, h'⟩ = some (c, r, ⟨e, h'⟩) := by
 simp only [Ao] at hs
 split at hs
 case isFalse => cases hs
 rename_i hp
 split at hs
 ·rename_i ha; rw [ha] at hp; simp [Ei] at hp
 ·rename_i j i k ha
  have hj : j = id := by rw [ha] at hp; simpa [Ei] using hp
  subst hj
  split at hs
  ·rename_i hl
   simp only [Option.some.injEq, Prod.mk.injEq] at hs
   obtain ⟨rfl, rfl, rfl⟩ := hs
   simp only [Ao, ha, hh, hl, Ei, beq_self_eq_true, ↓reduceIte]
  ·rename_i hl
   simp only [Option.some.injEq, Prod.mk.injEq] at hs
   obtain ⟨rfl, rfl, rfl⟩ := hs
   simp only [Ao, ha, hh, hl, Ei, beq_self_eq_true, ↓reduceIte]
  ·cases hs
 ·cases hs
theorem qJY {s0 : Nat} {x i : Operand} (hs : Ao Γ d (.iadr s0 x i) ⟨e, h⟩ = some (c, r, s)) (hh : ∀ k, (A2 h' k).map B7.sh = (A2 h k).map B7.sh) : Ao Γ d (.iadr s0 x i) ⟨e, h'⟩ = some (c, r, ⟨e, h'⟩) := by
 simp only [Ao] at hs
 split at hs
 ·rename_i e1 e2
  simp only [Option.some.injEq, Prod.mk.injEq] at hs
  obtain ⟨rfl, rfl, rfl⟩ := hs
  simp only [Ao, e1, e2]
 ·rename_i id off len cap k n e1 e2
  split at hs
  ·rename_i ty q es hl
   simp only [Option.some.injEq, Prod.mk.injEq] at hs
   obtain ⟨rfl, rfl, rfl⟩ := hs
   have := hh id
   rw [hl] at this
   simp only [Option.map_some, B7.sh, Option.map_eq_some_iff] at this
   obtain ⟨q', h1, h2⟩ := this
   cases q' <;> simp at h2
   obtain ⟨rfl, _⟩ := h2
   simp only [Ao, e1, e2, h1]
  ·cases hs
 ·rename_i id m k n e1 e2
  split at hs
  ·rename_i cs hl
   simp only [Option.some.injEq, Prod.mk.injEq] at hs
   obtain ⟨rfl, rfl, rfl⟩ := hs
   have := hh id
   rw [hl] at this
   simp only [Option.map_some, B7.sh, Option.map_eq_some_iff] at this
   obtain ⟨q', h1, h2⟩ := this
   cases q' <;> simp at h2
   simp only [Ao, e1, e2, h1]
  ·cases hs
 ·cases hs
end
end Go.Lg
