/- Plain data as trees, and how calls are taken. Conditions: none. -/
import Derived.Test.YtgnghiijbegacaaDoorLgE
import Derived.Test.YtgnghiijbegacaaDoorCoK
import Derived.Lib.Bytealg
set_option linter.unusedSimpArgs false
set_option linter.unusedVariables false
namespace Go.Lg
open Go

attribute [simp] onesT onesA T.one AV.one Value.oneCell' flatSt flatL flatA flatT flat1 ret retH

@[simp] theorem int_beq (a b : Int) : (a == b) = decide (a = b) := rfl
@[simp] theorem int_bne (a b : Int) : (a != b) = !decide (a = b) := rfl

@[simp] theorem ba_size (s : List UInt8) : (ByteArray.mk s.toArray).size = s.length := by simp [ByteArray.size]

/-- Lists of one-cell data. -/
def enc1 {α : Type} (f : α → T) (l : List α) : List (List T) := l.map fun n => [f n]
theorem enc1_len {α : Type} {f : α → T} {l : List α} : (enc1 f l).length = l.length := by simp [enc1]
theorem enc1_get {α : Type} {f : α → T} {l : List α} {i : Nat} (d : α) (h : i < l.length) : (enc1 f l)[i]?.getD [] = [f (l[i]?.getD d)] := by simp [enc1, h]
theorem enc1_wid {α : Type} {f : α → T} {l : List α} : wid 1 (enc1 f l) := by
  intro e he; obtain ⟨x, _, rfl⟩ := List.mem_map.1 he; rfl
theorem enc1_app {α : Type} {f : α → T} {l m : List α} : enc1 f l ++ enc1 f m = enc1 f (l ++ m) := by simp [enc1]
theorem enc1_drop {α : Type} {f : α → T} {l : List α} {n : Nat} : (enc1 f l).drop n = enc1 f (l.drop n) := by simp [enc1, List.map_drop]
theorem enc1_take {α : Type} {f : α → T} {l : List α} {n : Nat} : (enc1 f l).take n = enc1 f (l.take n) := by simp [enc1, List.map_take]
theorem enc1_set {α : Type} {f : α → T} {l : List α} {n : Nat} {x : α} : (enc1 f l).set n [f x] = enc1 f (l.set n x) := by simp [enc1, List.map_set]
theorem enc1_nil {α : Type} {f : α → T} : enc1 f [] = [] := rfl

@[simp] theorem wid_nil {s : Nat} : wid s [] := fun e h => by cases h

/-- Lists of data of several cells. -/
def encN {α : Type} (f : α → List T) (l : List α) : List (List T) := l.map f
theorem encN_len {α : Type} {f : α → List T} {l : List α} : (encN f l).length = l.length := by simp [encN]
theorem encN_get {α : Type} {f : α → List T} {l : List α} {i : Nat} (d : α) (h : i < l.length) : (encN f l)[i]?.getD [] = f (l[i]?.getD d) := by simp [encN, h]
theorem encN_wid {α : Type} {f : α → List T} {l : List α} {s : Nat} (h : ∀ x, (f x).length = s) : wid s (encN f l) := by
  intro e he; obtain ⟨x, _, rfl⟩ := List.mem_map.1 he; exact h x
theorem encN_app {α : Type} {f : α → List T} {l m : List α} : encN f l ++ encN f m = encN f (l ++ m) := by simp [encN]

@[simp] theorem enc1_take_len {α : Type} {f : α → T} {l : List α} : (enc1 f l).take l.length = enc1 f l := by rw [List.take_of_length_le (by simp [enc1])]
theorem enc1_snoc {α : Type} {f : α → T} {l : List α} {x : α} : enc1 f l ++ [[f x]] = enc1 f (l ++ [x]) := by simp [enc1]
@[simp] theorem encN_take_len {α : Type} {f : α → List T} {l : List α} : (encN f l).take l.length = encN f l := by rw [List.take_of_length_le (by simp [encN])]
theorem encN_snoc {α : Type} {f : α → List T} {l : List α} {x : α} : encN f l ++ [f x] = encN f (l ++ [x]) := by simp [encN]

/-- A slice: what it holds, its capacity and whether it is nil, where these are known. -/
structure Sl (α : Type) where
  l : List α
  cap : Option Nat
  nl : Option Bool

abbrev tI (n : Int) : T := .v (.int .i64 n)
abbrev tK (n : Int) : T := .v (.int .u8 n)
abbrev tB (b : Bool) : T := .v (.bool b)
abbrev ints (l : List Int) : List (List T) := enc1 tI l
def tSl (s : Sl Int) : T := .sl (ints s.l) s.cap s.nl

@[simp] theorem flatReg_bx {cs : List AV} : flatReg (.bx cs) = ∀ c ∈ cs, flatA c := rfl
@[simp] theorem flatReg_it {s : ByteArray} {p : Nat} : flatReg (.it s p) = True := rfl
@[simp] theorem flatReg_nil {ty s : Nat} : flatReg (.sl ty s []) = True := by simp [flatReg]
theorem flatReg_enc1 {α : Type} {f : α → T} {l : List α} {ty s : Nat} (h : ∀ x, flatT (f x) = true) : flatReg (.sl ty s (enc1 f l)) := by
  intro e he t ht
  obtain ⟨x, _, rfl⟩ := List.mem_map.1 he
  simp only [List.mem_singleton] at ht; subst ht; exact h x
@[simp] theorem flatReg_I {l : List Int} {ty s : Nat} : flatReg (.sl ty s (enc1 tI l)) = True := eq_true (flatReg_enc1 fun _ => rfl)
@[simp] theorem flatReg_K {l : List Int} {ty s : Nat} : flatReg (.sl ty s (enc1 tK l)) = True := eq_true (flatReg_enc1 fun _ => rfl)
@[simp] theorem flatReg_B {l : List Bool} {ty s : Nat} : flatReg (.sl ty s (enc1 tB l)) = True := eq_true (flatReg_enc1 fun _ => rfl)
theorem flatReg_mp {es : List (Value × T)} (h : ∀ e ∈ es, flatT e.2 = true) : flatReg (.mp es) := h

/-- Numbers that an int holds. -/
def I64 (n : Int) : Prop := -9223372036854775808 ≤ n ∧ n ≤ 9223372036854775807

section
variable {P : Program} {Γ : Tables} {hp : List (Nat × Reg)} {f : FuncId} {avs : List AV} {K : T → Prop} {ts : List T} {res : T}

theorem callK_pure (h : PureCalls P Γ f ts res) (ht : optAll (avs.map toT) = some ts) (hk : K res) : callK P Γ hp f avs K ⟨⟩ := ⟨res, .inl ⟨ts, ht, h⟩, hk⟩
theorem callK_fresh (h : FreshCalls P Γ f ts res) (ht : optAll (avs.map (reify hp 4)) = some ts) (hk : K res) : callK P Γ hp f avs K ⟨⟩ := ⟨res, .inr ⟨ts, ht, h⟩, hk⟩

theorem run_pureQ {ic : IC} {N n : Nat} {rvs : List RV} {args : List T} (hc : chkF P f ic N n rvs = true) (hn : args.length = n) (h : run P Γ ic (ret false rvs fun r => r = res) ⟨params 0 args, []⟩) : PureCalls P Γ f args res := by
  obtain ⟨r, h1, rfl⟩ := run_pure hc hn h; exact h1
theorem run_freshQ {ic : IC} {N n : Nat} {rvs : List RV} {args : List T} (hc : chkF P f ic N n rvs = true) (hn : args.length = n) (h : run P Γ ic (ret true rvs fun r => r = res) ⟨params 0 args, []⟩) : FreshCalls P Γ f args res := by
  obtain ⟨r, h1, rfl⟩ := run_fresh hc hn h; exact h1
theorem run_handQ {ic : IC} {N n : Nat} {rvs : List RV} {args : List AV} {r0 : AV} {hp' : List (Nat × Reg)} (hc : chkF P f ic N n rvs = true) (hn : args.length = n) (h : run P Γ ic (retH rvs fun r h => r = r0 ∧ h = hp') ⟨avps 0 args, hp⟩) : HCalls P Γ f hp args r0 hp' := by
  obtain ⟨r, h', h1, rfl, rfl⟩ := run_hand hc hn h; exact h1
end
end Go.Lg

/- Small library functions on slices. Conditions: none. -/
set_option linter.unusedSimpArgs false
set_option linter.unusedVariables false
set_option maxRecDepth 100000
namespace Go.Lg
open Go Go.Proofs
variable {Γ : Tables}


theorem clip_int (es : List (List T)) (cap : Option Nat) (nl : Option Bool) (hw : wid 1 es) : PureCalls Tryd.prog Γ 42 [.sl es cap nl] (.sl es (some es.length) nl) := by
  refine run_pureQ slices_Clip_int_chk rfl ?_
  simp [slices_Clip_int_ic, slices_Clip_int_rv, ret, hw]
theorem clip_ints (es : List (List T)) (cap : Option Nat) (nl : Option Bool) (hw : wid 1 es) : PureCalls Tryd.prog Γ 44 [.sl es cap nl] (.sl es (some es.length) nl) := by
  refine run_pureQ slices_Clip_ints_chk rfl ?_
  simp [slices_Clip_ints_ic, slices_Clip_ints_rv, ret, hw]
theorem clip_line (es : List (List T)) (cap : Option Nat) (nl : Option Bool) (hw : wid 2 es) : PureCalls Tryd.prog Γ 108 [.sl es cap nl] (.sl es (some es.length) nl) := by
  refine run_pureQ slices_Clip_api_Line_chk rfl ?_
  simp [slices_Clip_api_Line_ic, slices_Clip_api_Line_rv, ret, hw]
theorem clip_int_h (ty : Nat) (es : List (List T)) (len : Nat) (cap : Option Nat) (hw : wid 1 es) : HCalls Tryd.prog Γ 42 [(1000000, .sl ty 1 es)] [.ls 1000000 0 len cap] (.ls 1000000 0 len (some len)) [(1000000, .sl ty 1 es)] := by
  refine run_handQ slices_Clip_int_chk rfl ?_
  simp [slices_Clip_int_ic, slices_Clip_int_rv, retH, hw]

theorem clone_int_h (l : List Int) (cap : Option Nat) (hl : l.length ≤ 1000000000) (h0 : l ≠ []) (nl : Option Bool) (hnl : nl ≠ some true) : HCalls Tryd.prog Γ 43 [] [.t (.sl (ints l) cap nl)] (.ls 7 0 l.length none) [(7, .sl 3 1 (ints l))] := by
  refine run_handQ slices_Clone_int_chk rfl ?_
  have h1 : ints l ≠ [] := by simpa [enc1] using h0
  rcases nl with _ | _ | _
  · simp (disch := omega) [slices_Clone_int_ic, slices_Clone_int_rv, retH, enc1_wid, enc1_len, h1, Later]
    omega
  · simp (disch := omega) [slices_Clone_int_ic, slices_Clone_int_rv, retH, enc1_wid, enc1_len, h1, Later]
    omega
  · exact absurd rfl hnl
end Go.Lg

/- Searches in slices; the small tests of netlists. Conditions: none. -/
set_option linter.unusedSimpArgs false
set_option linter.unusedVariables false
set_option maxRecDepth 100000
namespace Go.Lg
open Go Go.Proofs
variable {Γ : Tables}

def idxP {α : Type} (p : α → Bool) (l : List α) : Int := match l.findIdx? p with | some i => i | none => -1

theorem findIdx_at {α : Type} {p : α → Bool} {l : List α} {i : Nat} (hp : ∀ j, j < i → ∀ x, l[j]? = some x → p x = false) (x : α) (hx : l[i]? = some x) (h : p x = true) : l.findIdx? p = some i := by
  rw [List.findIdx?_eq_some_iff_getElem]
  have hi := (List.getElem?_eq_some_iff.1 hx).1
  refine ⟨hi, ?_, fun j hj => ?_⟩
  · have := (List.getElem?_eq_some_iff.1 hx).2; rw [this]; exact h
  · have := hp j hj l[j] (List.getElem?_eq_getElem (by omega))
    simp [this]

theorem index_kind_loop (l : List Int) (c : Option Nat) (nl : Option Bool) (x : Int) (hl : l.length ≤ 1000000000) : ∀ (k i : Nat), k + i = l.length → (∀ j, j < i → ∀ y, l[j]? = some y → (y == x) = false) →
    run Tryd.prog Γ slices_Index_api_Kind_l1 (blockX 0 (thenX (run Tryd.prog Γ (.seq (.reg slices_Index_api_Kind_r7 [.keep [4] []]) .ret) (ret true slices_Index_api_Kind_rv fun r => r = tI (idxP (· == x) l))) (ret true slices_Index_api_Kind_rv fun r => r = tI (idxP (· == x) l)))) ⟨[(0, .t (.sl (enc1 tK l) c nl)), (1, .t (tK x)), (7, .t (tI l.length)), (8, .t (tI i))], []⟩
  | 0, i, h, hp => by
    refine slices_Index_api_Kind_l1_run fun K hK => ?_
    have h2 : ¬ i < l.length := by omega
    simp (disch := omega) [enc1_len, enc1_get (0 : Int), enc1_wid, wrap_i64, h2, ret, slices_Index_api_Kind_rv, flatSt, flatL, flatA, flatT]
    have : l.findIdx? (· == x) = none := by
      rw [List.findIdx?_eq_none_iff]
      intro y hy
      obtain ⟨j, hj, rfl⟩ := List.getElem_of_mem hy
      exact hp j (by omega) _ (List.getElem?_eq_getElem hj)
    have e : l.findIdx? (fun y => decide (y = x)) = _ := this
    simp [idxP, e]
  | k + 1, i, h, hp => by
    refine slices_Index_api_Kind_l1_run fun K hK => ?_
    have h2 : i < l.length := by omega
    simp (disch := omega) [enc1_len, enc1_get (0 : Int), enc1_wid, wrap_i64, h2]
    refine ⟨fun hc => ?_, fun hc => ?_⟩
    · simp [Later, ret, slices_Index_api_Kind_rv, flatSt, flatL, flatA, flatT]
      have := findIdx_at (p := (· == x)) hp l[i] (List.getElem?_eq_getElem h2) (by simp [hc])
      have e : l.findIdx? (fun y => decide (y = x)) = _ := this
      simp [idxP, e]
    · simp (disch := omega) [Later, wrap_i64]
      rw [hK]
      exact_mod_cast index_kind_loop l c nl x hl k (i + 1) (by omega) (fun j hj y hy => by
        rcases Nat.lt_succ_iff_lt_or_eq.1 hj with hj | rfl
        · exact hp j hj y hy
        · rw [List.getElem?_eq_getElem h2] at hy; simp at hy; subst hy
          simp; exact fun e => hc e.symm)

theorem index_kind (l : List Int) (c : Option Nat) (nl : Option Bool) (x : Int) (hl : l.length ≤ 1000000000) : FreshCalls Tryd.prog Γ 78 [.sl (enc1 tK l) c nl, tK x] (tI (idxP (· == x) l)) := by
  refine run_freshQ slices_Index_api_Kind_chk rfl ?_
  simp (disch := omega) [slices_Index_api_Kind_ic, enc1_len, wrap_i64]
  exact_mod_cast index_kind_loop l c nl x hl l.length 0 (by omega) (by simp)

theorem contains_kind (l : List Int) (c : Option Nat) (nl : Option Bool) (x : Int) (hl : l.length ≤ 1000000000) : FreshCalls Tryd.prog Γ 46 [.sl (enc1 tK l) c nl, tK x] (tB (l.contains x)) := by
  refine run_freshQ slices_Contains_api_Kind_chk rfl ?_
  simp (disch := omega) [slices_Contains_api_Kind_ic, enc1_len, wrap_i64]
  refine callK_fresh (index_kind l c nl x hl) rfl ?_
  simp [ret, slices_Contains_api_Kind_rv, flatSt, flatL, flatA, flatT]
  unfold idxP
  cases h : l.findIdx? (· == x) with
  | none =>
    rw [List.findIdx?_eq_none_iff] at h
    have : ¬ x ∈ l := fun hx => by simpa using h x hx
    simp [this]
  | some i =>
    rw [List.findIdx?_eq_some_iff_getElem] at h
    obtain ⟨hi, h1, _⟩ := h
    have : x ∈ l := by rw [← (show l[i] = x by simpa using h1)]; exact List.getElem_mem hi
    simp [this]

theorem optAll_some {cs : List T} : optAll (cs.map fun t => some t) = some cs := by
  induction cs with
  | nil => rfl
  | cons t cs ih => simp only [List.map_cons, optAll, ih, Option.map_some]

theorem callK_clos {hp : List (Nat × Reg)} {f : FuncId} {K : T → Prop} {cs : List T} {t res : T} (h : FreshCalls Tryd.prog Γ f (t :: cs) res) (hk : K res) : callK Tryd.prog Γ hp f (.t t :: cs.map .t) K ⟨⟩ :=
  callK_fresh h (by simp only [List.map_cons, List.map_map, Function.comp_def, optAll, reify]; rw [optAll_some]; rfl) hk

theorem indexfunc_loop {Q : AX → St → Prop} (l : List Int) (c : Option Nat) (nl : Option Bool) (f : FuncId) (cs : List T) (p : Int → Bool) (hp : ∀ x ∈ l, FreshCalls Tryd.prog Γ f (tI x :: cs) (tB (p x))) (hl : l.length ≤ 1000000000)
    (h0 : (∀ x ∈ l, p x = false) → Q (.exit 0) ⟨[(0, .t (.sl (ints l) c nl)), (1, .t (.fn f cs)), (7, .t (tI l.length)), (8, .t (tI l.length)), (9, .t (tB false))], []⟩)
    (h1 : ∀ i : Nat, l.findIdx? p = some i → Q .ret ⟨[(4, .t (tI i))], []⟩) : ∀ (k i : Nat), k + i = l.length → (∀ j, j < i → ∀ y, l[j]? = some y → p y = false) →
    run Tryd.prog Γ slices_IndexFunc_int_l1 Q ⟨[(0, .t (.sl (ints l) c nl)), (1, .t (.fn f cs)), (7, .t (tI l.length)), (8, .t (tI i))], []⟩
  | 0, i, h, hq => by
    refine slices_IndexFunc_int_l1_run fun K hK => ?_
    have h2 : ¬ i < l.length := by omega
    simp (disch := omega) [enc1_len, enc1_get (0 : Int), enc1_wid, wrap_i64, h2]
    have h3 : i = l.length := by omega
    subst h3
    refine h0 fun y hy => ?_
    obtain ⟨j, hj, rfl⟩ := List.getElem_of_mem hy
    exact hq j (by omega) _ (List.getElem?_eq_getElem hj)
  | k + 1, i, h, hq => by
    refine slices_IndexFunc_int_l1_run fun K hK => ?_
    have h2 : i < l.length := by omega
    simp (disch := omega) [enc1_len, enc1_get (0 : Int), enc1_wid, wrap_i64, h2]
    refine callK_clos (hp l[i] (List.getElem_mem h2)) ?_
    simp
    refine ⟨fun hc => ?_, fun hc => ?_⟩
    · simp [Later]
      exact h1 i (findIdx_at hq l[i] (List.getElem?_eq_getElem h2) hc)
    · simp (disch := omega) [Later, wrap_i64]
      rw [hK]
      exact_mod_cast indexfunc_loop l c nl f cs p hp hl h0 h1 k (i + 1) (by omega) (fun j hj y hy => by
        rcases Nat.lt_succ_iff_lt_or_eq.1 hj with hj | rfl
        · exact hq j hj y hy
        · rw [List.getElem?_eq_getElem h2] at hy; simp at hy; subst hy; exact hc)

theorem indexfunc_int (l : List Int) (c : Option Nat) (nl : Option Bool) (f : FuncId) (cs : List T) (p : Int → Bool) (hp : ∀ x ∈ l, FreshCalls Tryd.prog Γ f (tI x :: cs) (tB (p x))) (hl : l.length ≤ 1000000000) : FreshCalls Tryd.prog Γ 125 [.sl (ints l) c nl, .fn f cs] (tI (idxP p l)) := by
  refine run_freshQ slices_IndexFunc_int_chk rfl ?_
  simp (disch := omega) [slices_IndexFunc_int_ic, enc1_len, wrap_i64]
  refine indexfunc_loop l c nl f cs p hp hl (fun h => ?_) (fun i h => ?_) l.length 0 (by omega) (by simp)
  · have : l.findIdx? p = none := List.findIdx?_eq_none_iff.2 h
    simp [ret, slices_IndexFunc_int_rv, flatSt, flatL, flatA, flatT, idxP, this]
  · simp [ret, slices_IndexFunc_int_rv, flatSt, flatL, flatA, flatT, idxP, h]

theorem containsfunc_int (l : List Int) (c : Option Nat) (nl : Option Bool) (f : FuncId) (cs : List T) (p : Int → Bool) (hp : ∀ x ∈ l, FreshCalls Tryd.prog Γ f (tI x :: cs) (tB (p x))) (hl : l.length ≤ 1000000000) : FreshCalls Tryd.prog Γ 106 [.sl (ints l) c nl, .fn f cs] (tB (l.any p)) := by
  refine run_freshQ slices_ContainsFunc_int_chk rfl ?_
  simp (disch := omega) [slices_ContainsFunc_int_ic, enc1_len, wrap_i64]
  refine callK_fresh (indexfunc_int l c nl f cs p hp hl) rfl ?_
  simp [ret, slices_ContainsFunc_int_rv, flatSt, flatL, flatA, flatT]
  unfold idxP
  cases h : l.findIdx? p with
  | none =>
    rw [List.findIdx?_eq_none_iff] at h
    have : l.any p = false := by rw [List.any_eq_false]; intro x hx; simp [h x hx]
    simp [this]
  | some i =>
    rw [List.findIdx?_eq_some_iff_getElem] at h
    obtain ⟨hi, h1, _⟩ := h
    have : l.any p = true := List.any_eq_true.2 ⟨_, List.getElem_mem hi, h1⟩
    simp [this]

theorem comb_spec (k : Int) : FreshCalls Tryd.prog Γ 35 [tK k] (tB (decide (1 ≤ k ∧ k ≤ 13))) := by
  refine run_freshQ netlists_Comb_chk rfl ?_
  by_cases h1 : 1 ≤ k <;> by_cases h2 : k ≤ 13 <;> simp [netlists_Comb_ic, ret, netlists_Comb_rv, flatSt, flatL, flatA, flatT, h1, h2]

/-- A circuit. -/
structure Nd where
  k : Int
  inn : Sl Int
  mem : Int
  bit : Int
structure Mm where
  addr : Sl Int
  data : Sl Int
  write : Int
structure Cir where
  nodes : Sl Nd
  names : Sl (List UInt8)
  mems : Sl Mm
  outs : Sl Int

def tNd (x : Nd) : List T := [tK x.k, tSl x.inn, tI x.mem, tI x.bit]
def tMm (m : Mm) : List T := [tSl m.addr, tSl m.data, tI m.write]
def tS (l : List UInt8) : T := .v (sV l)
def tNodes (s : Sl Nd) : T := .sl (encN tNd s.l) s.cap s.nl
def tNames (s : Sl (List UInt8)) : T := .sl (enc1 tS s.l) s.cap s.nl
def tMems (s : Sl Mm) : T := .sl (encN tMm s.l) s.cap s.nl
def tC (c : Cir) : List T := [tNodes c.nodes, tNames c.names, tMems c.mems, tSl c.outs]
def Nd.d : Nd := ⟨0, ⟨[], none, none⟩, 0, 0⟩
def Mm.d : Mm := ⟨⟨[], none, none⟩, ⟨[], none, none⟩, 0⟩
theorem tNd_wid {l : List Nd} : wid 4 (encN tNd l) := encN_wid fun _ => rfl
theorem tMm_wid {l : List Mm} : wid 3 (encN tMm l) := encN_wid fun _ => rfl

/-- Sizes that no machine reaches. -/
structure CirOk (c : Cir) : Prop where
  nodes : c.nodes.l.length ≤ 1000000000
  names : c.names.l.length ≤ 1000000000
  mems : c.mems.l.length ≤ 1000000000
  outs : c.outs.l.length ≤ 1000000000
  kind : ∀ x ∈ c.nodes.l, 0 ≤ x.k ∧ x.k ≤ 255
  inn : ∀ x ∈ c.nodes.l, x.inn.l.length ≤ 1000000000
  addr : ∀ m ∈ c.mems.l, m.addr.l.length ≤ 1000000000 ∧ m.data.l.length ≤ 1000000000

def outP (c : Cir) (n : Int) : Bool := decide (n < 0 ∨ (c.nodes.l.length : Int) ≤ n)

theorem outside1_spec (c : Cir) (n : Int) (hc : c.nodes.l.length ≤ 1000000000) : FreshCalls Tryd.prog Γ 126 [tI n, .ip (tC c) 0] (tB (outP c n)) := by
  refine run_freshQ netlists_outside_1_chk rfl ?_
  by_cases h1 : n < 0 <;> simp (disch := omega) [netlists_outside_1_ic, ret, netlists_outside_1_rv, flatSt, flatL, flatA, flatT, h1, tC, tNodes, encN_len, wrap_i64, outP]

theorem outside_spec (c : Cir) : PureCalls Tryd.prog Γ 107 [.agg (tC c)] (.fn 126 [.ip (tC c) 0]) := by
  refine run_pureQ netlists_outside_chk rfl ?_
  simp [netlists_outside_ic, ret, netlists_outside_rv, tC, onesT, onesA, T.one, AV.one, tNodes, tNames, tMems, tSl]

theorem containsOut (c : Cir) (hc : c.nodes.l.length ≤ 1000000000) (l : List Int) (cap : Option Nat) (nl : Option Bool) (hl : l.length ≤ 1000000000) : FreshCalls Tryd.prog Γ 106 [.sl (ints l) cap nl, .fn 126 [.ip (tC c) 0]] (tB (l.any (outP c))) :=
  containsfunc_int l cap nl _ _ _ (fun x _ => outside1_spec c x hc) hl
end Go.Lg

/- The checks of nodes and of memories. Conditions: none. -/
set_option linter.unusedSimpArgs false
set_option linter.unusedVariables false
set_option maxRecDepth 100000
namespace Go.Lg
open Go Go.Proofs
variable {Γ : Tables}

def fanL : List (Int × Int) := [(0, 0), (0, 0), (0, 0), (1, 1), (1, 1), (2, 16), (2, 16), (2, 16), (2, 16), (2, 16), (2, 16), (3, 3), (2, 2), (1, 16), (1, 1), (0, 0)]
def fanC : List T := fanL.flatMap fun p => [tI p.1, tI p.2]
def fan (k : Int) : Int × Int := if 16 ≤ k then (0, -1) else fanL.getD k.toNat (0, 0)

/-- The table of the fanins lies where the program looks. -/
def GOk (Γ : Tables) : Prop := Γ 0 = some fanC

theorem fanin_spec (hΓ : GOk Γ) (k : Int) (h0 : 0 ≤ k) (h1 : k ≤ 255) : FreshCalls Tryd.prog Γ 82 [tK k] (.tup [tI (fan k).1, tI (fan k).2]) := by
  unfold GOk at hΓ
  refine run_freshQ logic_Fanin_chk rfl ?_
  by_cases h2 : 16 ≤ k
  · simp (disch := omega) [logic_Fanin_ic, ret, logic_Fanin_rv, flatSt, flatL, flatA, flatT, h2, wrap_i64, fan]
  · have h3 : k = 0 ∨ k = 1 ∨ k = 2 ∨ k = 3 ∨ k = 4 ∨ k = 5 ∨ k = 6 ∨ k = 7 ∨ k = 8 ∨ k = 9 ∨ k = 10 ∨ k = 11 ∨ k = 12 ∨ k = 13 ∨ k = 14 ∨ k = 15 := by omega
    rcases h3 with rfl | rfl | rfl | rfl | rfl | rfl | rfl | rfl | rfl | rfl | rfl | rfl | rfl | rfl | rfl | rfl <;>
    simp (disch := omega) [logic_Fanin_ic, ret, logic_Fanin_rv, flatSt, flatL, flatA, flatT, wrap_i64, fan, hΓ, fanC, fanL] <;> exact ⟨rfl, rfl⟩

def bitOk (c : Cir) (x : Nd) : Bool :=
  if x.k ≠ 15 then decide (x.mem = 0 ∧ x.bit = 0)
  else decide (0 ≤ x.mem ∧ x.mem < c.mems.l.length ∧ 0 ≤ x.bit ∧ x.bit < ((c.mems.l.getD x.mem.toNat Mm.d).data.l.length))

theorem bit_spec (c : Cir) (x : Nd) (hc : CirOk c) : FreshCalls Tryd.prog Γ 122 [.agg (tC c), .agg (tNd x)] (tB (bitOk c x)) := by
  refine run_freshQ netlists_bit_chk rfl ?_
  have hm := hc.mems
  by_cases h1 : x.k = 15
  · by_cases h2 : 0 ≤ x.mem
    · by_cases h3 : x.mem < c.mems.l.length
      · have h3' : x.mem.toNat < c.mems.l.length := by omega
        by_cases h4 : 0 ≤ x.bit
        · simp (disch := omega) [netlists_bit_ic, ret, netlists_bit_rv, flatSt, flatL, flatA, flatT, onesT, onesA, T.one, AV.one, tC, tNd, tNodes, tNames, tMems, tSl, h1, h2, h3, h4, h3', encN_len, encN_get Mm.d, wrap_i64, tMm_wid, tMm, enc1_len, bitOk]
        · simp (disch := omega) [netlists_bit_ic, ret, netlists_bit_rv, flatSt, flatL, flatA, flatT, onesT, onesA, T.one, AV.one, tC, tNd, tNodes, tNames, tMems, tSl, h1, h2, h3, h4, h3', encN_len, encN_get Mm.d, wrap_i64, tMm_wid, tMm, enc1_len, bitOk]
      · simp (disch := omega) [netlists_bit_ic, ret, netlists_bit_rv, flatSt, flatL, flatA, flatT, onesT, onesA, T.one, AV.one, tC, tNd, tNodes, tNames, tMems, tSl, h1, h2, h3, encN_len, encN_get Mm.d, wrap_i64, tMm_wid, tMm, enc1_len, bitOk]
    · simp (disch := omega) [netlists_bit_ic, ret, netlists_bit_rv, flatSt, flatL, flatA, flatT, onesT, onesA, T.one, AV.one, tC, tNd, tNodes, tNames, tMems, tSl, h1, h2, encN_len, encN_get Mm.d, wrap_i64, tMm_wid, tMm, enc1_len, bitOk]
  · by_cases h2 : x.mem = 0
    · simp (disch := omega) [Later, netlists_bit_ic, netlists_bit_rv, tC, tNd, tNodes, tNames, tMems, tSl, h1, h2, bitOk, -decide_eq_decide]
    · have h2' : (x.mem == 0) = false := by simpa using h2
      simp (disch := omega) [Later, netlists_bit_ic, netlists_bit_rv, tC, tNd, tNodes, tNames, tMems, tSl, h1, h2, h2', bitOk]

def memOut (l : List Int) (most : Int) : Bool := decide (l.length = 0 ∨ most < l.length)

theorem memory1_spec (l : List Int) (cap : Option Nat) (nl : Option Bool) (most : Int) (hl : l.length ≤ 1000000000) : FreshCalls Tryd.prog Γ 124 [.sl (ints l) cap nl, tI most] (tB (memOut l most)) := by
  refine run_freshQ netlists_memory_1_chk rfl ?_
  by_cases h : l.length = 0 <;> simp (disch := omega) [netlists_memory_1_ic, ret, netlists_memory_1_rv, flatSt, flatL, flatA, flatT, enc1_len, h, memOut, wrap_i64]

def notTri (c : Cir) (n : Int) : Bool := decide ((c.nodes.l.getD n.toNat Nd.d).k ≠ 12)

theorem node1_spec (c : Cir) (n : Int) (h0 : 0 ≤ n) (h1 : n < c.nodes.l.length) : FreshCalls Tryd.prog Γ 121 [tI n, .ip (tC c) 0] (tB (notTri c n)) := by
  refine run_freshQ netlists_node_1_chk rfl ?_
  have h2 : n.toNat < c.nodes.l.length := by omega
  simp (disch := omega) [netlists_node_1_ic, ret, netlists_node_1_rv, flatSt, flatL, flatA, flatT, tC, tNodes, encN_len, encN_get Nd.d, tNd_wid, h0, h1, h2, notTri, tNd]

def nodeErr (c : Cir) (x : Nd) : Int :=
  if 15 < x.k then 7 else if (x.inn.l.length : Int) < (fan x.k).1 ∨ (fan x.k).2 < x.inn.l.length then 8 else if x.inn.l.any (outP c) then 1
  else if x.k = 13 ∧ x.inn.l.any (notTri c) = true then 7 else if bitOk c x = false then 1 else 0

theorem any_out {c : Cir} {l : List Int} (h : l.any (outP c) = false) : ∀ n ∈ l, 0 ≤ n ∧ n < c.nodes.l.length := by
  intro n hn
  have := List.any_eq_false.1 h n hn
  simp only [outP, decide_eq_true_eq, not_or, Int.not_lt, Int.not_le] at this
  exact this

theorem node_spec (hΓ : GOk Γ) (c : Cir) (x : Nd) (hc : CirOk c) (hk : 0 ≤ x.k ∧ x.k ≤ 255) (hl : x.inn.l.length ≤ 1000000000) : FreshCalls Tryd.prog Γ 103 [.agg (tC c), .agg (tNd x)] (tI (nodeErr c x)) := by
  refine run_freshQ netlists_node_chk rfl ?_
  have hn := hc.nodes
  have e1 := containsOut (Γ := Γ) c hn x.inn.l x.inn.cap x.inn.nl hl
  have e2 := fanin_spec hΓ x.k hk.1 hk.2
  have e3 := outside_spec (Γ := Γ) c
  have e4 := bit_spec (Γ := Γ) c x hc
  simp (disch := omega) [netlists_node_ic, onesT, onesA, T.one, AV.one, tC, tNd, tNodes, tNames, tMems, tSl]
  refine callK_fresh e2 rfl ?_
  simp (disch := omega)
  simp
  refine ⟨fun h1 => ?_, fun h1 => ?_⟩
  · simp [Later, ret, netlists_node_rv, flatSt, flatL, flatA, flatT, nodeErr, h1]
  by_cases h2 : (x.inn.l.length : Int) < (fan x.k).1
  · simp (disch := omega) [Later, enc1_len, wrap_i64, h2, ret, netlists_node_rv, flatSt, flatL, flatA, flatT, nodeErr, h1]
  by_cases h3 : (fan x.k).2 < x.inn.l.length
  · simp (disch := omega) [Later, enc1_len, wrap_i64, h2, h3, ret, netlists_node_rv, flatSt, flatL, flatA, flatT, nodeErr, h1]
  simp (disch := omega) [Later, enc1_len, wrap_i64, h2, h3]
  refine callK_pure e3 rfl ?_
  simp (disch := omega)
  refine callK_fresh e1 rfl ?_
  simp (disch := omega) [-List.any_eq_true, -List.any_eq_false]
  refine ⟨fun h4 => ?_, fun h4 => ?_⟩
  · simp [-List.any_eq_true, -List.any_eq_false, Later, ret, netlists_node_rv, flatSt, flatL, flatA, flatT, nodeErr, h1, h2, h3, h4]
  have h4' : x.inn.l.any (outP c) = false := h4
  by_cases h5 : x.k = 13
  · have e5 := containsfunc_int (Γ := Γ) x.inn.l x.inn.cap x.inn.nl 121 [.ip (tC c) 0] (notTri c) (fun n hm => node1_spec c n (any_out h4' n hm).1 (any_out h4' n hm).2) hl
    simp (disch := omega) [Later, h5]
    refine callK_fresh e5 rfl ?_
    simp [-List.any_eq_true, -List.any_eq_false]
    refine ⟨fun h6 => ?_, fun h6 => ?_⟩
    · have h6' : x.inn.l.any (notTri c) = true := h6
      simp [-List.any_eq_true, -List.any_eq_false, Later, ret, netlists_node_rv, flatSt, flatL, flatA, flatT, nodeErr, h1, h2, h3, h4', h5, h6']
      simp [h5] at h2 h3; omega
    · have h6' : x.inn.l.any (notTri c) = false := h6
      have e : nodeErr c x = if bitOk c x = false then 1 else 0 := by
        unfold nodeErr
        rw [if_neg (by omega), if_neg (by omega), if_neg (by simp [h4']), if_neg (by simp [h6'])]
      rw [e]
      simp (disch := omega) [Later, h6']
      rw [show tNd x = [tK 13, tSl x.inn, tI x.mem, tI x.bit] from by simp [tNd, h5]] at e4
      refine callK_fresh e4 rfl ?_
      simp
      refine ⟨fun h7 => ?_, fun h7 => ?_⟩ <;> simp [Later, netlists_node_rv, h7]
  · have e : nodeErr c x = if bitOk c x = false then 1 else 0 := by
      unfold nodeErr
      rw [if_neg (by omega), if_neg (by omega), if_neg (by simp [h4']), if_neg (by simp [h5])]
    rw [e]
    simp (disch := omega) [Later, h5]
    refine callK_fresh e4 rfl ?_
    simp
    refine ⟨fun h7 => ?_, fun h7 => ?_⟩ <;> simp [Later, netlists_node_rv, h7]
end Go.Lg

/- Names. Conditions: none. -/
set_option linter.unusedSimpArgs false
set_option linter.unusedVariables false
set_option maxRecDepth 100000
namespace Go.Lg
open Go Go.Proofs
variable {Γ : Tables}

theorem n127 : (Tryd.prog.funcs[127]?).map (fun f => (f.name, f.body.isNone, f.origin)) = some ("internal/bytealg.IndexByteString", true, "") := by kernel_rfl

abbrev tR (n : Int) : T := .v (.int .i32 n)

theorem indexByteString_spec (s : ByteArray) (c : Int) : FreshCalls Tryd.prog Γ 127 [.v (.string s), tK c] (tI (Lib.indexByte s.data.toList c.toNat.toUInt8)) := by
  intro w X vs hg hx hts
  obtain ⟨x, xs, rfl, h1, h2⟩ := hts.cons_inv
  obtain ⟨y, ys, rfl, h3, h4⟩ := h2.cons_inv
  have := h4.nil_inv; subst this
  cases h1; cases h3
  refine .inr ⟨.int .i64 (Lib.indexByte s.data.toList c.toNat.toUInt8), ?_, RowKit.Below.refl _ _, .v _⟩
  have h := n127
  simp only [Option.map_eq_some_iff, Prod.mk.injEq] at h
  obtain ⟨fn, hf, hn, hb, ho⟩ := h
  have e1 : Extern.findNext fn = none := by
    simp only [Extern.findNext, hn, ho]
    have a : Extern.allNextRows.lookup "internal/bytealg.IndexByteString" = none := by kernel_rfl
    have b : Extern.allNextRows.lookup "" = none := by kernel_rfl
    rw [a, b]; rfl
  have e2 : Extern.find fn = some Extern.BytealgIndexByte.indexByte := by
    simp only [Extern.find, hn, ho]
    have a : Extern.allGenericRows.lookup "internal/bytealg.IndexByteString" = none := by kernel_rfl
    have b : Extern.allTypedRows.lookup "internal/bytealg.IndexByteString" = none := by kernel_rfl
    have c : Extern.allRows.lookup "internal/bytealg.IndexByteString" = some Extern.BytealgIndexByte.indexByte := by kernel_rfl
    rw [a, b, c]; rfl
  have hnn : ¬ fn.name = "runtime.NumGoroutine" := by rw [hn]; decide
  have hr := Lib.run_indexByteString (P := Tryd.prog) s c w
  have hb' : fn.body = none := by simpa using hb
  simp [callFunc, hf, hnn, hb', e1, e2, hr]

theorem lite_spec (s : ByteArray) (c : Int) : FreshCalls Tryd.prog Γ 112 [.v (.string s), tK c] (tI (Lib.indexByte s.data.toList c.toNat.toUInt8)) := by
  refine run_freshQ i_stringslite_IndexByte_chk rfl ?_
  simp [i_stringslite_IndexByte_ic]
  refine callK_fresh (indexByteString_spec s c) rfl ?_
  simp [i_stringslite_IndexByte_rv]

theorem indexByte_spec (s : ByteArray) (c : Int) : FreshCalls Tryd.prog Γ 91 [.v (.string s), tK c] (tI (Lib.indexByte s.data.toList c.toNat.toUInt8)) := by
  refine run_freshQ strings_IndexByte_chk rfl ?_
  simp [strings_IndexByte_ic]
  refine callK_fresh (lite_spec s c) rfl ?_
  simp [strings_IndexByte_rv]

theorem indexRune_spec (s : ByteArray) (c : Int) (h0 : 0 ≤ c) (h1 : c < 128) : FreshCalls Tryd.prog Γ 143 [.v (.string s), tR c] (tI (Lib.indexByte s.data.toList c.toNat.toUInt8)) := by
  refine run_freshQ strings_IndexRune_chk rfl ?_
  simp (disch := omega) [strings_IndexRune_ic, h0, h1, wrap_u8]
  refine callK_fresh (indexByte_spec s c) rfl ?_
  simp [strings_IndexRune_rv]

theorem containsRune_spec (s : ByteArray) (c : Int) (h0 : 0 ≤ c) (h1 : c < 128) : FreshCalls Tryd.prog Γ 135 [.v (.string s), tR c] (tB (decide (0 ≤ Lib.indexByte s.data.toList c.toNat.toUInt8))) := by
  refine run_freshQ strings_ContainsRune_chk rfl ?_
  simp (disch := omega) [strings_ContainsRune_ic]
  refine callK_fresh (indexRune_spec s c h0 h1) rfl ?_
  simp [strings_ContainsRune_rv]

def badR (c : Int) : Bool := decide (c ≤ 32 ∨ 126 < c ∨ 0 ≤ Lib.indexByte [40, 41, 61, 44, 35] c.toNat.toUInt8)

theorem badR_spec (c : Int) : FreshCalls Tryd.prog Γ 134 [tR c] (tB (badR c)) := by
  refine run_freshQ netlists_IsName_1_chk rfl ?_
  by_cases h1 : c ≤ 32
  · simp [netlists_IsName_1_ic, netlists_IsName_1_rv, h1, badR]
  by_cases h2 : 126 < c
  · simp [netlists_IsName_1_ic, netlists_IsName_1_rv, h1, h2, badR]
  simp [netlists_IsName_1_ic, h1, h2]
  refine callK_fresh (containsRune_spec ⟨#[40, 41, 61, 44, 35]⟩ c (by omega) (by omega)) rfl ?_
  simp [netlists_IsName_1_rv, badR, h1, h2]

theorem decode_asc (s : List UInt8) (i : Nat) (hi : i < s.length) (ha : s[i] < 128) : Utf8.decode ⟨s.toArray⟩ i = ((s[i]).toNat, 1) := by
  have e : (ByteArray.mk s.toArray).get! (i + 0) = s[i] := by
    simp [ByteArray.get!, hi]
  have h2 : (s[i]).toNat < 128 := by simpa [UInt8.lt_iff_toNat_lt] using ha
  unfold Utf8.decode
  simp only [e, h2, ↓reduceIte]

def badS (s : List UInt8) : Bool := s.any fun b => badR b.toNat

theorem indexFunc_loop {Q : AX → St → Prop} (s : List UInt8) (ha : ∀ b ∈ s, b < 128)
    (h0 : badS s = false → Q (.exit 0) ⟨[(1, .t (.fn 134 [])), (2, .t (tB true)), (10, .li 10), (11, .t (.tup [tB false])), (12, .t (tB false))], [(10, .it ⟨s.toArray⟩ s.length)]⟩)
    (h1 : badS s = true → ∀ i : Nat, Q .ret ⟨[(6, .t (tI i))], []⟩) : ∀ (k i : Nat), k + i = s.length → (∀ j, j < i → ∀ b, s[j]? = some b → badR b.toNat = false) →
    run Tryd.prog Γ strings_indexFunc_l1 Q ⟨[(1, .t (.fn 134 [])), (2, .t (tB true)), (10, .li 10)], [(10, .it ⟨s.toArray⟩ i)]⟩
  | 0, i, h, hq => by
    refine strings_indexFunc_l1_run fun K hK => ?_
    have h2 : ¬ i < s.length := by omega
    have h3 : i = s.length := by omega
    have h4 : ¬ i < (ByteArray.mk s.toArray).size := by simpa [ByteArray.size] using h2
    simp [h2]
    subst h3
    refine h0 (List.any_eq_false.2 fun b hb => ?_)
    obtain ⟨j, hj, rfl⟩ := List.getElem_of_mem hb
    simp [hq j hj _ (List.getElem?_eq_getElem hj)]
  | k + 1, i, h, hq => by
    refine strings_indexFunc_l1_run fun K hK => ?_
    have h2 : i < s.length := by omega
    have h4 : i < (ByteArray.mk s.toArray).size := by simpa [ByteArray.size] using h2
    simp [h2, decode_asc s i h2 (ha _ (List.getElem_mem h2))]
    refine callK_fresh (badR_spec s[i].toNat) rfl ?_
    simp
    refine ⟨fun hc => ?_, fun hc => ?_⟩
    · simp [Later]
      exact h1 (List.any_eq_true.2 ⟨_, List.getElem_mem h2, hc⟩) i
    · simp [Later]
      rw [hK]
      exact indexFunc_loop s ha h0 h1 k (i + 1) (by omega) (fun j hj b hb => by
        rcases Nat.lt_succ_iff_lt_or_eq.1 hj with hj | rfl
        · exact hq j hj b hb
        · rw [List.getElem?_eq_getElem h2] at hb; simp at hb; subst hb; exact hc)

theorem indexFunc_ex (s : List UInt8) (ha : ∀ b ∈ s, b < 128) : ∃ n : Int, FreshCalls Tryd.prog Γ 150 [tS s, .fn 134 [], tB true] (tI n) ∧ (0 ≤ n ↔ badS s = true) := by
  have : ∃ r, FreshCalls Tryd.prog Γ 150 [tS s, .fn 134 [], tB true] r ∧ ∃ n, r = tI n ∧ (0 ≤ n ↔ badS s = true) := by
    refine run_fresh strings_indexFunc_chk rfl ?_
    simp [strings_indexFunc_ic, tS, sV]
    refine indexFunc_loop s ha (fun h => ?_) (fun h i => ?_) s.length 0 (by omega) (by simp)
    · simp [strings_indexFunc_rv, h]
    · simp [strings_indexFunc_rv, h]
  obtain ⟨_, h1, n, rfl, h2⟩ := this
  exact ⟨n, h1, h2⟩

theorem strIndexFunc_ex (s : List UInt8) (ha : ∀ b ∈ s, b < 128) : ∃ n : Int, FreshCalls Tryd.prog Γ 144 [tS s, .fn 134 []] (tI n) ∧ (0 ≤ n ↔ badS s = true) := by
  obtain ⟨n, h1, h2⟩ := indexFunc_ex (Γ := Γ) s ha
  refine ⟨n, run_freshQ strings_IndexFunc_chk rfl ?_, h2⟩
  simp [strings_IndexFunc_ic]
  refine callK_fresh h1 rfl ?_
  simp [strings_IndexFunc_rv]

theorem strContainsFunc_spec (s : List UInt8) (ha : ∀ b ∈ s, b < 128) : FreshCalls Tryd.prog Γ 136 [tS s, .fn 134 []] (tB (badS s)) := by
  obtain ⟨n, h1, h2⟩ := strIndexFunc_ex (Γ := Γ) s ha
  refine run_freshQ strings_ContainsFunc_chk rfl ?_
  simp [strings_ContainsFunc_ic]
  refine callK_fresh h1 rfl ?_
  simp [strings_ContainsFunc_rv, h2]

def isName (s : List UInt8) : Bool := decide (s ≠ [] ∧ s.length ≤ 32) && !badS s

theorem isName_spec (s : List UInt8) (ha : ∀ b ∈ s, b < 128) : FreshCalls Tryd.prog Γ 123 [tS s] (tB (isName s)) := by
  refine run_freshQ netlists_IsName_chk rfl ?_
  have h := strContainsFunc_spec (Γ := Γ) s ha
  by_cases h1 : s = []
  · simp [netlists_IsName_ic, netlists_IsName_rv, tS, sV, h1, isName]
  have h1' : s.isEmpty = false := by simpa using h1
  by_cases h2 : s.length ≤ 32
  · have h2' : (s.length : Int) ≤ 32 := by omega
    simp [netlists_IsName_ic, tS, sV, h1, h1', h2']
    refine callK_fresh h rfl ?_
    simp [netlists_IsName_rv, isName, h1, h2]
  · have h2' : ¬ (s.length : Int) ≤ 32 := by omega
    simp [netlists_IsName_ic, netlists_IsName_rv, tS, sV, h1, h1', h2', h2, isName]
end Go.Lg

/- The shape of a circuit. Conditions: none. -/
set_option linter.unusedSimpArgs false
set_option linter.unusedVariables false
set_option maxRecDepth 100000
namespace Go.Lg
open Go Go.Proofs
variable {Γ : Tables}

def memErr (c : Cir) (m : Mm) : Int :=
  if memOut m.addr.l 8 = true ∨ memOut m.data.l 32 = true then 8 else if m.addr.l.any (outP c) = true ∨ m.data.l.any (outP c) = true ∨ outP c m.write = true then 1 else 0

theorem memory_spec (c : Cir) (m : Mm) (hc : CirOk c) (hm : m.addr.l.length ≤ 1000000000 ∧ m.data.l.length ≤ 1000000000) : FreshCalls Tryd.prog Γ 105 [.agg (tC c), .agg (tMm m)] (tI (memErr c m)) := by
  refine run_freshQ netlists_memory_chk rfl ?_
  have hn := hc.nodes
  have e1 := containsOut (Γ := Γ) c hn m.addr.l m.addr.cap m.addr.nl hm.1
  have e2 := containsOut (Γ := Γ) c hn m.data.l m.data.cap m.data.nl hm.2
  have e3 := outside_spec (Γ := Γ) c
  have e4 := memory1_spec (Γ := Γ) m.addr.l m.addr.cap m.addr.nl 8 hm.1
  have e5 := memory1_spec (Γ := Γ) m.data.l m.data.cap m.data.nl 32 hm.2
  have e6 := outside1_spec (Γ := Γ) c m.write hn
  simp [netlists_memory_ic, tC, tMm, tNodes, tNames, tMems, tSl]
  refine callK_pure e3 rfl ?_
  simp
  refine callK_fresh e4 rfl ?_
  have fin2 : ∀ b : Bool, b = decide (m.addr.l.any (outP c) = true ∨ m.data.l.any (outP c) = true ∨ outP c m.write = true) → (memOut m.addr.l 8 = false) → (memOut m.data.l 32 = false) → memErr c m = if b then 1 else 0 := by
    intro b hb h1 h2
    subst hb
    unfold memErr
    rw [if_neg (by simp [h1, h2])]
    simp
  by_cases h1 : memOut m.addr.l 8 = true
  · simp [h1, netlists_memory_rv, memErr]
  have h1' : memOut m.addr.l 8 = false := by simpa using h1
  simp [h1']
  refine callK_fresh e5 rfl ?_
  by_cases h2 : memOut m.data.l 32 = true
  · simp [h2, netlists_memory_rv, memErr]
  have h2' : memOut m.data.l 32 = false := by simpa using h2
  simp [h2']
  refine callK_fresh e1 rfl ?_
  generalize m.addr.l.any (outP c) = b1 at e1 fin2
  generalize m.data.l.any (outP c) = b2 at e2 fin2
  generalize outP c m.write = b3 at e6 fin2
  cases b1 with
  | true => simp [netlists_memory_rv, fin2 true (by simp) h1' h2']
  | false =>
    simp
    refine callK_fresh e2 rfl ?_
    cases b2 with
    | true => simp [netlists_memory_rv, fin2 true (by simp) h1' h2']
    | false =>
      simp
      refine callK_clos e6 ?_
      cases b3 with
      | true => simp [netlists_memory_rv, fin2 true (by simp) h1' h2']
      | false => simp [netlists_memory_rv, fin2 false (by simp) h1' h2']

/-- The names seen so far, as the map that the program keeps. -/
def seenM (l : List (List UInt8)) : List (Value × T) := l.map fun s => (sV s, tB true)
theorem sV_eq (a b : List UInt8) : keyEq (sV a) (sV b) = decide (a = b) := by
  simp only [keyEq, sV]
  by_cases h : a = b
  · subst h; simp [ba_beq]
  · have : ¬ (ByteArray.mk a.toArray) = ⟨b.toArray⟩ := fun e => h (by simpa using e)
    have h2 : ((ByteArray.mk a.toArray) == ⟨b.toArray⟩) = false := by
      cases hq : ((ByteArray.mk a.toArray) == ⟨b.toArray⟩)
      · rfl
      · exact absurd ((ba_beq _ _).1 hq) this
    rw [h2]; simp [h]
theorem seenM_find (x : List UInt8) : ∀ l : List (List UInt8), findM (sV x) (seenM l) = if x ∈ l then some (tB true) else none
  | [] => rfl
  | y :: l => by
    have ih := seenM_find x l
    simp only [seenM, List.map_cons, findM, sV_eq] at ih ⊢
    by_cases h : x = y
    · simp [h]
    · simp [h, ih]
theorem seenM_set (x : List UInt8) : ∀ l : List (List UInt8), x ∉ l → setM (sV x) (tB true) (seenM l) = seenM (l ++ [x])
  | [], _ => rfl
  | y :: l, h => by
    have ih := seenM_set x l (fun hm => h (List.mem_cons_of_mem _ hm))
    have hne : x ≠ y := fun e => h (by simp [e])
    simp only [seenM, List.map_cons, setM, sV_eq, List.cons_append] at ih ⊢
    simp [hne, ih]
theorem seenM_fit (l : List (List UInt8)) : keysFit .str (seenM l) := by
  intro e he; obtain ⟨s, _, rfl⟩ := List.mem_map.1 he; rfl

def namesErr : List (List UInt8) → List (List UInt8) → Int
  | _, [] => 0
  | done, s :: l => if isName s = false ∨ s ∈ done then 5 else namesErr (done ++ [s]) l

theorem names_loop {Q : AX → St → Prop} (n : Sl (List UInt8)) (hl : n.l.length ≤ 1000000000) (ha : ∀ s ∈ n.l, ∀ b ∈ s, b < 128) (R : Int)
    (h0 : R = 0 → ∀ m : List (Value × T), Q (.exit 0) ⟨[(3, .lm 6), (8, .t (tNames n)), (9, .t (tI n.l.length)), (10, .t (tI n.l.length)), (11, .t (tB false))], [(6, .mp m)]⟩)
    (h5 : R = 5 → Q .ret ⟨[(2, .t (tI 5))], []⟩) : ∀ (k i : Nat), k + i = n.l.length → namesErr (n.l.take i) (n.l.drop i) = R →
    run Tryd.prog Γ netlists_names_l1 Q ⟨[(3, .lm 6), (8, .t (tNames n)), (9, .t (tI n.l.length)), (10, .t (tI i))], [(6, .mp (seenM (n.l.take i)))]⟩
  | 0, i, h, hR => by
    refine netlists_names_l1_run fun K hK => ?_
    have h2 : ¬ i < n.l.length := by omega
    have h3 : i = n.l.length := by omega
    simp [h2, tNames]
    subst h3
    refine h0 ?_ _
    rw [← hR]; simp [namesErr]
  | k + 1, i, h, hR => by
    refine netlists_names_l1_run fun K hK => ?_
    have h2 : i < n.l.length := by omega
    simp (disch := omega) [h2, tNames, enc1_len, enc1_get ([] : List UInt8), enc1_wid]
    refine callK_fresh (isName_spec n.l[i] (ha _ (List.getElem_mem h2))) rfl ?_
    have hd : n.l.drop i = n.l[i] :: n.l.drop (i + 1) := List.drop_eq_getElem_cons h2
    rw [hd] at hR
    simp only [namesErr] at hR
    have ht : n.l.take i ++ [n.l[i]] = n.l.take (i + 1) := by rw [List.take_add_one]; simp [h2]
    by_cases hq : isName n.l[i] = true
    · have hfit := seenM_fit (n.l.take i)
      simp [hq, tS, KT.fits, sV, hfit]
      rw [show (Value.string ⟨(n.l[i]).toArray⟩) = sV n.l[i] from rfl, seenM_find]
      by_cases hm : n.l[i] ∈ n.l.take i
      · simp [hm]
        refine h5 ?_
        rw [← hR, if_pos (.inr hm)]
      · rw [if_neg (by simp [hq, hm]), ht] at hR
        simp (disch := omega) [hm, sV, KT.fits, hfit, wrap_i64]
        rw [hK]
        have := names_loop n hl ha R h0 h5 k (i + 1) (by omega) hR
        rw [show (Value.string ⟨(n.l[i]).toArray⟩) = sV n.l[i] from rfl, seenM_set _ _ hm, ht]
        exact_mod_cast this
    · have hq' : isName n.l[i] = false := by simpa using hq
      simp [hq']
      refine h5 ?_
      rw [← hR, if_pos (.inl hq')]

theorem namesErr_val : ∀ (l done : List (List UInt8)), namesErr done l = 0 ∨ namesErr done l = 5
  | [], _ => .inl rfl
  | s :: l, done => by
    simp only [namesErr]
    split
    · exact .inr rfl
    · exact namesErr_val l _

theorem names_spec (c : Cir) (hc : CirOk c) (ha : ∀ s ∈ c.names.l, ∀ b ∈ s, b < 128) : FreshCalls Tryd.prog Γ 104 [.agg (tC c)] (tI (namesErr [] c.names.l)) := by
  refine run_freshQ netlists_names_chk rfl ?_
  simp [netlists_names_ic, tC, tNodes, tNames, tMems, tSl, enc1_len]
  refine names_loop c.names hc.names ha (namesErr [] c.names.l) (fun h m => ?_) (fun h => ?_) c.names.l.length 0 (by omega) (by simp)
  · simp [netlists_names_rv, h]
  · simp [netlists_names_rv, h]
end Go.Lg

/- The shape of a circuit, continued; nodes of given kinds. Conditions: none. -/
set_option linter.unusedSimpArgs false
set_option linter.unusedVariables false
set_option maxRecDepth 100000
namespace Go.Lg
open Go Go.Proofs
variable {Γ : Tables}

def firstErr : List Int → Int
  | [] => 0
  | e :: l => if e ≠ 0 then e else firstErr l

theorem firstErr_drop {α : Type} (f : α → Int) (l : List α) (i : Nat) (h : i < l.length) : firstErr ((l.drop i).map f) = if f l[i] ≠ 0 then f l[i] else firstErr ((l.drop (i + 1)).map f) := by
  rw [List.drop_eq_getElem_cons h]; rfl

theorem shape_nodes {Q : AX → St → Prop} (hΓ : GOk Γ) (c : Cir) (hc : CirOk c) (R : Int)
    (h0 : R = 0 → Q (.exit 1) ⟨[(1, .t (.ip (tC c) 0)), (36, .t (tNodes c.nodes)), (37, .t (tI c.nodes.l.length)), (38, .t (tI c.nodes.l.length)), (39, .t (tB false))], []⟩)
    (h5 : R ≠ 0 → Q .ret ⟨[(2, .t (tI R))], []⟩) : ∀ (k i : Nat), k + i = c.nodes.l.length → firstErr ((c.nodes.l.drop i).map (nodeErr c)) = R →
    run Tryd.prog Γ netlists_shape_l1 Q ⟨[(1, .t (.ip (tC c) 0)), (36, .t (tNodes c.nodes)), (37, .t (tI c.nodes.l.length)), (38, .t (tI i))], []⟩
  | 0, i, h, hR => by
    refine netlists_shape_l1_run fun K hK => ?_
    have h2 : ¬ i < c.nodes.l.length := by omega
    have h3 : i = c.nodes.l.length := by omega
    simp [h2]
    subst h3
    exact h0 (by rw [← hR]; simp [firstErr])
  | k + 1, i, h, hR => by
    refine netlists_shape_l1_run fun K hK => ?_
    have h2 : i < c.nodes.l.length := by omega
    have hn := hc.nodes
    have hx := List.getElem_mem h2
    rw [firstErr_drop (nodeErr c) _ _ h2] at hR
    have e := node_spec (Γ := Γ) hΓ c c.nodes.l[i] hc (hc.kind _ hx) (hc.inn _ hx)
    simp (disch := omega) [h2, tNodes, encN_len, encN_get Nd.d, tNd_wid, tNd, tC, tSl]
    refine callK_fresh e rfl ?_
    by_cases hq : nodeErr c c.nodes.l[i] = 0
    · rw [if_neg (by simp [hq])] at hR
      simp (disch := omega) [hq, wrap_i64]
      rw [hK]
      have := shape_nodes hΓ c hc R h0 h5 k (i + 1) (by omega) hR
      simpa [tC, tNodes, tSl] using this
    · rw [if_pos (by simpa using hq)] at hR
      simp [hq]
      rw [hR]
      exact h5 (by rw [← hR]; exact hq)

theorem shape_mems {Q : AX → St → Prop} (c : Cir) (hc : CirOk c) (R : Int)
    (h0 : R = 0 → Q (.exit 3) ⟨[(1, .t (.ip (tC c) 0)), (55, .t (tMems c.mems)), (56, .t (tI c.mems.l.length)), (57, .t (tI c.mems.l.length)), (58, .t (tB false))], []⟩)
    (h5 : R ≠ 0 → Q .ret ⟨[(2, .t (tI R))], []⟩) : ∀ (k i : Nat), k + i = c.mems.l.length → firstErr ((c.mems.l.drop i).map (memErr c)) = R →
    run Tryd.prog Γ netlists_shape_l3 Q ⟨[(1, .t (.ip (tC c) 0)), (55, .t (tMems c.mems)), (56, .t (tI c.mems.l.length)), (57, .t (tI i))], []⟩
  | 0, i, h, hR => by
    refine netlists_shape_l3_run fun K hK => ?_
    have h2 : ¬ i < c.mems.l.length := by omega
    have h3 : i = c.mems.l.length := by omega
    simp [h2]
    subst h3
    exact h0 (by rw [← hR]; simp [firstErr])
  | k + 1, i, h, hR => by
    refine netlists_shape_l3_run fun K hK => ?_
    have h2 : i < c.mems.l.length := by omega
    have hn := hc.mems
    have hx := List.getElem_mem h2
    rw [firstErr_drop (memErr c) _ _ h2] at hR
    have e := memory_spec (Γ := Γ) c c.mems.l[i] hc (hc.addr _ hx)
    simp (disch := omega) [h2, tMems, encN_len, encN_get Mm.d, tMm_wid, tMm, tC, tSl]
    refine callK_fresh e rfl ?_
    by_cases hq : memErr c c.mems.l[i] = 0
    · rw [if_neg (by simp [hq])] at hR
      simp (disch := omega) [hq, wrap_i64]
      rw [hK]
      have := shape_mems c hc R h0 h5 k (i + 1) (by omega) hR
      simpa [tC, tMems, tSl] using this
    · rw [if_pos (by simpa using hq)] at hR
      simp [hq]
      rw [hR]
      exact h5 (by rw [← hR]; exact hq)

def shapeErr (c : Cir) : Int :=
  if 16384 < c.nodes.l.length ∨ 16 < c.mems.l.length ∨ 16384 < c.outs.l.length then 3 else if c.names.l.length ≠ c.nodes.l.length then 8
  else if firstErr (c.nodes.l.map (nodeErr c)) ≠ 0 then firstErr (c.nodes.l.map (nodeErr c))
  else if namesErr [] c.names.l ≠ 0 then namesErr [] c.names.l
  else if firstErr (c.mems.l.map (memErr c)) ≠ 0 then firstErr (c.mems.l.map (memErr c))
  else if c.outs.l.any (outP c) = true then 1 else 0

theorem shape_spec (hΓ : GOk Γ) (c : Cir) (hc : CirOk c) (ha : ∀ s ∈ c.names.l, ∀ b ∈ s, b < 128) : FreshCalls Tryd.prog Γ 76 [.agg (tC c)] (tI (shapeErr c)) := by
  refine run_freshQ netlists_shape_chk rfl ?_
  have hn := hc.nodes
  have hm := hc.mems
  have ho := hc.outs
  have hnn := hc.names
  have en := names_spec (Γ := Γ) c hc ha
  have eo := outside_spec (Γ := Γ) c
  have ec := containsOut (Γ := Γ) c hn c.outs.l c.outs.cap c.outs.nl ho
  by_cases h1 : 16384 < c.nodes.l.length ∨ 16 < c.mems.l.length ∨ 16384 < c.outs.l.length
  · have : shapeErr c = 3 := by unfold shapeErr; rw [if_pos h1]
    rw [this]
    by_cases g1 : (16384 : Int) < c.nodes.l.length
    · simp [netlists_shape_ic, netlists_shape_rv, tC, tNodes, tNames, tMems, tSl, encN_len, enc1_len, g1]
    by_cases g2 : (16 : Int) < c.mems.l.length
    · simp [netlists_shape_ic, netlists_shape_rv, tC, tNodes, tNames, tMems, tSl, encN_len, enc1_len, g1, g2]
    have g3 : (16384 : Int) < c.outs.l.length := by omega
    simp [netlists_shape_ic, netlists_shape_rv, tC, tNodes, tNames, tMems, tSl, encN_len, enc1_len, g1, g2, g3]
  have g1 : ¬ (16384 : Int) < c.nodes.l.length := by omega
  have g2 : ¬ (16 : Int) < c.mems.l.length := by omega
  have g3 : ¬ (16384 : Int) < c.outs.l.length := by omega
  by_cases h2 : c.names.l.length = c.nodes.l.length
  case neg =>
    have : shapeErr c = 8 := by unfold shapeErr; rw [if_neg h1, if_pos h2]
    have h2' : ¬ (c.names.l.length : Int) = c.nodes.l.length := by omega
    rw [this]
    simp [netlists_shape_ic, netlists_shape_rv, tC, tNodes, tNames, tMems, tSl, encN_len, enc1_len, g1, g2, g3, h2']
  simp [netlists_shape_ic, tC, tNodes, tNames, tMems, tSl, encN_len, enc1_len, g1, g2, g3, h2]
  have e0 : shapeErr c = if firstErr (c.nodes.l.map (nodeErr c)) ≠ 0 then firstErr (c.nodes.l.map (nodeErr c))
      else if namesErr [] c.names.l ≠ 0 then namesErr [] c.names.l
      else if firstErr (c.mems.l.map (memErr c)) ≠ 0 then firstErr (c.mems.l.map (memErr c))
      else if c.outs.l.any (outP c) = true then 1 else 0 := by
    unfold shapeErr; rw [if_neg h1, if_neg (by simp [h2])]
  refine shape_nodes hΓ c hc (firstErr (c.nodes.l.map (nodeErr c))) (fun h3 => ?_) (fun h3 => ?_) c.nodes.l.length 0 (by omega) (by simp)
  case refine_2 =>
    rw [if_pos h3] at e0
    simp [netlists_shape_rv, e0]
  rw [if_neg (by rw [h3]; decide)] at e0
  simp [tC, tNodes, tNames, tMems, tSl]
  refine callK_fresh en rfl ?_
  by_cases h4 : namesErr [] c.names.l = 0
  case neg =>
    rw [if_pos h4] at e0
    simp [h4, netlists_shape_rv, e0]
  rw [if_neg (by rw [h4]; decide)] at e0
  simp [h4, encN_len]
  refine shape_mems c hc (firstErr (c.mems.l.map (memErr c))) (fun h5 => ?_) (fun h5 => ?_) c.mems.l.length 0 (by omega) (by simp)
  case refine_2 =>
    rw [if_pos h5] at e0
    simp [netlists_shape_rv, e0]
  rw [if_neg (by rw [h5]; decide)] at e0
  simp [tC, tNodes, tNames, tMems, tSl]
  refine callK_pure eo rfl ?_
  simp
  refine callK_fresh ec rfl ?_
  generalize c.outs.l.any (outP c) = b at e0
  cases b <;> simp [netlists_shape_rv, e0]

def ofL (ks : List Int) : List Nd → Nat → List Int
  | [], _ => []
  | x :: l, i => if ks.contains x.k then (i : Int) :: ofL ks l (i + 1) else ofL ks l (i + 1)
theorem ofL_app (ks : List Int) : ∀ (a b : List Nd) (i : Nat), ofL ks (a ++ b) i = ofL ks a i ++ ofL ks b (i + a.length)
  | [], b, i => by simp [ofL]
  | x :: a, b, i => by
    have := ofL_app ks a b (i + 1)
    simp only [List.cons_append, ofL, this, List.length_cons]
    split <;> simp [Nat.add_assoc, Nat.add_comm 1]
theorem ofL_len (ks : List Int) : ∀ (a : List Nd) (i : Nat), (ofL ks a i).length ≤ a.length
  | [], _ => by simp [ofL]
  | x :: a, i => by
    have := ofL_len ks a (i + 1)
    simp only [ofL]
    split <;> simp <;> omega

theorem of_loop {Q : AX → St → Prop} (n : Sl Nd) (hl : n.l.length ≤ 1000000000) (ks : List Int) (kc : Option Nat) (kn : Option Bool) (hk : ks.length ≤ 1000000000)
    (h0 : Q (.exit 0) ⟨[(1, .t (.sl (enc1 tK ks) kc kn)), (5, .ls 23 0 (ofL ks n.l 0).length none), (9, .t (tNodes n)), (10, .t (tI n.l.length)), (11, .t (tI n.l.length)), (12, .t (tB false))], [(23, .sl 3 1 (ints (ofL ks n.l 0)))]⟩) : ∀ (k i : Nat), k + i = n.l.length →
    run Tryd.prog Γ netlists_Of_l1 Q ⟨[(1, .t (.sl (enc1 tK ks) kc kn)), (5, .ls 23 0 (ofL ks (n.l.take i) 0).length none), (9, .t (tNodes n)), (10, .t (tI n.l.length)), (11, .t (tI i))], [(23, .sl 3 1 (ints (ofL ks (n.l.take i) 0)))]⟩
  | 0, i, h => by
    refine netlists_Of_l1_run fun K hK => ?_
    have h2 : ¬ i < n.l.length := by omega
    have h3 : i = n.l.length := by omega
    simp [h2]
    subst h3
    simpa using h0
  | k + 1, i, h => by
    refine netlists_Of_l1_run fun K hK => ?_
    have h2 : i < n.l.length := by omega
    have ht : n.l.take (i + 1) = n.l.take i ++ [n.l[i]] := by rw [List.take_add_one]; simp [h2]
    have hlen := ofL_len ks (n.l.take i) 0
    have htl : (n.l.take i).length = i := by simp; omega
    have hal : ofL ks (n.l.take (i + 1)) 0 = if ks.contains n.l[i].k then ofL ks (n.l.take i) 0 ++ [(i : Int)] else ofL ks (n.l.take i) 0 := by
      rw [ht, ofL_app, htl]
      simp only [ofL, Nat.zero_add]
      split <;> simp
    have e := contains_kind (Γ := Γ) ks kc kn n.l[i].k hk
    simp (disch := omega) [h2, tNodes, encN_len, encN_get Nd.d, tNd_wid, tNd, tSl]
    refine callK_fresh e rfl ?_
    generalize ks.contains n.l[i].k = b at hal
    have ih := of_loop n hl ks kc kn hk h0 k (i + 1) (by omega)
    rw [hal] at ih
    cases b with
    | false =>
      simp (disch := omega) [wrap_i64]
      rw [hK]
      simpa [tNodes] using ih
    | true =>
      have hw : wid 1 [[tI (i : Int)]] := by intro e he; simp at he; subst he; rfl
      simp (disch := omega) [wrap_i64, enc1_len, enc1_wid, hw]
      rw [hK]
      simp [tNodes] at ih
      rw [enc1_snoc (f := tI) (x := (i : Int))]
      exact ⟨by omega, ih⟩

theorem of_spec (c : Cir) (hc : CirOk c) (ks : List Int) (kc : Option Nat) (kn : Option Bool) (hk : ks.length ≤ 1000000000) :
    FreshCalls Tryd.prog Γ 15 [.agg (tC c), .sl (enc1 tK ks) kc kn] (.sl (ints (ofL ks c.nodes.l 0)) (some (ofL ks c.nodes.l 0).length) none) := by
  refine run_freshQ netlists_Of_chk rfl ?_
  simp [netlists_Of_ic, tC, tNodes, tNames, tMems, tSl, encN_len]
  refine of_loop c.nodes hc.nodes ks kc kn hk ?_ c.nodes.l.length 0 (by omega)
  simp
  refine ⟨_, _, clip_int_h 3 (ints (ofL ks c.nodes.l 0)) (ofL ks c.nodes.l 0).length none enc1_wid, ?_⟩
  simp [netlists_Of_rv]
end Go.Lg
