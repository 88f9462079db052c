/- cnfs: propagate: its two outer loops, and its contract. Conditions: none. -/
import Derived.Test.YtnhlpeiadcojmaaDoorPkF
import Derived.Test.YtnhlpeiadcojmaaDoorPkE
import Derived.Test.YtnhlpeiadcojmaaDoorPkD
import Derived.KernelRfl
import Derived.Shelf.Strconv.Itoa3
import Derived.Test.YtnhlpeiadcojmaaDoorProg
import Derived.Lib.LaidTab
import Derived.Shelf.Strings.BuilderX
import Derived.Shelf.RegionOpenPlain
import Derived.Lib.Strings
import Derived.Lib.Slices
import Derived.Lib.Walk
import Derived.Lib.Builder
import Derived.Lib.AppendStr
import Derived.Lib.UnsafeStr
import Derived.Lib.MakeNoZero
import Derived.WalkKit
import Derived.Laws.Externs
import Derived.Laws.IdiomCopy
import Derived.Laws.BitsLemmas
set_option linter.unusedSimpArgs false
set_option linter.unusedVariables false
set_option maxRecDepth 100000
namespace Go.Lg
open Go Go.Proofs
variable {Γ : Tables}
structure q7N (f : Cf) (n : Nat) : Prop where
 vn : f.vars = n
 nb : n ≤ 1000000
 cl : q1p n f.L
 ll : f.cls.l.length ≤ 1000000
 le : ∀ c ∈ f.cls.l, c.l.length ≤ 1000000
theorem q89 {Q : AX → St → Prop} (f : Cf) (n : Nat) (hf : q7N f n) (lim u : Int) (sp : Bool) (a0 : List Int) (ha0 : a0.length = n) (R : Bool × List Int × List Int × Bool)
  (h0 : R.1 = true → Q (.exit 2) ⟨[(0, .lp 1000000 0 0), (2, .ls 61 0 R.2.2.1.length none), (4, .t (.fn 21 [])), (5, .t (tB R.2.2.2)), (18, .t (B6 f.cls)), (19, .t (tI f.cls.l.length)), (20, .t (tI f.cls.l.length)), (21, .t (tB false))], hP f lim u sp R.2.1 R.2.2.1⟩)
  (h1 : R.1 = false → Q .ret ⟨[(2, .t (.sl (D9 R.2.2.1) none none)), (3, .t (tB false))], hS f lim u sp R.2.1⟩) :
  ∀ (k i : Nat), k + i = f.cls.l.length → ∀ (a tr : List Int) (ag : Bool), P2 n a0 a tr → Gi a tr ag (f.L.drop i) = R →
  run Tryd.prog Γ Dk Q ⟨[(0, .lp 1000000 0 0), (2, .ls 61 0 tr.length none), (4, .t (.fn 21 [])), (5, .t (tB ag)), (18, .t (B6 f.cls)), (19, .t (tI f.cls.l.length)), (20, .t (tI i))], hP f lim u sp a tr⟩
 | 0, i, h, a, tr, ag, hp, hR => by
  refine Hg fun K hK => ?_
  have h2 : i = f.cls.l.length := by omega
  subst h2
  rw [List.drop_eq_nil_of_le (by simp [Cf.L])] at hR
  simp only [Gi] at hR
  subst hR
  have h0 := h0 rfl
  simp [B6, hP, hS] at h0 ⊢
  simpa using h0
 | k + 1, i, h, a, tr, ag, hp, hR => by
  refine Hg fun K hK => ?_
  have h2 : i < f.cls.l.length := by omega
  have hnb := hf.nb
  have hll := hf.ll
  have e1 := elC (f := C5) Sl.d h2
  have e1' := Vv (f := C5) Sl.d h2
  have w1 : IntKind.i64.wrap ((i : Int) + 1) = (i : Int) + 1 := by rw [A7] <;> omega
  have hmem := Dy (d := Sl.d) h2
  have hce := hf.le _ hmem
  have hcok : ∀ l ∈ (f.cls.l.getD i Sl.d).l, D7 n l := hf.cl _ (List.mem_map.2 ⟨_, hmem, rfl⟩)
  have hd : f.L.drop i = (f.cls.l.getD i Sl.d).l :: f.L.drop (i + 1) := by
   have hi : i < f.L.length := by simpa [Cf.L] using h2
   rw [List.drop_eq_getElem_cons hi, List.getD_eq_getElem?_getD, List.getElem?_eq_getElem h2]
   simp [Cf.L]
  rw [hd] at hR
  simp only [Gi] at hR
  have ih := fun a tr ag => q89 f n hf lim u sp a0 ha0 R h0 h1 k (i + 1) (by omega) a tr ag
  generalize f.cls.l.getD i Sl.d = c at *
  have ec : C5 c = .sl (D9 c.l) c.cap c.nl := rfl
  obtain ⟨s1, s2, s3, s4, _⟩ := Nk hp.v3 c.l 0 0 false (by omega)
  obtain ⟨o, la, d, hSc⟩ : ∃ o la d, E1 a c.l 0 0 false = (o, la, d) := ⟨_, _, _, rfl⟩
  rw [hSc] at hR s1 s2 s3 s4
  simp only at hR s1 s2 s3 s4
  have g := fun Q h0 => q88 (Γ := Γ) (Q := Q) f lim u sp ag a tr (by rw [hp.ln]; omega) hp.v3 c (by omega) (by rw [hp.ln]; exact hcok) (.t (tI f.cls.l.length)) (.t (tI i)) (o, la, d) h0 c.l.length 0 (by omega) 0 0 false (by omega) (by omega) hSc
  simp [C5, B6, hP, hS] at g
  simp [B6, hP, hS, A3, Ad, h2, e1, e1', ec]
  refine g _ ?_
  by_cases hdo : d = true ∨ o > 1
  ·rw [if_pos hdo] at hR
   have ih := ih a tr ag hp hR
   simp [B6, hP, hS] at ih
   cases d with
   | true =>
    simp [w1]
    rw [hK]
    simpa using ih
   | false =>
    have ho : o > 1 := by simpa using hdo
    simp [w1, ho]
    rw [hK]
    simpa using ih
  ·rw [if_neg hdo] at hR
   have hdf : d = false := by
    cases d with
    | true => exact absurd (.inl rfl) hdo
    | false => rfl
   have ho1 : ¬ 1 < o := fun e => hdo (.inr e)
   subst hdf
   by_cases ho : o = 0
   ·rw [if_pos ho] at hR
    subst ho
    subst hR
    have h1 := h1 rfl
    simp [B6, hP, hS] at h1
    simp [St.freeze, Ak.closed, D8, frz1, frz0, K4, del, An]
    simpa using h1
   ·rw [if_neg ho] at hR
    have ho2 : o = 1 := by omega
    obtain ⟨_, j2, j3⟩ := s4 ho2
    obtain ⟨j4, j5⟩ := j2 trivial
    have hla := hcok la j4
    have hp2 := hp.sat hla j5
    have hle := hp2.le
    have hcnt : a0.count 2 ≤ a0.length := List.count_le_length
    simp only [List.length_append, List.length_cons, List.length_nil] at hle
    have ih := ih (Vu a la) (tr ++ [la]) true hp2 hR
    have hsat := q4f (Γ := Γ) a la (by rw [hp.ln]; exact hla) (by rw [hp.ln]; omega)
    have hcl : (Vu a la).length = a.length := by simp [Vu]
    have hap : D9 tr ++ [[tI la]] = D9 (tr ++ [la]) := J4
    simp [B6, hP, hS, hcl] at ih
    simp [ho1, ho]
    refine ⟨_, _, hsat, ?_⟩
    simp [List.idxOf_cons, Fg, w1, hap, A3]
    refine ⟨by omega, ?_⟩
    rw [hK]
    first | refine ⟨⟨Ad (f := tI) (l := [la]), by omega⟩, ?_⟩ | refine ⟨by omega, ?_⟩
    simpa using ih
theorem q8A {Q : AX → St → Prop} (f : Cf) (n : Nat) (hf : q7N f n) (lim u : Int) (sp : Bool) (a0 : List Int) (ha0 : a0.length = n) (R : Bool × List Int × List Int)
  (h0 : R.1 = true → Q (.exit 0) ⟨[(0, .lp 1000000 0 0), (2, .ls 61 0 R.2.2.length none), (4, .t (.fn 21 [])), (13, .t (tB false))], hP f lim u sp R.2.1 R.2.2⟩)
  (h1 : R.1 = false → Q .ret ⟨[(2, .t (.sl (D9 R.2.2) none none)), (3, .t (tB false))], hS f lim u sp R.2.1⟩) :
  ∀ (F : Nat) (a tr : List Int), P2 n a0 a tr → a.count 2 < F → Gj f.L F a tr = R →
  run Tryd.prog Γ Dl Q ⟨[(0, .lp 1000000 0 0), (2, .ls 61 0 tr.length none), (4, .t (.fn 21 [])), (5, .t (tB true))], hP f lim u sp a tr⟩
 | 0, a, tr, hp, hF, hR => by omega
 | F + 1, a, tr, hp, hF, hR => by
  refine Hh fun K hK => ?_
  obtain ⟨i1, i2, i3, i4, i5, i6⟩ := Uz (ag := false) hf.cl hp
  simp only [Gj] at hR
  have ih := fun a tr => q8A f n hf lim u sp a0 ha0 R h0 h1 F a tr
  obtain ⟨ok, a2, tr2, ag, hPs⟩ : ∃ ok a2 tr2 ag, Gi a tr false f.L = (ok, a2, tr2, ag) := ⟨_, _, _, _, rfl⟩
  rw [hPs] at hR i1 i2 i3 i4 i5 i6
  simp only at hR i1 i2 i3 i4 i5 i6
  have g := fun Q h0 h1 => q89 (Γ := Γ) (Q := Q) f n hf lim u sp a0 ha0 (ok, a2, tr2, ag) h0 h1 f.cls.l.length 0 (by omega) a tr false hp hPs
  simp [B6, hP, hS] at g
  simp [B6, hP, hS, A3]
  cases ok with
  | false =>
   simp at hR
   subst hR
   have h1 := h1 rfl
   simp [B6, hP, hS] at h1
   simp at g
   refine g _ ?_
   simpa using h1
  | true =>
   simp at hR g
   refine g _ ?_
   simp
   rw [hK]
   cases ag with
   | true =>
    have hlt := i5 rfl trivial
    have h7 := i1.le
    have h8 := hp.le
    have ih := ih a2 tr2 i1 (by omega) (by simpa using hR)
    simp [B6, hP, hS] at ih
    simpa using ih
   | false =>
    have hR : (true, a2, tr2) = R := by simpa using hR
    subst hR
    have h0 := h0 rfl
    simp [B6, hP, hS] at h0
    refine Hh fun K2 hK2 => ?_
    simp
    simpa using h0
theorem qED (f : Cf) (n : Nat) (hf : q7N f n) (lim u : Int) (sp : Bool) (a : List Int) (ha : a.length = n) (hv : CV3 a) : C3 Tryd.prog Γ 47 (hS f lim u sp a) [.lp 1000000 0 0]
  (.t (.tup [.sl (D9 (Gj f.L (a.count 2 + 1) a []).2.2) none none, tB (Gj f.L (a.count 2 + 1) a []).1])) (hS f lim u sp (Gj f.L (a.count 2 + 1) a []).2.1) := by
 refine T9 Qk rfl ?_
 obtain ⟨ok, a2, tr2, hPs⟩ : ∃ ok a2 tr2, Gj f.L (a.count 2 + 1) a [] = (ok, a2, tr2) := ⟨_, _, _, rfl⟩
 have g := fun Q h0 h1 => q8A (Γ := Γ) (Q := Q) f n hf lim u sp a ha (ok, a2, tr2) h0 h1 (a.count 2 + 1) a [] ⟨hv, ha, rfl, (fun l hl => by cases hl), by simp⟩ (by omega) hPs
 rw [hPs]
 simp [B6, hP, hS] at g
 simp [Jv, B6, hS]
 cases ok with
 | true =>
  simp at g
  refine g _ ?_
  simp [St.freeze, Ak.closed, D8, frz1, frz0, K4, del, An, Fb]
 | false =>
  simp at g
  refine g _ ?_
  simp [Fb]
end Go.Lg
namespace Go.Lg
open Go
section
variable {P : Program} {Γ : Tables} {Q : AX → St → Prop} {s : St}
/- (*probecard/cnfs.solver).visit (function 23) -/
abbrev Ob : IC := .gh (.seq (.seq (.reg [om 16 5, od 17 (ld 1 1), od 18 (.nck (tm 17)), od 19 (fa 0 18), od 20 (fa 0 19), od 21 (ld 1 20), od 22 (.bin .leq (tm 16) (tm 21)), om 23 22, oT 24 (ld 1 1) 23, oT 25 (.nck (tm 24)) 23, oT 26 (fa 2 25) 23,
 oT 27 (ld 1 26) 23, oT 28 (.mv (tm 5)) 23, oT 29 (.bin .sub (tm 28) (ki 1)) 23, oT 30 (ia 1 27 29) 23, oT 31 (ld 1 30) 23, oT 32 (.bin .neq (tm 31) (ku 2)) 23, od 33 (.pick (tm 23) (tm 32) kF)] [kp [1, 2, 5, 13, 33] [1, 2, 3,
 1000000, 1000001]]) (.cond (tm 33) .skip (.exit 0))) (.block 1 (.reg [om 34 5, od 35 (.bin .add (tm 34) (ki 1)), om 5 35] [kp [1, 2, 5, 13] [1, 2, 3, 1000000, 1000001]]))) [kp [1, 2, 5, 13] [1, 2, 3, 1000000, 1000001]]
def F8 : IC := .loop Ob
abbrev Oc : IC := .gh (.seq (.reg [od 67 (.bin .lss (tm 66) (ki 2))] [kp [1, 2, 5, 13, 65, 66, 67] [1, 2, 3, 1000000, 1000001]]) (.seq (.cond (tm 67) .skip (.exit 2)) (.seq (.block 3 (.seq (.reg [od 68 (.idxA 2 1 false (tm 65) (tm 66)), om 7 68] [kp
 [1, 2, 5, 7, 13, 65, 66] [1, 2, 3, 1000000, 1000001]]) (.seq (.reg [od 69 (ld 1 1), od 70 (.nck (tm 69)), od 71 (fa 2 70), od 72 (ld 1 71), om 73 7, od 74 (.hcall 50 [(tm 72), (tm 73)] [1000001] 74000)] [kp [1, 2, 5, 13, 65, 66]
 [1, 2, 3, 1000000, 1000001]]) (.seq (.seq (.reg [od 75 (ld 1 1), od 76 (.hcall 23 [(tm 75)] [1000000, 1000001] 76000)] [kp [1, 2, 5, 13, 65, 66, 76] [1, 2, 3, 1000000, 1000001]]) (.cond (tm 76) (.seq (.reg [on (.store 1 (tm 2) kT)]
 [kp [2, 13] [1, 2, 3, 1000000, 1000001]]) .ret) .skip)) (.seq (.reg [od 77 (ld 1 1), od 78 (.nck (tm 77)), od 79 (fa 2 78), od 80 (ld 1 79), om 81 5, od 82 (.bin .sub (tm 81) (ki 1)), od 83 (ia 1 80 82), on (.store 1 (tm 83) (ku
 2))] [kp [1, 2, 5, 13, 65, 66] [1, 2, 3, 1000000, 1000001]]) (.seq (.reg [od 84 (ld 1 1), od 85 (.nck (tm 84)), od 86 (fa 5 85), od 87 (ld 1 86)] [kp [1, 2, 5, 13, 65, 66, 87] [1, 2, 3, 1000000, 1000001]]) (.cond (tm 87) (.seq
 (.reg [on (.store 1 (tm 2) kF)] [kp [2, 13] [1, 2, 3, 1000000, 1000001]]) .ret) .skip))))))) (.reg [od 88 (.bin .add (tm 66) (ki 1)), om 66 88] [kp [1, 2, 5, 13, 65, 66] [1, 2, 3, 1000000, 1000001]])))) [kp [1, 2, 5, 13, 65, 66]
 [1, 2, 3, 1000000, 1000001]]
def Ds : IC := .loop Oc
abbrev Ww : IC := (.reg [od 1 (.box false (tm 0)), od 2 (.alloc false [(.bool false)])] [kp [1, 2, 13] [1, 2, 3, 1000000, 1000001]])
abbrev Wx : IC := (.reg [od 9 (ld 1 1), od 10 (.hcall 47 [(tm 9)] [1000000, 1000001] 10000), om 8 10, od 11 (ex 8 0), od 12 (ex 8 1), od 3 (.alloc false [(.slice none 0 0)]), on (.store 1 (tm 3) (tm 11)), om 4 12] [kp [1, 2, 3, 4, 13] [1, 2, 3,
 1000000, 1000001]])
abbrev Wy : IC := (.seq (.reg [om 14 4, od 15 (.un .not (tm 14))] [kp [1, 2, 13, 15] [1, 2, 3, 1000000, 1000001]]) (.cond (tm 15) (.seq (.reg [on (.store 1 (tm 2) kF)] [kp [2, 13] [1, 2, 3, 1000000, 1000001]]) .ret) .skip))
abbrev Wz : IC := (.reg [od 5 (.mv (ki 1))] [kp [1, 2, 5, 13] [1, 2, 3, 1000000, 1000001]])
abbrev X1 : IC := (.block 0 F8)
abbrev X4 : IC := (.seq (.reg [om 36 5, od 37 (ld 1 1), od 38 (.nck (tm 37)), od 39 (fa 0 38), od 40 (fa 0 39), od 41 (ld 1 40), od 42 (.bin .gtr (tm 36) (tm 41))] [kp [1, 2, 5, 13, 42] [1, 2, 3, 1000000, 1000001]]) (.cond (tm 42) (.seq (.reg [on
 (.store 1 (tm 2) kT)] [kp [2, 13] [1, 2, 3, 1000000, 1000001]]) .ret) .skip))
abbrev X5 : IC := (.seq (.reg [od 43 (ld 1 1), od 44 (.nck (tm 43)), od 45 (fa 4 44), od 46 (ld 1 45), od 47 (ld 1 1), od 48 (.nck (tm 47)), od 49 (fa 3 48), od 50 (ld 1 49), od 51 (.bin .eql (tm 46) (tm 50))] [kp [1, 2, 5, 13, 51] [1, 2, 3,
 1000000, 1000001]]) (.cond (tm 51) (.seq (.reg [od 52 (ld 1 1), od 53 (.nck (tm 52)), od 54 (fa 5 53), on (.store 1 (tm 54) kT)] [kp [2, 13] [1, 2, 3, 1000000, 1000001]]) (.seq (.reg [on (.store 1 (tm 2) kF)] [kp [2, 13] [1, 2, 3,
 1000000, 1000001]]) .ret)) .skip))
abbrev X6 : IC := (.reg [od 55 (ld 1 1), od 56 (.nck (tm 55)), od 57 (fa 4 56), od 58 (ld 1 57), od 59 (.bin .add (tm 58) (ki 1)), od 60 (.nck (tm 55)), od 61 (fa 4 60), on (.store 1 (tm 61) (tm 59))] [kp [1, 2, 5, 13] [1, 2, 3, 1000000, 1000001]])
abbrev X7 : IC := (.seq (.reg [om 62 5, od 63 (.un .neg (tm 62)), om 64 5, od 65 (.build [(1, (tm 63)), (1, (tm 64))]), od 66 (.mv (ki 0))] [kp [1, 2, 5, 13, 65, 66] [1, 2, 3, 1000000, 1000001]]) (.block 2 Ds))
abbrev Vw : IC := (.reg [on (.store 1 (tm 2) kF)] [kp [2, 13] [1, 2, 3, 1000000, 1000001]])
theorem Jw (h : ∀ K : St → Prop, K = run P Γ F8 Q → run P Γ Ob (B5 K Q) s) : run P Γ F8 Q s := Au h
theorem Jx (h : ∀ K : St → Prop, K = run P Γ Ds Q → run P Γ Oc (B5 K Q) s) : run P Γ Ds Q s := Au h
def Dt : List RV := [.cell 2 1 false]
end
end Go.Lg
namespace Go.Lg
open Go Go.Proofs
variable {Γ : Tables}
abbrev qGc : IC := .seq Wy (.seq Wz (.seq X1 (.seq X4 (.seq X5 (.seq X6 (.seq X7 (.seq Vw .ret)))))))
theorem q7O : qD6 Tryd.prog 23 Ww Wx qGc 89 1 Dt 13 48 [.tmp 2, .tmp 1, .tmp 3] = true := by kernel_rfl
abbrev hV (f : Cf) (lim u : Int) (sp : Bool) (a : List Int) (fd : Bool) (tr : T) : List (Nat × Ak) := (1, .bx [.lp 1000000 0 0]) :: (2, .bx [.t (tB fd)]) :: (3, .bx [.t tr]) :: hS f lim u sp a
abbrev q57 : AV := .fn 48 [.lp 2 0 0, .lp 1 0 0, .lp 3 0 0]
abbrev hU (f : Cf) (lim u : Int) (sp : Bool) (n : Nat) (a : List Int) (fd : Bool) (tr : T) : List (Nat × Ak) := [(1000000, .bx [.t (tB fd)]), (1000001, .bx [.lp 1000003 0 0]), (1000002, .bx [.t tr]), (1000003, .bx [.t (tI f.vars), .t (B6 f.cls), .ls 1000004 0 n none, .t (tI lim), .t (tI u), .t (tB sp)]), (1000004, .sl 31 1 (Dz a))]
theorem qBu (f : Cf) (lim u : Int) (sp : Bool) (a : List Int) (hn : a.length ≤ 1000000000) (tr : Sl Int) (htr : tr.l.length ≤ 1000000000) (hok : ∀ l ∈ tr.l, D7 a.length l) (fd : Bool) :
  q4x Tryd.prog Γ 48 (hU f lim u sp a.length a fd (C5 tr))
   [.lp 1000000 0 0, .lp 1000001 0 0, .lp 1000002 0 0]
   (hU f lim u sp a.length (if fd then a else Da a tr.l) fd (C5 tr)) := by
 refine q9f (res := .t (.tup [])) Tf rfl (Fq ?_)
 have hu := qEC (Γ := Γ) f lim u sp a hn tr htr hok
 simp [hS, B6, C5] at hu
 cases fd with
 | true =>
  simp [H3, H4, q4K, Up]
  exact ⟨True, trivial⟩
 | false =>
  simp [H3, B6, C5]
  refine ⟨_, _, hu, ?_⟩
  simp [List.idxOf_cons, Fg, H4, q4K, Up, A3, q1A]
  first | exact ⟨True, trivial⟩ | exact ⟨⟨True, trivial⟩, rfl⟩
theorem qBv (f : Cf) (lim u : Int) (sp : Bool) (a : List Int) (hn : a.length ≤ 1000000000) (tr : Sl Int) (htr : tr.l.length ≤ 1000000000) (hok : ∀ l ∈ tr.l, D7 a.length l) (fd : Bool) :
  q5r Tryd.prog Γ Dt 13 48 (tB fd) [1000000, 1000001] (hS f lim u sp (if fd then a else Da a tr.l)) .ret ⟨[(2, .lp 2 0 0), (13, q57)], hV f lim u sp a fd (C5 tr)⟩ := by
 have hd := qBu (Γ := Γ) f lim u sp a hn tr htr hok fd
 have hlen : (if fd then a else Da a tr.l).length = a.length := by split <;> simp [q1A]
 generalize hb : (if fd then a else Da a tr.l) = b at *
 refine ⟨q57, [.lp 2 0 0, .lp 1 0 0, .lp 3 0 0], [2, 1, 3, 1000000, 1000001], 0, hU f lim u sp a.length b fd (C5 tr), rfl, rfl, by decide, ?_, ?_, ?_⟩
 ·exact hd
 ·simp [hV, hS, List.idxOf_cons, A3, hlen]
 ·simp [hV, hS, List.idxOf_cons, Fg, Dt, Up, hlen]
  exact ⟨True, trivial⟩
theorem qAY {Q : AX → St → Prop} (f : Cf) (n : Nat) (hf : q7N f n) (lim u : Int) (sp fd : Bool) (tr : T) (a : List Int) (ha : a.length = n)
  (h0 : Q (.exit 0) ⟨[(1, .lp 1 0 0), (2, .lp 2 0 0), (5, .t (tI (Jd a + 1))), (13, q57), (33, .t (tB false))], hV f lim u sp a fd tr⟩) : ∀ (k j : Nat), k + j = n → Jd a = j + Jd (a.drop j) →
  run Tryd.prog Γ F8 Q ⟨[(1, .lp 1 0 0), (2, .lp 2 0 0), (5, .t (tI ((j : Int) + 1))), (13, q57)], hV f lim u sp a fd tr⟩
 | 0, j, h, hj => by
  refine Jw fun K hK => ?_
  have h2 : j = n := by omega
  subst h2
  have hvn := hf.vn
  rw [List.drop_eq_nil_of_le (by omega)] at hj
  have hj : Jd a = j := by simpa [Jd] using hj
  rw [hj] at h0
  have h3 : ¬ ((j : Int) + 1 ≤ j) := by omega
  simp [hV, hS, hvn] at h0
  simp [hV, hS, hvn, h3]
  simpa using h0
 | k + 1, j, h, hj => by
  refine Jw fun K hK => ?_
  have hvn := hf.vn
  have hnb := hf.nb
  have h2 : j < a.length := by omega
  have e1 := elC (f := tK) 0 h2
  have e1' := Vv (f := tK) 0 h2
  have hd : a.drop j = a.getD j 0 :: a.drop (j + 1) := by
   rw [List.getD_eq_getElem?_getD, List.getElem?_eq_getElem h2]; exact List.drop_eq_getElem_cons h2
  rw [hd] at hj
  simp only [Jd] at hj
  have h3 : (j : Int) + 1 ≤ n := by omega
  have w1 : IntKind.i64.wrap ((j : Int) + 1 - 1) = j := by rw [A7] <;> omega
  have w1' : IntKind.i64.wrap (j : Int) = j := by rw [A7] <;> omega
  have w2 : IntKind.i64.wrap ((j : Int) + 1 + 1) = (j : Int) + 1 + 1 := by rw [A7] <;> omega
  have ih := qAY f n hf lim u sp fd tr a ha h0 k (j + 1) (by omega)
  generalize a.getD j 0 = x at *
  by_cases hx : x = 2
  ·rw [if_pos hx] at hj
   subst hx
   have hj : Jd a = j := by omega
   rw [hj] at h0
   simp [hV, hS, hvn] at h0
   simp [hV, hS, hvn, h3, w1, w1', A3, Ad, h2, e1, e1']
   simpa using h0
  ·rw [if_neg hx] at hj
   have ih := ih (by omega)
   simp [hV, hS, hvn] at ih
   simp [hV, hS, hvn, h3, w1, w1', w2, A3, Ad, h2, e1, e1', hx]
   rw [hK]
   simpa using ih
abbrev qGd (v : Nat) : AV := .ag [.t (tI (-((v : Int) + 1))), .t (tI ((v : Int) + 1))]
theorem q6A {Q : AX → St → Prop} (f : Cf) (n : Nat) (hf : q7N f n) (lim u : Int) (a : List Int) (ha : a.length = n) (v : Nat) (hv : v < n) (q : Nat) (hq : q < 2) (x : Int) (hx : x = if q = 0 then 0 else 1) (tr : T) (r : Bool × List Int × Int × Bool)
  (hc : C3 Tryd.prog Γ 23 (hS f lim u false (a.set v x)) [.lp 1000000 0 0] (.t (tB r.1)) (hS f lim r.2.2.1 r.2.2.2 r.2.1)) (hrl : r.2.1.length = n)
  (h1 : r.1 = true → Q .ret ⟨[(2, .lp 2 0 0), (13, q57)], hV f lim r.2.2.1 r.2.2.2 r.2.1 true tr⟩)
  (h2 : r.1 = false → r.2.2.2 = true → Q .ret ⟨[(2, .lp 2 0 0), (13, q57)], hV f lim r.2.2.1 true (r.2.1.set v 2) false tr⟩)
  (h3 : r.1 = false → r.2.2.2 = false → run Tryd.prog Γ Ds Q ⟨[(1, .lp 1 0 0), (2, .lp 2 0 0), (5, .t (tI ((v : Int) + 1))), (13, q57), (65, qGd v), (66, .t (tI ((q : Int) + 1)))], hV f lim r.2.2.1 false (r.2.1.set v 2) false tr⟩) :
  run Tryd.prog Γ Ds Q ⟨[(1, .lp 1 0 0), (2, .lp 2 0 0), (5, .t (tI ((v : Int) + 1))), (13, q57), (65, qGd v), (66, .t (tI q))], hV f lim u false a false tr⟩ := by
 refine Jx fun K hK => ?_
 have hnb := hf.nb
 have hsat : C3 Tryd.prog Γ 50 [(1000000, .sl 31 1 (Dz a))] [.ls 1000000 0 a.length none, .t (tI (if q = 0 then -((v : Int) + 1) else (v : Int) + 1))] (.t (.tup [])) [(1000000, .sl 31 1 (Dz (a.set v x)))] := by
  have e : a.set v x = Vu a (if q = 0 then -((v : Int) + 1) else (v : Int) + 1) := by
   unfold Vu Ez
   by_cases q0 : q = 0
   ·have : (-(-((v : Int) + 1)) - 1).toNat = v := by omega
    simp only [q0, if_true, hx]
    rw [if_pos (by omega), if_pos (by omega), this]
   ·have : ((v : Int) + 1 - 1).toNat = v := by omega
    simp only [q0, if_false, hx]
    rw [if_neg (by omega), if_neg (by omega), this]
  rw [e]
  exact q4f a _ (by unfold D7; split <;> omega) (by omega)
 have wq : IntKind.i64.wrap ((q : Int) + 1) = (q : Int) + 1 := by rw [A7] <;> omega
 have wv : IntKind.i64.wrap (v : Int) = v := by rw [A7] <;> omega
 have hle : (a.set v x).length = a.length := by simp
 obtain ⟨fd, b, u2, sp2⟩ := r
 simp only at hc hrl h1 h2 h3
 have hset : (Dz b).set v [tK 2] = Dz (b.set v 2) := T8
 have hvb : v < b.length := by omega
 have hvb2 : (v : Int) < b.length := by omega
 have hq2 : q = 0 ∨ q = 1 := by omega
 generalize hb0 : a.set v x = a2 at *
 simp [hS] at hc
 rcases hq2 with rfl | rfl
 ·simp [hV, hS]
  simp at hsat wq
  refine ⟨_, _, hsat, ?_⟩
  simp [List.idxOf_cons, Fg, A3, hle]
  rw [hle] at hc
  refine ⟨_, _, hc, ?_⟩
  cases fd with
  | true =>
   have h1 := h1 rfl
   simp [hV, hS, hrl] at h1
   simp [List.idxOf_cons, Fg, A3, hrl, ha]
   exact ⟨hle.trans ha, by simpa using h1⟩
  | false =>
   cases sp2 with
   | true =>
    have h2 := h2 rfl rfl
    simp [hV, hS, hrl] at h2
    simp [List.idxOf_cons, Fg, A3, Ad, wv, hset, hvb, hvb2, hrl, ha]
    exact ⟨hle.trans ha, hv, by simpa using h2⟩
   | false =>
    have h3 := h3 rfl rfl
    simp [hV, hS, hrl] at h3
    simp [List.idxOf_cons, Fg, A3, Ad, wv, wq, hset, hvb, hvb2, hrl, ha]
    rw [hK]
    exact ⟨hle.trans ha, hv, by simpa using h3⟩
 ·simp [hV, hS]
  simp at hsat wq
  refine ⟨_, _, hsat, ?_⟩
  simp [List.idxOf_cons, Fg, A3, hle]
  rw [hle] at hc
  refine ⟨_, _, hc, ?_⟩
  cases fd with
  | true =>
   have h1 := h1 rfl
   simp [hV, hS, hrl] at h1
   simp [List.idxOf_cons, Fg, A3, hrl, ha]
   exact ⟨hle.trans ha, by simpa using h1⟩
  | false =>
   cases sp2 with
   | true =>
    have h2 := h2 rfl rfl
    simp [hV, hS, hrl] at h2
    simp [List.idxOf_cons, Fg, A3, Ad, wv, hset, hvb, hvb2, hrl, ha]
    exact ⟨hle.trans ha, hv, by simpa using h2⟩
   | false =>
    have h3 := h3 rfl rfl
    simp [hV, hS, hrl] at h3
    simp [List.idxOf_cons, Fg, A3, Ad, wv, wq, hset, hvb, hvb2, hrl, ha]
    rw [hK]
    exact ⟨hle.trans ha, hv, by simpa using h3⟩
theorem q8B (f : Cf) (n : Nat) (hf : q7N f n) (lim : Int) (hlim : lim ≤ 1000000000) : ∀ (F : Nat) (a : List Int) (u : Int), CV3 a → a.length = n → a.count 2 < F → 0 ≤ u → u ≤ lim →
  C3 Tryd.prog Γ 23 (hS f lim u false a) [.lp 1000000 0 0] (.t (tB (Bv f.L lim F a u).1)) (hS f lim (Bv f.L lim F a u).2.2.1 (Bv f.L lim F a u).2.2.2 (Bv f.L lim F a u).2.1)
 | 0, a, u, h3, hn, hF, hu0, hu => by omega
 | F + 1, a, u, h3, hn, hF, hu0, hu => by
  obtain ⟨p1, p2, p3, p4⟩ := V0 hf.cl (f := a.count 2 + 1) (a0 := a) (a := a) (tr := []) ⟨h3, hn, rfl, (fun l hl => by cases hl), by simp⟩ (by omega)
  have hnb := hf.nb
  have hvn := hf.vn
  have hpr := qED (Γ := Γ) f n hf lim u false a hn h3
  have ihv := fun a u => q8B f n hf lim hlim F a u
  simp only [Bv]
  generalize Gj f.L (a.count 2 + 1) a [] = p at *
  obtain ⟨ok, a1, tr⟩ := p
  simp only at p1 p2 p3 p4 hpr ⊢
  have hl1 := p1.ln
  have htl : tr.length ≤ 1000000000 := by
   have := p1.le
   have h5 : a.count 2 ≤ a.length := List.count_le_length
   omega
  have hend := fun u sp b (hb : b.length = n) fd => qBv (Γ := Γ) f lim u sp b (by omega) ⟨tr, none, none⟩ htl (by rw [hb]; exact p1.ok) fd
  have hun := p1.un
  refine qBT (gs := [kp [1, 2, 4, 13] [1, 2, 3, 1000000, 1000001]]) (ids := [1000000, 1000001]) q7O rfl ?_
  generalize hr : (if ok = false then (false, Da a1 tr, u, false) else _) = r
  have hQ : ∀ (u' : Int) (sp' : Bool) (b : List Int) (fd : Bool), b.length = n → r = (fd, if fd then b else Da b tr, u', sp') →
    q5r Tryd.prog Γ Dt 13 48 (tB r.1) [1000000, 1000001] (hS f lim r.2.2.1 r.2.2.2 r.2.1) .ret ⟨[(2, .lp 2 0 0), (13, q57)], hV f lim u' sp' b fd (.sl (D9 tr) none none)⟩ := fun u' sp' b fd hb he => by
   rw [he]; exact hend u' sp' b hb fd
  generalize hQQ : q5r Tryd.prog Γ Dt 13 48 (tB r.1) [1000000, 1000001] (hS f lim r.2.2.1 r.2.2.2 r.2.1) = QQ at *
  refine Ag (Fq (Q := fun e s => e = .normal ∧ run Tryd.prog Γ qGc QQ s) ?_) (fun e s ⟨h1, h2⟩ => ⟨h1, Fq h2⟩)
  simp [hS] at hpr
  simp [hS]
  refine ⟨_, _, hpr, ?_⟩
  simp [List.idxOf_cons, Fg, hl1, hn, A3]
  cases ok with
  | false =>
   simp at hr
   have hQ := hQ u false a1 false hl1 hr.symm
   simp [hV, hS, hl1] at hQ
   simp [Fh]
   simpa using hQ
  | true =>
   simp at hr
   obtain ⟨o1, o2⟩ := V1 (a := a1)
   have g := fun Q h0 => qAY (Γ := Γ) (Q := Q) f n hf lim u false false (.sl (D9 tr) none none) a1 hl1 h0 n 0 (by omega) (by simp)
   simp [hV, hS, hl1] at g
   simp [Fh]
   refine g _ ?_
   generalize Jd a1 = v at *
   by_cases hv : n ≤ v
   ·rw [hl1, if_pos hv] at hr
    have hQ := hQ u false a1 true hl1 hr.symm
    simp [hV, hS, hl1] at hQ
    have h5 : (n : Int) < (v : Int) + 1 := by omega
    simp [hvn, h5]
    simp [hvn] at hQ
    simpa using hQ
   ·rw [hl1, if_neg hv] at hr
    have hvlt : v < a1.length := by omega
    have hvn2 : v < n := Nat.lt_of_not_le hv
    have h2 := o2 hvlt
    have h5 : ¬ (n : Int) < (v : Int) + 1 := by omega
    have hle : a1.count 2 ≤ a.count 2 := by have := p1.le; omega
    have c0 := Ix (x := 0) h2 hvlt (by decide)
    have c1 := Ix (x := 1) h2 hvlt (by decide)
    by_cases hul : u = lim
    ·rw [if_pos hul] at hr
     have hQ := hQ u true a1 false hl1 hr.symm
     simp [hV, hS, hl1, hvn] at hQ
     simp [hvn, h5, hul]
     simp [hul] at hQ
     simpa using hQ
    ·rw [if_neg hul] at hr
     have wu : IntKind.i64.wrap (u + 1) = u + 1 := by rw [A7] <;> omega
     have wv : IntKind.i64.wrap (-((v : Int) + 1)) = -((v : Int) + 1) := by rw [A7] <;> omega
     have vok1 := Gn hf.cl (lim := lim) (f := F) (a := a1.set v 0) (u := u + 1) (p1.v3.set _ (.inl rfl)) (by simp [hl1]) (by omega) (by omega)
     have hc1 := ihv (a1.set v 0) (u + 1) (p1.v3.set _ (.inl rfl)) (by simp [hl1]) (by omega) (by omega) (by omega)
     have hstep1 := fun Q hb h1 h2 h3 => q6A (Γ := Γ) (Q := Q) f n hf lim (u + 1) a1 hl1 v hvn2 0 (by decide) 0 (by simp) (.sl (D9 tr) none none) (Bv f.L lim F (a1.set v 0) (u + 1)) hc1 hb h1 h2 h3
     generalize Bv f.L lim F (a1.set v 0) (u + 1) = r1 at *
     obtain ⟨f1, b1, u1, s1⟩ := r1
     simp only at hr
     have hb1 : b1.length = n := by
      cases f1 with
      | true => exact (vok1.tot rfl).2.1
      | false => have := vok1.back rfl; simp only at this; rw [this]; simp [hl1]
     have hstep1 := fun Q => hstep1 Q hb1
     simp [hV, hS, hvn, hl1] at hstep1
     simp [hvn, h5, hul, wu, wv]
     refine hstep1 _ (fun e => ?_) (fun e e2 => ?_) (fun e e2 => ?_)
     ·subst e
      simp at hr
      have hQ := hQ u1 s1 b1 true hb1 hr.symm
      simp [hV, hS, hvn] at hQ
      simpa using hQ
     ·subst e; subst e2
      simp at hr
      have hQ := hQ u1 true (b1.set v 2) false (by simp [hb1]) hr.symm
      simp [hV, hS, hvn] at hQ
      simpa using hQ
     ·subst e; subst e2
      simp at hr
      have hbk := vok1.back rfl
      simp only at hbk
      subst hbk
      have hset : (a1.set v 0).set v 2 = a1 := by rw [List.set_set]; exact Qa h2 hvlt
      have hset1 : (a1.set v 0).set v 1 = a1.set v 1 := List.set_set ..
      rw [hset1] at hr
      rw [hset]
      have q1 := vok1.lo
      have q2 := vok1.hi
      simp only at q1 q2
      have vok2 := Gn hf.cl (lim := lim) (f := F) (a := a1.set v 1) (u := u1) (p1.v3.set _ (.inr (.inl rfl))) (by simp [hl1]) (by omega) q2
      have hc2 := ihv (a1.set v 1) u1 (p1.v3.set _ (.inr (.inl rfl))) (by simp [hl1]) (by omega) (by omega) q2
      have hstep2 := fun Q hb h1 h2 h3 => q6A (Γ := Γ) (Q := Q) f n hf lim u1 a1 hl1 v hvn2 1 (by decide) 1 (by simp) (.sl (D9 tr) none none) (Bv f.L lim F (a1.set v 1) u1) hc2 hb h1 h2 h3
      generalize Bv f.L lim F (a1.set v 1) u1 = r2 at *
      obtain ⟨f2, b2, u2, s2⟩ := r2
      simp only at hr
      have hb2 : b2.length = n := by
       cases f2 with
       | true => exact (vok2.tot rfl).2.1
       | false => have := vok2.back rfl; simp only at this; rw [this]; simp [hl1]
      have hstep2 := fun Q => hstep2 Q hb2
      simp [hV, hS, hvn, hl1] at hstep2
      simp [hl1]
      refine hstep2 _ (fun e => ?_) (fun e e2 => ?_) (fun e e2 => ?_)
      ·subst e
       simp at hr
       have hQ := hQ u2 s2 b2 true hb2 hr.symm
       simp [hV, hS, hvn] at hQ
       simpa using hQ
      ·subst e; subst e2
       simp at hr
       have hQ := hQ u2 true (b2.set v 2) false (by simp [hb2]) hr.symm
       simp [hV, hS, hvn] at hQ
       simpa using hQ
      ·subst e; subst e2
       simp at hr
       have hQ := hQ u2 false (b2.set v 2) false (by simp [hb2]) hr.symm
       simp [hV, hS, hvn] at hQ
       refine Jx fun K hK => ?_
       simp
       simpa using hQ
theorem q58 {v : Int} : ∀ {cs : List (List Int)}, q0J v cs = 0 → ∀ c ∈ cs, c.length ≤ 4096 ∧ ∀ l ∈ c, q1B v l = false
 | [], _, c, hc => by cases hc
 | d :: cs, h, c, hc => by
  simp only [q0J] at h
  split at h
  ·cases h
  ·rename_i h1
   split at h
   ·cases h
   ·rename_i h2
    rcases List.mem_cons.1 hc with rfl | hc
    ·refine ⟨by omega, fun l hl => ?_⟩
     cases hb : q1B v l with
     | false => rfl
     | true => exact absurd (List.any_eq_true.2 ⟨l, hl, hb⟩) h2
    ·exact q58 h c hc
theorem q0K {f : Cf} (h : Ti f = 0) : 0 ≤ f.vars ∧ f.vars ≤ 65536 ∧ q7N f f.vars.toNat := by
 unfold Ti at h
 split at h
 ·cases h
 ·rename_i h1
  split at h
  ·cases h
  ·rename_i h2
   have hc := q58 h
   refine ⟨by omega, by omega, by omega, by omega, fun c hc2 l hl => ?_, by omega, fun c hc2 => ?_⟩
   ·have := (hc c hc2).2 l hl
    unfold q1B at this
    simp at this
    unfold D7
    omega
   ·have := (hc c.l (List.mem_map.2 ⟨c, hc2, rfl⟩)).1
    omega
def Si (f : Cf) (lim : Int) : Option (List Int) × Bool × Int :=
 if Ti f ≠ 0 then (none, false, Ti f) else if lim < 0 then (none, false, 1) else if 1000000 < lim then (none, false, 3) else
  let r := Bv f.L lim (f.vars.toNat + 1) (List.replicate f.vars.toNat 2) 0
  if r.1 = true then (some r.2.1, true, 0) else if r.2.2.2 = true then (none, false, 0) else (none, true, 9)
def q1C : Option (List Int) → T
 | none => .sl [] (some 0) (some true)
 | some b => .sl (Dz b) none none
def q0L (o : Option (List Int) × Bool × Int) : T := .tup [q1C o.1, tB o.2.1, tI o.2.2]
theorem q6B {Q : AX → St → Prop} (n : Nat) (hn : n ≤ 1000000) (c1 c2 c3 c4 c5 : AV)
  (h0 : Q (.exit 0) ⟨[(9, .lp 28 0 0), (33, .t (tI n)), (34, .t (tI n)), (35, .t (tB false))], [(25, .sl 31 1 (Dz (List.replicate n 2))), (28, .bx [c1, c2, .ls 25 0 n none, c3, c4, c5])]⟩) :
  ∀ (k i : Nat), k + i = n → run Tryd.prog Γ O1 Q ⟨[(9, .lp 28 0 0), (33, .t (tI n)), (34, .t (tI i))], [(25, .sl 31 1 (Dz (List.replicate i 2 ++ List.replicate k 0))), (28, .bx [c1, c2, .ls 25 0 n none, c3, c4, c5])]⟩
 | 0, i, h => by
  refine Rj fun K hK => ?_
  have h2 : i = n := by omega
  subst h2
  simp
  simpa using h0
 | k + 1, i, h => by
  refine Rj fun K hK => ?_
  have ih := q6B n hn c1 c2 c3 c4 c5 h0 k (i + 1) (by omega)
  have h2 : i < n := by omega
  have w1 : IntKind.i64.wrap ((i : Int) + 1) = (i : Int) + 1 := by rw [A7] <;> omega
  have hs : (Dz (List.replicate i 2 ++ List.replicate (k + 1) 0)).set i [tK 2] = Dz (List.replicate (i + 1) 2 ++ List.replicate k 0) := by
   show (Dc tK _).set i [tK _] = Dc tK _
   rw [T8]
   congr 1
   rw [List.set_append, if_neg (by simp), List.length_replicate, Nat.sub_self, List.replicate_succ, List.set_cons_zero, List.replicate_succ', List.append_assoc]
   rfl
  have hlen : (Dz (List.replicate i (2 : Int) ++ List.replicate (k + 1) 0)).length = n := by simp [Dz, Dc]; omega
  generalize Dz (List.replicate i (2 : Int) ++ List.replicate (k + 1) 0) = E0 at *
  simp [h2, hlen, hs, w1]
  rw [hK]
  simpa using ih
theorem Zl (f : Cf) (hi : I64 f.vars) (lim : Int) : A5 Tryd.prog Γ 10 [.agg (O2 f), tI lim] (q0L (Si f lim)) := by
 refine Ah q3O rfl ?_
 have hck := S9 (Γ := Γ) f hi
 have hst := q7M (Γ := Γ) lim
 simp [Yh, O2, B6]
 refine A4 hck rfl ?_
 by_cases he : Ti f = 0
 ·obtain ⟨hv0, hv1, hf⟩ := q0K he
  simp [he]
  refine A4 hst rfl ?_
  by_cases hl0 : lim < 0
  ·simp [hl0, Si, he, q0L, q1C, Ff]
  ·by_cases hl1 : 1000000 < lim
   ·simp [hl0, hl1, Si, he, q0L, q1C, Ff]
   ·have hr : Si f lim = (if (Bv f.L lim (f.vars.toNat + 1) (List.replicate f.vars.toNat 2) 0).1 = true then (some (Bv f.L lim (f.vars.toNat + 1) (List.replicate f.vars.toNat 2) 0).2.1, true, 0) else if (Bv f.L lim (f.vars.toNat + 1) (List.replicate f.vars.toNat 2) 0).2.2.2 = true then (none, false, 0) else (none, true, 9)) := by
     unfold Si; rw [if_neg (by simp [he]), if_neg hl0, if_neg hl1]
    rw [hr]
    have hvn : f.vars = (f.vars.toNat : Int) := by omega
    have hfv := hf.vn
    generalize f.vars.toNat = n at *
    have hcn : (List.replicate n (2 : Int)).count 2 < n + 1 := by
     have : (List.replicate n (2 : Int)).count 2 ≤ (List.replicate n (2 : Int)).length := List.count_le_length
     rw [List.length_replicate] at this; omega
    have h3 : CV3 (List.replicate n 2) := fun v hv => by have := List.eq_of_mem_replicate hv; omega
    have hvis := q8B (Γ := Γ) f n hf lim (by omega) (n + 1) (List.replicate n 2) 0 h3 (by simp) hcn (by omega) (by omega)
    have hspec := Gn hf.cl (lim := lim) (f := n + 1) (a := List.replicate n 2) (u := 0) h3 (by simp) hcn (by omega)
    have hlen : (Bv f.L lim (n + 1) (List.replicate n 2) 0).2.1.length = n := by
     cases hb : (Bv f.L lim (n + 1) (List.replicate n 2) 0).1 with
     | true => exact (hspec.tot hb).2.1
     | false => rw [hspec.back hb]; simp
    generalize Bv f.L lim (n + 1) (List.replicate n 2) 0 = r at *
    obtain ⟨fd, b, u, sp⟩ := r
    have hnb := hf.nb
    simp only at hvis hlen ⊢
    have g := fun Q c1 c2 c3 c4 c5 h0 => q6B (Γ := Γ) (Q := Q) n (by omega) c1 c2 c3 c4 c5 h0 n 0 (by omega)
    simp [hS, hfv] at hvis
    simp at g
    simp [hl0, hl1, hfv]
    have e0 : List.replicate n [tK 0] = Dz (List.replicate n 0) := by simp [Dz, Dc]
    rw [e0]
    refine ⟨by omega, g _ _ _ _ _ _ ?_⟩
    simp [B6] at hvis
    simp
    refine ⟨_, _, hvis, ?_⟩
    cases fd with
    | true =>
     simp [List.idxOf_cons, Fg, hlen, A3, Ff, q0L, q1C]
     exact List.take_of_length_le (by simp [Dz, Dc, hlen])
    | false =>
     cases sp with
     | true => simp [List.idxOf_cons, Fg, hlen, A3, Ff, q0L, q1C]
     | false => simp [List.idxOf_cons, Fg, hlen, A3, Ff, q0L, q1C]
 ·simp [he, Si, q0L, q1C, Ff]
theorem q8C {f : Cf} (he : Ti f = 0) {lim : Int} (h0 : 0 ≤ lim) (h1 : lim ≤ 1000000) :
  (∃ b, Si f lim = (some b, true, 0) ∧ q21 b ∧ b.length = f.vars.toNat ∧ q0G b f.L) ∨
  (Si f lim = (none, true, 9) ∧ ∀ m, q21 m → m.length = f.vars.toNat → ¬ q0G m f.L) ∨ (Si f lim = (none, false, 0) ∧ lim + 1 < 2 ^ f.vars.toNat) := by
 obtain ⟨hv0, hv1, hf⟩ := q0K he
 unfold Si
 rw [if_neg (by simp [he]), if_neg (by omega), if_neg (by omega)]
 generalize f.vars.toNat = n at *
 have hct : (List.replicate n (2 : Int)).count 2 = n := by simp
 have h3 : CV3 (List.replicate n 2) := fun v hv => by have := List.eq_of_mem_replicate hv; omega
 have hspec := Gn hf.cl (lim := lim) (f := n + 1) (a := List.replicate n 2) (u := 0) h3 (by simp) (by omega) h0
 generalize Bv f.L lim (n + 1) (List.replicate n 2) 0 = r at *
 obtain ⟨fd, b, u, sp⟩ := r
 cases fd with
 | true =>
  obtain ⟨k1, k2, k3, k4⟩ := hspec.tot rfl
  exact .inl ⟨b, by simp, k1, k2, k3⟩
 | false =>
  cases sp with
  | true =>
   refine .inr (.inr ⟨by simp, ?_⟩)
   have := hspec.spent
   rw [hct] at this
   rcases Int.lt_or_le (lim + 1) (2 ^ n) with h | h
   ·exact h
   ·have := this (by omega); cases this
  | false =>
   refine .inr (.inl ⟨by simp, fun m hm hl => hspec.none rfl rfl m hm ⟨by simp [hl], fun i hi => ?_⟩⟩)
   by_cases hin : i < n
   ·exact absurd (by simp [List.getD_eq_getElem?_getD, hin]) hi
   ·rw [List.getD_eq_getElem?_getD, List.getD_eq_getElem?_getD, List.getElem?_eq_none (by omega), List.getElem?_eq_none (by simp; omega)]
theorem q6C {f : Cf} (he : Ti f = 0) {lim lim' : Int} (h0 : 0 ≤ lim) (hl : lim ≤ lim') (h1 : lim' ≤ 1000000) (hd : (Si f lim).2.1 = true) : Si f lim' = Si f lim := by
 obtain ⟨hv0, hv1, hf⟩ := q0K he
 have hs : ∀ q, 0 ≤ q → q ≤ 1000000 → Si f q = (if (Bv f.L q (f.vars.toNat + 1) (List.replicate f.vars.toNat 2) 0).1 = true then (some (Bv f.L q (f.vars.toNat + 1) (List.replicate f.vars.toNat 2) 0).2.1, true, 0) else if (Bv f.L q (f.vars.toNat + 1) (List.replicate f.vars.toNat 2) 0).2.2.2 = true then (none, false, 0) else (none, true, 9)) := fun q h2 h3 => by
  unfold Si; rw [if_neg (by simp [he]), if_neg (by omega), if_neg (by omega)]
 rw [hs lim h0 (by omega)] at hd ⊢
 rw [hs lim' (by omega) h1]
 generalize f.vars.toNat = n at *
 have h3 : CV3 (List.replicate n 2) := fun v hv => by have := List.eq_of_mem_replicate hv; omega
 rw [Zk hf.cl hl (f := n + 1) h3 (by simp) (by simp) h0]
 have hspec := Gn hf.cl (lim := lim) (f := n + 1) (a := List.replicate n 2) (u := 0) h3 (by simp) (by simp) h0
 generalize Bv f.L lim (n + 1) (List.replicate n 2) 0 = r at *
 obtain ⟨fd, b, u, sp⟩ := r
 cases sp with
 | false => rfl
 | true =>
  cases fd with
  | true => exact (hspec.tot rfl).2.2.2
  | false => simp at hd
end Go.Lg
namespace Go.Lg
open Go Go.Proofs Go.Shelf
def fiR : Go.Shelf.Ren := ⟨fun | 246 => 63 | 283 => 68 | 284 => 69 | 285 => 70 | 286 => 71 | 129 => 79 | 317 => 78 | 318 => 80 | 319 => 81 | 320 => 82 | 337 => 90 | 338 => 91 | n => n, fun | 2 => 2 | 3 => 3 | 9 => 9 | 4 => 4 | 171 => 130 | 0 => 0 | 53 => 131 | 37 => 22 | 5 => 5 | 173 => 134 | 212 => 143 | 51 => 144 | 20 => 20 | 213 => 145 | 46 => 146 | 232 => 160 | 233 => 161 | n => n, fun | 17 => 0 | 18 => 2 | 19 => 3 | n => n⟩
theorem fiL : LaysM.n246 Tryd.prog fiR where
 mixed := by kernel_rfl
 f129 := Tryd.func79.trans (congrArg some (by kernel_rfl))
 f246 := Tryd.func63.trans (congrArg some (by kernel_rfl))
 f283 := Tryd.func68.trans (congrArg some (by kernel_rfl))
 f284 := Tryd.func69.trans (congrArg some (by kernel_rfl))
 f285 := Tryd.func70.trans (congrArg some (by kernel_rfl))
 f286 := Tryd.func71.trans (congrArg some (by kernel_rfl))
 f317 := Tryd.func78.trans (congrArg some (by kernel_rfl))
 f318 := Tryd.func80.trans (congrArg some (by kernel_rfl))
 f319 := Tryd.func81.trans (congrArg some (by kernel_rfl))
 f320 := Tryd.func82.trans (congrArg some (by kernel_rfl))
 f337 := Tryd.func90.trans (congrArg some (by kernel_rfl))
 f338 := Tryd.func91.trans (congrArg some (by kernel_rfl))
 t0 := Tryd.underlying0
 a0 := Tryd.isAgg0
 z0 := Tryd.sizeOf0
 v0 := Tryd.zeroValue0
 t2 := Tryd.underlying2
 a2 := Tryd.isAgg2
 z2 := Tryd.sizeOf2
 v2 := Tryd.zeroValue2
 t3 := Tryd.underlying3
 a3 := Tryd.isAgg3
 z3 := Tryd.sizeOf3
 v3 := Tryd.zeroValue3
 t4 := Tryd.underlying4
 a4 := Tryd.isAgg4
 z4 := Tryd.sizeOf4
 v4 := Tryd.zeroValue4
 t5 := Tryd.underlying5
 a5 := Tryd.isAgg5
 z5 := Tryd.sizeOf5
 v5 := Tryd.zeroValue5
 t9 := Tryd.underlying9
 a9 := Tryd.isAgg9
 z9 := Tryd.sizeOf9
 v9 := Tryd.zeroValue9
 t20 := Tryd.underlying20
 a20 := Tryd.isAgg20
 z20 := Tryd.sizeOf20
 v20 := Tryd.zeroValue20
 t37 := Tryd.underlying22
 a37 := Tryd.isAgg22
 z37 := Tryd.sizeOf22
 v37 := Tryd.zeroValue22
 t46 := Tryd.underlying146
 a46 := Tryd.isAgg146
 z46 := Tryd.sizeOf146
 v46 := Tryd.zeroValue146
 t51 := Tryd.underlying144
 a51 := Tryd.isAgg144
 z51 := Tryd.sizeOf144
 v51 := Tryd.zeroValue144
 t53 := Tryd.underlying131
 a53 := Tryd.isAgg131
 z53 := Tryd.sizeOf131
 v53 := Tryd.zeroValue131
 t171 := Tryd.underlying130
 a171 := Tryd.isAgg130
 z171 := Tryd.sizeOf130
 v171 := Tryd.zeroValue130
 t173 := Tryd.underlying134
 a173 := Tryd.isAgg134
 z173 := Tryd.sizeOf134
 v173 := Tryd.zeroValue134
 t212 := Tryd.underlying143
 a212 := Tryd.isAgg143
 z212 := Tryd.sizeOf143
 v212 := Tryd.zeroValue143
 t213 := Tryd.underlying145
 a213 := Tryd.isAgg145
 z213 := Tryd.sizeOf145
 t232 := Tryd.underlying160
 a232 := Tryd.isAgg160
 z232 := Tryd.sizeOf160
 v232 := Tryd.zeroValue160
 t233 := Tryd.underlying161
 a233 := Tryd.isAgg161
 z233 := Tryd.sizeOf161
 v233 := Tryd.zeroValue161
 g17 := by kernel_rfl
 g18 := by kernel_rfl
 g19 := by kernel_rfl
 i0 := by kernel_rfl
 i2 := by kernel_rfl
 i3 := by kernel_rfl
 i4 := by kernel_rfl
 i5 := by kernel_rfl
 i9 := by kernel_rfl
 i20 := by kernel_rfl
 i37 := by kernel_rfl
 i46 := by kernel_rfl
 i51 := by kernel_rfl
 i53 := by kernel_rfl
 i171 := by kernel_rfl
 i173 := by kernel_rfl
 i212 := by kernel_rfl
 i232 := by kernel_rfl
 i233 := by kernel_rfl
 m17 := by kernel_rfl
 m18 := by kernel_rfl
 m19 := by kernel_rfl
end Go.Lg
namespace Go.Lg
open Go Go.Proofs Go.Shelf
variable {Γ : Tables}
def q1D : List T := Lib.pow10Tab.map fun z => .v (.int .u64 z)
def Yi (Γ : Tables) : Prop := Γ 0 = some q1D
theorem qBw : Tryd.prog.globalNamed "internal/strconv.uint64pow10" = some 0 := by kernel_rfl
theorem qEE {w : World} {X : Nat → Prop} (h : Gl Γ w X) (hp : Yi Γ) : Lib.TabIs Tryd.prog w "internal/strconv.uint64pow10" .u64 Lib.pow10Tab := by
 obtain ⟨ht, arr, ty, fr, hh, hs⟩ := h _ _ hp
 unfold Lib.TabIs World.var?
 rw [qBw]
 simp only [Option.bind_some, hh, Option.some.injEq]
 obtain ⟨b, off, xs, he, hx, h1, hr, hc⟩ := ht.ip_inv
 simp only [Value.pointer.injEq, Option.some.injEq, Addr.mk.injEq, Nat.add_zero, and_true] at he
 obtain ⟨e1, e2⟩ := he
 subst e1; subst e2
 have hl : q1D.length = Lib.pow10Tab.length := by simp [q1D]
 have hlx : xs.length = q1D.length := hr.1.symm
 refine Array.ext (by simp [hs, hl]) fun i h2 h3 => ?_
 have hi : i < Lib.pow10Tab.length := by simpa using h3
 have hix : i < xs.length := by rw [hlx, hl]; exact hi
 have ht2 := hr.2 i (.v (.int .u64 Lib.pow10Tab[i])) xs[i] (by simp [q1D, hi]) (by simp [hix])
 have hv := ht2.v_inv
 have hcc := hc i xs[i] (by simp [hix])
 simp only [World.cell?, hh, Nat.zero_add] at hcc
 have : arr[i]? = some xs[i] := hcc
 rw [Array.getElem?_eq_getElem h2] at this
 rw [Option.some.inj this]
 simp [hv]
theorem q7P (vs : Array Value) (w : World) : (callFunc 63 vs).run Tryd.prog w = .ok (.enter 63 vs) w := enters_of Tryd.func63 (by kernel_rfl) rfl vs w
def C4 (n : Int) : ByteArray := ⟨(Lib.itoa n).toArray⟩
theorem qAZ (hP : Yi Γ) (n : Int) (hn : I64 n) : A5 Tryd.prog Γ 63 [tI n, tI 10] (.v (.string (C4 n))) := by
 intro w X vs hg hx hts
 obtain ⟨x, xs, rfl, h1, h2⟩ := hts.cons_inv
 obtain ⟨y, ys, rfl, h3, h4⟩ := h2.cons_inv
 have := h4.nil_inv; subst this
 cases h1; cases h3
 refine .inl ⟨q7P _ _, ?_⟩
 refine (Any.internal_strconv_FormatInt_10 fiL n (by unfold I64 at hn; omega) (by unfold I64 at hn; omega) w (qEE hg hP)).mono fun e w' ⟨he, k, os, hw⟩ => ?_
 subst hw
 refine ⟨_, he, ⟨rfl, rfl, rfl, ?_, fun k hk => ?_⟩, .v _⟩
 ·simp [Go.Sort.grow]
 ·simp only [Go.Sort.grow]
  rw [Array.getElem?_append_left (by simpa using hk)]
  rfl
theorem q3P (hP : Yi Γ) (n : Int) (hn : I64 n) : A5 Tryd.prog Γ 25 [tI n] (.v (.string (C4 n))) := by
 have h2 : A5 Tryd.prog Γ 52 [tI n] (.v (.string (C4 n))) := by
  refine Ah Zh rfl ?_
  simp [R9]
  refine A4 (qAZ hP n hn) rfl ?_
  simp [Rb]
 refine Ah q17 rfl ?_
 simp [V7]
 refine A4 h2 rfl ?_
 simp [V8]
end Go.Lg
namespace Go.Lg
open Go
section
variable {P : Program} {Γ : Tables} {Q : AX → St → Prop} {s : St}
/- (*probecard/cnfs.Cnf).add (function 43) -/
abbrev Va : IC := (.reg [om 4 0, om 5 0, od 6 (.nck (tm 5)), od 7 (fa 1 6), od 8 (ld 1 7), om 9 1, od 10 (.appA 50 1 (tm 8) (tm 9)), od 11 (.nck (tm 4)), od 12 (fa 1 11), on (.store 1 (tm 12) (tm 10))] [.keepE []])
def Vb : List RV := []
/- (*probecard/cnfs.Cnf).fix (function 39) -/
abbrev Vd : IC := (.seq (.seq (.reg [om 6 2, od 7 (.bin .eql (tm 6) (ku 0))] [.keepE [0, 1, 7]]) (.cond (tm 7) (.reg [om 8 1, od 9 (.un .neg (tm 8)), om 1 9] [.keepE [0, 1]]) .skip)) (.reg [om 10 0, om 11 1, od 12 (.bsl false 3 1 [(tm 11)]), od 13
 (.bslA 50 1 [(tm 12)]), od 14 (.hcallW 43 [(tm 10), (tm 13)] 100000)] [.ren 100010 900, .drop [13], .keepE []]))
def Ve : List RV := []
/- (*probecard/cnfs.Cnf).same (function 40) -/
abbrev Tj : IC := (.reg [om 6 0, om 7 1, od 8 (.un .neg (tm 7)), om 9 2, od 10 (.bsl false 3 1 [(tm 8), (tm 9)]), om 11 1, om 12 2, od 13 (.un .neg (tm 12)), od 14 (.bsl false 3 1 [(tm 11), (tm 13)]), od 15 (.bslA 50 1 [(tm 10), (tm 14)]), od 16
 (.hcallW 43 [(tm 6), (tm 15)] 100000)] [.ren 100010 900, .drop [15], .keepE []])
def Tm : List RV := []
/- (*probecard/cnfs.Cnf).odd (function 60) -/
abbrev Vf : IC := (.reg [om 8 0, om 9 1, od 10 (.un .neg (tm 9)), om 11 2, om 12 3, od 13 (.bsl false 3 1 [(tm 10), (tm 11), (tm 12)]), om 14 1, od 15 (.un .neg (tm 14)), om 16 2, od 17 (.un .neg (tm 16)), om 18 3, od 19 (.un .neg (tm 18)), od 20
 (.bsl false 3 1 [(tm 15), (tm 17), (tm 19)]), om 21 1, om 22 2, od 23 (.un .neg (tm 22)), om 24 3, od 25 (.bsl false 3 1 [(tm 21), (tm 23), (tm 24)]), om 26 1, om 27 2, om 28 3, od 29 (.un .neg (tm 28)), od 30 (.bsl false 3 1 [(tm
 26), (tm 27), (tm 29)]), od 31 (.bslA 50 1 [(tm 13), (tm 20), (tm 25), (tm 30)]), od 32 (.hcallW 43 [(tm 8), (tm 31)] 100000)] [.ren 100010 900, .drop [31], .keepE []])
def Vg : List RV := []
/- (*probecard/cnfs.Cnf).every (function 58) -/
abbrev q0M : IC := .gh (.seq (.reg [od 14 (.bin .lss (tm 13) (tm 12))] [.keepE [0, 1, 6, 11, 12, 13, 14]]) (.seq (.cond (tm 14) .skip (.exit 0)) (.seq (.block 1 (.seq (.reg [od 15 (ia 1 11 13), od 16 (ld 1 15), om 8 16] [.keepE [0, 1, 6, 8, 11, 12,
 13]]) (.seq (.reg [om 17 0, om 18 1, od 19 (.un .neg (tm 18)), om 20 8, od 21 (.bsl false 3 1 [(tm 19), (tm 20)]), od 22 (.bslA 50 1 [(tm 21)]), od 23 (.hcallW 43 [(tm 17), (tm 22)] 100000)] [.ren 100010 900, .drop [22], .renS 21
 3000 13, .keepE [0, 1, 6, 8, 11, 12, 13]]) (.reg [om 24 6, om 25 8, od 26 (.un .neg (tm 25)), od 27 (.bsl true 3 1 [(tm 26)]), od 28 (.app false 3 1 (tm 24) (tm 27)), om 6 28] [.keepE [0, 1, 6, 11, 12, 13]])))) (.reg [od 29 (.bin
 .add (tm 13) (ki 1)), om 13 29] [.keepE [0, 1, 6, 11, 12, 13]])))) [.keepE [0, 1, 6, 11, 12, 13]]
def q0N : IC := .loop q0M
abbrev Rk : IC := (.seq (.reg [om 9 1, od 10 (.bsl false 3 1 [(tm 9)]), om 6 10] [.keepE [0, 1, 2, 6]]) (.seq (.seq (.reg [om 11 2, od 12 (le 0 11), od 13 (.mv (ki 0))] [.keepE [0, 1, 6, 11, 12, 13]]) (.block 0 q0N)) (.reg [om 30 0, om
 31 6, od 32 (.bslA 50 1 [(tm 31)]), od 33 (.hcallW 43 [(tm 30), (tm 32)] 100000)] [.ren 100010 900, .drop [32], .ren 10 3900, .ren 28 3900, .keepE []])))
def Rl : List RV := []
/- (*probecard/cnfs.Cnf).fresh (function 41) -/
abbrev Rm : IC := (.seq (.reg [od 2 (.mv (ki 0))] [.keepE [0]]) (.seq (.reg [om 3 0, od 4 (.nck (tm 3)), od 5 (fa 0 4), od 6 (ld 1 5), od 7 (.bin .add (tm 6) (ki 1)), od 8 (.nck (tm 3)), od 9 (fa 0 8), on (.store 1 (tm 9) (tm 7))] [.keepE [0]])
 (.seq (.reg [om 10 0, od 11 (.nck (tm 10)), od 12 (fa 0 11), od 13 (ld 1 12), om 2 13] [.keepE [2]]) .ret)))
def Rn : List RV := [.tmp 2]
/- (*probecard/cnfs.Cnf).size (function 36) -/
abbrev Tn : IC := (.seq (.reg [od 2 (.mv (ki 0))] [.keepE [0]]) (.seq (.seq (.reg [om 3 0, od 4 (.nck (tm 3)), od 5 (fa 0 4), od 6 (ld 1 5), od 7 (.bin .gtr (tm 6) (ki 65536)), om 8 7, oF 9 (.mv (tm 0)) 8, oF 10 (.nck (tm 9)) 8, oF 11 (fa 1 10) 8,
 oF 12 (ld 1 11) 8, oF 13 (le 0 12) 8, oF 14 (.bin .gtr (tm 13) (ki 262144)) 8, od 15 (.pick (tm 8) kT (tm 14))] [.keepE [15]]) (.cond (tm 15) (.seq (.reg [od 2 (.mv (ki 3))] [.keepE [2]]) .ret) .skip)) (.seq (.reg [od 2 (.mv (ki
 0))] [.keepE [2]]) .ret)))
def To : List RV := [.tmp 2]
/- probecard/cnfs.opposite (function 59) -/
abbrev q1E : IC := .gh (.seq (.reg [od 12 (.bin .lss (tm 11) (tm 10))] [kp [3, 9, 10, 11, 12] [8]]) (.seq (.cond (tm 12) .skip (.exit 0)) (.seq (.block 1 (.seq (.reg [om 13 11, od 14 (ia 1 9 11), od 15 (ld 1 14), om 4 13, om 5 15] [kp [3, 4, 5, 9,
 10, 11] [8]]) (.reg [om 16 3, om 17 4, om 18 5, od 19 (.un .neg (tm 18)), od 20 (ia 1 16 17), on (.store 1 (tm 20) (tm 19))] [kp [3, 9, 10, 11] [8]]))) (.reg [od 21 (.bin .add (tm 11) (ki 1)), om 11 21] [kp [3, 9, 10, 11] [8]]))))
 [kp [3, 9, 10, 11] [8]]
def q1F : IC := .loop q1E
abbrev Tq : IC := (.seq (.reg [od 2 (.mv kN)] [kp [0] []]) (.seq (.reg [om 6 0, od 7 (le 0 6), od 8 (.mk 3 1 [(.int .i64 0)] (tm 7) (tm 7)), om 3 8] [kp [0, 3] [8]]) (.seq (.seq (.reg [om 9 0, od 10 (le 0 9), od 11 (.mv (ki 0))] [kp [3, 9, 10, 11]
 [8]]) (.block 0 q1F)) (.seq (.reg [om 22 3, om 2 22] [kp [2] [8]]) .ret))))
def Tt : List RV := [.tmp 2]
/- (*probecard/cnfs.Cnf).gate (function 35) -/
abbrev q1G : IC := .gh (.seq (.reg [od 68 (.bin .lss (tm 67) (tm 66))] [.keepE [0, 2, 3, 8, 65, 66, 67, 68]]) (.seq (.cond (tm 68) .skip (.exit 1)) (.seq (.block 2 (.seq (.reg [od 69 (ia 1 65 67), od 70 (ld 1 69), om 10 70] [.keepE [0, 2, 3, 8, 10,
 65, 66, 67]]) (.seq (.reg [om 71 0, od 72 (.hcallW 41 [(tm 71)] 0), om 11 72] [.keepE [0, 2, 3, 8, 10, 11, 65, 66, 67]]) (.seq (.reg [om 73 0, om 74 11, om 75 8, om 76 10, od 77 (.hcallW 60 [(tm 73), (tm 74), (tm 75), (tm 76)]
 200000)] [.ren 200900 900, .renS 200013 3000 67, .renS 200020 3100 67, .renS 200025 3200 67, .renS 200030 3300 67, .keepE [0, 2, 3, 11, 65, 66, 67]]) (.reg [om 78 11, om 8 78] [.keepE [0, 2, 3, 8, 65, 66, 67]]))))) (.reg [od 79
 (.bin .add (tm 67) (ki 1)), om 67 79] [.keepE [0, 2, 3, 8, 65, 66, 67]])))) [.keepE [0, 2, 3, 8, 65, 66, 67]]
def q1H : IC := .loop q1G
abbrev Tu : IC := (.seq (.seq (.reg [om 15 1, od 16 (.call 57 [(tm 15)])] [.keepE [0, 1, 2, 3, 16]]) (.cond (tm 16) (.reg [om 17 2, od 18 (.un .neg (tm 17)), om 2 18] [.keepE [0, 1, 2, 3]]) .skip)) (.seq (.reg [om 19 1] [.keepE [0, 2, 3, 19]])
 (.block 0 (.seq (.reg [od 21 (.bin .eql (tm 19) (ku 1)), om 20 21] [.keepE [0, 2, 3, 19, 20]]) (.cond (tm 20) (.reg [om 22 0, om 23 2, od 24 (.hcallW 39 [(tm 22), (tm 23), (ku 0)] 200000)] [.ren 200900 900, .ren 200012 12, .keepE
 []]) (.seq (.reg [od 26 (.bin .eql (tm 19) (ku 2)), om 25 26] [.keepE [0, 2, 3, 19, 25]]) (.cond (tm 25) (.reg [om 27 0, om 28 2, od 29 (.hcallW 39 [(tm 27), (tm 28), (ku 1)] 200000)] [.ren 200900 900, .ren 200012 12, .keepE []])
 (.seq (.seq (.reg [od 31 (.bin .eql (tm 19) (ku 3)), om 30 31] [.keepE [0, 2, 3, 19, 30]]) (.cond (tm 30) .skip (.reg [od 32 (.bin .eql (tm 19) (ku 4)), om 30 32] [.keepE [0, 2, 3, 19, 30]]))) (.cond (tm 30) (.reg [om 33 0, om 34
 2, om 35 3, od 36 (.iadr 1 (tm 35) (ki 0)), od 37 (ld 1 36), od 38 (.hcallW 40 [(tm 33), (tm 34), (tm 37)] 200000)] [.ren 200900 900, .ren 200010 12, .ren 200014 14, .keepE []]) (.seq (.seq (.reg [od 40 (.bin .eql (tm 19) (ku 5)),
 om 39 40] [.keepE [0, 2, 3, 19, 39]]) (.cond (tm 39) .skip (.reg [od 41 (.bin .eql (tm 19) (ku 6)), om 39 41] [.keepE [0, 2, 3, 19, 39]]))) (.cond (tm 39) (.reg [om 42 0, om 43 2, om 44 3, od 45 (.hcallW 58 [(tm 42), (tm 43), (tm
 44)] 200000)] [.ren 200900 900, .renB 203000 3000 8, .ren 203900 3900, .keepE []]) (.seq (.seq (.reg [od 47 (.bin .eql (tm 19) (ku 7)), om 46 47] [.keepE [0, 2, 3, 19, 46]]) (.cond (tm 46) .skip (.reg [od 48 (.bin .eql (tm 19) (ku
 8)), om 46 48] [.keepE [0, 2, 3, 19, 46]]))) (.cond (tm 46) (.reg [om 49 0, om 50 2, od 51 (.un .neg (tm 50)), om 52 3, od 53 (.call 59 [(tm 52)]), od 54 (.hcallW 58 [(tm 49), (tm 51), (tm 53)] 200000)] [.ren 200900 900, .renB
 203000 3000 8, .ren 203900 3900, .keepE []]) (.seq (.seq (.reg [od 56 (.bin .eql (tm 19) (ku 9)), om 55 56] [.keepE [0, 2, 3, 19, 55]]) (.cond (tm 55) .skip (.reg [od 57 (.bin .eql (tm 19) (ku 10)), om 55 57] [.keepE [0, 2, 3, 19,
 55]]))) (.cond (tm 55) (.seq (.reg [om 58 3, od 59 (.iadr 1 (tm 58) (ki 0)), od 60 (ld 1 59), om 8 60] [.keepE [0, 2, 3, 8]]) (.seq (.seq (.reg [om 61 3, om 62 3, od 63 (le 0 62), od 64 (.bin .sub (tm 63) (ki 1)), od 65 (.slice 1
 (tm 61) (some (ki 1)) (some (tm 64)) none), od 66 (le 0 65), od 67 (.mv (ki 0))] [.keepE [0, 2, 3, 8, 65, 66, 67]]) (.block 1 q1H)) (.reg [om 80 0, om 81 2, om 82 8, om 83 3, om 84 3, od 85 (le 0 84), od 86 (.bin .sub
 (tm 85) (ki 1)), od 87 (ia 1 83 86), od 88 (ld 1 87), od 89 (.hcallW 60 [(tm 80), (tm 81), (tm 82), (tm 88)] 200000)] [.ren 200900 900, .ren 200013 3901, .ren 200020 3902, .ren 200025 3903, .ren 200030 3904, .keepE []]))) (.seq
 (.reg [od 91 (.bin .eql (tm 19) (ku 11)), om 90 91] [.keepE [0, 2, 3, 90]]) (.cond (tm 90) (.seq (.reg [om 92 3, od 93 (.iadr 1 (tm 92) (ki 0)), od 94 (ld 1 93), om 95 3, od 96 (.iadr 1 (tm 95) (ki 1)), od 97 (ld 1 96), om 98 3, od
 99 (.iadr 1 (tm 98) (ki 2)), od 100 (ld 1 99), om 12 94, om 13 97, om 14 100] [.keepE [0, 2, 12, 13, 14]]) (.reg [om 101 0, om 102 12, om 103 13, od 104 (.un .neg (tm 103)), om 105 2, od 106 (.bsl false 3 1 [(tm 102), (tm 104), (tm
 105)]), om 107 12, om 108 13, om 109 2, od 110 (.un .neg (tm 109)), od 111 (.bsl false 3 1 [(tm 107), (tm 108), (tm 110)]), om 112 12, od 113 (.un .neg (tm 112)), om 114 14, od 115 (.un .neg (tm 114)), om 116 2, od 117 (.bsl false
 3 1 [(tm 113), (tm 115), (tm 116)]), om 118 12, od 119 (.un .neg (tm 118)), om 120 14, om 121 2, od 122 (.un .neg (tm 121)), od 123 (.bsl false 3 1 [(tm 119), (tm 120), (tm 122)]), od 124 (.bslA 50 1 [(tm 106), (tm 111), (tm 117),
 (tm 123)]), od 125 (.hcallW 43 [(tm 101), (tm 124)] 200000)] [.ren 200010 900, .drop [124], .keepE []])) .skip)))))))))))))))))
def Tv : List RV := []
/- probecard/cnfs.free (function 34) -/
abbrev q0O : IC := (.seq (.reg [od 2 (.mv kF)] [kp [0] []]) (.seq (.reg [om 3 0, od 4 (.bin .eql (tm 3) (ku 0)), om 5 4, oF 6 (.mv (tm 0)) 5, oF 7 (.bin .eql (tm 6) (ku 14)) 5, od 8 (.pick (tm 5) kT (tm 7)), om 2 8] [kp [2] []]) .ret))
def q0P : List RV := [.tmp 2]
/- probecard/cnfs.Circuit (function 18) -/
abbrev q22 : IC := .gh (.seq (.reg [od 38 (.bin .lss (tm 37) (tm 36))] [.keepE [2, 5, 6, 7, 8, 23, 24, 25, 35, 36, 37, 38]]) (.seq (.cond (tm 38) .skip (.exit 2)) (.seq (.block 3 (.seq (.reg [om 39 37, od 40 (ia 1 35 37), od 41 (ld 1 40), om 9 39, om
 10 41] [.keepE [2, 5, 6, 7, 8, 9, 10, 23, 24, 25, 35, 36, 37]]) (.reg [om 42 8, om 43 9, om 44 10, od 45 (.bin .add (tm 44) (ki 1)), od 46 (ia 1 42 43), on (.store 1 (tm 46) (tm 45))] [.keepE [2, 5, 6, 7, 8, 23, 24, 25, 35, 36,
 37]]))) (.reg [od 47 (.bin .add (tm 37) (ki 1)), om 37 47] [.keepE [2, 5, 6, 7, 8, 23, 24, 25, 35, 36, 37]])))) [.keepE [2, 5, 6, 7, 8, 23, 24, 25, 35, 36, 37]]
def q23 : IC := .loop q22
abbrev q24 : IC := .gh (.seq (.reg [od 26 (.bin .lss (tm 25) (tm 24))] [.keepE [2, 5, 23, 24, 25, 26]]) (.seq (.cond (tm 26) .skip (.exit 0)) (.seq (.block 1 (.seq (.reg [om 27 25, od 28 (ia 4 23 25), od 29 (lG 4 28), od 7 (.alloc false [(.int .u8
 0), (.slice none 0 0), (.int .i64 0), (.int .i64 0)]), om 6 27, on (.store 4 (tm 7) (tm 29))] [.keepE [2, 5, 6, 7, 23, 24, 25]]) (.seq (.reg [od 30 (fa 1 7), od 31 (ld 1 30), od 32 (le 0 31), od 33 (.mk 3 1 [(.int .i64 0)] (tm 32)
 (tm 32)), om 8 33] [.keepE [2, 5, 6, 7, 8, 23, 24, 25]]) (.seq (.seq (.reg [od 34 (fa 1 7), od 35 (ld 1 34), od 36 (le 0 35), od 37 (.mv (ki 0))] [.keepE [2, 5, 6, 7, 8, 23, 24, 25, 35, 36, 37]]) (.block 2 q23)) (.seq
 (.seq (.reg [od 48 (fa 0 7), od 49 (ld 1 48), od 50 (.call 34 [(tm 49)]), od 51 (.un .not (tm 50))] [.frz 33, .keepE [2, 5, 6, 7, 8, 23, 24, 25, 51]]) (.cond (tm 51) (.reg [od 52 (fa 0 7), od 53 (ld 1 52), om 54 6, od 55 (.bin .add
 (tm 54) (ki 1)), om 56 8, od 57 (.hcallW 35 [(tm 5), (tm 53), (tm 55), (tm 56)] 200000)] [.ren 200900 900, .renS 203000 20000 25, .renS 203001 21000 25, .renS 203900 22000 25, .keepE [2, 5, 23, 24, 25]]) .skip)) (.seq (.reg [od 58
 (.hcallW 36 [(tm 5)] 0), om 11 58] [.keepE [2, 5, 11, 23, 24, 25]]) (.seq (.reg [om 59 11, od 60 (.bin .neq (tm 59) (ki 0))] [.keepE [2, 5, 11, 23, 24, 25, 60]]) (.cond (tm 60) (.seq (.reg [od 61 (.build [(1, (ki 0)), (1, kN)]), om
 62 11, on (.store 2 (tm 2) (tm 61)), om 3 62] [.keepE [2, 3]]) .ret) .skip)))))))) (.reg [od 63 (.bin .add (tm 25) (ki 1)), om 25 63] [.drop [7], .keepE [2, 5, 23, 24, 25]])))) [.keepE [2, 5, 23, 24, 25]]
def q25 : IC := .loop q24
abbrev Vh : IC := (.seq (.reg [od 1 (.box true (tm 0)), od 2 (.alloc false [(.int .i64 0), (.slice none 0 0)]), od 3 (.mv (ki 0))] [.keepE [1, 2]]) (.seq (.seq (.reg [od 12 (lG 4 1), od 13 (.call 16 [(tm 12)]), om 4 13] [.keepE [1, 2, 4]]) (.seq
 (.reg [om 14 4, od 15 (.bin .neq (tm 14) (ki 0))] [.keepE [1, 2, 4, 15]]) (.cond (tm 15) (.seq (.reg [od 16 (.build [(1, (ki 0)), (1, kN)]), om 17 4, on (.store 2 (tm 2) (tm 16)), om 3 17] [.keepE [2, 3]]) .ret) .skip))) (.seq
 (.reg [od 18 (fa 0 1), od 19 (ld 1 18), od 20 (le 0 19), od 21 (.build [(1, (tm 20)), (1, kN)]), od 5 (.alloc false [(.int .i64 0), (.slice none 0 0)]), on (.store 2 (tm 5) (tm 21))] [.nlb 5 1 900 50 1, .toR 900, .keepE [1, 2, 5]])
 (.seq (.seq (.reg [od 22 (fa 0 1), od 23 (ld 1 22), od 24 (le 0 23), od 25 (.mv (ki 0))] [.keepE [2, 5, 23, 24, 25]]) (.block 0 q25)) (.seq (.reg [od 64 (lG 2 5), on (.store 2 (tm 2) (tm 64)), od 3 (.mv (ki 0))] [.keepE
 [2, 3]]) .ret)))))
def Vi : List RV := [.cell 2 2 true, .tmp 3]
/- probecard/cnfs.check (function 37) -/
abbrev Yj : IC := (.seq (.reg [od 2 (.box true (tm 0)), od 3 (.box true (tm 1)), od 4 (.mv (ki 0))] [kp [2, 3] []]) (.seq (.seq (.reg [od 7 (lG 4 2), od 8 (.call 16 [(tm 7)]), om 5 8] [kp [2, 3, 5] []]) (.seq (.reg [om 9 5, od 10 (.bin .neq (tm 9)
 (ki 0))] [kp [2, 3, 5, 10] []]) (.cond (tm 10) (.seq (.reg [om 11 5, om 4 11] [kp [4] []]) .ret) .skip))) (.seq (.seq (.reg [od 12 (lG 4 2), od 13 (lG 5 3), od 14 (.call 17 [(tm 12), (tm 13)]), om 6 14] [kp [3, 6] []]) (.seq (.reg
 [om 15 6, od 16 (.bin .neq (tm 15) (ki 0))] [kp [3, 6, 16] []]) (.cond (tm 16) (.seq (.reg [om 17 6, om 4 17] [kp [4] []]) .ret) .skip))) (.seq (.seq (.reg [od 18 (fa 0 3), od 19 (ld 1 18), od 20 (.bin .neq (tm 19) (ku 0))] [kp
 [20] []]) (.cond (tm 20) (.seq (.reg [od 4 (.mv (ki 7))] [kp [4] []]) .ret) .skip)) (.seq (.reg [od 4 (.mv (ki 0))] [kp [4] []]) .ret)))))
def Yk : List RV := [.tmp 4]
/- probecard/cnfs.Miter (function 19) -/
abbrev q3j : IC := .gh (.seq (.reg [od 60 (.bin .lss (tm 59) (tm 58))] [.keepE [2, 3, 4, 7, 9, 10, 12, 51, 52, 53, 57, 58, 59, 60]]) (.seq (.cond (tm 60) .skip (.exit 2)) (.seq (.block 3 (.seq (.reg [om 61 59, od 62 (ia 1 57 59), od 63 (ld 1 62), om
 13 61, om 14 63] [.keepE [2, 3, 4, 7, 9, 10, 12, 13, 14, 51, 52, 53, 57, 58, 59]]) (.reg [om 64 12, om 65 13, om 66 10, om 67 14, od 68 (.callv (tm 66) [(tm 67)]), od 69 (ia 1 64 65), on (.store 1 (tm 69) (tm 68))] [.keepE [2, 3,
 4, 7, 9, 10, 12, 51, 52, 53, 57, 58, 59]]))) (.reg [od 70 (.bin .add (tm 59) (ki 1)), om 59 70] [.keepE [2, 3, 4, 7, 9, 10, 12, 51, 52, 53, 57, 58, 59]])))) [.keepE [2, 3, 4, 7, 9, 10, 12, 51, 52, 53, 57, 58, 59]]
def q3k : IC := .loop q3j
abbrev q3l : IC := .gh (.seq (.reg [od 54 (.bin .lss (tm 53) (tm 52))] [.keepE [2, 3, 4, 7, 9, 10, 51, 52, 53, 54]]) (.seq (.cond (tm 54) .skip (.exit 0)) (.seq (.block 1 (.seq (.reg [od 55 (ia 1 51 53), od 56 (ld 1 55), om 12 56] [.keepE [2, 3, 4,
 7, 9, 10, 12, 51, 52, 53]]) (.seq (.reg [om 57 12, od 58 (le 0 57), od 59 (.mv (ki 0))] [.keepE [2, 3, 4, 7, 9, 10, 12, 51, 52, 53, 57, 58, 59]]) (.block 2 q3k)))) (.reg [od 71 (.bin .add (tm 53) (ki 1)), om 53 71]
 [.keepE [2, 3, 4, 7, 9, 10, 51, 52, 53]])))) [.keepE [2, 3, 4, 7, 9, 10, 51, 52, 53]]
def q3m : IC := .loop q3l
abbrev q3n : IC := .gh (.seq (.reg [od 113 (.bin .lss (tm 112) (tm 111))] [.keepE [2, 3, 4, 7, 9, 15, 16, 17, 18, 78, 79, 80, 110, 111, 112, 113]]) (.seq (.cond (tm 113) .skip (.exit 6)) (.seq (.block 7 (.seq (.reg [om 114 112, od 115 (ia 1 110 112),
 od 116 (ld 1 115), om 19 114, om 20 116] [.keepE [2, 3, 4, 7, 9, 15, 16, 17, 18, 19, 20, 78, 79, 80, 110, 111, 112]]) (.seq (.reg [om 117 18, om 118 19, od 119 (ld 1 9), om 120 20, od 121 (.bin .add (tm 119) (tm 120)), od 122 (.bin
 .add (tm 121) (ki 1)), od 123 (ia 1 117 118), on (.store 1 (tm 123) (tm 122))] [.keepE [2, 3, 4, 7, 9, 15, 16, 17, 18, 19, 78, 79, 80, 110, 111, 112]]) (.seq (.reg [od 124 (fa 1 3), od 125 (lG 2 124), om 126 15, om 127 19, od 128
 (.build [(1, (tm 126)), (1, (tm 127))]), od 129 (.eqg true [(some .i64), (some .i64)] (tm 125) (tm 128))] [.keepE [2, 3, 4, 7, 9, 15, 16, 17, 18, 19, 78, 79, 80, 110, 111, 112, 129]]) (.cond (tm 129) (.seq (.reg [om 130 18, om 131
 19, od 132 (.hcallW 41 [(tm 7)] 0), od 133 (ia 1 130 131), on (.store 1 (tm 133) (tm 132))] [.keepE [2, 3, 4, 7, 9, 15, 16, 17, 18, 19, 78, 79, 80, 110, 111, 112]]) (.reg [om 134 18, om 135 19, od 136 (ia 1 134 135), od 137 (ld 1
 136), od 138 (fa 3 3), od 139 (ld 1 138), od 140 (.hcallW 39 [(tm 7), (tm 137), (tm 139)] 100000)] [.keepE [2, 3, 4, 7, 9, 15, 16, 17, 18, 78, 79, 80, 110, 111, 112]])) .skip))))) (.reg [od 141 (.bin .add (tm 112) (ki 1)), om 112
 141] [.keepE [2, 3, 4, 7, 9, 15, 16, 17, 18, 78, 79, 80, 110, 111, 112]])))) [.keepE [2, 3, 4, 7, 9, 15, 16, 17, 18, 78, 79, 80, 110, 111, 112]]
def q3o : IC := .loop q3n
abbrev q3p : IC := .gh (.seq (.reg [od 81 (.bin .lss (tm 80) (tm 79))] [.keepE [2, 3, 4, 7, 9, 78, 79, 80, 81]]) (.seq (.cond (tm 81) .skip (.exit 4)) (.seq (.block 5 (.seq (.reg [om 82 80, od 83 (ia 4 78 80), od 84 (lG 4 83), od 16 (.alloc false
 [(.int .u8 0), (.slice none 0 0), (.int .i64 0), (.int .i64 0)]), om 15 82, on (.store 4 (tm 16) (tm 84))] [.keepE [2, 3, 4, 7, 9, 15, 16, 78, 79, 80]]) (.seq (.reg [od 85 (ld 1 9), om 86 15, od 87 (.bin .add (tm 85) (tm 86)), od
 88 (.bin .add (tm 87) (ki 1)), om 17 88] [.keepE [2, 3, 4, 7, 9, 15, 16, 17, 78, 79, 80]]) (.seq (.seq (.reg [od 89 (fa 1 3), od 90 (lG 2 89), om 91 15, od 92 (.build [(1, (tm 91)), (1, (.const (.int .i64 (-1))))]), od 93 (.eqg
 true [(some .i64), (some .i64)] (tm 90) (tm 92))] [.keepE [2, 3, 4, 7, 9, 15, 16, 17, 78, 79, 80, 93]]) (.cond (tm 93) (.seq (.reg [om 94 17, od 95 (fa 3 3), od 96 (ld 1 95), od 97 (.hcallW 39 [(tm 7), (tm 94), (tm 96)] 100000)]
 [.ren 100900 400900, .renS 100012 30000 80, .keepE [2, 3, 4, 7, 9, 78, 79, 80]]) (.exit 5)) .skip)) (.seq (.seq (.reg [od 98 (fa 0 16), od 99 (ld 1 98), od 100 (.call 34 [(tm 99)])] [.keepE [2, 3, 4, 7, 9, 15, 16, 17, 78, 79, 80,
 100]]) (.cond (tm 100) (.seq (.reg [om 101 17, om 102 15, od 103 (.bin .add (tm 102) (ki 1)), od 104 (.hcallW 40 [(tm 7), (tm 101), (tm 103)] 100000)] [.ren 100900 400900, .renS 100010 31000 80, .renS 100014 32000 80, .keepE [2, 3,
 4, 7, 9, 78, 79, 80]]) (.exit 5)) .skip)) (.seq (.reg [od 105 (fa 1 16), od 106 (ld 1 105), od 107 (le 0 106), od 108 (.mk 3 1 [(.int .i64 0)] (tm 107) (tm 107)), om 18 108] [.keepE [2, 3, 4, 7, 9, 15, 16, 17, 18, 78, 79, 80]])
 (.seq (.seq (.reg [od 109 (fa 1 16), od 110 (ld 1 109), od 111 (le 0 110), od 112 (.mv (ki 0))] [.keepE [2, 3, 4, 7, 9, 15, 16, 17, 18, 78, 79, 80, 110, 111, 112]]) (.block 6 q3o)) (.seq (.pre [.frz 108] (.reg [od 142 (fa
 0 16), od 143 (ld 1 142), om 144 17, om 145 18, od 146 (.hcallW 35 [(tm 7), (tm 143), (tm 144), (tm 145)] 100000)] [.ren 100900 400900, .renS 103000 33000 80, .renS 103001 34000 80, .renS 103900 35000 80, .keepE [2, 3, 4, 7, 9, 78,
 79, 80]])) (.seq (.reg [od 147 (.hcallW 36 [(tm 7)] 0), om 21 147] [.keepE [2, 3, 4, 7, 9, 21, 78, 79, 80]]) (.seq (.reg [om 148 21, od 149 (.bin .neq (tm 148) (ki 0))] [.keepE [2, 3, 4, 7, 9, 21, 78, 79, 80, 149]]) (.cond (tm 149)
 (.seq (.reg [od 150 (.build [(1, (ki 0)), (1, kN)]), om 151 21, on (.store 2 (tm 4) (tm 150)), om 5 151] [.keepE [4, 5]]) .ret) .skip))))))))))) (.reg [od 152 (.bin .add (tm 80) (ki 1)), om 80 152] [.drop [16], .keepE [2, 3, 4, 7,
 9, 78, 79, 80]])))) [.keepE [2, 3, 4, 7, 9, 78, 79, 80]]
def q3q : IC := .loop q3p
abbrev q3r : IC := .gh (.seq (.reg [od 158 (.bin .lss (tm 157) (tm 156))] [.keepE [2, 3, 4, 7, 22, 23, 155, 156, 157, 158]]) (.seq (.cond (tm 158) .skip (.exit 8)) (.seq (.block 9 (.seq (.reg [od 159 (ia 1 155 157), od 160 (ld 1 159), om 25 160]
 [.keepE [2, 3, 4, 7, 22, 23, 25, 155, 156, 157]]) (.reg [om 161 23, om 162 25, od 163 (.hcallvW (tm 161) [(tm 162)] 100000)] [.ren 100900 400900, .ren 100032 905, .renS 100015 36000 157, .renS 100026 37000 157, .keepE [2, 3, 4, 7,
 22, 23, 155, 156, 157]]))) (.reg [od 164 (.bin .add (tm 157) (ki 1)), om 157 164] [.keepE [2, 3, 4, 7, 22, 23, 155, 156, 157]])))) [.keepE [2, 3, 4, 7, 22, 23, 155, 156, 157]]
def q3s : IC := .loop q3r
abbrev q3Q : IC := .gh (.seq (.reg [od 169 (.bin .lss (tm 168) (tm 167))] [.keepE [2, 3, 4, 7, 22, 23, 166, 167, 168, 169]]) (.seq (.cond (tm 169) .skip (.exit 10)) (.seq (.block 11 (.seq (.reg [od 170 (ia 1 166 168), od 171 (ld 1 170), om 27 171]
 [.keepE [2, 3, 4, 7, 22, 23, 27, 166, 167, 168]]) (.seq (.reg [od 172 (fa 0 2), od 173 (ld 1 172), om 174 27, od 175 (ia 4 173 174), od 176 (fa 1 175), od 177 (ld 1 176), od 178 (.iadr 1 (tm 177) (ki 0)), od 179 (ld 1 178), om 28
 179] [.keepE [2, 3, 4, 7, 22, 23, 27, 28, 166, 167, 168]]) (.seq (.seq (.reg [od 180 (fa 1 3), od 181 (lG 2 180), om 182 27, od 183 (.build [(1, (tm 182)), (1, (ki 0))]), od 184 (.eqg false [(some .i64), (some .i64)] (tm 181) (tm
 183))] [.keepE [2, 3, 4, 7, 22, 23, 28, 166, 167, 168, 184]]) (.cond (tm 184) (.seq (.reg [om 185 23, om 186 28, od 187 (.hcallvW (tm 185) [(tm 186)] 100000)] [.keepE [2, 3, 4, 7, 22, 23, 166, 167, 168]]) (.exit 11)) .skip)) (.seq
 (.reg [od 188 (fa 3 3), od 189 (ld 1 188), od 190 (.bin .eql (tm 189) (ku 0))] [.keepE [2, 3, 4, 7, 22, 23, 28, 166, 167, 168, 190]]) (.cond (tm 190) (.reg [od 191 (ld 1 22), om 192 28, od 193 (.bin .add (tm 192) (ki 1)), od 194
 (.bsl true 3 1 [(tm 193)]), od 195 (.app false 3 1 (tm 191) (tm 194)), on (.store 1 (tm 22) (tm 195))] [.keepE [2, 3, 4, 7, 22, 23, 166, 167, 168]]) (.reg [od 196 (ld 1 22), om 197 28, od 198 (.un .neg (tm 197)), od 199 (.bin .sub
 (tm 198) (ki 1)), od 200 (.bsl true 3 1 [(tm 199)]), od 201 (.app false 3 1 (tm 196) (tm 200)), on (.store 1 (tm 22) (tm 201))] [.keepE [2, 3, 4, 7, 22, 23, 166, 167, 168]]))))))) (.reg [od 202 (.bin .add (tm 168) (ki 1)), om 168
 202] [.keepE [2, 3, 4, 7, 22, 23, 166, 167, 168]])))) [.keepE [2, 3, 4, 7, 22, 23, 166, 167, 168]]
def q3R : IC := .loop q3Q
abbrev Yl : IC := (.seq (.reg [od 2 (.box true (tm 0)), od 3 (.box true (tm 1)), od 4 (.alloc false [(.int .i64 0), (.slice none 0 0)]), od 5 (.mv (ki 0))] [.keepE [2, 3, 4]]) (.seq (.seq (.reg [od 30 (lG 4 2), od 31 (lG 5 3), od 32 (.call 37 [(tm
 30), (tm 31)]), om 6 32] [.keepE [2, 3, 4, 6]]) (.seq (.reg [om 33 6, od 34 (.bin .neq (tm 33) (ki 0))] [.keepE [2, 3, 4, 6, 34]]) (.cond (tm 34) (.seq (.reg [od 35 (.build [(1, (ki 0)), (1, kN)]), om 36 6, on (.store 2 (tm 4) (tm
 35)), om 5 36] [.keepE [4, 5]]) .ret) .skip))) (.seq (.reg [od 38 (lG 4 2), od 39 (.ncall 18 [(tm 38)] 400000), om 37 39, od 40 (ex 37 0), od 41 (ex 37 1), od 7 (.alloc false [(.int .i64 0), (.slice none 0 0)]), on (.store 2 (tm 7)
 (tm 40)), om 8 41] [.keepE [2, 3, 4, 7, 8]]) (.seq (.seq (.reg [om 42 8, od 43 (.bin .neq (tm 42) (ki 0))] [.keepE [2, 3, 4, 7, 8, 43]]) (.cond (tm 43) (.seq (.reg [od 44 (.build [(1, (ki 0)), (1, kN)]), om 45 8, on (.store 2 (tm
 4) (tm 44)), om 5 45] [.keepE [4, 5]]) .ret) .skip)) (.seq (.reg [od 46 (fa 0 2), od 47 (ld 1 46), od 48 (le 0 47), od 9 (.alloc false [(.int .i64 0)]), on (.store 1 (tm 9) (tm 48))] [.keepE [2, 3, 4, 7, 9]]) (.seq (.reg [od 49
 (.mkf 38 [(tm 9)]), om 10 49] [.keepE [2, 3, 4, 7, 9, 10]]) (.seq (.seq (.reg [od 50 (fa 1 7), od 51 (ld 1 50), od 52 (le 0 51), od 53 (.mv (ki 0))] [.keepE [2, 3, 4, 7, 9, 10, 51, 52, 53]]) (.block 0 q3m)) (.seq (.reg
 [od 72 (fa 0 7), od 73 (ld 1 72), od 74 (ld 1 9), od 75 (.bin .add (tm 73) (tm 74)), od 76 (fa 0 7), on (.store 1 (tm 76) (tm 75))] [.keepE [2, 3, 4, 7, 9]]) (.seq (.seq (.reg [od 77 (fa 0 2), od 78 (ld 1 77), od 79 (le 0 78), od
 80 (.mv (ki 0))] [.keepE [2, 3, 4, 7, 9, 78, 79, 80]]) (.block 4 q3q)) (.seq (.reg [od 22 (.alloc false [(.slice none 0 0)])] [.nlb 22 0 905 3 1, .keepE [2, 3, 4, 7, 9, 22]]) (.seq (.reg [od 153 (.mkf 42 [(tm 7), (tm 9),
 (tm 22)]), om 23 153] [.keepE [2, 3, 4, 7, 22, 23]]) (.seq (.seq (.reg [od 154 (fa 3 2), od 155 (ld 1 154), od 156 (le 0 155), od 157 (.mv (ki 0))] [.keepE [2, 3, 4, 7, 22, 23, 155, 156, 157]]) (.block 8 q3s)) (.seq (.seq
 (.reg [od 165 (lG 4 2), od 166 (.call 44 [(tm 165)]), od 167 (le 0 166), od 168 (.mv (ki 0))] [.keepE [2, 3, 4, 7, 22, 23, 166, 167, 168]]) (.block 10 q3R)) (.seq (.reg [od 203 (ld 1 22), od 204 (.bslA 50 1 [(tm 203)]),
 od 205 (.hcallW 43 [(tm 7), (tm 204)] 100000)] [.ren 100010 400900, .drop [204], .keepE [4, 7, 22]]) (.seq (.seq (.reg [od 206 (.hcallW 36 [(tm 7)] 0), om 29 206] [.keepE [4, 7, 22, 29]]) (.seq (.reg [om 207 29, od 208 (.bin .neq
 (tm 207) (ki 0)), om 209 208, oF 210 (ld 1 22) 209, oF 211 (le 0 210) 209, oF 212 (.bin .gtr (tm 211) (ki 4096)) 209, od 213 (.pick (tm 209) kT (tm 212))] [.keepE [4, 7, 213]]) (.cond (tm 213) (.seq (.reg [od 214 (.build [(1, (ki
 0)), (1, kN)]), on (.store 2 (tm 4) (tm 214)), od 5 (.mv (ki 3))] [.keepE [4, 5]]) .ret) .skip))) (.seq (.pre [.frzs 420000 8, .frzs 421000 8, .frzs 422000 8, .frzs 30000 8, .frzs 31000 8, .frzs 32000 8, .frzs 33000 8, .frzs 34000
 8, .frzs 35000 8, .frzs 36000 8, .frzs 37000 8, .frz 905, .frz 400900] (.reg [od 215 (lG 2 7), on (.store 2 (tm 4) (tm 215)), od 5 (.mv (ki 0))] [.keepE [4, 5]])) .ret))))))))))))))))
def Ym : List RV := [.cell 4 2 true, .tmp 5]
/- probecard/cnfs.Miter$1 (function 38) -/
abbrev Vj : IC := (.seq (.reg [od 3 (.mv (ki 0))] [kp [0, 1] []]) (.seq (.block 0 (.seq (.reg [om 5 0, od 6 (ld 1 1), od 7 (.bin .gtr (tm 5) (tm 6)), om 4 7] [kp [0, 1, 4] []]) (.cond (tm 4) (.seq (.reg [om 8 0, od 9 (ld 1 1), od 10 (.bin .add (tm
 8) (tm 9)), om 3 10] [kp [3] []]) .ret) (.seq (.reg [om 12 0, od 13 (ld 1 1), od 14 (.un .neg (tm 13)), od 15 (.bin .lss (tm 12) (tm 14)), om 11 15] [kp [0, 1, 11] []]) (.cond (tm 11) (.seq (.reg [om 16 0, od 17 (ld 1 1), od 18
 (.bin .sub (tm 16) (tm 17)), om 3 18] [kp [3] []]) .ret) .skip))))) (.seq (.reg [om 19 0, om 3 19] [kp [3] []]) .ret)))
def Vk : List RV := [.tmp 3]
/- probecard/cnfs.Miter$2 (function 42) -/
abbrev Vl : IC := (.seq (.reg [od 6 (.hcallW 41 [(tm 1)] 0), om 5 6] [.keepE [0, 1, 2, 3, 5]]) (.seq (.reg [om 7 5, od 8 (.un .neg (tm 7)), om 9 0, od 10 (.bin .add (tm 9) (ki 1)), od 11 (ld 1 2), om 12 0, od 13 (.bin .add (tm 11) (tm 12)), od 14
 (.bin .add (tm 13) (ki 1)), od 15 (.bsl false 3 1 [(tm 8), (tm 10), (tm 14)]), om 16 5, od 17 (.un .neg (tm 16)), om 18 0, od 19 (.un .neg (tm 18)), od 20 (.bin .sub (tm 19) (ki 1)), od 21 (ld 1 2), od 22 (.un .neg (tm 21)), om 23
 0, od 24 (.bin .sub (tm 22) (tm 23)), od 25 (.bin .sub (tm 24) (ki 1)), od 26 (.bsl false 3 1 [(tm 17), (tm 20), (tm 25)]), od 27 (.bslA 50 1 [(tm 15), (tm 26)]), od 28 (.hcallW 43 [(tm 1), (tm 27)] 100000)] [.ren 100010 900, .drop
 [27], .keepE [3, 5]]) (.reg [od 29 (ld 1 3), om 30 5, od 31 (.bsl true 3 1 [(tm 30)]), od 32 (.app false 3 1 (tm 29) (tm 31)), on (.store 1 (tm 3) (tm 32))] [.keepE []])))
def Vm : List RV := []
/- probecard/cnfs.Generate (function 20) -/
abbrev q1I : IC := .gh (.seq (.reg [od 41 (.bin .lss (tm 40) (tm 39))] [kp [3, 6, 10, 38, 39, 40, 41] [6, 900, 901]]) (.seq (.cond (tm 41) .skip (.exit 0)) (.seq (.block 1 (.seq (.reg [od 42 (ia 1 38 40), od 43 (ld 1 42), om 12 43] [kp [3, 6, 10, 12,
 38, 39, 40] [6, 900, 901]]) (.reg [od 44 (fa 0 6), od 45 (.ldR 6 1 false (tm 44)), om 46 10, om 47 12, od 48 (ia 1 46 47), od 49 (.ldT 1 false (tm 48)), od 50 (.bsl true 31 1 [(tm 49)]), oz 51 (.app false 31 1 (tm 45) (tm 50)) 900,
 od 52 (fa 0 6), on (.stR 6 1 (tm 52) (tm 51))] [kp [3, 6, 10, 38, 39, 40] [6, 900, 901]]))) (.reg [od 53 (.bin .add (tm 40) (ki 1)), om 40 53] [kp [3, 6, 10, 38, 39, 40] [6, 900, 901]])))) [kp [3, 6, 10, 38, 39, 40] [6, 900, 901]]
def q1J : IC := .loop q1I
abbrev q1K : IC := .gh (.seq (.reg [od 58 (.bin .lss (tm 57) (tm 56))] [kp [6, 10, 55, 56, 57, 58] [6, 900, 901]]) (.seq (.cond (tm 58) .skip (.exit 2)) (.seq (.block 3 (.seq (.reg [od 59 (ia 1 55 57), od 60 (ld 1 59), om 14 60] [kp [6, 10, 14, 55,
 56, 57] [6, 900, 901]]) (.reg [od 61 (fa 1 6), od 62 (.ldR 6 1 false (tm 61)), om 63 10, om 64 14, od 65 (ia 1 63 64), od 66 (.ldT 1 false (tm 65)), od 67 (.bsl true 31 1 [(tm 66)]), oz 68 (.app false 31 1 (tm 62) (tm 67)) 901, od
 69 (fa 1 6), on (.stR 6 1 (tm 69) (tm 68))] [kp [6, 10, 55, 56, 57] [6, 900, 901]]))) (.reg [od 70 (.bin .add (tm 57) (ki 1)), om 57 70] [kp [6, 10, 55, 56, 57] [6, 900, 901]])))) [kp [6, 10, 55, 56, 57] [6, 900, 901]]
def q1L : IC := .loop q1K
abbrev Tz : IC := (.seq (.reg [od 3 (.box true (tm 0)), od 4 (.box true (tm 1)), od 6 (.alloc false [(.slice none 0 0), (.slice none 0 0)]), od 7 (.mv kF), od 8 (.mv (ki 0))] [.nlb 6 0 900 31 1, .nlb 6 1 901 31 1, kp [2, 3, 4, 6] [6, 900, 901]])
 (.seq (.reg [od 16 (lG 4 3), od 17 (lG 5 4), od 18 (.call 19 [(tm 16), (tm 17)]), om 15 18, od 19 (ex 15 0), od 20 (ex 15 1), od 9 (.alloc false [(.int .i64 0), (.slice none 0 0)]), on (.store 2 (tm 9) (tm 19)), om 8 20] [kp [2, 3,
 6, 8, 9] [6, 9, 900, 901]]) (.seq (.seq (.reg [om 21 8, od 22 (.bin .neq (tm 21) (ki 0))] [kp [2, 3, 6, 8, 9, 22] [6, 9, 900, 901]]) (.cond (tm 22) (.seq (.reg [od 23 (.build [(1, kN), (1, kN)]), om 24 8, on (.store 2 (tm 6) (tm
 23)), od 7 (.mv kF), om 8 24] [kp [6, 7, 8] [6, 900, 901]]) .ret) .skip)) (.seq (.reg [od 26 (lG 2 9), om 27 2, od 28 (.call 10 [(tm 26), (tm 27)]), om 25 28, od 29 (ex 25 0), od 30 (ex 25 1), od 31 (ex 25 2), om 10 29, om 7 30, om
 8 31] [kp [3, 6, 7, 8, 10] [6, 900, 901]]) (.seq (.seq (.reg [om 32 10, od 33 (.isNil true (tm 32))] [kp [3, 6, 7, 8, 10, 33] [6, 900, 901]]) (.cond (tm 33) (.seq (.reg [od 34 (.build [(1, kN), (1, kN)]), om 35 7, om 36 8, on
 (.store 2 (tm 6) (tm 34)), om 7 35, om 8 36] [kp [6, 7, 8] [6, 900, 901]]) .ret) .skip)) (.seq (.seq (.reg [od 37 (lG 4 3), od 38 (.call 45 [(tm 37)]), od 39 (le 0 38), od 40 (.mv (ki 0))] [kp [3, 6, 10, 38, 39, 40] [6, 900, 901]])
 (.block 0 q1J)) (.seq (.seq (.reg [od 54 (lG 4 3), od 55 (.call 44 [(tm 54)]), od 56 (le 0 55), od 57 (.mv (ki 0))] [kp [6, 10, 55, 56, 57] [6, 900, 901]]) (.block 2 q1L)) (.seq (.pre [.frz 900, .frz 901]
 (.reg [od 71 (lG 2 6), on (.store 2 (tm 6) (tm 71)), od 7 (.mv kT), od 8 (.mv (ki 0))] [kp [6, 7, 8] [6, 900, 901]])) .ret))))))))
def U0 : List RV := [.cell 6 2 true, .tmp 7, .tmp 8]
/- probecard/implies.Plain (function 16) -/
abbrev U1 : IC := (.seq (.reg [od 1 (.box true (tm 0)), od 2 (.mv (ki 0))] [kp [1] []]) (.seq (.seq (.reg [od 4 (lG 4 1), od 5 (.call 29 [(tm 4)]), om 3 5] [kp [1, 3] []]) (.seq (.reg [om 6 3, od 7 (.bin .neq (tm 6) (ki 0))] [kp [1, 3, 7] []])
 (.cond (tm 7) (.seq (.reg [om 8 3, om 2 8] [kp [2] []]) .ret) .skip))) (.seq (.seq (.reg [od 9 (fa 2 1), od 10 (ld 1 9), od 11 (le 0 10), od 12 (.bin .gtr (tm 11) (ki 0)), om 13 12, oF 14 (lG 4 1) 13, oF 15 (.bsl true 69 1 [(ku
 12), (ku 13), (ku 15)]) 13, oF 16 (.call 30 [(tm 14), (tm 15)]) 13, oF 17 (le 0 16) 13, oF 18 (.bin .gtr (tm 17) (ki 0)) 13, od 19 (.pick (tm 13) kT (tm 18))] [kp [19] []]) (.cond (tm 19) (.seq (.reg [od 2 (.mv (ki 7))] [kp [2]
 []]) .ret) .skip)) (.seq (.reg [od 2 (.mv (ki 0))] [kp [2] []]) .ret))))
def U2 : List RV := [.tmp 2]
/- probecard/faults.Check (function 17) -/
abbrev Vn : IC := (.seq (.reg [od 2 (.box true (tm 0)), od 3 (.box true (tm 1)), od 4 (.mv (ki 0))] [kp [2, 3] []]) (.seq (.seq (.reg [od 6 (lG 4 2), od 7 (.call 31 [(tm 6)]), om 5 7] [kp [2, 3, 5] []]) (.seq (.reg [om 8 5, od 9 (.bin .neq (tm 8)
 (ki 0))] [kp [2, 3, 5, 9] []]) (.cond (tm 9) (.seq (.reg [om 10 5, om 4 10] [kp [4] []]) .ret) .skip))) (.seq (.block 0 (.seq (.reg [od 12 (fa 0 3), od 13 (ld 1 12), od 14 (.bin .gtr (tm 13) (ku 3)), om 15 14, oF 16 (fa 3 3) 15, oF
 17 (ld 1 16) 15, oF 18 (.bin .gtr (tm 17) (ku 1)) 15, od 19 (.pick (tm 15) kT (tm 18)), om 20 19, oF 21 (lG 4 2) 20, oF 22 (fa 1 3) 20, oF 23 (lG 2 22) 20, oF 24 (.call 32 [(tm 21), (tm 23)]) 20, oF 25 (.un .not (tm 24)) 20, od 26
 (.pick (tm 20) kT (tm 25)), om 11 26] [kp [2, 3, 11] []]) (.cond (tm 11) (.seq (.reg [od 4 (.mv (ki 1))] [kp [4] []]) .ret) (.seq (.reg [od 28 (fa 0 3), od 29 (ld 1 28), od 30 (.bin .geq (tm 29) (ku 2)), om 27 30] [kp [2, 3, 27]
 []]) (.cond (tm 27) (.seq (.reg [od 31 (lG 4 2), od 32 (lG 5 3), od 33 (.call 33 [(tm 31), (tm 32)]), om 4 33] [kp [4] []]) .ret) (.seq (.reg [od 35 (fa 4 3), od 36 (ld 1 35), od 37 (.bin .neq (tm 36) (ki 0)), om 34 37] [kp [34]
 []]) (.cond (tm 34) (.seq (.reg [od 4 (.mv (ki 1))] [kp [4] []]) .ret) .skip))))))) (.seq (.reg [od 4 (.mv (ki 0))] [kp [4] []]) .ret))))
def Vo : List RV := [.tmp 4]
/- probecard/faults.valid (function 31) -/
abbrev Vp : IC := (.seq (.reg [od 1 (.box true (tm 0)), od 2 (.mv (ki 0))] [kp [1] []]) (.seq (.seq (.reg [od 4 (lG 4 1), od 5 (.call 29 [(tm 4)]), om 3 5] [kp [1, 3] []]) (.seq (.reg [om 6 3, od 7 (.bin .neq (tm 6) (ki 0))] [kp [1, 3, 7] []])
 (.cond (tm 7) (.seq (.reg [om 8 3, om 2 8] [kp [2] []]) .ret) .skip))) (.seq (.seq (.reg [od 9 (fa 2 1), od 10 (ld 1 9), od 11 (le 0 10), od 12 (.bin .gtr (tm 11) (ki 0))] [kp [12] []]) (.cond (tm 12) (.seq (.reg [od 2 (.mv (ki
 7))] [kp [2] []]) .ret) .skip)) (.seq (.reg [od 2 (.mv (ki 0))] [kp [2] []]) .ret))))
def Vq : List RV := [.tmp 2]
/- probecard/faults.line (function 32) -/
abbrev X8 : IC := (.seq (.reg [od 2 (.box true (tm 0)), od 3 (.box true (tm 1)), od 4 (.mv kF)] [kp [2, 3] []]) (.seq (.reg [od 5 (fa 0 3), od 6 (ld 1 5), od 7 (.bin .geq (tm 6) (ki 0)), om 8 7, oT 9 (fa 0 3) 8, oT 10 (ld 1 9) 8, oT 11 (fa 0 2) 8,
 oT 12 (ld 1 11) 8, oT 13 (le 0 12) 8, oT 14 (.bin .lss (tm 10) (tm 13)) 8, od 15 (.pick (tm 8) (tm 14) kF), om 16 15, oT 17 (fa 1 3) 16, oT 18 (ld 1 17) 16, oT 19 (.bin .geq (tm 18) (.const (.int .i64 (-1)))) 16, od 20 (.pick (tm
 16) (tm 19) kF), om 21 20, oT 22 (fa 1 3) 21, oT 23 (ld 1 22) 21, oT 24 (fa 0 2) 21, oT 25 (ld 1 24) 21, oT 26 (fa 0 3) 21, oT 27 (ld 1 26) 21, oT 28 (ia 4 25 27) 21, oT 29 (fa 1 28) 21, oT 30 (ld 1 29) 21, oT 31 (le 0 30) 21, oT
 32 (.bin .lss (tm 23) (tm 31)) 21, od 33 (.pick (tm 21) (tm 32) kF), om 4 33] [kp [4] []]) .ret))
def X9 : List RV := [.tmp 4]
/- probecard/probecardlaw28.lives (function 5) -/
abbrev Xa : IC := (.seq (.reg [od 0 (.mv kF)] [kp [] []]) (.seq (.reg [od 28 (.bsl true 3 1 [(ki 1), (ki 2)]), od 29 (.bsl true 3 1 [(.const (.int .i64 (-1)))]), od 30 (.bsl true 50 1 [(tm 28), (tm 29)]), od 31 (.build [(1, (ki 2)), (1, (tm 30))]),
 od 32 (.call 10 [(tm 31), (ki 9)]), om 27 32, od 33 (ex 27 0), od 34 (ex 27 1), od 35 (ex 27 2), om 1 33, om 2 34, om 3 35] [kp [1, 2, 3] []]) (.seq (.reg [od 37 (.bsl true 3 1 [(ki 1)]), od 38 (.bsl true 3 1 [(.const (.int .i64
 (-1)))]), od 39 (.bsl true 50 1 [(tm 37), (tm 38)]), od 40 (.build [(1, (ki 1)), (1, (tm 39))]), od 41 (.call 10 [(tm 40), (ki 9)]), om 36 41, od 42 (ex 36 0), od 43 (ex 36 1), od 44 (ex 36 2), om 4 42, om 5 43, om 6 44] [kp [1, 2,
 3, 5, 6] []]) (.seq (.reg [od 46 (.bsl true 3 1 []), od 47 (.bsl true 50 1 [(tm 46)]), od 48 (.build [(1, (ki 0)), (1, (tm 47))]), od 49 (.call 10 [(tm 48), (ki 9)]), om 45 49, od 50 (ex 45 0), od 51 (ex 45 1), od 52 (ex 45 2), om
 7 50, om 8 51, om 9 52] [kp [1, 2, 3, 5, 6, 8, 9] []]) (.seq (.reg [od 54 (.build [(1, (ki 0)), (1, kN)]), od 55 (.call 10 [(tm 54), (ki 0)]), om 53 55, od 56 (ex 53 0), od 57 (ex 53 1), od 58 (ex 53 2), om 10 56, om 11 57, om 12
 58] [kp [1, 2, 3, 5, 6, 8, 9, 10, 11, 12] []]) (.seq (.reg [od 59 (.bsl true 3 1 [(ki 1), (ki 2)]), od 60 (.bsl true 3 1 [(.const (.int .i64 (-1))), (ki 2)]), od 61 (.bsl true 3 1 [(ki 1), (.const (.int .i64 (-2)))]), od 62 (.bsl
 true 3 1 [(.const (.int .i64 (-1))), (.const (.int .i64 (-2)))]), od 63 (.bsl true 50 1 [(tm 59), (tm 60), (tm 61), (tm 62)]), od 64 (.build [(1, (ki 2)), (1, (tm 63))]), od 13 (.alloc false [(.int .i64 0), (.slice none 0 0)]), on
 (.store 2 (tm 13) (tm 64))] [kp [1, 2, 3, 5, 6, 8, 9, 10, 11, 12, 13] [13]]) (.seq (.reg [od 66 (lG 2 13), od 67 (.call 10 [(tm 66), (ki 0)]), om 65 67, od 68 (ex 65 0), od 69 (ex 65 1), od 70 (ex 65 2), om 14 68, om 15 69, om 16
 70] [kp [1, 2, 3, 5, 6, 8, 9, 10, 11, 12, 13, 15, 16] [13]]) (.seq (.reg [od 72 (lG 2 13), od 73 (.call 10 [(tm 72), (ki 1)]), om 71 73, od 74 (ex 71 0), od 75 (ex 71 1), od 76 (ex 71 2), om 17 74, om 18 75, om 19 76] [kp [1, 2, 3,
 5, 6, 8, 9, 10, 11, 12, 15, 16, 18, 19] []]) (.seq (.seq (.reg [om 77 3, od 78 (.bin .neq (tm 77) (ki 0)), om 79 78, oF 80 (.mv (tm 2)) 79, oF 81 (.un .not (tm 80)) 79, od 82 (.pick (tm 79) kT (tm 81)), om 83 82, oF 84 (.mv (tm 1))
 83, oF 85 (le 0 84) 83, oF 86 (.bin .neq (tm 85) (ki 2)) 83, od 87 (.pick (tm 83) kT (tm 86)), om 88 87, oF 89 (.mv (tm 1)) 88, oF 90 (.iadr 1 (tm 89) (ki 0)) 88, oF 91 (ld 1 90) 88, oF 92 (.bin .neq (tm 91) (ku 0)) 88, od 93
 (.pick (tm 88) kT (tm 92)), om 94 93, oF 95 (.mv (tm 1)) 94, oF 96 (.iadr 1 (tm 95) (ki 1)) 94, oF 97 (ld 1 96) 94, oF 98 (.bin .neq (tm 97) (ku 1)) 94, od 99 (.pick (tm 94) kT (tm 98)), om 100 99, oF 101 (.mv (tm 6)) 100, oF 102
 (.bin .neq (tm 101) (ki 9)) 100, od 103 (.pick (tm 100) kT (tm 102)), om 104 103, oF 105 (.mv (tm 5)) 104, oF 106 (.un .not (tm 105)) 104, od 107 (.pick (tm 104) kT (tm 106)), om 108 107, oF 109 (.mv (tm 9)) 108, oF 110 (.bin .neq
 (tm 109) (ki 9)) 108, od 111 (.pick (tm 108) kT (tm 110)), om 112 111, oF 113 (.mv (tm 8)) 112, oF 114 (.un .not (tm 113)) 112, od 115 (.pick (tm 112) kT (tm 114)), om 116 115, oF 117 (.mv (tm 12)) 116, oF 118 (.bin .neq (tm 117)
 (ki 0)) 116, od 119 (.pick (tm 116) kT (tm 118)), om 120 119, oF 121 (.mv (tm 11)) 120, oF 122 (.un .not (tm 121)) 120, od 123 (.pick (tm 120) kT (tm 122)), om 124 123, oF 125 (.mv (tm 10)) 124, oF 126 (le 0 125) 124, oF 127 (.bin
 .neq (tm 126) (ki 0)) 124, od 128 (.pick (tm 124) kT (tm 127)), om 129 128, oF 130 (.mv (tm 15)) 129, od 131 (.pick (tm 129) kT (tm 130)), om 132 131, oF 133 (.mv (tm 16)) 132, oF 134 (.bin .neq (tm 133) (ki 0)) 132, od 135 (.pick
 (tm 132) kT (tm 134)), om 136 135, oF 137 (.mv (tm 18)) 136, oF 138 (.un .not (tm 137)) 136, od 139 (.pick (tm 136) kT (tm 138)), om 140 139, oF 141 (.mv (tm 19)) 140, oF 142 (.bin .neq (tm 141) (ki 9)) 140, od 143 (.pick (tm 140)
 kT (tm 142))] [kp [143] []]) (.cond (tm 143) (.seq (.reg [od 0 (.mv kF)] [kp [0] []]) .ret) .skip)) (.seq (.seq (.reg [od 144 (.bsl true 3 1 [(ki 1), (.const (.int .i64 (-2)))]), od 145 (.bsl true 3 1 []), od 146 (.bsl true 50 1
 [(tm 144), (tm 145)]), od 147 (.build [(1, (ki 2)), (1, (tm 146))]), od 148 (.call 14 [(tm 147)]), od 149 (.bin .neq (tm 148) (.const (sV [112, 32, 99, 110, 102, 32, 50, 32, 50, 10, 49, 32, 45, 50, 32, 48, 10, 48, 10])))] [kp [149]
 []]) (.cond (tm 149) (.seq (.reg [od 0 (.mv kF)] [kp [0] []]) .ret) .skip)) (.seq (.reg [od 150 (.build [(1, (ku 0)), (1, kN), (1, (ki 0)), (1, (ki 0))]), od 151 (.build [(1, (ku 0)), (1, kN), (1, (ki 0)), (1, (ki 0))]), od 152
 (.bsl true 3 1 [(ki 0), (ki 1)]), od 153 (.build [(1, (ku 5)), (1, (tm 152)), (1, (ki 0)), (1, (ki 0))]), od 154 (.bsl true 3 1 [(ki 0), (ki 2)]), od 155 (.build [(1, (ku 7)), (1, (tm 154)), (1, (ki 0)), (1, (ki 0))]), od 156 (.bsl
 true 71 4 [(tm 150), (tm 151), (tm 153), (tm 155)]), od 157 (.bsl true 9 1 [(.const (sV [97])), (.const (sV [98])), (.const (sV [100])), (.const (sV [101]))]), od 158 (.bsl true 3 1 [(ki 3)]), od 159 (.build [(1, (tm 156)), (1, (tm
 157)), (1, kN), (1, (tm 158))]), od 20 (.alloc false [(.slice none 0 0), (.slice none 0 0), (.slice none 0 0), (.slice none 0 0)]), on (.store 4 (tm 20) (tm 159))] [kp [20] [20]]) (.seq (.reg [od 161 (lG 4 20), od 162 (.build [(1,
 (ki 0)), (1, (.const (.int .i64 (-1))))]), od 163 (.build [(1, (ku 0)), (2, (tm 162)), (1, (ku 0)), (1, (ki 0))]), od 164 (.call 20 [(tm 161), (tm 163), (ki 99)]), om 160 164, od 165 (ex 160 0), od 166 (ex 160 1), od 167 (ex 160
 2), od 21 (.alloc false [(.slice none 0 0), (.slice none 0 0)]), on (.store 2 (tm 21) (tm 165)), om 22 166, om 23 167] [kp [20, 21, 22, 23] [20, 21]]) (.seq (.reg [od 169 (lG 4 20), od 170 (.build [(1, (ki 2)), (1, (.const (.int
 .i64 (-1))))]), od 171 (.build [(1, (ku 0)), (2, (tm 170)), (1, (ku 0)), (1, (ki 0))]), od 172 (.call 20 [(tm 169), (tm 171), (ki 99)]), om 168 172, od 173 (ex 168 0), od 174 (ex 168 1), od 175 (ex 168 2), od 24 (.alloc false
 [(.slice none 0 0), (.slice none 0 0)]), on (.store 2 (tm 24) (tm 173)), om 25 174, om 26 175] [kp [21, 22, 23, 25, 26] [21]]) (.seq (.reg [om 176 23, od 177 (.bin .eql (tm 176) (ki 0)), om 178 177, oT 179 (.mv (tm 22)) 178, od 180
 (.pick (tm 178) (tm 179) kF), om 181 180, oT 182 (fa 0 21) 181, oT 183 (ld 1 182) 181, oT 184 (le 0 183) 181, oT 185 (.bin .eql (tm 184) (ki 2)) 181, od 186 (.pick (tm 181) (tm 185) kF), om 187 186, oT 188 (fa 0 21) 187, oT 189 (ld
 1 188) 187, oT 190 (.iadr 1 (tm 189) (ki 0)) 187, oT 191 (ld 1 190) 187, oT 192 (.bin .eql (tm 191) (ku 1)) 187, od 193 (.pick (tm 187) (tm 192) kF), om 194 193, oT 195 (.mv (tm 26)) 194, oT 196 (.bin .eql (tm 195) (ki 9)) 194, od
 197 (.pick (tm 194) (tm 196) kF), om 198 197, oT 199 (.mv (tm 25)) 198, od 200 (.pick (tm 198) (tm 199) kF), om 0 200] [kp [0] []]) .ret))))))))))))))
def Xb : List RV := [.tmp 0]
end
end Go.Lg
namespace Go.Lg
open Go
section
variable {P : Program} {Γ : Tables} {Q : AX → St → Prop} {s : St}
/- probecard/logic.Inverts (function 57) -/
abbrev U3 : IC := (.seq (.reg [od 2 (.mv kF)] [kp [0] []]) (.seq (.reg [od 3 (.bsl true 69 1 [(ku 4), (ku 6), (ku 8), (ku 10)]), om 4 0, od 5 (.call 54 [(tm 3), (tm 4)]), om 2 5] [kp [2] []]) .ret))
def U4 : List RV := [.tmp 2]
end
end Go.Lg
namespace Go.Lg
open Go
def qEF : Tbl := [(5, ⟨Xa, 201, 0, Xb⟩),
 (20, ⟨Tz, 72, 3, U0⟩),
 (19, ⟨Yl, 216, 2, Ym⟩),
 (45, ⟨Q8, 6, 1, Q9⟩),
 (44, ⟨Pl, 6, 1, Pm⟩),
 (37, ⟨Yj, 21, 2, Yk⟩),
 (18, ⟨Vh, 65, 1, Vi⟩),
 (38, ⟨Vj, 20, 2, Vk⟩),
 (39, ⟨Vd, 15, 3, Ve⟩),
 (34, ⟨q0O, 9, 1, q0P⟩),
 (40, ⟨Tj, 17, 3, Tm⟩),
 (41, ⟨Rm, 14, 1, Rn⟩),
 (35, ⟨Tu, 126, 4, Tv⟩),
 (36, ⟨Tn, 16, 1, To⟩),
 (42, ⟨Vl, 33, 4, Vm⟩),
 (43, ⟨Va, 13, 2, Vb⟩),
 (30, ⟨Wj, 27, 2, Wl⟩),
 (16, ⟨U1, 20, 1, U2⟩),
 (17, ⟨Vn, 38, 2, Vo⟩),
 (57, ⟨U3, 6, 1, U4⟩),
 (58, ⟨Rk, 34, 3, Rl⟩),
 (59, ⟨Tq, 23, 1, Tt⟩),
 (60, ⟨Vf, 33, 4, Vg⟩),
 (54, ⟨Hw, 9, 2, Hy⟩),
 (55, ⟨Pn, 9, 1, Po⟩),
 (29, ⟨Lh, 11, 1, Lj⟩),
 (31, ⟨Vp, 13, 1, Vq⟩),
 (32, ⟨X8, 34, 2, X9⟩),
 (67, ⟨Jk, 19, 2, Jl⟩),
 (53, ⟨K6, 131, 1, Eh⟩),
 (64, ⟨Cd, 73, 1, Bc⟩),
 (65, ⟨Nb, 9, 1, Nc⟩),
 (66, ⟨K7, 65, 1, K8⟩),
 (72, ⟨Nh, 53, 2, Br⟩),
 (73, ⟨Lt, 25, 1, I2⟩),
 (74, ⟨K9, 37, 2, Bn⟩),
 (76, ⟨Ja, 4, 1, Jb⟩),
 (75, ⟨Ei, 9, 2, Ej⟩),
 (77, ⟨G4, 9, 1, G5⟩),
 (83, ⟨Lr, 15, 1, Ls⟩),
 (84, ⟨Ko, 11, 2, Kp⟩),
 (85, ⟨D5, 45, 2, D6⟩),
 (86, ⟨En, 17, 1, Eo⟩),
 (87, ⟨Ii, 14, 2, Ij⟩),
 (89, ⟨Hn, 13, 2, Ho⟩),
 (88, ⟨G6, 19, 2, Dv⟩),
 (92, ⟨Dn, 13, 1, Do⟩),
 (94, ⟨G9, 9, 2, Ge⟩),
 (93, ⟨G7, 9, 2, G8⟩),
 (96, ⟨Im, 8, 2, Ip⟩),
 (95, ⟨Ik, 187, 2, Il⟩),
 (101, ⟨Iq, 21, 3, F6⟩),
 (97, ⟨Ig, 8, 2, Ih⟩),
 (98, ⟨Qv, 17, 1, Qw⟩),
 (102, ⟨Ek, 8, 2, Em⟩)]
end Go.Lg
namespace Go.Lg
open Go Go.Proofs
theorem q1M : Ax Tryd.prog 43 Va 13 2 Vb = true := by kernel_rfl
theorem q1N : Ax Tryd.prog 39 Vd 15 3 Ve = true := by kernel_rfl
theorem q0Q : Ax Tryd.prog 40 Tj 17 3 Tm = true := by kernel_rfl
theorem q1O : Ax Tryd.prog 60 Vf 33 4 Vg = true := by kernel_rfl
theorem Zm : Ax Tryd.prog 58 Rk 34 3 Rl = true := by kernel_rfl
theorem Zn : Ax Tryd.prog 41 Rm 14 1 Rn = true := by kernel_rfl
theorem q0R : Ax Tryd.prog 36 Tn 16 1 To = true := by kernel_rfl
theorem q0S : Ax Tryd.prog 59 Tq 23 1 Tt = true := by kernel_rfl
theorem q0T : Ax Tryd.prog 35 Tu 126 4 Tv = true := by kernel_rfl
theorem q3t : Ax Tryd.prog 34 q0O 9 1 q0P = true := by kernel_rfl
theorem q1P : Ax Tryd.prog 18 Vh 65 1 Vi = true := by kernel_rfl
theorem q3S : Ax Tryd.prog 37 Yj 21 2 Yk = true := by kernel_rfl
theorem q3T : Ax Tryd.prog 19 Yl 216 2 Ym = true := by kernel_rfl
theorem q1Q : Ax Tryd.prog 38 Vj 20 2 Vk = true := by kernel_rfl
theorem q1R : Ax Tryd.prog 42 Vl 33 4 Vm = true := by kernel_rfl
theorem q0U : Ax Tryd.prog 20 Tz 72 3 U0 = true := by kernel_rfl
theorem q0V : Ax Tryd.prog 16 U1 20 1 U2 = true := by kernel_rfl
theorem q1S : Ax Tryd.prog 17 Vn 38 2 Vo = true := by kernel_rfl
theorem q1T : Ax Tryd.prog 31 Vp 13 1 Vq = true := by kernel_rfl
theorem q26 : Ax Tryd.prog 32 X8 34 2 X9 = true := by kernel_rfl
theorem q27 : Ax Tryd.prog 5 Xa 201 0 Xb = true := by kernel_rfl
theorem q0W : Ax Tryd.prog 57 U3 6 1 U4 = true := by kernel_rfl
theorem q8D : q2w Tryd.prog qEF := ⟨q27, q0U, q3T, Y2, Y0, q3S, q1P, q1Q, q1N, q3t, q0Q, Zn, q0T, q0R, q1R, q1M, q1x, q0V, q1S, q0W, Zm, q0S, q1O, Og, Y1, Q1, q1T, q26, Qj, Oj, Q2, Qx, Ol, Qy, Q3, Om, O8, I4, Jn, V6, On, Ta, Oo, N1, Lu, Jo, N2, Jq, Jp, N4, N3, N5, Me, Z9, I5, trivial⟩
end Go.Lg
namespace Go.Lg
open Go Go.Proofs
variable {Γ : Tables}
def q6D : List (List T) → Option (List Int)
 | [] => some []
 | e :: l => match e with
  | [.v (.int .i64 n)] => (q6D l).map (n :: ·)
  | _ => none
theorem q6E : ∀ {es : List (List T)} {l : List Int}, q6D es = some l → es = D9 l
 | [], l, h => by simp only [q6D, Option.some.injEq] at h; subst h; rfl
 | e :: es, l, h => by
  simp only [q6D] at h
  split at h
  ·obtain ⟨l', h1, rfl⟩ := Option.map_eq_some_iff.1 h
   rw [q6E h1]; rfl
  ·cases h
def qAa : List (List T) → Option (List (Sl Int))
 | [] => some []
 | e :: l => match e with
  | [.sl es c n] => (q6D es).bind fun q => (qAa l).map (⟨q, c, n⟩ :: ·)
  | _ => none
theorem q8E : ∀ {es : List (List T)} {l : List (Sl Int)}, qAa es = some l → es = Dc C5 l
 | [], l, h => by simp only [qAa, Option.some.injEq] at h; subst h; rfl
 | e :: es, l, h => by
  simp only [qAa] at h
  split at h
  ·obtain ⟨q, h1, h2⟩ := Option.bind_eq_some_iff.1 h
   obtain ⟨l', h3, rfl⟩ := Option.map_eq_some_iff.1 h2
   rw [q8E h3, q6E h1]; rfl
  ·cases h
def cfC : T → Option Cf
 | .agg [.v (.int .i64 n), .sl es c b] => (qAa es).map fun l => ⟨n, ⟨l, c, b⟩⟩
 | _ => none
theorem qEG {x : T} {f : Cf} (h : cfC x = some f) : x = .agg (O2 f) := by
 unfold cfC at h
 split at h
 ·obtain ⟨l, h1, rfl⟩ := Option.map_eq_some_iff.1 h
  rw [q8E h1]; rfl
 ·cases h
def qEH : List T → Option T
 | [x, .v (.int .i64 n)] => (cfC x).bind fun f => if decide (-9223372036854775808 ≤ f.vars) && decide (f.vars ≤ 9223372036854775807) then some (q0L (Si f n)) else none
 | _ => none
theorem qBx {ts : List T} {r : T} (h : qEH ts = some r) : A5 Tryd.prog Γ 10 ts r := by
 unfold qEH at h
 split at h
 ·obtain ⟨f, h1, h2⟩ := Option.bind_eq_some_iff.1 h
  split at h2
  ·rename_i hc
   simp only [Bool.and_eq_true, decide_eq_true_eq] at hc
   simp only [Option.some.injEq] at h2
   subst h2
   rw [qEG h1]
   exact Zl f hc _
  ·cases h2
 ·cases h
def GC : Tables := fun g => if g = 1 then some q73 else if g = 0 then some q1D else none
theorem qGe : GOk GC := rfl
theorem qEI : Yi GC := rfl
theorem qGf {Γ : Tables} (h : GOk Γ) (hp : Yi Γ) {w : World} {X : Nat → Prop} (hg : Gl Γ w X) : Gl GC w X := fun g cs e => by
 unfold GC at e
 split at e
 ·rename_i hh; cases e; exact hg g _ (by rw [hh]; exact h)
 ·split at e
  ·rename_i hh; cases e; exact hg g _ (by rw [hh]; exact hp)
  ·cases e
def txA : List T := [.agg [tI 2, .sl [[.sl [[tI 1], [tI (-2)]] (some 2) (some false)], [.sl [] (some 0) (some false)]] (some 2) (some false)]]
def txR : T := .v (.string ⟨#[112, 32, 99, 110, 102, 32, 50, 32, 50, 10, 49, 32, 45, 50, 32, 48, 10, 48, 10]⟩)
def cnF (f : FuncId) (ts : List T) : Option T :=
 if Nat.beq f 103 then (match ts with
  | [.v (.string s), .v (.int .u8 c)] => some (.v (.int .i64 (Lib.indexByte s.data.toList c.toNat.toUInt8)))
  | _ => none)
 else if Nat.beq f 10 then qEH ts
 else if Nat.beq f 14 then (match ts with
  | [.agg [.v (.int .i64 a), .sl [[.sl [[.v (.int .i64 b)], [.v (.int .i64 c)]] (some 2) (some false)], [.sl [] (some 0) (some false)]] (some 2) (some false)]] => if decide (a = 2) && decide (b = 1) && decide (c = -2) then some txR else none
  | _ => none)
 else none
theorem qAb (ht : A5 Tryd.prog Γ 14 txA txR) {f : FuncId} {ts : List T} {r : T} (h : cnF f ts = some r) : A5 Tryd.prog Γ f ts r := by
 unfold cnF at h
 split at h
 ·rename_i hf
  rw [Nat.eq_of_beq_eq_true hf]
  split at h
  ·cases h; exact O9 _ _
  ·cases h
 ·split at h
  ·rename_i hf; rw [Nat.eq_of_beq_eq_true hf]; exact qBx h
  ·split at h
   ·rename_i hf
    rw [Nat.eq_of_beq_eq_true hf]
    split at h
    ·split at h
     ·rename_i hc
      simp only [Bool.and_eq_true, decide_eq_true_eq] at hc
      obtain ⟨⟨h1, h2⟩, h3⟩ := hc
      subst h1; subst h2; subst h3
      cases h; exact ht
     ·cases h
    ·cases h
   ·cases h
theorem qAc {P : Program} {f : FuncId} {ts : List T} {b : Value} (h : Aw P Γ f ts (.v b)) : A5 P Γ f ts (.v b) :=
 fun w X vs hg hx hr => (h w X vs hg hx hr).mono fun v w' ⟨hb, ht⟩ => ⟨hb, by cases ht; exact .v _⟩
end Go.Lg
namespace Go.Proofs.YtnhlpeiadcojmaaDoor
open Go Go.Lg Go.ChangeShapes Go.WideShapes Go.ChangeAt Go.RowKit
theorem qEJ : (Tryd.prog.globals[0]?).map (·.type) = some 143 := by kernel_rfl
theorem qAd : Tryd.prog.cellsOf 131 = 1 := by kernel_rfl
theorem qAe : Tryd.prog.cellsOf 143 = 20 := by kernel_rfl
theorem qAf : (Rows.laid_internal_strconv_uint64pow10 : DataW Unit) = Lib.tabData .u64 Lib.pow10Tab := rfl
theorem qEK {W : World} {rest : List (String × DataW Unit)} (h : laidMet Tryd.prog (("internal/strconv.uint64pow10", Rows.laid_internal_strconv_uint64pow10) :: rest) W) :
  TR W (Old W) (.ip q1D 0) (.pointer (some ⟨(0 : Nat), 0, none⟩)) ∧ ∃ arr ty fr, W.heap[(0 : Nat)]? = some (.cells arr ty fr) ∧ arr.size = q1D.length := by
 rw [qAf] at h
 have ht := Lib.tabIs_of_head qBw qEJ Tryd.underlying143 Tryd.underlying131 qAd qAe h
 have hcell := fun i hi => ht.cell qBw i hi
 have hl : q1D.length = 20 := rfl
 have hl2 : Lib.pow10Tab.length = 20 := Lib.pow10Tab_length
 have hblk : ∃ arr ty fr, W.heap[(0 : Nat)]? = some (.cells arr ty fr) ∧ arr.size = q1D.length := by
  unfold Lib.TabIs World.var? at ht
  rw [qBw] at ht
  simp only [Option.bind_some] at ht
  split at ht
  ·rename_i cs ty fr hh
   simp only [Option.some.injEq] at ht
   exact ⟨cs, ty, fr, hh, by rw [ht]; simp [hl, hl2]⟩
  ·cases ht
 refine ⟨.ip q1D 0 0 0 (fun j => .int .u64 (Lib.pow10Tab.getD j 0)) (fun j hj => ?_) (fun j t hj => ?_) (fun j t hj => ?_) ?_, hblk⟩
 ·rw [Nat.zero_add]; exact hcell j (by omega)
 ·unfold q1D at hj
  rw [List.getElem?_map, Option.map_eq_some_iff] at hj
  obtain ⟨z, hz, rfl⟩ := hj
  rw [List.getD_eq_getElem?_getD, hz]
  exact .v _
 ·unfold q1D at hj
  rw [List.getElem?_map, Option.map_eq_some_iff] at hj
  obtain ⟨z, hz, rfl⟩ := hj
  rfl
 ·obtain ⟨arr, ty, fr, hh, _⟩ := hblk
  exact (Array.getElem?_eq_some_iff.1 hh).1
theorem qHe {W : World} (h : laidMetH Tryd.prog [("math/bits.deBruijn32tab", Rows.laid_math_bits_deBruijn32tab), ("math/bits.deBruijn64tab", Rows.laid_math_bits_deBruijn64tab), ("internal/strconv.uint64pow10", Rows.laid_internal_strconv_uint64pow10), ("probecard/logic.fanins", Rows.laid_probecard_logic_fanins)] W) : Gl GC W (Old W) := by
 rw [MakeChecks.laidMetH_plain _ _ _ (by kernel_rfl)] at h
 have h3 := Ux (Ux h)
 have h1 := qE0 (Ux h3)
 have h2 := qEK h3
 intro g cs hg
 unfold GC at hg
 split at hg
 ·rename_i hh
  exact h1 g cs (by unfold G0; rw [if_pos hh]; exact hg)
 ·split at hg
  ·rename_i hh
   subst hh
   simp only [Option.some.injEq] at hg
   subst hg
   exact h2
  ·cases hg
end Go.Proofs.YtnhlpeiadcojmaaDoor
namespace Go.Lg
open Go
section
variable {P : Program} {Γ : Tables} {Q : AX → St → Prop} {s : St}
/- probecard/probecardlaw28.Of (function 6) -/
abbrev q1q : IC := .gh (.seq (.seq (.reg [om 14 7, om 15 1, od 16 (le 0 15), od 17 (.bin .lss (tm 14) (tm 16))] [kp [1, 4, 5, 6, 7, 17] [4, 5, 36, 49]]) (.cond (tm 17) .skip (.exit 0))) (.seq (.block 1 (.seq (.reg [om 20 1, om 21 7, od 22 (ia 1 20
 21), od 23 (ld 1 22), od 24 (.conv .i64 (tm 23)), od 25 (fa 0 5), od 26 (ld 1 25), od 27 (.bin .mul (ki 2) (tm 26)), od 28 (.bin .add (tm 27) (ki 1)), od 29 (.bin .rem (tm 24) (tm 28)), om 8 29] [kp [1, 4, 5, 6, 7, 8] [4, 5, 36,
 49]]) (.seq (.seq (.reg [om 30 8, od 31 (.bin .eql (tm 30) (ki 0))] [kp [1, 4, 5, 6, 7, 8, 31] [4, 5, 36, 49]]) (.cond (tm 31) (.seq (.pre [.frz 49] (.reg [od 32 (fa 1 5), od 33 (ld 1 32), om 34 6, od 35 (.bsl true 50 1 [(tm 34)]),
 od 36 (.app false 50 1 (tm 33) (tm 35)), od 37 (fa 1 5), on (.store 1 (tm 37) (tm 36))] [kp [1, 4, 5, 7] [4, 5, 36]])) (.seq (.reg [od 6 (.mv kN)] [.nl 6 49 3 1, kp [1, 4, 5, 6, 7] [4, 5, 36, 49]]) (.exit 1))) .skip)) (.seq (.seq
 (.reg [om 38 8, od 39 (fa 0 5), od 40 (ld 1 39), od 41 (.bin .gtr (tm 38) (tm 40))] [kp [1, 4, 5, 6, 7, 8, 41] [4, 5, 36, 49]]) (.cond (tm 41) (.reg [od 42 (fa 0 5), od 43 (ld 1 42), om 44 8, od 45 (.bin .sub (tm 43) (tm 44)), om 8
 45] [kp [1, 4, 5, 6, 7, 8] [4, 5, 36, 49]]) .skip)) (.reg [om 46 6, om 47 8, od 48 (.bsl true 3 1 [(tm 47)]), od 49 (.app false 3 1 (tm 46) (tm 48)), om 6 49] [kp [1, 4, 5, 6, 7] [4, 5, 36, 49]]))))) (.reg [om 18 7, od 19 (.bin
 .add (tm 18) (ki 1)), om 7 19] [kp [1, 4, 5, 6, 7] [4, 5, 36, 49]]))) [kp [1, 4, 5, 6, 7] [4, 5, 36, 49]]
def Ro : IC := .loop q1q
abbrev q1r : IC := (.seq (.reg [od 4 (.alloc false [(.int .i64 0), (.slice none 0 0)])] [kp [0, 1, 4] [4, 36]]) (.seq (.reg [om 9 0, od 10 (.bin .rem (tm 9) (ku 8)), od 11 (.conv .i64 (tm 10)), od 12 (.bin .add (ki 1) (tm 11)), od 13 (.build [(1, (tm
 12)), (1, kN)]), od 5 (.alloc false [(.int .i64 0), (.slice none 0 0)]), on (.store 2 (tm 5) (tm 13))] [.nlb 5 1 36 50 1, kp [1, 4, 5] [4, 5, 36]]) (.seq (.reg [od 6 (.mv kN)] [.nl 6 49 3 1, kp [1, 4, 5, 6] [4, 5, 36, 49]]) (.seq
 (.seq (.reg [od 7 (.mv (ki 0))] [kp [1, 4, 5, 6, 7] [4, 5, 36, 49]]) (.block 0 Ro)) (.seq (.seq (.reg [om 50 6, od 51 (le 0 50), od 52 (.bin .gtr (tm 51) (ki 0))] [kp [4, 5, 6, 52] [4, 5, 36, 49]]) (.cond (tm 52) (.pre
 [.frz 49] (.reg [od 53 (fa 1 5), od 54 (ld 1 53), om 55 6, od 56 (.bsl true 50 1 [(tm 55)]), oz 57 (.app false 50 1 (tm 54) (tm 56)) 36, od 58 (fa 1 5), on (.store 1 (tm 58) (tm 57))] [kp [4, 5] [4, 5, 36]])) .skip)) (.seq (.reg
 [od 59 (lG 2 5), on (.store 2 (tm 4) (tm 59))] [kp [4] [4, 36]]) .ret))))))
theorem Vr (h : ∀ K : St → Prop, K = run P Γ Ro Q → run P Γ q1q (B5 K Q) s) : run P Γ Ro Q s := Au h
def Xc : List RV := [.cell 4 2 true]
/- probecard/probecardlaw28.satisfied (function 8) -/
abbrev Qb : IC := .gh (.seq (.seq (.reg [om 16 7, od 17 (fa 1 2), od 18 (ld 1 17), om 19 5, od 20 (ia 1 18 19), od 21 (ld 1 20), od 22 (le 0 21), od 23 (.bin .lss (tm 16) (tm 22))] [kp [1, 2, 5, 6, 7, 23] []]) (.cond (tm 23) .skip (.exit 2))) (.seq
 (.block 3 (.seq (.reg [od 26 (fa 1 2), od 27 (ld 1 26), om 28 5, od 29 (ia 1 27 28), od 30 (ld 1 29), om 31 7, od 32 (ia 1 30 31), od 33 (ld 1 32), om 8 33] [kp [1, 2, 5, 6, 7, 8] []]) (.reg [om 34 6, om 35 34, oF 36 (.mv (tm 8))
 35, oF 37 (.bin .gtr (tm 36) (ki 0)) 35, oF 38 (.mv (tm 37)) 35, oT 39 (.mv (tm 1)) 38, oT 40 (.mv (tm 8)) 38, oT 41 (.bin .sub (tm 40) (ki 1)) 38, oT 42 (ia 1 39 41) 38, oT 43 (ld 1 42) 38, oT 44 (.bin .eql (tm 43) (ku 1)) 38, oF
 45 (.pick (tm 38) (tm 44) kF) 35, od 46 (.pick (tm 35) kT (tm 45)), om 47 46, oF 48 (.mv (tm 8)) 47, oF 49 (.bin .lss (tm 48) (ki 0)) 47, oF 50 (.mv (tm 49)) 47, oT 51 (.mv (tm 1)) 50, oT 52 (.mv (tm 8)) 50, oT 53 (.un .neg (tm
 52)) 50, oT 54 (.bin .sub (tm 53) (ki 1)) 50, oT 55 (ia 1 51 54) 50, oT 56 (ld 1 55) 50, oT 57 (.bin .eql (tm 56) (ku 0)) 50, oF 58 (.pick (tm 50) (tm 57) kF) 47, od 59 (.pick (tm 47) kT (tm 58)), om 6 59] [kp [1, 2, 5, 6, 7]
 []]))) (.reg [om 24 7, od 25 (.bin .add (tm 24) (ki 1)), om 7 25] [kp [1, 2, 5, 6, 7] []]))) [kp [1, 2, 5, 6, 7] []]
def H5 : IC := .loop Qb
abbrev Qc : IC := .gh (.seq (.seq (.reg [om 9 5, od 10 (fa 1 2), od 11 (ld 1 10), od 12 (le 0 11), od 13 (.bin .lss (tm 9) (tm 12))] [kp [1, 2, 5, 13] []]) (.cond (tm 13) .skip (.exit 0))) (.seq (.block 1 (.seq (.reg [od 6 (.mv kF)] [kp [1, 2, 5, 6]
 []]) (.seq (.seq (.reg [od 7 (.mv (ki 0))] [kp [1, 2, 5, 6, 7] []]) (.block 2 H5)) (.seq (.reg [om 60 6, od 61 (.un .not (tm 60))] [kp [1, 2, 5, 61] []]) (.cond (tm 61) (.seq (.reg [od 4 (.mv kF)] [kp [4] []]) .ret)
 .skip))))) (.reg [om 14 5, od 15 (.bin .add (tm 14) (ki 1)), om 5 15] [kp [1, 2, 5] []]))) [kp [1, 2, 5] []]
def H6 : IC := .loop Qc
abbrev Qd : IC := (.seq (.reg [od 2 (.box true (tm 0)), od 4 (.mv kF)] [kp [1, 2] []]) (.seq (.seq (.reg [od 5 (.mv (ki 0))] [kp [1, 2, 5] []]) (.block 0 H6)) (.seq (.reg [od 4 (.mv kT)] [kp [4] []]) .ret)))
theorem Ly (h : ∀ K : St → Prop, K = run P Γ H5 Q → run P Γ Qb (B5 K Q) s) : run P Γ H5 Q s := Au h
theorem M1 (h : ∀ K : St → Prop, K = run P Γ H6 Q → run P Γ Qc (B5 K Q) s) : run P Γ H6 Q s := Au h
def Kr : List RV := [.tmp 4]
/- probecard/probecardlaw28.bits (function 7) -/
abbrev Yn : IC := .gh (.seq (.seq (.reg [om 7 6, om 8 1, od 9 (.bin .lss (tm 7) (tm 8))] [kp [0, 1, 5, 6, 9] [19]]) (.cond (tm 9) .skip (.exit 0))) (.seq (.block 1 (.reg [om 12 5, om 13 0, om 14 6, od 15 (.bin .shr (tm 13) (tm 14)), od 16 (.bin .rem
 (tm 15) (ki 2)), od 17 (.conv .u8 (tm 16)), od 18 (.bsl true 31 1 [(tm 17)]), od 19 (.app false 31 1 (tm 12) (tm 18)), om 5 19] [kp [0, 1, 5, 6] [19]])) (.reg [om 10 6, od 11 (.bin .add (tm 10) (ki 1)), om 6 11] [kp [0, 1, 5, 6]
 [19]]))) [kp [0, 1, 5, 6] [19]]
def O3 : IC := .loop Yn
abbrev Yo : IC := (.seq (.reg [od 4 (.mv kN)] [kp [0, 1] []]) (.seq (.reg [od 5 (.mv kN)] [.nl 5 19 31 1, kp [0, 1, 5] [19]]) (.seq (.seq (.reg [od 6 (.mv (ki 0))] [kp [0, 1, 5, 6] [19]]) (.block 0 O3)) (.seq (.reg [om 20 5, om 4 20] [kp
 [4] [19]]) .ret))))
theorem Rq (h : ∀ K : St → Prop, K = run P Γ O3 Q → run P Γ Yn (B5 K Q) s) : run P Γ O3 Q s := Au h
def Yp : List RV := [.tmp 4]
/- probecard/probecardlaw28.model (function 11) -/
abbrev Xd : IC := .gh (.seq (.seq (.reg [om 10 5, om 11 1, od 12 (.bin .lss (tm 10) (tm 11))] [kp [0, 1, 5, 12] []]) (.cond (tm 12) .skip (.exit 0))) (.seq (.block 1 (.seq (.reg [om 15 0, om 16 5, od 17 (ia 1 15 16), od 18 (ld 1 17), od 19 (.bin
 .gtr (tm 18) (ku 1))] [kp [0, 1, 5, 19] []]) (.cond (tm 19) (.seq (.reg [od 4 (.mv kF)] [kp [4] []]) .ret) .skip))) (.reg [om 13 5, od 14 (.bin .add (tm 13) (ki 1)), om 5 14] [kp [0, 1, 5] []]))) [kp [0, 1, 5] []]
def M3 : IC := .loop Xd
abbrev Qe : IC := (.seq (.reg [od 4 (.mv kF)] [kp [0, 1] []]) (.seq (.seq (.reg [om 6 0, od 7 (le 0 6), om 8 1, od 9 (.bin .neq (tm 7) (tm 8))] [kp [0, 1, 9] []]) (.cond (tm 9) (.seq (.reg [od 4 (.mv kF)] [kp [4] []]) .ret) .skip)) (.seq (.seq (.reg
 [od 5 (.mv (ki 0))] [kp [0, 1, 5] []]) (.block 0 M3)) (.seq (.reg [od 4 (.mv kT)] [kp [4] []]) .ret))))
theorem Qf (h : ∀ K : St → Prop, K = run P Γ M3 Q → run P Γ Xd (B5 K Q) s) : run P Γ M3 Q s := Au h
def M4 : List RV := [.tmp 4]
/- probecard/probecardlaw28.CnfsSolves (function 3) -/
abbrev Ov : IC := .gh (.seq (.seq (.reg [om 29 9, od 30 (fa 0 7), od 31 (ld 1 30), od 32 (.bin .shl (ki 1) (tm 31)), od 33 (.bin .lss (tm 29) (tm 32))] [kp [1, 2, 7, 8, 9, 33] [7]]) (.cond (tm 33) .skip (.exit 0))) (.seq (.block 1 (.seq (.reg [om 36
 9, od 37 (fa 0 7), od 38 (ld 1 37), od 39 (.call 7 [(tm 36), (tm 38)]), om 10 39] [kp [1, 2, 7, 8, 9, 10] [7]]) (.seq (.reg [od 40 (lG 2 7), om 41 10, od 42 (.call 8 [(tm 40), (tm 41)]), om 11 42] [kp [1, 2, 7, 8, 9, 10, 11] [7]])
 (.seq (.reg [om 43 8, om 44 43, oF 45 (.mv (tm 11)) 44, od 46 (.pick (tm 44) kT (tm 45)), om 8 46] [kp [1, 2, 7, 8, 9, 10, 11] [7]]) (.seq (.reg [od 47 (lG 2 7), om 48 10, od 49 (.call 9 [(tm 47), (tm 48)]), om 50 11, od 51 (.eqb
 false (tm 49) (tm 50))] [kp [1, 2, 7, 8, 9, 51] [7]]) (.cond (tm 51) (.seq (.reg [od 6 (.mv kF)] [kp [6] []]) .ret) .skip)))))) (.reg [om 34 9, od 35 (.bin .add (tm 34) (ki 1)), om 9 35] [kp [1, 2, 7, 8, 9] [7]]))) [kp [1, 2, 7, 8,
 9] [7]]
def Fz : IC := .loop Ov
abbrev Ox : IC := .gh (.seq (.seq (.reg [om 52 13, od 53 (fa 0 7), od 54 (ld 1 53), od 55 (.bin .lss (tm 52) (tm 54))] [kp [1, 2, 7, 8, 12, 13, 55] [7, 70]]) (.cond (tm 55) .skip (.exit 2))) (.seq (.block 3 (.seq (.reg [od 14 (.mv (ku 2))] [kp [1,
 2, 7, 8, 12, 13, 14] [7, 70]]) (.seq (.seq (.reg [om 58 13, om 59 1, od 60 (le 0 59), od 61 (.bin .lss (tm 58) (tm 60))] [kp [1, 2, 7, 8, 12, 13, 14, 61] [7, 70]]) (.cond (tm 61) (.reg [om 62 1, om 63 13, od 64 (ia 1 62 63), od 65
 (ld 1 64), od 66 (.bin .rem (tm 65) (ku 5)), om 14 66] [kp [1, 2, 7, 8, 12, 13, 14] [7, 70]]) .skip)) (.reg [om 67 12, om 68 14, od 69 (.bsl true 31 1 [(tm 68)]), od 70 (.app false 31 1 (tm 67) (tm 69)), om 12 70] [kp [1, 2, 7, 8,
 12, 13] [7, 70]])))) (.reg [om 56 13, od 57 (.bin .add (tm 56) (ki 1)), om 13 57] [kp [1, 2, 7, 8, 12, 13] [7, 70]]))) [kp [1, 2, 7, 8, 12, 13] [7, 70]]
def G1 : IC := .loop Ox
abbrev Je : IC := (.seq (.reg [od 6 (.mv kF)] [kp [0, 1, 2] []]) (.seq (.seq (.reg [om 22 1, od 23 (le 0 22), od 24 (.bin .gtr (tm 23) (ki 60))] [kp [0, 1, 2, 24] []]) (.cond (tm 24) (.seq (.reg [od 25 (.call 5 []), om 6 25] [kp [6] []]) .ret)
 .skip)) (.seq (.reg [om 26 0, om 27 1, od 28 (.call 6 [(tm 26), (tm 27)]), od 7 (.alloc false [(.int .i64 0), (.slice none 0 0)]), on (.store 2 (tm 7) (tm 28))] [kp [1, 2, 7] [7]]) (.seq (.reg [od 8 (.mv kF)] [kp [1, 2, 7, 8] [7]])
 (.seq (.seq (.reg [od 9 (.mv (ki 0))] [kp [1, 2, 7, 8, 9] [7]]) (.block 0 Fz)) (.seq (.reg [od 12 (.mv kN)] [.nl 12 70 31 1, kp [1, 2, 7, 8, 12] [7, 70]]) (.seq (.seq (.reg [od 13 (.mv (ki 0))] [kp [1, 2, 7, 8, 12,
 13] [7, 70]]) (.block 2 G1)) (.seq (.seq (.reg [od 71 (lG 2 7), om 72 12, od 73 (.call 9 [(tm 71), (tm 72)]), od 74 (lG 2 7), om 75 12, od 76 (.call 8 [(tm 74), (tm 75)]), od 77 (.eqb false (tm 73) (tm 76))] [kp
 [2, 7, 8, 77] [7]]) (.cond (tm 77) (.seq (.reg [od 6 (.mv kF)] [kp [6] []]) .ret) .skip)) (.seq (.reg [od 79 (lG 2 7), od 80 (fa 0 7), od 81 (ld 1 80), od 82 (.bin .shl (ki 1) (tm 81)), od 83 (.bin .sub (tm 82) (ki 1)), od 84
 (.call 10 [(tm 79), (tm 83)]), om 78 84, od 85 (ex 78 0), od 86 (ex 78 1), od 87 (ex 78 2), om 15 85, om 16 86, om 17 87] [kp [2, 7, 8, 15, 16, 17] [7]]) (.seq (.seq (.reg [om 88 16, od 89 (.un .not (tm 88)), om 90 89, oF 91 (.mv
 (tm 8)) 90, oF 92 (.mv (tm 91)) 90, oT 93 (.mv (tm 17)) 92, oT 94 (.bin .neq (tm 93) (ki 0)) 92, oT 95 (.mv (tm 94)) 92, oF 96 (.mv (tm 15)) 95, oF 97 (fa 0 7) 95, oF 98 (ld 1 97) 95, oF 99 (.call 11 [(tm 96), (tm 98)]) 95, oF 100
 (.un .not (tm 99)) 95, oT 101 (.pick (tm 95) kT (tm 100)) 92, oT 102 (.mv (tm 101)) 92, oF 103 (lG 2 7) 102, oF 104 (.mv (tm 15)) 102, oF 105 (.call 8 [(tm 103), (tm 104)]) 102, oF 106 (.un .not (tm 105)) 102, oT 107 (.pick (tm
 102) kT (tm 106)) 92, oF 108 (.pick (tm 92) (tm 107) kF) 90, od 109 (.pick (tm 90) kT (tm 108)), om 110 109, oF 111 (.mv (tm 8)) 110, oF 112 (.un .not (tm 111)) 110, oF 113 (.mv (tm 112)) 110, oT 114 (.mv (tm 17)) 113, oT 115 (.bin
 .neq (tm 114) (ki 9)) 113, oT 116 (.mv (tm 115)) 113, oF 117 (.mv (tm 15)) 116, oF 118 (le 0 117) 116, oF 119 (.bin .gtr (tm 118) (ki 0)) 116, oT 120 (.pick (tm 116) kT (tm 119)) 113, oF 121 (.pick (tm 113) (tm 120) kF) 110, od 122
 (.pick (tm 110) kT (tm 121))] [kp [2, 7, 15, 17, 122] [7]]) (.cond (tm 122) (.seq (.reg [od 6 (.mv kF)] [kp [6] []]) .ret) .skip)) (.seq (.reg [om 123 2, od 124 (.bin .rem (tm 123) (ku 10)), od 125 (.conv .i64 (tm 124)), om 18 125]
 [kp [7, 15, 17, 18] [7]]) (.seq (.reg [od 127 (lG 2 7), om 128 18, od 129 (.call 10 [(tm 127), (tm 128)]), om 126 129, od 130 (ex 126 0), od 131 (ex 126 1), od 132 (ex 126 2), om 19 130, om 20 131, om 21 132] [kp [7, 15, 17, 18,
 19, 20, 21] [7]]) (.seq (.seq (.reg [om 133 20, od 134 (.un .not (tm 133))] [kp [7, 15, 17, 18, 19, 21, 134] [7]]) (.cond (tm 134) (.seq (.reg [om 135 21, od 136 (.bin .eql (tm 135) (ki 0)), om 137 136, oT 138 (.mv (tm 19)) 137, oT
 139 (le 0 138) 137, oT 140 (.bin .eql (tm 139) (ki 0)) 137, od 141 (.pick (tm 137) (tm 140) kF), om 142 141, oT 143 (.mv (tm 18)) 142, oT 144 (fa 0 7) 142, oT 145 (ld 1 144) 142, oT 146 (.bin .shl (ki 1) (tm 145)) 142, oT 147 (.bin
 .sub (tm 146) (ki 1)) 142, oT 148 (.bin .lss (tm 143) (tm 147)) 142, od 149 (.pick (tm 142) (tm 148) kF), om 150 149, oT 151 (.call 5 []) 150, od 152 (.pick (tm 150) (tm 151) kF), om 6 152] [kp [6] []]) .ret) .skip)) (.seq (.reg
 [om 153 21, om 154 17, od 155 (.bin .eql (tm 153) (tm 154)), om 156 155, oT 157 (.mv (tm 19)) 156, oT 158 (.mv (tm 15)) 156, oT 159 (.call 12 [(tm 157), (tm 158)]) 156, oT 160 (.bin .eql (tm 159) (ki 0)) 156, od 161 (.pick (tm 156)
 (tm 160) kF), om 162 161, oT 163 (.call 5 []) 162, od 164 (.pick (tm 162) (tm 163) kF), om 6 164] [kp [6] []]) .ret))))))))))))))
theorem L1 (h : ∀ K : St → Prop, K = run P Γ Fz Q → run P Γ Ov (B5 K Q) s) : run P Γ Fz Q s := Au h
theorem L2 (h : ∀ K : St → Prop, K = run P Γ G1 Q → run P Γ Ox (B5 K Q) s) : run P Γ G1 Q s := Au h
def Cm : List RV := [.tmp 6]
end
end Go.Lg
namespace Go.Lg
open Go Go.Proofs
theorem q59 : Ax Tryd.prog 6 q1r 60 2 Xc = true := by kernel_rfl
theorem Y3 : Ax Tryd.prog 8 Qd 62 2 Kr = true := by kernel_rfl
theorem q3U : Ax Tryd.prog 7 Yo 21 2 Yp = true := by kernel_rfl
theorem q28 : Ax Tryd.prog 11 Qe 20 2 M4 = true := by kernel_rfl
theorem Xe : Ax Tryd.prog 3 Je 165 3 Cm = true := by kernel_rfl
end Go.Lg
namespace Go.Lg
open Go Go.Proofs
variable {Γ : Tables}
def q3V (V b : Int) : Int := if V < b % (2 * V + 1) then V - b % (2 * V + 1) else b % (2 * V + 1)
def Ql (V : Int) : List Int → List Int → List (Sl Int) → List Int × List (Sl Int)
 | [], cl, acc => (cl, acc)
 | b :: l, cl, acc => if b % (2 * V + 1) = 0 then Ql V l [] (acc ++ [⟨cl, none, none⟩]) else Ql V l (cl ++ [q3V V b]) acc
def cOf (vars : Int) (l : List Int) : Cf :=
 let r := Ql (1 + vars % 8) l [] []
 ⟨1 + vars % 8, ⟨if r.1 = [] then r.2 else r.2 ++ [⟨r.1, none, none⟩], none, none⟩⟩
theorem qCg {Q : AX → St → Prop} (V : Int) (hV : 1 ≤ V) (hV2 : V ≤ 8) (l : Sl Int) (hl : l.l.length ≤ 1000) (hb : ∀ b ∈ l.l, 0 ≤ b ∧ b ≤ 255) (R : List Int × List (Sl Int))
  (h0 : Q (.exit 0) ⟨[(1, .t (tV l)), (4, .lp 4 0 0), (5, .lp 5 0 0), (6, .ls 49 0 R.1.length none), (7, .t (tI l.l.length)), (17, .t (tB false))], [(4, .bx [.t (tI 0), .t (.sl [] (some 0) (some true))]), (5, .bx [.t (tI V), .ls 36 0 R.2.length none]), (36, .sl 50 1 (Dc C5 R.2)), (49, .sl 3 1 (D9 R.1))]⟩) :
  ∀ (k i : Nat), k + i = l.l.length → ∀ (cl : List Int) (acc : List (Sl Int)), cl.length ≤ i → acc.length ≤ i → Ql V (l.l.drop i) cl acc = R →
  run Tryd.prog Γ Ro Q ⟨[(1, .t (tV l)), (4, .lp 4 0 0), (5, .lp 5 0 0), (6, .ls 49 0 cl.length none), (7, .t (tI i))], [(4, .bx [.t (tI 0), .t (.sl [] (some 0) (some true))]), (5, .bx [.t (tI V), .ls 36 0 acc.length none]), (36, .sl 50 1 (Dc C5 acc)), (49, .sl 3 1 (D9 cl))]⟩
 | 0, i, h, cl, acc, hc1, hc2, hR => by
  refine Vr fun K hK => ?_
  have h2 : i = l.l.length := by omega
  subst h2
  rw [List.drop_length] at hR
  simp only [Ql] at hR
  subst hR
  simp [tV, A3] at h0 ⊢
  simpa using h0
 | k + 1, i, h, cl, acc, hc1, hc2, hR => by
  refine Vr fun K hK => ?_
  have h2 : i < l.l.length := by omega
  have e1 := elC (f := tK) 0 h2
  have e1' := Vv (f := tK) 0 h2
  have w1 : IntKind.i64.wrap ((i : Int) + 1) = (i : Int) + 1 := by rw [A7] <;> omega
  have hd : l.l.drop i = l.l.getD i 0 :: l.l.drop (i + 1) := by
   rw [List.getD_eq_getElem?_getD, List.getElem?_eq_getElem h2]; exact List.drop_eq_getElem_cons h2
  rw [hd] at hR
  simp only [Ql] at hR
  have hbb := hb _ (Dy (d := 0) h2)
  have ih := fun cl acc => qCg V hV hV2 l hl hb R h0 k (i + 1) (by omega) cl acc
  generalize l.l.getD i 0 = b at *
  have w2 : IntKind.i64.wrap b = b := by rw [A7] <;> omega
  have w3 : IntKind.i64.wrap (2 * V) = 2 * V := by rw [A7] <;> omega
  have w4 : IntKind.i64.wrap (2 * V + 1) = 2 * V + 1 := by rw [A7] <;> omega
  have hne : ¬ 2 * V + 1 = 0 := by omega
  have ht : b.tmod (2 * V + 1) = b % (2 * V + 1) := Int.tmod_eq_emod_of_nonneg hbb.1
  have hm0 : 0 ≤ b % (2 * V + 1) := Int.emod_nonneg _ (by omega)
  have hm1 : b % (2 * V + 1) < 2 * V + 1 := Int.emod_lt_of_pos _ (by omega)
  have hlit : q3V V b = if V < b % (2 * V + 1) then V - b % (2 * V + 1) else b % (2 * V + 1) := rfl
  have w0 : IntKind.i64.wrap (b % (2 * V + 1)) = b % (2 * V + 1) := by rw [A7] <;> omega
  simp [tV, A3, Ad, h2, e1, e1', w1, w2, w3, w4, hne, ht, w0]
  generalize b % (2 * V + 1) = q at *
  by_cases hq0 : q = 0
  ·rw [if_pos hq0] at hR
   have ih := ih [] (acc ++ [⟨cl, none, none⟩]) (by simp) (by simp; omega) hR
   have hap : Dc C5 acc ++ [[T.sl (D9 cl) none none]] = Dc C5 (acc ++ [⟨cl, none, none⟩]) := J4 (f := C5) (l := acc) (x := ⟨cl, none, none⟩)
   have hw1 : Gk 1 [[T.sl (D9 cl) none none]] := Ad (f := C5) (l := [⟨cl, none, none⟩])
   simp [tV, q5x] at ih
   subst hq0
   simp [Fh, St.freeze, Ak.closed, D8, frz1, frz0, K4, del, An, A3, hap, hw1, w1]
   refine ⟨by omega, ?_⟩
   rw [hK]
   simpa using ih
  ·rw [if_neg hq0] at hR
   have ih := ih (cl ++ [q3V V b]) acc (by simp; omega) (by omega) hR
   have hap : ∀ x : Int, D9 cl ++ [[tI x]] = D9 (cl ++ [x]) := fun x => J4
   have hw1 : ∀ x : Int, Gk 1 [[tI x]] := fun x => Ad (f := tI) (l := [x])
   rw [hlit] at ih
   by_cases hq1 : V < q
   ·rw [if_pos hq1] at ih
    have w5 : IntKind.i64.wrap (V - q) = V - q := by rw [A7] <;> omega
    simp [tV] at ih
    simp [Fh, hq0, hq1, w5, A3, hap, hw1, w1]
    refine ⟨by omega, ?_⟩
    rw [hK]
    simpa using ih
   ·rw [if_neg hq1] at ih
    simp [tV] at ih
    simp [Fh, hq0, hq1, A3, hap, hw1, w1]
    refine ⟨by omega, ?_⟩
    rw [hK]
    simpa using ih
theorem qAg (vars : Int) (hv0 : 0 ≤ vars) (hv1 : vars ≤ 255) (l : Sl Int) (hl : l.l.length ≤ 1000) (hb : ∀ b ∈ l.l, 0 ≤ b ∧ b ≤ 255) : Aw Tryd.prog Γ 6 [tK vars, tV l] (.agg (O2 (cOf vars l.l))) := by
 refine P8 q59 rfl ?_
 have ht : vars.tmod 8 = vars % 8 := Int.tmod_eq_emod_of_nonneg hv0
 have hm0 : 0 ≤ vars % 8 := Int.emod_nonneg _ (by omega)
 have hm1 : vars % 8 < 8 := Int.emod_lt_of_pos _ (by omega)
 have hcof : cOf vars l.l = ⟨1 + vars % 8, ⟨if (Ql (1 + vars % 8) l.l [] []).1 = [] then (Ql (1 + vars % 8) l.l [] []).2 else (Ql (1 + vars % 8) l.l [] []).2 ++ [⟨(Ql (1 + vars % 8) l.l [] []).1, none, none⟩], none, none⟩⟩ := rfl
 rw [hcof]
 obtain ⟨cl, acc, hR⟩ : ∃ cl acc, Ql (1 + vars % 8) l.l [] [] = (cl, acc) := ⟨_, _, rfl⟩
 rw [hR]
 have g := fun Q h0 => qCg (Γ := Γ) (Q := Q) (1 + vars % 8) (by omega) (by omega) l hl hb (cl, acc) h0 l.l.length 0 (by omega) [] [] (by simp) (by simp) hR
 have wm : IntKind.i64.wrap (vars % 8) = vars % 8 := by rw [A7] <;> omega
 have wm2 : IntKind.i64.wrap (1 + vars % 8) = 1 + vars % 8 := by rw [A7] <;> omega
 generalize vars % 8 = q at *
 simp [tV, q5x] at g
 simp [q1r, tV, ht, wm, wm2]
 refine g _ ?_
 have hap : Dc C5 acc ++ [[T.sl (D9 cl) none none]] = Dc C5 (acc ++ [⟨cl, none, none⟩]) := J4 (f := C5) (l := acc) (x := ⟨cl, none, none⟩)
 have hw1 : Gk 1 [[T.sl (D9 cl) none none]] := Ad (f := C5) (l := [⟨cl, none, none⟩])
 have hla : acc.length ≤ 1000 := by
  have key : ∀ (V : Int) (l cl : List Int) (acc : List (Sl Int)), (Ql V l cl acc).2.length ≤ l.length + acc.length := by
   intro V l
   induction l with
   | nil => intro cl acc; simp [Ql]
   | cons b l ih =>
    intro cl acc
    simp only [Ql]
    split
    ·have := ih [] (acc ++ [⟨cl, none, none⟩]); simp at this ⊢; omega
    ·have := ih (cl ++ [q3V V b]) acc; simp at this ⊢; omega
  have := key (1 + q) l.l [] []
  rw [hR] at this; simp at this; omega
 by_cases hcl : cl = []
 ·subst hcl
  simp [Xc, O2, B6, A3, An, Aa]
 ·have hpos : 0 < cl.length := List.length_pos_iff.2 hcl
  simp [hpos, hcl, Fh, St.freeze, Ak.closed, D8, frz1, frz0, K4, del, An, A3, hap, hw1, Xc, O2, B6, Aa, wm2]
  exact ⟨by omega, List.take_of_length_le (by simp [Dc])⟩
def F9 (m : Int) (n : Nat) : List Int := (List.range n).map fun i => m / 2 ^ i % 2
theorem q8F {Q : AX → St → Prop} (m : Int) (hm0 : 0 ≤ m) (hm : m ≤ 1000) (n : Nat) (hn : n ≤ 8)
  (h0 : Q (.exit 0) ⟨[(0, .t (tI m)), (1, .t (tI n)), (5, .ls 19 0 n none), (6, .t (tI n)), (9, .t (tB false))], [(19, .sl 31 1 (Dz (F9 m n)))]⟩) : ∀ (k i : Nat), k + i = n →
  run Tryd.prog Γ O3 Q ⟨[(0, .t (tI m)), (1, .t (tI n)), (5, .ls 19 0 i none), (6, .t (tI i))], [(19, .sl 31 1 (Dz (F9 m i)))]⟩
 | 0, i, h => by
  refine Rq fun K hK => ?_
  have h2 : i = n := by omega
  subst h2
  simp
  simpa using h0
 | k + 1, i, h => by
  refine Rq fun K hK => ?_
  have ih := q8F m hm0 hm n hn h0 k (i + 1) (by omega)
  have h2 : i < n := by omega
  have w1 : IntKind.i64.wrap ((i : Int) + 1) = (i : Int) + 1 := by rw [A7] <;> omega
  have hmin : min i IntKind.i64.bits = i := by have : IntKind.i64.bits = 64 := rfl; omega
  have hp : (0 : Int) < 2 ^ i := Int.pow_pos (by decide)
  have hd0 : 0 ≤ m / 2 ^ i := Int.ediv_nonneg hm0 (by omega)
  have hfd : m.fdiv (2 ^ i) = m / 2 ^ i := Int.fdiv_eq_ediv_of_nonneg _ (by omega)
  have ht : (m / 2 ^ i).tmod 2 = m / 2 ^ i % 2 := Int.tmod_eq_emod_of_nonneg hd0
  have hm2 : 0 ≤ m / 2 ^ i % 2 := Int.emod_nonneg _ (by decide)
  have hm3 : m / 2 ^ i % 2 < 2 := Int.emod_lt_of_pos _ (by decide)
  have wx : IntKind.u8.wrap (m / 2 ^ i % 2) = m / 2 ^ i % 2 := by rw [q2F] <;> omega
  have hap : Dz (F9 m i) ++ [[tK (m / 2 ^ i % 2)]] = Dz (F9 m (i + 1)) := by
   have := J4 (f := tK) (l := F9 m i) (x := m / 2 ^ i % 2)
   rw [this]; congr 1; simp [F9, List.range_succ]
  have hlen : (Dz (F9 m i)).length = i := by simp [Dz, Dc, F9]
  have hw : Gk 1 [[tK (m / 2 ^ i % 2)]] := Ad (f := tK) (l := [m / 2 ^ i % 2])
  have htk : List.take i (Dz (F9 m i)) = Dz (F9 m i) := List.take_of_length_le (by omega)
  generalize m / 2 ^ i % 2 = x at *
  generalize Dz (F9 m i) = E0 at *
  simp [h2, w1, hmin, hfd, ht, wx, hap, hlen, hw, htk]
  refine ⟨by omega, ?_⟩
  rw [hK]
  simpa using ih
theorem q91 (m : Int) (hm0 : 0 ≤ m) (hm : m ≤ 1000) (n : Nat) (hn : n ≤ 8) : Aw Tryd.prog Γ 7 [tI m, tI n] (.sl (Dz (F9 m n)) none none) := by
 refine P8 q3U rfl ?_
 have g := fun Q h0 => q8F (Γ := Γ) (Q := Q) m hm0 hm n hn h0 n 0 (by omega)
 have e0 : Dz (F9 m 0) = [] := rfl
 have hlen : (Dz (F9 m n)).length = n := by simp [Dz, Dc, F9]
 rw [e0] at g
 simp at g
 simp [Yo]
 refine g _ ?_
 simp [Yp, An]
 exact List.take_of_length_le (by omega)
theorem q6F {Q : AX → St → Prop} (l : Sl Int) (hl : l.l.length ≤ 1000000)
  (h0 : (∀ v ∈ l.l, v ≤ 1) → Q (.exit 0) ⟨[(0, .t (tV l)), (1, .t (tI l.l.length)), (5, .t (tI l.l.length)), (12, .t (tB false))], []⟩)
  (h1 : (∃ v ∈ l.l, 1 < v) → Q .ret ⟨[(4, .t (tB false))], []⟩) : ∀ (k i : Nat), k + i = l.l.length → (∀ j, j < i → l.l.getD j 0 ≤ 1) →
  run Tryd.prog Γ M3 Q ⟨[(0, .t (tV l)), (1, .t (tI l.l.length)), (5, .t (tI i))], []⟩
 | 0, i, h, hj => by
  refine Qf fun K hK => ?_
  have h2 : i = l.l.length := by omega
  subst h2
  have h0 := h0 fun x hx => by
   obtain ⟨j, hj2, rfl⟩ := List.getElem_of_mem hx
   have := hj j hj2
   rwa [List.getD_eq_getElem?_getD, List.getElem?_eq_getElem hj2] at this
  simp [tV] at h0 ⊢
  simpa using h0
 | k + 1, i, h, hj => by
  refine Qf fun K hK => ?_
  have h2 : i < l.l.length := by omega
  have e1 := elC (f := tK) 0 h2
  have e1' := Vv (f := tK) 0 h2
  have w1 : IntKind.i64.wrap ((i : Int) + 1) = (i : Int) + 1 := by rw [A7] <;> omega
  have hm := Dy (d := 0) h2
  by_cases hx : 1 < l.l.getD i 0
  ·have h1 := h1 ⟨_, hm, hx⟩
   generalize l.l.getD i 0 = x at *
   simp [tV, A3, Ad, h2, e1, e1', hx]
   simpa using h1
  ·have ih := q6F l hl h0 h1 k (i + 1) (by omega) fun j hj2 => by
    by_cases e : j = i
    ·subst e; omega
    ·exact hj j (by omega)
   generalize l.l.getD i 0 = x at *
   simp [tV] at ih
   simp [tV, A3, Ad, h2, e1, e1', hx, w1]
   rw [hK]
   simpa using ih
theorem q7Q (l : Sl Int) (hl : l.l.length ≤ 1000000) (n : Int) : A5 Tryd.prog Γ 11 [tV l, tI n] (tB (decide ((l.l.length : Int) = n) && l.l.all fun v => decide (v ≤ 1))) := by
 refine Ah q28 rfl ?_
 by_cases hn : (l.l.length : Int) = n
 ·subst hn
  have g := fun Q h0 h1 => q6F (Γ := Γ) (Q := Q) l hl h0 h1 l.l.length 0 (by omega) (fun j hj => by omega)
  simp [tV] at g
  simp [Qe, tV, A3]
  refine g _ (fun hx => ?_) (fun x hx hx2 => ?_)
  ·simp [M4]
   intro v hv; exact hx v hv
  ·simp [M4]
   exact ⟨x, hx, hx2⟩
 ·simp [Qe, tV, A3, hn, M4]
def q0X (a c : List Int) : Bool := c.any fun l => decide (Jc a l = 1)
def U5 (a : List Int) (cls : List (List Int)) : Bool := cls.all (q0X a)
theorem q3W {a : List Int} {cls : List (List Int)} : U5 a cls = true ↔ q0G a cls := by
 simp [U5, q0X, q0G, qCf]
theorem q6G {Q : AX → St → Prop} (a : Sl Int) (hn : a.l.length ≤ 1000000000) (hv : ∀ v ∈ a.l, 0 ≤ v) (c : Sl Int) (hc : c.l.length ≤ 1000000000) (hok : ∀ l ∈ c.l, D7 a.l.length l) (A B C : AV)
  (h0 : Q (.exit 2) ⟨[(1, .t (tV a)), (5, .t (.fn 21 [])), (8, .t (tB (q0X a.l c.l))), (22, A), (23, B), (24, C), (28, .t (C5 c)), (29, .t (tI c.l.length)), (30, .t (tI c.l.length)), (31, .t (tB false))], []⟩) :
  ∀ (k i : Nat), k + i = c.l.length → ∀ ok : Bool, (ok || (c.l.drop i).any fun l => decide (Jc a.l l = 1)) = q0X a.l c.l →
  run Tryd.prog Γ Nx Q ⟨[(1, .t (tV a)), (5, .t (.fn 21 [])), (8, .t (tB ok)), (22, A), (23, B), (24, C), (28, .t (C5 c)), (29, .t (tI c.l.length)), (30, .t (tI i))], []⟩
 | 0, i, h, ok, hR => by
  refine Rh fun K hK => ?_
  have h2 : i = c.l.length := by omega
  subst h2
  have hR : ok = q0X a.l c.l := by simpa using hR
  rw [← hR] at h0
  simp [C5, tV] at h0 ⊢
  simpa using h0
 | k + 1, i, h, ok, hR => by
  refine Rh fun K hK => ?_
  have h2 : i < c.l.length := by omega
  have e1 := elC (f := tI) 0 h2
  have e1' := Vv (f := tI) 0 h2
  have w1 : IntKind.i64.wrap ((i : Int) + 1) = (i : Int) + 1 := by rw [A7] <;> omega
  have hl := hok _ (Dy (d := 0) h2)
  have hd : c.l.drop i = c.l.getD i 0 :: c.l.drop (i + 1) := by
   rw [List.getD_eq_getElem?_getD, List.getElem?_eq_getElem h2]; exact List.drop_eq_getElem_cons h2
  rw [hd, List.any_cons] at hR
  have ih := fun ok => q6G a hn hv c hc hok A B C h0 k (i + 1) (by omega) ok
  generalize c.l.getD i 0 = l at *
  have hspec := qAX (Γ := Γ) a l hl hn hv
  cases ok with
  | true =>
   have ih := ih true (by simpa using hR)
   simp [C5, tV] at ih
   simp [C5, tV, A3, Ad, h2, e1, e1', w1]
   rw [hK]
   simpa using ih
  | false =>
   have ih := ih (decide (Jc a.l l = 1)) (by simpa using hR)
   simp [C5, tV, A3, Ad, h2, e1, e1']
   refine A4 hspec rfl ?_
   generalize Jc a.l l = x at *
   simp [C5, tV] at ih
   simp [w1]
   rw [hK]
   simpa using ih
theorem q6H {Q : AX → St → Prop} (f : Cf) (a : Sl Int) (hn : a.l.length ≤ 1000000000) (hv : ∀ v ∈ a.l, 0 ≤ v) (hcl : q1p a.l.length f.L) (hll : f.cls.l.length ≤ 1000000) (hle : ∀ c ∈ f.cls.l, c.l.length ≤ 1000000)
  (h0 : U5 a.l f.L = true → Q (.exit 0) ⟨[(1, .t (tV a)), (5, .t (.fn 21 [])), (22, .t (B6 f.cls)), (23, .t (tI f.cls.l.length)), (24, .t (tI f.cls.l.length)), (25, .t (tB false))], []⟩)
  (h1 : U5 a.l f.L = false → Q .ret ⟨[(4, .t (tB false))], []⟩) :
  ∀ (k i : Nat), k + i = f.cls.l.length → U5 a.l (f.L.drop i) = U5 a.l f.L →
  run Tryd.prog Γ Ny Q ⟨[(1, .t (tV a)), (5, .t (.fn 21 [])), (22, .t (B6 f.cls)), (23, .t (tI f.cls.l.length)), (24, .t (tI i))], []⟩
 | 0, i, h, hR => by
  refine Ri fun K hK => ?_
  have h2 : i = f.cls.l.length := by omega
  subst h2
  rw [List.drop_eq_nil_of_le (by simp [Cf.L])] at hR
  have h0 := h0 (by rw [← hR]; rfl)
  simp [B6, tV] at h0 ⊢
  simpa using h0
 | k + 1, i, h, hR => by
  refine Ri fun K hK => ?_
  have h2 : i < f.cls.l.length := by omega
  have e1 := elC (f := C5) Sl.d h2
  have e1' := Vv (f := C5) Sl.d h2
  have w1 : IntKind.i64.wrap ((i : Int) + 1) = (i : Int) + 1 := by rw [A7] <;> omega
  have hmem := Dy (d := Sl.d) h2
  have hce := hle _ hmem
  have hcok : ∀ l ∈ (f.cls.l.getD i Sl.d).l, D7 a.l.length l := hcl _ (List.mem_map.2 ⟨_, hmem, rfl⟩)
  have hd : f.L.drop i = (f.cls.l.getD i Sl.d).l :: f.L.drop (i + 1) := by
   have hi : i < f.L.length := by simpa [Cf.L] using h2
   rw [List.drop_eq_getElem_cons hi, List.getD_eq_getElem?_getD, List.getElem?_eq_getElem h2]
   simp [Cf.L]
  rw [hd] at hR
  have hR : (q0X a.l (f.cls.l.getD i Sl.d).l && U5 a.l (f.L.drop (i + 1))) = U5 a.l f.L := by rw [← hR]; rfl
  have ih := q6H f a hn hv hcl hll hle h0 h1 k (i + 1) (by omega)
  generalize f.cls.l.getD i Sl.d = c at *
  have ec : C5 c = .sl (D9 c.l) c.cap c.nl := rfl
  have g := fun Q h0 => q6G (Γ := Γ) (Q := Q) a hn hv c (by omega) hcok (.t (B6 f.cls)) (.t (tI f.cls.l.length)) (.t (tI i)) h0 c.l.length 0 (by omega) false (by simp [q0X])
  simp [C5, B6, tV] at g
  simp [B6, tV, A3, Ad, h2, e1, e1', ec]
  refine g _ ?_
  cases hs : q0X a.l c.l with
  | true =>
   rw [hs] at hR
   have ih := ih (by simpa using hR)
   simp [B6, tV] at ih
   simp [w1]
   rw [hK]
   simpa using ih
  | false =>
   rw [hs] at hR
   have h1 := h1 (by rw [← hR]; rfl)
   simp
   simpa using h1
theorem q3X (f : Cf) (he : Ti f = 0) (m : Sl Int) (hl : (m.l.length : Int) = f.vars) (hv : ∀ v ∈ m.l, 0 ≤ v) : A5 Tryd.prog Γ 9 [.agg (O2 f), tV m] (tB (U5 m.l f.L)) := by
 refine Ah q3M rfl ?_
 obtain ⟨hv0, hv1, hf⟩ := q0K he
 have hn : f.vars.toNat = m.l.length := by omega
 rw [hn] at hf
 have hck := S9 (Γ := Γ) f ⟨by omega, by omega⟩
 rw [he] at hck
 have hnb := hf.nb
 have g := fun Q h0 h1 => q6H (Γ := Γ) (Q := Q) f m (by omega) hv hf.cl hf.ll hf.le h0 h1 f.cls.l.length 0 (by omega) rfl
 simp [B6, tV] at g
 simp [Yf, O2, B6, tV]
 refine A4 hck rfl ?_
 simp [A3, hl]
 refine g _ (fun e => ?_) (fun e => ?_)
 ·simp [S8, e]
 ·simp [S8, e]
theorem qAh {Q : AX → St → Prop} (f : Cf) (j : Nat) (hj : j < f.cls.l.length) (hjj : f.cls.l.length ≤ 1000000) (a : Sl Int) (hn : a.l.length ≤ 1000000000) (hv : ∀ v ∈ a.l, 0 ≤ v) (c : Sl Int) (hcj : f.cls.l.getD j Sl.d = c) (hc : c.l.length ≤ 1000000000) (hok : ∀ l ∈ c.l, D7 a.l.length l)
  (h0 : Q (.exit 2) ⟨[(1, .t (tV a)), (2, .t (.ip (O2 f) 0)), (5, .t (tI j)), (6, .t (tB (q0X a.l c.l))), (7, .t (tI c.l.length)), (23, .t (tB false))], []⟩) :
  ∀ (k i : Nat), k + i = c.l.length → ∀ ok : Bool, (ok || (c.l.drop i).any fun l => decide (Jc a.l l = 1)) = q0X a.l c.l →
  run Tryd.prog Γ H5 Q ⟨[(1, .t (tV a)), (2, .t (.ip (O2 f) 0)), (5, .t (tI j)), (6, .t (tB ok)), (7, .t (tI i))], []⟩
 | 0, i, h, ok, hR => by
  refine Ly fun K hK => ?_
  have h2 : i = c.l.length := by omega
  subst h2
  have hR : ok = q0X a.l c.l := by simpa using hR
  rw [← hR] at h0
  have g1 := elC (f := C5) Sl.d hj
  have g1' := Vv (f := C5) Sl.d hj
  rw [hcj] at g1 g1'
  have ec : C5 c = .sl (D9 c.l) c.cap c.nl := rfl
  simp [tV, O2, B6] at h0
  simp [tV, O2, B6, A3, Ad, hj, g1, g1', ec]
  simpa using h0
 | k + 1, i, h, ok, hR => by
  refine Ly fun K hK => ?_
  have h2 : i < c.l.length := by omega
  have g1 := elC (f := C5) Sl.d hj
  have g1' := Vv (f := C5) Sl.d hj
  rw [hcj] at g1 g1'
  have ec : C5 c = .sl (D9 c.l) c.cap c.nl := rfl
  have e1 := elC (f := tI) 0 h2
  have e1' := Vv (f := tI) 0 h2
  have w1 : IntKind.i64.wrap ((i : Int) + 1) = (i : Int) + 1 := by rw [A7] <;> omega
  have hl := hok _ (Dy (d := 0) h2)
  have hd : c.l.drop i = c.l.getD i 0 :: c.l.drop (i + 1) := by
   rw [List.getD_eq_getElem?_getD, List.getElem?_eq_getElem h2]; exact List.drop_eq_getElem_cons h2
  rw [hd, List.any_cons] at hR
  have ih := fun ok => qAh f j hj hjj a hn hv c hcj hc hok h0 k (i + 1) (by omega) ok
  generalize c.l.getD i 0 = l at *
  have hp := hl.pos
  have hi := q0H hl
  have q1 := elC (f := tK) 0 hp
  have q1' := Vv (f := tK) 0 hp
  have hx0 := hv _ (Dy (d := 0) hp)
  have hval : Jc a.l l = if l < 0 then q7K (a.l.getD (Ez l) 0) else a.l.getD (Ez l) 0 := rfl
  cases ok with
  | true =>
   have ih := ih true (by simpa using hR)
   simp [O2, B6, tV] at ih
   simp [O2, B6, tV, A3, Ad, hj, g1, g1', ec, h2, e1, e1', w1]
   rw [hK]
   simpa using ih
  | false =>
   have ih := ih (decide (Jc a.l l = 1)) (by simpa using hR)
   rw [hval] at ih
   unfold D7 at hl
   generalize a.l.getD (Ez l) 0 = x at *
   generalize Ez l = p at *
   by_cases hneg : l < 0
   ·have n1 : ¬ 0 < l := by omega
    have w2 : IntKind.i64.wrap (-l) = (p : Int) + 1 := by rw [A7] <;> omega
    have w3 : IntKind.i64.wrap (p : Int) = p := by rw [A7] <;> omega
    have hd2 : decide (q7K x = 1) = decide (x = 0) := by
     unfold q7K; rw [decide_eq_decide]; split <;> omega
    rw [if_pos hneg, hd2] at ih
    simp [O2, B6, tV] at ih
    simp [O2, B6, tV, A3, Ad, hj, g1, g1', ec, h2, e1, e1', w1, w2, w3, hneg, n1, hp, q1, q1']
    rw [hK]
    simpa using ih
   ·have n1 : 0 < l := by omega
    have w3 : IntKind.i64.wrap (l - 1) = p := by rw [A7] <;> omega
    rw [if_neg hneg] at ih
    simp [O2, B6, tV] at ih
    by_cases hx1 : x = 1
    ·simp [hx1] at ih
     simp [O2, B6, tV, A3, Ad, hj, g1, g1', ec, h2, e1, e1', w1, w3, hneg, n1, hp, q1, q1', hx1]
     rw [hK]
     simpa using ih
    ·simp [hx1] at ih
     simp [O2, B6, tV, A3, Ad, hj, g1, g1', ec, h2, e1, e1', w1, w3, hneg, n1, hp, q1, q1', hx1]
     rw [hK]
     simpa using ih
theorem qAi {Q : AX → St → Prop} (f : Cf) (a : Sl Int) (hn : a.l.length ≤ 1000000000) (hv : ∀ v ∈ a.l, 0 ≤ v) (hcl : q1p a.l.length f.L) (hll : f.cls.l.length ≤ 1000000) (hle : ∀ c ∈ f.cls.l, c.l.length ≤ 1000000)
  (h0 : U5 a.l f.L = true → Q (.exit 0) ⟨[(1, .t (tV a)), (2, .t (.ip (O2 f) 0)), (5, .t (tI f.cls.l.length)), (13, .t (tB false))], []⟩)
  (h1 : U5 a.l f.L = false → Q .ret ⟨[(4, .t (tB false))], []⟩) :
  ∀ (k i : Nat), k + i = f.cls.l.length → U5 a.l (f.L.drop i) = U5 a.l f.L →
  run Tryd.prog Γ H6 Q ⟨[(1, .t (tV a)), (2, .t (.ip (O2 f) 0)), (5, .t (tI i))], []⟩
 | 0, i, h, hR => by
  refine M1 fun K hK => ?_
  have h2 : i = f.cls.l.length := by omega
  subst h2
  rw [List.drop_eq_nil_of_le (by simp [Cf.L])] at hR
  have h0 := h0 (by rw [← hR]; rfl)
  simp [B6, O2, tV, A3] at h0 ⊢
  simpa using h0
 | k + 1, i, h, hR => by
  refine M1 fun K hK => ?_
  have h2 : i < f.cls.l.length := by omega
  have w1 : IntKind.i64.wrap ((i : Int) + 1) = (i : Int) + 1 := by rw [A7] <;> omega
  have hmem := Dy (d := Sl.d) h2
  have hce := hle _ hmem
  have hcok : ∀ l ∈ (f.cls.l.getD i Sl.d).l, D7 a.l.length l := hcl _ (List.mem_map.2 ⟨_, hmem, rfl⟩)
  have hd : f.L.drop i = (f.cls.l.getD i Sl.d).l :: f.L.drop (i + 1) := by
   have hi : i < f.L.length := by simpa [Cf.L] using h2
   rw [List.drop_eq_getElem_cons hi, List.getD_eq_getElem?_getD, List.getElem?_eq_getElem h2]
   simp [Cf.L]
  rw [hd] at hR
  have hR : (q0X a.l (f.cls.l.getD i Sl.d).l && U5 a.l (f.L.drop (i + 1))) = U5 a.l f.L := by rw [← hR]; rfl
  have ih := qAi f a hn hv hcl hll hle h0 h1 k (i + 1) (by omega)
  have g := fun Q h0 => qAh (Γ := Γ) (Q := Q) f i h2 hll a hn hv (f.cls.l.getD i Sl.d) rfl (by omega) hcok h0 (f.cls.l.getD i Sl.d).l.length 0 (by omega) false (by simp [q0X])
  generalize f.cls.l.getD i Sl.d = c at *
  simp [O2, B6, tV] at g
  simp [O2, B6, tV, A3, h2]
  refine g _ ?_
  cases hs : q0X a.l c.l with
  | true =>
   rw [hs] at hR
   have ih := ih (by simpa using hR)
   simp [O2, B6, tV] at ih
   simp [w1]
   rw [hK]
   simpa using ih
  | false =>
   rw [hs] at hR
   have h1 := h1 (by rw [← hR]; rfl)
   simp
   simpa using h1
theorem Qg (f : Cf) (he : Ti f = 0) (m : Sl Int) (hl : (m.l.length : Int) = f.vars) (hv : ∀ v ∈ m.l, 0 ≤ v) : A5 Tryd.prog Γ 8 [.agg (O2 f), tV m] (tB (U5 m.l f.L)) := by
 refine Ah Y3 rfl ?_
 obtain ⟨hv0, hv1, hf⟩ := q0K he
 have hn : f.vars.toNat = m.l.length := by omega
 rw [hn] at hf
 have hnb := hf.nb
 have g := fun Q h0 h1 => qAi (Γ := Γ) (Q := Q) f m (by omega) hv hf.cl hf.ll hf.le h0 h1 f.cls.l.length 0 (by omega) rfl
 simp [O2, B6, tV] at g
 simp [Qd, O2, B6, tV]
 refine g _ (fun e => ?_) (fun e => ?_)
 ·simp [Kr, e]
 ·simp [Kr, e]
theorem qAj {V b : Int} (hV : 1 ≤ V) (h : b % (2 * V + 1) ≠ 0) : D7 V.toNat (q3V V b) := by
 have h0 : 0 ≤ b % (2 * V + 1) := Int.emod_nonneg _ (by omega)
 have h1 : b % (2 * V + 1) < 2 * V + 1 := Int.emod_lt_of_pos _ (by omega)
 unfold q3V D7
 split <;> omega
theorem q5A {V : Int} (hV : 1 ≤ V) : ∀ (l cl : List Int) (acc : List (Sl Int)), (∀ x ∈ cl, D7 V.toNat x) → (∀ c ∈ acc, ∀ x ∈ c.l, D7 V.toNat x) →
  (∀ x ∈ (Ql V l cl acc).1, D7 V.toNat x) ∧ (∀ c ∈ (Ql V l cl acc).2, ∀ x ∈ c.l, D7 V.toNat x) ∧ (Ql V l cl acc).1.length ≤ l.length + cl.length ∧ (Ql V l cl acc).2.length ≤ l.length + acc.length ∧
   ∀ N, cl.length + l.length ≤ N → (∀ c ∈ acc, c.l.length ≤ N) → ∀ c ∈ (Ql V l cl acc).2, c.l.length ≤ N
 | [], cl, acc, h1, h2 => ⟨h1, h2, by simp [Ql], by simp [Ql], fun N _ h => h⟩
 | b :: l, cl, acc, h1, h2 => by
  simp only [Ql]
  split
  ·obtain ⟨i1, i2, i3, i4, i5⟩ := q5A hV l [] (acc ++ [⟨cl, none, none⟩]) (fun x hx => by cases hx) (fun c hc x hx => by
    rcases List.mem_append.1 hc with hc | hc
    ·exact h2 c hc x hx
    ·simp at hc; subst hc; exact h1 x hx)
   refine ⟨i1, i2, by simp at i3 ⊢; omega, by simp at i4 ⊢; omega, fun N hN ha => i5 N (by simp at hN ⊢; omega) fun c hc => ?_⟩
   rcases List.mem_append.1 hc with hc | hc
   ·exact ha c hc
   ·simp at hc; subst hc; simp at hN ⊢; omega
  ·rename_i hne
   obtain ⟨i1, i2, i3, i4, i5⟩ := q5A hV l (cl ++ [q3V V b]) acc (fun x hx => by
    rcases List.mem_append.1 hx with hx | hx
    ·exact h1 x hx
    ·simp at hx; subst hx; exact qAj hV hne) h2
   exact ⟨i1, i2, by simp at i3 ⊢; omega, by simp at i4 ⊢; omega, fun N hN ha => i5 N (by simp at hN ⊢; omega) ha⟩
theorem qEL (vars : Int) (l : List Int) (hl : l.length ≤ 1000) : Ti (cOf vars l) = 0 ∧ 1 ≤ (cOf vars l).vars ∧ (cOf vars l).vars ≤ 8 ∧ (cOf vars l).cls.l.length ≤ l.length + 1 ∧ ∀ c ∈ (cOf vars l).cls.l, c.l.length ≤ l.length := by
 have hm0 : 0 ≤ vars % 8 := Int.emod_nonneg _ (by omega)
 have hm1 : vars % 8 < 8 := Int.emod_lt_of_pos _ (by omega)
 obtain ⟨i1, i2, i3, i4, i5⟩ := q5A (V := 1 + vars % 8) (by omega) l [] [] (fun x hx => by cases hx) (fun c hc => by cases hc)
 have i5 := i5 l.length (by simp) (fun c hc => by cases hc)
 have hcls : ∀ c ∈ (cOf vars l).cls.l, (∀ x ∈ c.l, D7 (1 + vars % 8).toNat x) ∧ c.l.length ≤ l.length := fun c hc => by
  simp only [cOf] at hc
  split at hc
  ·exact ⟨i2 c hc, i5 c hc⟩
  ·rcases List.mem_append.1 hc with hc | hc
   ·exact ⟨i2 c hc, i5 c hc⟩
   ·simp at hc; subst hc; exact ⟨i1, by simpa using i3⟩
 have hlen : (cOf vars l).cls.l.length ≤ l.length + 1 := by
  simp only [cOf]
  split
  ·simp at i4; omega
  ·simp at i4 ⊢; omega
 have hv : (cOf vars l).vars = 1 + vars % 8 := rfl
 have hck : ∀ (cs : List (List Int)), (∀ c ∈ cs, (∀ x ∈ c, D7 (1 + vars % 8).toNat x) ∧ c.length ≤ 4096) → q0J (1 + vars % 8) cs = 0 := by
  intro cs
  induction cs with
  | nil => intro _; rfl
  | cons c cs ih =>
   intro h
   obtain ⟨h1, h2⟩ := h c List.mem_cons_self
   simp only [q0J]
   rw [if_neg (by omega), if_neg, ih fun x hx => h x (List.mem_cons_of_mem _ hx)]
   rw [List.any_eq_true]
   rintro ⟨x, hx, hb⟩
   have := h1 x hx
   unfold D7 at this
   unfold q1B at hb
   simp at hb
   omega
 refine ⟨?_, by rw [hv]; omega, by rw [hv]; omega, hlen, fun c hc => (hcls c hc).2⟩
 unfold Ti
 rw [hv, if_neg (by omega), if_neg (by omega)]
 refine hck _ fun c hc => ?_
 obtain ⟨d, hd, rfl⟩ := List.mem_map.1 hc
 exact ⟨(hcls d hd).1, by have := (hcls d hd).2; omega⟩
theorem q4g (m : Int) (n : Nat) : q21 (F9 m n) := fun v hv => by
 obtain ⟨i, _, rfl⟩ := List.mem_map.1 hv
 have h0 : 0 ≤ m / 2 ^ i % 2 := Int.emod_nonneg _ (by decide)
 have h1 : m / 2 ^ i % 2 < 2 := Int.emod_lt_of_pos _ (by decide)
 omega
theorem q4h : ∀ (n : Nat) (m : List Int), q21 m → m.length = n → ∃ k : Nat, k < 2 ^ n ∧ F9 k n = m
 | 0, m, _, hl => ⟨0, by decide, by have := List.eq_nil_of_length_eq_zero hl; rw [this]; rfl⟩
 | n + 1, m, ht, hl => by
  cases m with
  | nil => simp at hl
  | cons x m =>
   obtain ⟨k, hk, hb⟩ := q4h n m (fun v hv => ht v (List.mem_cons_of_mem _ hv)) (by simpa using hl)
   have hx := ht x List.mem_cons_self
   have key : ∀ y : Nat, y < 2 → F9 ((2 * k + y : Nat) : Int) (n + 1) = (y : Int) :: m := fun y hy => by
    unfold F9
    rw [List.range_succ_eq_map, List.map_cons, List.map_map]
    congr 1
    ·simp only [Int.pow_zero, Int.ediv_one]; omega
    ·rw [← hb]
     unfold F9
     refine List.map_congr_left fun i _ => ?_
     show ((2 * k + y : Nat) : Int) / 2 ^ (i + 1) % 2 = (k : Int) / 2 ^ i % 2
     have e : (2 * k + y) / 2 ^ (i + 1) % 2 = k / 2 ^ i % 2 := by
      rw [Nat.pow_succ', ← Nat.div_div_eq_div_mul]
      have : (2 * k + y) / 2 = k := by omega
      rw [this]
     exact_mod_cast e
   rcases hx with rfl | rfl
   ·exact ⟨2 * k + 0, by rw [Nat.pow_succ]; omega, key 0 (by decide)⟩
   ·exact ⟨2 * k + 1, by rw [Nat.pow_succ]; omega, key 1 (by decide)⟩
def U6 (f : Cf) (k : Nat) : Bool := (List.range k).any fun n => U5 (F9 n f.vars.toNat) f.L
theorem q92 {f : Cf} : U6 f (2 ^ f.vars.toNat) = true ↔ ∃ m, q21 m ∧ m.length = f.vars.toNat ∧ q0G m f.L := by
 unfold U6
 rw [List.any_eq_true]
 constructor
 ·rintro ⟨n, _, h⟩
  exact ⟨_, q4g _ _, by simp [F9], q3W.1 h⟩
 ·rintro ⟨m, h1, h2, h3⟩
  obtain ⟨k, hk, hb⟩ := q4h _ m h1 h2
  exact ⟨k, List.mem_range.2 hk, by rw [hb]; exact q3W.2 h3⟩
theorem qAk {V : Int} (h1 : 1 ≤ V) (h2 : V ≤ 8) : IntKind.i64.wrap (1 * 2 ^ (min V.toNat IntKind.i64.bits)) = ((2 ^ V.toNat : Nat) : Int) ∧ (2 ^ V.toNat : Nat) ≤ 256 := by
 have : V.toNat = 1 ∨ V.toNat = 2 ∨ V.toNat = 3 ∨ V.toNat = 4 ∨ V.toNat = 5 ∨ V.toNat = 6 ∨ V.toNat = 7 ∨ V.toNat = 8 := by omega
 rcases this with e | e | e | e | e | e | e | e <;> rw [e] <;> decide
theorem qAl {Q : AX → St → Prop} (f : Cf) (he : Ti f = 0) (hv1 : 1 ≤ f.vars) (hv8 : f.vars ≤ 8) (A B : AV)
  (h0 : Q (.exit 0) ⟨[(1, A), (2, B), (7, .lp 7 0 0), (8, .t (tB (U6 f (2 ^ f.vars.toNat)))), (9, .t (tI (2 ^ f.vars.toNat : Nat))), (33, .t (tB false))], [(7, .bx [.t (tI f.vars), .t (B6 f.cls)])]⟩) :
  ∀ (k i : Nat), k + i = 2 ^ f.vars.toNat →
  run Tryd.prog Γ Fz Q ⟨[(1, A), (2, B), (7, .lp 7 0 0), (8, .t (tB (U6 f i))), (9, .t (tI i))], [(7, .bx [.t (tI f.vars), .t (B6 f.cls)])]⟩
 | 0, i, h => by
  refine L1 fun K hK => ?_
  obtain ⟨w1, w2⟩ := qAk hv1 hv8
  have h2 : i = 2 ^ f.vars.toNat := by omega
  rw [← h2] at h0 w1
  have w1 : IntKind.i64.wrap (2 ^ (min f.vars.toNat IntKind.i64.bits)) = (i : Int) := by rw [← w1, Int.one_mul]
  have hv0 : 0 ≤ f.vars := by omega
  simp [w1, hv0]
  simpa using h0
 | k + 1, i, h => by
  refine L1 fun K hK => ?_
  obtain ⟨w1, w2⟩ := qAk hv1 hv8
  have w1 : IntKind.i64.wrap (2 ^ (min f.vars.toNat IntKind.i64.bits)) = ((2 ^ f.vars.toNat : Nat) : Int) := by rw [← w1, Int.one_mul]
  have ih := qAl f he hv1 hv8 A B h0 k (i + 1) (by omega)
  have hsome : U6 f (i + 1) = (U6 f i || U5 (F9 i f.vars.toNat) f.L) := by simp [U6, List.range_succ, List.any_append]
  have hvn : (f.vars.toNat : Int) = f.vars := by omega
  have hb := q91 (Γ := Γ) (i : Int) (by omega) (by omega) f.vars.toNat (by omega)
  rw [hvn] at hb
  have hbl : ((F9 i f.vars.toNat).length : Int) = f.vars := by simp [F9]; omega
  have hb0 : ∀ v ∈ F9 i f.vars.toNat, 0 ≤ v := fun v hv => by have := q4g _ _ v hv; omega
  have hs := Qg (Γ := Γ) f he ⟨F9 i f.vars.toNat, none, none⟩ hbl hb0
  have hh := q3X (Γ := Γ) f he ⟨F9 i f.vars.toNat, none, none⟩ hbl hb0
  have hlt : i < 2 ^ f.vars.toNat := by omega
  have wi : IntKind.i64.wrap ((i : Int) + 1) = (i : Int) + 1 := by rw [A7] <;> omega
  generalize 2 ^ f.vars.toNat = N at *
  rw [hsome] at ih
  simp at hs hh
  generalize F9 (i : Int) f.vars.toNat = bs at *
  have hv0 : 0 ≤ f.vars := by omega
  simp [w1, hlt, hv0]
  refine Ie hb rfl ?_
  simp
  refine A4 hs rfl ?_
  generalize U5 bs f.L = sb at *
  cases hsm : U6 f i with
  | true =>
   rw [hsm] at ih
   simp at ih
   simp
   refine A4 hh rfl ?_
   simp [wi]
   rw [hK]
   simpa using ih
  | false =>
   rw [hsm] at ih
   simp at ih
   simp
   refine A4 hh rfl ?_
   simp [wi]
   rw [hK]
   simpa using ih
def Qm (l : List Int) (n : Nat) : List Int := (List.range n).map fun i => if i < l.length then l.getD i 0 % 5 else 2
theorem qAm {Q : AX → St → Prop} (f : Cf) (hv1 : 1 ≤ f.vars) (hv8 : f.vars ≤ 8) (l : Sl Int) (hl : l.l.length ≤ 60) (hb : ∀ b ∈ l.l, 0 ≤ b ∧ b ≤ 255) (B : T) (s : Bool)
  (h0 : Q (.exit 2) ⟨[(1, .t (tV l)), (2, .t B), (7, .lp 7 0 0), (8, .t (tB s)), (12, .ls 70 0 f.vars.toNat none), (13, .t (tI f.vars)), (55, .t (tB false))], [(7, .bx [.t (tI f.vars), .t (B6 f.cls)]), (70, .sl 31 1 (Dz (Qm l.l f.vars.toNat)))]⟩) :
  ∀ (k i : Nat), k + i = f.vars.toNat →
  run Tryd.prog Γ G1 Q ⟨[(1, .t (tV l)), (2, .t B), (7, .lp 7 0 0), (8, .t (tB s)), (12, .ls 70 0 i none), (13, .t (tI i))], [(7, .bx [.t (tI f.vars), .t (B6 f.cls)]), (70, .sl 31 1 (Dz (Qm l.l i)))]⟩
 | 0, i, h => by
  refine L2 fun K hK => ?_
  have h2 : i = f.vars.toNat := by omega
  have h3 : (i : Int) = f.vars := by omega
  rw [← h2] at h0
  rw [← h3] at h0 ⊢
  simp
  simpa using h0
 | k + 1, i, h => by
  refine L2 fun K hK => ?_
  have ih := qAm f hv1 hv8 l hl hb B s h0 k (i + 1) (by omega)
  have h2 : (i : Int) < f.vars := by omega
  have wi : IntKind.i64.wrap ((i : Int) + 1) = (i : Int) + 1 := by rw [A7] <;> omega
  have hap : Dz (Qm l.l i) ++ [[tK (if i < l.l.length then l.l.getD i 0 % 5 else 2)]] = Dz (Qm l.l (i + 1)) := by
   have := J4 (f := tK) (l := Qm l.l i) (x := if i < l.l.length then l.l.getD i 0 % 5 else 2)
   rw [this]; congr 1; simp [Qm, List.range_succ]
  have hlen : (Dz (Qm l.l i)).length = i := by simp [Dz, Dc, Qm]
  have hw : ∀ x : Int, Gk 1 [[tK x]] := fun x => Ad (f := tK) (l := [x])
  have htk : List.take i (Dz (Qm l.l i)) = Dz (Qm l.l i) := List.take_of_length_le (by omega)
  by_cases hi : i < l.l.length
  ·rw [if_pos hi] at hap
   have e1 := elC (f := tK) 0 hi
   have e1' := Vv (f := tK) 0 hi
   have hbb := hb _ (Dy (d := 0) hi)
   generalize l.l.getD i 0 = x at *
   have ht : x.tmod 5 = x % 5 := Int.tmod_eq_emod_of_nonneg hbb.1
   generalize Dz (Qm l.l i) = E0 at *
   simp [tV] at ih
   simp [tV, h2, hi, e1, e1', A3, Ad, ht, hap, hlen, hw, htk, wi]
   refine ⟨by omega, ?_⟩
   rw [hK]
   simpa using ih
  ·rw [if_neg hi] at hap
   generalize Dz (Qm l.l i) = E0 at *
   simp [tV] at ih
   simp [tV, h2, hi, A3, Ad, hap, hlen, hw, htk, wi]
   refine ⟨by omega, ?_⟩
   rw [hK]
   simpa using ih
theorem q5B (hlv : A5 Tryd.prog Γ 5 [] (tB true)) (vars lim : Int) (hv0 : 0 ≤ vars) (hv1 : vars ≤ 255) (hl0 : 0 ≤ lim) (hl1 : lim ≤ 255) (l : Sl Int) (hb : ∀ b ∈ l.l, 0 ≤ b ∧ b ≤ 255) :
  Aw Tryd.prog Γ 3 [tK vars, tV l, tK lim] (tB true) := by
 refine P8 Xe rfl ?_
 by_cases hl : 60 < l.l.length
 ·have hl2 : (60 : Int) < l.l.length := by omega
  simp [Je, tV, A3, hl, hl2]
  refine A4 hlv rfl ?_
  simp [Cm]
 ·have hl2 : ¬ (60 : Int) < l.l.length := by omega
  have hof := qAg (Γ := Γ) vars hv0 hv1 l (by omega) hb
  obtain ⟨he, hV1, hV8, hcl, hcll⟩ := qEL vars l.l (by omega)
  have hany0 : ∀ v ∈ Qm l.l (cOf vars l.l).vars.toNat, 0 ≤ v := fun v hv => by
   obtain ⟨i, _, rfl⟩ := List.mem_map.1 hv
   split
   ·exact Int.emod_nonneg _ (by decide)
   ·decide
  have hanyl : ((Qm l.l (cOf vars l.l).vars.toNat).length : Int) = (cOf vars l.l).vars := by simp [Qm]; omega
  have hlive := hlv
  generalize cOf vars l.l = f at *
  have g1 := fun Q A B h0 => qAl (Γ := Γ) (Q := Q) f he hV1 hV8 A B h0 (2 ^ f.vars.toNat) 0 (by omega)
  have g3 := fun Q B h0 => qAm (Γ := Γ) (Q := Q) f hV1 hV8 l (by omega) hb B (U6 f (2 ^ f.vars.toNat)) h0 f.vars.toNat 0 (by omega)
  have e0 : Dz (Qm l.l 0) = [] := rfl
  have es0 : U6 f 0 = false := rfl
  rw [e0] at g3
  rw [es0] at g1
  obtain ⟨ws, wn⟩ := qAk hV1 hV8
  have ws : IntKind.i64.wrap (2 ^ (min f.vars.toNat IntKind.i64.bits)) = ((2 ^ f.vars.toNat : Nat) : Int) := by rw [← ws, Int.one_mul]
  have hpos : 1 ≤ 2 ^ f.vars.toNat := Nat.one_le_two_pow
  have wm : IntKind.i64.wrap (((2 ^ f.vars.toNat : Nat) : Int) - 1) = ((2 ^ f.vars.toNat : Nat) : Int) - 1 := by rw [A7] <;> omega
  have hh := q3X (Γ := Γ) f he ⟨Qm l.l f.vars.toNat, none, none⟩ hanyl hany0
  have hs := Qg (Γ := Γ) f he ⟨Qm l.l f.vars.toNat, none, none⟩ hanyl hany0
  have hI : I64 f.vars := ⟨by omega, by omega⟩
  have hv0' : 0 ≤ f.vars := by omega
  have hS1 := Zl (Γ := Γ) f hI (((2 ^ f.vars.toNat : Nat) : Int) - 1)
  have hS2 := Zl (Γ := Γ) f hI (lim % 10)
  have hlt : lim.tmod 10 = lim % 10 := Int.tmod_eq_emod_of_nonneg hl0
  have hq0 : 0 ≤ lim % 10 := Int.emod_nonneg _ (by decide)
  have hq1 : lim % 10 < 10 := Int.emod_lt_of_pos _ (by decide)
  have wq : IntKind.i64.wrap (lim % 10) = lim % 10 := by rw [A7] <;> omega
  have hok1 := q8C he (lim := ((2 ^ f.vars.toNat : Nat) : Int) - 1) (by omega) (by omega)
  have hok2 := q8C he (lim := lim % 10) hq0 (by omega)
  have hlim := fun h (hd : (Si f (lim % 10)).2.1 = true) => q6C he (lim := lim % 10) (lim' := ((2 ^ f.vars.toNat : Nat) : Int) - 1) hq0 h (by omega) hd
  have hsome := q92 (f := f)
  have hNI : ((2 ^ f.vars.toNat : Nat) : Int) = (2 : Int) ^ f.vars.toNat := by simp
  rw [← hNI] at hok1 hok2
  generalize hN : 2 ^ f.vars.toNat = N at *
  have htk : List.take f.vars.toNat (Dz (Qm l.l f.vars.toNat)) = Dz (Qm l.l f.vars.toNat) := List.take_of_length_le (by simp [Dz, Dc, Qm])
  generalize lim % 10 = q at *
  generalize Qm l.l f.vars.toNat = an at *
  simp [O2, B6] at hof
  simp [tV, B6] at g1 g3
  simp [tV, O2, B6] at hh hs
  simp [Je, tV, A3, hl, hl2]
  refine Ie hof rfl ?_
  simp
  refine g1 _ _ _ ?_
  simp
  refine g3 _ _ ?_
  simp
  refine A4 hh (by simp [An, A2, Aa, htk]) ?_
  simp
  refine A4 hs (by simp [An, A2, Aa, htk]) ?_
  simp [ws, wm, hv0']
  refine A4 hS1 rfl ?_
  have heq : (Si f q).2.1 = true → (Si f (↑N - 1)).2.1 = true → Si f q = Si f (↑N - 1) := fun h1 h2 => by
   rcases Int.le_total q (↑N - 1) with h | h
   ·exact (hlim h h1).symm
   ·exact q6C he (lim := ↑N - 1) (lim' := q) (by omega) h (by omega) h2
  rcases hok1 with ⟨b, hb1, hb2, hb3, hb4⟩ | ⟨hb1, hb2⟩ | ⟨_, hb2⟩
  ·have hsm : U6 f N = true := hsome.2 ⟨b, hb2, hb3, hb4⟩
   have hbl : (b.length : Int) = f.vars := by omega
   have hm := q7Q (Γ := Γ) ⟨b, none, none⟩ (by simp only; omega) f.vars
   have hmt : (decide ((b.length : Int) = f.vars) && b.all fun v => decide (v ≤ 1)) = true := by
    simp only [hbl, decide_true, Bool.true_and, List.all_eq_true, decide_eq_true_eq]
    intro v hv; have := hb2 v hv; omega
   simp only [hmt] at hm
   have hst := Qg (Γ := Γ) f he ⟨b, none, none⟩ hbl (fun v hv => by have := hb2 v hv; omega)
   rw [show U5 b f.L = true from q3W.2 hb4] at hst
   have hsame := q4a (Γ := Γ) ⟨b, none, none⟩ ⟨b, none, none⟩ (by simp only; omega)
   rw [hb1, hsm]
   rw [hb1] at heq
   simp [q0L, q1C]
   refine A4 hm rfl ?_
   simp
   refine A4 hst rfl ?_
   simp [hlt, wq]
   refine A4 hS2 rfl ?_
   rcases hok2 with ⟨b2, hc1, hc2, hc3, hc4⟩ | ⟨hc1, hc2⟩ | ⟨hc1, hc2⟩
   ·rw [hc1] at heq ⊢
    have he2 := heq rfl rfl
    simp at he2
    subst he2
    simp [q0L, q1C]
    refine A4 hsame rfl ?_
    simp [q4Y]
    refine A4 hlv rfl ?_
    simp [Cm]
   ·rw [hc1] at heq
    have he2 := heq rfl rfl
    simp at he2
   ·have hlt2 : q < ↑N - 1 := by omega
    rw [hc1]
    simp [q0L, q1C, ws, wm, hlt2, hv0']
    refine A4 hlv rfl ?_
    simp [Cm]
  ·have hsm : U6 f N = false := by
    cases h : U6 f N with
    | false => rfl
    | true => obtain ⟨m, h1, h2, h3⟩ := hsome.1 h; exact absurd h3 (hb2 m h1 h2)
   have hsame := q4a (Γ := Γ) ⟨[], some 0, some true⟩ ⟨[], some 0, some true⟩ (by simp)
   rw [hb1, hsm]
   rw [hb1] at heq
   simp [q0L, q1C, hlt, wq]
   refine A4 hS2 rfl ?_
   rcases hok2 with ⟨b2, hc1, hc2, hc3, hc4⟩ | ⟨hc1, hc2⟩ | ⟨hc1, hc2⟩
   ·rw [hc1] at heq
    have he2 := heq rfl rfl
    simp at he2
   ·rw [hc1]
    simp [q0L, q1C]
    refine A4 hsame rfl ?_
    simp [q4Y]
    refine A4 hlv rfl ?_
    simp [Cm]
   ·have hlt2 : q < ↑N - 1 := by omega
    rw [hc1]
    simp [q0L, q1C, ws, wm, hlt2, hv0']
    refine A4 hlv rfl ?_
    simp [Cm]
  ·exfalso; omega
end Go.Lg
namespace Go.Lg
open Go
def eqW : Value → Value → Bool
 | .int .u8 a, .int .u8 b => decide (a = b)
 | .int .i64 a, .int .i64 b => decide (a = b)
 | .bool a, .bool b => a == b
 | .string a, .string b => decide (a.data.toList = b.data.toList)
 | _, _ => false
theorem qEM {a b : Value} (h : eqW a b = true) : a = b := by
 unfold eqW at h
 split at h
 ·rw [of_decide_eq_true h]
 ·rw [of_decide_eq_true h]
 ·rw [eq_of_beq h]
 ·rename_i a b
  have := of_decide_eq_true h
  obtain ⟨⟨a⟩⟩ := a
  obtain ⟨⟨b⟩⟩ := b
  simp only at this
  rw [this]
 ·cases h
mutual
def eqU : T → T → Bool
 | .v a, .v b => eqW a b
 | .sl a c n, .sl b d m => qAn a b && decide (c = d) && decide (n = m)
 | .agg a, .agg b => q6I a b
 | .tup a, .tup b => q6I a b
 | _, _ => false
def q6I : List T → List T → Bool
 | [], [] => true
 | a :: l, b :: m => eqU a b && q6I l m
 | _, _ => false
def qAn : List (List T) → List (List T) → Bool
 | [], [] => true
 | a :: l, b :: m => q6I a b && qAn l m
 | _, _ => false
end
mutual
theorem qEN : ∀ {a b : T}, eqU a b = true → a = b
 | .v a, b, h => by
  cases b <;> simp only [eqU, Bool.false_eq_true] at h
  rw [qEM h]
 | .sl a c n, b, h => by
  cases b <;> simp only [eqU, Bool.false_eq_true, Bool.and_eq_true, decide_eq_true_eq] at h
  rw [q8G h.1.1, h.1.2, h.2]
 | .agg a, b, h => by
  cases b <;> simp only [eqU, Bool.false_eq_true] at h
  rw [q0Y h]
 | .tup a, b, h => by
  cases b <;> simp only [eqU, Bool.false_eq_true] at h
  rw [q0Y h]
 | .ip _ _, b, h => by simp [eqU] at h
 | .fn _ _, b, h => by simp [eqU] at h
 | .mp _, b, h => by simp [eqU] at h
 | .pin _ _, b, h => by simp [eqU] at h
theorem q0Y : ∀ {a b : List T}, q6I a b = true → a = b
 | [], b, h => by cases b <;> simp [q6I] at h; rfl
 | a :: l, b, h => by
  cases b <;> simp only [q6I, Bool.false_eq_true, Bool.and_eq_true] at h
  rw [qEN h.1, q0Y h.2]
theorem q8G : ∀ {a b : List (List T)}, qAn a b = true → a = b
 | [], b, h => by cases b <;> simp [qAn] at h; rfl
 | a :: l, b, h => by
  cases b <;> simp only [qAn, Bool.false_eq_true, Bool.and_eq_true] at h
  rw [q0Y h.1, q8G h.2]
end
def qBy : List (FuncId × List T × T) → FuncId → List T → Option T
 | [], _, _ => none
 | (g, us, r) :: l, f, ts => if Nat.beq g f && q6I us ts then some r else qBy l f ts
theorem q8H {R : FuncId → List T → T → Prop} : ∀ {l : List (FuncId × List T × T)} {f : FuncId} {ts : List T} {r : T}, (∀ x ∈ l, R x.1 x.2.1 x.2.2) → qBy l f ts = some r → R f ts r
 | [], _, _, _, _, h => by cases h
 | (g, us, q) :: l, f, ts, r, hl, h => by
  simp only [qBy] at h
  split at h
  ·rename_i hc
   simp only [Bool.and_eq_true] at hc
   cases h
   have := hl (g, us, q) (List.mem_cons_self ..)
   rw [← Nat.eq_of_beq_eq_true hc.1, ← q0Y hc.2]
   exact this
  ·exact q8H (fun x hx => hl x (List.mem_cons_of_mem _ hx)) h
end Go.Lg
namespace Go.Lg
open Go Go.Proofs
def cA : T := (.agg [(.sl [[(.v (.int .u8 0)), (.sl [] (some 0) (some true)), (.v (.int .i64 0)), (.v (.int .i64 0))], [(.v (.int .u8 0)), (.sl [] (some 0) (some true)), (.v (.int .i64 0)), (.v (.int .i64 0))], [(.v (.int .u8 5)), (.sl [[(.v (.int .i64 0))], [(.v (.int .i64 1))]] (some 2) (some false)), (.v (.int .i64 0)), (.v (.int .i64 0))], [(.v (.int .u8 7)), (.sl [[(.v (.int .i64 0))], [(.v (.int .i64 2))]] (some 2) (some false)), (.v (.int .i64 0)), (.v (.int .i64 0))]] (some 4) (some false)), (.sl [[(.v (.string ⟨#[97]⟩))], [(.v (.string ⟨#[98]⟩))], [(.v (.string ⟨#[100]⟩))], [(.v (.string ⟨#[101]⟩))]] (some 4) (some false)), (.sl [] (some 0) (some true)), (.sl [[(.v (.int .i64 3))]] (some 1) (some false))])
def fA (n : Int) : T := .agg [.v (.int .u8 0), .v (.int .i64 n), .v (.int .i64 (-1)), .v (.int .u8 0), .v (.int .i64 0)]
def g1A : T := (.tup [(.agg [(.sl [[(.v (.int .u8 1))], [(.v (.int .u8 0))]] none none), (.sl [] none none)]), (.v (.bool true)), (.v (.int .i64 0))])
def g2A : T := (.tup [(.agg [(.sl [] (some 0) (some true)), (.sl [] (some 0) (some true))]), (.v (.bool true)), (.v (.int .i64 9))])
def cfO (p : List (FuncId × List T × T)) : Or := ⟨fun f ts => match qBy p f ts with | some r => some r | none => cnF f ts, cnF, fun _ _ _ => none⟩
theorem qEO {Γ : Tables} (ht : A5 Tryd.prog Γ 14 txA txR) {p : List (FuncId × List T × T)} (hp : ∀ x ∈ p, Aw Tryd.prog Γ x.1 x.2.1 x.2.2) : q1w Tryd.prog Γ (cfO p) := by
 refine ⟨fun f ts r h => ?_, fun f ts r h => qAb ht h, fun f hp xs r hp' h => by cases h⟩
 simp only [cfO] at h
 split at h
 ·rename_i q hq; cases h; exact q8H (R := fun f ts r => Aw Tryd.prog Γ f ts r) hp hq
 ·exact (qAb ht h).pure
noncomputable def rCf (p : List (FuncId × List T × T)) (f : FuncId) (ts : List T) : Option T := pF qEF (orF qEF GC (cfO p) 30) GC f ts
theorem q7R (ht : A5 Tryd.prog GC 14 txA txR) {p : List (FuncId × List T × T)} (hp : ∀ x ∈ p, Aw Tryd.prog GC x.1 x.2.1 x.2.2) {f : FuncId} {ts : List T} {r : T} (h : rCf p f ts = some r) : Aw Tryd.prog GC f ts r :=
 qCT q8D (qA4 q8D (qEO ht hp) 30) (qCV h)
def pA0 : List (FuncId × List T × T) := [(29, [cA], .v (.int .i64 0))]
def pA1 : List (FuncId × List T × T) := [(20, [cA, fA 0, .v (.int .i64 99)], g1A), (20, [cA, fA 2, .v (.int .i64 99)], g2A)]
def qBz : E5 := ⟨⟨[⟨0, ⟨[], some 0, some true⟩, 0, 0⟩, ⟨0, ⟨[], some 0, some true⟩, 0, 0⟩, ⟨5, ⟨[0, 1], some 2, some false⟩, 0, 0⟩, ⟨7, ⟨[0, 2], some 2, some false⟩, 0, 0⟩], some 4, some false⟩, ⟨[[97], [98], [100], [101]], some 4, some false⟩, ⟨[], some 0, some true⟩, ⟨[3], some 1, some false⟩⟩
theorem qEP : cA = .agg (tC qBz) := rfl
theorem qC0 : COk qBz where
 nodes := by decide
 names := by decide
 mems := by decide
 outs := by decide
 kind := by decide
 inn := by decide
 addr := by intro m hm; cases hm
 asc := by decide
theorem qAo : Q7 qBz = 0 := by decide +kernel
theorem qEQ : A5 Tryd.prog GC 29 [cA] (.v (.int .i64 0)) := by
 have := q7B (Γ := GC) qGe qBz qC0
 rw [qAo, ← qEP] at this
 exact this
theorem qGg : rCf pA0 20 [cA, fA 0, .v (.int .i64 99)] = some g1A := by kernel_rfl
theorem qGh : rCf pA0 20 [cA, fA 2, .v (.int .i64 99)] = some g2A := by kernel_rfl
theorem qAp : rCf pA1 5 [] = some (.v (.bool true)) := by kernel_rfl
end Go.Lg
set_option maxHeartbeats 1000000
namespace Go.Proofs
open Go.Shelf Go.RowKit
theorem qC1 (m : Nat) (hm : 1 ≤ m) : liesAt Tryd.prog Tryd.prog.depth 81 m 0 81 1 = true := by
 have hc : Tryd.prog.cellsOf 81 = 2 := by kernel_rfl
 have hd : Tryd.prog.depth = (2 * (Tryd.prog.types.size + Made.depth) + 1) + 1 := rfl
 rw [hd]
 simp only [liesAt, Bool.or_eq_true]
 left
 rw [hd]
 simp [rowAt, hc, hm, sameLayout]
theorem qC2 (b : Nat) (w : World) (h0 : w.cell? ⟨b, 0, none⟩ = some (.pointer (some ⟨b, 0, none⟩))) :
  Calls Tryd.prog 51 #[.pointer (some ⟨b, 0, none⟩)] w fun e w' => e = .returned (.tuple #[]) ∧ w' = w := by
 have hs : (Tryd.prog.info? 81).map (·.size) = some 2 := by kernel_rfl
 obtain ⟨j, hj, _⟩ := Option.map_eq_some_iff.1 hs
 have mixed : Tryd.prog.follows .mixedOrders = true := by kernel_rfl
 have t72 := Tryd.underlying81; have a72 := Tryd.isAgg81; have z72 := Tryd.sizeOf81; have v72 := Tryd.zeroValue81; have u72 := run_underlying t72
 have t70 := Tryd.underlying79; have a70 := Tryd.isAgg79; have z70 := Tryd.sizeOf79; have v70 := Tryd.zeroValue79; have u70 := run_underlying t70
 have t4 := Tryd.underlying4; have a4 := Tryd.isAgg4; have z4 := Tryd.sizeOf4; have v4 := Tryd.zeroValue4; have u4 := run_underlying t4
 have t164 := Tryd.underlying123; have a164 := Tryd.isAgg123; have z164 := Tryd.sizeOf123; have v164 := Tryd.zeroValue123; have u164 := run_underlying t164
 have hf : Tryd.f51.ntmps = 20 := rfl
 go_enter Tryd.func51, hf
 go_wp2
 rw [Lib.run_neq_ptr_same w _ t70 hj]
 go_wp2
 go_end0
 exact ⟨rfl, rfl⟩
theorem qAq (b : Nat) (w : World) (h0 : w.cell? ⟨b, 0, none⟩ = some (.pointer none)) (n : Nat) (hn : 2 ≤ n) (hsh : w.shape? b = some (81, n)) (hfz : w.frozen? ⟨b, 0, none⟩ = false) :
  Calls Tryd.prog 51 #[.pointer (some ⟨b, 0, none⟩)] w fun e w' => e = .returned (.tuple #[]) ∧ w' = w.setCell ⟨b, 0, none⟩ (.pointer (some ⟨b, 0, none⟩)) := by
 have hs : (Tryd.prog.info? 81).map (·.size) = some 2 := by kernel_rfl
 obtain ⟨j, hj, hjs⟩ := Option.map_eq_some_iff.1 hs
 have hc2 : Tryd.prog.cellsOf 81 = 2 := by kernel_rfl
 have hl : liesAt Tryd.prog Tryd.prog.depth 81 (n / Tryd.prog.cellsOf 81) 0 81 1 = true := by rw [hc2]; exact qC1 _ (by omega)
 have mixed : Tryd.prog.follows .mixedOrders = true := by kernel_rfl
 have t72 := Tryd.underlying81; have a72 := Tryd.isAgg81; have z72 := Tryd.sizeOf81; have v72 := Tryd.zeroValue81; have u72 := run_underlying t72
 have t70 := Tryd.underlying79; have a70 := Tryd.isAgg79; have z70 := Tryd.sizeOf79; have v70 := Tryd.zeroValue79; have u70 := run_underlying t70
 have t4 := Tryd.underlying4; have a4 := Tryd.isAgg4; have z4 := Tryd.sizeOf4; have v4 := Tryd.zeroValue4; have u4 := run_underlying t4
 have t164 := Tryd.underlying123; have a164 := Tryd.isAgg123; have z164 := Tryd.sizeOf123; have v164 := Tryd.zeroValue123; have u164 := run_underlying t164
 have hf : Tryd.f51.ntmps = 20 := rfl
 go_enter Tryd.func51, hf
 go_wp2
 rw [Lib.run_to_unsafe w ⟨b, 0, none⟩ t70 t164 hj (by rw [hjs]; decide) hsh (by show 0 < n; omega)]
 simp only [Result.andThen]
 rw [Oper.upon_value]
 go_wp2
 rw [run_callFunc_extern Tryd.func62 (by kernel_rfl) (by kernel_rfl) (by kernel_rfl) (e := Extern.AbiNoEscape.same) (by kernel_rfl)]
 rw [Lib.run_noEscape]
 simp only [Result.andThen]
 rw [Oper.upon_value]
 go_wp2
 rw [Lib.run_from_unsafe w ⟨b, 0, none⟩ t164 t70 hj hsh hl]
 simp only [Result.andThen]
 rw [Oper.upon_value]
 go_wp2
 go_end0
 exact ⟨rfl, rfl⟩
theorem q93 (b g cap : Nat) (cur : Array Value) (l : List UInt8) (w : World) (h0 : l ≠ []) (hc1 : w.cell? ⟨b, 1, none⟩ = some (.slice (some ⟨g, 0, none⟩) l.length cap))
  (hg : w.heap[g]? = some (.cells cur 5 (0, 0))) (hnc : l.length ≤ cap) (hcm : cap ≤ maxLen) (hcs : l.length ≤ cur.size) (hc : ∀ (j : Nat) (x : UInt8), l[j]? = some x → cur[j]? = some (Value.int .u8 x.toNat)) :
  Calls Tryd.prog 26 #[.pointer (some ⟨b, 0, none⟩)] w fun e w' => e = .returned (.string ⟨l.toArray⟩) ∧ w' = w.drew.freeze ⟨g, 0, none⟩ l.length := by
 have hl0 : l.length ≠ 0 := by simpa using h0
 have c1 : w.drew.cell? ⟨b, 1, none⟩ = some (.slice (some ⟨g, 0, none⟩) l.length cap) := hc1
 have hSD : (Builtin.unsafeSliceData_ #[22] 111 #[.slice (some ⟨g, 0, none⟩) l.length cap]).run Tryd.prog w.drew = .ok (.pointer (some ⟨g, 0, none⟩)) w.drew :=
  Lib.run_unsafeSliceData_row _ _ _ _ _ _ (by omega)
 have hUS : (Builtin.unsafeString_ #[111, 3] 9 #[.pointer (some ⟨g, 0, none⟩), .int .i64 l.length]).run Tryd.prog w.drew = .ok (.string ⟨l.toArray⟩) (w.drew.freeze ⟨g, 0, none⟩ l.length) := by
  refine Lib.run_unsafeString_row w.drew 111 3 9 5 Tryd.underlying111 (by kernel_rfl) g cur.size (by have hg' : w.drew.heap[g]? = some (.cells cur 5 (0, 0)) := hg; simp [World.shape?, hg']) l h0 (by omega) (by unfold maxLen at hcm; omega) ?_
  intro j x hx
  have hg' : w.drew.heap[g]? = some (.cells cur 5 (0, 0)) := hg
  have h1 : w.drew.cell? ⟨g, j, none⟩ = some (Value.int .u8 x.toNat) := by rw [Lib.cell_of_heap hg']; exact hc j x hx
  by_cases e : j = 0
  ·subst e; simpa [Addr.add] using h1
  ·simpa [Addr.add, e] using h1
 have mixed : Tryd.prog.follows .mixedOrders = true := by kernel_rfl
 have t72 := Tryd.underlying81; have a72 := Tryd.isAgg81; have z72 := Tryd.sizeOf81; have v72 := Tryd.zeroValue81; have u72 := run_underlying t72
 have t70 := Tryd.underlying79; have a70 := Tryd.isAgg79; have z70 := Tryd.sizeOf79; have v70 := Tryd.zeroValue79; have u70 := run_underlying t70
 have t37 := Tryd.underlying22; have a37 := Tryd.isAgg22; have z37 := Tryd.sizeOf22; have v37 := Tryd.zeroValue22; have u37 := run_underlying t37
 have t127 := Tryd.underlying111; have a127 := Tryd.isAgg111; have z127 := Tryd.sizeOf111; have v127 := Tryd.zeroValue111; have u127 := run_underlying t127
 have t3 := Tryd.underlying3; have a3 := Tryd.isAgg3; have z3 := Tryd.sizeOf3; have v3 := Tryd.zeroValue3; have u3 := run_underlying t3
 have t9 := Tryd.underlying9; have a9 := Tryd.isAgg9; have z9 := Tryd.sizeOf9; have v9 := Tryd.zeroValue9; have u9 := run_underlying t9
 have t5 := Tryd.underlying5; have a5 := Tryd.isAgg5; have z5 := Tryd.sizeOf5; have v5 := Tryd.zeroValue5; have u5 := run_underlying t5
 have hf : Tryd.f26.ntmps = 14 := rfl
 go_enter Tryd.func26, hf
 go_wp2
 go_region_o
 all_goals (go_wp2; go_ret; exact ⟨rfl, rfl⟩)
end Go.Proofs
namespace Go.Lg
open Go Go.Proofs
variable {Γ : Tables}
theorem q4i (vs : Array Value) (w : World) : (callFunc 51 vs).run Tryd.prog w = .ok (.enter 51 vs) w := enters_of Tryd.func51 (by kernel_rfl) rfl vs w
theorem q94 (vs : Array Value) (w : World) : (callFunc 26 vs).run Tryd.prog w = .ok (.enter 26 vs) w := enters_of Tryd.func26 (by kernel_rfl) rfl vs w
theorem q0Z {w0 w : World} {B : Nat} {κ μ : B9} {X : Nat → Prop} {st : St} {tm : Array Value} (h : Av w0 B κ X μ st tm w) {id ty : Nat} {a b : AV} (hl : A2 st.hp id = some (.rs ty 2 [[a, b]])) {v : Value} (hv : AR w X μ st.sh (.lp id 0 0) v) :
  ∃ g arr x y, v = .pointer (some ⟨g, 0, none⟩) ∧ μ id = some (g, arr.size) ∧ w.heap[g]? = some (.cells arr ty (0, 0)) ∧ 2 ≤ arr.size ∧ arr[0]? = some x ∧ arr[1]? = some y ∧ AR w X μ st.sh a x ∧ AR w X μ st.sh b y ∧ a.one = true ∧ b.one = true := by
 obtain ⟨g, m, hm, hp⟩ := hv.lp_inv
 rcases hp with ⟨s, n, hs, he⟩ | ⟨hs, _, _⟩
 ·obtain ⟨k0, h1 | ⟨g', arr, k1, k2, k3, k4⟩⟩ := h.reg id _ hl
  ·exact absurd h1.1 (by simp)
  ·rw [hm] at k1
   cases k1
   have h2 : 2 ≤ arr.size := by simpa using k3
   have e0 : arr[0]? = some arr[0] := Array.getElem?_eq_getElem (by omega)
   have e1 : arr[1]? = some arr[1] := Array.getElem?_eq_getElem (by omega)
   refine ⟨g, arr, arr[0], arr[1], by rw [he]; simp, hm, k2, h2, e0, e1, k4 0 0 [a, b] a _ rfl rfl (by first | (simp; done) | simpa using e0), k4 0 1 [a, b] b _ rfl rfl (by first | (simp; done) | simpa using e1), (k0 0 [a, b] rfl).2 0 a rfl, (k0 0 [a, b] rfl).2 1 b rfl⟩
 ·rw [Bm hl] at hs; cases hs
theorem qC3 {hp : List (Nat × Ak)} {ty : Nat} {b : AV} (hl : A2 hp 1000000 = some (.rs ty 2 [[.lp 1000000 0 0, b]])) : C3 Tryd.prog Γ 51 hp [.lp 1000000 0 0] (.t (.tup [])) hp := by
 intro w X κ vs hg hk hs ha
 refine .inl ⟨q4i _ _, ?_⟩
 obtain ⟨v, rfl⟩ : ∃ v, vs = [v] := by
  have := ha.1
  match vs, this with
  | [v], _ => exact ⟨v, rfl⟩
 obtain ⟨g, arr, x, y, rfl, hm, hh, h2, hx, hy, ax, ay, _, _⟩ := q0Z hs hl (ha.2 0 _ v rfl rfl)
 obtain ⟨g', arr', x', y', rfl, hm', _⟩ := q0Z hs hl ax
 have hgg := (Prod.mk.inj (Option.some.inj (hm.symm.trans hm'))).1
 subst hgg
 have hc : w.cell? ⟨g, 0, none⟩ = some (.pointer (some ⟨g, 0, none⟩)) := by simp only [World.cell?, hh]; exact hx
 refine (qC2 g w hc).mono fun e w' ⟨he, hw⟩ => ?_
 subst hw
 exact ⟨_, he, X, κ, hs, .t _ _ (.tup _ _ rfl fun k t x h => by cases h), fun b h => h, fun b h => .inl h⟩
theorem qAr {hp : List (Nat × Ak)} {b : AV} (hl : A2 hp 1000000 = some (.rs 81 2 [[.t (.v (.pointer none)), b]])) : C3 Tryd.prog Γ 51 hp [.lp 1000000 0 0] (.t (.tup [])) (Ba 1000000 (.rs 81 2 [[.lp 1000000 0 0, b]]) hp) := by
 intro w X κ vs hg hk hs ha
 refine .inl ⟨q4i _ _, ?_⟩
 obtain ⟨v, rfl⟩ : ∃ v, vs = [v] := by
  have := ha.1
  match vs, this with
  | [v], _ => exact ⟨v, rfl⟩
 obtain ⟨g, arr, x, y, rfl, hm, hh, h2, hx, hy, ax, ay, _, ob⟩ := q0Z hs hl (ha.2 0 _ v rfl rfl)
 have hx0 : x = .pointer none := by
  cases ax with
  | t _ _ h => exact h.v_inv
 subst hx0
 have hc : w.cell? ⟨g, 0, none⟩ = some (.pointer none) := by simp only [World.cell?, hh]; exact hx
 have hsh : w.shape? g = some (81, arr.size) := by simp only [World.shape?, hh]
 have hfz : w.frozen? ⟨g, 0, none⟩ = false := by simp [World.frozen?, hh]
 refine (qAq g w hc arr.size h2 hsh hfz).mono fun e w' ⟨he, hw⟩ => ?_
 have hown : w'.heap[g]? = some (.cells (arr.setIfInBounds 0 (.pointer (some ⟨g, 0, none⟩))) 81 (0, 0)) := by
  rw [hw]
  simp only [World.setCell]
  rw [Array.getElem?_modify, if_pos rfl, hh]
  rfl
 have hsz : w'.heap.size = w.heap.size := by rw [hw]; simp [World.setCell]
 have hoth : ∀ k, k ≠ g → w'.heap[k]? = w.heap[k]? := fun k hk => by rw [hw]; exact RowKit.Below.heap_setCell _ _ _ _ hk
 have hset := hs.setReg (r' := .rs 81 2 [[.lp 1000000 0 0, b]]) hl rfl hm w' (by rw [hw]; rfl) (by rw [hw]; rfl) (by rw [hw]; rfl) hsz hoth fun hsame => ?_
 ·exact ⟨_, he, X, κ, hset.1, .t _ _ (.tup _ _ rfl fun k t x h => by cases h), fun b h => h, fun b h => .inl h⟩
 ·refine ⟨fun i e hi => ?_, .inr ⟨g, _, by rw [Array.size_setIfInBounds]; exact hm, hown, by rw [Array.size_setIfInBounds]; simpa using h2, fun i k e a x hi ha hx => ?_⟩⟩
  ·have := List.mem_of_getElem? hi
   simp only [List.mem_singleton] at this
   subst this
   refine ⟨rfl, fun k t ht => ?_⟩
   match k, ht with
   | 0, ht => cases ht; rfl
   | 1, ht => cases ht; exact ob
  ·have hi0 : i = 0 := by have := (List.getElem?_eq_some_iff.1 hi).1; simp at this; omega
   subst hi0
   simp only [List.getElem?_cons_zero, Option.some.injEq] at hi
   subst hi
   match k, ha with
   | 0, ha =>
    cases ha
    have : x = .pointer (some ⟨g, 0 * 2 + 0, none⟩) := by
     have h3 : 0 < arr.size := by omega
     simp [h3] at hx
     rw [← hx]
    rw [this]
    exact .lpsl 1000000 0 0 2 1 g arr.size (by rw [Bm hl]; rfl) hm
   | 1, ha =>
    cases ha
    have : x = y := by
     simp [Array.getElem?_setIfInBounds] at hx
     have h3 : 1 < arr.size := by omega
     rw [hy] at hx
     cases hx; rfl
    rw [this]
    exact ay.mono hsame (fun _ h => h) (fun _ _ hq => ⟨hq, rfl⟩)
theorem qGi {hp : List (Nat × Ak)} {ty : Nat} {a : AV} {cap : Option Nat} {l : List UInt8} (h0 : l ≠ []) (hl : A2 hp 1000000 = some (.rs ty 2 [[a, .ls 1000001 0 l.length cap]])) (hl2 : A2 hp 1000001 = some (.sl 5 1 (l.map fun b => [T.v (.int .u8 b.toNat)]))) :
  C3 Tryd.prog Γ 26 hp [.lp 1000000 0 0] (.t (.v (.string ⟨l.toArray⟩))) [] := by
 intro w X κ vs hg hk hs ha
 refine .inl ⟨q94 _ _, ?_⟩
 obtain ⟨v, rfl⟩ : ∃ v, vs = [v] := by
  have := ha.1
  match vs, this with
  | [v], _ => exact ⟨v, rfl⟩
 obtain ⟨g, arr, x, y, rfl, hm, hh, h2, hx, hy, ax, ay, _, ob⟩ := q0Z hs hl (ha.2 0 _ v rfl rfl)
 have hn0 : l.length ≠ 0 := by simpa using h0
 generalize hn : l.length = n at ay hn0
 cases ay with
 | lsnil => exact absurd rfl hn0
 | ls _ off len s m g2 q c cp h1 h3 hle hlc hcm hfit hfull hcc ad had =>
  have had := had (.inr rfl)
  rw [Nat.zero_mul] at had
  subst had
  have hbytes : ∃ arr2, κ 1000001 = some (g2, arr2.size) ∧ w.heap[g2]? = some (.cells arr2 5 (0, 0)) ∧ n ≤ arr2.size ∧ ∀ (j : Nat) (b : UInt8), l[j]? = some b → arr2[j]? = some (Value.int .u8 b.toNat) := by
   obtain ⟨_, h4 | ⟨g', arr2, k1, k2, k3, k4⟩⟩ := hs.reg 1000001 _ hl2
   ·rw [h4.2] at h3; cases h3
   ·have e := (Prod.mk.inj (Option.some.inj (k1.symm.trans h3))).1
    subst e
    have hsz : n ≤ arr2.size := by simpa [hn] using k3
    refine ⟨arr2, k1, k2, hsz, fun j b hj => ?_⟩
    have hj2 : j < l.length := (List.getElem?_eq_some_iff.1 hj).1
    have e2 : arr2[j]? = some arr2[j] := Array.getElem?_eq_getElem (by omega)
    have := k4 j 0 [T.v (.int .u8 b.toNat)] (T.v (.int .u8 b.toNat)) arr2[j] (by simp [hj]) rfl (by rw [Nat.mul_one, Nat.add_zero, e2])
    rw [e2, this.v_inv]
  obtain ⟨arr2, m1, m2, m3, m4⟩ := hbytes
  have hc1 : w.cell? ⟨g, 1, none⟩ = some (.slice (some ⟨g2, 0, none⟩) l.length c) := by simp only [World.cell?, hh, hn]; exact hy
  refine (q93 g g2 c arr2 l w h0 hc1 m2 (by omega) hcm (by omega) m4).mono fun e w' ⟨he, hw⟩ => ?_
  have hsz : w'.heap.size = w.heap.size := by
   rw [hw]; unfold World.freeze; split
   ·rfl
   ·show (Array.modify w.heap g2 _).size = _
    rw [Array.size_modify]
  have hos : w'.os = w.os ∧ w'.tape = w.tape ∧ w'.output = w.output := by
   rw [hw]; unfold World.freeze; split <;> exact ⟨rfl, rfl, rfl⟩
  refine ⟨_, he, X, fun _ => none, ⟨fun t a ht => by simp [A2] at ht, fun id r hr => by simp [A2] at hr, fun id _ _ _ _ hi => absurd rfl hi, fun id _ _ hi => absurd rfl hi, fun id _ hi => absurd rfl hi, hs.kbig, fun b hb => by rw [hsz]; exact hs.xlt b hb, hos.1, hos.2.1, hos.2.2, by rw [hsz]; exact Nat.le_refl _, fun k hk hkk => ?_⟩, .t _ _ (.v _), fun b h => h, fun b h => .inl h⟩
  have hne : k ≠ g2 := fun e => hkk 1000001 _ (e ▸ m1)
  rw [hw]
  unfold World.freeze
  split
  ·rfl
  ·show (Array.modify w.heap g2 _)[k]? = _
   rw [Array.getElem?_modify, if_neg (fun e => hne e.symm)]
end Go.Lg
namespace Go.Lg
open Go
section
variable {P : Program} {Γ : Tables} {Q : AX → St → Prop} {s : St}
/- (*strings.Builder).WriteString (function 24) -/
abbrev Nl : IC := (.seq (.reg [od 4 (.mv (ki 0)), od 5 (.mv (.const .nilIface))] [.keepE [0, 1]]) (.seq (.reg [om 6 0, od 7 (.hcallW 51 [(tm 6)] 0)] [.keepE [0, 1]]) (.seq (.reg [om 8 0, om 9 0, od 10 (.nck (tm 9)), od 11 (fa 1 10), od 12 (ld 1 11),
 om 13 1, od 14 (.appS 5 (tm 12) (tm 13)), od 15 (.nck (tm 8)), od 16 (fa 1 15), on (.store 1 (tm 16) (tm 14))] [.keepE [1]]) (.seq (.reg [om 17 1, od 18 (le 1 17), om 4 18, od 5 (.mv (.const .nilIface))] [.keepE [4, 5]]) .ret))))
def Di : List RV := [.tmp 4, .tmp 5]
end
end Go.Lg
namespace Go.Lg
open Go Go.Proofs
theorem Fj : Ax Tryd.prog 24 Nl 19 2 Di = true := by kernel_rfl
end Go.Lg
namespace Go.Lg
open Go Go.Proofs
variable {Γ : Tables}
theorem qAs (s : ByteArray) (h0 : 0 < s.size) (h1 : s.size ≤ 1000000) (nl : Option Bool) :
  C3 Tryd.prog Γ 24 [(1000000, .rs 81 2 [[.t (.v (.pointer none)), .t (.sl [] (some 0) nl)]])] [.lp 1000000 0 0, .t (.v (.string s))] (.t (.tup [tI s.size, .v .nilIface]))
   [(14, .sl 5 1 (O5 s)), (1000000, .rs 81 2 [[.lp 1000000 0 0, .ls 14 0 s.size none]])] := by
 refine T9 Fj rfl ?_
 have hc := qAr (Γ := Γ) (hp := [(1000000, .rs 81 2 [[.t (.v (.pointer none)), .t (.sl [] (some 0) nl)]])]) (b := .t (.sl [] (some 0) nl)) rfl
 have hb : Np [1000000] 0 1000000 = 1000000 := rfl
 have i0 : List.idxOf 1000000 [1000000] = 0 := rfl
 have q0 : ([1000000] : List Nat)[0]?.getD 0 = 1000000 := rfl
 simp
 refine ⟨[1000000], by simp, .t (.tup []), _, by simpa [Ba] using hc, by simp [Qi, Ak.sh], ?_⟩
 simp [hb, i0, q0, Di, W7]
 omega
theorem q4j (s : ByteArray) (h0 : 0 < s.size) (es : List (List T)) (n : Nat) (hn : es.length = n) (h1 : n + s.size ≤ 1000000) :
  C3 Tryd.prog Γ 24 [(1000000, .rs 81 2 [[.lp 1000000 0 0, .ls 1000001 0 n none]]), (1000001, .sl 5 1 es)] [.lp 1000000 0 0, .t (.v (.string s))] (.t (.tup [tI s.size, .v .nilIface]))
   [(14, .sl 5 1 (es ++ O5 s)), (1000000, .rs 81 2 [[.lp 1000000 0 0, .ls 14 0 (n + s.size) none]])] := by
 refine T9 Fj rfl ?_
 have hc := qC3 (Γ := Γ) (hp := [(1000000, .rs 81 2 [[.lp 1000000 0 0, .ls 1000001 0 n none]]), (1000001, .sl 5 1 es)]) (b := .ls 1000001 0 n none) rfl
 have ht : es.take n = es := List.take_of_length_le (by omega)
 have b0 : Np [1000000, 1000001] 0 1000000 = 1000000 := rfl
 have b1 : Np [1000000, 1000001] 0 1000001 = 1000001 := rfl
 have i0 : List.idxOf 1000000 [1000000, 1000001] = 0 := rfl
 have i1 : List.idxOf 1000001 [1000000, 1000001] = 1 := rfl
 have q0 : ([1000000, 1000001] : List Nat)[0]?.getD 0 = 1000000 := rfl
 have q1 : ([1000000, 1000001] : List Nat)[1]?.getD 0 = 1000001 := rfl
 simp
 refine ⟨[1000000, 1000001], by simp, .t (.tup []), _, by simpa [i0, i1] using hc, by simp [Qi, Ak.sh], ?_⟩
 simp [b0, b1, i0, i1, q0, q1, Di, W7, ht, hn]
 omega
def bE (l : List UInt8) : List (List T) := l.map fun b => [T.v (.int .u8 b.toNat)]
theorem qAt (l : List UInt8) : (bE l).length = l.length := by simp [bE]
theorem q7S (s : ByteArray) : O5 s = bE s.data.toList := rfl
theorem qAu (a b : List UInt8) : bE a ++ bE b = bE (a ++ b) := by simp [bE]
def pce (f : Int → ByteArray) (n : Int) : ByteArray := f n ++ ⟨#[32]⟩
theorem qAv (f : Int → ByteArray) (n : Int) : (pce f n).size = (f n).size + 1 := by simp [pce, ByteArray.size_append]
def M5 (f : Int → ByteArray) (l : List Int) : List UInt8 := l.flatMap fun n => (pce f n).data.toList
theorem qAw (f : Int → ByteArray) (l : List Int) (i : Nat) (h : i < l.length) : M5 f (l.take i) ++ (pce f l[i]).data.toList = M5 f (l.take (i + 1)) := by
 unfold M5
 rw [List.take_succ_eq_append_getElem h, List.flatMap_append]
 simp
end Go.Lg
namespace Go.Lg
open Go
section
variable {P : Program} {Γ : Tables} {Q : AX → St → Prop} {s : St}
/- probecard/cnfs.Text (function 14) -/
abbrev q0a : IC := .gh (.seq (.reg [od 33 (.bin .lss (tm 32) (tm 31))] [.keepE [3, 24, 25, 26, 30, 31, 32, 33]]) (.seq (.cond (tm 33) .skip (.exit 2)) (.seq (.block 3 (.seq (.reg [od 34 (ia 1 30 32), od 35 (ld 1 34), om 7 35] [.keepE [3, 7, 24, 25,
 26, 30, 31, 32]]) (.reg [om 36 7, od 37 (.call 25 [(tm 36)]), od 38 (.bin .add (tm 37) (.const (sV [32]))), od 39 (.hcallW 24 [(tm 3), (tm 38)] 300000)] [.ren 300014 900, .keepE [3, 24, 25, 26, 30, 31, 32]]))) (.reg [od 40 (.bin
 .add (tm 32) (ki 1)), om 32 40] [.keepE [3, 24, 25, 26, 30, 31, 32]])))) [.keepE [3, 24, 25, 26, 30, 31, 32]]
def P4 : IC := .loop q0a
abbrev q0b : IC := .gh (.seq (.reg [od 27 (.bin .lss (tm 26) (tm 25))] [.keepE [3, 24, 25, 26, 27]]) (.seq (.cond (tm 27) .skip (.exit 0)) (.seq (.block 1 (.seq (.reg [od 28 (ia 1 24 26), od 29 (ld 1 28), om 5 29] [.keepE [3, 5, 24, 25, 26]]) (.seq
 (.seq (.reg [om 30 5, od 31 (le 0 30), od 32 (.mv (ki 0))] [.keepE [3, 24, 25, 26, 30, 31, 32]]) (.block 2 P4)) (.reg [od 41 (.hcallW 24 [(tm 3), (.const (sV [48, 10]))] 300000)] [.ren 300014 900, .keepE [3, 24, 25,
 26]])))) (.reg [od 42 (.bin .add (tm 26) (ki 1)), om 26 42] [.keepE [3, 24, 25, 26]])))) [.keepE [3, 24, 25, 26]]
def P5 : IC := .loop q0b
abbrev q0c : IC := (.seq (.reg [od 1 (.box true (tm 0)), od 2 (.mv (.const (sV [])))] [.keepE [1]]) (.seq (.seq (.reg [od 8 (lG 2 1), od 9 (.call 13 [(tm 8)]), od 10 (.bin .neq (tm 9) (ki 0))] [.keepE [1, 10]]) (.cond (tm 10) (.seq (.reg [od 2 (.mv
 (.const (sV [])))] [.keepE [2]]) .ret) .skip)) (.seq (.reg [od 3 (.allocR 81 [(.pointer none), (.slice none 0 0)])] [.keepE [1, 3]]) (.seq (.reg [od 11 (fa 0 1), od 12 (ld 1 11), od 13 (.call 25 [(tm 12)]), od 14 (.bin .add (.const
 (sV [112, 32, 99, 110, 102, 32])) (tm 13)), od 15 (.bin .add (tm 14) (.const (sV [32]))), od 16 (fa 1 1), od 17 (ld 1 16), od 18 (le 0 17), od 19 (.call 25 [(tm 18)]), od 20 (.bin .add (tm 15) (tm 19)), od 21 (.bin .add (tm 20)
 (.const (sV [10]))), od 22 (.hcallW 24 [(tm 3), (tm 21)] 300000)] [.ren 300014 900, .keepE [1, 3]]) (.seq (.seq (.reg [od 23 (fa 1 1), od 24 (ld 1 23), od 25 (le 0 24), od 26 (.mv (ki 0))] [.keepE [3, 24, 25, 26]]) (.block 0
 P5)) (.seq (.reg [od 43 (.hcallW 26 [(tm 3)] 400000), om 2 43] [.keepE [2]]) .ret))))))
theorem U7 (h : ∀ K : St → Prop, K = run P Γ P4 Q → run P Γ q0a (B5 K Q) s) : run P Γ P4 Q s := Au h
theorem U8 (h : ∀ K : St → Prop, K = run P Γ P5 Q → run P Γ q0b (B5 K Q) s) : run P Γ P5 Q s := Au h
def q0d : List RV := [.tmp 2]
end
end Go.Lg
namespace Go.Lg
open Go Go.Proofs
theorem q3u : Ax Tryd.prog 14 q0c 44 1 q0d = true := by kernel_rfl
end Go.Lg
namespace Go.Lg
open Go Go.Proofs
variable {Γ : Tables}
def clT (c : List Int) : List UInt8 := M5 C4 c ++ [48, 10]
def txB (l : List (List Int)) : List UInt8 := l.flatMap clT
theorem qAx (l : List (Sl Int)) (i : Nat) (h : i < l.length) : txB ((l.take i).map (·.l)) ++ clT (l.getD i ⟨[], none, none⟩).l = txB ((l.take (i + 1)).map (·.l)) := by
 have : l.getD i ⟨[], none, none⟩ = l[i] := by simp [List.getD_eq_getElem?_getD, h]
 rw [this]
 unfold txB
 rw [List.take_succ_eq_append_getElem h, List.map_append, List.flatMap_append]
 simp
theorem qC4 (f : Int → ByteArray) (l : List Int) (i : Nat) : (M5 f (l.take i)).length ≤ (M5 f l).length := by
 conv => rhs; rw [← List.take_append_drop i l]
 unfold M5
 rw [List.flatMap_append, List.length_append]
 omega
theorem q8I {Q : AX → St → Prop} (hP : Yi Γ) (B : List UInt8) (A : T) (N m : Int) (c : Sl Int) (hl : c.l.length ≤ 4096) (hc : ∀ v ∈ c.l, I64 v) (hB : (B ++ M5 C4 c.l).length ≤ 1000000)
  (h0 : Q (.exit 2) ⟨[(3, .lp 3 0 0), (24, .t A), (25, .t (tI N)), (26, .t (tI m)), (30, .t (C5 c)), (31, .t (tI c.l.length)), (32, .t (tI c.l.length)), (33, .t (tB false))], [(900, .sl 5 1 (bE (B ++ M5 C4 c.l))), (3, .rs 81 2 [[.lp 3 0 0, .ls 900 0 (B ++ M5 C4 c.l).length none]])]⟩) : ∀ (k i : Nat), k + i = c.l.length →
  run Tryd.prog Γ P4 Q ⟨[(3, .lp 3 0 0), (24, .t A), (25, .t (tI N)), (26, .t (tI m)), (30, .t (C5 c)), (31, .t (tI c.l.length)), (32, .t (tI i))], [(900, .sl 5 1 (bE (B ++ M5 C4 (c.l.take i)))), (3, .rs 81 2 [[.lp 3 0 0, .ls 900 0 (B ++ M5 C4 (c.l.take i)).length none]])]⟩
 | 0, i, h => by
  refine U7 fun K hK => ?_
  have h2 : i = c.l.length := by omega
  subst h2
  rw [List.take_length]
  generalize B ++ M5 C4 c.l = L at *
  simp [C5]
  simpa [C5] using h0
 | k + 1, i, h => by
  refine U7 fun K hK => ?_
  have ih := q8I hP B A N m c hl hc hB h0 k (i + 1) (by omega)
  have h2 : i < c.l.length := by omega
  have hit := q3P hP c.l[i] (hc _ (List.getElem_mem h2))
  have hps := qAv C4 c.l[i]
  have hcs := qAw C4 c.l i h2
  have hcp := qC4 C4 c.l (i + 1)
  have hlen1 : (B ++ M5 C4 (c.l.take i)).length + (pce C4 c.l[i]).size = (B ++ M5 C4 (c.l.take (i + 1))).length := by
   rw [← hcs, List.length_append, List.length_append, List.length_append]
   have : (pce C4 c.l[i]).data.toList.length = (pce C4 c.l[i]).size := rfl
   omega
  have hlen2 : (B ++ M5 C4 (c.l.take (i + 1))).length ≤ 1000000 := by
   rw [List.length_append] at hB ⊢
   omega
  have hw := q4j (Γ := Γ) (pce C4 c.l[i]) (by omega) (bE (B ++ M5 C4 (c.l.take i))) _ (qAt _) (by omega)
  rw [q7S, qAu, List.append_assoc, hcs, hlen1] at hw
  have ge : (D9 c.l)[i]?.getD [] = [tI c.l[i]] := by simp [D9, Dc, h2]
  have ge' : ∀ h : i < (D9 c.l).length, (D9 c.l)[i] = [tI c.l[i]] := fun h => by simp [D9, Dc]
  generalize B ++ M5 C4 (c.l.take (i + 1)) = c1 at *
  generalize B ++ M5 C4 (c.l.take i) = c0 at *
  have b0 : Np [3, 900] 300000 1000000 = 3 := rfl
  have b1 : Np [3, 900] 300000 14 = 300014 := rfl
  have i0 : List.idxOf 3 [3, 900] = 0 := rfl
  have i1 : List.idxOf 900 [3, 900] = 1 := rfl
  have q0 : ([3, 900] : List Nat)[0]?.getD 0 = 3 := rfl
  have hwd : Gk 1 (D9 c.l) := Ad
  have hlen : (D9 c.l).length = c.l.length := A3
  simp only [C5] at ih ⊢
  generalize D9 c.l = E at *
  simp (disch := omega) [h2, hlen, ge, ge', hwd, A7]
  refine A4 hit rfl ?_
  have h32 : ({ data := #[32] } : ByteArray).size = 1 := rfl
  have hpc : C4 c.l[i] ++ { data := #[32] } = pce C4 c.l[i] := rfl
  simp [i0, i1, h32, hpc]
  refine ⟨by omega, [3, 900], by simp, .t (.tup [tI (pce C4 c.l[i]).size, .v .nilIface]), _, by simp [i0, i1]; exact hw, by simp [Qi, Ak.sh], ?_⟩
  simp [b0, b1, i0, i1, q0, Fg, O6, Eg]
  simp (disch := omega) [A7]
  rw [hK]
  exact_mod_cast ih
theorem qC5 (l : List (Sl Int)) (i : Nat) : (txB ((l.take i).map (·.l))).length ≤ (txB (l.map (·.l))).length := by
 conv => rhs; rw [← List.take_append_drop i l]
 unfold txB
 rw [List.map_append, List.flatMap_append, List.length_append]
 omega
theorem q8J {Q : AX → St → Prop} (hP : Yi Γ) (B : List UInt8) (l : Sl (Sl Int)) (hn : l.l.length ≤ 262144) (hl : ∀ c ∈ l.l, c.l.length ≤ 4096 ∧ ∀ v ∈ c.l, I64 v) (hB : (B ++ txB (l.l.map (·.l))).length ≤ 1000000)
  (h0 : Q (.exit 0) ⟨[(3, .lp 3 0 0), (24, .t (B6 l)), (25, .t (tI l.l.length)), (26, .t (tI l.l.length)), (27, .t (tB false))], [(900, .sl 5 1 (bE (B ++ txB (l.l.map (·.l))))), (3, .rs 81 2 [[.lp 3 0 0, .ls 900 0 (B ++ txB (l.l.map (·.l))).length none]])]⟩) : ∀ (k i : Nat), k + i = l.l.length →
  run Tryd.prog Γ P5 Q ⟨[(3, .lp 3 0 0), (24, .t (B6 l)), (25, .t (tI l.l.length)), (26, .t (tI i))], [(900, .sl 5 1 (bE (B ++ txB ((l.l.take i).map (·.l))))), (3, .rs 81 2 [[.lp 3 0 0, .ls 900 0 (B ++ txB ((l.l.take i).map (·.l))).length none]])]⟩
 | 0, i, h => by
  refine U8 fun K hK => ?_
  have h2 : i = l.l.length := by omega
  subst h2
  rw [List.take_length]
  generalize B ++ txB (l.l.map (·.l)) = L at *
  simp [B6]
  simpa [B6] using h0
 | k + 1, i, h => by
  refine U8 fun K hK => ?_
  have ih := q8J hP B l hn hl hB h0 k (i + 1) (by omega)
  have h2 : i < l.l.length := by omega
  have hts := qAx l.l i h2
  have htp := qC5 l.l (i + 1)
  obtain ⟨g1, g2⟩ := hl (l.l.getD i ⟨[], none, none⟩) (Dy h2)
  have e1 := elC (f := C5) ⟨[], none, none⟩ h2
  have e1' := Vv (f := C5) ⟨[], none, none⟩ h2
  have hwd : Gk 1 (Dc C5 l.l) := Ad
  have hlen : (Dc C5 l.l).length = l.l.length := A3
  generalize l.l.getD i ⟨[], none, none⟩ = c at *
  have hlen2 : (B ++ txB ((l.l.take (i + 1)).map (·.l))).length ≤ 1000000 := by
   rw [List.length_append] at hB ⊢
   omega
  rw [← hts] at hlen2
  have hcl : B ++ (txB ((l.l.take i).map (·.l)) ++ clT c.l) = (B ++ txB ((l.l.take i).map (·.l)) ++ M5 C4 c.l) ++ [48, 10] := by simp [clT, List.append_assoc]
  have hcl2 : B ++ txB ((l.l.take (i + 1)).map (·.l)) = (B ++ txB ((l.l.take i).map (·.l)) ++ M5 C4 c.l) ++ [48, 10] := by rw [← hts, hcl]
  rw [hcl] at hlen2
  rw [hcl2] at ih
  generalize B ++ txB ((l.l.take (i + 1)).map (·.l)) = c1 at *
  generalize hC0 : B ++ txB ((l.l.take i).map (·.l)) = C0 at *
  have hd : (C0 ++ M5 C4 c.l).length ≤ 1000000 := by rw [List.length_append] at hlen2; simp at hlen2 ⊢; omega
  have hd2 : (C0 ++ M5 C4 c.l).length + 2 ≤ 1000000 := by rw [List.length_append] at hlen2; exact hlen2
  have hll := fun Q h0 => q8I (Γ := Γ) (Q := Q) hP C0 (B6 l) l.l.length i c g1 g2 hd h0 c.l.length 0 (by omega)
  have hw := q4j (Γ := Γ) ⟨#[48, 10]⟩ (by decide) (bE (C0 ++ M5 C4 c.l)) _ (qAt _) (by simpa [ByteArray.size] using hd2)
  have hz : (⟨#[48, 10]⟩ : ByteArray).size = 2 := rfl
  have hz2 : (C0 ++ M5 C4 c.l).length + 2 = (C0 ++ M5 C4 c.l ++ [48, 10]).length := by simp only [List.length_append, List.length_cons, List.length_nil]
  rw [q7S, qAu, hz, hz2] at hw
  have hcn : M5 C4 (c.l.take 0) = [] := rfl
  rw [hcn, List.append_nil] at hll
  generalize C0 ++ M5 C4 c.l ++ [48, 10] = D1 at *
  generalize hD0 : C0 ++ M5 C4 c.l = D0 at *
  have b0 : Np [3, 900] 300000 1000000 = 3 := rfl
  have b1 : Np [3, 900] 300000 14 = 300014 := rfl
  have i0 : List.idxOf 3 [3, 900] = 0 := rfl
  have i1 : List.idxOf 900 [3, 900] = 1 := rfl
  have q0 : ([3, 900] : List Nat)[0]?.getD 0 = 3 := rfl
  have hlc : (D9 c.l).length = c.l.length := A3
  simp only [B6, C5] at ih hll ⊢
  simp (disch := omega) [h2, hlen, e1, e1', hwd, A7]
  simp only [C5, hlc] at *
  simp (disch := omega) [hlc]
  refine hll _ ?_
  simp [i0, i1]
  refine ⟨[3, 900], by simp, .t (.tup [tI 2, .v .nilIface]), _, by simp [i0, i1]; exact hw, by simp [Qi, Ak.sh], ?_⟩
  simp [b0, b1, i0, i1, q0, Fg, O6, Eg]
  simp (disch := omega) [A7]
  rw [hK]
  exact_mod_cast ih
def txH (f : Cf) : ByteArray := ⟨#[112, 32, 99, 110, 102, 32]⟩ ++ C4 f.vars ++ ⟨#[32]⟩ ++ C4 f.cls.l.length ++ ⟨#[10]⟩
def txL (f : Cf) : List UInt8 := (txH f).data.toList ++ txB f.L
theorem q95 (hP : Yi Γ) (f : Cf) (hi : I64 f.vars) (hl : ∀ c ∈ f.cls.l, ∀ v ∈ c.l, I64 v) (he : Ti f = 0) (hB : (txL f).length ≤ 1000000) : A5 Tryd.prog Γ 14 [.agg (O2 f)] (.v (.string ⟨(txL f).toArray⟩)) := by
 refine Ah q3u rfl ?_
 have hck := S9 (Γ := Γ) f hi
 rw [he] at hck
 have hcls : f.cls.l.length ≤ 262144 ∧ ∀ c ∈ f.cls.l, c.l.length ≤ 4096 := by
  have he' := he
  unfold Ti at he'
  split at he'
  ·cases he'
  ·split at he'
   ·cases he'
   ·rename_i h1 h2
    exact ⟨by omega, fun c hc => (q58 he' c.l (List.mem_map.2 ⟨c, hc, rfl⟩)).1⟩
 have hi1 := q3P hP f.vars hi
 have hi2 := q3P hP (f.cls.l.length : Int) (by unfold I64; omega)
 have hL := fun Q h0 => q8J (Γ := Γ) (Q := Q) hP (txH f).data.toList f.cls hcls.1 (fun c hc => ⟨hcls.2 c hc, hl c hc⟩) hB h0 f.cls.l.length 0 (by omega)
 have hn0 : txB ((f.cls.l.take 0).map (·.l)) = [] := rfl
 rw [hn0, List.append_nil] at hL
 have hsz : (txH f).size ≤ 1000000 := by
  unfold txL at hB; rw [List.length_append] at hB
  have : (txH f).data.toList.length = (txH f).size := rfl
  omega
 have hs0 : 0 < (txH f).size := by
  have e : (⟨#[10]⟩ : ByteArray).size = 1 := rfl
  unfold txH
  rw [ByteArray.size_append, e]; omega
 have hsum : (txH f).size = 6 + (C4 f.vars).size + 1 + (C4 f.cls.l.length).size + 1 := by
  unfold txH
  rw [ByteArray.size_append, ByteArray.size_append, ByteArray.size_append, ByteArray.size_append]
  rfl
 have hw := qAs (Γ := Γ) (txH f) hs0 hsz (some true)
 have hdl : (txH f).data.toList.length = (txH f).size := rfl
 rw [q7S, ← hdl] at hw
 have hne : txL f ≠ [] := fun h => by
  have := congrArg List.length h
  unfold txL at this; rw [List.length_append, hdl, List.length_nil] at this
  omega
 have hst := qGi (Γ := Γ) (hp := [(1000000, .rs 81 2 [[.lp 1000000 0 0, .ls 1000001 0 (txL f).length none]]), (1000001, .sl 5 1 (bE (txL f)))]) (l := txL f) hne rfl rfl
 have hLL : (txH f).data.toList ++ txB (f.cls.l.map (·.l)) = txL f := rfl
 rw [hLL] at hL
 have hlen : (Dc C5 f.cls.l).length = f.cls.l.length := A3
 have hH : ({ data := #[112, 32, 99, 110, 102, 32] } : ByteArray) ++ C4 f.vars ++ { data := #[32] } ++ C4 f.cls.l.length ++ { data := #[10] } = txH f := rfl
 generalize txL f = TL at *
 generalize txH f = TH at *
 have b0 : Np [3] 300000 1000000 = 3 := rfl
 have b1 : Np [3] 300000 14 = 300014 := rfl
 have i0 : List.idxOf 3 [3] = 0 := rfl
 have j0 : List.idxOf 3 [3, 900] = 0 := rfl
 have j1 : List.idxOf 900 [3, 900] = 1 := rfl
 have q0 : ([3] : List Nat)[0]?.getD 0 = 3 := rfl
 simp only [B6] at hL
 simp [q0c, O2, B6, hlen]
 simp only [O2, B6] at hck
 refine A4 hck rfl ?_
 simp
 refine A4 hi1 rfl ?_
 simp [hlen, sV]
 refine ⟨by omega, by omega, A4 hi2 rfl ?_⟩
 simp [i0, sV, hH]
 refine ⟨by omega, by omega, [3], by simp, .t (.tup [tI TH.data.toList.length, .v .nilIface]), _, by simp [i0]; exact hw, by simp [Qi, Ak.sh], ?_⟩
 simp [b0, b1, i0, q0, Fg, O6, Eg, hlen]
 refine hL _ ?_
 simp [j0, j1]
 refine ⟨[3, 900], by simp, _, [], by simp [j0, j1]; exact hst, by simp [Qi], ?_⟩
 simp [q0d]
end Go.Lg
namespace Go.Lg
open Go Go.Proofs
theorem q7T : A5 Tryd.prog GC 14 txA txR := by
 have h := q95 (Γ := GC) qEI ⟨2, ⟨[⟨[1, -2], some 2, some false⟩, ⟨[], some 0, some false⟩], some 2, some false⟩⟩ (by unfold I64; decide) (by unfold I64; decide) (by decide +kernel) (by decide +kernel)
 have e : (⟨(txL ⟨2, ⟨[⟨[1, -2], some 2, some false⟩, ⟨[], some 0, some false⟩], some 2, some false⟩⟩).toArray⟩ : ByteArray) = ⟨#[112, 32, 99, 110, 102, 32, 50, 32, 50, 10, 49, 32, 45, 50, 32, 48, 10, 48, 10]⟩ := by
  refine congrArg ByteArray.mk ?_
  decide +kernel
 rw [e] at h
 exact h
theorem qAy : ∀ x ∈ pA0, Aw Tryd.prog GC x.1 x.2.1 x.2.2 := by
 intro x hx
 simp only [pA0, List.mem_cons, List.not_mem_nil, or_false] at hx
 subst hx
 exact qEQ.pure
theorem qER : ∀ x ∈ pA1, Aw Tryd.prog GC x.1 x.2.1 x.2.2 := by
 intro x hx
 simp only [pA1, List.mem_cons, List.not_mem_nil, or_false] at hx
 rcases hx with rfl | rfl
 ·exact q7R q7T qAy qGg
 ·exact q7R q7T qAy qGh
theorem q5C {Γ : Tables} (hG : GOk Γ) (hP : Yi Γ) : A5 Tryd.prog Γ 5 [] (tB true) :=
 qAc fun w X vs hg hx hr => q7R q7T qER qAp w X vs (qGf hG hP hg) hx hr
end Go.Lg
namespace Go.Lg
open Go Go.Proofs
variable {Γ : Tables}
theorem qAz (hG : GOk Γ) (hP : Yi Γ) (vars : Int) (hv : 0 ≤ vars ∧ vars ≤ 255) (l : Sl Int) (hb : ∀ b ∈ l.l, Byt b) (lim : Int) (hl : 0 ≤ lim ∧ lim ≤ 255) :
  Aw Tryd.prog Γ 3 [tK vars, tV l, tK lim] (tB true) :=
 q5B (q5C hG hP) vars lim hv.1 hv.2 hl.1 hl.2 l fun b h => by have := hb b h; unfold Byt at this; omega
end Go.Lg
