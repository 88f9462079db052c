/- scans.Insert. Conditions: none. -/
import Derived.Test.YtgnomdkcimglbaaGreatDoorPkE
import Derived.Test.YtgnomdkcimglbaaGreatDoorPkD
import Derived.Test.YtgnomdkcimglbaaGreatDoorPkC
import Derived.Test.YtgnomdkcimglbaaGreatDoorProg
import Derived.KernelRfl
import Derived.Test.YtgnomdkcimglbaaGreatDoorRows
import Derived.Test.YtgnomdkcimglbaaGreatDoorCards
import Derived.Test.YtgnomdkcimglbaaGreatDoorTie
import Derived.ProofKit
import Derived.Deep.DeepHandedRow
import Derived.SevenTiedAt
set_option linter.unusedSimpArgs false
set_option linter.unusedVariables false
set_option maxRecDepth 100000
namespace Go.Lg
open Go Go.Proofs
variable {Γ : Tables}
def seN : List UInt8 := [115, 101]
def U2 (c : B9) : IS := ⟨c.nodes.l.map Z6 ++ [He], c.names.l ++ [seN], [], [], [], c.outs.l⟩
def Sv (c : B9) (chs : List (Sl Int)) : IS := q6g 0 chs (U2 c)
def scJ (c : B9) (chs : List (Sl Int)) : JS := q3G c c.nodes.l.length (Sv c chs).bef 0 (A6 c) ⟨(Sv c chs).nodes, (Sv c chs).names, []⟩
def scC (c : B9) (chs : List (Sl Int)) : B9 :=
  ⟨⟨(scJ c chs).nodes, some (scJ c chs).nodes.length, none⟩, ⟨(scJ c chs).names, some (scJ c chs).names.length, none⟩, ⟨[], some 0, some true⟩, ⟨(Sv c chs).outs, some (Sv c chs).outs.length, if chs = [] then (if c.outs.nl = some true then some true else none) else none⟩⟩
structure qD2 (c : B9) (chs : Sl (Sl Int)) : Prop where
  ok : COk c
  cp : qIC c
  names : c.names.l.Nodup
  se : seN ∉ c.names.l
  len : chs.l.length ≤ 100
  lens : ∀ s ∈ chs.l, s.l.length ≤ 1000000000
  n16 : c.nodes.l.length ≤ 1000
  n1 : c.names.l.length ≤ 1000
  s100 : (A6 c).length ≤ 100
  ch : qFG 0 chs.l (U2 c)
  st : qGd c c.nodes.l.length (Sv c chs.l).bef 0 (A6 c) ⟨(Sv c chs.l).nodes, (Sv c chs.l).names, []⟩
  both : chs.l = [] → A6 c = []
  err : U1 c chs.l = 0
def qFK (c : B9) (chs : List (Sl Int)) : T :=
  .agg (tC (scC c chs) ++ [.sl (Ad As (Sv c chs).cl) (some (Sv c chs).cl.length) none, tI c.nodes.l.length, .sl (Ak (Sv c chs).ins) (some (Sv c chs).ins.length) none, .sl (Ak (scJ c chs).muxes) (some (scJ c chs).muxes.length) none])
theorem q9L (es : List (List T)) (cap : Option Nat) (nl : Option Bool) (hw : E1 4 es) : Ag Tryz.prog Γ 88 [.sl es cap nl] (.sl es (some es.length) nl) := by
  refine Ap N6 rfl ?_
  simp [Hj, Hk, hw]
theorem q6K (es : List (List T)) (cap : Option Nat) (nl : Option Bool) (hw : E1 1 es) : Ag Tryz.prog Γ 89 [.sl es cap nl] (.sl es (some es.length) nl) := by
  refine Ap Qf rfl ?_
  simp [J5, J6, hw]
theorem qB7 : ∀ {l : List (Sl Int)} {i : Nat} {S : IS}, S.ins.length = S.cl.length → (q6g i l S).ins.length = (q6g i l S).cl.length
  | [], _, _, h => h
  | s :: l, i, S, h => qB7 (l := l) (by simp [J8, h])
set_option maxHeartbeats 4000000 in
theorem qB8 (hΓ : GOk Γ) (c : B9) (chs : Sl (Sl Int)) (h : qD2 c chs) : Ag Tryz.prog Γ 29 [.agg (tC c), Bc chs] (.tup [qFK c chs.l, tI 0]) := by
  refine Ap q5d rfl ?_
  have e1 := qB4 hΓ c h.ok chs (by have := h.len; omega) h.lens
  rw [h.err] at e1
  have e2 := Dl (Γ := Γ) c h.ok
  have e3 := qDv (Γ := Γ) c h.cp
  have hn := h.n16
  have hn1 := h.n1
  have hm := h.len
  have hs := h.s100
  simp [q11]
  simp [tC, Ab, Af, Am, As, Bc] at e1 e2 e3
  simp [tC, Ab, Af, Am, As, Bc]
  refine A3 e1 rfl ?_
  simp
  refine A8 e2 rfl ?_
  have hlim : ¬ (16384 : Int) < (c.nodes.l.length : Int) + 1 + (chs.l.length : Int) + ((A6 c).length : Int) := by omega
  simp (disch := omega) [Ae, A0, A5, hlim]
  refine A8 e3 rfl ?_
  have g1 := fun Q N M O h0 => qFD (Γ := Γ) (Q := Q) (.sl (Ad As chs.l) chs.cap chs.nl) (.sl (Ak (A6 c)) (some (A6 c).length) none) c c.names (by omega) h.names N M O h0 c.names.l.length 0 (by omega)
  simp [tC, Ab, Af, Am, As, Z8, q0D, show Q3 [] = [] from rfl] at g1
  simp [qFB, A0, cpS, show Az tMm [] = [] from rfl, C9]
  refine g1 _ _ _ _ ?_
  simp [List.idxOf_cons, sV]
  have c4 := qID (Γ := Γ) c.names.l (c.nodes.l.map Z6) c.names.l c.outs.l (some c.outs.l.length) (if c.outs.nl = some true then some true else none) He seN (by simp; omega) (by omega) h.se (by simp [seN])
  simp [Bw, He, As, C9, tS, sV, seN] at c4
  refine ⟨_, _, c4, ?_⟩
  simp [List.idxOf_cons, Zi]
  have g5 := fun Q h0 h0t => qGa (Γ := Γ) (Q := Q) c (.sl (Ak (A6 c)) (some (A6 c).length) none) chs h.len c.nodes.l.length (Sv c chs.l) (if c.outs.nl = some true then some true else none) (U2 c) h0 h0t rfl h.ch rfl
  have hst := h.st
  have hJ : scJ c chs.l = q3G c c.nodes.l.length (Sv c chs.l).bef 0 (A6 c) ⟨(Sv c chs.l).nodes, (Sv c chs.l).names, []⟩ := rfl
  have hC : scC c chs.l = ⟨⟨(scJ c chs.l).nodes, some (scJ c chs.l).nodes.length, none⟩, ⟨(scJ c chs.l).names, some (scJ c chs.l).names.length, none⟩, ⟨[], some 0, some true⟩, ⟨(Sv c chs.l).outs, some (Sv c chs.l).outs.length, if chs.l = [] then (if c.outs.nl = some true then some true else none) else none⟩⟩ := rfl
  unfold qFK
  rw [hC]
  have hS0 : U2 c = Sv c [] := rfl
  have hSe : chs.l = [] → Sv c chs.l = U2 c := fun e => by rw [e]; rfl
  have hil : (Sv c chs.l).ins.length = (Sv c chs.l).cl.length := qB7 rfl
  generalize Sv c chs.l = S at *
  generalize scJ c chs.l = J at *
  have g7 := fun Q h0 => qFJ (Γ := Γ) (Q := Q) c (by omega) (A6 c) hs (some (A6 c).length) none c.nodes.l.length S J h0 (A6 c).length 0 ⟨S.nodes, S.names, []⟩ (by omega) hst hJ.symm
  simp [i6E, i6T, i6R, i3H, i3G, r11, r46, U2, Z8, q0D, tC, Ab, Af, Am, As, C9, He, seN, show qA0 [] = [] from rfl] at g5
  simp [i8E, i8R, i3G, r11, r46, Z8, q0D, tC, Ab, Af, Am, As, C9] at g7
  simp [A0]
  refine g5 _ (fun hne => ?_) (fun he => ?_)
  · simp [A0]
    refine g7 _ ?_
    have k1 : (Ad As S.cl).take S.cl.length = Ad As S.cl := B6
    have k2 : (Ak S.ins).take S.cl.length = Ak S.ins := by rw [← hil]; exact B6
    have k3 : (Ak S.outs).take S.outs.length = Ak S.outs := B6
    have k4 : (Ak J.muxes).take J.muxes.length = Ak J.muxes := B6
    have k5 : (Az Bw J.nodes).take J.nodes.length = Az Bw J.nodes := Si
    have k6 : (Ad tS J.names).take J.names.length = Ad tS J.names := B6
    simp [St.freeze, Bf.closed, D6, frz1, frz0, F4, del, Aj, k1, k2, k3, k4, k5, k6]
    refine A8 (q9L (Az Bw J.nodes) none none Ba) rfl ?_
    simp
    refine A8 (q6K (Ad tS J.names) none none A9) rfl ?_
    simp
    refine A8 (K1 (Ak S.outs) none none A9) rfl ?_
    simp
    refine A8 (q8u (Ad As S.cl) none none A9) rfl ?_
    simp
    refine A8 (K1 (Ak S.ins) none none A9) rfl ?_
    simp
    refine A8 (K1 (Ak J.muxes) none none A9) rfl ?_
    simp [Uc, tC, Ab, Af, Am, As, Ae, A0, hne, show Az tMm [] = [] from rfl]
  · have hse : A6 c = [] := h.both he
    have hS := hSe he
    have hJe : J = ⟨S.nodes, S.names, []⟩ := by rw [hJ, hse]; rfl
    have hl0 : chs.l.length = 0 := by rw [he]; rfl
    subst hJe
    subst hS
    have k5 : (Az Bw (U2 c).nodes).take (c.nodes.l.length + 1) = Az Bw (U2 c).nodes := List.take_of_length_le (by simp [U2, Az])
    have k6 : (Ad tS (U2 c).names).take (c.names.l.length + 1) = Ad tS (U2 c).names := List.take_of_length_le (by simp [U2, Ad])
    simp [U2, He, seN] at k5 k6
    simp [A0, hse]
    refine M1 fun K hK => ?_
    simp [A0, hse, St.freeze, Bf.closed, D6, frz1, frz0, F4, del, Aj, k5, k6]
    refine A8 (q9L _ none none Ba) rfl ?_
    simp
    refine A8 (q6K _ none none A9) rfl ?_
    simp
    refine A8 (K1 (Ak c.outs.l) (some c.outs.l.length) (if c.outs.nl = some true then some true else none) A9) rfl ?_
    simp
    refine A8 (q8u [] none none q6r) rfl ?_
    simp
    refine A8 (K1 [] none none q6r) rfl ?_
    simp
    refine A8 (K1 [] none none q6r) rfl ?_
    simp [Uc, tC, Ab, Af, Am, As, Ae, A0, he, C9, show Az tMm [] = [] from rfl]
    simp [U2, He, seN, C9]
def Gf (l : List (Sl Int)) : List Int := (l.map fun s => s.l).flatten
theorem q9M : Gf [] = [] := rfl
theorem Gs {s : Sl Int} {l : List (Sl Int)} : Gf (s :: l) = s.l ++ Gf l := rfl
theorem q80 {c : B9} : ∀ {l done : List Int}, (∀ n ∈ l, 0 ≤ n ∧ n < c.nodes.l.length ∧ B7 c n.toNat = 14) → l.Nodup → (∀ n ∈ l, n ∉ done) → Yo c done l = some (done ++ l)
  | [], done, _, _, _ => by simp [Yo]
  | n :: l, done, h, hn, hd => by
    have h0 := h n List.mem_cons_self
    have hb : ¬ Kz c done n = true := by
      simp [Kz, h0.2.2, hd n List.mem_cons_self]; omega
    simp only [Yo, if_neg hb]
    rw [q80 (fun m hm => h m (List.mem_cons_of_mem _ hm)) (List.nodup_cons.1 hn).2 (fun m hm he => by
      rcases List.mem_append.1 he with he | he
      · exact hd m (List.mem_cons_of_mem _ hm) he
      · simp at he; subst he; exact (List.nodup_cons.1 hn).1 hm)]
    simp
theorem q6L {c : B9} : ∀ {l : List (Sl Int)} {done : List Int}, (∀ s ∈ l, s.l ≠ []) → (∀ n ∈ Gf l, 0 ≤ n ∧ n < c.nodes.l.length ∧ B7 c n.toNat = 14) → (Gf l).Nodup → (∀ n ∈ Gf l, n ∉ done) → Qi c done l = some (done ++ Gf l)
  | [], done, _, _, _, _ => by simp [Qi, q9M]
  | s :: l, done, hne, h, hn, hd => by
    simp only [Gs] at h hn hd ⊢
    have hn' := List.nodup_append.1 hn
    simp only [Qi, if_neg (hne s List.mem_cons_self)]
    rw [q80 (fun n hm => h n (List.mem_append_left _ hm)) hn'.1 (fun n hm => hd n (List.mem_append_left _ hm)), Option.bind_some]
    rw [q6L (fun t ht => hne t (List.mem_cons_of_mem _ ht)) (fun n hm => h n (List.mem_append_right _ hm)) hn'.2.1 (fun n hm he => by
      rcases List.mem_append.1 he with he | he
      · exact hd n (List.mem_append_right _ hm) he
      · exact hn'.2.2 n he n hm rfl)]
    simp
theorem qB9 {c : B9} : ∀ n ∈ A6 c, 0 ≤ n ∧ n < c.nodes.l.length ∧ B7 c n.toNat = 14 := by
  intro n hn
  obtain ⟨h1, h2, h3⟩ := q25 [14] c.nodes.l 0 n hn
  refine ⟨by omega, by omega, ?_⟩
  simpa [B7] using h3
end Go.Lg
namespace Go.Lg
open Go Go.Proofs
theorem qCN {c : B9} {chs : List (Sl Int)} (hp : E5 c = 0) (h64 : chs.length ≤ 64) (hne : ∀ s ∈ chs, s.l ≠ []) (hperm : (Gf chs).Perm (A6 c)) : U1 c chs = 0 := by
  have hg := q6L (c := c) (l := chs) (done := []) hne (fun n hn => qB9 n (hperm.mem_iff.1 hn)) (hperm.nodup_iff.2 (q9z c)) (by simp)
  unfold U1
  rw [if_neg (by simp [hp]), if_neg (by omega), hg]
  simp [hperm.length_eq]
end Go.Lg
namespace Go.Lg
open Go
section
variable {P : Program} {Γ : Tables} {Q : AX → St → Prop} {s : St}
/- (probecard/probecardlaw34.Case).Of (function 22) -/
abbrev q0E : IC := (.seq (.reg [od 1 (.box false (tm 0)), od 2 (.alloc false [(.slice none 0 0), (.slice none 0 0), (.slice none 0 0), (.slice none 0 0)]), od 3 (.mv kN)] [kp [1, 2] [1, 2]]) (.seq (.reg [od 5 (fa 0 1), od 6 (fa 5 5), on (.store 1 (tm
 6) kF)] [kp [1, 2] [1, 2]]) (.seq (.reg [od 7 (fa 0 1), od 8 (lG 12 7), od 9 (.call 13 [(tm 8)]), od 4 (.alloc false [(.slice none 0 0), (.slice none 0 0), (.slice none 0 0), (.slice none 0 0)]), on (.store 4 (tm 4) (tm 9))] [kp
 [1, 2, 4] [1, 2, 4]]) (.seq (.reg [od 10 (.ldR 4 4 true (tm 4)), od 11 (.ldR 4 4 true (tm 4)), od 12 (fa 12 1), od 13 (.ldR 1 1 false (tm 12)), od 14 (fa 13 1), od 15 (.ldR 1 1 false (tm 14)), od 16 (.call 72 [(tm 11), (tm 13), (tm
 15)]), on (.stR 2 4 (tm 2) (tm 10)), om 3 16] [kp [2, 3] [2]]) .ret))))
def q0F : List RV := [.cell 2 4 true, .tmp 3]
/- probecard/probecardlaw34.Chains (function 72) -/
abbrev q1I : IC := .gh (.seq (.seq (.reg [om 16 8, om 17 7, od 18 (le 0 17), od 19 (.bin .lss (tm 16) (tm 18)), om 20 19, oT 21 (.mv (tm 8)) 20, oT 22 (.mv (tm 1)) 20, oT 23 (le 0 22) 20, oT 24 (.bin .lss (tm 21) (tm 23)) 20, od 25 (.pick (tm 20) (tm
 24) kF)] [kp [1, 2, 7, 8, 25] [15]]) (.cond (tm 25) .skip (.exit 0))) (.seq (.block 1 (.seq (.reg [om 28 8, om 29 1, om 30 8, od 31 (ia 1 29 30), od 32 (ld 1 31), od 33 (.conv .i64 (tm 32)), om 34 7, od 35 (le 0 34), om 36 8, od 37
 (.bin .sub (tm 35) (tm 36)), od 38 (.bin .rem (tm 33) (tm 37)), od 39 (.bin .add (tm 28) (tm 38)), om 9 39] [kp [1, 2, 7, 8, 9] [15]]) (.reg [om 40 7, om 41 8, om 42 7, om 43 9, om 44 7, om 45 9, od 46 (ia 1 44 45), od 47 (.ldR 15
 1 false (tm 46)), om 48 7, om 49 8, od 50 (ia 1 48 49), od 51 (.ldR 15 1 false (tm 50)), od 52 (ia 1 40 41), on (.stR 15 1 (tm 52) (tm 47)), od 53 (ia 1 42 43), on (.stR 15 1 (tm 53) (tm 51))] [kp [1, 2, 7, 8] [15]]))) (.reg [om 26
 8, od 27 (.bin .add (tm 26) (ki 1)), om 8 27] [kp [1, 2, 7, 8] [15]]))) [kp [1, 2, 7, 8] [15]]
def Nn : IC := .loop q1I
abbrev q1J : IC := .gh (.seq (.seq (.reg [om 54 11, om 55 2, od 56 (le 0 55), od 57 (.bin .lss (tm 54) (tm 56)), om 58 57, oT 59 (.mv (tm 7)) 58, oT 60 (le 0 59) 58, oT 61 (.bin .gtr (tm 60) (ki 0)) 58, od 62 (.pick (tm 58) (tm 61) kF)] [kp [2, 7,
 10, 11, 62] [15, 80]]) (.cond (tm 62) .skip (.exit 2))) (.seq (.block 3 (.seq (.reg [om 65 2, om 66 11, od 67 (ia 1 65 66), od 68 (ld 1 67), od 69 (.conv .i64 (tm 68)), om 70 7, od 71 (le 0 70), od 72 (.bin .rem (tm 69) (tm 71)),
 od 73 (.bin .add (ki 1) (tm 72)), om 12 73] [kp [2, 7, 10, 11, 12] [15, 80]]) (.seq (.reg [om 74 10, om 75 7, om 76 12, od 77 (.slice 1 (tm 75) none (some (tm 76)) none), od 78 (.appT 3 1 kN (tm 77)), od 79 (.bsl true 33 1 [(tm
 78)]), od 80 (.app false 33 1 (tm 74) (tm 79)), om 10 80] [kp [2, 7, 10, 11, 12] [15, 80]]) (.reg [om 81 7, om 82 12, od 83 (.slice 1 (tm 81) (some (tm 82)) none none), om 7 83] [kp [2, 7, 10, 11] [15, 80]])))) (.reg [om 63 11, od
 64 (.bin .add (tm 63) (ki 1)), om 11 64] [kp [2, 7, 10, 11] [15, 80]]))) [kp [2, 7, 10, 11] [15, 80]]
def Np : IC := .loop q1J
abbrev q1K : IC := (.seq (.reg [od 3 (.box true (tm 0)), od 6 (.mv kN)] [kp [1, 2, 3] []]) (.seq (.reg [od 13 (lG 4 3), od 14 (.call 27 [(tm 13)]), od 15 (.app false 3 1 kN (tm 14)), om 7 15] [kp [1, 2, 7] [15]]) (.seq (.seq (.reg [od 8 (.mv (ki 0))]
 [kp [1, 2, 7, 8] [15]]) (.block 0 Nn)) (.seq (.reg [od 10 (.mv kN)] [.nl 10 80 33 1, kp [2, 7, 10] [15, 80]]) (.seq (.seq (.reg [od 11 (.mv (ki 0))] [kp [2, 7, 10, 11] [15, 80]]) (.block 2 Np)) (.seq (.seq
 (.reg [om 84 7, od 85 (le 0 84), od 86 (.bin .gtr (tm 85) (ki 0))] [kp [7, 10, 86] [15, 80]]) (.cond (tm 86) (.reg [om 87 10, om 88 7, od 89 (.appT 3 1 kN (tm 88)), od 90 (.bsl true 33 1 [(tm 89)]), oz 91 (.app false 33 1 (tm 87)
 (tm 90)) 80, om 10 91] [kp [10] [80]]) .skip)) (.seq (.reg [om 92 10, om 6 92] [kp [6] [80]]) .ret)))))))
theorem Va (h : ∀ K : St → Prop, K = run P Γ Nn Q → run P Γ q1I (Ar K Q) s) : run P Γ Nn Q s := Ah h
theorem Vb (h : ∀ K : St → Prop, K = run P Γ Np Q → run P Γ q1J (Ar K Q) s) : run P Γ Np Q s := Ah h
def Uf : List RV := [.tmp 6]
end
end Go.Lg
namespace Go.Lg
open Go Go.Proofs
theorem q55 : Aw Tryz.prog 22 q0E 17 1 q0F = true := by kernel_rfl
theorem q5m : Aw Tryz.prog 72 q1K 93 3 Uf = true := by kernel_rfl
end Go.Lg
namespace Go.Lg
open Go Go.Proofs
variable {Γ : Tables}
def q3f : Nat → Nat → List Int → List Int → List Int
  | 0, _, _, l => l
  | f + 1, i, keys, l => q3f f (i + 1) keys (Uu l i (i + (keys.getD i 0).toNat % (l.length - i)))
def q0f : List Int → List Int → List (Sl Int)
  | [], l => if l = [] then [] else [⟨l, none, none⟩]
  | b :: cuts, l => if l = [] then [] else ⟨l.take (1 + b.toNat % l.length), none, none⟩ :: q0f cuts (l.drop (1 + b.toNat % l.length))
theorem q4C : ∀ (f i : Nat) (keys l : List Int), i + f ≤ l.length → (q3f f i keys l).Perm l
  | 0, _, _, l, _ => List.Perm.refl l
  | f + 1, i, keys, l, h => by
    simp only [q3f]
    have hm := Nat.mod_lt (keys.getD i 0).toNat (show 0 < l.length - i by omega)
    exact (q4C f (i + 1) keys _ (by rw [Zs]; omega)).trans (q42 (by omega) (by omega))
theorem qDx {f i : Nat} {keys l : List Int} (h : i + f ≤ l.length) : (q3f f i keys l).length = l.length := (q4C f i keys l h).length_eq
theorem q81 : ∀ (cuts l : List Int), Gf (q0f cuts l) = l
  | [], l => by
    simp only [q0f]
    split
    · rename_i h; rw [h]; rfl
    · simp [Gf]
  | b :: cuts, l => by
    simp only [q0f]
    split
    · rename_i h; rw [h]; rfl
    · rw [Gs, q81 cuts]; exact List.take_append_drop _ _
theorem qD3 : ∀ (cuts l : List Int), ∀ s ∈ q0f cuts l, s.l ≠ [] ∧ s.nl ≠ some true
  | [], l, s, hs => by
    simp only [q0f] at hs
    split at hs
    · cases hs
    · rename_i h; simp at hs; subst hs; exact ⟨h, by simp⟩
  | b :: cuts, l, s, hs => by
    simp only [q0f] at hs
    split at hs
    · cases hs
    · rename_i h
      rcases List.mem_cons.1 hs with rfl | hs
      · refine ⟨fun e => ?_, by simp⟩
        have := congrArg List.length e
        have hp : 0 < l.length := List.length_pos_iff.2 h
        rw [List.length_take, List.length_nil] at this; omega
      · exact qD3 cuts _ s hs
theorem q0G : ∀ (l : List (Sl Int)), (∀ s ∈ l, s.l ≠ []) → l.length ≤ (Gf l).length ∧ ∀ s ∈ l, s.l.length ≤ (Gf l).length
  | [], _ => by simp [q9M]
  | x :: l, h => by
    obtain ⟨h1, h2⟩ := q0G l fun s hs => h s (List.mem_cons_of_mem _ hs)
    have h3 : 0 < x.l.length := List.length_pos_iff.2 (h x List.mem_cons_self)
    rw [Gs, List.length_append]
    refine ⟨by simp only [List.length_cons]; omega, fun s hs => ?_⟩
    rcases List.mem_cons.1 hs with rfl | hs
    · omega
    · have := h2 s hs; omega
theorem q9N {Q : AX → St → Prop} (keys : Sl Int) (hk : ∀ b ∈ keys.l, Qq b) (a2 : T) (n : Nat) (hn : n ≤ 1000000000) (R : List Int)
    (h0 : Q (.exit 0) ⟨[(1, .t (.sl (Ad tK keys.l) keys.cap keys.nl)), (2, .t a2), (7, .ls 15 0 n none), (8, .t (tI (min n keys.l.length : Nat))), (25, .t (tB false))], [(15, .sl 3 1 (Ak R))]⟩) : ∀ (k i : Nat) (l : List Int), k + i = min n keys.l.length → q3f k i keys.l l = R → l.length = n →
    run Tryz.prog Γ Nn Q ⟨[(1, .t (.sl (Ad tK keys.l) keys.cap keys.nl)), (2, .t a2), (7, .ls 15 0 n none), (8, .t (tI i))], [(15, .sl 3 1 (Ak l))]⟩
  | 0, i, l, h, hR, hl => by
    refine Va fun K hK => ?_
    simp only [q3f] at hR
    subst hR
    have hi : i = min n keys.l.length := by omega
    by_cases h2 : i < n
    · have h3 : ¬ i < keys.l.length := by omega
      simp (disch := omega) [h2, h3, A0]
      subst hi
      simpa using h0
    · simp (disch := omega) [h2, A0]
      subst hi
      simpa using h0
  | k + 1, i, l, h, hR, hl => by
    refine Va fun K hK => ?_
    have h2 : i < n := by omega
    have h3 : i < keys.l.length := by omega
    simp only [q3f] at hR
    have ih := q9N keys hk a2 n hn R h0 k (i + 1) _ (by omega) hR (by rw [Zs]; exact hl)
    have hget := B1 (f := tK) 0 h3
    have hkg : keys.l[i]?.getD 0 = keys.l.getD i 0 := by simp [List.getD_eq_getElem?_getD]
    rw [hkg] at hget
    have hmem : keys.l.getD i 0 ∈ keys.l := by rw [Cc h3]; exact List.getElem_mem h3
    obtain ⟨b0, b1⟩ := hk _ hmem
    generalize keys.l.getD i 0 = b at *
    rw [hl] at ih
    have hm := Nat.mod_lt b.toNat (show 0 < n - i by omega)
    have hne : ¬ ((n : Int) - i = 0) := by omega
    have hmod : b.tmod ((n : Int) - i) = ((b.toNat % (n - i) : Nat) : Int) := by
      have e1 : b = (b.toNat : Int) := by omega
      have e2 : ((n : Int) - i) = ((n - i : Nat) : Int) := by omega
      rw [e2, Int.natCast_emod, ← e1]; exact Int.tmod_eq_emod_of_nonneg (by omega)
    generalize b.toNat % (n - i) = q at *
    have hj : i + q < n := by omega
    have la : i < l.length := by omega
    have lb : i + q < l.length := by omega
    have ga : l[i]?.getD 0 = l.getD i 0 := by simp [List.getD_eq_getElem?_getD]
    have gb : l[i + q]?.getD 0 = l.getD (i + q) 0 := by simp [List.getD_eq_getElem?_getD]
    have e1 := B1 (f := tI) 0 la
    have e2 := B1 (f := tI) 0 lb
    rw [ga] at e1
    rw [gb] at e2
    have hs : Ak (Uu l i (i + q)) = ((Ak l).set i [tI (l.getD (i + q) 0)]).set (i + q) [tI (l.getD i 0)] := by
      show Ad tI _ = ((Ad tI l).set _ _).set _ _
      rw [F6, F6]; rfl
    rw [hs] at ih
    generalize l.getD i 0 = va at *
    generalize l.getD (i + q) 0 = vb at *
    have hiq : ((i : Int) + q).toNat = i + q := by omega
    have hiq2 : (i : Int) + q < n := by omega
    simp (disch := omega) [h2, h3, A0, A9, hget, hl, hne, hmod, e1, e2, hiq, hiq2, hj, A5]
    refine ⟨by omega, ?_⟩
    rw [hK]
    simpa using ih
theorem qBA {Q : AX → St → Prop} (cuts : Sl Int) (hk : ∀ b ∈ cuts.l, Qq b) (L : List Int) (hL : L.length ≤ 1000000000) (R : List (Sl Int))
    (h0 : ∀ (i off len : Nat) (out : List (Sl Int)), out.length ≤ off → off + len = L.length → out ++ (if L.drop off = [] then [] else [⟨L.drop off, none, none⟩]) = R → Q (.exit 2) ⟨[(2, .t (.sl (Ad tK cuts.l) cuts.cap cuts.nl)), (7, .ls 15 off len none), (10, .ls 80 0 out.length none), (11, .t (tI i)), (62, .t (tB false))], [(15, .sl 3 1 (Ak L)), (80, .sl 33 1 (Ad As out))]⟩) : ∀ (k i off len : Nat) (out : List (Sl Int)), k + i = cuts.l.length → off + len = L.length → out ++ q0f (cuts.l.drop i) (L.drop off) = R → out.length ≤ off → i = out.length →
    run Tryz.prog Γ Np Q ⟨[(2, .t (.sl (Ad tK cuts.l) cuts.cap cuts.nl)), (7, .ls 15 off len none), (10, .ls 80 0 out.length none), (11, .t (tI i))], [(15, .sl 3 1 (Ak L)), (80, .sl 33 1 (Ad As out))]⟩
  | 0, i, off, len, out, h, ho, hR, hl, hio => by
    refine Vb fun K hK => ?_
    have h2 : ¬ i < cuts.l.length := by omega
    rw [List.drop_of_length_le (by omega)] at hR
    simp only [q0f] at hR
    simp [h2, A0]
    exact h0 i off len out hl ho hR
  | k + 1, i, off, len, out, h, ho, hR, hl, hio => by
    refine Vb fun K hK => ?_
    have h2 : i < cuts.l.length := by omega
    by_cases hlen : len = 0
    · subst hlen
      have hd : L.drop off = [] := List.drop_of_length_le (by omega)
      rw [hd] at hR
      have hR' : out ++ (if L.drop off = [] then [] else [⟨L.drop off, none, none⟩]) = R := by
        rw [hd]
        rw [List.drop_eq_getElem_cons h2] at hR
        simpa [q0f] using hR
      simp [h2, A0]
      exact h0 i off 0 out hl ho hR'
    have hdl : (L.drop off).length = len := by simp; omega
    have hdn : ¬ L.drop off = [] := fun e => by rw [e] at hdl; simp at hdl; omega
    rw [List.drop_eq_getElem_cons h2] at hR
    simp only [q0f, if_neg hdn, hdl] at hR
    have hget := B1 (f := tK) 0 h2
    have hkg : cuts.l[i]?.getD 0 = cuts.l[i] := by simp [h2]
    rw [hkg] at hget
    obtain ⟨b0, b1⟩ := hk _ (List.getElem_mem h2)
    generalize cuts.l[i] = b at *
    have hm := Nat.mod_lt b.toNat (show 0 < len by omega)
    have hne : ¬ (len : Int) = 0 := by omega
    have hmod : b.tmod (len : Int) = ((b.toNat % len : Nat) : Int) := by
      have e1 : b = (b.toNat : Int) := by omega
      rw [Int.natCast_emod, ← e1]; exact Int.tmod_eq_emod_of_nonneg (by omega)
    generalize b.toNat % len = q at *
    have ih := qBA cuts hk L hL R h0 k (i + 1) (off + (1 + q)) (len - (1 + q)) (out ++ [⟨(L.drop off).take (1 + q), none, none⟩]) (by omega) (by omega) (by rw [← hR, List.append_assoc, List.drop_drop]; rfl) (by simp; omega) (by simp; omega)
    have ht : ∀ n, (Ak L).drop n = Ak (L.drop n) := fun n => q8t
    have ht2 : ∀ n (l : List Int), (Ak l).take n = Ak (l.take n) := fun n l => q5O
    have htk : (Ad As out).take out.length = Ad As out := List.take_of_length_le (by rw [A0]; exact Nat.le_refl _)
    have hw : E1 1 [[T.sl (Ak ((L.drop off).take (1 + q))) none none]] := by intro e he; simp at he; subst he; rfl
    have hsn : Ad As out ++ [[T.sl (Ak ((L.drop off).take (1 + q))) none none]] = Ad As (out ++ [⟨(L.drop off).take (1 + q), none, none⟩]) := Bq (f := As) (x := ⟨(L.drop off).take (1 + q), none, none⟩)
    have hlt : 0 < len := by omega
    have hq1 : (1 + (q : Int)).toNat = 1 + q := by omega
    simp (disch := omega) [h2, A0, A9, hget, hne, hlen, hlt, hmod, hq1, ht, ht2, htk, hw, hsn, A5]
    refine ⟨by omega, by omega, by omega, by omega, ?_⟩
    rw [hK]
    have hq1' : (1 : Int) + q = ((1 + q : Nat) : Int) := by omega
    simpa using ih
end Go.Lg
namespace Go.Lg
open Go Go.Proofs
theorem q9O : ∀ i, i < 100 → ∀ j, j < 100 → Re i = Re j → i = j := by decide +kernel
theorem qGe {i j : Nat} (hi : i < 100) (hj : j < 100) (h : siN i = siN j) : i = j := q9O i hi j hj (by simpa [siN] using h)
theorem qGf {i j : Nat} (hi : i < 100) (hj : j < 100) (h : smN i = smN j) : i = j := q9O i hi j hj (by simpa [smN] using h)
def qBB : Int → List (Sl Int) → List (Int × Int)
  | _, [] => []
  | n, s :: l => q2a n s.l ++ qBB (n + 1) l
def q9P : Int → List (Sl Int) → List Int
  | _, [] => []
  | n, s :: l => q0C n s.l :: q9P (n + 1) l
def Xk (n : Nat) (k : Nat) : List Int := (List.range' n k).map fun q : Nat => (q : Int)
theorem q4D (n k : Nat) : Xk n (k + 1) = (n : Int) :: Xk (n + 1) k := by simp [Xk, List.range'_succ]
theorem qD4 : ∀ (l : List (Sl Int)) (i : Nat) (S : IS), q6g i l S = ⟨S.nodes ++ List.replicate l.length He, S.names ++ (List.range' i l.length).map siN, S.cl ++ l.map (fun s => ⟨s.l, some s.l.length, none⟩), S.ins ++ Xk S.nodes.length l.length, S.bef ++ qBB S.nodes.length l, S.outs ++ q9P S.nodes.length l⟩
  | [], i, S => by simp [q6g, Xk, qBB, q9P]
  | s :: l, i, S => by
    simp only [q6g]
    rw [qD4 l (i + 1)]
    simp [J8, List.replicate_succ, List.range'_succ, q4D, qBB, q9P]
theorem qBC : ∀ (l : List (Sl Int)) (i : Nat) (S : IS) (base : List (List UInt8)), S.names = base ++ (List.range' 0 i).map siN → (∀ j, j < 100 → siN j ∉ base) → i + l.length ≤ 100 → S.nodes.length ≤ 2000 + i → S.names.length ≤ 2000 + i → S.cl.length = i → S.ins.length = i → S.outs.length ≤ 2000 + i →
    (S.bef.map (·.1) ++ Gf l).Nodup → (∀ s ∈ l, s.l ≠ [] ∧ s.nl ≠ some true ∧ s.l.length ≤ 1000000) → qFG i l S
  | [], _, _, _, _, _, _, _, _, _, _, _, _, _ => trivial
  | s :: l, i, S, base, hn, hb, hi, h1, h2, h3, h4, h5, hnd, hs => by
    simp only [List.length_cons] at hi
    rw [Gs, ← List.append_assoc] at hnd
    have hnd2 := hnd
    rw [List.append_assoc] at hnd2
    obtain ⟨d1, d2, d3⟩ := List.nodup_append.1 hnd2
    obtain ⟨e1, e2, e3⟩ := List.nodup_append.1 d2
    obtain ⟨s1, s2, s3⟩ := hs s List.mem_cons_self
    refine ⟨⟨⟨by omega, by omega, by omega, by omega, by omega⟩, ?_, by omega, s1, s2, s3, e1, fun n hnl hm => d3 n hm n (List.mem_append_left _ hnl) rfl⟩, ?_⟩
    · rw [hn, List.mem_append]
      rintro (h | h)
      · exact hb i (by omega) h
      · obtain ⟨j, hj, e⟩ := List.mem_map.1 h
        simp at hj
        have := qGe (by omega) (by omega) e
        omega
    · refine qBC l (i + 1) (J8 i s S) base ?_ hb (by omega) (by simp [J8]; omega) (by simp [J8]; omega) (by simp [J8]; omega) (by simp [J8]; omega) (by simp [J8]; omega) ?_ fun x hx => hs x (List.mem_cons_of_mem _ hx)
      · simp only [J8, hn, List.append_assoc]
        rw [List.range'_concat]
        simp
      · simp only [J8, List.map_append, q7x]
        exact hnd
theorem qBD (c : B9) (en : Int) (bef : List (Int × Int)) : ∀ (l : List Int) (i : Nat) (J : JS) (base : List (List UInt8)), J.names = base ++ (List.range' 0 i).map smN → (∀ j, j < 100 → smN j ∉ base) → i + l.length ≤ 100 → J.nodes.length ≤ 3000 + i → J.names.length ≤ 3000 + i → J.muxes.length = i →
    (∀ n ∈ l, 0 ≤ n ∧ n < c.nodes.l.length ∧ n < J.nodes.length ∧ Gt c n.toNat ≠ []) → qGd c en bef i l J
  | [], _, _, _, _, _, _, _, _, _, _ => trivial
  | n :: l, i, J, base, hn, hb, hi, h1, h2, h3, hs => by
    simp only [List.length_cons] at hi
    obtain ⟨s1, s2, s3, s4⟩ := hs n List.mem_cons_self
    have hlen : (J9 c en bef i n J).nodes.length = J.nodes.length + 1 := by simp [J9, Hf]
    refine ⟨⟨by omega, by omega, by omega, ?_, by omega, s1, s2, s3, s4⟩, ?_⟩
    · rw [hn, List.mem_append]
      rintro (h | h)
      · exact hb i (by omega) h
      · obtain ⟨j, hj, e⟩ := List.mem_map.1 h
        simp at hj
        have := qGf (by omega) (by omega) e
        omega
    · refine qBD c en bef l (i + 1) (J9 c en bef i n J) base ?_ hb (by omega) (by omega) (by simp [J9]; omega) (by simp [J9]; omega) fun x hx => ?_
      · simp only [J9, hn, List.append_assoc]
        rw [List.range'_concat]
        simp
      · obtain ⟨a1, a2, a3, a4⟩ := hs x (List.mem_cons_of_mem _ hx)
        exact ⟨a1, a2, by omega, a4⟩
theorem qDy {x : CD} (hx : q1V x) : (Bt x).length ≤ 16 := by
  have m4 : 0 ≤ x.i.tmod 4 ∧ x.i.tmod 4 < 4 := Bm (n := 4) hx.i.1 (by omega)
  have m3 : 0 ≤ x.f.tmod 3 ∧ x.f.tmod 3 < 3 := Bm (n := 3) hx.f.1 (by omega)
  have l2 : (C7 x).length = (x.i.tmod 4 + 1).toNat + (x.f.tmod 3).toNat := by simp [C7, Dq]
  have l3 : (C7 x).length ≤ (C5 x).length ∧ (C5 x).length ≤ 8 := by unfold C5; split <;> simp <;> omega
  have l4 : (Be x).length = (C5 x).length + min 8 x.gates.l.length := by unfold Be; rw [Nx]; simp
  have l5 : (Bt x).length = (Be x).length := Ov
  omega
end Go.Lg
namespace Go.Lg
open Go Go.Proofs
variable {Γ : Tables}
theorem qBE (c : B9) (hc : COk c) (keys cuts : Sl Int) (hk : ∀ b ∈ keys.l, Qq b) (hcu : ∀ b ∈ cuts.l, Qq b) :
    Ag Tryz.prog Γ 72 [.agg (tC c), .sl (Ad tK keys.l) keys.cap keys.nl, .sl (Ad tK cuts.l) cuts.cap cuts.nl] (Bc ⟨q0f cuts.l (q3f (min (A6 c).length keys.l.length) 0 keys.l (A6 c)), none, none⟩) := by
  refine Ap q5m rfl ?_
  have hsl := qCJ c
  have hcn := hc.nodes
  have hpl := qDx (f := min (A6 c).length keys.l.length) (i := 0) (keys := keys.l) (l := A6 c) (by omega)
  have g1 := fun Q h0 => q9N (Γ := Γ) (Q := Q) keys hk (.sl (Ad tK cuts.l) cuts.cap cuts.nl) (A6 c).length (by omega) _ h0 (min (A6 c).length keys.l.length) 0 (A6 c) (by omega) rfl rfl
  generalize q3f (min (A6 c).length keys.l.length) 0 keys.l (A6 c) = L at *
  have g2 := fun Q h0 => qBA (Γ := Γ) (Q := Q) cuts hcu L (by omega) (q0f cuts.l L) h0 cuts.l.length 0 0 L.length [] (by omega) (by omega) (by simp) (by simp) rfl
  simp [q1K, tC, Ab, Af, Am, As]
  refine A8 (Dl c hc) rfl ?_
  simp [A0, A9]
  simp only [hpl] at g2
  refine ⟨by omega, g1 _ ?_⟩
  simp
  refine g2 _ fun i off len out h1 h2 h3 => ?_
  have hdl : (L.drop off).length = len := by rw [List.length_drop]; omega
  by_cases hlen : len = 0
  · have hd : L.drop off = [] := List.drop_of_length_le (by omega)
    rw [hd, if_pos rfl, List.append_nil] at h3
    generalize q0f cuts.l L = R at *
    subst h3
    have htk : (Ad As out).take out.length = Ad As out := B6
    simp [hlen, Uf, Aj, htk, Bc]
  · have hdn : ¬ L.drop off = [] := fun e => by rw [e] at hdl; simp at hdl; omega
    rw [if_neg hdn] at h3
    have hlt : 0 < len := by omega
    have htk : (Ad As out).take out.length = Ad As out := B6
    have ht : (Ak L).drop off = Ak (L.drop off) := q8t
    have ht2 : (Ak (L.drop off)).take len = Ak (L.drop off) := List.take_of_length_le (by rw [A0, hdl]; exact Nat.le_refl _)
    have hw : E1 1 [[T.sl (Ak (L.drop off)) none none]] := by intro e he; simp at he; subst he; rfl
    have hsn : Ad As out ++ [[T.sl (Ak (L.drop off)) none none]] = Ad As (out ++ [⟨L.drop off, none, none⟩]) := Bq (f := As) (x := ⟨L.drop off, none, none⟩)
    have hww : E1 1 (Ak (L.drop off)) := A9
    rw [h3] at hsn
    have hRl : (q0f cuts.l L).length = out.length + 1 := by rw [← h3]; simp
    have htk2 : (Ad As (q0f cuts.l L)).take (out.length + 1) = Ad As (q0f cuts.l L) := by rw [← hRl]; exact B6
    have hol : out.length ≤ 1000000000 := by omega
    have hol1 : (out.length : Int) + 1 = ((out.length + 1 : Nat) : Int) := by omega
    clear h3
    generalize q0f cuts.l L = R at *
    simp [hlen, hlt, A0, ht, ht2, htk, hw, hww, hsn, hdl]
    refine ⟨by omega, by omega, ?_⟩
    simp [Uf, Aj, htk2, Bc]
structure q1L where
  x : CD
  keys : Sl Int
  cuts : Sl Int
def Rh (y : q1L) : List T := Ir y.x ++ [.sl (Ad tK y.keys.l) y.keys.cap y.keys.nl, .sl (Ad tK y.cuts.l) y.cuts.cap y.cuts.nl]
structure q0g (y : q1L) : Prop where
  x : q1V y.x
  keys : ∀ b ∈ y.keys.l, Qq b
  cuts : ∀ b ∈ y.cuts.l, Qq b
def Ij (x : CD) : CD := { x with mem := false }
def Hw (y : q1L) : B9 := K6 (Ij y.x)
def q0h (y : q1L) : List (Sl Int) := q0f y.cuts.l (q3f (min (A6 (Hw y)).length y.keys.l.length) 0 y.keys.l (A6 (Hw y)))
theorem q0H {x : CD} (h : q1V x) : q1V (Ij x) := ⟨h.i, h.f, h.d0, h.d1, h.p0, h.p1, h.p2, h.p3, h.gates, h.outs⟩
theorem q6M (y : q1L) (hy : q0g y) : Ag Tryz.prog Γ 22 [.agg (Rh y)] (.tup [.agg (tC (Hw y)), Bc ⟨q0h y, none, none⟩]) := by
  refine Ap q55 rfl ?_
  have hx := q0H hy.x
  have e1 := qGQ (Γ := Γ) (Ij y.x) hx
  have hc := q9q hx
  have e2 := qBE (Γ := Γ) (Hw y) hc y.keys y.cuts hy.keys hy.cuts
  unfold q0h
  have hcc : K6 (Ij y.x) = Hw y := rfl
  rw [hcc] at e1
  generalize Hw y = c at *
  simp [q0E, Rh, Ir]
  simp [Ir, Ij] at e1
  refine A8 e1 rfl ?_
  simp [tC, Ab, Af, Am, As]
  simp [tC, Ab, Af, Am, As] at e2
  refine A8 e2 rfl ?_
  simp [q0F, Aj]
end Go.Lg
namespace Go.Lg
open Go Go.Proofs
theorem q56 {a b : List Nd} {q : Nat} (h : q < a.length) : (a ++ b).getD q Nd.d = a.getD q Nd.d := by
  rw [List.getD_eq_getElem?_getD, List.getElem?_append_left h, ← List.getD_eq_getElem?_getD]
theorem q9Q {a b : List Nd} {q : Nat} (h : a.length ≤ q) : (a ++ b).getD q Nd.d = b.getD (q - a.length) Nd.d := by
  rw [List.getD_eq_getElem?_getD, List.getElem?_append_right h, ← List.getD_eq_getElem?_getD]
theorem qFL {a : List Nd} {j q : Nat} {v : Int} (h : j < a.length) : (Hf a j v).getD q Nd.d = if q = j then ⟨(a.getD j Nd.d).k, ⟨[v], some 1, some false⟩, (a.getD j Nd.d).mem, (a.getD j Nd.d).bit⟩ else a.getD q Nd.d := by
  unfold Hf
  rw [List.getD_eq_getElem?_getD, List.getElem?_set]
  by_cases e : j = q
  · subst e; simp [h]
  · rw [if_neg e, if_neg (fun h => e h.symm), ← List.getD_eq_getElem?_getD]
theorem qD5 (c : B9) (en : Int) (bef : List (Int × Int)) : ∀ (l : List Int) (i : Nat) (J : JS), l.Nodup → (∀ n ∈ l, 0 ≤ n ∧ n < J.nodes.length) →
    (q3G c en bef i l J).nodes.length = J.nodes.length + l.length ∧ (q3G c en bef i l J).names = J.names ++ (List.range' i l.length).map smN ∧ (q3G c en bef i l J).muxes = J.muxes ++ Xk J.nodes.length l.length ∧
    (∀ q, q < J.nodes.length → (q : Int) ∉ l → (q3G c en bef i l J).nodes.getD q Nd.d = J.nodes.getD q Nd.d) ∧
    (∀ k, k < l.length → (q3G c en bef i l J).nodes.getD (l.getD k 0).toNat Nd.d = ⟨(J.nodes.getD (l.getD k 0).toNat Nd.d).k, ⟨[((J.nodes.length + k : Nat) : Int)], some 1, some false⟩, (J.nodes.getD (l.getD k 0).toNat Nd.d).mem, (J.nodes.getD (l.getD k 0).toNat Nd.d).bit⟩) ∧
    (∀ k, k < l.length → (q3G c en bef i l J).nodes.getD (J.nodes.length + k) Nd.d = q1X en (in0 c (l.getD k 0)) (Rf bef (l.getD k 0)))
  | [], i, J, _, _ => ⟨rfl, by simp [q3G], by simp [q3G, Xk], fun q _ _ => rfl, fun k h => by simp at h, fun k h => by simp at h⟩
  | n :: l, i, J, hnd, hs => by
    obtain ⟨hn1, hn2⟩ := List.nodup_cons.1 hnd
    obtain ⟨n0, n1⟩ := hs n List.mem_cons_self
    have hlen : (J9 c en bef i n J).nodes.length = J.nodes.length + 1 := by simp [J9, Hf]
    obtain ⟨a1, a2, a3, a4, a5, a6⟩ := qD5 c en bef l (i + 1) (J9 c en bef i n J) hn2 fun x hx => by
      have := hs x (List.mem_cons_of_mem _ hx)
      exact ⟨this.1, by omega⟩
    have hlt : n.toNat < (J.nodes ++ [q1X en (in0 c n) (Rf bef n)]).length := by simp; omega
    have hst : ∀ q, (J9 c en bef i n J).nodes.getD q Nd.d = if q = n.toNat then ⟨(J.nodes.getD n.toNat Nd.d).k, ⟨[(J.nodes.length : Int)], some 1, some false⟩, (J.nodes.getD n.toNat Nd.d).mem, (J.nodes.getD n.toNat Nd.d).bit⟩ else (J.nodes ++ [q1X en (in0 c n) (Rf bef n)]).getD q Nd.d := fun q => by
      simp only [J9]
      rw [qFL hlt, q56 (by omega)]
    simp only [q3G]
    refine ⟨by rw [a1, hlen]; simp; omega, ?_, ?_, ?_, ?_, ?_⟩
    · rw [a2]; simp [J9, List.range'_succ]
    · rw [a3, hlen]; simp only [J9, List.append_assoc, List.length_cons, q4D]; rfl
    · intro q hq hm
      rw [a4 q (by omega) fun h => hm (List.mem_cons_of_mem _ h), hst, if_neg (fun e => hm (by have : (q : Int) = n := (by omega); rw [this]; exact List.mem_cons_self)), q56 hq]
    · intro k hk
      cases k with
      | zero =>
        simp only [List.getD_cons_zero]
        rw [a4 n.toNat (by omega) fun h => hn1 (by have : ((n.toNat : Nat) : Int) = n := (by omega); rw [this] at h; exact h), hst, if_pos rfl]
        rfl
      | succ k =>
        simp only [List.getD_cons_succ]
        have hk' : k < l.length := by simpa using hk
        have hin : l.getD k 0 ∈ l := by rw [Cc hk']; exact List.getElem_mem _
        have hb := hs _ (List.mem_cons_of_mem _ hin)
        have hne : ¬ (l.getD k 0).toNat = n.toNat := fun e => hn1 (by have : l.getD k 0 = n := (by omega); rw [← this]; exact hin)
        rw [a5 k hk', hst, if_neg hne, q56 (by omega), hlen]
        congr 4
        omega
    · intro k hk
      cases k with
      | zero =>
        simp only [List.getD_cons_zero, Nat.add_zero]
        rw [a4 J.nodes.length (by omega) fun h => by have := (hs _ (List.mem_cons_of_mem _ h)).2; omega, hst, if_neg (by omega), q9Q (Nat.le_refl _)]
        simp
      | succ k =>
        simp only [List.getD_cons_succ]
        have hk' : k < l.length := by simpa using hk
        rw [← a6 k hk', hlen]
        congr 1
        omega
structure q3H (c : B9) (ch : List (Sl Int)) : Prop where
  ok : COk c
  cp : qIC c
  good : GNs false c.nodes.l
  n1 : 1 ≤ c.nodes.l.length
  n2 : c.nodes.l.length ≤ 16
  nms : c.names.l = (List.range' 0 c.nodes.l.length).map Le
  outs : c.outs.l.length ≤ 4 ∧ ∀ p ∈ c.outs.l, 0 ≤ p ∧ p < c.nodes.l.length
  perm : (Gf ch).Perm (A6 c)
  ne : ∀ s ∈ ch, s.l ≠ [] ∧ s.nl ≠ some true
theorem qFM {B : Bool} {ns : List Nd} (h : GNs B ns) {i : Nat} (hi : i < ns.length) : NG B ns i (ns.getD i Nd.d) := by
  have := h i hi
  rwa [show ns.getD i Nd.d = ns[i] by simp [List.getD_eq_getElem?_getD, hi]]
/-! The nodes are lists that tell whether they are nil. -/
def SNs (ns : List Nd) : Prop := ∀ x ∈ ns, q2T x.inn
theorem L1 {l : List Int} (h : l ≠ []) (h2 : l.length ≤ 1000000) : q2T (⟨l, none, none⟩ : Sl Int) := ⟨(fun h => nomatch h), (fun _ => h), h2⟩
theorem q9R {l : List Int} {c : Option Nat} (h2 : l.length ≤ 1000000) : q2T (⟨l, c, some false⟩ : Sl Int) := ⟨(fun h => nomatch h), (fun h => nomatch h), h2⟩
theorem qBF {c : Option Nat} : q2T (⟨[], c, some true⟩ : Sl Int) := ⟨(fun _ => rfl), (fun h => nomatch h), by simp⟩
theorem qFN {bus : Bool} {g : Gd} {ns : List Nd} : q2T (Yd bus g ns).inn := by
  unfold Yd q7c
  generalize (if bus = true then g.k.tmod 13 else g.k.tmod 9) = kk
  by_cases h1 : kk < 6
  · simp only [h1, if_true]
    split
    · exact L1 (by simp) (by simp)
    · exact L1 (by simp) (by simp)
  · simp only [h1, if_false]
    split
    · exact L1 (by simp) (by simp)
    split
    · exact L1 (by simp) (by simp)
    split
    · exact L1 (by simp) (by simp)
    split
    · by_cases h2 : 1 < (q39 ns).length
      · simp only [h2, if_true]
        exact L1 (by simp) (by simp)
      · simp only [h2, if_false]
        exact L1 (by simp) (by simp)
    split
    · exact qBF
    · exact L1 (by simp) (by simp)
theorem q9S {bus : Bool} : ∀ {l : List Gd} {ns : List Nd}, SNs ns → SNs (K5 bus l ns)
  | [], ns, h => h
  | g :: l, ns, h => by
    simp only [K5]
    refine q9S fun x hx => ?_
    rcases List.mem_append.1 hx with hx | hx
    · exact h x hx
    · simp at hx; subst hx; exact qFN
theorem qBG {x : CD} {first : Nat} : ∀ {k i : Nat} {ns : List Nd}, SNs ns → SNs (Ux x first k i ns)
  | 0, _, _, h => h
  | k + 1, i, ns, h => by
    simp only [Ux]
    refine qBG fun y hy => ?_
    rcases List.mem_or_eq_of_mem_set hy with hy | rfl
    · exact h y hy
    · exact q9R (by simp)
theorem qDz {x : CD} (hm : x.mem = false) : SNs (Bt x) := by
  unfold Bt Be C5
  rw [hm]
  refine qBG (q9S fun y hy => ?_)
  simp only [Bool.false_eq_true, if_false, C7, Dq, List.mem_append, List.mem_replicate] at hy
  rcases hy with ⟨_, rfl⟩ | ⟨_, rfl⟩
  · exact qBF
  · exact q9R (by simp)
theorem q5n {y : q1L} (hy : q0g y) : q3H (Hw y) (q0h y) := by
  have hx := q0H hy.x
  have hN : (Hw y).nodes.l = Bt (Ij y.x) := rfl
  have hl4 := q0X hx
  have h54 : (Bt (Ij y.x)).length = (Be (Ij y.x)).length := Ov
  have h16 : (Bt (Ij y.x)).length ≤ 16 := qDy hx
  have hpe := q4C (min (A6 (Hw y)).length y.keys.l.length) 0 y.keys.l (A6 (Hw y)) (by omega)
  have hmods : ∀ b, Qq b → 0 ≤ b.tmod (Be (Ij y.x)).length ∧ b.tmod (Be (Ij y.x)).length < ((Bt (Ij y.x)).length : Int) := fun b hb => by
    have := Bm (n := (Be (Ij y.x)).length) hb.1 (by omega); omega
  have hout : ∀ p ∈ (Hw y).outs.l, 0 ≤ p ∧ p < ((Hw y).nodes.l.length : Int) := fun p hp => by
    rw [hN]
    simp only [Hw, K6, List.mem_append, List.mem_map, List.mem_singleton] at hp
    rcases hp with ⟨b, hb, rfl⟩ | rfl
    · exact hmods b (hx.outs b (List.mem_of_mem_take hb))
    · omega
  have hol : (Hw y).outs.l.length ≤ 4 := by simp [Hw, K6]; omega
  have hne : (Bt (Ij y.x)) ≠ [] := List.length_pos_iff.1 (by omega)
  have hnl : (Hw y).names.l.length = (Be (Ij y.x)).length := by simp [Hw, K6]
  refine ⟨q9q hx, ⟨hne, by rw [hN]; omega, (fun h => nomatch h), List.length_pos_iff.1 (by omega), by omega, (fun h => nomatch h), rfl, ?_, L1 (by simp) (by simp; omega)⟩, Yq hx, by rw [hN]; omega, by rw [hN]; omega, ?_, ⟨hol, hout⟩, ?_, qD3 _ _⟩
  · exact qDz (x := Ij y.x) rfl
  · show (List.range' 0 (Be (Ij y.x)).length).map Le = (List.range' 0 (Bt (Ij y.x)).length).map Le
    rw [h54]
  · unfold q0h; rw [q81]; exact hpe
def m0 (c : B9) (ch : List (Sl Int)) : Nat := c.nodes.l.length + 1 + ch.length
theorem qFO {l : List Nd} {q : Nat} (h : q < l.length) : (l.map Z6).getD q Nd.d = Z6 (l.getD q Nd.d) := by
  simp [List.getD_eq_getElem?_getD, h]
structure ScF (c : B9) (ch : List (Sl Int)) : Prop where
  chl : ch.length ≤ 16
  stl : (A6 c).length ≤ 16
  sn : (Sv c ch).nodes = c.nodes.l.map Z6 ++ [He] ++ List.replicate ch.length He
  snl : (Sv c ch).nodes.length = m0 c ch
  snm : (Sv c ch).names = c.names.l ++ [seN] ++ (List.range' 0 ch.length).map siN
  cl : (Sv c ch).cl = ch.map (fun s => ⟨s.l, some s.l.length, none⟩)
  ins : (Sv c ch).ins = Xk (c.nodes.l.length + 1) ch.length
  bef : (Sv c ch).bef = qBB (c.nodes.l.length + 1 : Nat) ch
  outs : (Sv c ch).outs = c.outs.l ++ q9P (c.nodes.l.length + 1 : Nat) ch
  len : (scJ c ch).nodes.length = m0 c ch + (A6 c).length
  nm : (scJ c ch).names = c.names.l ++ [seN] ++ (List.range' 0 ch.length).map siN ++ (List.range' 0 (A6 c).length).map smN
  mux : (scJ c ch).muxes = Xk (m0 c ch) (A6 c).length
  old : ∀ q, q < c.nodes.l.length → B7 c q ≠ 14 → (scJ c ch).nodes.getD q Nd.d = Z6 (c.nodes.l.getD q Nd.d)
  dff : ∀ q, q < c.nodes.l.length → B7 c q = 14 → (scJ c ch).nodes.getD q Nd.d = ⟨14, ⟨[((m0 c ch + q7i 14 c q : Nat) : Int)], some 1, some false⟩, (c.nodes.l.getD q Nd.d).mem, (c.nodes.l.getD q Nd.d).bit⟩
  inp : ∀ q, c.nodes.l.length ≤ q → q < m0 c ch → (scJ c ch).nodes.getD q Nd.d = He
  mx : ∀ k, k < (A6 c).length → (scJ c ch).nodes.getD (m0 c ch + k) Nd.d = q1X c.nodes.l.length (in0 c ((A6 c).getD k 0)) (Rf (qBB (c.nodes.l.length + 1 : Nat) ch) ((A6 c).getD k 0))
theorem scF {c : B9} {ch : List (Sl Int)} (h : q3H c ch) : ScF c ch := by
  have hsl : (A6 c).length ≤ c.nodes.l.length := Vj _ _ _
  have hn2 := h.n2
  have hle := q0G ch fun s hs => (h.ne s hs).1
  have hpl := h.perm.length_eq
  have hS : Sv c ch = _ := qD4 ch 0 (U2 c)
  have s1 : (Sv c ch).nodes = c.nodes.l.map Z6 ++ [He] ++ List.replicate ch.length He := by rw [hS]; rfl
  have s2 : (Sv c ch).nodes.length = m0 c ch := by rw [s1]; simp [m0]; omega
  have s3 : (Sv c ch).names = c.names.l ++ [seN] ++ (List.range' 0 ch.length).map siN := by rw [hS]; rfl
  have l0 : (U2 c).nodes.length = c.nodes.l.length + 1 := by simp [U2]
  have s4 : (Sv c ch).bef = qBB (c.nodes.l.length + 1 : Nat) ch := by
    rw [hS]; show ([] : List (Int × Int)) ++ qBB ((U2 c).nodes.length) ch = _
    rw [l0]; rfl
  have hnd : (A6 c).Nodup := (J0 [14] c.nodes.l 0).2
  have hin : ∀ n ∈ A6 c, 0 ≤ n ∧ n < (Sv c ch).nodes.length := fun n hn => by
    have := X4 (k := 14) (c := c) n hn
    rw [s2]; unfold m0; omega
  obtain ⟨a1, a2, a3, a4, a5, a6⟩ := qD5 c c.nodes.l.length (Sv c ch).bef (A6 c) 0 ⟨(Sv c ch).nodes, (Sv c ch).names, []⟩ hnd hin
  have hJ : scJ c ch = q3G c c.nodes.l.length (Sv c ch).bef 0 (A6 c) ⟨(Sv c ch).nodes, (Sv c ch).names, []⟩ := rfl
  rw [← hJ] at a1 a2 a3 a4 a5 a6
  simp only [s2] at a1 a3 a4 a5 a6
  have hg : ∀ q, q < c.nodes.l.length → (Sv c ch).nodes.getD q Nd.d = Z6 (c.nodes.l.getD q Nd.d) := fun q hq => by
    rw [s1, List.append_assoc, q56 (by simpa using hq), qFO hq]
  refine ⟨by omega, by omega, s1, s2, s3, by rw [hS]; rfl, ?_, s4, ?_, a1, by rw [a2, s3], by rw [a3]; rfl, ?_, ?_, ?_, ?_⟩
  · rw [hS]; show ([] : List Int) ++ Xk (U2 c).nodes.length ch.length = _
    rw [l0]; rfl
  · rw [hS]; show c.outs.l ++ q9P ((U2 c).nodes.length) ch = _
    rw [l0]
  · intro q hq hk
    rw [a4 q (by unfold m0; omega) fun hm => hk ((q9v hq).1 hm), hg q hq]
  · intro q hq hk
    obtain ⟨r1, r2⟩ := qGT hq hk
    have := a5 (q7i 14 c q) r1
    have e : (A6 c).getD (q7i 14 c q) 0 = (q : Int) := r2
    rw [e] at this
    simp only [Int.toNat_natCast] at this
    rw [this, hg q hq]
    have hk' : (c.nodes.l.getD q Nd.d).k = 14 := hk
    simp only [Z6, hk']
  · intro q h1 h2
    rw [a4 q h2 fun hm => by have := (X4 (k := 14) (c := c) _ hm).2.1; omega]
    rw [s1, List.append_assoc, q9Q (by simpa using h1)]
    simp only [List.length_map]
    have h3 : q - c.nodes.l.length < ([He] ++ List.replicate ch.length He).length := by simp; unfold m0 at h2; omega
    have : ∀ x ∈ [He] ++ List.replicate ch.length He, x = He := fun x hx => by
      rcases List.mem_append.1 hx with hx | hx
      · simpa using hx
      · exact (List.mem_replicate.1 hx).2
    rw [List.getD_eq_getElem?_getD, List.getElem?_eq_getElem h3]
    exact this _ (List.getElem_mem h3)
  · intro k hk
    rw [← s4]
    exact a6 k hk
end Go.Lg
namespace Go.Lg
open Go Go.Proofs
variable {c : B9} {ch : List (Sl Int)}
theorem qII (h : q3H c ch) {n : Int} (hn : n ∈ A6 c) : ∃ v, Gt c n.toNat = [v] ∧ 0 ≤ v ∧ v < c.nodes.l.length ∧ in0 c n = v := by
  obtain ⟨n0, n1, nk⟩ := X4 (k := 14) (c := c) n hn
  have hg := qFM h.good (i := n.toNat) (by omega)
  have hk : (c.nodes.l.getD n.toNat Nd.d).k = 14 := nk
  have hf := hg.f
  rw [hk, show U4 14 = (1, 1) by rfl] at hf
  have hi : Gt c n.toNat = (c.nodes.l.getD n.toNat Nd.d).inn.l := rfl
  rw [← hi] at hf
  have hr := hg.inn
  rw [← hi] at hr
  match hl : Gt c n.toNat with
  | [] => rw [hl] at hf; simp at hf
  | [v] =>
    rw [hl] at hr
    have := hr v (by simp)
    exact ⟨v, rfl, this.1, this.2, by simp [in0, hl]⟩
  | _ :: _ :: _ => rw [hl] at hf; simp at hf; omega
theorem qGg (h : q3H c ch) {q : Nat} (hq : q < c.nodes.l.length) : ((scJ c ch).nodes.getD q Nd.d).k = B7 c q := by
  have hf := scF h
  by_cases hk : B7 c q = 14
  · rw [hf.dff q hq hk]; exact hk.symm
  · rw [hf.old q hq hk]; rfl
theorem qE0 : ∀ i, i < 100 → ∀ j, j < 100 → Le i = Le j → i = j := by decide +kernel
theorem qE1 {α : Type} {f : Nat → α} {n : Nat} (hf : ∀ i, i < n → ∀ j, j < n → f i = f j → i = j) : ((List.range' 0 n).map f).Nodup := by
  rw [List.nodup_iff_pairwise_ne, List.pairwise_map]
  refine (List.Pairwise.imp_of_mem ?_ (List.nodup_iff_pairwise_ne.1 (List.nodup_range' (s := 0) (n := n) (step := 1))))
  intro a b ha hb hab e
  simp at ha hb
  exact hab (hf a (by omega) b (by omega) e)
theorem qBH (h : q3H c ch) (hp : E5 c = 0) (cap : Option Nat) (nl : Option Bool) : qD2 c ⟨ch, cap, nl⟩ := by
  have hf := scF h
  have hn2 := h.n2
  have hc := hf.chl
  have hs := hf.stl
  have ho := h.outs
  have hle := q0G ch fun s hs => (h.ne s hs).1
  have hpl := h.perm.length_eq
  have hnd : (Gf ch).Nodup := h.perm.nodup_iff.2 (J0 [14] c.nodes.l 0).2
  have n1 : ((List.range' 0 c.nodes.l.length).map Le).Nodup := qE1 fun i hi j hj e => qE0 i (by omega) j (by omega) e
  have hnn : c.names.l.length = c.nodes.l.length := by rw [h.nms]; simp
  refine ⟨h.ok, h.cp, by rw [h.nms]; exact n1, ?_, by show ch.length ≤ _; omega, fun s hs => by have := hle.2 s hs; omega, by omega, by omega, by omega, ?_, ?_, ?_, ?_⟩
  · rw [h.nms]
    intro hm
    obtain ⟨i, _, e⟩ := List.mem_map.1 hm
    simp [Le, seN] at e
  · refine qBC ch 0 (U2 c) (c.names.l ++ [seN]) (by simp [U2]) ?_ (by omega) (by simp [U2]; omega) (by simp [U2]; omega) rfl rfl (by simp [U2]; omega) (by simpa [U2] using hnd) fun s hs => ⟨(h.ne s hs).1, (h.ne s hs).2, by have := hle.2 s hs; omega⟩
    intro j hj hm
    rw [h.nms] at hm
    rcases List.mem_append.1 hm with hm | hm
    · obtain ⟨i, _, e⟩ := List.mem_map.1 hm
      simp [Le, siN] at e
    · simp [siN, seN] at hm
  · refine qBD c c.nodes.l.length (Sv c ch).bef (A6 c) 0 ⟨(Sv c ch).nodes, (Sv c ch).names, []⟩ (Sv c ch).names (by simp) ?_ (by omega) ?_ ?_ rfl ?_
    · intro j hj hm
      rw [hf.snm, h.nms] at hm
      rcases List.mem_append.1 hm with hm | hm
      · rcases List.mem_append.1 hm with hm | hm
        · obtain ⟨i, _, e⟩ := List.mem_map.1 hm
          simp [Le, smN] at e
        · simp [smN, seN] at hm
      · obtain ⟨i, _, e⟩ := List.mem_map.1 hm
        simp [siN, smN] at e
    · show (Sv c ch).nodes.length ≤ _
      rw [hf.snl]; unfold m0; omega
    · show (Sv c ch).names.length ≤ _
      rw [hf.snm]; simp; omega
    · intro n hn
      have := X4 (k := 14) (c := c) n hn
      obtain ⟨v, hv, _⟩ := qII h hn
      refine ⟨this.1, this.2.1, ?_, by rw [hv]; simp⟩
      show n < (Sv c ch).nodes.length
      rw [hf.snl]; unfold m0; omega
  · intro he
    have he : ch = [] := he
    have : (Gf ch).length = 0 := by rw [he]; rfl
    exact List.eq_nil_of_length_eq_zero (by omega)
  · exact qCN hp (by show ch.length ≤ 64; omega) (fun s hs => (h.ne s hs).1) h.perm
theorem q5o (ks : List Int) : ∀ (a b : List Nd) (i : Nat), a.map (·.k) = b.map (·.k) → Ju ks a i = Ju ks b i
  | [], [], _, _ => rfl
  | [], _ :: _, _, h => by cases h
  | _ :: _, [], _, h => by cases h
  | x :: a, y :: b, i, h => by
    simp only [List.map_cons, List.cons.injEq] at h
    simp only [Ju, h.1, q5o ks a b (i + 1) h.2]
theorem q82 (ks : List Int) (x : Nd) (h : ks.contains x.k = false) : ∀ (m i : Nat), Ju ks (List.replicate m x) i = []
  | 0, _ => rfl
  | m + 1, i => by simp only [List.replicate_succ, Ju, h, q82 ks x h m (i + 1)]; rfl
theorem q83 (ks : List Int) (x : Nd) (h : ks.contains x.k = true) : ∀ (m i : Nat), Ju ks (List.replicate m x) i = Xk i m
  | 0, _ => rfl
  | m + 1, i => by simp only [List.replicate_succ, Ju, h, if_true, q4D, q83 ks x h m (i + 1)]
theorem q2x (l : List Nd) (j : Nat) : (l.map (·.k)).getD j 0 = (l.getD j Nd.d).k := by
  rw [List.getD_eq_getElem?_getD, List.getD_eq_getElem?_getD, List.getElem?_map]
  cases l[j]? <;> rfl
theorem q5p {a b : List Int} (hl : a.length = b.length) (h : ∀ j, j < a.length → a.getD j 0 = b.getD j 0) : a = b := by
  refine List.ext_getElem hl fun i h1 h2 => ?_
  have := h i h1
  rwa [Cc h1, Cc h2] at this
def q9T (c : B9) (ch : List (Sl Int)) : List Nd := c.nodes.l ++ (List.replicate (1 + ch.length) He ++ List.replicate (A6 c).length (q1X 0 0 0))
theorem qFP (h : q3H c ch) : (scC c ch).nodes.l.map (·.k) = (q9T c ch).map (·.k) := by
  have hf := scF h
  have hlen : (scC c ch).nodes.l.length = m0 c ch + (A6 c).length := hf.len
  have hll : (q9T c ch).length = m0 c ch + (A6 c).length := by simp [q9T, m0]; omega
  refine q5p (by simp [hlen, hll]) fun j hj => ?_
  rw [List.length_map, hlen] at hj
  rw [q2x, q2x]
  show ((scJ c ch).nodes.getD j Nd.d).k = _
  by_cases h1 : j < c.nodes.l.length
  · rw [qGg h h1]
    unfold q9T
    rw [List.getD_eq_getElem?_getD (l := c.nodes.l ++ _), List.getElem?_append_left h1, ← List.getD_eq_getElem?_getD]; rfl
  · unfold q9T
    rw [List.getD_eq_getElem?_getD (l := c.nodes.l ++ _), List.getElem?_append_right (by omega)]
    by_cases h2 : j < m0 c ch
    · rw [hf.inp j (by omega) h2, List.getElem?_append_left (by rw [List.length_replicate]; unfold m0 at h2; omega), List.getElem?_replicate, if_pos (by unfold m0 at h2; omega)]; rfl
    · obtain ⟨k, rfl⟩ : ∃ k, j = m0 c ch + k := ⟨j - m0 c ch, by omega⟩
      rw [hf.mx k (by omega), List.getElem?_append_right (by rw [List.length_replicate]; unfold m0 at h2 ⊢; omega), List.getElem?_replicate, if_pos (by rw [List.length_replicate]; unfold m0 at h2 hj ⊢; omega)]; rfl
theorem qE2 (h : q3H c ch) : Bi (scC c ch) = Bi c ++ Xk c.nodes.l.length (1 + ch.length) := by
  show Ju [0] (scC c ch).nodes.l 0 = _
  rw [q5o _ _ _ _ (qFP h), q9T, Vi, Vi, q83 [0] He rfl, q82 [0] (q1X 0 0 0) rfl, List.append_nil, Nat.zero_add]
  rfl
theorem qE3 (n m : Nat) : (Xk n m).length = m := by simp [Xk]
theorem qIJ (h : q3H c ch) : (scC c ch).nodes.l.length = c.nodes.l.length + 1 + ch.length + (A6 c).length := (scF h).len
theorem q84 (h : q3H c ch) {pin v : List Int} {e : Int} (h1 : pin.length = (Bi c).length) (hv : v.length = ch.length) : (pin ++ ([e] ++ v)).length = (Bi (scC c ch)).length := by
  rw [qE2 h, List.length_append, List.length_append, List.length_append, qE3, h1, hv]; simp
end Go.Lg
namespace Go.Lg
open Go Go.Proofs
variable {Γ : Tables}
def nd (c : B9) (n : Int) : Nd := c.nodes.l.getD n.toNat Nd.d
theorem qFQ {c : B9} {n : Int} (h0 : 0 ≤ n) (h : n < c.nodes.l.length) : (Az Bw c.nodes.l)[n.toNat]?.getD [] = Bw (nd c n) := by
  rw [D3 Nd.d (by omega)]; simp [nd, List.getD_eq_getElem?_getD]
theorem qIK {c : B9} {n : Int} (h0 : 0 ≤ n) (h : n < c.nodes.l.length) : nd c n ∈ c.nodes.l := by
  have hi : n.toNat < c.nodes.l.length := by omega
  have : nd c n = c.nodes.l[n.toNat] := by simp [nd, List.getD_eq_getElem?_getD, hi]
  rw [this]; exact List.getElem_mem hi
def q4E : AV := .t (.sl [] (some 0) (some true))
def qBI (c : B9) (n : Nat) (nets inb : List Int) : List (Nat × Bf) := [(4, .bx [q4E, q4E]), (9, .bx (Vs c 34 n (some n))), (34, .sl 68 1 (Av nets)), (39, .sl 68 1 (Av inb))]
def q85 (c : B9) (n : Nat) (x : Nd) (nets inb : List Int) : List (Nat × Bf) := [(4, .bx [q4E, q4E]), (9, .bx (Vs c 34 n (some n))), (13, .bx ((Bw x).map .t)), (34, .sl 68 1 (Av nets)), (39, .sl 68 1 (Av inb))]
theorem qBJ {Q : AX → St → Prop} (c : B9) (n : Nat) (hn : n ≤ 1000000000) (x : Nd) (hx : x.inn.l.length ≤ 1000000) (hin : ∀ k ∈ x.inn.l, 0 ≤ k ∧ k < n) (nets : List Int) (hl : nets.length = n) (nn : Int) (t40 t41 t42 : T) (R : List Int)
    (h0 : ∀ X : List Int, X.take x.inn.l.length = R → R.length = x.inn.l.length → Q (.exit 2) ⟨[(4, .lp 4 0 0), (9, .lp 9 0 0), (10, .ls 39 0 x.inn.l.length none), (12, .t (tI nn)), (13, .lp 13 0 0), (40, .t t40), (41, .t t41), (42, .t t42), (59, .t (As x.inn)), (60, .t (tI x.inn.l.length)), (61, .t (tI x.inn.l.length)), (62, .t (tB false))], q85 c n x nets X⟩) :
    ∀ (k i : Nat) (X : List Int), k + i = x.inn.l.length → i ≤ X.length → X.take i ++ (x.inn.l.drop i).map (fun k => nets.getD k.toNat 0) = R →
    run Tryz.prog Γ Yi Q ⟨[(4, .lp 4 0 0), (9, .lp 9 0 0), (10, .ls 39 0 i none), (12, .t (tI nn)), (13, .lp 13 0 0), (40, .t t40), (41, .t t41), (42, .t t42), (59, .t (As x.inn)), (60, .t (tI x.inn.l.length)), (61, .t (tI i))], q85 c n x nets X⟩
  | 0, i, X, h, hi, hR => by
    refine q0v fun K hK => ?_
    have h2 : i = x.inn.l.length := by omega
    subst h2
    rw [List.drop_length, List.map_nil, List.append_nil] at hR
    have := h0 X hR (by rw [← hR, List.length_take]; omega)
    simp [q85, Vs, Bw, q4E, Ab, Af, Am, As]
    simpa [q85, Vs, Bw, q4E, Ab, Af, Am, As] using this
  | k + 1, i, X, h, hi, hR => by
    refine q0v fun K hK => ?_
    have h2 : i < x.inn.l.length := by omega
    rw [List.drop_eq_getElem_cons h2, List.map_cons] at hR
    have e := ge1 (f := tI) h2
    have hq := hin _ (List.getElem_mem h2)
    rw [Cc h2] at e
    generalize x.inn.l[i] = q at *
    have hq2 : q.toNat < nets.length := by omega
    have e2 := ge1 (f := tK) hq2
    have hti : (X.take i).length = i := by rw [List.length_take]; omega
    generalize nets.getD q.toNat 0 = v at *
    have ih := qBJ c n hn x hx hin nets hl nn t40 t41 t42 R h0 k (i + 1) (X.take i ++ [v]) (by omega) (by simp [hti]) (by rw [List.take_of_length_le (by simp [hti]), ← hR]; simp)
    have vs : Av (X.take i) ++ [[tK v]] = Av (X.take i ++ [v]) := J1
    have vt : (Av X).take i = Av (X.take i) := q5O
    have hxl : (Av (X.take i)).length = i := by rw [A0]; exact hti
    simp (disch := omega) [q85, Vs, Bw, q4E, Ab, Af, Am, As, h2, A0, A9, e, e2, hq, hl, A5, vt, vs, hti, hxl]
    refine ⟨by omega, ?_⟩
    rw [hK]
    simpa [q85, Vs, Bw, q4E, Ab, Af, Am, As] using ih
structure ROk (c : B9) : Prop where
  ok : COk c
  inn : ∀ x ∈ c.nodes.l, x.inn.l.length ≤ 16 ∧ ∀ k ∈ x.inn.l, 0 ≤ k ∧ k < c.nodes.l.length
theorem qGh {c : B9} {nets : List Int} {n : Int} (h : ∀ v ∈ nets, V4 v) : ∀ v ∈ q4o c nets n, V4 v := by
  intro v hv
  unfold q4o at hv
  split at hv
  · rcases List.mem_or_eq_of_mem_set hv with hv | rfl
    · exact h v hv
    · refine qGR fun u hu => ?_
      obtain ⟨q, _, rfl⟩ := List.mem_map.1 hu
      exact q5X h _
  · exact h v hv
theorem qD6 {Q : AX → St → Prop} (hΓ : GOk Γ) (c : B9) (H : ROk c) (ord : List Int) (ho : ord.length ≤ 1000000000) (hin : ∀ n ∈ ord, 0 ≤ n ∧ n < c.nodes.l.length) (R : List Int)
    (h0 : ∀ (m : Nat) (inb : List Int), Q (.exit 0) ⟨[(4, .lp 4 0 0), (9, .lp 9 0 0), (10, .ls 39 0 m none), (40, .t (.sl (Ak ord) none none)), (41, .t (tI ord.length)), (42, .t (tI ord.length)), (43, .t (tB false))], qBI c c.nodes.l.length R inb⟩) :
    ∀ (k i : Nat) (nets : List Int) (m : Nat) (inb : List Int), k + i = ord.length → nets.length = c.nodes.l.length → (∀ v ∈ nets, V4 v) → qEy c (ord.drop i) nets = R →
    run Tryz.prog Γ Yj Q ⟨[(4, .lp 4 0 0), (9, .lp 9 0 0), (10, .ls 39 0 m none), (40, .t (.sl (Ak ord) none none)), (41, .t (tI ord.length)), (42, .t (tI i))], qBI c c.nodes.l.length nets inb⟩
  | 0, i, nets, m, inb, h, hl, hv, hR => by
    refine q0w fun K hK => ?_
    have h2 : i = ord.length := by omega
    subst h2
    rw [List.drop_length] at hR
    have hR' : nets = R := hR
    subst hR'
    have := h0 m inb
    simp [qBI, Vs, q4E, Ab, Af, Am, As]
    simpa [qBI, Vs, q4E, Ab, Af, Am, As] using this
  | k + 1, i, nets, m, inb, h, hl, hv, hR => by
    refine q0w fun K hK => ?_
    have h2 : i < ord.length := by omega
    rw [List.drop_eq_getElem_cons h2] at hR
    have hR : qEy c (ord.drop (i + 1)) (q4o c nets ord[i]) = R := hR
    have e := ge1 (f := tI) h2
    have hn := hin _ (List.getElem_mem h2)
    rw [Cc h2] at e
    generalize ord[i] = n at *
    have ih := fun m inb => qD6 hΓ c H ord ho hin R h0 k (i + 1) (q4o c nets n) m inb (by omega) (by rw [q95]; exact hl) (qGh hv) hR
    have hcn := H.ok.nodes
    have hget := qFQ hn.1 hn.2
    have hmem := qIK hn.1 hn.2
    have hk : (nd c n).k = B7 c n.toNat := rfl
    have hxi := H.inn _ hmem
    have hkk := H.ok.kind _ hmem
    have hinv : q2C c nets n.toNat = (nd c n).inn.l.map fun k => nets.getD k.toNat 0 := rfl
    have hlR : (q2C c nets n.toNat).length = (nd c n).inn.l.length := by rw [hinv]; simp
    have hvR : ∀ v ∈ q2C c nets n.toNat, V4 v := fun v hv' => by
      rw [hinv] at hv'
      obtain ⟨q, hq, rfl⟩ := List.mem_map.1 hv'
      exact q5X hv _
    have hev := fun cap nl => qDs hΓ (nd c n).k hkk (q2C c nets n.toNat) cap nl (by rw [hlR]; omega) hvR
    have hcb := q5Q (Γ := Γ) (nd c n).k
    have hst : q4o c nets n = if Fj (nd c n).k then nets.set n.toNat (q4k (nd c n).k (q2C c nets n.toNat)) else nets := by rw [hk]; rfl
    have hlp := fun Q h0 => qBJ (Γ := Γ) (Q := Q) c c.nodes.l.length hcn (nd c n) (by omega) hxi.2 nets hl n (.sl (Ak ord) none none) (tI ord.length) (tI i) (q2C c nets n.toNat) h0 (nd c n).inn.l.length 0 inb (by omega) (by omega) (by rw [hinv]; simp)
    have hcd : decide (1 ≤ (nd c n).k ∧ (nd c n).k ≤ 13) = Fj (nd c n).k := rfl
    rw [hcd] at hcb
    rw [hst] at ih
    generalize q2C c nets n.toNat = RV at *
    generalize nd c n = x at *
    obtain ⟨hn0, hn1⟩ := hn
    have hn2 : n.toNat < c.nodes.l.length := by omega
    have hn3 : n.toNat < nets.length := by omega
    simp (disch := omega) [qBI, Vs, q4E, Ab, Af, Am, As, h2, A0, A9, e, hn0, hn1, Ae, Ba, hget, Bw]
    refine A3 hcb rfl ?_
    by_cases hc : Fj x.k = true
    · rw [if_pos hc] at ih
      simp [hc, A0]
      simp only [q85, Vs, Bw, q4E, Ab, Af, Am, As, List.map_cons, List.map_nil] at hlp
      refine hlp _ fun X hX hXl => ?_
      have hXR : (Av X).take x.inn.l.length = Av RV := by rw [q5O, hX]
      simp (disch := omega)
      refine A3 (hev none none) (by simp [Aj, hXR]) ?_
      have hs : (Av nets).set n.toNat [tK (q4k x.k RV)] = Av (nets.set n.toNat (q4k x.k RV)) := F6
      generalize q4k x.k RV = v at *
      simp (disch := omega) [hn0, hn1, hn2, hn3, A0, hl, hs, A5]
      rw [hK]
      simpa [qBI, Vs, q4E, Ab, Af, Am, As] using ih _ X
    · rw [if_neg hc] at ih
      simp only [Bool.not_eq_true] at hc
      simp only [hc]
      simp (disch := omega) [A5]
      rw [hK]
      simpa [qBI, Vs, q4E, Ab, Af, Am, As] using ih m inb
def q2c (c : B9) (p : Pat) : Int := if Do c ≠ 0 then Do c else Qb c p
theorem qIL {c : B9} (hc : COk c) (h : Do c = 0) : ROk c := by
  have hs := (q2A h).1
  exact ⟨hc, fun x hx => ⟨(Ot hs).2.1 x hx, qAs hs x hx⟩⟩
theorem qA2 : ∀ {ns vs nets : List Int}, (∀ v ∈ vs, V4 v) → (∀ v ∈ nets, V4 v) → ∀ v ∈ Q5 ns vs nets, V4 v
  | [], vs, nets, _, h => by cases vs <;> exact h
  | _ :: _, [], nets, _, h => h
  | n :: ns, v :: vs, nets, hv, h => by
    simp only [Q5]
    refine qA2 (fun u hu => hv u (List.mem_cons_of_mem _ hu)) fun u hu => ?_
    rcases List.mem_or_eq_of_mem_set hu with hu | rfl
    · exact h u hu
    · exact hv _ List.mem_cons_self
def qA3 (c : B9) (p : Pat) : T := if q2c c p = 0 then .tup [.agg [M7 (q7r c (Ox c p.inn.l p.st.l)), M7 (Ly c (Ox c p.inn.l p.st.l))], .sl (Av (Ox c p.inn.l p.st.l)) (some c.nodes.l.length) none, tI 0] else .tup [.agg [.sl [] (some 0) (some true), .sl [] (some 0) (some true)], .sl [] (some 0) (some true), tI (q2c c p)]
theorem qFR (hΓ : GOk Γ) (c : B9) (hc : COk c) (hn : c.nodes.l.length ≤ 19) (p : Pat) (hp : p.inn.l.length ≤ 1000000000 ∧ p.st.l.length ≤ 1000000000) (hv : (∀ v ∈ p.inn.l, 0 ≤ v) ∧ ∀ v ∈ p.st.l, 0 ≤ v) :
    Ag Tryz.prog Γ 15 [.agg (tC c), .agg (tP p)] (qA3 c p) := by
  refine Ap q9x rfl ?_
  generalize hR : qA3 c p = RR
  unfold qA3 at hR
  simp [q6I, tC, Ab, Af, Am, As, tP, tV]
  refine A3 (qCH hΓ c hc hn) rfl ?_
  by_cases h1 : Do c = 0
  case neg =>
    have he : q2c c p = Do c := by unfold q2c; rw [if_pos h1]
    rw [he, if_neg h1] at hR
    subst hR
    simp [h1, Yk, Aj, Aq]
  have he : q2c c p = Qb c p := by unfold q2c; rw [if_neg (by simp [h1])]
  rw [he] at hR
  simp [h1]
  refine A3 (q9B c hc p hp) rfl ?_
  by_cases h2 : Qb c p = 0
  case neg =>
    rw [if_neg h2] at hR
    subst hR
    simp [h2, Yk, Aj, Aq]
  rw [if_pos h2] at hR
  obtain ⟨l1, l2, v1, v2⟩ : p.inn.l.length = (Bi c).length ∧ p.st.l.length = (A6 c).length ∧ (∀ v ∈ p.inn.l, V4 v) ∧ ∀ v ∈ p.st.l, V4 v := by
    unfold Qb at h2
    split at h2
    · cases h2
    split at h2
    · cases h2
    split at h2
    · cases h2
    rename_i a b d
    refine ⟨by omega, by omega, fun v hvm => ⟨hv.1 v hvm, ?_⟩, fun v hvm => ⟨hv.2 v hvm, ?_⟩⟩
    · have : ¬ p.inn.l.any Bj = true := fun h => d (.inl h)
      rw [List.any_eq_true] at this
      have h3 : ¬ Bj v = true := fun h => this ⟨v, hvm, h⟩
      simp [Bj] at h3; omega
    · have : ¬ p.st.l.any Bj = true := fun h => d (.inr h)
      rw [List.any_eq_true] at this
      have h3 : ¬ Bj v = true := fun h => this ⟨v, hvm, h⟩
      simp [Bj] at h3; omega
  have H := qIL hc h1
  have hzl : (List.replicate c.nodes.l.length (0 : Int)).length = c.nodes.l.length := by simp
  have hload := qIB (Γ := Γ) c hc p (some c.nodes.l.length) (List.replicate c.nodes.l.length 0) hzl l1 l2
  have hz : List.replicate c.nodes.l.length [T.v (Value.int .u8 0)] = Av (List.replicate c.nodes.l.length 0) := by simp [Ad]
  have hL : Q5 (A6 c) p.st.l (Q5 (Bi c) p.inn.l (List.replicate c.nodes.l.length 0)) = q7h c p.inn.l p.st.l := rfl
  rw [hL] at hload
  have hol : (Ua c).length = c.nodes.l.length := by rw [(q5a c).1.length_eq, Vl]
  have ho := fun Q h0 => qD6 (Γ := Γ) (Q := Q) hΓ c H (Ua c) (by omega) (fun n hn => by rw [(q5a c).1.mem_iff, q9u] at hn; exact hn) (Ox c p.inn.l p.st.l) h0 (Ua c).length 0 (q7h c p.inn.l p.st.l) 0 [] (by omega) q5b (qA2 v2 (qA2 v1 (fun v hv => by rw [(List.mem_replicate.1 hv).2]; simp [V4]))) rfl
  have hnl : (Ox c p.inn.l p.st.l).length = c.nodes.l.length := by unfold Ox; rw [qAt, q5b]
  have hll : (q7h c p.inn.l p.st.l).length = c.nodes.l.length := q5b
  have hobs := q9y (Γ := Γ) c hc ⟨Ox c p.inn.l p.st.l, some c.nodes.l.length, none⟩ (by simp only [hnl]; omega)
  have htk : (Av (Ox c p.inn.l p.st.l)).take c.nodes.l.length = Av (Ox c p.inn.l p.st.l) := by rw [← hnl]; exact J2
  simp only at hobs
  generalize Ox c p.inn.l p.st.l = NL at *
  generalize q7h c p.inn.l p.st.l = LL at *
  simp [h2, Ae]
  refine ⟨by omega, ?_⟩
  rw [hz]
  refine ⟨_, _, hload, ?_⟩
  simp [A0, hll, hol]
  simp only [hol] at ho
  refine ho _ fun m inb => ?_
  simp [qBI, Vs, q4E, Ab, Af, Am, As]
  refine A3 hobs (by simp [Aj, htk, q1W, Ab, Af, Am, As, tV]) ?_
  subst hR
  simp [Yk, Aj, htk, M7]
end Go.Lg
namespace Go.Lg
open Go
section
variable {P : Program} {Γ : Tables} {Q : AX → St → Prop} {s : St}
/- probecard/probecardlaw06.taken (function 51) -/
abbrev q2d : IC := .gh (.seq (.seq (.reg [om 9 8, om 10 1, od 11 (.bin .lss (tm 9) (tm 10))] [kp [0, 1, 2, 7, 8, 11] [19]]) (.cond (tm 11) .skip (.exit 0))) (.seq (.block 1 (.seq (.reg [om 14 0, od 15 (le 0 14), od 16 (.bin .eql (tm 15) (ki 0))] [kp
 [0, 1, 2, 7, 8, 16] [19]]) (.cond (tm 16) (.reg [om 17 7, od 18 (.bsl true 68 1 [(ku 2)]), od 19 (.app false 68 1 (tm 17) (tm 18)), om 7 19] [kp [0, 1, 2, 7, 8] [19]]) (.reg [om 20 7, om 21 0, om 22 8, om 23 0, od 24 (le 0 23), od
 25 (.bin .rem (tm 22) (tm 24)), od 26 (ia 1 21 25), od 27 (ld 1 26), om 28 2, od 29 (.bin .rem (tm 27) (tm 28)), od 30 (.bsl true 68 1 [(tm 29)]), oz 31 (.app false 68 1 (tm 20) (tm 30)) 19, om 7 31] [kp [0, 1, 2, 7, 8] [19]]))))
 (.reg [om 12 8, od 13 (.bin .add (tm 12) (ki 1)), om 8 13] [kp [0, 1, 2, 7, 8] [19]]))) [kp [0, 1, 2, 7, 8] [19]]
def Ql : IC := .loop q2d
abbrev q2e : IC := (.seq (.reg [od 6 (.mv kN)] [kp [0, 1, 2] []]) (.seq (.reg [od 7 (.mv kN)] [.nl 7 19 68 1, kp [0, 1, 2, 7] [19]]) (.seq (.seq (.reg [od 8 (.mv (ki 0))] [kp [0, 1, 2, 7, 8] [19]]) (.block 0 Ql)) (.seq (.reg [om 32 7, om
 6 32] [kp [6] [19]]) .ret))))
theorem Xl (h : ∀ K : St → Prop, K = run P Γ Ql Q → run P Γ q2d (Ar K Q) s) : run P Γ Ql Q s := Ah h
def q2f : List RV := [.tmp 6]
/- probecard/probecardlaw06.count (function 52) -/
abbrev q2g : IC := .gh (.seq (.seq (.reg [om 7 6, od 8 (fa 0 2), od 9 (ld 1 8), od 10 (le 0 9), od 11 (.bin .lss (tm 7) (tm 10))] [kp [1, 2, 5, 6, 11] []]) (.cond (tm 11) .skip (.exit 0))) (.seq (.block 1 (.seq (.reg [od 14 (fa 0 2), od 15 (ld 1 14),
 om 16 6, od 17 (ia 4 15 16), od 18 (fa 0 17), od 19 (ld 1 18), om 20 1, od 21 (.bin .eql (tm 19) (tm 20))] [kp [1, 2, 5, 6, 21] []]) (.cond (tm 21) (.reg [om 22 5, od 23 (.bin .add (tm 22) (ki 1)), om 5 23] [kp [1, 2, 5, 6] []])
 .skip))) (.reg [om 12 6, od 13 (.bin .add (tm 12) (ki 1)), om 6 13] [kp [1, 2, 5, 6] []]))) [kp [1, 2, 5, 6] []]
def Qm : IC := .loop q2g
abbrev q2h : IC := (.seq (.reg [od 2 (.box true (tm 0)), od 4 (.mv (ki 0))] [kp [1, 2] []]) (.seq (.reg [od 5 (.mv (ki 0))] [kp [1, 2, 5] []]) (.seq (.seq (.reg [od 6 (.mv (ki 0))] [kp [1, 2, 5, 6] []]) (.block 0 Qm)) (.seq (.reg [om 24
 5, om 4 24] [kp [4] []]) .ret))))
theorem Xm (h : ∀ K : St → Prop, K = run P Γ Qm Q → run P Γ q2g (Ar K Q) s) : run P Γ Qm Q s := Ah h
def q2i : List RV := [.tmp 4]
/- (probecard/probecardlaw06.P).Of (function 14) -/
end
end Go.Lg
namespace Go.Lg
open Go Go.Proofs
theorem q6h : Aw Tryz.prog 51 q2e 33 3 q2f = true := by kernel_rfl
theorem q6i : Aw Tryz.prog 52 q2h 25 2 q2i = true := by kernel_rfl
end Go.Lg
namespace Go.Lg
open Go Go.Proofs
variable {Γ : Tables}
theorem qFS {ks : List Int} {c : B9} {i : Nat} (hi : i < c.nodes.l.length) : Ju ks (c.nodes.l.take (i + 1)) 0 = Ju ks (c.nodes.l.take i) 0 ++ if ks.contains (B7 c i) then [(i : Int)] else [] := by
  have hk : B7 c i = c.nodes.l[i].k := by simp [B7, hi]
  rw [List.take_add_one, List.getElem?_eq_getElem hi, Vi, hk]
  have : (c.nodes.l.take i).length = i := by rw [List.length_take]; omega
  rw [this]
  simp [Ju]
theorem q86 {Q : AX → St → Prop} (c : B9) (hc : COk c) (k : Int)
    (h0 : Q (.exit 0) ⟨[(1, .t (tK k)), (2, .t (.ip (tC c) 0)), (5, .t (tI (Ju [k] c.nodes.l 0).length)), (6, .t (tI c.nodes.l.length)), (11, .t (tB false))], []⟩) : ∀ (f i : Nat), f + i = c.nodes.l.length →
    run Tryz.prog Γ Qm Q ⟨[(1, .t (tK k)), (2, .t (.ip (tC c) 0)), (5, .t (tI (Ju [k] (c.nodes.l.take i) 0).length)), (6, .t (tI i))], []⟩
  | 0, i, h => by
    refine Xm fun K hK => ?_
    have h2 : i = c.nodes.l.length := by omega
    subst h2
    rw [List.take_length]
    simp [tC, Ab, Af, Am, As, Ae]
    simpa [tC, Ab, Af, Am, As] using h0
  | f + 1, i, h => by
    refine Xm fun K hK => ?_
    have h2 : i < c.nodes.l.length := by omega
    have hn := hc.nodes
    have ih := q86 c hc k h0 f (i + 1) (by omega)
    rw [qFS h2] at ih
    have hget := qFQ (c := c) (n := (i : Int)) (by omega) (by omega)
    have hk : (nd c i).k = B7 c i := by simp [nd, B7]
    simp only [Int.toNat_natCast] at hget
    have hle := Vj [k] (c.nodes.l.take i) 0
    rw [List.length_take] at hle
    generalize nd c i = x at *
    by_cases h1 : x.k = k
    · have hkk : [k].contains (B7 c i) = true := by rw [← hk, h1]; simp
      rw [hkk, if_pos rfl, List.length_append] at ih
      simp (disch := omega) [tC, Ab, Af, Am, As, Ae, h2, Ba, hget, Bw, h1, A5]
      rw [hK]
      simpa [tC, Ab, Af, Am, As] using ih
    · have hkk : [k].contains (B7 c i) = false := by rw [← hk]; simp; exact h1
      rw [hkk, if_neg (by simp), List.append_nil] at ih
      simp (disch := omega) [tC, Ab, Af, Am, As, Ae, h2, Ba, hget, Bw, h1, A5]
      rw [hK]
      simpa [tC, Ab, Af, Am, As] using ih
theorem q87 (c : B9) (hc : COk c) (k : Int) : Aa Tryz.prog Γ 52 [.agg (tC c), tK k] (tI (Ju [k] c.nodes.l 0).length) := by
  refine Ac q6i rfl ?_
  have g := fun Q h0 => q86 (Γ := Γ) (Q := Q) c hc k h0 c.nodes.l.length 0 (by omega)
  simp [q2h, tC, Ab, Af, Am, As]
  refine g _ ?_
  simp [q2i, Aq]
def Qn (l : List Int) (n : Nat) (most : Int) : List Int := (List.range' 0 n).map fun i => if l = [] then 2 else (l.getD (i % l.length) 0).tmod most
theorem Xn {l : List Int} {n : Nat} {most : Int} : (Qn l n most).length = n := by simp [Qn]
theorem q4F {Q : AX → St → Prop} (l : Sl Int) (n : Nat) (hn : n ≤ 1000000000) (most : Int) (hm : 0 < most) (R : List Int)
    (h0 : Q (.exit 0) ⟨[(0, .t (tV l)), (1, .t (tI n)), (2, .t (tK most)), (7, .ls 19 0 n none), (8, .t (tI n)), (11, .t (tB false))], [(19, .sl 68 1 (Av R))]⟩) : ∀ (k i : Nat) (out : List Int), k + i = n → out.length = i → out ++ (List.range' i k).map (fun i => if l.l = [] then 2 else (l.l.getD (i % l.l.length) 0).tmod most) = R →
    run Tryz.prog Γ Ql Q ⟨[(0, .t (tV l)), (1, .t (tI n)), (2, .t (tK most)), (7, .ls 19 0 i none), (8, .t (tI i))], [(19, .sl 68 1 (Av out))]⟩
  | 0, i, out, h, hi, hR => by
    refine Xl fun K hK => ?_
    have h2 : i = n := by omega
    subst h2
    simp only [List.range'_zero, List.map_nil, List.append_nil] at hR
    subst hR
    simp
    exact h0
  | k + 1, i, out, h, hi, hR => by
    refine Xl fun K hK => ?_
    have h2 : i < n := by omega
    rw [List.range'_succ, List.map_cons] at hR
    have vt : (Av out).take i = Av out := by rw [← hi]; exact J2
    by_cases h1 : l.l = []
    · have ih := q4F l n hn most hm R h0 k (i + 1) (out ++ [2]) (by omega) (by simp [hi]) (by rw [← hR]; simp [h1])
      have vs := J1 (l := out) (v := 2)
      simp (disch := omega) [h2, tV, A0, h1, A5, vt, vs, hi]
      refine ⟨by omega, ?_⟩
      rw [hK]
      simpa [tV, h1] using ih
    · have hpos : 0 < l.l.length := List.length_pos_iff.2 h1
      have hlt : i % l.l.length < l.l.length := Nat.mod_lt _ hpos
      have hmod : (i : Int).tmod (l.l.length : Int) = ((i % l.l.length : Nat) : Int) := by rw [Int.natCast_emod]; exact Int.tmod_eq_emod_of_nonneg (by omega)
      rw [if_neg h1] at hR
      have e := ge1 (f := tK) hlt
      generalize hj : i % l.l.length = j at *
      generalize l.l.getD j 0 = v at *
      have ih := q4F l n hn most hm R h0 k (i + 1) (out ++ [v.tmod most]) (by omega) (by simp [hi]) (by rw [← hR]; simp)
      have vs := J1 (l := out) (v := v.tmod most)
      have hne : ¬ (l.l.length : Int) = 0 := by omega
      have hm0 : ¬ most = 0 := by omega
      simp (disch := omega) [h2, tV, A0, A9, h1, hne, hm0, hmod, hlt, e, A5, vt, vs, hi, -Int.natCast_emod]
      refine ⟨by omega, ?_⟩
      rw [hK]
      simpa [tV] using ih
theorem qCO (l : Sl Int) (n : Nat) (hn : n ≤ 1000000000) (most : Int) (hm : 0 < most) : Aa Tryz.prog Γ 51 [tV l, tI n, tK most] (.sl (Av (Qn l.l n most)) none none) := by
  refine Ac q6h rfl ?_
  have g := fun Q h0 => q4F (Γ := Γ) (Q := Q) l n hn most hm (Qn l.l n most) h0 n 0 [] (by omega) rfl (by simp [Qn])
  have ht : (Av (Qn l.l n most)).take n = Av (Qn l.l n most) := List.take_of_length_le (by rw [A0, Xn]; exact Nat.le_refl _)
  simp [q2e]
  refine g _ ?_
  simp [q2f, Aq, Aj, ht]
structure PD where
  i : Sl Int
  s : Sl Int
def tPD (q : PD) : List T := [tV q.i, tV q.s]
def q57 (q : PD) : Prop := (∀ v ∈ q.i.l, Qq v) ∧ ∀ v ∈ q.s.l, Qq v
def qJu (q : PD) (c : B9) : List Int := Qn q.i.l (Bi c).length 4
def qJv (q : PD) (c : B9) : List Int := Qn q.s.l (A6 c).length 3
def qJw (q : PD) (c : B9) : Pat := ⟨⟨qJu q c, none, none⟩, ⟨qJv q c, none, none⟩⟩
def v1 (v : Int) : Sl Int := ⟨[v], none, none⟩
structure NOk (c : B9) : Prop where
  ok : COk c
  lev : Do c = 0
  mm : c.mems.l = []
  m0 : mems c = []
  n1 : 1 ≤ c.nodes.l.length
  n2 : c.nodes.l.length ≤ 16
  k : ∀ i, i < c.nodes.l.length → 0 ≤ B7 c i ∧ B7 c i ≤ 14
theorem qFT {x : CD} (hx : q1V x) (hm : x.mem = false) : NOk (K6 x) := by
  have hl := q0X hx
  have h5 := q45 hx
  have hN : (K6 x).nodes.l = Bt x := rfl
  have hp := q5l hx hm
  have hv := q9K hx
  have h1 : (K6 x).mems.l = [] := by simp [K6, q8R, hm]
  have h2 : mems (K6 x) = [] := by
    unfold E5 at hp
    rw [if_neg (by simp [hv])] at hp
    split at hp
    · cases hp
    · rename_i h; exact List.eq_nil_of_length_eq_zero (by omega)
  refine ⟨q9q hx, hv, h1, h2, by rw [hN]; omega, by rw [hN]; omega, fun i hi => ?_⟩
  have hs := (q2A hv).1
  have hn := (Ot hs).2.2.1 _ (List.getElem_mem hi)
  have hk : B7 (K6 x) i = (K6 x).nodes.l[i].k := by simp [B7, hi]
  have hkk := (q9q hx).kind _ (List.getElem_mem hi)
  have h15 : ¬ B7 (K6 x) i = 15 := fun e => by
    have : (i : Int) ∈ mems (K6 x) := (q9v hi).2 e
    rw [h2] at this; cases this
  have hle : ¬ 15 < (K6 x).nodes.l[i].k := fun h => by
    unfold Dn at hn
    rw [if_pos h] at hn; cases hn
  rw [hk] at h15 ⊢
  omega
theorem qD7 {l : List Int} {n : Nat} {most : Int} (hl : ∀ v ∈ l, 0 ≤ v) (hm : 0 < most ∧ most ≤ 4) : ∀ v ∈ Qn l n most, V4 v := by
  intro v hv
  obtain ⟨i, _, rfl⟩ := List.mem_map.1 hv
  split
  · simp [V4]
  · rename_i h
    have hpos : 0 < l.length := List.length_pos_iff.2 h
    have h0 : 0 ≤ l.getD (i % l.length) 0 := by
      rw [Cc (Nat.mod_lt _ hpos)]; exact hl _ (List.getElem_mem _)
    generalize l.getD (i % l.length) 0 = u at *
    rw [Int.tmod_eq_emod_of_nonneg h0]
    have := Int.emod_nonneg u (show most ≠ 0 by omega)
    have := Int.emod_lt_of_pos u hm.1
    unfold V4; omega
structure POk (c : B9) (p : Pat) : Prop where
  i : p.inn.l.length = (Bi c).length
  s : p.st.l.length = (A6 c).length
  vi : ∀ v ∈ p.inn.l, V4 v
  vs : ∀ v ∈ p.st.l, V4 v
theorem qFU {q : PD} (hq : q57 q) (c : B9) : POk c (qJw q c) :=
  ⟨Xn, Xn, qD7 (fun v hv => (hq.1 v hv).1) (by omega), qD7 (fun v hv => (hq.2 v hv).1) (by omega)⟩
theorem qE4 {c : B9} (hc : NOk c) {p : Pat} (hp : POk c p) : q2c c p = 0 := by
  unfold q2c
  rw [if_neg (by simp [hc.lev])]
  unfold Qb
  have a1 : ∀ {l : List Int}, (∀ v ∈ l, V4 v) → l.any Bj = false := fun h => List.any_eq_false.2 fun v hv => by have := (h v hv).2; simp [Bj]; omega
  rw [if_neg (by rw [hc.mm, hc.m0]; simp), if_neg (by simp [hp.i, hp.s]), a1 hp.vi, a1 hp.vs]
  simp
theorem qIM (hΓ : GOk Γ) {c : B9} (hc : NOk c) {p : Pat} (hp : POk c p) :
    Ag Tryz.prog Γ 15 [.agg (tC c), .agg (tP p)] (.tup [.agg [M7 (q7r c (Ox c p.inn.l p.st.l)), M7 (Ly c (Ox c p.inn.l p.st.l))], .sl (Av (Ox c p.inn.l p.st.l)) (some c.nodes.l.length) none, tI 0]) := by
  have hcn := hc.n2
  have h := qFR hΓ c hc.ok (by omega) p ⟨by rw [hp.i]; have := Kp c; omega, by rw [hp.s]; have := Ht c; omega⟩ ⟨fun v hv => (hp.vi v hv).1, fun v hv => (hp.vs v hv).1⟩
  unfold qA3 at h
  rwa [if_pos (qE4 hc hp)] at h
end Go.Lg
namespace Go.Lg
open Go Go.Proofs
variable {c : B9} {ch : List (Sl Int)}
def slD : Sl Int := ⟨[], none, none⟩
theorem q9U {v : Int} : Bn (Bn v) = Bn v := by unfold Bn; split <;> (try split) <;> omega
end Go.Lg
namespace Go.Lg
open Go Go.Proofs
theorem q4G {x : CD} {first : Nat} : ∀ {k i : Nat} {ns : List Nd} {q : Nat}, ((Ux x first k i ns).getD q Nd.d).k = (ns.getD q Nd.d).k
  | 0, _, _, _ => rfl
  | k + 1, i, ns, q => by
    simp only [Ux]
    rw [q4G, q7z]
theorem qIN {x : CD} (hx : q1V x) : 0 < (Bi (K6 x)).length := by
  have m4 : 0 ≤ x.i.tmod 4 ∧ x.i.tmod 4 < 4 := Bm (n := 4) hx.i.1 (by omega)
  have l1 : 1 ≤ (Dq x).length := by simp [Dq]; omega
  have l2 : (Dq x).length ≤ (C7 x).length := by simp [C7]
  have l3 : (C7 x).length ≤ (C5 x).length := by unfold C5; split <;> simp
  have l4 : (C5 x).length ≤ (Bt x).length := by
    have : (Bt x).length = (Be x).length := Ov
    rw [this]; unfold Be; rw [Nx]; omega
  have e1 : (Dq x).getD 0 Nd.d = He := by
    unfold Dq at l1 ⊢
    rw [List.getD_eq_getElem?_getD, List.getElem?_replicate, if_pos (by simp at l1; omega)]; rfl
  have e2 : (C7 x).getD 0 Nd.d = He := by
    unfold C7
    rw [List.getD_eq_getElem?_getD, List.getElem?_append_left (by omega), ← List.getD_eq_getElem?_getD, e1]
  have e3 : (C5 x).getD 0 Nd.d = He := by
    unfold C5
    split
    · rw [List.getD_eq_getElem?_getD, List.getElem?_append_left (by omega), ← List.getD_eq_getElem?_getD, e2]
    · exact e2
  have hk : B7 (K6 x) 0 = 0 := by
    have hN : (K6 x).nodes.l = Bt x := rfl
    unfold B7
    rw [hN]
    unfold Bt Be
    rw [q4G, q2b (by omega), e3]
    rfl
  have := (q9v (c := K6 x) (k := 0) (i := 0) (by have hN : (K6 x).nodes.l = Bt x := rfl; rw [hN]; omega)).2 hk
  exact List.length_pos_iff.2 fun e => by
    have e' : Ju [0] (K6 x).nodes.l 0 = [] := e
    rw [e'] at this; cases this
theorem qIO {bus : Bool} {g : Gd} {ns : List Nd} (hg : q7b g) : (Yd bus g ns).k ≠ 14 := by
  have hk : 0 ≤ g.k := hg.1.1
  have t2 : 0 ≤ g.a.tmod 2 ∧ g.a.tmod 2 < 2 := Bm (n := 2) hg.2.1.1 (by omega)
  have t9 : 0 ≤ g.k.tmod 9 ∧ g.k.tmod 9 < 9 := Bm (n := 9) hk (by omega)
  have t13 : 0 ≤ g.k.tmod 13 ∧ g.k.tmod 13 < 13 := Bm (n := 13) hk (by omega)
  unfold Yd q7c
  obtain ⟨kk, hkk⟩ : ∃ kk, kk = (if bus = true then g.k.tmod 13 else g.k.tmod 9) := ⟨_, rfl⟩
  have hb : 0 ≤ kk ∧ kk < 13 := by rw [hkk]; split <;> omega
  rw [← hkk]
  by_cases h1 : kk < 6
  · simp only [h1, if_true]
    omega
  · simp only [h1, if_false]
    split
    · simp <;> omega
    split
    · simp <;> omega
    split
    · simp <;> omega
    split
    · by_cases h2 : 1 < (q39 ns).length
      · simp only [h2, if_true]; simp <;> omega
      · simp only [h2, if_false]; simp <;> omega
    split
    · simp <;> omega
    · simp <;> omega
theorem qBK {bus : Bool} : ∀ {l : List Gd} {ns : List Nd}, (∀ g ∈ l, q7b g) → Ju [14] (K5 bus l ns) 0 = Ju [14] ns 0
  | [], ns, _ => rfl
  | g :: l, ns, h => by
    simp only [K5]
    have hk : (Yd bus g ns).k ≠ 14 := qIO (h g List.mem_cons_self)
    rw [qBK fun x hx => h x (List.mem_cons_of_mem _ hx), Vi]
    simp [Ju, hk]
theorem qCP {x : CD} {first k i : Nat} {ns : List Nd} : (Ux x first k i ns).map (·.k) = ns.map (·.k) := by
  refine q5p (by rw [List.length_map, List.length_map, Ov]) fun j hj => ?_
  rw [q2x, q2x, q4G]
theorem qE5 {x : CD} (hx : q1V x) (hm : x.mem = false) : (K6 x).nodes.l.length ≤ 14 ∧ (A6 (K6 x)).length ≤ 2 := by
  have m4 : 0 ≤ x.i.tmod 4 ∧ x.i.tmod 4 < 4 := Bm (n := 4) hx.i.1 (by omega)
  have m3 : 0 ≤ x.f.tmod 3 ∧ x.f.tmod 3 < 3 := Bm (n := 3) hx.f.1 (by omega)
  have l2 : (C7 x).length = (x.i.tmod 4 + 1).toNat + (x.f.tmod 3).toNat := by simp [C7, Dq]
  have l3 : C5 x = C7 x := by unfold C5; rw [hm]; rfl
  have l4 : (Be x).length = (C5 x).length + min 8 x.gates.l.length := by unfold Be; rw [Nx]; simp
  have l5 : (Bt x).length = (Be x).length := Ov
  refine ⟨?_, ?_⟩
  · show (Bt x).length ≤ 14
    rw [l5, l4, l3, l2]; omega
  · have e : A6 (K6 x) = Ju [14] (C7 x) 0 := by
      show Ju [14] (Bt x) 0 = _
      rw [q5o [14] (Bt x) (Be x) 0 qCP]
      unfold Be
      rw [qBK (fun g hg => hx.gates g (List.mem_of_mem_take hg)), l3]
    rw [e]
    unfold C7
    rw [Vi]
    have e1 : Ju [14] (Dq x) 0 = [] := by unfold Dq; exact q82 [14] _ rfl _ _
    rw [e1, q83 [14] (q4j 0) rfl]
    simp [Xk]; omega
theorem qCQ {y : q1L} (hy : q0g y) : (scC (Hw y) (q0h y)).nodes.l.length ≤ 19 := by
  have hs := qE5 (q0H hy.x) rfl
  have h := q5n hy
  have hl := qIJ h
  have hle := q0G (q0h y) fun s hs => (h.ne s hs).1
  have hpl := h.perm.length_eq
  have e : Hw y = K6 (Ij y.x) := rfl
  rw [← e] at hs
  omega
end Go.Lg
namespace Go.Lg
open Go Go.Proofs
variable {Γ : Tables}
theorem gE' {α : Type} {f : α → T} {l : List α} {i : Nat} (d : α) (h0 : i < l.length) : ∀ h : i < (Ad f l).length, (Ad f l)[i] = [f (l.getD i d)] := fun h => by
  have := B1 (f := f) d h0
  rw [List.getElem?_eq_getElem h] at this
  simpa [List.getD_eq_getElem?_getD] using this
theorem gE {α : Type} {f : α → T} {l : List α} {i : Nat} (d : α) (h0 : i < l.length) : (Ad f l)[i]?.getD [] = [f (l.getD i d)] := by
  rw [List.getElem?_eq_getElem (by rw [A0]; exact h0)]
  exact gE' d h0 _
def q88 (l : List Int) (n : Nat) (most : Int) : Sl Int := if n = 0 then ⟨[], some 0, some true⟩ else ⟨Qn l n most, none, none⟩
theorem qFV {l : List Int} {n : Nat} {most : Int} : (q88 l n most).l = Qn l n most := by
  unfold q88
  split
  · rename_i h; subst h; rfl
  · rfl
theorem qD8 {l : List Int} {n : Nat} {most : Int} (hn : n ≤ 1000000) : q2T (q88 l n most) := by
  unfold q88
  split
  · exact ⟨fun _ => rfl, (fun h => nomatch h), Nat.zero_le _⟩
  · rename_i h
    refine ⟨(fun h => nomatch h), fun _ e => h (by have := congrArg List.length (show Qn l n most = [] from e); rwa [Xn] at this), by show (Qn l n most).length ≤ _; rw [Xn]; exact hn⟩
theorem q9V (l : Sl Int) (n : Nat) (hn : n ≤ 1000000000) (most : Int) (hm : 0 < most) : Aa Tryz.prog Γ 51 [tV l, tI n, tK most] (tV (q88 l.l n most)) := by
  by_cases h : n = 0
  · subst h
    refine Ac q5k rfl ?_
    simp [q1G]
    refine q3F fun K hK => ?_
    simp [q1H, q88, tV, C9]
  · have := qCO (Γ := Γ) l n hn most hm
    simpa [q88, h, tV] using this
def Z7 (q : PD) (c : B9) : Pat := ⟨q88 q.i.l (Bi c).length 4, q88 q.s.l (A6 c).length 3⟩
theorem qFW {q : PD} {c : B9} : (Z7 q c).inn.l = qJu q c := qFV
theorem qFX {q : PD} {c : B9} : (Z7 q c).st.l = qJv q c := qFV
theorem qA4 {q : PD} (hq : q57 q) (c : B9) : POk c (Z7 q c) := by
  have h := qFU hq c
  exact ⟨by rw [qFW]; exact h.i, by rw [qFX]; exact h.s, by rw [qFW]; exact h.vi, by rw [qFX]; exact h.vs⟩
theorem q4H (q : PD) (hq : q57 q) (c : B9) (hc : COk c) : Ag Tryz.prog Γ 14 [.agg (tPD q), .agg (tC c)] (.agg (tP (Z7 q c))) := by
  refine Ap q6f rfl ?_
  have h1 := q9V (Γ := Γ) q.i (Bi c).length (Nat.le_trans (Kp c) hc.nodes) 4 (by omega)
  have h2 := q9V (Γ := Γ) q.s (A6 c).length (Nat.le_trans (Ht c) hc.nodes) 3 (by omega)
  simp only [Z7, tP]
  generalize q88 q.i.l (Bi c).length 4 = A at *
  generalize q88 q.s.l (A6 c).length 3 = B at *
  simp [q2Y, tC, Ab, Af, Am, As, tPD, tV]
  refine A3 (q87 c hc 0) rfl ?_
  simp
  refine A3 h1 rfl ?_
  simp
  refine A3 (q87 c hc 14) rfl ?_
  simp
  refine A3 h2 rfl ?_
  simp [q2Z, tV]
def mpE {α : Type} (f : α → T) (l : List (Int × α)) : List (Value × T) := l.map fun p => (.int .i64 p.1, f p.2)
def q5q {α : Type} (d : α) (n : Int) : List (Int × α) → α
  | [] => d
  | p :: l => if n = p.1 then p.2 else q5q d n l
theorem q0i {α : Type} {f : α → T} (l : List (Int × α)) : Hz (.int .i64) (mpE f l) := by
  intro e he; obtain ⟨s, _, rfl⟩ := List.mem_map.1 he; rfl
theorem q0I {α : Type} {f : α → T} (d : α) (n : Int) : ∀ l : List (Int × α), (E0 (.int .i64 n) (mpE f l)).getD (f d) = f (q5q d n l)
  | [] => rfl
  | p :: l => by
    have ih := q0I (f := f) d n l
    simp only [mpE, List.map_cons, E0, Qu, q5q] at ih ⊢
    by_cases h : n = p.1
    · simp [h]
    · simp [h, ih]
theorem q6t {α : Type} {f : α → T} (n : Int) (a : α) : ∀ l : List (Int × α), n ∉ l.map (·.1) → q0J (.int .i64 n) (f a) (mpE f l) = mpE f (l ++ [(n, a)])
  | [], _ => rfl
  | p :: l, h => by
    simp only [List.map_cons, List.mem_cons, not_or] at h
    have ih := q6t (f := f) n a l h.2
    simp only [mpE, List.map_cons, q0J, Qu, List.cons_append] at ih ⊢
    simp [h.1, ih]
def Ez (l : List (Sl Int)) : Nat := l.foldl (fun n s => max n s.l.length) 0
theorem qBL {Q : AX → St → Prop} (chs : Sl (Sl Int)) (hl : chs.l.length ≤ 1000000) (hs : ∀ s ∈ chs.l, s.l.length ≤ 1000000) (R : Nat)
    (h0 : Q (.exit 0) ⟨[(3, .t (tI R)), (6, .t (.sl (Ad As chs.l) chs.cap chs.nl)), (7, .t (tI chs.l.length)), (8, .t (tI chs.l.length)), (9, .t (tB false))], []⟩) :
    ∀ (k i n : Nat), k + i = chs.l.length → (chs.l.drop i).foldl (fun n s => max n s.l.length) n = R →
    run Tryz.prog Γ Nh Q ⟨[(3, .t (tI n)), (6, .t (.sl (Ad As chs.l) chs.cap chs.nl)), (7, .t (tI chs.l.length)), (8, .t (tI i))], []⟩
  | 0, i, n, h, hR => by
    refine V6 fun K hK => ?_
    rw [List.drop_of_length_le (by omega)] at hR
    have h2 : i = chs.l.length := by omega
    subst h2
    have hR : n = R := hR
    subst hR
    simp
    simpa using h0
  | k + 1, i, n, h, hR => by
    refine V6 fun K hK => ?_
    have h2 : i < chs.l.length := by omega
    rw [List.drop_eq_getElem_cons h2, List.foldl_cons] at hR
    have e := gE (f := As) ⟨[], none, none⟩ h2
    have e' := gE' (f := As) ⟨[], none, none⟩ h2
    rw [show chs.l.getD i ⟨[], none, none⟩ = chs.l[i] by simp [List.getD_eq_getElem?_getD, h2]] at e e'
    have ih := qBL chs hl hs R h0 k (i + 1) _ (by omega) hR
    generalize chs.l[i] = s at *
    simp only [As] at e e'
    have w1 : IntKind.i64.wrap ((i : Int) + 1) = (i : Int) + 1 := by rw [A5] <;> omega
    have hm3 : (if n < s.l.length then (s.l.length : Int) else n) = ((max n s.l.length : Nat) : Int) := by split <;> omega
    have hm : (if (s.l.length : Int) > n then (s.l.length : Int) else n) = ((max n s.l.length : Nat) : Int) := by split <;> omega
    have hm2 : (if (n : Int) < s.l.length then (s.l.length : Int) else n) = ((max n s.l.length : Nat) : Int) := by split <;> omega
    simp [h2, A0, A9, e, e', w1, hm, hm2, hm3]
    rw [hK]
    simpa using ih
theorem q0j (chs : Sl (Sl Int)) (hl : chs.l.length ≤ 1000000) (hs : ∀ s ∈ chs.l, s.l.length ≤ 1000000) : Aa Tryz.prog Γ 39 [Bc chs] (tI (Ez chs.l)) := by
  refine Ac q5h rfl ?_
  have g := fun Q h0 => qBL (Γ := Γ) (Q := Q) chs hl hs (Ez chs.l) h0 chs.l.length 0 0 (by omega) (by simp [Ez])
  simp [q17, Bc, A0]
  refine g _ ?_
  simp [q18]
def L6 (l : List Int) (n : Nat) : Int := if l.length ≠ n then 8 else if l.any Bj = true then 1 else 0
theorem qCR (v : Int) : Aa Tryz.prog Γ 144 [tK v] (tB (Bj v)) := by
  refine Ac q3E rfl ?_
  simp [Xf, Xg, Bj]
theorem q2j (s : Sl Int) (hs : s.l.length ≤ 1000000000) (n : Nat) : Aa Tryz.prog Γ 101 [tV s, tI n] (tI (L6 s.l n)) := by
  refine Ac q53 rfl ?_
  have e := Dm (Γ := Γ) s.l s.cap s.nl 144 [] Bj (fun x _ => qCR x) hs
  unfold L6
  by_cases h : s.l.length = n
  · subst h
    simp [S5, tV, A0]
    refine A3 e rfl ?_
    cases h3 : s.l.any Bj
    · simp [h3, L0]
    · simp [h3, L0]
  · have h' : ¬ (s.l.length : Int) = n := by omega
    simp [S5, tV, A0, h, h', L0]
def ofZ (st pst : List Int) : List (Int × Int) := st.zip (pst.map Bn)
theorem qD9 {st pst : List Int} (h : pst.length = st.length) : (ofZ st pst).length = st.length := by simp [ofZ, h]
theorem qGi {st pst : List Int} (h : pst.length = st.length) {i : Nat} (hi : i < st.length) : (ofZ st pst)[i]'(by rw [qD9 h]; exact hi) = (st.getD i 0, Bn (pst.getD i 0)) := by
  simp [ofZ, List.getD_eq_getElem?_getD, hi, h]
theorem qFY {st pst : List Int} (h : pst.length = st.length) {i : Nat} (hi : i < st.length) : (ofZ st pst).take (i + 1) = (ofZ st pst).take i ++ [(st.getD i 0, Bn (pst.getD i 0))] := by
  rw [← qGi h hi, List.take_append_getElem]
theorem qGj {st pst : List Int} (hd : st.Nodup) {i : Nat} (hi : i < st.length) : st.getD i 0 ∉ ((ofZ st pst).take i).map (·.1) := by
  intro hm
  obtain ⟨p, hp, e⟩ := List.mem_map.1 hm
  obtain ⟨j, hj, rfl⟩ := List.getElem_of_mem hp
  simp only [List.length_take, List.getElem_take, ofZ, List.getElem_zip] at hj e
  rw [Cc hi] at e
  have := (List.getElem_inj hd).1 e
  omega
theorem qHE {Q : AX → St → Prop} (chT : T) (st : List Int) (sc : Option Nat) (sn : Option Bool) (hd : st.Nodup) (hst : st.length ≤ 1000000) (ps : Sl Int) (hps : ps.l.length = st.length)
    (h0 : Q (.exit 0) ⟨[(1, .t chT), (2, .t (tV ps)), (7, .lm 17), (19, .t (.sl (Ak st) sc sn)), (20, .t (tI st.length)), (21, .t (tI st.length)), (22, .t (tB false))], [(17, .mp (mpE tK (ofZ st ps.l)))]⟩) :
    ∀ (k i : Nat), k + i = st.length →
    run Tryz.prog Γ Ni Q ⟨[(1, .t chT), (2, .t (tV ps)), (7, .lm 17), (19, .t (.sl (Ak st) sc sn)), (20, .t (tI st.length)), (21, .t (tI i))], [(17, .mp (mpE tK ((ofZ st ps.l).take i)))]⟩
  | 0, i, h => by
    refine V7 fun K hK => ?_
    have h2 : i = st.length := by omega
    subst h2
    rw [List.take_of_length_le (by rw [qD9 hps]; exact Nat.le_refl _)]
    simp
    simpa using h0
  | k + 1, i, h => by
    refine V7 fun K hK => ?_
    have h2 : i < st.length := by omega
    have h3 : i < ps.l.length := by omega
    have ih := qHE chT st sc sn hd hst ps hps h0 k (i + 1) (by omega)
    rw [qFY hps h2] at ih
    have hn := qGj (pst := ps.l) hd h2
    have e1 := gE (f := tI) 0 h2
    have e1' := gE' (f := tI) 0 h2
    have e2 := gE (f := tK) 0 h3
    have e2' := gE' (f := tK) 0 h3
    have w1 : IntKind.i64.wrap ((i : Int) + 1) = (i : Int) + 1 := by rw [A5] <;> omega
    generalize (ofZ st ps.l).take i = Z at *
    generalize st.getD i 0 = x at *
    generalize ps.l.getD i 0 = y at *
    have em := q6t (f := tK) x (Bn y) Z hn
    have ef := q0i (f := tK) Z
    generalize mpE tK Z = M at *
    simp [tV] at ih
    simp [tV, A0, A9, h2, h3, e1, e1', e2, e2', w1]
    refine A3 (Hg y) rfl ?_
    simp [em, ef, KT.fits, w1]
    rw [hK]
    simpa using ih
def Qo (Z : List (Int × Int)) (p : Int) (s : Sl Int) : Int := if p < s.l.length then q5q 0 (s.l.getD p.toNat 0) Z else 0
def q4I (f : Sl Int → Int) (l : List (Sl Int)) (k : Nat) : List Int := (l.take k).map f ++ List.replicate (l.length - k) 0
theorem qFZ {f : Sl Int → Int} {l : List (Sl Int)} {k : Nat} (hk : k ≤ l.length) : (q4I f l k).length = l.length := by simp [q4I]; omega
theorem qFa {f : Sl Int → Int} {l : List (Sl Int)} {k : Nat} (hk : k < l.length) : (q4I f l k).set k (f l[k]) = q4I f l (k + 1) := by
  unfold q4I
  rw [List.set_append_right _ _ (by simp; omega)]
  rw [show k - ((l.take k).map f).length = 0 by simp; omega, show l.length - k = (l.length - (k + 1)) + 1 by omega, List.replicate_succ, List.set_cons_zero, ← List.take_append_getElem hk, List.map_append]
  simp
theorem qE6 {f : Sl Int → Int} {l : List (Sl Int)} {k : Nat} (hk : k < l.length) (h : f l[k] = 0) : q4I f l (k + 1) = q4I f l k := by
  unfold q4I
  rw [show l.length - k = (l.length - (k + 1)) + 1 by omega, List.replicate_succ, ← List.take_append_getElem hk, List.map_append]
  simp [h]
theorem qFb {f : Sl Int → Int} {l : List (Sl Int)} : q4I f l l.length = l.map f := by simp [q4I]
theorem qE7 {f : Sl Int → Int} {l : List (Sl Int)} : q4I f l 0 = List.replicate l.length 0 := by simp [q4I]
theorem qHF {Q : AX → St → Prop} (ch : List (Sl Int)) (cc : Option Nat) (cn : Option Bool) (hch : ch.length ≤ 1000000) (hs : ∀ s ∈ ch, s.l.length ≤ 1000000) (Z : List (Int × Int)) (d t : Nat) (htd : t < d) (hd : d ≤ 1000000) (es : List (List T)) (p : Int) (hp : p = d - 1 - t)
    (h0 : Q (.exit 4) ⟨[(1, .t (.sl (Ad As ch) cc cn)), (7, .lm 17), (10, .t (tI d)), (11, .ls 71 0 t none), (12, .t (tI t)), (13, .ls 42 0 ch.length none), (36, .t (tI d)), (37, .t (tI t)), (43, .t (.sl (Ad As ch) cc cn)), (44, .t (tI ch.length)), (45, .t (tI ch.length)), (46, .t (tB false))],
      [(17, .mp (mpE tK Z)), (42, .sl 68 1 (Av (ch.map (Qo Z p)))), (71, .sl 37 1 es)]⟩) :
    ∀ (n k : Nat), n + k = ch.length →
    run Tryz.prog Γ Nj Q ⟨[(1, .t (.sl (Ad As ch) cc cn)), (7, .lm 17), (10, .t (tI d)), (11, .ls 71 0 t none), (12, .t (tI t)), (13, .ls 42 0 ch.length none), (36, .t (tI d)), (37, .t (tI t)), (43, .t (.sl (Ad As ch) cc cn)), (44, .t (tI ch.length)), (45, .t (tI k))],
      [(17, .mp (mpE tK Z)), (42, .sl 68 1 (Av (q4I (Qo Z p) ch k))), (71, .sl 37 1 es)]⟩
  | 0, k, h => by
    refine V8 fun K hK => ?_
    have h2 : k = ch.length := by omega
    subst h2
    rw [qFb]
    simp
    simpa using h0
  | n + 1, k, h => by
    refine V8 fun K hK => ?_
    have h2 : k < ch.length := by omega
    have ih := qHF ch cc cn hch hs Z d t htd hd es p hp h0 n (k + 1) (by omega)
    have e1 := gE (f := As) slD h2
    have e1' := gE' (f := As) slD h2
    have hx : ch.getD k slD = ch[k] := by simp [List.getD_eq_getElem?_getD, h2]
    rw [hx] at e1 e1'
    have hsl := hs _ (List.getElem_mem h2)
    have q1 := qFa (f := Qo Z p) h2
    have q2 := qE6 (f := Qo Z p) h2
    have hrl := qFZ (f := Qo Z p) (Nat.le_of_lt h2)
    have w1 : IntKind.i64.wrap ((k : Int) + 1) = (k : Int) + 1 := by rw [A5] <;> omega
    have w2 : IntKind.i64.wrap ((d : Int) - 1) = (d : Int) - 1 := by rw [A5] <;> omega
    have w3 : IntKind.i64.wrap ((d : Int) - 1 - t) = p := by rw [hp, A5] <;> omega
    have hp0 : 0 ≤ p := by omega
    generalize q4I (Qo Z p) ch k = row at *
    generalize q4I (Qo Z p) ch (k + 1) = row2 at *
    generalize ch[k] = s at *
    have hv : Qo Z p s = if p < s.l.length then q5q 0 (s.l.getD p.toNat 0) Z else 0 := rfl
    simp only [As] at e1 e1'
    by_cases hlt : p < s.l.length
    · have h3 : p.toNat < s.l.length := by omega
      have e2 := gE (f := tI) 0 h3
      have e2' := gE' (f := tI) 0 h3
      rw [if_pos hlt] at hv
      rw [hv] at q1
      have es1 : (Av row).set k [tK (q5q 0 (s.l.getD p.toNat 0) Z)] = Av row2 := by rw [← q1]; exact F6
      generalize s.l.getD p.toNat 0 = x at *
      have ef := q0i (f := tK) Z
      have em := q0I (f := tK) 0 x Z
      generalize mpE tK Z = M at *
      generalize q5q 0 x Z = y at *
      simp [h2, A0, A9, e1, e1', e2, e2', w1, w2, w3, hlt, hp0, h3, em, ef, KT.fits, hrl, es1]
      rw [hK]
      simpa using ih
    · rw [if_neg hlt] at hv
      have := q2 hv
      subst this
      simp [h2, A0, A9, e1, e1', w1, w2, w3, hlt]
      rw [hK]
      simpa using ih
def P1 (l : List Int) : T := .sl (Av l) none none
theorem qHG {Q : AX → St → Prop} (ch : List (Sl Int)) (cc : Option Nat) (cn : Option Bool) (hch : ch.length ≤ 1000000) (hs : ∀ s ∈ ch, s.l.length ≤ 1000000) (Z : List (Int × Int)) (d : Nat) (hd : d ≤ 1000000)
    (h0 : Q (.exit 2) ⟨[(1, .t (.sl (Ad As ch) cc cn)), (7, .lm 17), (10, .t (tI d)), (11, .ls 71 0 d none), (36, .t (tI d)), (37, .t (tI d)), (38, .t (tB false))],
      [(17, .mp (mpE tK Z)), (71, .sl 37 1 (Ad P1 ((List.range d).map fun t : Nat => ch.map (Qo Z ((d : Int) - 1 - t)))))]⟩) :
    ∀ (k t : Nat), k + t = d →
    run Tryz.prog Γ Nk Q ⟨[(1, .t (.sl (Ad As ch) cc cn)), (7, .lm 17), (10, .t (tI d)), (11, .ls 71 0 t none), (36, .t (tI d)), (37, .t (tI t))],
      [(17, .mp (mpE tK Z)), (71, .sl 37 1 (Ad P1 ((List.range t).map fun t : Nat => ch.map (Qo Z ((d : Int) - 1 - t)))))]⟩
  | 0, t, h => by
    refine V9 fun K hK => ?_
    have h2 : t = d := by omega
    subst h2
    simp
    simpa using h0
  | k + 1, t, h => by
    refine V9 fun K hK => ?_
    have h2 : t < d := by omega
    have ih := qHG ch cc cn hch hs Z d hd h0 k (t + 1) (by omega)
    rw [List.range_succ, List.map_append] at ih
    simp only [List.map_cons, List.map_nil] at ih
    have hel : (Ad P1 ((List.range t).map fun t : Nat => ch.map (Qo Z ((d : Int) - 1 - t)))).length = t := by rw [A0]; simp
    have g := fun es Q h0 => qHF (Γ := Γ) (Q := Q) ch cc cn hch hs Z d t h2 hd es _ rfl h0 ch.length 0 (by omega)
    rw [qE7] at g
    have hre : Av (List.replicate ch.length 0) = List.replicate ch.length [tK 0] := by simp [Ad]
    rw [hre] at g
    have hel2 := Bq (f := P1) (l := (List.range t).map fun t : Nat => ch.map (Qo Z ((d : Int) - 1 - t))) (x := ch.map (Qo Z ((d : Int) - 1 - t)))
    generalize (List.range t).map (fun t : Nat => ch.map (Qo Z ((d : Int) - 1 - t))) = L at *
    have hrl : (ch.map (Qo Z ((d : Int) - 1 - t))).length = ch.length := by simp
    generalize ch.map (Qo Z ((d : Int) - 1 - t)) = row at *
    have w1 : IntKind.i64.wrap ((t : Int) + 1) = (t : Int) + 1 := by rw [A5] <;> omega
    have htk : (Av row).take ch.length = Av row := by rw [← hrl]; exact J2
    have htk2 : (Ad P1 L).take t = Ad P1 L := List.take_of_length_le (by omega)
    simp only [P1] at hel2
    simp [h2, A0]
    refine ⟨by omega, ?_⟩
    refine g _ _ ?_
    simp [St.freeze, Bf.closed, D6, frz1, frz0, F4, del, Aj, htk, htk2, hel, w1, hel2]
    refine ⟨by omega, ?_⟩
    rw [hK]
    simpa [P1] using ih
def M4 (ch : List (Sl Int)) (st pst : List Int) : List (List Int) := (List.range (Ez ch)).map fun t : Nat => ch.map (Qo (ofZ st pst) ((Ez ch : Int) - 1 - t))
theorem q5r (es : List (List T)) (cap : Option Nat) (nl : Option Bool) (hw : E1 1 es) : Ag Tryz.prog Γ 104 [.sl es cap nl] (.sl es (some es.length) nl) := by
  refine Ap Xj rfl ?_
  simp [Lq, Lr, hw]
theorem qA5 {l : List (Sl Int)} {m : Nat} (h : ∀ s ∈ l, s.l.length ≤ m) : Ez l ≤ m := by
  have key : ∀ (l : List (Sl Int)) (n : Nat), n ≤ m → (∀ s ∈ l, s.l.length ≤ m) → l.foldl (fun n s => max n s.l.length) n ≤ m := by
    intro l
    induction l with
    | nil => intro n hn _; exact hn
    | cons s l ih => intro n hn h; exact ih _ (Nat.max_le.2 ⟨hn, h s List.mem_cons_self⟩) fun s hs => h s (List.mem_cons_of_mem _ hs)
  exact key l 0 (by omega) h
theorem q89 (c : B9) (hc : COk c) (hsl : (A6 c).length ≤ 1000000) (chs : Sl (Sl Int)) (hl : chs.l.length ≤ 1000000) (hs : ∀ s ∈ chs.l, s.l.length ≤ 1000000) (ps : Sl Int) (hps : ps.l.length = (A6 c).length) :
    Ag Tryz.prog Γ 102 [.agg (tC c), Bc chs, tV ps] (.sl (Ad P1 (M4 chs.l (A6 c) ps.l)) (some (M4 chs.l (A6 c) ps.l).length) none) := by
  refine Ap q5i rfl ?_
  have e1 := Dl (Γ := Γ) c hc
  have e2 := q0j (Γ := Γ) chs hl hs
  have hd : (A6 c).Nodup := (J0 [14] c.nodes.l 0).2
  have g1 := fun Q sc sn h0 => qHE (Γ := Γ) (Q := Q) (.sl (Ad As chs.l) chs.cap chs.nl) (A6 c) sc sn hd hsl ps hps h0 (A6 c).length 0 (by omega)
  have g5 := fun Q h0 => qHG (Γ := Γ) (Q := Q) chs.l chs.cap chs.nl hl hs (ofZ (A6 c) ps.l) (Ez chs.l) (qA5 hs) h0 (Ez chs.l) 0 (by omega)
  have hll : (M4 chs.l (A6 c) ps.l).length = Ez chs.l := by simp [M4]
  have hL : (List.range (Ez chs.l)).map (fun t : Nat => chs.l.map (Qo (ofZ (A6 c) ps.l) ((Ez chs.l : Int) - 1 - t))) = M4 chs.l (A6 c) ps.l := rfl
  rw [hL] at g5
  generalize M4 chs.l (A6 c) ps.l = L at *
  generalize A6 c = st at *
  have e3 := q5r (Γ := Γ) (Ad P1 L) none none A9
  have htk : (Ad P1 L).take (Ez chs.l) = Ad P1 L := List.take_of_length_le (by rw [A0]; omega)
  simp [tV, mpE, C9] at g1 g5
  simp [q1C, tC, Ab, Af, Am, As, Bc, tV]
  simp [tC, Ab, Af, Am, As, Bc] at e1 e2
  refine A8 e1 rfl ?_
  simp [A0]
  refine g1 _ _ _ ?_
  simp
  refine A3 e2 rfl ?_
  simp
  refine g5 _ ?_
  simp [St.freeze, Bf.closed, D6, frz1, frz0, F4, del, Aj, htk]
  refine A8 e3 rfl ?_
  simp [q1D, A0]
theorem q4J (a b : Sl Int) (e : Int) (ha : a.l.length ≤ 1000000) (hb : b.l.length ≤ 1000000) : Ag Tryz.prog Γ 103 [tV a, tK e, tV b] (M7 (a.l ++ ([e] ++ b.l))) := by
  refine Ap q54 rfl ?_
  have e1 := Yf (Γ := Γ) [a, ⟨[e], some 1, some false⟩, b] (some 3) (some false) (by simp) (by simp; omega) (by simp; omega)
  have hfl : ([a, ⟨[e], some 1, some false⟩, b] : List (Sl Int)).flatMap (·.l) = a.l ++ ([e] ++ b.l) := by simp
  rw [hfl] at e1
  generalize a.l ++ ([e] ++ b.l) = A at *
  have e6 := q2O (Γ := Γ) (Av A) none none A9
  have e1' : Aa Tryz.prog Γ 91 [.sl [[.sl (Av a.l) a.cap a.nl], [.sl [[tK e]] (some 1) (some false)], [.sl (Av b.l) b.cap b.nl]] (some 3) (some false)] (.sl (Av A) none none) := e1
  simp [q0A, tV]
  refine A3 e1' (by simp) ?_
  simp
  refine A8 e6 rfl ?_
  simp [q0B, M7, A0]
structure qCS (Γ : Tables) (c : B9) (chs : Sl (Sl Int)) (s : Nat → List (List T)) (k : Nat → Option Nat) (n : Nat → Option Bool) (en ce : Int) : Prop where
  ok : COk c
  st : (A6 c).length ≤ 1000000
  inp : (Bi c).length ≤ 1000000
  chl : chs.l.length ≤ 1000000
  cs : ∀ s ∈ chs.l, s.l.length ≤ 1000000
  call : Ag Tryz.prog Γ 29 [.agg (tC c), Bc chs] (.tup [.agg [.sl (s 0) (k 0) (n 0), .sl (s 1) (k 1) (n 1), .sl (s 2) (k 2) (n 2), .sl (s 3) (k 3) (n 3), .sl (s 4) (k 4) (n 4), tI en, .sl (s 6) (k 6) (n 6), .sl (s 7) (k 7) (n 7)], tI ce])
theorem qCT {c : B9} {chs : Sl (Sl Int)} {s : Nat → List (List T)} {k : Nat → Option Nat} {n : Nat → Option Bool} {en ce : Int} (h : qCS Γ c chs s k n en ce) (ps : Sl Int) (hp : ps.l.length ≤ 1000000) :
    Ag Tryz.prog Γ 38 [.agg (tC c), Bc chs, tV ps] (if ce ≠ 0 then .tup [.sl [] (some 0) (some true), tI ce] else if L6 ps.l (A6 c).length ≠ 0 then .tup [.sl [] (some 0) (some true), tI (L6 ps.l (A6 c).length)] else .tup [.sl (Ad P1 (M4 chs.l (A6 c) ps.l)) (some (M4 chs.l (A6 c) ps.l).length) none, tI 0]) := by
  refine Ap q5j rfl ?_
  have e1 := h.call
  have e2 := Dl (Γ := Γ) c h.ok
  have e3 := q2j (Γ := Γ) ps (by omega) (A6 c).length
  have e4 := fun hq => q89 (Γ := Γ) c h.ok h.st chs h.chl h.cs ps hq
  have hv : L6 ps.l (A6 c).length = 0 → ps.l.length = (A6 c).length := fun h => by
    unfold L6 at h
    split at h
    · cases h
    · rename_i h2; exact Decidable.not_not.1 h2
  generalize M4 chs.l (A6 c) ps.l = L at *
  generalize L6 ps.l (A6 c).length = ve at *
  generalize A6 c = st at *
  simp [tC, Ab, Af, Am, As, Bc, tV] at e1 e2 e3 e4
  simp [q1E, tC, Ab, Af, Am, As, Bc, tV]
  refine A8 e1 rfl ?_
  by_cases hc : ce = 0
  · subst hc
    simp
    refine A8 e2 rfl ?_
    simp [A0]
    refine A3 e3 rfl ?_
    by_cases hv0 : ve = 0
    · subst hv0
      simp
      refine A8 (e4 (hv rfl)) rfl ?_
      simp [Nl]
    · simp [hv0, Nl]
  · simp [hc, Nl]
def Ai (n : Nat) : List Int := List.replicate n 0
def Ri (ch : List (Sl Int)) (st pin pst : List Int) : List (List Int) :=
  (M4 ch st pst).map (fun s => Ai pin.length ++ ([1] ++ s)) ++ ([pin ++ ([0] ++ Ai ch.length)] ++ List.replicate (Ez ch) (Ai pin.length ++ ([1] ++ Ai ch.length)))
def stE (chT : T) (p : Sl Int) (s : Sl Int) (i m : Nat) : List (Nat × AV) := [(1, .t chT), (5, .t (.ip [tV p, tV s] 0)), (12, .t (P1 (Ai i))), (13, .t (P1 (Ai m))), (14, .t (.fn 103 []))]
theorem qHH {Q : AX → St → Prop} (chT : T) (p s : Sl Int) (i m : Nat) (hi : i ≤ 1000000) (L : List (List Int)) (hL : L.length ≤ 1000000) (hLs : ∀ r ∈ L, r.length ≤ 1000000) (R : List (List Int))
    (h0 : Q (.exit 0) ⟨stE chT p s i m ++ [(15, .ls 76 0 L.length none), (64, .t (.sl (Ad P1 L) (some L.length) none)), (65, .t (tI L.length)), (66, .t (tI L.length)), (67, .t (tB false))], [(76, .sl 37 1 (Ad M7 R))]⟩) :
    ∀ (k j : Nat) (out : List (List Int)), k + j = L.length → out.length = j → out ++ (L.drop j).map (fun s => Ai i ++ ([1] ++ s)) = R →
    run Tryz.prog Γ Qj Q ⟨stE chT p s i m ++ [(15, .ls 76 0 j none), (64, .t (.sl (Ad P1 L) (some L.length) none)), (65, .t (tI L.length)), (66, .t (tI j))], [(76, .sl 37 1 (Ad M7 out))]⟩
  | 0, j, out, h, ho, hR => by
    refine Xh fun K hK => ?_
    have h2 : j = L.length := by omega
    subst h2
    simp only [List.drop_length, List.map_nil, List.append_nil] at hR
    subst hR
    simp [stE]
    simpa [stE] using h0
  | k + 1, j, out, h, ho, hR => by
    refine Xh fun K hK => ?_
    have h2 : j < L.length := by omega
    rw [List.drop_eq_getElem_cons h2, List.map_cons] at hR
    have hr := hLs _ (List.getElem_mem h2)
    have e := gE (f := P1) [] h2
    have e' := gE' (f := P1) [] h2
    rw [show L.getD j [] = L[j] by simp [List.getD_eq_getElem?_getD, h2]] at e e'
    generalize L[j] = r at *
    have ih := qHH chT p s i m hi L hL hLs R h0 k (j + 1) (out ++ [Ai i ++ ([1] ++ r)]) (by omega) (by simp [ho]) (by rw [← hR]; simp)
    have e2 := q4J (Γ := Γ) ⟨Ai i, none, none⟩ ⟨r, none, none⟩ 1 (by simp [Ai]; exact hi) hr
    have hs := Bq (f := M7) (l := out) (x := Ai i ++ ([1] ++ r))
    generalize Ai i ++ ([1] ++ r) = row at *
    have htk : (Ad M7 out).take j = Ad M7 out := List.take_of_length_le (by rw [A0]; omega)
    have w1 : IntKind.i64.wrap ((j : Int) + 1) = (j : Int) + 1 := by rw [A5] <;> omega
    simp [stE] at ih
    simp only [P1] at e e'
    simp only [tV] at e2
    simp [stE, h2, A0, A9, e, e', P1]
    refine A8 e2 rfl ?_
    simp only [M7] at hs
    simp [M7, htk, hs, w1, ho, A0]
    refine ⟨by omega, ?_⟩
    rw [hK]
    simpa [P1, M7] using ih
theorem qHI {Q : AX → St → Prop} (i m d : Nat) (hi : i ≤ 1000000) (hm : m ≤ 1000000) (hd : d ≤ 1000000) (n0 : Nat) (hn0 : n0 ≤ 1000001) (R : List (List Int)) (row : List Int) (hrow : row = Ai i ++ ([1] ++ Ai m))
    (h0 : Q (.exit 2) ⟨[(12, .t (P1 (Ai i))), (13, .t (P1 (Ai m))), (14, .t (.fn 103 [])), (15, .ls 76 0 (n0 + d) none), (87, .t (tI d)), (88, .t (tI d)), (89, .t (tB false))], [(76, .sl 37 1 (Ad M7 R))]⟩) :
    ∀ (k j : Nat) (out : List (List Int)), k + j = d → out.length = n0 + j → out ++ List.replicate k row = R →
    run Tryz.prog Γ Qk Q ⟨[(12, .t (P1 (Ai i))), (13, .t (P1 (Ai m))), (14, .t (.fn 103 [])), (15, .ls 76 0 (n0 + j) none), (87, .t (tI d)), (88, .t (tI j))], [(76, .sl 37 1 (Ad M7 out))]⟩
  | 0, j, out, h, ho, hR => by
    refine Xi fun K hK => ?_
    have h2 : j = d := by omega
    subst h2
    simp only [List.replicate_zero, List.append_nil] at hR
    subst hR
    simp
    simpa using h0
  | k + 1, j, out, h, ho, hR => by
    refine Xi fun K hK => ?_
    have h2 : j < d := by omega
    have ih := qHI i m d hi hm hd n0 hn0 R row hrow h0 k (j + 1) (out ++ [row]) (by omega) (by simp [ho]; omega) (by rw [← hR, List.replicate_succ]; simp)
    have e2 := q4J (Γ := Γ) ⟨Ai i, none, none⟩ ⟨Ai m, none, none⟩ 1 (by simp [Ai]; exact hi) (by simp [Ai]; exact hm)
    rw [show (⟨Ai i, none, none⟩ : Sl Int).l ++ ([1] ++ (⟨Ai m, none, none⟩ : Sl Int).l) = row from hrow.symm] at e2
    have hs := Bq (f := M7) (l := out) (x := row)
    have htk : (Ad M7 out).take (n0 + j) = Ad M7 out := List.take_of_length_le (by rw [A0]; omega)
    have w1 : IntKind.i64.wrap ((j : Int) + 1) = (j : Int) + 1 := by rw [A5] <;> omega
    simp only [tV] at e2
    rw [← Nat.add_assoc] at ih
    simp [h2, P1]
    refine A8 e2 rfl ?_
    simp only [M7] at hs
    simp [M7, htk, hs, w1, ho, A0]
    refine ⟨by omega, ?_⟩
    rw [hK]
    simpa [P1, M7] using ih
def q0k (c : B9) (p : Pat) : Int := if p.inn.l.length ≠ (Bi c).length ∨ p.st.l.length ≠ (A6 c).length then 8 else if p.inn.l.any Bj = true ∨ p.st.l.any Bj = true then 1 else 0
def q6u (c : B9) (ch : List (Sl Int)) (p : Pat) (ce : Int) : T :=
  if ce ≠ 0 then .tup [.sl [] (some 0) (some true), tI ce] else if q0k c p ≠ 0 then .tup [.sl [] (some 0) (some true), tI (q0k c p)]
  else .tup [.sl (Ad M7 (Ri ch (A6 c) p.inn.l p.st.l)) (some (Ri ch (A6 c) p.inn.l p.st.l).length) none, tI 0]
theorem q8A {ch : List (Sl Int)} {st pst : List Int} : ∀ r ∈ M4 ch st pst, r.length = ch.length := by
  intro r hr
  obtain ⟨t, _, rfl⟩ := List.mem_map.1 hr
  simp
theorem q8B {ch : List (Sl Int)} {st pst : List Int} : (M4 ch st pst).length = Ez ch := by simp [M4]
set_option maxHeartbeats 1000000 in
theorem q9W {c : B9} {chs : Sl (Sl Int)} {s : Nat → List (List T)} {k : Nat → Option Nat} {n : Nat → Option Bool} {en ce : Int} (h : qCS Γ c chs s k n en ce) (p : Pat) (hp : p.inn.l.length ≤ 1000000 ∧ p.st.l.length ≤ 1000000) :
    Ag Tryz.prog Γ 42 [.agg (tC c), Bc chs, .agg (tP p)] (q6u c chs.l p ce) := by
  refine Ap q6e rfl ?_
  have e1 := h.call
  have e2 := Yl (Γ := Γ) c h.ok
  have e3 := Dl (Γ := Γ) c h.ok
  have e4 := q2j (Γ := Γ) p.inn (by omega) p.inn.l.length
  have e5 := q2j (Γ := Γ) p.st (by omega) p.st.l.length
  have e6 := fun hq => q89 (Γ := Γ) c h.ok h.st chs h.chl h.cs p.st hq
  have e7 := q0j (Γ := Γ) chs h.chl h.cs
  have e8 := q4J (Γ := Γ) p.inn ⟨Ai chs.l.length, none, none⟩ 0 hp.1 (by simp [Ai]; exact h.chl)
  have hdl : Ez chs.l ≤ 1000000 := qA5 h.cs
  have hi := h.inp
  have hs := h.st
  have hc := h.chl
  have v4 : L6 p.inn.l p.inn.l.length = if p.inn.l.any Bj = true then 1 else 0 := by unfold L6; rw [if_neg (by simp)]
  have v5 : L6 p.st.l p.st.l.length = if p.st.l.any Bj = true then 1 else 0 := by unfold L6; rw [if_neg (by simp)]
  rw [v4] at e4
  rw [v5] at e5
  unfold q6u q0k Ri
  generalize p.inn.l.any Bj = A at *
  generalize p.st.l.any Bj = B at *
  have hLs := q8A (ch := chs.l) (st := A6 c) (pst := p.st.l)
  have hLl := q8B (ch := chs.l) (st := A6 c) (pst := p.st.l)
  generalize M4 chs.l (A6 c) p.st.l = L at *
  have g1 := fun Q h0 => qHH (Γ := Γ) (Q := Q) (.sl (Ad As chs.l) chs.cap chs.nl) p.inn p.st p.inn.l.length chs.l.length hp.1 L (by omega) (fun r hr => by rw [hLs r hr]; exact hc) (L.map fun s => Ai p.inn.l.length ++ ([1] ++ s)) h0 L.length 0 [] (by omega) rfl (by simp)
  have g3 := fun Q R h0 out ho hR => qHI (Γ := Γ) (Q := Q) p.inn.l.length chs.l.length (Ez chs.l) hp.1 hc hdl (L.length + 1) (by omega) R _ rfl h0 (Ez chs.l) 0 out (by omega) ho hR
  have hz1 : Av (Ai p.inn.l.length) = List.replicate p.inn.l.length [tK 0] := by simp [Ai, Ad]
  have hz2 : Av (Ai chs.l.length) = List.replicate chs.l.length [tK 0] := by simp [Ai, Ad]
  have hcyc : [p.inn.l ++ ([0] ++ Ai chs.l.length)] = [p.inn.l ++ ([0] ++ (⟨Ai chs.l.length, none, none⟩ : Sl Int).l)] := rfl
  rw [hcyc]
  have hsn := Bq (f := M7) (l := L.map fun s => Ai p.inn.l.length ++ ([1] ++ s)) (x := p.inn.l ++ ([0] ++ (⟨Ai chs.l.length, none, none⟩ : Sl Int).l))
  have hml : (L.map fun s => Ai p.inn.l.length ++ ([1] ++ s)).length = L.length := by simp
  generalize (p.inn.l ++ ([0] ++ (⟨Ai chs.l.length, none, none⟩ : Sl Int).l)) = row at *
  generalize (L.map fun s => Ai p.inn.l.length ++ ([1] ++ s)) = M at *
  have htk : (Ad M7 M).take L.length = Ad M7 M := List.take_of_length_le (by rw [A0]; omega)
  have g3' := fun Q h0 => g3 Q (M ++ ([row] ++ List.replicate (Ez chs.l) (Ai p.inn.l.length ++ ([1] ++ Ai chs.l.length)))) h0 (M ++ [row]) (by simp [hml]) (by simp)
  have hRl : (M ++ ([row] ++ List.replicate (Ez chs.l) (Ai p.inn.l.length ++ ([1] ++ Ai chs.l.length)))).length = L.length + 1 + Ez chs.l := by simp [hml]; omega
  generalize (M ++ ([row] ++ List.replicate (Ez chs.l) (Ai p.inn.l.length ++ ([1] ++ Ai chs.l.length)))) = R at *
  have e9 := q5r (Γ := Γ) (Ad M7 R) none none A9
  have htR : (Ad M7 R).take (L.length + 1 + Ez chs.l) = Ad M7 R := List.take_of_length_le (by rw [A0]; omega)
  simp [tC, Ab, Af, Am, As, Bc, tV] at e1 e2 e3 e4 e5 e6 e7 e8
  simp [stE, P1, hz1, hz2, tV, C9] at g1
  simp [P1, hz1, hz2] at g3'
  simp [hz2] at e8
  simp only [M7] at hsn
  simp [q2X, tC, Ab, Af, Am, As, Bc, tP, tV]
  refine A8 e1 rfl ?_
  by_cases hce : ce = 0
  case neg => simp [hce, Fb]
  subst hce
  simp
  refine A8 e2 rfl ?_
  simp
  refine A8 e3 rfl ?_
  by_cases hl : p.inn.l.length = (Bi c).length
  case neg =>
    have hl' : ¬ (p.inn.l.length : Int) = (Bi c).length := by omega
    simp [A0, hl, hl', Fb]
  by_cases hm : p.st.l.length = (A6 c).length
  case neg =>
    have hm' : ¬ (p.st.l.length : Int) = (A6 c).length := by omega
    simp [A0, hl, hm, hm', Fb]
  simp [A0, ← hl, ← hm]
  refine A3 e4 rfl ?_
  simp
  refine A3 e5 rfl ?_
  cases A
  case true => cases B <;> simp [Fb, hl, hm]
  cases B
  case true => simp [Fb, hl, hm]
  simp [St.freeze, Bf.closed, D6, frz1, frz0, F4, del, Aj, A0]
  refine ⟨by omega, by omega, ?_⟩
  refine A8 (e6 hm) rfl ?_
  simp [A0]
  refine g1 _ ?_
  simp
  refine A8 e8 rfl ?_
  simp [M7, htk, hsn, A0, hml]
  refine ⟨by omega, ?_⟩
  refine A3 e7 rfl ?_
  simp
  refine g3' _ ?_
  simp [St.freeze, Bf.closed, D6, frz1, frz0, F4, del, Aj, htR]
  refine A8 e9 rfl ?_
  simp [Fb, A0, hl, hm]
theorem qA6 (hΓ : GOk Γ) {c : B9} {chs : Sl (Sl Int)} (h : qD2 c chs) (hi : (Bi c).length ≤ 1000000) (hs : ∀ s ∈ chs.l, s.l.length ≤ 1000000) : ∃ s k n en, qCS Γ c chs s k n en 0 ∧ (s 3).length = (scC c chs.l).outs.l.length := by
  have e := qB8 (Γ := Γ) hΓ c chs h
  simp only [qFK] at e
  generalize hD : scC c chs.l = D at e
  refine ⟨fun j => match j with | 0 => Az Bw D.nodes.l | 1 => Ad tS D.names.l | 2 => Az tMm D.mems.l | 3 => Ak D.outs.l | 4 => Ad As (Sv c chs.l).cl | 6 => Ak (Sv c chs.l).ins | _ => Ak (scJ c chs.l).muxes,
    fun j => match j with | 0 => D.nodes.cap | 1 => D.names.cap | 2 => D.mems.cap | 3 => D.outs.cap | 4 => some (Sv c chs.l).cl.length | 6 => some (Sv c chs.l).ins.length | _ => some (scJ c chs.l).muxes.length,
    fun j => match j with | 0 => D.nodes.nl | 1 => D.names.nl | 2 => D.mems.nl | 3 => D.outs.nl | _ => none, c.nodes.l.length, ⟨h.ok, by have := h.s100; omega, hi, by have := h.len; omega, hs, ?_⟩, A0⟩
  have e2 := e
  simp only [tC, Ab, Af, Am, As, List.cons_append, List.nil_append] at e2
  simpa only [tC, Ab, Af, Am, As] using e2
theorem qE8 {c : B9} {N : List Int} : (Ly c N).length = (A6 c).length := by simp [Ly]
end Go.Lg
namespace Go.Lg
open Go Go.Proofs
section
variable {c : B9} {ch : List (Sl Int)}
def qFc (ch : List (Sl Int)) (k m : Nat) : Int := (ch.getD k slD).l.getD m 0
def qE9 (c : B9) (ch : List (Sl Int)) (k m : Nat) : Nat := (A6 c).idxOf (qFc ch k m)
theorem qGk (h : q3H c ch) {q : Nat} (hq : q < (A6 c).length) : ∃ k m, k < ch.length ∧ m < (ch.getD k slD).l.length ∧ qE9 c ch k m = q := by
  have hm : (A6 c).getD q 0 ∈ Gf ch := h.perm.mem_iff.2 (by rw [Cc hq]; exact List.getElem_mem _)
  unfold Gf at hm
  obtain ⟨l, hl, hx⟩ := List.mem_flatten.1 hm
  obtain ⟨s, hs, rfl⟩ := List.mem_map.1 hl
  obtain ⟨k, hk, rfl⟩ := List.getElem_of_mem hs
  obtain ⟨m, hm, e⟩ := List.getElem_of_mem hx
  have hg : ch.getD k slD = ch[k] := by simp [List.getD_eq_getElem?_getD, hk]
  refine ⟨k, m, hk, by rw [hg]; exact hm, ?_⟩
  unfold qE9 qFc
  rw [hg, Cc hm, e, Cc hq]
  exact (J0 [14] c.nodes.l 0).2.idxOf_getElem _ _
end
end Go.Lg
namespace Go.Lg
open Go Go.Proofs
variable {Γ : Tables}
theorem Cm {n : Nat} : (Ai n).length = n := by simp [Ai]
theorem qCU {n i : Nat} : (Ai n).getD i 0 = 0 := by
  unfold Ai
  rw [List.getD_eq_getElem?_getD, List.getElem?_replicate]
  split <;> rfl
theorem q5s {ch : List (Sl Int)} {st pin pst : List Int} : (Ri ch st pin pst).length = 2 * Ez ch + 1 := by
  simp [Ri, q8B]; omega
theorem q8C {Q : AX → St → Prop} (p : Pat) (hn : p.st.l.length ≤ 1000000)
    (h0 : Q (.exit 0) ⟨[(1, .t (.ip (tP p) 0)), (2, .lp 2 0 0), (3, .lp 3 0 0), (4, .t (tI p.st.l.length)), (13, .t (tB false))], [(2, .bx [.t (.sl [] (some 0) (some true)), .t (.sl [] (some 0) (some true))]), (3, .bx [.t (tV p.inn), .ls 27 0 p.st.l.length none]), (27, .sl 68 1 (Av (p.st.l.map Bn)))]⟩) :
    ∀ (k i : Nat), k + i = p.st.l.length →
    run Tryz.prog Γ Pn Q ⟨[(1, .t (.ip (tP p) 0)), (2, .lp 2 0 0), (3, .lp 3 0 0), (4, .t (tI i))], [(2, .bx [.t (.sl [] (some 0) (some true)), .t (.sl [] (some 0) (some true))]), (3, .bx [.t (tV p.inn), .ls 27 0 i none]), (27, .sl 68 1 (Av ((p.st.l.take i).map Bn)))]⟩
  | 0, i, h => by
    refine Wb fun K hK => ?_
    have h2 : i = p.st.l.length := by omega
    subst h2
    rw [List.take_length]
    simp [tP, tV, A0]
    simpa [tP, tV] using h0
  | k + 1, i, h => by
    refine Wb fun K hK => ?_
    have h2 : i < p.st.l.length := by omega
    have ih := q8C p hn h0 k (i + 1) (by omega)
    rw [← List.take_append_getElem h2, List.map_append, List.map_cons, List.map_nil] at ih
    have e1 := gE (f := tK) 0 h2
    have e1' := gE' (f := tK) 0 h2
    rw [Cc h2] at e1 e1'
    generalize p.st.l[i] = v at *
    have hl : ((p.st.l.take i).map Bn).length = i := by simp; omega
    generalize (p.st.l.take i).map Bn = out at *
    have vt : (Av out).take i = Av out := by rw [← hl]; exact J2
    have w1 : IntKind.i64.wrap ((i : Int) + 1) = (i : Int) + 1 := by rw [A5] <;> omega
    by_cases hv : 1 < v
    · have hr : Bn v = 2 := by unfold Bn; rw [if_neg (by omega)]
      rw [hr] at ih
      have vs := J1 (l := out) (v := 2)
      simp [tP, tV] at ih
      simp [tP, tV, A0, A9, h2, e1, e1', hv, vt, vs, hl, w1]
      refine ⟨by omega, ?_⟩
      rw [hK]
      simpa using ih
    · have hr : Bn v = v := by unfold Bn; rw [if_pos (by omega)]
      rw [hr] at ih
      have vs := J1 (l := out) (v := v)
      simp [tP, tV] at ih
      simp [tP, tV, A0, A9, h2, e1, e1', hv, vt, vs, hl, w1]
      refine ⟨by omega, ?_⟩
      rw [hK]
      simpa using ih
def q8D (p : Pat) : Pat := ⟨p.inn, ⟨p.st.l.map Bn, none, none⟩⟩
theorem qCV (p : Pat) (hn : p.st.l.length ≤ 1000000) : Ag Tryz.prog Γ 26 [.agg (tP p)] (.agg (tP (q8D p))) := by
  refine Ap q6T rfl ?_
  have g := fun Q h0 => q8C (Γ := Γ) (Q := Q) p hn h0 p.st.l.length 0 (by omega)
  have ht : (Av (p.st.l.map Bn)).take p.st.l.length = Av (p.st.l.map Bn) := List.take_of_length_le (by rw [A0]; simp)
  simp only [q8D]
  generalize p.st.l.map Bn = R at *
  simp [tP, tV, C9] at g
  simp [q1p, tP, tV]
  refine g _ ?_
  simp [St.freeze, Bf.closed, D6, frz1, frz0, F4, del, Aj, ht, q1q]
theorem q2y (v : Int) : Aa Tryz.prog Γ 77 [tK v] (tB (Bj v)) := by
  refine Ac q4X rfl ?_
  simp [Zk, Zl, Bj]
def cpV (s : Sl Int) : Sl Int := ⟨(M3 s).l, some (M3 s).l.length, (M3 s).nl⟩
theorem Yr (p : Pat) (h1 : p.inn.nl = some true → p.inn.l = []) (h2 : p.st.nl = some true → p.st.l = []) (hl : p.inn.l.length ≤ 1000000 ∧ p.st.l.length ≤ 1000000) : Ag Tryz.prog Γ 78 [.agg (tP p)] (.agg [tV (cpV p.inn), tV (cpV p.st)]) := by
  refine Ap q30 rfl ?_
  have e1 := q9G (Γ := Γ) p.inn h1 hl.1
  have e2 := q9G (Γ := Γ) p.st h2 hl.2
  have e3 := q2O (Γ := Γ) (Av (M3 p.inn).l) (M3 p.inn).cap (M3 p.inn).nl A9
  have e4 := q2O (Γ := Γ) (Av (M3 p.st).l) (M3 p.st).cap (M3 p.st).nl A9
  simp only [tV] at e1 e2
  simp only [cpV]
  generalize M3 p.inn = a at *
  generalize M3 p.st = b at *
  simp [W1, tP, tV]
  refine A8 e1 rfl ?_
  simp
  refine A8 e3 rfl ?_
  simp
  refine A8 e2 rfl ?_
  simp
  refine A8 e4 rfl ?_
  simp [W2, A0, Aj]
def qA7 (c : B9) (p : Pat) : Int := if Do c ≠ 0 then Do c else Qb c p
theorem q8b (hΓ : GOk Γ) (c : B9) (hc : COk c) (p : Pat) (hp : p.inn.l.length ≤ 1000000000 ∧ p.st.l.length ≤ 1000000000) : Aa Tryz.prog Γ 75 [.agg (tC c), .agg (tP p)] (tI (qA7 c p)) := by
  refine Ac q7M rfl ?_
  have e1 := q7Y (Γ := Γ) hΓ c hc
  have e2 := q9B (Γ := Γ) c hc p hp
  unfold qA7
  generalize Do c = le at *
  generalize Qb c p = fe at *
  simp [tC, Ab, Af, Am, As, tP, tV] at e1 e2
  simp [q3K, tC, Ab, Af, Am, As, tP, tV]
  refine A3 e1 rfl ?_
  by_cases h : le = 0
  · simp [h]
    refine A3 e2 rfl ?_
    simp [Yy, h]
  · simp [h, Yy]
theorem qFd (L : List (List T)) (d : Nat) (hd : d < L.length) (e z : T) :
    (L.take d ++ ([[e]] ++ (L.take d ++ List.replicate (L.length + 1 - d) [z]).drop (d + 1))).take (d + 1) ++ ((L.drop d).take (L.length - d) ++ (L.take d ++ ([[e]] ++ (L.take d ++ List.replicate (L.length + 1 - d) [z]).drop (d + 1))).drop (d + 1 + (L.length - d))) = L.take d ++ [[e]] ++ L.drop d := by
  have h1 : (L.take d).length = d := by rw [List.length_take]; omega
  have h2 : (L.take d ++ List.replicate (L.length + 1 - d) [z]).drop (d + 1) = List.replicate (L.length - d) [z] := by
    rw [List.drop_append, List.drop_of_length_le (by omega), h1, List.nil_append, List.drop_replicate]
    congr 1; omega
  rw [h2]
  have h3 : (L.take d ++ ([[e]] ++ List.replicate (L.length - d) [z])).take (d + 1) = L.take d ++ [[e]] := by
    rw [← List.append_assoc, List.take_append_of_le_length (by simp; omega), List.take_of_length_le (by simp; omega)]
  have h4 : (L.take d ++ ([[e]] ++ List.replicate (L.length - d) [z])).drop (d + 1 + (L.length - d)) = [] :=
    List.drop_of_length_le (by simp; omega)
  have h5 : (L.drop d).take (L.length - d) = L.drop d := List.take_of_length_le (by simp)
  rw [h3, h4, h5, List.append_nil]
theorem qBM (L : List (List T)) (d : Nat) (hd : d < L.length) (hL : L.length ≤ 1000000) (hw : E1 1 L) (e : T) (he : e.one = true) (ci : Option Nat) (ni : Option Bool) :
    Ag Tryz.prog Γ 108 [.sl L (some L.length) none, tI d, .sl [[e]] ci ni] (.sl (L.take d ++ [[e]] ++ L.drop d) none none) := by
  refine Ap U8 rfl ?_
  obtain ⟨M, hM⟩ : ∃ M, M = L.length + 1 := ⟨_, rfl⟩
  obtain ⟨Z, hZ⟩ : ∃ Z, Z = L.length + 1 - d := ⟨_, rfl⟩
  obtain ⟨D, hD⟩ : ∃ D, D = d + 1 := ⟨_, rfl⟩
  have w1 : IntKind.i64.wrap ((L.length : Int) + 1) = (M : Int) := by rw [A5] <;> omega
  have w2 : IntKind.i64.wrap ((M : Int) - d) = (Z : Int) := by rw [A5] <;> omega
  have w3 : IntKind.i64.wrap ((d : Int) + 1) = (D : Int) := by rw [A5] <;> omega
  have h1 : ¬ (d : Int) = L.length := by omega
  have h2 : ¬ d = L.length := by omega
  have h3 : (d : Int) ≤ L.length := by omega
  have h4 : d ≤ L.length := by omega
  have h5 : (L.length : Int) < M := by omega
  have h6 : L.length < M := by omega
  simp [Jc, hw, w1, w2, w3, h1, h2, h3, h4, h5, h6]
  have hz1 : min Z 1 = 1 := by omega
  have hm : min (d + Z - D) (L.length - d) = L.length - d := by omega
  have hwt : E1 1 (L.take d) := fun x hx => hw x (List.mem_of_mem_take hx)
  have hwd : E1 1 ((L.drop d).take (L.length - d)) := fun x hx => hw x (List.mem_of_mem_drop (List.mem_of_mem_take hx))
  have hil := qFd L d hd e (.sl [] (some 0) (some true))
  have hlen : (L.take d ++ [[e]] ++ L.drop d).length = d + Z := by simp; omega
  have htk : (L.take d ++ [[e]] ++ L.drop d).take (d + Z) = L.take d ++ [[e]] ++ L.drop d := List.take_of_length_le (by omega)
  rw [← hD, ← hZ] at hil
  have ht1 : List.take 1 [[e]] = [[e]] := rfl
  have htt : ((L.drop d).take (L.length - d)).take (L.length - d) = (L.drop d).take (L.length - d) := by rw [List.take_take, Nat.min_self]
  rw [hz1, hm, ht1, ← hD, htt, hil]
  refine ⟨⟨by omega, ⟨hwt, by omega⟩, by omega⟩, by omega, hwd, ?_⟩
  simp only [Jd]
  simp [Aj]
  simpa using htk
theorem q6N {Q : AX → St → Prop} (a b : Sl Int) (hab : a.l = b.l) (ha : a.l.length ≤ 1000000)
    (h0 : Q (.exit 0) ⟨[(0, .t (tV a)), (1, .t (tV b)), (5, .t (tI a.l.length)), (14, .t (tB false))], []⟩) :
    ∀ (k i : Nat), k + i = a.l.length → run Tryz.prog Γ S9 Q ⟨[(0, .t (tV a)), (1, .t (tV b)), (5, .t (tI i))], []⟩
  | 0, i, h => by
    refine Xy fun K hK => ?_
    have h2 : i = a.l.length := by omega
    subst h2
    simp [tV, A0]
    simpa [tV] using h0
  | k + 1, i, h => by
    refine Xy fun K hK => ?_
    have h2 : i < a.l.length := by omega
    have ih := q6N a b hab ha h0 k (i + 1) (by omega)
    have e1 := gE (f := tK) 0 h2
    have e1' := gE' (f := tK) 0 h2
    generalize a.l.getD i 0 = v at *
    have w1 : IntKind.i64.wrap ((i : Int) + 1) = (i : Int) + 1 := by rw [A5] <;> omega
    simp [tV] at ih
    simp [tV, ← hab, A0, A9, h2, e1, e1', w1]
    rw [hK]
    simpa [← hab] using ih
theorem U3 (a b : Sl Int) (hab : a.l = b.l) (ha : a.l.length ≤ 1000000) : Aa Tryz.prog Γ 25 [tV a, tV b] (tB true) := by
  refine Ac q7N rfl ?_
  have g := fun Q h0 => q6N (Γ := Γ) (Q := Q) a b hab ha h0 a.l.length 0 (by omega)
  simp [tV, ← hab] at g
  simp [q3M, tV, ← hab, A0]
  refine g _ ?_
  simp [q3N]
theorem qBN {c : B9} {chs : Sl (Sl Int)} {s : Nat → List (List T)} {k : Nat → Option Nat} {n : Nat → Option Bool} {en : Int} (hI : qCS Γ c chs s k n en 0) (w : Int) (hw : w = 0 ∨ w = 1) (p1 p2 : Pat) (sc : Sl Int) (h1 : p1.inn.l.length = (Bi c).length) (h2 : p2.inn.l.length = (Bi c).length) (h3 : p1.st.l.length = (A6 c).length) (h4 : sc.l.length = if w = 0 then 0 else chs.l.length) (ha : ∀ v ∈ p1.inn.l ++ (p1.st.l ++ (p2.inn.l ++ sc.l)), Bj v = false) (hpos : 0 < (Bi c).length) :
    Ag Tryz.prog Γ 107 [.agg (tC c), Bc chs, tK w, .agg (tP p1 ++ tP p2), tV sc] (tI 0) := by
  refine Ap q3q rfl ?_
  have e1 := hI.call
  have e2 := Yl (Γ := Γ) c hI.ok
  have e3 := Dl (Γ := Γ) c hI.ok
  have hi := hI.inp
  have hs := hI.st
  have hc := hI.chl
  have hsl : sc.l.length ≤ 1000000 := by rw [h4]; split <;> omega
  have e4 := Yf (Γ := Γ) [p1.inn, p1.st, p2.inn, sc] (some 4) (some false) (by simp) (by simp; omega) (by simp; omega)
  have hfm : ([p1.inn, p1.st, p2.inn, sc].flatMap (·.l)) = p1.inn.l ++ (p1.st.l ++ (p2.inn.l ++ sc.l)) := by simp
  rw [hfm] at e4
  have e5 := Dm (Γ := Γ) (p1.inn.l ++ (p1.st.l ++ (p2.inn.l ++ sc.l))) none none 77 [] Bj (fun x _ => q2y x) (by simp; omega)
  have hany : (p1.inn.l ++ (p1.st.l ++ (p2.inn.l ++ sc.l))).any Bj = false := List.any_eq_false.2 fun v hv => by rw [ha v hv]; decide
  rw [hany] at e5
  generalize p1.inn.l ++ (p1.st.l ++ (p2.inn.l ++ sc.l)) = F at *
  have h1' : (p1.inn.l.length : Int) = (Bi c).length := by omega
  have h2' : (p2.inn.l.length : Int) = (Bi c).length := by omega
  have h3' : (p1.st.l.length : Int) = (A6 c).length := by omega
  simp [Ad, tV] at e4
  simp [tC, Ab, Af, Am, As, Bc] at e1 e2 e3
  rcases hw with rfl | rfl
  · have h4' : sc.l.length = 0 := by simpa using h4
    have h4'' : (sc.l.length : Int) = 0 := by omega
    simp [Pg, tC, Ab, Af, Am, As, Bc, tP, tV]
    refine A8 e1 rfl ?_
    simp
    refine A8 e2 rfl ?_
    simp [A0, h1, h2, h3, h4', h4'', h1', h2', h3']
    refine A8 e3 rfl ?_
    simp [A0, h1, h2, h3, h4', h4'', h1', h2', h3']
    refine A3 e4 rfl ?_
    simp
    refine A3 e5 rfl ?_
    simp [Ph, Aj]
  · have h4' : sc.l.length = chs.l.length := by simpa using h4
    have h4'' : (sc.l.length : Int) = chs.l.length := by omega
    simp [Pg, tC, Ab, Af, Am, As, Bc, tP, tV]
    refine A8 e1 rfl ?_
    simp
    refine A8 e2 rfl ?_
    simp [A0, h1, h2, h3, h4', h4'', h1', h2', h3']
    refine A8 e3 rfl ?_
    simp [A0, h1, h2, h3, h4', h4'', h1', h2', h3']
    refine A3 e4 rfl ?_
    simp
    refine A3 e5 rfl ?_
    simp [Ph, Aj]
def Sz (w : Int) (n : Nat) (pin sc : List Int) : List Int := if w = 0 then pin ++ ([0] ++ Ai n) else pin ++ ([1] ++ sc)
def M5 (ch : List (Sl Int)) (st pin2 pst : List Int) (row : List Int) : List (List Int) := (Ri ch st pin2 pst).take (Ez ch) ++ [row] ++ (Ri ch st pin2 pst).drop (Ez ch)
theorem q8E {c : B9} {chs : Sl (Sl Int)} {s : Nat → List (List T)} {k : Nat → Option Nat} {n : Nat → Option Bool} {en : Int} (hI : qCS Γ c chs s k n en 0) (w : Int) (hw : w = 0 ∨ w = 1) (p1 p2 : Pat) (sc : Sl Int) (h1 : p1.inn.l.length = (Bi c).length) (h2 : p2.inn.l.length = (Bi c).length) (h3 : p1.st.l.length = (A6 c).length) (h4 : sc.l.length = if w = 0 then 0 else chs.l.length) (ha : ∀ v ∈ p1.inn.l ++ (p1.st.l ++ (p2.inn.l ++ sc.l)), Bj v = false) (hpos : 0 < (Bi c).length) (hd : Ez chs.l ≤ 100000) :
    Ag Tryz.prog Γ 45 [.agg (tC c), Bc chs, tK w, .agg (tP p1 ++ tP p2), tV sc] (.tup [.sl (Ad M7 (M5 chs.l (A6 c) p2.inn.l p1.st.l (Sz w chs.l.length p1.inn.l sc.l))) (some (2 * Ez chs.l + 2)) none, tI 0]) := by
  refine Ap q4Y rfl ?_
  have e0 := qBN hI w hw p1 p2 sc h1 h2 h3 h4 ha hpos
  have hi := hI.inp
  have hs := hI.st
  have hc := hI.chl
  have hsl : sc.l.length ≤ 1000000 := by rw [h4]; split <;> omega
  have e1 := q9W hI ⟨p2.inn, p1.st⟩ ⟨by show p2.inn.l.length ≤ _; omega, by show p1.st.l.length ≤ _; omega⟩
  have any0 : ∀ {l : List Int}, (∀ v ∈ l, Bj v = false) → l.any Bj = false := fun h => List.any_eq_false.2 fun v hv => by rw [h v hv]; decide
  have q2 : q0k c ⟨p2.inn, p1.st⟩ = 0 := by
    unfold q0k
    rw [if_neg (by simp [h2, h3]), if_neg]
    rw [any0 fun v hv => ha v (List.mem_append_right _ (List.mem_append_right _ (List.mem_append_left _ hv))), any0 fun v hv => ha v (List.mem_append_right _ (List.mem_append_left _ hv))]
    simp
  unfold q6u at e1
  simp only [q2] at e1
  have hz2 : Av (Ai chs.l.length) = List.replicate chs.l.length [tK 0] := by simp [Ai, Ad]
  have e2 := Yf (Γ := Γ) [p1.inn, ⟨[0], some 1, some false⟩, ⟨Ai chs.l.length, none, none⟩] (some 3) (some false) (by simp) (by simp [Ai]; omega) (by simp; omega)
  have e3 := Yf (Γ := Γ) [p1.inn, ⟨[1], some 1, some false⟩, sc] (some 3) (some false) (by simp) (by simp; omega) (by simp; omega)
  have f2 : ([p1.inn, (⟨[0], some 1, some false⟩ : Sl Int), ⟨Ai chs.l.length, none, none⟩].flatMap (·.l)) = p1.inn.l ++ ([0] ++ Ai chs.l.length) := by simp
  have f3 : ([p1.inn, (⟨[1], some 1, some false⟩ : Sl Int), sc].flatMap (·.l)) = p1.inn.l ++ ([1] ++ sc.l) := by simp
  rw [f2] at e2
  rw [f3] at e3
  have g2 : Ad tV [p1.inn, (⟨[0], some 1, some false⟩ : Sl Int), ⟨Ai chs.l.length, none, none⟩] = [[.sl (Av p1.inn.l) p1.inn.cap p1.inn.nl], [.sl [[tK 0]] (some 1) (some false)], [.sl (List.replicate chs.l.length [tK 0]) none none]] := by rw [← hz2]; rfl
  have g3 : Ad tV [p1.inn, (⟨[1], some 1, some false⟩ : Sl Int), sc] = [[.sl (Av p1.inn.l) p1.inn.cap p1.inn.nl], [.sl [[tK 1]] (some 1) (some false)], [.sl (Av sc.l) sc.cap sc.nl]] := rfl
  rw [g2] at e2
  rw [g3] at e3
  have e4 := q0j (Γ := Γ) chs hI.chl hI.cs
  have hTl := q5s (ch := chs.l) (st := A6 c) (pin := p2.inn.l) (pst := p1.st.l)
  have e5 := fun row => q2O (Γ := Γ) (Av row) none none A9
  have e6 := fun row => qBM (Γ := Γ) (Ad M7 (Ri chs.l (A6 c) p2.inn.l p1.st.l)) (Ez chs.l) (by rw [A0, hTl]; omega) (by rw [A0, hTl]; omega) A9 (M7 row) rfl (some 1) (some false)
  have e7 := fun row => q5r (Γ := Γ) (Ad M7 (M5 chs.l (A6 c) p2.inn.l p1.st.l row)) none none A9
  have hLl : ∀ row, (M5 chs.l (A6 c) p2.inn.l p1.st.l row).length = 2 * Ez chs.l + 2 := fun row => by
    unfold M5
    rw [List.length_append, List.length_append, List.length_take, List.length_drop, hTl]
    simp; omega
  have hen : ∀ row, (Ad M7 (Ri chs.l (A6 c) p2.inn.l p1.st.l)).take (Ez chs.l) ++ [[M7 row]] ++ (Ad M7 (Ri chs.l (A6 c) p2.inn.l p1.st.l)).drop (Ez chs.l) = Ad M7 (M5 chs.l (A6 c) p2.inn.l p1.st.l row) := fun row => by
    simp [M5, Ad, List.map_take, List.map_drop]
  simp only [hen, A0, hTl] at e6
  simp only [A0, hLl] at e7
  simp only [M7] at e6
  generalize hLT : M5 chs.l (A6 c) p2.inn.l p1.st.l = LT at *
  generalize Ri chs.l (A6 c) p2.inn.l p1.st.l = TL at *
  generalize Ez chs.l = d at *
  simp [tC, Ab, Af, Am, As, Bc, tP, tV, hTl] at e0 e1 e4
  generalize hR0 : p1.inn.l ++ ([0] ++ Ai chs.l.length) = ROW0 at *
  generalize hR1 : p1.inn.l ++ ([1] ++ sc.l) = ROW1 at *
  have hx0 : Sz 0 chs.l.length p1.inn.l sc.l = ROW0 := by rw [← hR0]; rfl
  have hx1 : Sz 1 chs.l.length p1.inn.l sc.l = ROW1 := by rw [← hR1]; rfl
  rcases hw with rfl | rfl
  · rw [hx0]
    simp [Rt, tC, Ab, Af, Am, As, Bc, tP, tV]
    refine A8 e0 rfl ?_
    simp
    refine A8 e1 rfl ?_
    simp [A0, St.freeze, Bf.closed, D6, frz1, frz0, F4, del, Aj]
    refine ⟨by omega, ?_⟩
    refine A3 e2 rfl ?_
    simp
    refine A3 e4 rfl ?_
    simp
    refine A8 (e5 _) rfl ?_
    simp [A0]
    refine A8 (e6 _) rfl ?_
    simp
    refine A8 (e7 _) rfl ?_
    simp [Ru, Aj]
  · rw [hx1]
    simp [Rt, tC, Ab, Af, Am, As, Bc, tP, tV]
    refine A8 e0 rfl ?_
    simp
    refine A8 e1 rfl ?_
    simp [A0, St.freeze, Bf.closed, D6, frz1, frz0, F4, del, Aj]
    refine ⟨by omega, ?_⟩
    refine A3 e2 rfl ?_
    simp
    refine A3 e3 rfl ?_
    simp
    refine A3 e4 rfl ?_
    simp
    refine A8 (e5 _) rfl ?_
    simp [A0]
    refine A8 (e6 _) rfl ?_
    simp
    refine A8 (e7 _) rfl ?_
    simp [Ru, Aj]
def Rj (y : q1L) (p q : PD) (sc fr : Sl Int) : List T := Rh y ++ (tPD p ++ (tPD q ++ [tV sc, tV fr]))
def q2k (l : List Int) (n : Nat) : List Int := (List.range' 0 n).map fun i => if l = [] then 0 else (l.getD (i % l.length) 0).tmod 4
theorem q5t {Q : AX → St → Prop} (y : q1L) (p q : PD) (sc fr : Sl Int) (ch : Sl (Sl Int)) (n : Nat) (hn : n ≤ 1000000) (hch : ch.l.length = n) (R : List Int)
    (h0 : Q (.exit 0) ⟨[(1, .t (Bc ch)), (2, .t (.ip (Rj y p q sc fr) 0)), (5, .ls 31 0 n none), (6, .t (tI n)), (11, .t (tB false))], [(31, .sl 68 1 (Av R))]⟩) : ∀ (k i : Nat) (out : List Int), k + i = n → out.length = i → out ++ (List.range' i k).map (fun i => if sc.l = [] then 0 else (sc.l.getD (i % sc.l.length) 0).tmod 4) = R →
    run Tryz.prog Γ I5 Q ⟨[(1, .t (Bc ch)), (2, .t (.ip (Rj y p q sc fr) 0)), (5, .ls 31 0 i none), (6, .t (tI i))], [(31, .sl 68 1 (Av out))]⟩
  | 0, i, out, h, hi, hR => by
    refine Pm fun K hK => ?_
    have h2 : i = n := by omega
    subst h2
    simp only [List.range'_zero, List.map_nil, List.append_nil] at hR
    subst hR
    simp [Bc, A0, hch]
    simpa [Bc] using h0
  | k + 1, i, out, h, hi, hR => by
    refine Pm fun K hK => ?_
    have h2 : i < n := by omega
    rw [List.range'_succ, List.map_cons] at hR
    have vt : (Av out).take i = Av out := by rw [← hi]; exact J2
    have w1 : IntKind.i64.wrap ((i : Int) + 1) = (i : Int) + 1 := by rw [A5] <;> omega
    by_cases h1 : sc.l = []
    · have ih := q5t y p q sc fr ch n hn hch R h0 k (i + 1) (out ++ [0]) (by omega) (by simp [hi]) (by rw [← hR]; simp [h1])
      have vs := J1 (l := out) (v := 0)
      simp [Rj, Rh, Ir, tPD, Bc, tV, h1] at ih
      simp [h2, hch, Rj, Rh, Ir, tPD, Bc, tV, A0, h1, w1, vt, vs, hi]
      refine ⟨by omega, ?_⟩
      rw [hK]
      simpa using ih
    · have hpos : 0 < sc.l.length := List.length_pos_iff.2 h1
      have hlt : i % sc.l.length < sc.l.length := Nat.mod_lt _ hpos
      have hmod : (i : Int).tmod (sc.l.length : Int) = ((i % sc.l.length : Nat) : Int) := by rw [Int.natCast_emod]; exact Int.tmod_eq_emod_of_nonneg (by omega)
      rw [if_neg h1] at hR
      have e := gE (f := tK) 0 hlt
      have e' := gE' (f := tK) 0 hlt
      generalize hj : i % sc.l.length = j at *
      generalize sc.l.getD j 0 = v at *
      have ih := q5t y p q sc fr ch n hn hch R h0 k (i + 1) (out ++ [v.tmod 4]) (by omega) (by simp [hi]) (by rw [← hR]; simp)
      have vs := J1 (l := out) (v := v.tmod 4)
      have hne : ¬ (sc.l.length : Int) = 0 := by omega
      have hp' : (0 : Int) < sc.l.length := by omega
      simp [Rj, Rh, Ir, tPD, Bc, tV] at ih
      simp [h2, hch, Rj, Rh, Ir, tPD, Bc, tV, A0, A9, h1, hne, hpos, hp', hmod, hlt, e, e', w1, vt, vs, hi, -Int.natCast_emod]
      refine ⟨by omega, ?_⟩
      rw [hK]
      simpa using ih
theorem q9X {l : List Int} {n : Nat} : (q2k l n).length = n := by simp [q2k]
theorem qEA (y : q1L) (p q : PD) (sc fr : Sl Int) (ch : Sl (Sl Int)) (hch : ch.l.length ≤ 1000000) : Ag Tryz.prog Γ 44 [.agg (Rj y p q sc fr), Bc ch] (.sl (Av (q2k sc.l ch.l.length)) none none) := by
  refine Ap q32 rfl ?_
  have g := fun Q h0 => q5t (Γ := Γ) (Q := Q) y p q sc fr ch ch.l.length hch rfl (q2k sc.l ch.l.length) h0 ch.l.length 0 [] (by omega) rfl (by simp [q2k])
  have ht : (Av (q2k sc.l ch.l.length)).take ch.l.length = Av (q2k sc.l ch.l.length) := List.take_of_length_le (by rw [A0, q9X]; exact Nat.le_refl _)
  generalize q2k sc.l ch.l.length = R at *
  simp [Bc, Rj, Rh, Ir, tPD, tV] at g
  simp [W9, Bc, Rj, Rh, Ir, tPD, tV]
  refine g _ ?_
  simp [Wa, Aj, ht]
theorem qA8 (hΓ : GOk Γ) {c : B9} (hc : NOk c) (p : Pat) (hP : POk c p) (hp1 : p.inn.nl = some true → p.inn.l = []) (hp2 : p.st.nl = some true → p.st.l = []) (i2 : Sl Int) (h1 : i2.l.length = p.inn.l.length) (h2 : ∀ v ∈ i2.l, V4 v) (h3 : i2.nl = some true → i2.l = []) :
    Ag Tryz.prog Γ 46 [.agg (tC c), .agg (tP p), tV i2] (.tup [.agg [tV (cpV p.inn), tV (cpV p.st), tV (cpV i2), tV (cpV ⟨Ly c (Ox c p.inn.l p.st.l), some (Ly c (Ox c p.inn.l p.st.l)).length, none⟩)], tI 0]) := by
  refine Ap q1n rfl ?_
  have hn2 := hc.n2
  have hil := Kp c
  have hsl := Ht c
  have hpi := hP.i
  have hps := hP.s
  have e1 := qIM (Γ := Γ) hΓ hc hP
  have e2 := Dm (Γ := Γ) i2.l i2.cap i2.nl 77 [] Bj (fun x _ => q2y x) (by omega)
  have hany : i2.l.any Bj = false := List.any_eq_false.2 fun v hv => by have := (h2 v hv).2; simp [Bj]; omega
  rw [hany] at e2
  have e3 := Yr (Γ := Γ) p hp1 hp2 (by omega)
  have hnl : (Ly c (Ox c p.inn.l p.st.l)).length ≤ 16 := by rw [qE8]; omega
  generalize Ly c (Ox c p.inn.l p.st.l) = N at *
  have e4 := Yr (Γ := Γ) ⟨i2, ⟨N, some N.length, none⟩⟩ h3 (fun h => nomatch h) (by show i2.l.length ≤ _ ∧ N.length ≤ _; omega)
  generalize q7r c (Ox c p.inn.l p.st.l) = O at *
  generalize Ox c p.inn.l p.st.l = M at *
  have h1' : (i2.l.length : Int) = p.inn.l.length := by omega
  generalize cpV p.inn = a at *
  generalize cpV p.st = b at *
  generalize cpV i2 = a2 at *
  simp only at e4
  generalize cpV ⟨N, some N.length, none⟩ = b2 at *
  simp [tC, Ab, Af, Am, As, tP, tV, M7] at e1 e2 e3 e4
  simp [Um, tC, Ab, Af, Am, As, tP, tV]
  refine A8 e1 rfl ?_
  simp [A0, h1, h1']
  refine A3 e2 rfl ?_
  simp
  refine A8 e3 rfl ?_
  simp
  refine A8 e4 rfl ?_
  simp [Un, Aj]
theorem q8F {c : B9} {chs : Sl (Sl Int)} (hsc : q3H c chs.l) {p : Pat} (hP : POk c p) : ∀ x ∈ Ri chs.l (A6 c) p.inn.l p.st.l, x.length = (Bi (scC c chs.l)).length ∧ ∀ v ∈ x, V4 v := by
  have z0 : V4 0 := by simp [V4]
  have z1 : V4 1 := by simp [V4]
  have hload4 : ∀ r ∈ M4 chs.l (A6 c) p.st.l, ∀ v ∈ r, V4 v := by
    intro r hr v hv
    obtain ⟨t, _, rfl⟩ := List.mem_map.1 hr
    obtain ⟨s, _, rfl⟩ := List.mem_map.1 hv
    unfold Qo
    split
    · have key : ∀ (Z : List (Int × Int)) (x : Int), (∀ q ∈ Z, V4 q.2) → V4 (q5q 0 x Z) := by
        intro Z x
        induction Z with
        | nil => intro _; exact z0
        | cons a Z ih =>
          intro h
          simp only [q5q]
          split
          · exact h a List.mem_cons_self
          · exact ih fun q hq => h q (List.mem_cons_of_mem _ hq)
      refine key _ _ fun q hq => ?_
      have := (List.of_mem_zip (show (q.1, q.2) ∈ (A6 c).zip (p.st.l.map Bn) from hq)).2
      obtain ⟨y, hy, e⟩ := List.mem_map.1 this
      have h4 := hP.vs y hy
      rw [← e]
      unfold Bn V4 at *
      split <;> omega
    · exact z0
  have hz4 : ∀ n, ∀ v ∈ Ai n, V4 v := fun n v hv => by rw [List.eq_of_mem_replicate hv]; exact z0
  have hrow : ∀ x ∈ Ri chs.l (A6 c) p.inn.l p.st.l, x.length = (Bi (scC c chs.l)).length ∧ ∀ v ∈ x, V4 v := by
    intro x hx
    unfold Ri at hx
    have hcyc : ∀ (a : List Int) (e : Int) (b : List Int), a.length = (Bi c).length → b.length = chs.l.length → (∀ v ∈ a, V4 v) → V4 e → (∀ v ∈ b, V4 v) → (a ++ ([e] ++ b)).length = (Bi (scC c chs.l)).length ∧ ∀ v ∈ a ++ ([e] ++ b), V4 v := fun a e b h1 h2 h3 h4 h5 =>
      ⟨q84 hsc h1 h2, fun v hv => by
        rcases List.mem_append.1 hv with hv | hv
        · exact h3 v hv
        · rcases List.mem_append.1 hv with hv | hv
          · simp at hv; subst hv; exact h4
          · exact h5 v hv⟩
    rcases List.mem_append.1 hx with hx | hx
    · obtain ⟨r, hr, rfl⟩ := List.mem_map.1 hx
      exact hcyc _ _ _ (by rw [Cm, hP.i]) (q8A r hr) (hz4 _) z1 (hload4 r hr)
    · rcases List.mem_append.1 hx with hx | hx
      · simp only [List.mem_singleton] at hx
        subst hx
        exact hcyc _ _ _ hP.i Cm hP.vi z0 (hz4 _)
      · rw [List.eq_of_mem_replicate hx]
        exact hcyc _ _ _ (by rw [Cm, hP.i]) Cm (hz4 _) z1 (hz4 _)
  exact hrow
theorem qBO {c : B9} {ch : List (Sl Int)} (hsc : q3H c ch) {w : Int} {pin sc : List Int} (h1 : pin.length = (Bi c).length) (h2 : ∀ v ∈ pin, V4 v) (h3 : w ≠ 0 → sc.length = ch.length) (h4 : ∀ v ∈ sc, V4 v) : (Sz w ch.length pin sc).length = (Bi (scC c ch)).length ∧ ∀ v ∈ Sz w ch.length pin sc, V4 v := by
  have z0 : V4 0 := by simp [V4]
  have z1 : V4 1 := by simp [V4]
  unfold Sz
  split
  · refine ⟨q84 hsc h1 Cm, fun v hv => ?_⟩
    rcases List.mem_append.1 hv with hv | hv
    · exact h2 v hv
    · rcases List.mem_append.1 hv with hv | hv
      · simp at hv; subst hv; exact z0
      · rw [List.eq_of_mem_replicate hv]; exact z0
  · rename_i h
    refine ⟨q84 hsc h1 (h3 h), fun v hv => ?_⟩
    rcases List.mem_append.1 hv with hv | hv
    · exact h2 v hv
    · rcases List.mem_append.1 hv with hv | hv
      · simp at hv; subst hv; exact z1
      · exact h4 v hv
theorem qBP {c : B9} {chs : Sl (Sl Int)} (hsc : q3H c chs.l) {p : Pat} (hP : POk c p) {row : List Int} (hr : row.length = (Bi (scC c chs.l)).length ∧ ∀ v ∈ row, V4 v) : ∀ x ∈ M5 chs.l (A6 c) p.inn.l p.st.l row, x.length = (Bi (scC c chs.l)).length ∧ ∀ v ∈ x, V4 v := by
  intro x hx
  unfold M5 at hx
  rcases List.mem_append.1 hx with hx | hx
  · rcases List.mem_append.1 hx with hx | hx
    · exact q8F hsc hP x (List.mem_of_mem_take hx)
    · simp at hx; subst hx; exact hr
  · exact q8F hsc hP x (List.mem_of_mem_drop hx)
def atZ : List Int → Nat → List (Int × Int)
  | [], _ => []
  | x :: l, i => (x, (i : Int)) :: atZ l (i + 1)
theorem qA9 : ∀ {l : List Int} {i : Nat}, (atZ l i).length = l.length
  | [], _ => rfl
  | x :: l, i => by simp only [atZ, List.length_cons]; rw [qA9]
theorem qBQ : ∀ (l : List Int) (i : Nat), (atZ l i).map (·.1) = l
  | [], _ => rfl
  | x :: l, i => by simp only [atZ, List.map_cons]; rw [qBQ]
theorem qDA : ∀ (l : List Int) (i j : Nat) (h : j < l.length), (atZ l i)[j]? = some (l.getD j 0, ((i + j : Nat) : Int))
  | [], _, _, h => absurd h (Nat.not_lt_zero _)
  | x :: l, i, 0, _ => rfl
  | x :: l, i, j + 1, h => by
    simp only [atZ, List.getElem?_cons_succ, List.getD_cons_succ]
    rw [qDA l (i + 1) j (by simpa using h)]
    congr 3; omega
theorem qBR {l : List Int} {j : Nat} (h : j < l.length) : (atZ l 0).take (j + 1) = (atZ l 0).take j ++ [(l.getD j 0, (j : Int))] := by
  rw [List.take_add_one, qDA l 0 j h]
  simp
theorem qDB {l : List Int} (hd : l.Nodup) {j : Nat} (h : j < l.length) : l.getD j 0 ∉ ((atZ l 0).take j).map (·.1) := by
  rw [List.map_take, qBQ]
  intro hm
  obtain ⟨q, hq, e⟩ := List.getElem_of_mem hm
  rw [List.length_take] at hq
  rw [List.getElem_take, List.getD_eq_getElem?_getD, List.getElem?_eq_getElem h] at e
  exact List.pairwise_iff_getElem.1 hd q j (by omega) h (by omega) e
theorem qFe : ∀ (l : List Int) (i j : Nat), l.Nodup → j < l.length → q5q 0 (l.getD j 0) (atZ l i) = ((i + j : Nat) : Int)
  | [], _, _, _, h => absurd h (Nat.not_lt_zero _)
  | x :: l, i, 0, _, _ => by simp [atZ, q5q]
  | x :: l, i, j + 1, hd, h => by
    have h' : j < l.length := by simpa using h
    simp only [atZ, List.getD_cons_succ, q5q]
    rw [if_neg, qFe l (i + 1) j (List.nodup_cons.1 hd).2 h']
    · congr 1; omega
    · intro e
      apply (List.nodup_cons.1 hd).1
      rw [← e, List.getD_eq_getElem?_getD, List.getElem?_eq_getElem h']
      exact List.getElem_mem _
theorem qFf {Q : AX → St → Prop} (t1 t2 t3 : T) (st : List Int) (sc : Option Nat) (sn : Option Bool) (hd : st.Nodup) (hst : st.length ≤ 1000000)
    (h0 : Q (.exit 0) ⟨[(1, .t t1), (2, .t t2), (3, .t t3), (9, .t (.sl (Ak st) sc sn)), (10, .lm 21), (22, .t (.sl (Ak st) sc sn)), (23, .t (tI st.length)), (24, .t (tI st.length)), (25, .t (tB false))], [(21, .mp (mpE tI (atZ st 0)))]⟩) :
    ∀ (k i : Nat), k + i = st.length →
    run Tryz.prog Γ Gu Q ⟨[(1, .t t1), (2, .t t2), (3, .t t3), (9, .t (.sl (Ak st) sc sn)), (10, .lm 21), (22, .t (.sl (Ak st) sc sn)), (23, .t (tI st.length)), (24, .t (tI i))], [(21, .mp (mpE tI ((atZ st 0).take i)))]⟩
  | 0, i, h => by
    refine Oc fun K hK => ?_
    have h2 : i = st.length := by omega
    subst h2
    rw [List.take_of_length_le (by rw [qA9]; exact Nat.le_refl _)]
    simp
    simpa using h0
  | k + 1, i, h => by
    refine Oc fun K hK => ?_
    have h2 : i < st.length := by omega
    have ih := qFf t1 t2 t3 st sc sn hd hst h0 k (i + 1) (by omega)
    rw [qBR h2] at ih
    have hn := qDB hd h2
    have e1 := gE (f := tI) 0 h2
    have e1' := gE' (f := tI) 0 h2
    have w1 : IntKind.i64.wrap ((i : Int) + 1) = (i : Int) + 1 := by rw [A5] <;> omega
    generalize (atZ st 0).take i = Z at *
    generalize st.getD i 0 = x at *
    have em := q6t (f := tI) x (i : Int) Z hn
    have ef := q0i (f := tI) Z
    generalize mpE tI Z = M at *
    simp [A0, A9, h2, e1, e1', w1]
    simp [em, ef, KT.fits, w1]
    rw [hK]
    simpa using ih
def q58 (st pst : List Int) : List Int → Int → List Int → List Int
  | [], _, out => out
  | n :: l, v, out => q58 st pst l (Bn (pst.getD (st.idxOf n) 0)) (out.set (st.idxOf n) v)
theorem q6v {st : List Int} (hd : st.Nodup) {n : Int} (h : n ∈ st) : q5q 0 n (atZ st 0) = ((st.idxOf n : Nat) : Int) := by
  have h1 := List.idxOf_lt_length_iff.2 h
  have := qFe st 0 (st.idxOf n) hd h1
  rw [Nat.zero_add] at this
  rw [← this]
  congr 1
  rw [List.getD_eq_getElem?_getD, List.getElem?_eq_getElem h1]
  exact (List.getElem_idxOf h1).symm
theorem qFg {Q : AX → St → Prop} (t3 t36 t37 t38 : T) (st : List Int) (hd : st.Nodup) (hst : st.length ≤ 1000000) (ps : Sl Int) (hps : ps.l.length = st.length) (s : Sl Int) (hs : s.l.length ≤ 1000000) (hm : ∀ n ∈ s.l, n ∈ st) (R : List Int)
    (h0 : ∀ v, Q (.exit 4) ⟨[(2, .t (tV ps)), (3, .t t3), (10, .lm 21), (13, .ls 35 0 st.length none), (16, .t (tK v)), (36, .t t36), (37, .t t37), (38, .t t38), (48, .t (As s)), (49, .t (tI s.l.length)), (50, .t (tI s.l.length)), (51, .t (tB false))], [(21, .mp (mpE tI (atZ st 0))), (35, .sl 68 1 (Av R))]⟩) :
    ∀ (k i : Nat) (v : Int) (out : List Int), k + i = s.l.length → out.length = st.length → q58 st ps.l (s.l.drop i) v out = R →
    run Tryz.prog Γ Gv Q ⟨[(2, .t (tV ps)), (3, .t t3), (10, .lm 21), (13, .ls 35 0 st.length none), (16, .t (tK v)), (36, .t t36), (37, .t t37), (38, .t t38), (48, .t (As s)), (49, .t (tI s.l.length)), (50, .t (tI i))], [(21, .mp (mpE tI (atZ st 0))), (35, .sl 68 1 (Av out))]⟩
  | 0, i, v, out, h, ho, hR => by
    refine Oe fun K hK => ?_
    have h2 : i = s.l.length := by omega
    subst h2
    rw [List.drop_of_length_le (Nat.le_refl _)] at hR
    have hR : out = R := hR
    subst hR
    have := h0 v
    simp [As, tV] at this
    simp [As, tV]
    simpa using this
  | k + 1, i, v, out, h, ho, hR => by
    refine Oe fun K hK => ?_
    have h2 : i < s.l.length := by omega
    rw [List.drop_eq_getElem_cons h2] at hR
    simp only [q58] at hR
    have ih := qFg t3 t36 t37 t38 st hd hst ps hps s hs hm R h0 k (i + 1) _ _ (by omega) (by rw [List.length_set]; exact ho) hR
    have e1 := gE (f := tI) 0 h2
    have e1' := gE' (f := tI) 0 h2
    have hx : s.l.getD i 0 = s.l[i] := by simp [List.getD_eq_getElem?_getD, h2]
    rw [hx] at e1 e1'
    have hmem := hm _ (List.getElem_mem h2)
    have hat := q6v hd hmem
    have hj := List.idxOf_lt_length_iff.2 hmem
    have w1 : IntKind.i64.wrap ((i : Int) + 1) = (i : Int) + 1 := by rw [A5] <;> omega
    generalize s.l[i] = x at *
    have em := q0I (f := tI) 0 x (atZ st 0)
    rw [hat] at em
    have ef := q0i (f := tI) (atZ st 0)
    generalize mpE tI (atZ st 0) = M at *
    generalize st.idxOf x = j at *
    have hjp : j < ps.l.length := by omega
    have e2 := gE (f := tK) 0 hjp
    have e2' := gE' (f := tK) 0 hjp
    generalize ps.l.getD j 0 = y at *
    have es1 : (Av out).set j [tK v] = Av (out.set j v) := F6
    simp [As, tV] at ih
    simp [As, tV, A0, A9, h2, e1, e1', e2, e2', em, ef, KT.fits, hj, hjp, ho, w1]
    refine A3 (Hg y) rfl ?_
    simp [h2, hj, ho, A0, A9, es1, w1]
    rw [hK]
    simpa using ih
theorem q2l {st pst : List Int} : ∀ {l : List Int} {v : Int} {out : List Int}, (q58 st pst l v out).length = out.length
  | [], _, _ => rfl
  | n :: l, v, out => by simp only [q58]; rw [q2l, List.length_set]
def Iz (st pst : List Int) : List (Sl Int) → List Int → List Int → List Int
  | [], _, out => out
  | s :: l, [], out => Iz st pst l [] (q58 st pst s.l 0 out)
  | s :: l, v :: vs, out => Iz st pst l vs (q58 st pst s.l (Bn v) out)
theorem qCW {st pst : List Int} {l : List (Sl Int)} {s : Sl Int} {vs : List Int} {out : List Int} (h : vs ≠ []) : Iz st pst (s :: l) vs out = Iz st pst l (vs.drop 1) (q58 st pst s.l (Bn (vs.getD 0 0)) out) := by
  cases vs with
  | nil => exact absurd rfl h
  | cons v vs => rfl
theorem Vx {st pst : List Int} : ∀ {l : List (Sl Int)} {vs out : List Int}, (Iz st pst l vs out).length = out.length
  | [], _, _ => rfl
  | s :: l, [], out => by simp only [Iz]; rw [Vx, q2l]
  | s :: l, v :: vs, out => by simp only [Iz]; rw [Vx, q2l]
theorem qFh {Q : AX → St → Prop} (chs : Sl (Sl Int)) (hch : chs.l.length ≤ 1000000) (hcs : ∀ s ∈ chs.l, s.l.length ≤ 1000000) (st : List Int) (hm : ∀ s ∈ chs.l, ∀ n ∈ s.l, n ∈ st) (hd : st.Nodup) (hst : st.length ≤ 1000000) (ps : Sl Int) (hps : ps.l.length = st.length) (sc : Sl Int) (hsc : sc.l.length = chs.l.length) (R : List Int)
    (h0 : Q (.exit 2) ⟨[(2, .t (tV ps)), (3, .t (tV sc)), (10, .lm 21), (13, .ls 35 0 st.length none), (36, .t (Bc chs)), (37, .t (tI chs.l.length)), (38, .t (tI chs.l.length)), (39, .t (tB false))], [(21, .mp (mpE tI (atZ st 0))), (35, .sl 68 1 (Av R))]⟩) :
    ∀ (k i : Nat) (out : List Int), k + i = chs.l.length → out.length = st.length → Iz st ps.l (chs.l.drop i) (sc.l.drop i) out = R →
    run Tryz.prog Γ Gw Q ⟨[(2, .t (tV ps)), (3, .t (tV sc)), (10, .lm 21), (13, .ls 35 0 st.length none), (36, .t (Bc chs)), (37, .t (tI chs.l.length)), (38, .t (tI i))], [(21, .mp (mpE tI (atZ st 0))), (35, .sl 68 1 (Av out))]⟩
  | 0, i, out, h, ho, hR => by
    refine Og fun K hK => ?_
    have h2 : i = chs.l.length := by omega
    subst h2
    rw [List.drop_of_length_le (Nat.le_refl _)] at hR
    have hR : out = R := hR
    subst hR
    simp [Bc, tV] at h0
    simp [Bc, tV]
    simpa using h0
  | k + 1, i, out, h, ho, hR => by
    refine Og fun K hK => ?_
    have h2 : i < chs.l.length := by omega
    have h3 : i < sc.l.length := by omega
    rw [List.drop_eq_getElem_cons h2, qCW (by rw [List.drop_eq_getElem_cons h3]; exact fun h => nomatch h), List.drop_drop] at hR
    have hg : (sc.l.drop i).getD 0 0 = sc.l.getD i 0 := by rw [List.getD_eq_getElem?_getD, List.getElem?_drop, List.getD_eq_getElem?_getD, Nat.add_zero]
    rw [hg] at hR
    have ih := qFh chs hch hcs st hm hd hst ps hps sc hsc R h0 k (i + 1) _ (by omega) (by rw [q2l]; exact ho) hR
    have e1 := gE (f := As) slD h2
    have e1' := gE' (f := As) slD h2
    have hx : chs.l.getD i slD = chs.l[i] := by simp [List.getD_eq_getElem?_getD, h2]
    rw [hx] at e1 e1'
    have hms := hm _ (List.getElem_mem h2)
    have hls := hcs _ (List.getElem_mem h2)
    have e2 := gE (f := tK) 0 h3
    have e2' := gE' (f := tK) 0 h3
    generalize chs.l[i] = s at *
    generalize sc.l.getD i 0 = v at *
    have w1 : IntKind.i64.wrap ((i : Int) + 1) = (i : Int) + 1 := by rw [A5] <;> omega
    have g3 := fun Q t3 t36 t37 t38 h0 => qFg (Γ := Γ) (Q := Q) t3 t36 t37 t38 st hd hst ps hps s hls hms _ h0 s.l.length 0 (Bn v) out (by omega) ho rfl
    simp only [List.drop_zero] at g3
    generalize q58 st ps.l s.l (Bn v) out = out2 at *
    simp [As, tV] at g3
    simp only [As] at e1 e1'
    simp [Bc, tV] at ih
    simp [Bc, tV, A0, A9, h2, h3, e1, e1', e2, e2', w1]
    refine A3 (Hg v) rfl ?_
    simp [A0]
    refine g3 _ _ _ _ _ (fun w => ?_)
    simp [w1]
    rw [hK]
    simpa using ih
theorem qAA (c : B9) (hc : COk c) (chs : Sl (Sl Int)) (hch : chs.l.length ≤ 1000000) (hcs : ∀ s ∈ chs.l, s.l.length ≤ 1000000) (hm : ∀ s ∈ chs.l, ∀ n ∈ s.l, n ∈ A6 c) (hst : (A6 c).length ≤ 1000000) (ps : Sl Int) (hps : ps.l.length = (A6 c).length) (sc : Sl Int) (hsc : sc.l.length = chs.l.length) :
    Ag Tryz.prog Γ 79 [.agg (tC c), Bc chs, tV ps, tV sc] (.sl (Av (Iz (A6 c) ps.l chs.l sc.l (Ai (A6 c).length))) none none) := by
  refine Ap q1m rfl ?_
  have e1 := Dl (Γ := Γ) c hc
  have hd : (A6 c).Nodup := (J0 [14] c.nodes.l 0).2
  have hz2 : Av (Ai (A6 c).length) = List.replicate (A6 c).length [tK 0] := by simp [Ai, Ad]
  have g1 := fun Q t1 t2 t3 sc sn h0 => qFf (Γ := Γ) (Q := Q) t1 t2 t3 (A6 c) sc sn hd hst h0 (A6 c).length 0 (by omega)
  have g5 := fun Q h0 => qFh (Γ := Γ) (Q := Q) chs hch hcs (A6 c) hm hd hst ps hps sc hsc (Iz (A6 c) ps.l chs.l sc.l (Ai (A6 c).length)) h0 chs.l.length 0 (Ai (A6 c).length) (by omega) Cm (by simp)
  have hRl : (Iz (A6 c) ps.l chs.l sc.l (Ai (A6 c).length)).length = (A6 c).length := by rw [Vx, Cm]
  have htk : (Av (Iz (A6 c) ps.l chs.l sc.l (Ai (A6 c).length))).take (A6 c).length = Av (Iz (A6 c) ps.l chs.l sc.l (Ai (A6 c).length)) := List.take_of_length_le (by rw [A0]; omega)
  rw [hz2] at g5
  generalize Iz (A6 c) ps.l chs.l sc.l (Ai (A6 c).length) = R at *
  generalize A6 c = st at *
  simp [tC, Ab, Af, Am, As] at e1
  simp [Bc, tV] at g5
  have hE0 : mpE tI ([] : List (Int × Int)) = [] := rfl
  simp [hE0] at g1
  simp [Uk, tC, Ab, Af, Am, As, Bc, tV]
  refine A8 e1 rfl ?_
  simp [A0]
  refine g1 _ _ _ _ _ _ ?_
  simp [A0]
  refine ⟨by omega, ?_⟩
  refine g5 _ ?_
  simp [Ul, Aj, htk]
theorem q8G (hΓ : GOk Γ) {c : B9} (hc : NOk c) {chs : Sl (Sl Int)} {s : Nat → List (List T)} {k : Nat → Option Nat} {n : Nat → Option Bool} {en : Int} (hI : qCS Γ c chs s k n en 0) (hm : ∀ s ∈ chs.l, ∀ n ∈ s.l, n ∈ A6 c) (p : Pat) (hP : POk c p) (hp1 : p.inn.nl = some true → p.inn.l = []) (hp2 : p.st.nl = some true → p.st.l = []) (i2 : Sl Int) (h1 : i2.l.length = p.inn.l.length) (h2 : ∀ v ∈ i2.l, V4 v) (h3 : i2.nl = some true → i2.l = []) (sc : Sl Int) (h4 : sc.l.length = chs.l.length) (h5 : ∀ v ∈ sc.l, V4 v) :
    Ag Tryz.prog Γ 24 [.agg (tC c), Bc chs, .agg (tP p), tV i2, tV sc] (.tup [.agg [tV (cpV p.inn), tV (cpV p.st), tV (cpV i2), tV (cpV ⟨Iz (A6 c) p.st.l chs.l sc.l (Ai (A6 c).length), none, none⟩)], tI 0]) := by
  refine Ap q3r rfl ?_
  have hn2 := hc.n2
  have hil := Kp c
  have hsl := Ht c
  have hpi := hP.i
  have hps := hP.s
  have hcl := hI.chl
  have e0 := hI.call
  have av : ∀ {l : List Int}, (∀ v ∈ l, V4 v) → l.any Bj = false := fun h => List.any_eq_false.2 fun v hv => by have := (h v hv).2; simp [Bj]; omega
  have e1 := q8b (Γ := Γ) hΓ c hc.ok p (by omega)
  have q1 : qA7 c p = 0 := by
    unfold qA7 Qb
    rw [if_neg (by simp [hc.lev]), if_neg (by simp [hc.mm, hc.m0]), if_neg (by simp [hpi, hps]), av hP.vi, av hP.vs]
    rfl
  rw [q1] at e1
  have e2 := Dm (Γ := Γ) i2.l i2.cap i2.nl 77 [] Bj (fun x _ => q2y x) (by omega)
  rw [av h2] at e2
  have e2' := Dm (Γ := Γ) sc.l sc.cap sc.nl 77 [] Bj (fun x _ => q2y x) (by omega)
  rw [av h5] at e2'
  have e3 := Yr (Γ := Γ) p hp1 hp2 (by omega)
  have e5 := qAA (Γ := Γ) c hc.ok chs hcl hI.cs hm hI.st p.st hps sc h4
  have hSl : (Iz (A6 c) p.st.l chs.l sc.l (Ai (A6 c).length)).length = (A6 c).length := by rw [Vx, Cm]
  generalize Iz (A6 c) p.st.l chs.l sc.l (Ai (A6 c).length) = N at *
  have e4 := Yr (Γ := Γ) ⟨i2, ⟨N, none, none⟩⟩ h3 (fun h => nomatch h) (by show i2.l.length ≤ _ ∧ N.length ≤ _; omega)
  have h1' : (i2.l.length : Int) = p.inn.l.length := by omega
  have h4' : (sc.l.length : Int) = chs.l.length := by omega
  generalize cpV p.inn = a at *
  generalize cpV p.st = b at *
  generalize cpV i2 = a2 at *
  simp only at e4
  generalize cpV ⟨N, none, none⟩ = b2 at *
  simp [tC, Ab, Af, Am, As, Bc, tP, tV, M7] at e0 e1 e2 e2' e3 e4 e5
  simp [Xw, tC, Ab, Af, Am, As, Bc, tP, tV]
  refine A8 e0 rfl ?_
  simp
  refine A3 e1 rfl ?_
  simp [A0, h1, h1', h4, h4']
  refine A3 e2 rfl ?_
  simp
  refine A3 e2' rfl ?_
  simp
  refine A8 e3 rfl ?_
  simp
  refine A8 e5 rfl ?_
  simp
  refine A8 e4 rfl ?_
  simp [Xx, Aj]
theorem qHJ {Q : AX → St → Prop} (t1 t2 t7 : T) (st : List Int) (sc : Option Nat) (sn : Option Bool) (hd : st.Nodup) (hst : st.length ≤ 1000000)
    (h0 : Q (.exit 0) ⟨[(1, .t t1), (2, .t t2), (7, .t t7), (11, .lm 28), (30, .t (.sl (Ak st) sc sn)), (31, .t (tI st.length)), (32, .t (tI st.length)), (33, .t (tB false))], [(28, .mp (mpE tI (atZ st 0)))]⟩) :
    ∀ (k i : Nat), k + i = st.length →
    run Tryz.prog Γ I2 Q ⟨[(1, .t t1), (2, .t t2), (7, .t t7), (11, .lm 28), (30, .t (.sl (Ak st) sc sn)), (31, .t (tI st.length)), (32, .t (tI i))], [(28, .mp (mpE tI ((atZ st 0).take i)))]⟩
  | 0, i, h => by
    refine Pi fun K hK => ?_
    have h2 : i = st.length := by omega
    subst h2
    rw [List.take_of_length_le (by rw [qA9]; exact Nat.le_refl _)]
    simp
    simpa using h0
  | k + 1, i, h => by
    refine Pi fun K hK => ?_
    have h2 : i < st.length := by omega
    have ih := qHJ t1 t2 t7 st sc sn hd hst h0 k (i + 1) (by omega)
    rw [qBR h2] at ih
    have hn := qDB hd h2
    have e1 := gE (f := tI) 0 h2
    have e1' := gE' (f := tI) 0 h2
    have w1 : IntKind.i64.wrap ((i : Int) + 1) = (i : Int) + 1 := by rw [A5] <;> omega
    generalize (atZ st 0).take i = Z at *
    generalize st.getD i 0 = x at *
    have em := q6t (f := tI) x (i : Int) Z hn
    have ef := q0i (f := tI) Z
    generalize mpE tI Z = M at *
    simp [A0, A9, h2, e1, e1', w1]
    simp [em, ef, KT.fits, w1]
    rw [hK]
    simpa using ih
def q2m (st pst : List Int) : List Int → List Int → List Int
  | [], out => out
  | [n], out => out.set (st.idxOf n) 2
  | n :: m :: l, out => q2m st pst (m :: l) ((out.set (st.idxOf n) 2).set (st.idxOf n) (Bn (pst.getD (st.idxOf m) 0)))
theorem q59 {st pst : List Int} : ∀ {l out : List Int}, (q2m st pst l out).length = out.length
  | [], _ => rfl
  | [n], _ => by simp [q2m]
  | n :: m :: l, out => by simp only [q2m]; rw [q59, List.length_set, List.length_set]
theorem qFi {Q : AX → St → Prop} (r61 : Bf) (t44 t45 t46 : T) (st : List Int) (hd : st.Nodup) (hst : st.length ≤ 1000000) (ps : Sl Int) (hps : ps.l.length = st.length) (s : Sl Int) (hs : s.l.length ≤ 1000000) (hm : ∀ n ∈ s.l, n ∈ st) (k7 : Nat) (L61 : List Int) (R : List Int)
    (h0 : Q (.exit 4) ⟨[(2, .t (tV ps)), (6, .ls 43 0 st.length none), (7, .ls 61 0 k7 none), (11, .lm 28), (15, .t (As s)), (44, .t t44), (45, .t t45), (46, .t t46), (62, .t (As s)), (63, .t (tI s.l.length)), (64, .t (tI s.l.length)), (65, .t (tB false))], [(28, .mp (mpE tI (atZ st 0))), (43, .sl 68 1 (Av R)), (61, .sl 68 1 (Av L61))]⟩) :
    ∀ (k i : Nat) (out : List Int), k + i = s.l.length → out.length = st.length → q2m st ps.l (s.l.drop i) out = R →
    run Tryz.prog Γ I3 Q ⟨[(2, .t (tV ps)), (6, .ls 43 0 st.length none), (7, .ls 61 0 k7 none), (11, .lm 28), (15, .t (As s)), (44, .t t44), (45, .t t45), (46, .t t46), (62, .t (As s)), (63, .t (tI s.l.length)), (64, .t (tI i))], [(28, .mp (mpE tI (atZ st 0))), (43, .sl 68 1 (Av out)), (61, .sl 68 1 (Av L61))]⟩
  | 0, i, out, h, ho, hR => by
    refine Pj fun K hK => ?_
    have h2 : i = s.l.length := by omega
    subst h2
    rw [List.drop_of_length_le (Nat.le_refl _)] at hR
    have hR : out = R := hR
    subst hR
    simp [As, tV] at h0
    simp [As, tV]
    simpa using h0
  | k + 1, i, out, h, ho, hR => by
    refine Pj fun K hK => ?_
    have h2 : i < s.l.length := by omega
    have e1 := gE (f := tI) 0 h2
    have e1' := gE' (f := tI) 0 h2
    have hx : s.l.getD i 0 = s.l[i] := by simp [List.getD_eq_getElem?_getD, h2]
    rw [hx] at e1 e1'
    have hmem := hm _ (List.getElem_mem h2)
    have hat := q6v hd hmem
    have hj := List.idxOf_lt_length_iff.2 hmem
    have w1 : IntKind.i64.wrap ((i : Int) + 1) = ((i + 1 : Nat) : Int) := by rw [A5] <;> omega
    have ef := q0i (f := tI) (atZ st 0)
    have em := q0I (f := tI) 0 s.l[i] (atZ st 0)
    rw [hat] at em
    rw [List.drop_eq_getElem_cons h2] at hR
    by_cases h3 : i + 1 < s.l.length
    · rw [List.drop_eq_getElem_cons h3] at hR
      simp only [q2m] at hR
      rw [← List.drop_eq_getElem_cons h3] at hR
      have ih := qFi r61 t44 t45 t46 st hd hst ps hps s hs hm k7 L61 R h0 k (i + 1) _ (by omega) (by rw [List.length_set, List.length_set]; exact ho) hR
      have e3 := gE (f := tI) 0 h3
      have e3' := gE' (f := tI) 0 h3
      have hx3 : s.l.getD (i + 1) 0 = s.l[i + 1] := by simp [List.getD_eq_getElem?_getD, h3]
      rw [hx3] at e3 e3'
      have hmem3 := hm _ (List.getElem_mem h3)
      have hat3 := q6v hd hmem3
      have hj3 := List.idxOf_lt_length_iff.2 hmem3
      have em3 := q0I (f := tI) 0 s.l[i + 1] (atZ st 0)
      rw [hat3] at em3
      generalize s.l[i] = x at *
      generalize s.l[i + 1] = x3 at *
      generalize mpE tI (atZ st 0) = M at *
      generalize st.idxOf x = j at *
      generalize st.idxOf x3 = j3 at *
      have hjp : j3 < ps.l.length := by omega
      have e2 := gE (f := tK) 0 hjp
      have e2' := gE' (f := tK) 0 hjp
      generalize ps.l.getD j3 0 = y at *
      have es1 : (Av out).set j [tK 2] = Av (out.set j 2) := F6
      have es2 : (Av (out.set j 2)).set j [tK (Bn y)] = Av ((out.set j 2).set j (Bn y)) := F6
      obtain ⟨i1, hi1⟩ : ∃ i1, i1 = i + 1 := ⟨_, rfl⟩
      rw [← hi1] at w1 h3 e3 e3' ih
      have h3' : (i1 : Int) < s.l.length := by omega
      simp [As, tV] at ih
      simp [As, tV, A0, A9, h2, h3, h3', e1, e1', e2, e2', e3, e3', em, em3, ef, KT.fits, hj, hj3, hjp, ho, w1, es1]
      refine A3 (Hg y) rfl ?_
      simp [h2, hj, ho, A0, A9, es1, es2, w1]
      rw [hK]
      simpa using ih
    · rw [List.drop_of_length_le (by omega)] at hR
      simp only [q2m] at hR
      have ih := qFi r61 t44 t45 t46 st hd hst ps hps s hs hm k7 L61 R h0 k (i + 1) (out.set (st.idxOf s.l[i]) 2) (by omega) (by rw [List.length_set]; exact ho) (by rw [List.drop_of_length_le (by omega)]; exact hR)
      generalize s.l[i] = x at *
      generalize mpE tI (atZ st 0) = M at *
      generalize st.idxOf x = j at *
      have es1 : (Av out).set j [tK 2] = Av (out.set j 2) := F6
      obtain ⟨i1, hi1⟩ : ∃ i1, i1 = i + 1 := ⟨_, rfl⟩
      rw [← hi1] at w1 h3 ih
      have h3' : ¬ (i1 : Int) < s.l.length := by omega
      simp [As, tV] at ih
      simp [As, tV, A0, A9, h2, h3, h3', e1, e1', em, ef, KT.fits, hj, ho, w1, es1]
      rw [hK]
      simpa using ih
def Hm (st pst : List Int) : List (Sl Int) → List Int → List Int
  | [], out => out
  | s :: l, out => Hm st pst l (q2m st pst s.l out)
def Dw (st pst : List Int) (l : List (Sl Int)) : List Int := l.map fun s => Bn (pst.getD (st.idxOf (s.l.getD 0 0)) 0)
theorem qHK {Q : AX → St → Prop} (chs : Sl (Sl Int)) (hch : chs.l.length ≤ 1000000) (hcs : ∀ s ∈ chs.l, s.l.length ≤ 1000000 ∧ s.l ≠ []) (st : List Int) (hm : ∀ s ∈ chs.l, ∀ n ∈ s.l, n ∈ st) (hd : st.Nodup) (hst : st.length ≤ 1000000) (ps : Sl Int) (hps : ps.l.length = st.length) (R : List Int)
    (h0 : Q (.exit 2) ⟨[(2, .t (tV ps)), (6, .ls 43 0 st.length none), (7, .ls 61 0 chs.l.length none), (11, .lm 28), (44, .t (Bc chs)), (45, .t (tI chs.l.length)), (46, .t (tI chs.l.length)), (47, .t (tB false))], [(28, .mp (mpE tI (atZ st 0))), (43, .sl 68 1 (Av R)), (61, .sl 68 1 (Av (Dw st ps.l chs.l)))]⟩) :
    ∀ (k i : Nat) (out : List Int), k + i = chs.l.length → out.length = st.length → Hm st ps.l (chs.l.drop i) out = R →
    run Tryz.prog Γ I4 Q ⟨[(2, .t (tV ps)), (6, .ls 43 0 st.length none), (7, .ls 61 0 i none), (11, .lm 28), (44, .t (Bc chs)), (45, .t (tI chs.l.length)), (46, .t (tI i))], [(28, .mp (mpE tI (atZ st 0))), (43, .sl 68 1 (Av out)), (61, .sl 68 1 (Av (Dw st ps.l (chs.l.take i))))]⟩
  | 0, i, out, h, ho, hR => by
    refine Pl fun K hK => ?_
    have h2 : i = chs.l.length := by omega
    subst h2
    rw [List.drop_of_length_le (Nat.le_refl _)] at hR
    rw [List.take_of_length_le (Nat.le_refl _)]
    have hR : out = R := hR
    subst hR
    simp [Bc, tV] at h0
    simp [Bc, tV]
    simpa using h0
  | k + 1, i, out, h, ho, hR => by
    refine Pl fun K hK => ?_
    have h2 : i < chs.l.length := by omega
    rw [List.drop_eq_getElem_cons h2] at hR
    simp only [Hm] at hR
    have ih := qHK chs hch hcs st hm hd hst ps hps R h0 k (i + 1) _ (by omega) (by rw [q59]; exact ho) hR
    have hsn : Dw st ps.l (chs.l.take (i + 1)) = Dw st ps.l (chs.l.take i) ++ [Bn (ps.l.getD (st.idxOf (chs.l[i].l.getD 0 0)) 0)] := by
      unfold Dw; rw [← List.take_append_getElem h2, List.map_append]; rfl
    rw [hsn] at ih
    have e1 := gE (f := As) slD h2
    have e1' := gE' (f := As) slD h2
    have hx : chs.l.getD i slD = chs.l[i] := by simp [List.getD_eq_getElem?_getD, h2]
    rw [hx] at e1 e1'
    have hms := hm _ (List.getElem_mem h2)
    have hls := hcs _ (List.getElem_mem h2)
    have hBl : (Dw st ps.l (chs.l.take i)).length = i := by simp [Dw]; omega
    generalize Dw st ps.l (chs.l.take i) = B at *
    generalize chs.l[i] = s at *
    have hp0 : 0 < s.l.length := List.length_pos_iff.2 hls.2
    have e2 := gE (f := tI) 0 hp0
    have e2' := gE' (f := tI) 0 hp0
    have hmem : s.l.getD 0 0 ∈ st := hms _ (by rw [List.getD_eq_getElem?_getD, List.getElem?_eq_getElem hp0]; exact List.getElem_mem _)
    have hat := q6v hd hmem
    have hj := List.idxOf_lt_length_iff.2 hmem
    have ef := q0i (f := tI) (atZ st 0)
    have em := q0I (f := tI) 0 (s.l.getD 0 0) (atZ st 0)
    rw [hat] at em
    have w1 : IntKind.i64.wrap ((i : Int) + 1) = (i : Int) + 1 := by rw [A5] <;> omega
    generalize s.l.getD 0 0 = x at *
    generalize st.idxOf x = j at *
    have hjp : j < ps.l.length := by omega
    have e3 := gE (f := tK) 0 hjp
    have e3' := gE' (f := tK) 0 hjp
    generalize ps.l.getD j 0 = y at *
    have g3 := fun Q t44 t45 t46 h0 => qFi (Γ := Γ) (Q := Q) (.bx []) t44 t45 t46 st hd hst ps hps s hls.1 hms (i + 1) (B ++ [Bn y]) _ h0 s.l.length 0 out (by omega) ho rfl
    simp only [List.drop_zero] at g3
    generalize q2m st ps.l s.l out = out2 at *
    have vt : (Av B).take i = Av B := by rw [← hBl]; exact J2
    have vs := J1 (l := B) (v := Bn y)
    generalize mpE tI (atZ st 0) = M at *
    simp [As, tV] at g3
    simp only [As] at e1 e1'
    simp [Bc, tV] at ih
    simp [Bc, tV, A0, A9, h2, e1, e1', hp0, e2, e2', hj, hjp, e3, e3', em, ef, KT.fits, w1]
    refine A3 (Hg y) rfl ?_
    simp [A0, vt, vs, hBl]
    refine ⟨by omega, ?_⟩
    refine g3 _ _ _ _ ?_
    simp [w1]
    rw [hK]
    simpa using ih
theorem q5u {st pst : List Int} : ∀ {l : List (Sl Int)} {out : List Int}, (Hm st pst l out).length = out.length
  | [], _ => rfl
  | s :: l, out => by simp only [Hm]; rw [q5u, q59]
theorem q6O {c : B9} {chs : Sl (Sl Int)} {s : Nat → List (List T)} {k : Nat → Option Nat} {n : Nat → Option Bool} {en : Int} (hI : qCS Γ c chs s k n en 0) (hne : ∀ s ∈ chs.l, s.l ≠ []) (hm : ∀ s ∈ chs.l, ∀ n ∈ s.l, n ∈ A6 c) (ps : Sl Int) (hps : ps.l.length = (A6 c).length) (hv : ∀ v ∈ ps.l, V4 v) :
    Ag Tryz.prog Γ 23 [.agg (tC c), Bc chs, tV ps] (.tup [.sl (Av (Hm (A6 c) ps.l chs.l (Ai (A6 c).length))) none none, .sl (Av (Dw (A6 c) ps.l chs.l)) (some chs.l.length) none, tI 0]) := by
  refine Ap q31 rfl ?_
  have hst := hI.st
  have hcl := hI.chl
  have e0 := qCT hI ps (by omega)
  have q1 : L6 ps.l (A6 c).length = 0 := by
    unfold L6
    rw [if_neg (by simp [hps]), List.any_eq_false.2 fun v h => by have := (hv v h).2; simp [Bj]; omega]
    rfl
  simp only [q1] at e0
  have e1 := Dl (Γ := Γ) c hI.ok
  have hd : (A6 c).Nodup := (J0 [14] c.nodes.l 0).2
  have hz2 : Av (Ai (A6 c).length) = List.replicate (A6 c).length [tK 0] := by simp [Ai, Ad]
  have g1 := fun Q t1 t2 t7 sc sn h0 => qHJ (Γ := Γ) (Q := Q) t1 t2 t7 (A6 c) sc sn hd hst h0 (A6 c).length 0 (by omega)
  have g5 := fun Q h0 => qHK (Γ := Γ) (Q := Q) chs hcl (fun s h => ⟨hI.cs s h, hne s h⟩) (A6 c) hm hd hst ps hps (Hm (A6 c) ps.l chs.l (Ai (A6 c).length)) h0 chs.l.length 0 (Ai (A6 c).length) (by omega) Cm (by simp)
  have hRl : (Hm (A6 c) ps.l chs.l (Ai (A6 c).length)).length = (A6 c).length := by rw [q5u, Cm]
  have hSl : (Dw (A6 c) ps.l chs.l).length = chs.l.length := by simp [Dw]
  have htk : (Av (Hm (A6 c) ps.l chs.l (Ai (A6 c).length))).take (A6 c).length = Av (Hm (A6 c) ps.l chs.l (Ai (A6 c).length)) := List.take_of_length_le (by rw [A0]; omega)
  have htk2 : (Av (Dw (A6 c) ps.l chs.l)).take chs.l.length = Av (Dw (A6 c) ps.l chs.l) := List.take_of_length_le (by rw [A0]; omega)
  have e9 := q2O (Γ := Γ) (Av (Dw (A6 c) ps.l chs.l)) none none A9
  rw [hz2] at g5
  generalize M4 chs.l (A6 c) ps.l = LL at *
  generalize Hm (A6 c) ps.l chs.l (Ai (A6 c).length) = R at *
  have hb0 : Dw (A6 c) ps.l ([] : List (Sl Int)) = [] := rfl
  simp only [List.take_zero, hb0, C9] at g5
  generalize Dw (A6 c) ps.l chs.l = B at *
  generalize A6 c = st at *
  simp [tC, Ab, Af, Am, As, Bc, tV] at e0 e1
  simp [Bc, tV] at g5
  have hE0 : mpE tI ([] : List (Int × Int)) = [] := rfl
  simp [hE0] at g1
  simp [W6, tC, Ab, Af, Am, As, Bc, tV]
  refine A8 e0 rfl ?_
  simp
  refine A8 e1 rfl ?_
  simp [A0]
  refine g1 _ _ _ _ _ _ ?_
  simp [A0, hps]
  refine ⟨by omega, ?_⟩
  refine g5 _ ?_
  simp [St.freeze, Bf.closed, D6, frz1, frz0, F4, del, Aj, htk2]
  refine A8 e9 rfl ?_
  simp [W7, Aj, htk, hSl, A0]
end Go.Lg
namespace Go.Lg
open Go Go.Proofs
theorem q5v {l : List Int} {i : Nat} {v : Int} (h : i < l.length) : (l.set i v).getD i 0 = v := by
  rw [List.getD_eq_getElem?_getD, List.getElem?_set_self h]; rfl
theorem q2z {l : List Int} {i j : Nat} {v : Int} (h : i ≠ j) : (l.set i v).getD j 0 = l.getD j 0 := by
  rw [List.getD_eq_getElem?_getD, List.getElem?_set_ne h, List.getD_eq_getElem?_getD]
theorem qCX {st : List Int} {x y : Int} (hx : x ∈ st) (hy : y ∈ st) (h : x ≠ y) : st.idxOf x ≠ st.idxOf y := fun e => h (by
  have h1 := List.idxOf_lt_length_iff.2 hx
  have h2 := List.idxOf_lt_length_iff.2 hy
  have e1 := List.getElem_idxOf h1
  have e2 := List.getElem_idxOf h2
  simp only [e] at e1
  exact e1.symm.trans e2)
theorem q4K {st pst : List Int} : ∀ {l : List Int} {v : Int} {out : List Int} {x : Int}, x ∈ st → (∀ n ∈ l, n ∈ st) → x ∉ l → (q58 st pst l v out).getD (st.idxOf x) 0 = out.getD (st.idxOf x) 0
  | [], _, _, _, _, _, _ => rfl
  | n :: l, v, out, x, hx, hm, hn => by
    simp only [q58]
    rw [q4K hx (fun y hy => hm y (List.mem_cons_of_mem _ hy)) (fun h => hn (List.mem_cons_of_mem _ h)), q2z]
    exact qCX (hm n List.mem_cons_self) hx (fun e => hn (e ▸ List.mem_cons_self))
theorem qDC {st pst : List Int} : ∀ {l : List Int} {v : Int} {out : List Int} {m : Nat}, (∀ n ∈ l, n ∈ st) → l.Nodup → out.length = st.length → m < l.length → (q58 st pst l v out).getD (st.idxOf (l.getD m 0)) 0 = if m = 0 then v else Bn (pst.getD (st.idxOf (l.getD (m - 1) 0)) 0)
  | [], _, _, _, _, _, _, h => absurd h (Nat.not_lt_zero _)
  | n :: l, v, out, 0, hm, hd, ho, h => by
    simp only [q58, List.getD_cons_zero]
    rw [if_pos trivial, q4K (hm n List.mem_cons_self) (fun y hy => hm y (List.mem_cons_of_mem _ hy)) (List.nodup_cons.1 hd).1, q5v]
    rw [ho]; exact List.idxOf_lt_length_iff.2 (hm n List.mem_cons_self)
  | n :: l, v, out, m + 1, hm, hd, ho, h => by
    simp only [q58, List.getD_cons_succ]
    rw [if_neg (Nat.succ_ne_zero m), qDC (fun y hy => hm y (List.mem_cons_of_mem _ hy)) (List.nodup_cons.1 hd).2 (by rw [List.length_set]; exact ho) (by simpa using h)]
    cases m with
    | zero => simp
    | succ m => simp
theorem q6P {st pst : List Int} : ∀ {ch : List (Sl Int)} {vs out : List Int} {x : Int}, vs.length = ch.length → x ∈ st → (∀ n ∈ Gf ch, n ∈ st) → x ∉ Gf ch → (Iz st pst ch vs out).getD (st.idxOf x) 0 = out.getD (st.idxOf x) 0
  | [], _, _, _, _, _, _, _ => by simp only [Iz]
  | s :: l, [], _, _, h, _, _, _ => by simp at h
  | s :: l, v :: vs, out, x, h, hx, hm, hn => by
    simp only [Iz]
    rw [Gs] at hm hn
    rw [q6P (by simpa using h) hx (fun y hy => hm y (List.mem_append_right _ hy)) (fun hh => hn (List.mem_append_right _ hh)), q4K hx (fun y hy => hm y (List.mem_append_left _ hy)) (fun hh => hn (List.mem_append_left _ hh))]
theorem qBS {st pst : List Int} : ∀ {ch : List (Sl Int)} {vs out : List Int} {k m : Nat}, vs.length = ch.length → (∀ n ∈ Gf ch, n ∈ st) → (Gf ch).Nodup → out.length = st.length → k < ch.length → m < (ch.getD k slD).l.length → (Iz st pst ch vs out).getD (st.idxOf ((ch.getD k slD).l.getD m 0)) 0 = if m = 0 then Bn (vs.getD k 0) else Bn (pst.getD (st.idxOf ((ch.getD k slD).l.getD (m - 1) 0)) 0)
  | [], _, _, _, _, _, _, _, _, h, _ => absurd h (Nat.not_lt_zero _)
  | s :: l, [], _, _, _, h, _, _, _, _, _ => by simp at h
  | s :: l, v :: vs, out, 0, m, h, hm, hd, ho, hk, hl => by
    simp only [List.getD_cons_zero] at hl
    simp only [Iz, List.getD_cons_zero]
    rw [Gs] at hm hd
    have hd' := List.nodup_append.1 hd
    have hmem : s.l.getD m 0 ∈ s.l := by rw [Cc hl]; exact List.getElem_mem _
    rw [q6P (by simpa using h) (hm _ (List.mem_append_left _ hmem)) (fun y hy => hm y (List.mem_append_right _ hy)) (fun hh => hd'.2.2 _ hmem _ hh rfl), qDC (fun y hy => hm y (List.mem_append_left _ hy)) hd'.1 ho hl]
  | s :: l, v :: vs, out, k + 1, m, h, hm, hd, ho, hk, hl => by
    simp only [List.getD_cons_succ] at hl
    simp only [Iz, List.getD_cons_succ]
    rw [Gs] at hm hd
    have hd' := List.nodup_append.1 hd
    exact qBS (by simpa using h) (fun y hy => hm y (List.mem_append_right _ hy)) hd'.2.1 (by rw [q2l]; exact ho) (by simpa using hk) hl
theorem q4L {st pst : List Int} : ∀ {l out : List Int} {x : Int}, x ∈ st → (∀ n ∈ l, n ∈ st) → x ∉ l → (q2m st pst l out).getD (st.idxOf x) 0 = out.getD (st.idxOf x) 0
  | [], _, _, _, _, _ => rfl
  | [n], out, x, hx, hm, hn => by
    simp only [q2m]
    rw [q2z]
    exact qCX (hm n List.mem_cons_self) hx (fun e => hn (e ▸ List.mem_cons_self))
  | n :: m :: l, out, x, hx, hm, hn => by
    simp only [q2m]
    have hne := qCX (hm n List.mem_cons_self) hx (fun e => hn (e ▸ List.mem_cons_self))
    rw [q4L hx (fun y hy => hm y (List.mem_cons_of_mem _ hy)) (fun hh => hn (List.mem_cons_of_mem _ hh)), q2z hne, q2z hne]
theorem qDD {st pst : List Int} : ∀ {l out : List Int} {m : Nat}, (∀ n ∈ l, n ∈ st) → l.Nodup → out.length = st.length → m < l.length → (q2m st pst l out).getD (st.idxOf (l.getD m 0)) 0 = if m + 1 < l.length then Bn (pst.getD (st.idxOf (l.getD (m + 1) 0)) 0) else 2
  | [], _, _, _, _, _, h => absurd h (Nat.not_lt_zero _)
  | [n], out, m, hm, hd, ho, h => by
    have : m = 0 := by simpa using h
    subst this
    simp only [q2m, List.getD_cons_zero]
    rw [q5v (by rw [ho]; exact List.idxOf_lt_length_iff.2 (hm n List.mem_cons_self))]
    simp
  | n :: x :: l, out, 0, hm, hd, ho, h => by
    simp only [q2m, List.getD_cons_zero]
    rw [q4L (hm n List.mem_cons_self) (fun y hy => hm y (List.mem_cons_of_mem _ hy)) (List.nodup_cons.1 hd).1, q5v (by rw [List.length_set, ho]; exact List.idxOf_lt_length_iff.2 (hm n List.mem_cons_self))]
    simp
  | n :: x :: l, out, m + 1, hm, hd, ho, h => by
    simp only [q2m]
    rw [show (n :: x :: l).getD (m + 1) 0 = (x :: l).getD m 0 from rfl, qDD (fun y hy => hm y (List.mem_cons_of_mem _ hy)) (List.nodup_cons.1 hd).2 (by rw [List.length_set, List.length_set]; exact ho) (by simpa using h)]
    simp
theorem q6Q {st pst : List Int} : ∀ {ch : List (Sl Int)} {out : List Int} {x : Int}, x ∈ st → (∀ n ∈ Gf ch, n ∈ st) → x ∉ Gf ch → (Hm st pst ch out).getD (st.idxOf x) 0 = out.getD (st.idxOf x) 0
  | [], _, _, _, _, _ => rfl
  | s :: l, out, x, hx, hm, hn => by
    simp only [Hm]
    rw [Gs] at hm hn
    rw [q6Q hx (fun y hy => hm y (List.mem_append_right _ hy)) (fun hh => hn (List.mem_append_right _ hh)), q4L hx (fun y hy => hm y (List.mem_append_left _ hy)) (fun hh => hn (List.mem_append_left _ hh))]
theorem q8H {st pst : List Int} : ∀ {ch : List (Sl Int)} {out : List Int} {k m : Nat}, (∀ n ∈ Gf ch, n ∈ st) → (Gf ch).Nodup → out.length = st.length → k < ch.length → m < (ch.getD k slD).l.length → (Hm st pst ch out).getD (st.idxOf ((ch.getD k slD).l.getD m 0)) 0 = if m + 1 < (ch.getD k slD).l.length then Bn (pst.getD (st.idxOf ((ch.getD k slD).l.getD (m + 1) 0)) 0) else 2
  | [], _, _, _, _, _, _, h, _ => absurd h (Nat.not_lt_zero _)
  | s :: l, out, 0, m, hm, hd, ho, hk, hl => by
    simp only [List.getD_cons_zero] at hl
    simp only [Hm, List.getD_cons_zero]
    rw [Gs] at hm hd
    have hd' := List.nodup_append.1 hd
    have hmem : s.l.getD m 0 ∈ s.l := by rw [Cc hl]; exact List.getElem_mem _
    rw [q6Q (hm _ (List.mem_append_left _ hmem)) (fun y hy => hm y (List.mem_append_right _ hy)) (fun hh => hd'.2.2 _ hmem _ hh rfl), qDD (fun y hy => hm y (List.mem_append_left _ hy)) hd'.1 ho hl]
  | s :: l, out, k + 1, m, hm, hd, ho, hk, hl => by
    simp only [List.getD_cons_succ] at hl
    simp only [Hm, List.getD_cons_succ]
    rw [Gs] at hm hd
    have hd' := List.nodup_append.1 hd
    exact q8H (fun y hy => hm y (List.mem_append_right _ hy)) hd'.2.1 (by rw [q59]; exact ho) (by simpa using hk) hl
theorem qFj {l : List Int} {i : Nat} {v : Int} (h : ∀ x ∈ l, V4 x) (hv : V4 v) : ∀ x ∈ l.set i v, V4 x := fun x hx => by
  rcases List.mem_or_eq_of_mem_set hx with h1 | h1
  · exact h x h1
  · rw [h1]; exact hv
theorem qFk {st pst : List Int} (hp : ∀ x ∈ pst, V4 x) : ∀ {l out : List Int}, (∀ x ∈ out, V4 x) → ∀ x ∈ q2m st pst l out, V4 x
  | [], _, h => h
  | [n], _, h => qFj h (by simp [V4])
  | n :: m :: l, _, h => qFk hp (l := m :: l) (qFj (qFj h (by simp [V4])) (q0Y (q5X hp _)))
theorem qDE {st pst : List Int} (hp : ∀ x ∈ pst, V4 x) : ∀ {ch : List (Sl Int)} {out : List Int}, (∀ x ∈ out, V4 x) → ∀ x ∈ Hm st pst ch out, V4 x
  | [], _, h => h
  | s :: l, _, h => qDE hp (ch := l) (qFk hp h)
theorem qFl {st pst : List Int} (hp : ∀ x ∈ pst, V4 x) {ch : List (Sl Int)} : ∀ x ∈ Dw st pst ch, V4 x := fun x hx => by
  obtain ⟨s, _, rfl⟩ := List.mem_map.1 hx
  exact q0Y (q5X hp _)
theorem qFm {n : Nat} : ∀ x ∈ Ai n, V4 x := fun x hx => by rw [List.eq_of_mem_replicate hx]; simp [V4]
section
variable {c : B9} {ch : List (Sl Int)}
theorem q8I (h : q3H c ch) : (Gf ch).Nodup := h.perm.nodup_iff.2 (J0 [14] c.nodes.l 0).2
theorem qAB (h : q3H c ch) {pst : List Int} (h3 : pst.length = (A6 c).length) : Iz (A6 c) (Hm (A6 c) pst ch (Ai (A6 c).length)) ch (Dw (A6 c) pst ch) (Ai (A6 c).length) = pst.map Bn := by
  refine q5p (by rw [Vx, Cm, List.length_map, h3]) fun q hq => ?_
  rw [Vx, Cm] at hq
  obtain ⟨k, m, hk, hm, rfl⟩ := qGk h hq
  have hmm : ∀ n ∈ Gf ch, n ∈ A6 c := fun n hn => h.perm.mem_iff.1 hn
  have := qBS (st := A6 c) (pst := Hm (A6 c) pst ch (Ai (A6 c).length)) (vs := Dw (A6 c) pst ch) (out := Ai (A6 c).length) (by simp [Dw]) hmm (q8I h) Cm hk hm
  have hr : (pst.map Bn).getD (qE9 c ch k m) 0 = Bn (pst.getD (qE9 c ch k m) 0) := by
    rw [List.getD_eq_getElem?_getD, List.getElem?_map, List.getElem?_eq_getElem (by omega), List.getD_eq_getElem?_getD, List.getElem?_eq_getElem (by omega)]; rfl
  rw [hr]
  refine this.trans ?_
  rcases Nat.eq_zero_or_pos m with rfl | h0
  · rw [if_pos rfl]
    have hb : (Dw (A6 c) pst ch).getD k 0 = Bn (pst.getD (qE9 c ch k 0) 0) := by
      unfold Dw qE9 qFc
      rw [List.getD_eq_getElem?_getD, List.getElem?_map, List.getElem?_eq_getElem hk, List.getD_eq_getElem?_getD (l := ch), List.getElem?_eq_getElem hk]; rfl
    rw [hb, q9U]
  · rw [if_neg (by omega), q8H hmm (q8I h) Cm hk (by omega), if_pos (by omega), q9U, show m - 1 + 1 = m by omega]; rfl
theorem qBT (h : q3H c ch) {pst : List Int} {k : Nat} (hk : k < ch.length) (hm : 0 < (ch.getD k slD).l.length) : (Hm (A6 c) pst ch (Ai (A6 c).length)).getD ((A6 c).idxOf ((ch.getD k slD).l.getD ((ch.getD k slD).l.length - 1) 0)) 0 = 2 := by
  rw [q8H (fun n hn => h.perm.mem_iff.1 hn) (q8I h) Cm hk (by omega), if_neg (by omega)]
end
end Go.Lg
namespace Go.Lg
open Go Go.Proofs
variable {Γ : Tables}
def ring : B9 := ⟨⟨[⟨0, ⟨[], some 0, some true⟩, 0, 0⟩, ⟨14, ⟨[3], some 1, some false⟩, 0, 0⟩, ⟨14, ⟨[1], some 1, some false⟩, 0, 0⟩, ⟨5, ⟨[0, 2], some 2, some false⟩, 0, 0⟩], some 4, some false⟩, ⟨[[97], [102], [103], [110]], some 4, some false⟩, ⟨[], some 0, some true⟩, ⟨[3], some 1, some false⟩⟩
def qBU : Sl (Sl Int) := ⟨[⟨[1, 2], some 2, some false⟩], some 1, some false⟩
theorem qEB : Ag Tryz.prog Γ 81 [] (.agg (tC ring)) := by
  refine Ap q7O rfl ?_
  simp [q3O, q3P, tC, Ab, Af, Am, As, ring, Az, Ad, Bw, sV, tS, E1]
theorem qDF : COk ring := ⟨⟨by decide, by decide, by decide, by decide, by decide, by decide, by decide⟩, by decide⟩
theorem qFn : NOk ring := ⟨qDF, by decide +kernel, rfl, by decide, by decide, by decide, by decide⟩
theorem qFo : qD2 ring qBU := by
  refine ⟨qDF, ⟨by decide, by decide, by decide, by decide, by decide, by decide, rfl, ?_, ?_⟩, by decide, by decide, by decide, by decide, by decide, by decide, by decide, ?_, ?_, by decide, by decide +kernel⟩
  · intro x hx
    simp [ring] at hx
    rcases hx with rfl | rfl | rfl | rfl <;> exact ⟨by decide, by decide, by decide⟩
  · exact ⟨by decide, by decide, by decide⟩
  · refine ⟨⟨⟨by decide, by decide, by decide, by decide, by decide⟩, by decide, by decide, by decide, by decide, by decide, by decide, by decide⟩, trivial⟩
  · refine ⟨⟨by decide, by decide, by decide, by decide, by decide, by decide, by decide, by decide, by decide⟩, ⟨by decide, by decide, by decide, by decide, by decide, by decide, by decide, by decide, by decide⟩, trivial⟩
theorem q5w {l : List Int} (h : l.all (fun v => decide (0 ≤ v) && decide (v ≤ 3)) = true) : ∀ v ∈ l, V4 v := fun v hv => by simpa [V4] using List.all_eq_true.1 h v hv
def rP : Pat := ⟨⟨[1], some 1, some false⟩, ⟨[0, 1], some 2, some false⟩⟩
theorem qHL : POk ring rP := ⟨by decide, by decide, q5w (by decide), q5w (by decide)⟩
theorem q0l (hΓ : GOk Γ) : Ag Tryz.prog Γ 28 [] (tB true) := by
  refine Ap q6S rfl ?_
  obtain ⟨s, k, n, en, hI, _⟩ := qA6 (Γ := Γ) hΓ qFo (by decide) (by decide)
  have e1 := qA8 hΓ qFn rP qHL (fun h => nomatch h) (fun h => nomatch h) ⟨[0], some 1, some false⟩ (by decide) (q5w (by decide)) (fun h => nomatch h)
  have e2 := q8G hΓ qFn hI (by decide) rP qHL (fun h => nomatch h) (fun h => nomatch h) ⟨[0], some 1, some false⟩ (by decide) (q5w (by decide)) (fun h => nomatch h) ⟨[1], some 1, some false⟩ (by decide) (q5w (by decide))
  have e3 := q6O hI (by decide) (by decide) ⟨[1, 0], some 2, some false⟩ (by decide) (q5w (by decide))
  have q1 : Ly ring (Ox ring rP.inn.l rP.st.l) = [1, 0] := by decide +kernel
  have q2 : Iz (A6 ring) rP.st.l qBU.l [1] (Ai (A6 ring).length) = [1, 0] := by decide +kernel
  have q3 : Hm (A6 ring) [1, 0] qBU.l (Ai (A6 ring).length) = [0, 2] := by decide +kernel
  have q4 : Dw (A6 ring) [1, 0] qBU.l = [1] := by decide +kernel
  simp only [q1, q2, q3, q4] at e1 e2 e3
  have r := qEB (Γ := Γ)
  generalize tC ring = R at *
  simp [Bc, qBU, rP, cpV, M3, Ad, As, tV, tP] at e1 e2 e3
  simp [q1k]
  refine A8 r rfl ?_
  simp
  refine A8 e1 rfl ?_
  simp
  refine A8 r rfl ?_
  simp
  refine A8 e2 rfl ?_
  simp
  refine A8 r rfl ?_
  simp
  refine A8 e3 rfl ?_
  simp [E1]
  simp [q1l, E1]
end Go.Lg
namespace Go.Lg
open Go Go.Proofs Go.Proofs.YtgnomdkcimglbaaGreatDoor
def G0 (g : Nat) : Option (List T) := if g = 0 then some qDd else none
theorem qKg : GOk G0 := rfl
theorem qJx : Tryz.prog.globalNamed "probecard/logic.fanins" = some 0 := by kernel_rfl
theorem qIP : (Tryz.prog.globals[0]?).map (·.type) = some 209 := by kernel_rfl
theorem qIQ : Tryz.prog.cellsOf 3 = 1 := by kernel_rfl
theorem qFp : Tryz.prog.cellsOf 4 = 1 := by kernel_rfl
theorem q0m : Tryz.prog.cellsOf 5 = 1 := by kernel_rfl
theorem qDG : Tryz.prog.cellsOf 22 = 2 := by kernel_rfl
theorem qDH : Tryz.prog.cellsOf 23 = 4 := by kernel_rfl
theorem qGl : Tryz.prog.cellsOf 24 = 1 := by kernel_rfl
theorem q0n : Tryz.prog.cellsOf 25 = 1 := by kernel_rfl
theorem qDI : Tryz.prog.cellsOf 27 = 12 := by kernel_rfl
theorem qBV : Tryz.prog.cellsOf 106 = 3 := by kernel_rfl
theorem qBW : Tryz.prog.cellsOf 108 = 4 := by kernel_rfl
theorem qFq : Tryz.prog.cellsOf 208 = 2 := by kernel_rfl
theorem qFr : Tryz.prog.cellsOf 209 = 32 := by kernel_rfl
theorem qEC {W : World} (h : laidMet Tryz.prog [("probecard/logic.fanins", Rows.laid_probecard_logic_fanins)] W) : ∀ j, j < 32 → W.cell? ⟨0, j, none⟩ = (q7P.flatMap fun x => [Value.int .i64 x.1, Value.int .i64 x.2])[j]? := by
  obtain ⟨ps, ⟨g', t', cs, fuel, p, q, hg', ht', hvar, hd, _, _⟩, _⟩ := h
  obtain rfl := Option.some.inj (qJx.symm.trans hg')
  obtain rfl := Option.some.inj (qIP.symm.trans ht')
  have hc := qC4 (l := q7P) Tryz.underlying209 Tryz.underlying208 Tryz.underlying3 qIQ qFq qFr hd
  intro j hj
  have := World.var?_cell qJx hvar j
  rw [this, ← hc]
  simp
theorem qIR {W : World} (h : laidMet Tryz.prog [("probecard/logic.fanins", Rows.laid_probecard_logic_fanins)] W) : Gl G0 W (Old W) := by
  have hc := qEC h
  intro g cs hg
  unfold G0 at hg
  split at hg
  case isFalse => cases hg
  rename_i h0; subst h0
  simp only [Option.some.injEq] at hg
  subst hg
  have hlen : (q7P.flatMap fun x => [Value.int .i64 x.1, Value.int .i64 x.2]).length = 32 := rfl
  have hfc : qDd = (q7P.flatMap fun x => [Value.int .i64 x.1, Value.int .i64 x.2]).map T.v := rfl
  have hfl : qDd.length = 32 := rfl
  refine .ip qDd 0 0 0 (fun j => (q7P.flatMap fun x => [Value.int .i64 x.1, Value.int .i64 x.2])[j]?.getD .nilFunc) ?_ ?_ ?_ ?_
  · intro j hj
    rw [Nat.zero_add, hc j (by omega)]
    rw [List.getElem?_eq_getElem (by omega)]; rfl
  · intro j t ht
    rw [hfc, List.getElem?_map, Option.map_eq_some_iff] at ht
    obtain ⟨v, hv, rfl⟩ := ht
    simp only [hv, Option.getD_some]
    exact .v v
  · intro j t ht
    rw [hfc, List.getElem?_map, Option.map_eq_some_iff] at ht
    obtain ⟨v, hv, rfl⟩ := ht
    have hm := List.mem_of_getElem? hv
    obtain ⟨x, _, hx⟩ := List.mem_flatMap.1 hm
    simp at hx
    rcases hx with rfl | rfl <;> rfl
  · have := hc 0 (by omega)
    rw [List.getElem?_eq_getElem (by omega)] at this
    exact qCm this
theorem qIS {n : Int} (h : (Lit.int .u8 n).wf = true) : Qq n := by
  simp [Lit.wf, IntKind.min, IntKind.max, IntKind.signed, IntKind.bits] at h
  exact ⟨h.1, by omega⟩
theorem qAC : Rd Tryz.prog 5 fun ts => ∃ n, ts = [tK n] ∧ Qq n := (qI1 Tryz.underlying5).mono fun ts ⟨n, h, hw⟩ => ⟨n, h, qIS hw⟩
theorem q5A {α : Type} {f : α → List T} {Q : α → Prop} : ∀ {es : List (List T)}, (∀ x ∈ es, ∃ a, x = f a ∧ Q a) → ∃ l : List α, es = l.map f ∧ ∀ a ∈ l, Q a
  | [], _ => ⟨[], rfl, by simp⟩
  | e :: es, h => by
    obtain ⟨a, ha, hq⟩ := h e List.mem_cons_self
    obtain ⟨l, hl, hql⟩ := q5A fun x hx => h x (List.mem_cons_of_mem _ hx)
    exact ⟨a :: l, by rw [ha, hl]; rfl, fun b hb => by rcases List.mem_cons.1 hb with rfl | hb; exact hq; exact hql b hb⟩
theorem qKd : Rd Tryz.prog 108 fun ts => ∃ g, ts = tGd g ∧ q7b g := by
  refine (Zj (l := [(1, fun ts => ∃ n, ts = [tK n] ∧ Qq n), (3, q65 (List.replicate 3 (1, fun ts => ∃ n, ts = [tK n] ∧ Qq n)))]) Tryz.underlying108 qBW (.cons rfl q0m qAC (.cons rfl qBV (q7L Tryz.underlying106 q0m qBV qAC) (.nil _)))).mono fun ts h => ?_
  obtain ⟨_, _, rfl, ⟨k, rfl, hk⟩, _, _, rfl, ⟨_, _, rfl, ⟨a, rfl, ha⟩, _, _, rfl, ⟨b, rfl, hb⟩, _, _, rfl, ⟨d, rfl, hd⟩, rfl⟩, rfl⟩ := h
  exact ⟨⟨k, a, b, d⟩, rfl, hk, ha, hb, hd⟩
theorem qKe : Rd Tryz.prog 27 fun ts => ∃ x, ts = Ir x ∧ q1V x := by
  refine (Zj (l := [(1, fun ts => ∃ n, ts = [tK n] ∧ Qq n), (1, fun ts => ∃ n, ts = [tK n] ∧ Qq n), (2, q65 (List.replicate 2 (1, fun ts => ∃ n, ts = [tK n] ∧ Qq n))), (1, fun ts => ∃ b, ts = [tB b]), (1, fun ts => ∃ b, ts = [tB b]), (4, q65 (List.replicate 4 (1, fun ts => ∃ n, ts = [tK n] ∧ Qq n))), (1, _), (1, _)]) Tryz.underlying27 qDI
    (.cons rfl q0m qAC (.cons rfl q0m qAC (.cons rfl qDG (q7L Tryz.underlying22 q0m qDG qAC) (.cons rfl qFp (qCn Tryz.underlying4) (.cons rfl qFp (qCn Tryz.underlying4) (.cons rfl qDH (q7L Tryz.underlying23 q0m qDH qAC)
      (.cons rfl qGl (q4W Tryz.underlying24 qBW (by decide) qKd) (.cons rfl q0n (q4W Tryz.underlying25 q0m (by decide) qAC) (.nil _)))))))))).mono fun ts h => ?_
  obtain ⟨_, _, rfl, ⟨i, rfl, hi⟩, _, _, rfl, ⟨f, rfl, hf⟩, _, _, rfl, ⟨_, _, rfl, ⟨d0, rfl, hd0⟩, _, _, rfl, ⟨d1, rfl, hd1⟩, rfl⟩, _, _, rfl, ⟨bus, rfl⟩, _, _, rfl, ⟨mem, rfl⟩, _, _, rfl,
    ⟨_, _, rfl, ⟨p0, rfl, h0⟩, _, _, rfl, ⟨p1, rfl, h1⟩, _, _, rfl, ⟨p2, rfl, h2⟩, _, _, rfl, ⟨p3, rfl, h3⟩, rfl⟩, _, _, rfl, ⟨es, cap, nl, rfl, _, hes⟩, _, _, rfl, ⟨os, cap2, nl2, rfl, _, hos⟩, rfl⟩ := h
  obtain ⟨gs, rfl, hgs⟩ := q5A (f := tGd) (Q := q7b) fun x hx => (hes x hx).1
  obtain ⟨ol, rfl, hol⟩ := q5A (f := fun n => [tK n]) (Q := Qq) fun x hx => (hos x hx).1
  exact ⟨⟨i, f, d0, d1, bus, mem, p0, p1, p2, p3, ⟨gs, cap, nl⟩, ⟨ol, cap2, nl2⟩⟩, rfl, ⟨hi, hf, hd0, hd1, h0, h1, h2, h3, hgs, hol⟩⟩
end Go.Lg
namespace Go.Proofs.YtgnomdkcimglbaaGreatDoor
open Go Go.Lg Go.ChangeShapes Go.WideShapes Go.ChangeAt Go.RowKit
theorem own : ownKnob Tryz.prog.godebug = none := by kernel_rfl
theorem qKT : laidOutB Tryz.prog = true := by kernel_rfl
noncomputable def q9Y (os : Os) : World :=
  { World.holding Tryz.prog os ⟨#[], #[], []⟩ with heap := (World.holding Tryz.prog os ⟨#[], #[], []⟩).heap.modify 0 fun
      | .cells _ t frozen => .cells (q7P.flatMap fun x => [Value.int .i64 x.1, Value.int .i64 x.2]).toArray t frozen
      | o => o }
def c0 : Value := .agg #[.int .u8 0, .int .u8 0, .int .u8 0, .int .u8 0, .bool false, .bool false, .int .u8 0, .int .u8 0, .int .u8 0, .int .u8 0, .slice none 0 0, .slice none 0 0]
def d0 {H : Type} : DataW H := .agg [.lit (.int .u8 0), .lit (.int .u8 0), .agg [.lit (.int .u8 0), .lit (.int .u8 0)], .lit (.bool false), .lit (.bool false), .agg [.lit (.int .u8 0), .lit (.int .u8 0), .lit (.int .u8 0), .lit (.int .u8 0)], .nil, .nil]
end Go.Proofs.YtgnomdkcimglbaaGreatDoor
namespace Go.Lg
open Go Go.Proofs Go.Proofs.YtgnomdkcimglbaaGreatDoor
theorem qAD : Tryz.prog.cellsOf 29 = 2 := by kernel_rfl
theorem q6w : Rd Tryz.prog 25 fun ts => ∃ s : Sl Int, ts = [tV s] ∧ ∀ b ∈ s.l, Qq b := by
  refine (q4W Tryz.underlying25 q0m (by decide) qAC).mono fun ts ⟨es, cap, nl, h, _, hes⟩ => ?_
  obtain ⟨l, rfl, hl⟩ := q5A (f := fun n : Int => [tK n]) (Q := Qq) fun x hx => (hes x hx).1
  exact ⟨⟨l, cap, nl⟩, h, hl⟩
theorem qJy : Rd Tryz.prog 29 fun ts => ∃ q, ts = tPD q ∧ q57 q := by
  refine (Zj (l := [(1, fun ts => ∃ s : Sl Int, ts = [tV s] ∧ ∀ b ∈ s.l, Qq b), (1, fun ts => ∃ s : Sl Int, ts = [tV s] ∧ ∀ b ∈ s.l, Qq b)]) Tryz.underlying29 qAD
    (.cons rfl q0n q6w (.cons rfl q0n q6w (.nil _)))).mono fun ts h => ?_
  obtain ⟨_, _, rfl, ⟨a, rfl, ha⟩, _, _, rfl, ⟨b, rfl, hb⟩, rfl⟩ := h
  exact ⟨⟨a, b⟩, rfl, ha, hb⟩
end Go.Lg
namespace Go.Proofs.YtgnomdkcimglbaaGreatDoor
open Go Go.Lg Go.ChangeShapes Go.WideShapes Go.ChangeAt Go.RowKit
end Go.Proofs.YtgnomdkcimglbaaGreatDoor
namespace Go.Lg
open Go Go.Proofs Go.Proofs.YtgnomdkcimglbaaGreatDoor
theorem qDJ : Tryz.prog.cellsOf 53 = 14 := by kernel_rfl
theorem qHM : Rd Tryz.prog 25 fun ts => ∃ s : Sl Int, ts = [.sl (Ad tK s.l) s.cap s.nl] ∧ ∀ b ∈ s.l, Qq b := by
  refine (q4W Tryz.underlying25 q0m (by decide) qAC).mono fun ts ⟨es, cap, nl, h, _, hes⟩ => ?_
  obtain ⟨l, rfl, hl⟩ := q5A (f := fun n => [tK n]) (Q := Qq) fun x hx => (hes x hx).1
  exact ⟨⟨l, cap, nl⟩, h, hl⟩
theorem qIT : Rd Tryz.prog 53 fun ts => ∃ y, ts = Rh y ∧ q0g y := by
  refine (Zj (l := [(12, fun ts => ∃ x, ts = Ir x ∧ q1V x), (1, fun ts => ∃ s : Sl Int, ts = [.sl (Ad tK s.l) s.cap s.nl] ∧ ∀ b ∈ s.l, Qq b), (1, fun ts => ∃ s : Sl Int, ts = [.sl (Ad tK s.l) s.cap s.nl] ∧ ∀ b ∈ s.l, Qq b)]) Tryz.underlying53 qDJ
    (.cons rfl qDI qKe (.cons rfl q0n qHM (.cons rfl q0n qHM (.nil _))))).mono fun ts h => ?_
  obtain ⟨_, _, rfl, ⟨x, rfl, hx⟩, _, _, rfl, ⟨s, rfl, hs⟩, _, _, rfl, ⟨t, rfl, ht⟩, rfl⟩ := h
  exact ⟨⟨x, s, t⟩, by simp [Rh], hx, hs, ht⟩
end Go.Lg
namespace Go.Proofs.YtgnomdkcimglbaaGreatDoor
open Go Go.Lg Go.ChangeShapes Go.WideShapes Go.ChangeAt Go.RowKit
end Go.Proofs.YtgnomdkcimglbaaGreatDoor
namespace Go.Lg
open Go Go.Proofs Go.Proofs.YtgnomdkcimglbaaGreatDoor
theorem qGm : Tryz.prog.cellsOf 55 = 20 := by kernel_rfl
theorem qIU : Rd Tryz.prog 55 fun ts => ∃ y p q sc fr, ts = Rj y p q sc fr ∧ q0g y ∧ q57 p ∧ q57 q ∧ (∀ b ∈ sc.l, Qq b) ∧ ∀ b ∈ fr.l, Qq b := by
  refine (Zj (l := [(14, fun ts => ∃ y, ts = Rh y ∧ q0g y), (2, fun ts => ∃ q, ts = tPD q ∧ q57 q), (2, fun ts => ∃ q, ts = tPD q ∧ q57 q), (1, fun ts => ∃ s : Sl Int, ts = [tV s] ∧ ∀ b ∈ s.l, Qq b), (1, fun ts => ∃ s : Sl Int, ts = [tV s] ∧ ∀ b ∈ s.l, Qq b)]) Tryz.underlying55 qGm
    (.cons rfl qDJ qIT (.cons rfl qAD qJy (.cons rfl qAD qJy (.cons rfl q0n q6w (.cons rfl q0n q6w (.nil _))))))).mono fun ts h => ?_
  obtain ⟨_, _, rfl, ⟨y, rfl, hy⟩, _, _, rfl, ⟨p, rfl, hp⟩, _, _, rfl, ⟨q, rfl, hq⟩, _, _, rfl, ⟨s, rfl, hs⟩, _, _, rfl, ⟨t, rfl, ht⟩, rfl⟩ := h
  exact ⟨y, p, q, s, t, by simp [Rj], hy, hp, hq, hs, ht⟩
end Go.Lg
namespace Go.Proofs.YtgnomdkcimglbaaGreatDoor
open Go Go.Lg Go.ChangeShapes Go.WideShapes Go.ChangeAt Go.RowKit
theorem qJ9 {H : Type} {enc : TypeId × Value → H} {W : World} {base : Nat} {v : Value} {d : DataW H} {p : List MemPlace} (hval : Value.okWide Tryz.prog W .any base 55 v) (h : DataW.Trod enc Tryz.prog W 0 (fun _ => true) true 55 v d p) : ∃ y p q sc fr, q0g y ∧ q57 p ∧ q57 q ∧ (∀ b ∈ sc.l, Qq b) ∧ (∀ b ∈ fr.l, Qq b) ∧ TR W (Old W) (.agg (Rj y p q sc fr)) v := by
  simp only [Value.okWide, Tryz.underlying55] at hval
  obtain ⟨cs, rfl, _, _⟩ := hval
  obtain ⟨fuel, hf⟩ := h
  obtain ⟨ts, ⟨y, p, q, sc, fr, rfl, h1, h2, h3, h4, h5⟩, htr, ho⟩ := qIU H enc W true fuel _ _ hf
  exact ⟨y, p, q, sc, fr, h1, h2, h3, h4, h5, qI2 htr ho⟩
end Go.Proofs.YtgnomdkcimglbaaGreatDoor
namespace Go.Lg
open Go Go.Proofs
variable {Γ : Tables}
theorem qJz {s : Sl Int} (h : s.nl = some true → s.l = []) : (cpV s).l = s.l := qF9 s h
theorem qHN {Q : AX → St → Prop} (chs : Sl (Sl Int)) (hch : chs.l.length ≤ 1000000) (k : Nat) (hk : k < chs.l.length) (s : Sl Int) (hs : chs.l.getD k slD = s) (hsl : s.l.length ≤ 1000000) (hs0 : 0 < s.l.length) (bf : Sl Int) (st : List Int) (sc : Option Nat) (sn : Option Bool) (hst : st.length ≤ 1000000) (hbl : bf.l.length = st.length)
    (hb : ∀ q, q < st.length → st.getD q 0 = s.l.getD (s.l.length - 1) 0 → bf.l.getD q 0 = 2)
    (h0 : Q (.exit 2) ⟨[(4, .t (Bc chs)), (6, .t (tV bf)), (11, .t (.sl (Ak st) sc sn)), (12, .t (tI k)), (13, .t (tI st.length)), (88, .t (tB false))], []⟩) :
    ∀ (f q : Nat), f + q = st.length → run Tryz.prog Γ Ea Q ⟨[(4, .t (Bc chs)), (6, .t (tV bf)), (11, .t (.sl (Ak st) sc sn)), (12, .t (tI k)), (13, .t (tI q))], []⟩
  | 0, q, h => by
    refine Ja fun K hK => ?_
    have h2 : q = st.length := by omega
    subst h2
    simp [Bc, tV, A0]
    simpa [Bc, tV] using h0
  | f + 1, q, h => by
    refine Ja fun K hK => ?_
    have h2 : q < st.length := by omega
    have ih := qHN chs hch k hk s hs hsl hs0 bf st sc sn hst hbl hb h0 f (q + 1) (by omega)
    have e1 := gE (f := tI) 0 h2
    have e1' := gE' (f := tI) 0 h2
    have e2 := gE (f := As) slD hk
    have e2' := gE' (f := As) slD hk
    rw [hs] at e2 e2'
    obtain ⟨m, hm⟩ : ∃ m, m = s.l.length - 1 := ⟨_, rfl⟩
    have hml : m < s.l.length := by omega
    have e3 := gE (f := tI) 0 hml
    have e3' := gE' (f := tI) 0 hml
    have hq : q < bf.l.length := by omega
    have e4 := gE (f := tK) 0 hq
    have e4' := gE' (f := tK) 0 hq
    have hbq := hb q h2
    rw [← hm] at hbq
    generalize st.getD q 0 = x at *
    generalize s.l.getD m 0 = y at *
    generalize bf.l.getD q 0 = z at *
    have w1 : IntKind.i64.wrap ((q : Int) + 1) = (q : Int) + 1 := by rw [A5] <;> omega
    have w2 : IntKind.i64.wrap ((s.l.length : Int) - 1) = (m : Int) := by rw [A5] <;> omega
    simp only [As] at e2 e2'
    simp [Bc, tV] at ih
    by_cases hxy : x = y
    · have hz := hbq hxy
      subst hxy
      subst hz
      simp [Bc, tV, As, A0, A9, h2, hk, e1, e1', e2, e2', hml, e3, e3', hq, hbl, e4, e4', w1, w2]
      rw [hK]
      simpa using ih
    · simp [Bc, tV, As, A0, A9, h2, hk, e1, e1', e2, e2', hml, e3, e3', hq, hbl, e4, e4', w1, w2, hxy]
      rw [hK]
      simpa using ih
theorem qHO {Q : AX → St → Prop} (chs : Sl (Sl Int)) (hch : chs.l.length ≤ 1000000) (hs : ∀ k, k < chs.l.length → (chs.l.getD k slD).l.length ≤ 1000000 ∧ 0 < (chs.l.getD k slD).l.length) (bf : Sl Int) (st : List Int) (sc : Option Nat) (sn : Option Bool) (hst : st.length ≤ 1000000) (hbl : bf.l.length = st.length)
    (hb : ∀ k, k < chs.l.length → ∀ q, q < st.length → st.getD q 0 = (chs.l.getD k slD).l.getD ((chs.l.getD k slD).l.length - 1) 0 → bf.l.getD q 0 = 2)
    (h0 : Q (.exit 0) ⟨[(4, .t (Bc chs)), (6, .t (tV bf)), (11, .t (.sl (Ak st) sc sn)), (12, .t (tI chs.l.length)), (82, .t (tB false))], []⟩) :
    ∀ (f k : Nat), f + k = chs.l.length → run Tryz.prog Γ Eb Q ⟨[(4, .t (Bc chs)), (6, .t (tV bf)), (11, .t (.sl (Ak st) sc sn)), (12, .t (tI k))], []⟩
  | 0, k, h => by
    refine Jb fun K hK => ?_
    have h2 : k = chs.l.length := by omega
    subst h2
    simp [Bc, tV, A0]
    simpa [Bc, tV] using h0
  | f + 1, k, h => by
    refine Jb fun K hK => ?_
    have h2 : k < chs.l.length := by omega
    have ih := qHO chs hch hs bf st sc sn hst hbl hb h0 f (k + 1) (by omega)
    have g := fun Q h0 => qHN (Γ := Γ) (Q := Q) chs hch k h2 _ rfl (hs k h2).1 (hs k h2).2 bf st sc sn hst hbl (hb k h2) h0 st.length 0 (by omega)
    have w1 : IntKind.i64.wrap ((k : Int) + 1) = (k : Int) + 1 := by rw [A5] <;> omega
    simp [Bc, tV] at ih g
    simp [Bc, tV, A0, h2]
    refine g _ ?_
    simp [w1]
    rw [hK]
    simpa using ih
set_option maxHeartbeats 2000000 in
theorem qFs (hΓ : GOk Γ) (y : q1L) (hy : q0g y) (p : PD) (hp : q57 p) (q : PD) (hq : q57 q) (sc : Sl Int) (hsc : ∀ b ∈ sc.l, Qq b) (fr : Sl Int) (hfr : ∀ b ∈ fr.l, Qq b) : Ag Tryz.prog Γ 4 [.agg (Rj y p q sc fr)] (tB true) := by
  refine Ap Yx rfl ?_
  have hx := q0H hy.x
  have hpl : E5 (Hw y) = 0 := q5l hx rfl
  have hc : NOk (Hw y) := qFT hx rfl
  have e1 := q6M (Γ := Γ) y hy
  have hS := q5n hy
  generalize Hw y = c at *
  generalize q0h y = ch at *
  have hn2 := hS.n2
  have hsl := Ht c
  have hil := Kp c
  have hP := qA4 hp c
  have hPi : q2T (Z7 p c).inn := qD8 (by omega)
  have ep := q4H (Γ := Γ) p hp c hS.ok
  generalize Z7 p c = P at *
  have hle := q0G ch fun s hs => (hS.ne s hs).1
  have hpe := hS.perm.length_eq
  have hs6 : ∀ s ∈ ch, s.l.length ≤ 1000000 := fun s hs => by have := hle.2 s hs; omega
  have hins := qBH hS hpl none none
  obtain ⟨s, k, n, en, hI, h3⟩ := qA6 (Γ := Γ) hΓ hins (by omega) hs6
  have hmem : ∀ s ∈ ch, ∀ n ∈ s.l, n ∈ A6 c := fun s hs n hn => hS.perm.mem_iff.1 (List.mem_flatten.2 ⟨s.l, List.mem_map.2 ⟨s, hs, rfl⟩, hn⟩)
  have e2 := q6O hI (fun s hs => (hS.ne s hs).1) hmem P.st hP.s hP.vs
  have hB4 := qDE (st := A6 c) hP.vs (ch := ch) (out := Ai (A6 c).length) qFm
  have hBl : (Hm (A6 c) P.st.l ch (Ai (A6 c).length)).length = (A6 c).length := by rw [q5u, Cm]
  have hP1 : POk c ⟨P.inn, ⟨Hm (A6 c) P.st.l ch (Ai (A6 c).length), none, none⟩⟩ := ⟨hP.i, hBl, hP.vi, hB4⟩
  have e3 := q8G hΓ hc hI hmem ⟨P.inn, ⟨Hm (A6 c) P.st.l ch (Ai (A6 c).length), none, none⟩⟩ hP1 hPi.1 (fun h => nomatch h) P.inn rfl hP.vi hPi.1 ⟨Dw (A6 c) P.st.l ch, some ch.length, none⟩ (by simp [Dw]) (qFl hP.vs)
  have hbs := qAB hS hP.s
  simp only [hbs] at e3
  have hSl : (Dw (A6 c) P.st.l ch).length = ch.length := by simp [Dw]
  have hlast : ∀ k, k < ch.length → ∀ q, q < (A6 c).length → (A6 c).getD q 0 = (ch.getD k slD).l.getD ((ch.getD k slD).l.length - 1) 0 → (Hm (A6 c) P.st.l ch (Ai (A6 c).length)).getD q 0 = 2 := fun k hk q hq e => by
    have hkm : ch.getD k slD ∈ ch := by rw [List.getD_eq_getElem?_getD, List.getElem?_eq_getElem hk]; exact List.getElem_mem _
    have := qBT (pst := P.st.l) hS hk (List.length_pos_iff.2 (hS.ne _ hkm).1)
    rw [← e, Cc hq] at this
    have hnd : (A6 c).Nodup := (J0 [14] c.nodes.l 0).2
    rwa [hnd.idxOf_getElem _ _] at this
  have ek := qCV (Γ := Γ) P (by rw [hP.s]; omega)
  have hks : (q8D P).st = ⟨P.st.l.map Bn, none, none⟩ := rfl
  have c4 : (cpV ⟨P.st.l.map Bn, none, none⟩).l = P.st.l.map Bn := qJz fun h => nomatch h
  have s1 := U3 (Γ := Γ) (cpV ⟨P.st.l.map Bn, none, none⟩) (q8D P).st c4 (by rw [c4, List.length_map, hP.s]; omega)
  have es := Dl (Γ := Γ) c hS.ok
  have hs7 : ∀ k, k < ch.length → (ch.getD k slD).l.length ≤ 1000000 ∧ 0 < (ch.getD k slD).l.length := fun k hk => by
    have hkm : ch.getD k slD ∈ ch := by rw [List.getD_eq_getElem?_getD, List.getElem?_eq_getElem hk]; exact List.getElem_mem _
    exact ⟨hs6 _ hkm, List.length_pos_iff.2 (hS.ne _ hkm).1⟩
  have g3 := fun Q sc sn h0 => qHO (Γ := Γ) (Q := Q) ⟨ch, none, none⟩ (by show ch.length ≤ _; omega) hs7 ⟨Hm (A6 c) P.st.l ch (Ai (A6 c).length), none, none⟩ (A6 c) sc sn (by omega) hBl hlast h0 ch.length 0 (by simp)
  clear hlast hbs hs7
  have hPs := hP.s
  generalize Hm (A6 c) P.st.l ch (Ai (A6 c).length) = B at *
  generalize Dw (A6 c) P.st.l ch = SC at *
  generalize cpV P.inn = A1 at *
  generalize cpV ⟨B, none, none⟩ = A2 at *
  generalize cpV ⟨P.st.l.map Bn, none, none⟩ = A4 at *
  generalize q8D P = K at *
  generalize A6 c = st at *
  simp only [tV] at s1
  simp [Rh, Ir] at e1
  simp [tPD, tV] at ep
  simp [tC, Ab, Af, Am, As, Bc, tP, tV] at ep e2 e3 ek es
  simp [Bc, tV] at g3
  simp [Oa, Rj, Rh, Ir, tPD, tV]
  refine A8 e1 rfl ?_
  simp [tC, Ab, Af, Am, As, Bc]
  refine A8 ep rfl ?_
  simp [tP, tV]
  refine A8 e2 rfl ?_
  simp
  refine A8 e3 rfl ?_
  simp [A0, hBl, hSl, hPs]
  refine A8 ek rfl ?_
  simp
  refine A3 s1 rfl ?_
  simp
  refine A8 es rfl ?_
  simp
  refine g3 _ _ _ ?_
  simp
  refine A8 (q0l hΓ) rfl ?_
  simp [Ob, Aj]
section
variable (c : B9) (ch : List (Sl Int)) (pst S scan : Sl Int)
end
theorem qGn {l : List Int} {n : Nat} (hl : ∀ b ∈ l, 0 ≤ b) : ∀ v ∈ q2k l n, V4 v := fun v hv => by
  obtain ⟨i, _, rfl⟩ := List.mem_map.1 hv
  split
  · simp [V4]
  · rename_i h
    have hpos : 0 < l.length := List.length_pos_iff.2 h
    have hx := hl (l.getD (i % l.length) 0) (by rw [Cc (Nat.mod_lt _ hpos)]; exact List.getElem_mem _)
    generalize l.getD (i % l.length) 0 = x at *
    show 0 ≤ x.tmod 4 ∧ x.tmod 4 ≤ 3
    rw [Int.tmod_eq_emod_of_nonneg hx]
    omega
end Go.Lg
namespace Go.Lg
open Go Go.Proofs
variable {Γ : Tables}
def ltE (b : Bool) (chs : Sl (Sl Int)) (scan : Sl Int) (LT TL : List (List Int)) (cl cw : Option Nat) (nl nw : Option Bool) (d : Nat) : List (Nat × AV) := [(1, .t (tB b)), (6, .t (Bc chs)), (7, .lp 7 0 0), (10, .t (tV scan)), (11, .t (.sl (Ad M7 LT) cl nl)), (13, .t (.sl (Ad M7 TL) cw nw)), (15, .t (tI d))]
theorem qFt {Q : AX → St → Prop} (b : Bool) (chs : Sl (Sl Int)) (scan : Sl Int) (p1 p2 : T) (LT TL : List (List Int)) (cl cw : Option Nat) (nl nw : Option Bool) (d : Nat) (hd : d ≤ 100000) (hLl : LT.length = 2 * d + 2) (hTl : TL.length = 2 * d + 1) (hrow : ∀ r ∈ LT, r.length ≤ 1000000)
    (ha : ∀ t, t < d → LT.getD t [] = TL.getD t []) (hb : ∀ t, d < t → t < 2 * d + 2 → LT.getD t [] = TL.getD (t - 1) [])
    (h0 : Q (.exit 0) ⟨ltE b chs scan LT TL cl cw nl nw d ++ [(16, .t (tI (2 * d + 2 : Nat))), (87, .t (tB false))], [(7, .bx [.t p1, .t p2])]⟩) :
    ∀ (f t : Nat), f + t = 2 * d + 2 → run Tryz.prog Γ Ff Q ⟨ltE b chs scan LT TL cl cw nl nw d ++ [(16, .t (tI t))], [(7, .bx [.t p1, .t p2])]⟩
  | 0, t, h => by
    refine La fun K hK => ?_
    have h2 : t = 2 * d + 2 := by omega
    subst h2
    simp [ltE, Bc, tV] at h0
    simp [ltE, Bc, tV, A0, hLl]
    simpa using h0
  | f + 1, t, h => by
    refine La fun K hK => ?_
    have h2 : t < LT.length := by omega
    have h2i : (t : Int) < 2 * (d : Int) + 2 := by omega
    have h2n : t < 2 * d + 2 := by omega
    have ih := qFt b chs scan p1 p2 LT TL cl cw nl nw d hd hLl hTl hrow ha hb h0 f (t + 1) (by omega)
    have e1 := gE (f := M7) [] h2
    have e1' := gE' (f := M7) [] h2
    have hrl : (LT.getD t []).length ≤ 1000000 := hrow _ (by rw [List.getD_eq_getElem?_getD, List.getElem?_eq_getElem h2]; exact List.getElem_mem _)
    have w1 : IntKind.i64.wrap ((t : Int) + 1) = (t : Int) + 1 := by rw [A5] <;> omega
    rcases Nat.lt_trichotomy t d with h3 | h3 | h3
    · have hT : t < TL.length := by omega
      have hTn : t < 2 * d + 1 := by omega
      have hTi : (t : Int) < 2 * (d : Int) + 1 := by omega
      have e2 := gE (f := M7) [] hT
      have e2' := gE' (f := M7) [] hT
      rw [← ha t h3] at e2 e2'
      generalize LT.getD t [] = R at *
      have s1 := U3 (Γ := Γ) ⟨R, some R.length, none⟩ ⟨R, some R.length, none⟩ rfl hrl
      have h3' : ¬ d < t := by omega
      simp only [tV] at s1
      simp only [M7] at e1 e1' e2 e2'
      simp [ltE, Bc, tV] at ih
      simp [ltE, Bc, tV, A0, A9, hLl, hTl, h2i, h2n, hTn, hTi, e1, e1', e2, e2', h3, h3', w1]
      refine A3 s1 rfl ?_
      simp [ltE, Bc, tV, A0, A9, hLl, hTl, h2i, h2n, hTn, hTi, e1, e1', e2, e2', h3, h3', w1]
      rw [hK]
      simpa using ih
    · have h4 : ¬ t < d := by omega
      have h5 : ¬ d < t := by omega
      simp [ltE, Bc, tV] at ih
      simp [ltE, Bc, tV, A0, A9, hLl, hTl, h2i, h2n, h4, h5, w1]
      rw [hK]
      simpa using ih
    · obtain ⟨u, hu⟩ : ∃ u, u = t - 1 := ⟨_, rfl⟩
      have hT : u < TL.length := by omega
      have hTn : u < 2 * d + 1 := by omega
      have hTi : (u : Int) < 2 * (d : Int) + 1 := by omega
      have e2 := gE (f := M7) [] hT
      have e2' := gE' (f := M7) [] hT
      have hbt := hb t h3 h2n
      rw [← hu] at hbt
      rw [← hbt] at e2 e2'
      generalize LT.getD t [] = R at *
      have s1 := U3 (Γ := Γ) ⟨R, some R.length, none⟩ ⟨R, some R.length, none⟩ rfl hrl
      have h4 : ¬ t < d := by omega
      have w2 : IntKind.i64.wrap ((t : Int) - 1) = (u : Int) := by rw [A5] <;> omega
      simp only [tV] at s1
      simp only [M7] at e1 e1' e2 e2'
      simp [ltE, Bc, tV] at ih
      simp [ltE, Bc, tV, A0, A9, hLl, hTl, h2i, h2n, hTn, hTi, e1, e1', e2, e2', h3, h4, w1, w2]
      refine A3 s1 rfl ?_
      simp [ltE, Bc, tV, A0, A9, hLl, hTl, h2i, h2n, hTn, hTi, e1, e1', e2, e2', h3, h4, w1, w2]
      rw [hK]
      simpa using ih
def ltF (b : Bool) (chs : Sl (Sl Int)) (scan : Sl Int) (LT : List (List Int)) (cl : Option Nat) (nl : Option Bool) (d n : Nat) : List (Nat × AV) := [(1, .t (tB b)), (6, .t (Bc chs)), (10, .t (tV scan)), (11, .t (.sl (Ad M7 LT) cl nl)), (15, .t (tI d)), (17, .t (tI n))]
theorem qFu {Q : AX → St → Prop} (b : Bool) (chs : Sl (Sl Int)) (hch : chs.l.length ≤ 1000000) (scan : Sl Int) (hsc : b = true → scan.l.length = chs.l.length) (LT : List (List Int)) (cl : Option Nat) (nl : Option Bool) (d : Nat) (hd : d < LT.length) (row : List Int) (hrow : LT.getD d [] = row) (n : Nat) (hn : n ≤ 1000000) (hrl : row.length = n + 1 + chs.l.length) (hv : ∀ k, k < chs.l.length → row.getD (n + 1 + k) 0 = if b then scan.l.getD k 0 else 0)
    (h0 : Q (.exit 2) ⟨ltF b chs scan LT cl nl d n ++ [(18, .t (tI chs.l.length)), (164, .t (tB false))], []⟩) :
    ∀ (f k : Nat), f + k = chs.l.length → run Tryz.prog Γ Fg Q ⟨ltF b chs scan LT cl nl d n ++ [(18, .t (tI k))], []⟩
  | 0, k, h => by
    refine Lc fun K hK => ?_
    have h2 : k = chs.l.length := by omega
    subst h2
    simp [ltF, Bc, tV] at h0
    simp [ltF, Bc, tV, A0]
    simpa using h0
  | f + 1, k, h => by
    refine Lc fun K hK => ?_
    have h2 : k < chs.l.length := by omega
    have ih := qFu b chs hch scan hsc LT cl nl d hd row hrow n hn hrl hv h0 f (k + 1) (by omega)
    have e1 := gE (f := M7) [] hd
    have e1' := gE' (f := M7) [] hd
    rw [hrow] at e1 e1'
    obtain ⟨j, hj⟩ : ∃ j, j = n + 1 + k := ⟨_, rfl⟩
    have hjl : j < row.length := by omega
    have e2 := gE (f := tK) 0 hjl
    have e2' := gE' (f := tK) 0 hjl
    have hvk := hv k h2
    rw [← hj] at hvk
    rw [hvk] at e2 e2'
    have w1 : IntKind.i64.wrap ((k : Int) + 1) = (k : Int) + 1 := by rw [A5] <;> omega
    have w2 : IntKind.i64.wrap ((n : Int) + 1) = ((n + 1 : Nat) : Int) := by rw [A5] <;> omega
    have w3 : IntKind.i64.wrap (((n + 1 : Nat) : Int) + k) = (j : Int) := by rw [A5] <;> omega
    generalize n + 1 = n1 at *
    simp only [M7] at e1 e1'
    simp [ltF, Bc, tV] at ih
    cases b
    · simp at e2 e2'
      simp [ltF, Bc, tV, A0, A9, hd, h2, e1, e1', e2, e2', hjl, w1, w2, w3]
      rw [hK]
      simpa using ih
    · have hs := hsc rfl
      have hks : k < scan.l.length := by omega
      have e3 := gE (f := tK) 0 hks
      have e3' := gE' (f := tK) 0 hks
      simp at e2 e2'
      simp [ltF, Bc, tV, A0, A9, hd, h2, e1, e1', e2, e2', hjl, hs, e3, e3', w1, w2, w3]
      rw [hK]
      simpa using ih
theorem qED {ch : List (Sl Int)} {st pin pst row : List Int} : (∀ t, t < Ez ch → (M5 ch st pin pst row).getD t [] = (Ri ch st pin pst).getD t []) ∧ (M5 ch st pin pst row).getD (Ez ch) [] = row ∧ (∀ t, Ez ch < t → t < 2 * Ez ch + 2 → (M5 ch st pin pst row).getD t [] = (Ri ch st pin pst).getD (t - 1) []) ∧ (M5 ch st pin pst row).length = 2 * Ez ch + 2 := by
  have hTl := q5s (ch := ch) (st := st) (pin := pin) (pst := pst)
  unfold M5
  generalize Ri ch st pin pst = TL at *
  generalize Ez ch = d at *
  have h1 : (TL.take d).length = d := by rw [List.length_take]; omega
  refine ⟨fun t ht => ?_, ?_, fun t ht ht2 => ?_, ?_⟩
  · rw [List.getD_eq_getElem?_getD, List.append_assoc, List.getElem?_append_left (by omega), List.getElem?_take_of_lt ht, List.getD_eq_getElem?_getD]
  · rw [List.getD_eq_getElem?_getD, List.append_assoc, List.getElem?_append_right (by omega), h1, Nat.sub_self]; rfl
  · rw [List.getD_eq_getElem?_getD, List.getElem?_append_right (by simp; omega), List.getElem?_drop, List.getD_eq_getElem?_getD]
    congr 2
    simp; omega
  · simp; omega
theorem qGo {n : Nat} {pin v : List Int} {e : Int} (hp : pin.length = n) : (pin ++ ([e] ++ v)).take n = pin ∧ (pin ++ ([e] ++ v)).getD n 0 = e ∧ ∀ k, (pin ++ ([e] ++ v)).getD (n + 1 + k) 0 = v.getD k 0 := by
  refine ⟨List.take_left' hp, ?_, fun k => ?_⟩
  · rw [List.getD_eq_getElem?_getD, List.getElem?_append_right (by omega), hp, Nat.sub_self]; rfl
  · rw [List.getD_eq_getElem?_getD, List.getElem?_append_right (by omega), hp, show n + 1 + k - n = k + 1 by omega, List.getD_eq_getElem?_getD]
    simp
set_option maxHeartbeats 4000000 in
theorem qFv (hΓ : GOk Γ) (y : q1L) (hy : q0g y) (p : PD) (hp : q57 p) (q : PD) (hq : q57 q) (sc : Sl Int) (hsc : ∀ b ∈ sc.l, Qq b) (fr : Sl Int) (hfr : ∀ b ∈ fr.l, Qq b) (b : Bool) : Ag Tryz.prog Γ 10 [.agg (Rj y p q sc fr), tB b] (tB true) := by
  refine Ap q0S rfl ?_
  have hx := q0H hy.x
  have hpl : E5 (Hw y) = 0 := q5l hx rfl
  have hc : NOk (Hw y) := qFT hx rfl
  have e1 := q6M (Γ := Γ) y hy
  have hS := q5n hy
  have hsm := qCQ hy
  have hpos : 0 < (Bi (Hw y)).length := qIN hx
  have e8 := fun h => qEA (Γ := Γ) y p q sc fr ⟨q0h y, none, none⟩ h
  generalize Hw y = c at *
  generalize q0h y = ch at *
  have hn2 := hS.n2
  have hsl := Ht c
  have hil := Kp c
  have hP := qA4 hp c
  have hQ := qA4 hq c
  have hPi : q2T (Z7 p c).inn := qD8 (by omega)
  have ep := q4H (Γ := Γ) p hp c hS.ok
  have eq := q4H (Γ := Γ) q hq c hS.ok
  have hle := q0G ch fun s hs => (hS.ne s hs).1
  have hpe := hS.perm.length_eq
  have hcl : ch.length ≤ 1000000 := by omega
  have e8 := e8 hcl
  have hs6 : ∀ s ∈ ch, s.l.length ≤ 1000000 := fun s hs => by have := hle.2 s hs; omega
  have hins := qBH hS hpl none none
  obtain ⟨s, k, n, en, hI, h3⟩ := qA6 (Γ := Γ) hΓ hins (by omega) hs6
  have hd : Ez ch ≤ 16 := qA5 fun s hs => by have := hle.2 s hs; omega
  generalize Z7 p c = P at *
  generalize Z7 q c = Q at *
  have av : ∀ {v : Int}, V4 v → Bj v = false := fun h => by have := h.2; simp [Bj]; omega
  have e2 := q9W hI ⟨Q.inn, P.st⟩ ⟨by show Q.inn.l.length ≤ _; rw [hQ.i]; omega, by show P.st.l.length ≤ _; rw [hP.s]; omega⟩
  have any0 : ∀ {l : List Int}, (∀ v ∈ l, Bj v = false) → l.any Bj = false := fun h => List.any_eq_false.2 fun v hv => by rw [h v hv]; decide
  have q2 : q0k c ⟨Q.inn, P.st⟩ = 0 := by
    unfold q0k
    rw [if_neg (by simp [hQ.i, hP.s]), if_neg]
    rw [any0 fun v hv => av (hQ.vi v hv), any0 fun v hv => av (hP.vs v hv)]
    simp
  unfold q6u at e2
  simp only [q2] at e2
  have e3 := q0j (Γ := Γ) ⟨ch, none, none⟩ hcl hs6
  have hvl : (q2k sc.l ch.length).length = ch.length := q9X
  have hv4 := qGn (l := sc.l) (n := ch.length) fun b hb => (hsc b hb).1
  simp only at e8 e3
  generalize q2k sc.l ch.length = V at *
  have hTl := q5s (ch := ch) (st := A6 c) (pin := Q.inn.l) (pst := P.st.l)
  have hrw : ∀ {w : Int} {v : List Int}, (w ≠ 0 → v.length = ch.length) → (∀ x ∈ v, V4 x) → ∀ r ∈ M5 ch (A6 c) Q.inn.l P.st.l (Sz w ch.length P.inn.l v), r.length ≤ 1000000 := fun h1 h2 r hr => by
    have := (qBP (chs := ⟨ch, none, none⟩) hS (p := ⟨Q.inn, P.st⟩) ⟨hQ.i, hP.s, hQ.vi, hP.vs⟩ (qBO hS hP.i hP.vi h1 h2) r hr).1
    have h9 := Kp (scC c ch)
    have h8 : r.length = (Bi (scC c ch)).length := this
    omega
  have hPil : P.inn.l.length ≤ 16 := by rw [hP.i]; omega
  have hzl : (Ai ch.length).length = ch.length := Cm
  have e4a := q8E hI 0 (.inl rfl) P ⟨Q.inn, ⟨[], some 0, some true⟩⟩ ⟨[], some 0, some true⟩ hP.i hQ.i hP.s (by simp) (fun v hv => by
    rcases List.mem_append.1 hv with hv | hv
    · exact av (hP.vi v hv)
    · rcases List.mem_append.1 hv with hv | hv
      · exact av (hP.vs v hv)
      · rcases List.mem_append.1 hv with hv | hv
        · exact av (hQ.vi v hv)
        · simp at hv) hpos (by show Ez ch ≤ _; omega)
  have e4b := q8E hI 1 (.inr rfl) P ⟨Q.inn, ⟨[], some 0, some true⟩⟩ ⟨V, none, none⟩ hP.i hQ.i hP.s (by simpa using hvl) (fun v hv => by
    rcases List.mem_append.1 hv with hv | hv
    · exact av (hP.vi v hv)
    · rcases List.mem_append.1 hv with hv | hv
      · exact av (hP.vs v hv)
      · rcases List.mem_append.1 hv with hv | hv
        · exact av (hQ.vi v hv)
        · exact av (hv4 v hv)) hpos (by show Ez ch ≤ _; omega)
  have key : ∀ (w : Int) (v : List Int) (e : Int) (u : List Int) (_ : Sz w ch.length P.inn.l v = P.inn.l ++ ([e] ++ u)) (_ : u.length = ch.length) (_ : w ≠ 0 → v.length = ch.length) (_ : ∀ x ∈ v, V4 x), ∃ (LT TL : List (List Int)), M5 ch (A6 c) Q.inn.l P.st.l (Sz w ch.length P.inn.l v) = LT ∧ Ri ch (A6 c) Q.inn.l P.st.l = TL ∧ LT.length = 2 * Ez ch + 2 ∧ TL.length = 2 * Ez ch + 1 ∧ (∀ r ∈ LT, r.length ≤ 1000000) ∧ (∀ t, t < Ez ch → LT.getD t [] = TL.getD t []) ∧ (∀ t, Ez ch < t → t < 2 * Ez ch + 2 → LT.getD t [] = TL.getD (t - 1) []) ∧
      LT.getD (Ez ch) [] = P.inn.l ++ ([e] ++ u) ∧ (P.inn.l ++ ([e] ++ u)).length = P.inn.l.length + 1 + ch.length ∧ (Av (P.inn.l ++ ([e] ++ u))).take P.inn.l.length = Av P.inn.l ∧ (P.inn.l ++ ([e] ++ u)).getD P.inn.l.length 0 = e ∧ ∀ k, k < ch.length → (P.inn.l ++ ([e] ++ u)).getD (P.inn.l.length + 1 + k) 0 = u.getD k 0 := fun w v e u h1 h2 h3 h4 => by
    obtain ⟨l1, l2, l3, l4⟩ := qED (ch := ch) (st := A6 c) (pin := Q.inn.l) (pst := P.st.l) (row := Sz w ch.length P.inn.l v)
    obtain ⟨r1, r2, r3⟩ := qGo (v := u) (e := e) (rfl : P.inn.l.length = P.inn.l.length)
    refine ⟨_, _, rfl, rfl, l4, hTl, hrw h3 h4, l1, l3, by rw [l2, h1], by simp; omega, ?_, r2, fun k _ => r3 k⟩
    show (Ad tK _).take _ = Ad tK _
    unfold Ad
    rw [← List.map_take, r1]
  have s1 := U3 (Γ := Γ) ⟨P.inn.l, none, none⟩ P.inn rfl (by show P.inn.l.length ≤ _; omega)
  have s1 := fun cap nl => U3 (Γ := Γ) ⟨P.inn.l, cap, nl⟩ P.inn rfl (by show P.inn.l.length ≤ _; omega)
  generalize Ez ch = d at *
  have w1 : IntKind.i64.wrap (2 * (d : Int)) = 2 * (d : Int) := by rw [A5] <;> omega
  have w2 : IntKind.i64.wrap (2 * (d : Int) + 2) = 2 * (d : Int) + 2 := by rw [A5] <;> omega
  have w3 : IntKind.i64.wrap (2 * (d : Int) + 1) = 2 * (d : Int) + 1 := by rw [A5] <;> omega
  have w4 : IntKind.i64.wrap ((P.inn.l.length : Int) + 1) = (P.inn.l.length : Int) + 1 := by rw [A5] <;> omega
  have w5 : IntKind.i64.wrap ((P.inn.l.length : Int) + 1 + ch.length) = (P.inn.l.length : Int) + 1 + ch.length := by rw [A5] <;> omega
  simp [Rh, Ir] at e1
  simp [tPD, tV] at ep eq
  simp [Rj, Rh, Ir, tPD, tV] at e8
  simp [tC, Ab, Af, Am, As, Bc, tP, tV, C9] at ep eq e2 e3 e8 e4a e4b
  simp only [tV] at s1
  cases b
  · obtain ⟨LT, TL, hLT, hTL, k1, k2, k3, k4, k5, k6, k7, k8, k9, k10⟩ := key 0 [] 0 (Ai ch.length) (by rfl) hzl (fun h => absurd rfl h) (fun x hx => by cases hx)
    rw [hLT] at e4a
    rw [hTL] at e2
    generalize P.inn.l ++ ([0] ++ Ai ch.length) = row at *
    have hdl : d < LT.length := by omega
    have e5 := gE (f := M7) [] hdl
    have e5' := gE' (f := M7) [] hdl
    rw [k6] at e5 e5'
    have hnl : P.inn.l.length < row.length := by omega
    have e6 := gE (f := tK) 0 hnl
    have e6' := gE' (f := tK) 0 hnl
    rw [k9] at e6 e6'
    have g1 := fun Q p1 p2 cl cw nl nw h0 => qFt (Γ := Γ) (Q := Q) false ⟨ch, none, none⟩ ⟨[], some 0, some true⟩ p1 p2 LT TL cl cw nl nw d (by omega) k1 k2 k3 k4 k5 h0 (2 * d + 2) 0 (by omega)
    have g3 := fun Q cl nl h0 => qFu (Γ := Γ) (Q := Q) false ⟨ch, none, none⟩ hcl ⟨[], some 0, some true⟩ (fun h => nomatch h) LT cl nl d hdl row k6 P.inn.l.length (by omega) k7 (fun k hk => by rw [k10 k hk, qCU]; rfl) h0 ch.length 0 (by simp)
    simp [ltE, Bc, tV, C9] at g1
    simp [ltF, Bc, tV, C9] at g3
    simp only [M7] at e5 e5'
    simp [k2] at e2
    simp [J3, Rj, Rh, Ir, tPD, tV]
    refine A8 e1 rfl ?_
    simp [tC, Ab, Af, Am, As, Bc]
    refine A8 ep rfl ?_
    simp
    refine A8 eq rfl ?_
    simp
    refine A8 e4a rfl ?_
    simp [tP, tV]
    refine A8 e2 rfl ?_
    simp
    refine A3 e3 rfl ?_
    simp [A0, k1, k2, w1, w2, w3]
    refine g1 _ _ _ _ _ _ _ ?_
    simp [A0, A9, k1, k7, k8, e5, e5', e6, e6', hdl, hnl, w4, w5]
    refine ⟨by omega, by omega, A3 (s1 _ _) rfl ?_⟩
    simp [A0, A9, k1, k7, k8, e5, e5', e6, e6', hdl, hnl, w4, w5]
    refine ⟨by omega, by omega, ?_⟩
    refine g3 _ _ _ ?_
    simp
    refine A8 (q0l hΓ) rfl ?_
    simp [J4, Aj]
  · obtain ⟨LT, TL, hLT, hTL, k1, k2, k3, k4, k5, k6, k7, k8, k9, k10⟩ := key 1 V 1 V (by rfl) hvl (fun _ => hvl) hv4
    rw [hLT] at e4b
    rw [hTL] at e2
    generalize P.inn.l ++ ([1] ++ V) = row at *
    have hdl : d < LT.length := by omega
    have e5 := gE (f := M7) [] hdl
    have e5' := gE' (f := M7) [] hdl
    rw [k6] at e5 e5'
    have hnl : P.inn.l.length < row.length := by omega
    have e6 := gE (f := tK) 0 hnl
    have e6' := gE' (f := tK) 0 hnl
    rw [k9] at e6 e6'
    have g1 := fun Q p1 p2 cl cw nl nw h0 => qFt (Γ := Γ) (Q := Q) true ⟨ch, none, none⟩ ⟨V, none, none⟩ p1 p2 LT TL cl cw nl nw d (by omega) k1 k2 k3 k4 k5 h0 (2 * d + 2) 0 (by omega)
    have g3 := fun Q cl nl h0 => qFu (Γ := Γ) (Q := Q) true ⟨ch, none, none⟩ hcl ⟨V, none, none⟩ (fun _ => hvl) LT cl nl d hdl row k6 P.inn.l.length (by omega) k7 (fun k hk => by rw [k10 k hk]; rfl) h0 ch.length 0 (by simp)
    simp [ltE, Bc, tV, C9] at g1
    simp [ltF, Bc, tV, C9] at g3
    simp only [M7] at e5 e5'
    simp [k2] at e2
    simp [J3, Rj, Rh, Ir, tPD, tV]
    refine A8 e1 rfl ?_
    simp [tC, Ab, Af, Am, As, Bc]
    refine A8 ep rfl ?_
    simp
    refine A8 eq rfl ?_
    simp
    refine A8 e8 rfl ?_
    simp
    refine A8 e4b rfl ?_
    simp [tP, tV]
    refine A8 e2 rfl ?_
    simp
    refine A3 e3 rfl ?_
    simp [A0, k1, k2, w1, w2, w3]
    refine g1 _ _ _ _ _ _ _ ?_
    simp [A0, A9, k1, k7, k8, e5, e5', e6, e6', hdl, hnl, w4, w5]
    refine ⟨by omega, by omega, A3 (s1 _ _) rfl ?_⟩
    simp [A0, A9, k1, k7, k8, e5, e5', e6, e6', hdl, hnl, w4, w5]
    refine ⟨by omega, by omega, ?_⟩
    refine g3 _ _ _ ?_
    simp
    refine A8 (q0l hΓ) rfl ?_
    simp [J4, Aj]
end Go.Lg
namespace Go.Proofs.YtgnomdkcimglbaaGreatDoor
open Go Go.Lg Go.ChangeShapes Go.WideShapes Go.ChangeAt Go.RowKit
theorem q0o {P : Program} {x : String × DataW Unit} {l : List (String × DataW Unit)} {w : World} (h : laidMet P (x :: l) w) : laidMet P l w := by
  obtain ⟨ps, hv, hn, hm⟩ := h
  obtain ⟨n, d⟩ := x
  obtain ⟨g, t, cs, fuel, p, q, h1, h2, h3, h4, h5, rfl⟩ := hv
  exact ⟨q, h5, (List.nodup_append.1 hn).2.1, fun b off hq => hm b off (List.mem_append_right _ hq)⟩
theorem qKf {W : World} (h : laidMetH Tryz.prog [("math/bits.deBruijn32tab", Rows.laid_math_bits_deBruijn32tab), ("math/bits.deBruijn64tab", Rows.laid_math_bits_deBruijn64tab), ("internal/strconv.uint64pow10", Rows.laid_internal_strconv_uint64pow10), ("probecard/logic.fanins", Rows.laid_probecard_logic_fanins)] W) : Gl G0 W (Old W) := by
  rw [MakeChecks.laidMetH_plain _ _ _ (by kernel_rfl)] at h
  exact qIR (q0o (q0o (q0o h)))
noncomputable def qIV (os : Os) : World :=
  { q9Y os with heap := (((q9Y os).heap.modify 2 fun
      | .cells _ t frozen => .cells ([.int .u64 1, .int .u64 10, .int .u64 100, .int .u64 1000, .int .u64 10000, .int .u64 100000, .int .u64 1000000, .int .u64 10000000, .int .u64 100000000, .int .u64 1000000000, .int .u64 10000000000, .int .u64 100000000000, .int .u64 1000000000000, .int .u64 10000000000000, .int .u64 100000000000000, .int .u64 1000000000000000, .int .u64 10000000000000000, .int .u64 100000000000000000, .int .u64 1000000000000000000, .int .u64 10000000000000000000] : List Value).toArray t frozen
      | o => o).modify 3 fun
      | .cells _ t frozen => .cells ([.int .u8 0, .int .u8 1, .int .u8 28, .int .u8 2, .int .u8 29, .int .u8 14, .int .u8 24, .int .u8 3, .int .u8 30, .int .u8 22, .int .u8 20, .int .u8 15, .int .u8 25, .int .u8 17, .int .u8 4, .int .u8 8, .int .u8 31, .int .u8 27, .int .u8 13, .int .u8 23, .int .u8 21, .int .u8 19, .int .u8 16, .int .u8 7, .int .u8 26, .int .u8 12, .int .u8 18, .int .u8 6, .int .u8 11, .int .u8 5, .int .u8 10, .int .u8 9] : List Value).toArray t frozen
      | o => o).modify 4 fun
      | .cells _ t frozen => .cells ([.int .u8 0, .int .u8 1, .int .u8 56, .int .u8 2, .int .u8 57, .int .u8 49, .int .u8 28, .int .u8 3, .int .u8 61, .int .u8 58, .int .u8 42, .int .u8 50, .int .u8 38, .int .u8 29, .int .u8 17, .int .u8 4, .int .u8 62, .int .u8 47, .int .u8 59, .int .u8 36, .int .u8 45, .int .u8 43, .int .u8 51, .int .u8 22, .int .u8 53, .int .u8 39, .int .u8 33, .int .u8 30, .int .u8 24, .int .u8 18, .int .u8 12, .int .u8 5, .int .u8 63, .int .u8 55, .int .u8 48, .int .u8 27, .int .u8 60, .int .u8 41, .int .u8 37, .int .u8 16, .int .u8 46, .int .u8 35, .int .u8 44, .int .u8 21, .int .u8 52, .int .u8 32, .int .u8 23, .int .u8 11, .int .u8 54, .int .u8 26, .int .u8 40, .int .u8 15, .int .u8 34, .int .u8 20, .int .u8 31, .int .u8 10, .int .u8 25, .int .u8 14, .int .u8 19, .int .u8 9, .int .u8 13, .int .u8 8, .int .u8 7, .int .u8 6] : List Value).toArray t frozen
      | o => o }
end Go.Proofs.YtgnomdkcimglbaaGreatDoor
