/- The expansion of a circuit, walked: the frames, the last state nodes. Conditions: none. -/
import Derived.Test.YtjcogpofldkniaaGreatDoorPkF
import Derived.Test.YtjcogpofldkniaaGreatDoorPkC
import Derived.Test.YtjcogpofldkniaaGreatDoorProg
import Derived.KernelRfl
set_option linter.unusedSimpArgs false
set_option linter.unusedVariables false
set_option maxRecDepth 100000
namespace Go.Lg
open Go Go.Proofs
variable {Γ : Tables}
def frU (many f : Nat) : List Int := (List.range many).map fun j : Nat => (f : Int) * many + (j : Int)
theorem qGH {many f : Nat} : (frU many f).length = many := by simp [frU]
def frT (many f : Nat) : T := .sl (Av (frU many f)) (some many) none
def Vu (many n : Nat) : List T := (List.range n).map (frT many)
theorem qDy {many n : Nat} : (Vu many n).length = n := by simp [Vu]
theorem qHJ {many n : Nat} : Vu many (n + 1) = Vu many n ++ [frT many n] := by simp [Vu, List.range_succ]
def q2o (c : B5) (n : Nat) : List Nd := (List.range n).flatMap fun f => c.nodes.l.map (unN c.nodes.l.length f)
def q6C (many n : Nat) : List (List UInt8) := (List.range n).flatMap fun f => (List.range many).map (nmU f)
theorem qBt {c : B5} {n : Nat} : q2o c (n + 1) = q2o c n ++ c.nodes.l.map (unN c.nodes.l.length n) := by simp [q2o, List.range_succ]
theorem qBu {many n : Nat} : q6C many (n + 1) = q6C many n ++ (List.range many).map (nmU n) := by simp [q6C, List.range_succ]
theorem Qq {c : B5} : ∀ {n : Nat}, (q2o c n).length = n * c.nodes.l.length
 | 0 => by simp [q2o]
 | n + 1 => by rw [qBt, List.length_append, Qq (n := n), List.length_map, Nat.succ_mul]
theorem q7F {many : Nat} : ∀ {n : Nat}, (q6C many n).length = n * many
 | 0 => by simp [q6C]
 | n + 1 => by rw [qBu, List.length_append, q7F (n := n), List.length_map, List.length_range, Nat.succ_mul]
theorem qJA {F : List T} {k : Nat} : unB F (.t (.sl [] (some 0) (some true))) k = F.map .t ++ List.replicate (k + 1) (.t (.sl [] (some 0) (some true))) := by simp [unB, List.replicate_succ]
theorem qJB {F : List T} {t : T} {k : Nat} : unB F (.t t) k = (F ++ [t]).map .t ++ List.replicate k (.t (.sl [] (some 0) (some true))) := by simp [unB]
set_option maxHeartbeats 4000000 in
theorem qL0 {Q : AX → St → Prop} (c : B5) (n : Nat) (h8 : n ≤ 8) (hm : c.nodes.l.length ≤ 16) (hi : qDw c) (S : T)
  (h0 : Q (.exit 0) ⟨unE n c S ++ [(39, .t (tI n)), (40, .t (tI n)), (41, .t (tB false))], unH (n * c.nodes.l.length) ((Vu c.nodes.l.length n).map .t) ++ unG (q2o c n) (q6C c.nodes.l.length n)⟩) :
  ∀ (k f : Nat), k + f = n →
  run Tryz.prog Γ Lr Q ⟨unE n c S ++ [(39, .t (tI n)), (40, .t (tI f))], unH (f * c.nodes.l.length) ((Vu c.nodes.l.length f).map .t ++ List.replicate k (.t (.sl [] (some 0) (some true)))) ++ unG (q2o c f) (q6C c.nodes.l.length f)⟩
 | 0, f, hk => by
  refine V6 fun K hK => ?_
  have h2 : f = n := by omega
  subst h2
  simp [unE, unH, unG, Ax, tC, A5, A8, Ad, B1] at h0
  simp [unE, unH, unG, Ax, tC, A5, A8, Ad, B1]
  simpa using h0
 | k + 1, f, hk => by
  refine V6 fun K hK => ?_
  have hf : f < n := by omega
  have hfn : (f : Int) < n := by omega
  have hF : (Vu c.nodes.l.length f).length = f := qDy
  have hr : n - f - 1 = k := by omega
  have g := fun Q h0 => qKz (Γ := Γ) (Q := Q) c n f hf h8 hm hi S (Vu c.nodes.l.length f) hF (frU c.nodes.l.length f) (q2o c (f + 1)) (q6C c.nodes.l.length (f + 1)) h0 c.nodes.l.length 0 [] (q2o c f) (q6C c.nodes.l.length f) (by omega) rfl (by rw [Qq, q7F]) (by rw [Qq]; rfl) (by simp [frU, List.range_eq_range']) (by rw [qBt]; simp) (by rw [qBu, List.range_eq_range'])
  have ih := qL0 c n h8 hm hi S h0 k (f + 1) (by omega)
  rw [hr] at g
  rw [qHJ] at ih
  have l1 : (q2o c (f + 1)).length = (f + 1) * c.nodes.l.length := Qq
  have l0 : (q2o c f).length = f * c.nodes.l.length := Qq
  have hcl := q6W (Γ := Γ) (Av (frU c.nodes.l.length f)) none none A6
  rw [A0, qGH] at hcl
  have ht : (Av (frU c.nodes.l.length f)).take c.nodes.l.length = Av (frU c.nodes.l.length f) := List.take_of_length_le (by rw [A0, qGH]; omega)
  have d1 := fun x k => qAe (x := x) (k := k) hF
  have d2 := fun x k => qDx (x := x) (k := k) hF
  have d3 := fun x k => qBs (x := x) (k := k) hF
  have d4 := fun x k => qGF (x := x) (k := k) hF
  have d5 := fun x y k => qGG (x := x) (y := y) (k := k) hF
  have d6 : ∀ x k (h : f < (unB (Vu c.nodes.l.length f) x k).length), (unB (Vu c.nodes.l.length f) x k)[f]'h = x := fun x k h => by have := d4 x k; rw [List.getElem?_eq_getElem h] at this; exact Option.some.inj this
  have hBl : ∀ x : AV, (unB (Vu c.nodes.l.length f) x k).length = n := fun x => by rw [qGE, hF]; omega
  have w1 := B0 (i := f) (by omega)
  rw [l1, l0] at g
  unfold frT at ih
  generalize frU c.nodes.l.length f = FR at *
  generalize Vu c.nodes.l.length f = F at *
  generalize q2o c (f + 1) = NS at *
  generalize q6C c.nodes.l.length (f + 1) = MS at *
  generalize q2o c f = ns at *
  generalize q6C c.nodes.l.length f = ms at *
  rw [← qJB] at ih
  rw [← qJA]
  have hfold : ∀ x : AV, F.map AV.t ++ x :: List.replicate k (AV.t (.sl [] (some 0) (some true))) = unB F x k := fun x => rfl
  simp [unE, unH, unG, Ax, tC, A5, A8, Ad, B1, D4] at g
  simp [unE, unH, unG, Ax, tC, A5, A8, Ad, B1] at ih
  simp [unE, unH, unG, Ax, tC, A5, A8, Ad, B1, hfn, hf, d1, d2, d3, d4, d5, d6, hBl, I8, Ly, M1, hfold, A9]
  refine g _ ?_
  simp [St.freeze, B7.closed, Bi, frz1, frz0, E1, del, Ah, ht, hfn, hf, d1, d2, d3, d4, d5, d6, hBl, I8, Ly, M1, hfold, A9]
  refine ⟨by omega, ?_⟩
  refine Aa hcl rfl ?_
  simp [hfn, hf, d1, d2, d3, d4, d5, d6, hBl, I8, Ly, M1, hfold, A9, w1]
  refine ⟨by omega, ?_⟩
  rw [hK]
  simpa using ih
def qBv (c : B5) (n : Nat) (i : Nat) : Nd := ⟨3, mvS c.nodes.l.length ((n : Int) - 1) (c.nodes.l.getD i ⟨0, ⟨[], none, none⟩, 0, 0⟩).inn, 0, 0⟩
set_option maxHeartbeats 4000000 in
theorem qL1 {Q : AX → St → Prop} (c : B5) (n : Nat) (h1 : 1 ≤ n) (h8 : n ≤ 8) (hm : c.nodes.l.length ≤ 16) (hi : qDw c) (L : List Nat) (cap : Option Nat) (nl : Option Bool) (hL : ∀ i ∈ L, i < c.nodes.l.length) (hLl : L.length ≤ 16) (F : List T)
  (NS : List Nd) (MS : List (List UInt8))
  (h0 : Q (.exit 4) ⟨unE n c (.sl (Av (L.map fun i : Nat => (i : Int))) cap nl) ++ [(107, .t (.sl (Av (L.map fun i : Nat => (i : Int))) cap nl)), (108, .t (tI L.length)), (109, .t (tI L.length)), (110, .t (tB false))], unH NS.length (F.map .t) ++ unG NS MS⟩) :
  ∀ (k j : Nat) (ns : List Nd) (ms : List (List UInt8)), k + j = L.length → ns.length = ms.length → ns.length ≤ 1000 + j →
  ns ++ (L.drop j).map (qBv c n) = NS → ms ++ (L.drop j).map (nmU n) = MS →
  run Tryz.prog Γ Ls Q ⟨unE n c (.sl (Av (L.map fun i : Nat => (i : Int))) cap nl) ++ [(107, .t (.sl (Av (L.map fun i : Nat => (i : Int))) cap nl)), (108, .t (tI L.length)), (109, .t (tI j))], unH ns.length (F.map .t) ++ unG ns ms⟩
 | 0, j, ns, ms, hk, hnm, hns, hN, hM => by
  refine V7 fun K hK => ?_
  have h2 : j = L.length := by omega
  subst h2
  rw [List.drop_length] at hN hM
  simp only [List.map_nil, List.append_nil] at hN hM
  subst hN
  subst hM
  simp [unE, unH, unG, Ax, tC, A5, A8, Ad, B1] at h0
  simp [unE, unH, unG, Ax, tC, A5, A8, Ad, B1]
  simpa using h0
 | k + 1, j, ns, ms, hk, hnm, hns, hN, hM => by
  refine V7 fun K hK => ?_
  have h2 : j < L.length := by omega
  rw [List.drop_eq_getElem_cons h2] at hN hM
  simp only [List.map_cons] at hN hM
  have h2' : j < (L.map fun i : Nat => (i : Int)).length := by simpa using h2
  have e2 := gE (f := tI) 0 h2'
  have e2' := gE' (f := tI) 0 h2'
  rw [show (L.map fun i : Nat => (i : Int)).getD j 0 = (L[j] : Int) by simp [List.getD_eq_getElem?_getD, h2]] at e2 e2'
  have hlt := hL _ (List.getElem_mem h2)
  generalize L[j] = i at *
  have e1 : (An Dn c.nodes.l)[i]?.getD [] = Dn c.nodes.l[i] := by simp [An, hlt]
  have e1' : ∀ h, (An Dn c.nodes.l)[i]'h = Dn c.nodes.l[i] := fun h => by simp [An]
  obtain ⟨hx1, hx2⟩ := hi _ (List.getElem_mem hlt)
  obtain ⟨m, rfl⟩ : ∃ m, n = m + 1 := ⟨n - 1, by omega⟩
  have hcc : (((m + 1 : Nat) : Int) - 1) = (m : Int) := by omega
  have hfm : m * c.nodes.l.length ≤ 8 * 16 := Nat.mul_le_mul (by omega) hm
  have hcm : ((m * c.nodes.l.length : Nat) : Int) = (m : Int) * c.nodes.l.length := by simp
  have ih := qL1 c (m + 1) h1 h8 hm hi L cap nl hL hLl F NS MS h0 k (j + 1) (ns ++ [qBv c (m + 1) i]) (ms ++ [nmU (m + 1) i]) (by omega) (by simp [hnm]) (by simp; omega) (by rw [← hN]; simp) (by rw [← hM]; simp)
  have em := q2C (Γ := Γ) c.nodes.l.length m c.nodes.l[i].inn hx1 ⟨by rw [← hcm]; omega, by rw [← hcm]; omega⟩ hx2
  have en := q8j (Γ := Γ) (m + 1) i (by omega) (by omega)
  have hlU : qBv c (m + 1) i = ⟨3, mvS c.nodes.l.length m c.nodes.l[i].inn, 0, 0⟩ := by
   unfold qBv; rw [hcc, show c.nodes.l.getD i ⟨0, ⟨[], none, none⟩, 0, 0⟩ = c.nodes.l[i] by simp [List.getD_eq_getElem?_getD, hlt]]
  have ea := qGD (Γ := Γ) (qBv c (m + 1) i) (nmU (m + 1) i) ns ms hnm (by omega) Ax Ax
  rw [hlU] at ih ea
  have w1 := B0 (i := j) (by omega)
  have w2 : IntKind.i64.wrap (((m + 1 : Nat) : Int) - 1) = (m : Int) := by rw [hcc]; exact A4 (by omega) (by omega)
  have h3 : (j : Int) < L.length := by omega
  have h4 : (i : Int) < c.nodes.l.length := by omega
  generalize c.nodes.l[i] = x at *
  obtain ⟨xk, xin, xm, xb⟩ := x
  simp only at em ih e1 e1' hx1 hx2 ea
  simp only [Dn] at e1 e1'
  simp only [B1] at e1 e1' em
  have q1 : List.idxOf 96009 [9, 141, 96009, 96014] = 2 := by decide
  have q2 : List.idxOf 96014 [9, 141, 96009, 96014] = 3 := by decide
  simp [Dn, B1, Ax, ← hnm] at ea
  simp [unE, unH, unG, Ax, tC, A5, A8, Ad, B1] at ih
  simp at w2 en
  simp [unE, unH, unG, Ax, tC, A5, A8, Ad, B1, A9, A0, A6, Bd, h2, h3, hlt, h4, e1, e1', e2, e2', w2]
  refine Aa em rfl ?_
  simp
  refine A1 en rfl ?_
  simp [q1, q2]
  refine ⟨_, _, ea, ?_⟩
  simp [q1, q2, q0u, w1, q6B, qJ9]
  rw [hK]
  simpa [q6B, qJ9] using ih
def qFH (many n f : Nat) : Nat → List Nat → List Int
 | _, [] => []
 | k, i :: is => (if f + 1 = n then (n : Int) * many + (k : Int) else ((f : Int) + 1) * many + (i : Int)) :: qFH many n f (k + 1) is
theorem qDz {many n f : Nat} : ∀ {L : List Nat} {k : Nat}, (qFH many n f k L).length = L.length
 | [], _ => rfl
 | i :: is, k => by simp [qFH, qDz (L := is)]
def qGI (c : B5) (n : Nat) (L : List Nat) (f : Nat) : List Int := mvL c.nodes.l.length f c.outs.l ++ qFH c.nodes.l.length n f 0 L
def Qr (c : B5) (n : Nat) (L : List Nat) (f : Nat) : List Int := (List.range f).flatMap (qGI c n L)
theorem qAf {c : B5} {n : Nat} {L : List Nat} {f : Nat} : Qr c n L (f + 1) = Qr c n L f ++ qGI c n L f := by simp [Qr, List.range_succ]
theorem qBw {c : B5} {n : Nat} {L : List Nat} : ∀ {f : Nat}, (Qr c n L f).length = f * (c.outs.l.length + L.length)
 | 0 => by simp [Qr]
 | f + 1 => by rw [qAf, List.length_append, qBw (f := f), Nat.succ_mul]; simp [qGI, qCY, qDz]
def Vb (L : List Nat) : List Int := L.map fun i : Nat => (i : Int)
theorem q4F {L : List Nat} : (Vb L).length = L.length := by simp [Vb]
def q4Y (n : Nat) (c : B5) (S : T) : List (Nat × AV) := [(1, .t (tI n)), (2, .t (.ip (tC c) 0)), (4, .lp 4 0 0), (7, .t (.ip [tI c.nodes.l.length] 0)), (8, .t S), (9, .lp 9 0 0), (11, .t (.fn 61 [.ip [tI c.nodes.l.length] 0])), (12, .lb 38 n)]
def q4Z (k m : Nat) (F : List T) (OS : List Int) (NS : List Nd) (MS : List (List UInt8)) : List (Nat × B7) := [(4, .bx [.t Ax, .t Ax, .t Ax, .t Ax, .t Ax]), (9, .bx [.ls 96009 0 k none, .ls 96014 0 k none, .t Ax, .ls 141 0 m none]), (38, .bx (F.map .t)), (141, .sl 3 1 (Av OS)), (96009, .sl 73 4 (An Dn NS)), (96014, .sl 9 1 (Ab tS MS))]
set_option maxHeartbeats 4000000 in
theorem qJC {Q : AX → St → Prop} (c : B5) (n f : Nat) (hf : f < n) (h8 : n ≤ 8) (hm : c.nodes.l.length ≤ 16) (L : List Nat) (cap : Option Nat) (nl : Option Bool) (S : T) (hL : ∀ i ∈ L, i < 16) (hLl : L.length ≤ 16) (F : List T) (kk : Nat) (NS : List Nd) (MS : List (List UInt8)) (OS : List Int)
  (h0 : Q (.exit 8) ⟨q4Y n c S ++ [(19, .t (tI f)), (130, .t (tI n)), (131, .t (tI f)), (143, .t (.sl (Av (Vb L)) cap nl)), (144, .t (tI L.length)), (145, .t (tI L.length)), (146, .t (tB false))], q4Z kk OS.length F OS NS MS⟩) :
  ∀ (q j : Nat) (os : List Int), q + j = L.length → os.length ≤ 100000 + j → os ++ qFH c.nodes.l.length n f j (L.drop j) = OS →
  run Tryz.prog Γ Lt Q ⟨q4Y n c S ++ [(19, .t (tI f)), (130, .t (tI n)), (131, .t (tI f)), (143, .t (.sl (Av (Vb L)) cap nl)), (144, .t (tI L.length)), (145, .t (tI j))], q4Z kk os.length F os NS MS⟩
 | 0, j, os, hk, ho, hO => by
  refine V8 fun K hK => ?_
  have h2 : j = L.length := by omega
  subst h2
  rw [List.drop_length] at hO
  simp only [qFH, List.append_nil] at hO
  subst hO
  simp [q4Y, q4Z, Ax, tC, A5, A8, Ad, B1] at h0
  simp [q4Y, q4Z, Ax, tC, A5, A8, Ad, B1]
  simpa using h0
 | q + 1, j, os, hk, ho, hO => by
  refine V8 fun K hK => ?_
  have h2 : j < L.length := by omega
  rw [List.drop_eq_getElem_cons h2] at hO
  simp only [qFH] at hO
  have h2' : j < (Vb L).length := by rw [q4F]; exact h2
  have e2 := gE (f := tI) 0 h2'
  have e2' := gE' (f := tI) 0 h2'
  rw [show (Vb L).getD j 0 = (L[j] : Int) by simp [Vb, List.getD_eq_getElem?_getD, h2]] at e2 e2'
  have hlt := hL _ (List.getElem_mem h2)
  generalize L[j] = i at *
  have hfm : (f + 1) * c.nodes.l.length ≤ 8 * 16 := Nat.mul_le_mul (by omega) hm
  have hnm : n * c.nodes.l.length ≤ 8 * 16 := Nat.mul_le_mul (by omega) hm
  have c1 : (((f + 1) * c.nodes.l.length : Nat) : Int) = ((f : Int) + 1) * c.nodes.l.length := by simp
  have c2 : ((n * c.nodes.l.length : Nat) : Int) = (n : Int) * c.nodes.l.length := by simp
  have w1 := B0 (i := j) (by omega)
  have wf := B0 (i := f) (by omega)
  have w2 : IntKind.i64.wrap (((f : Int) + 1) * c.nodes.l.length) = ((f : Int) + 1) * c.nodes.l.length := by rw [← c1]; exact A4 (by omega) (by omega)
  have w3 : IntKind.i64.wrap (((f : Int) + 1) * c.nodes.l.length + (i : Int)) = ((f : Int) + 1) * c.nodes.l.length + (i : Int) := by rw [← c1]; exact A4 (by omega) (by omega)
  have w4 : IntKind.i64.wrap ((n : Int) - 1) = (n : Int) - 1 := A4 (by omega) (by omega)
  have w5 : IntKind.i64.wrap ((n : Int) * c.nodes.l.length) = (n : Int) * c.nodes.l.length := by rw [← c2]; exact A4 (by omega) (by omega)
  have w6 : IntKind.i64.wrap ((n : Int) * c.nodes.l.length + (j : Int)) = (n : Int) * c.nodes.l.length + (j : Int) := by rw [← c2]; exact A4 (by omega) (by omega)
  have h3 : (j : Int) < L.length := by omega
  have hl1 : (Vb L).length = L.length := q4F
  have vt : (Av os).take os.length = Av os := Ag
  by_cases hfn : f + 1 = n
  ·rw [if_pos hfn] at hO
   have ih := qJC c n f hf h8 hm L cap nl S hL hLl F kk NS MS OS h0 q (j + 1) (os ++ [(n : Int) * c.nodes.l.length + (j : Int)]) (by omega) (by simp; omega) (by rw [← hO]; simp)
   have vs := Bf (f := tI) (l := os) (x := (n : Int) * c.nodes.l.length + (j : Int))
   have hz : ((f : Int) = (n : Int) - 1) = True := eq_true (by omega)
   clear hfn
   simp [q4Y, q4Z, Ax, tC, A5, A8, Ad, B1] at ih
   simp [q4Y, q4Z, Ax, tC, A5, A8, Ad, B1, A0, A6, hl1, h2, h3, e2, e2', w1, wf, w2, w3, w4, w5, w6, hz, vt, vs]
   refine ⟨by omega, ?_⟩
   rw [hK]
   simpa [q6B] using ih
  ·rw [if_neg hfn] at hO
   have ih := qJC c n f hf h8 hm L cap nl S hL hLl F kk NS MS OS h0 q (j + 1) (os ++ [((f : Int) + 1) * c.nodes.l.length + (i : Int)]) (by omega) (by simp; omega) (by rw [← hO]; simp)
   have vs := Bf (f := tI) (l := os) (x := ((f : Int) + 1) * c.nodes.l.length + (i : Int))
   have hz : ((f : Int) = (n : Int) - 1) = False := eq_false (by omega)
   clear hfn
   simp [q4Y, q4Z, Ax, tC, A5, A8, Ad, B1] at ih
   simp [q4Y, q4Z, Ax, tC, A5, A8, Ad, B1, A0, A6, hl1, h2, h3, e2, e2', w1, wf, w2, w3, w4, w5, w6, hz, vt, vs]
   refine ⟨by omega, ?_⟩
   rw [hK]
   simpa [q6B] using ih
set_option maxHeartbeats 4000000 in
theorem qL2 {Q : AX → St → Prop} (c : B5) (n : Nat) (h8 : n ≤ 8) (hm : c.nodes.l.length ≤ 16) (hO1 : c.outs.l.length ≤ 1000) (hO2 : ∀ k ∈ c.outs.l, 0 ≤ k ∧ k ≤ 1000000) (L : List Nat) (cap : Option Nat) (nl : Option Bool) (hL : ∀ i ∈ L, i < 16) (hLl : L.length ≤ 16) (F : List T) (kk : Nat) (NS : List Nd) (MS : List (List UInt8))
  (h0 : Q (.exit 6) ⟨q4Y n c (.sl (Av (Vb L)) cap nl) ++ [(130, .t (tI n)), (131, .t (tI n)), (132, .t (tB false))], q4Z kk (Qr c n L n).length F (Qr c n L n) NS MS⟩) :
  ∀ (q f : Nat), q + f = n →
  run Tryz.prog Γ Lu Q ⟨q4Y n c (.sl (Av (Vb L)) cap nl) ++ [(130, .t (tI n)), (131, .t (tI f))], q4Z kk (Qr c n L f).length F (Qr c n L f) NS MS⟩
 | 0, f, hk => by
  refine V9 fun K hK => ?_
  have h2 : f = n := by omega
  subst h2
  simp [q4Y, q4Z, Ax, tC, A5, A8, Ad, B1] at h0
  simp [q4Y, q4Z, Ax, tC, A5, A8, Ad, B1]
  simpa using h0
 | q + 1, f, hk => by
  refine V9 fun K hK => ?_
  have hf : f < n := by omega
  have hfn : (f : Int) < n := by omega
  have hfm : f * c.nodes.l.length ≤ 8 * 16 := Nat.mul_le_mul (by omega) hm
  have hcm : ((f * c.nodes.l.length : Nat) : Int) = (f : Int) * c.nodes.l.length := by simp
  have em := q2C (Γ := Γ) c.nodes.l.length f c.outs (by omega) ⟨by rw [← hcm]; omega, by rw [← hcm]; omega⟩ hO2
  have hol : (Qr c n L f).length ≤ 8 * 1016 := by rw [qBw]; exact Nat.mul_le_mul (by omega) (by omega)
  have hml : (mvL c.nodes.l.length f c.outs.l).length ≤ 1000 := by rw [qCY]; exact hO1
  have g := fun Q h0 => qJC (Γ := Γ) (Q := Q) c n f hf h8 hm L cap nl (.sl (Av (Vb L)) cap nl) hL hLl F kk NS MS (Qr c n L (f + 1)) h0 L.length 0 (Qr c n L f ++ mvL c.nodes.l.length f c.outs.l) (by omega) (by simp; omega) (by rw [qAf]; simp [qGI])
  have ih := qL2 c n h8 hm hO1 hO2 L cap nl hL hLl F kk NS MS h0 q (f + 1) (by omega)
  have w1 := B0 (i := f) (by omega)
  have vs : Av (Qr c n L f) ++ Av (mvL c.nodes.l.length f c.outs.l) = Av (Qr c n L f ++ mvL c.nodes.l.length f c.outs.l) := q6T
  unfold mvS at em
  generalize Qr c n L (f + 1) = O2 at *
  generalize Qr c n L f = O1 at *
  generalize mvL c.nodes.l.length f c.outs.l = M at *
  have vt : (Av O1).take O1.length = Av O1 := Ag
  have hl1 : (Vb L).length = L.length := q4F
  simp [B1] at em
  simp [q4Y, q4Z, Ax, tC, A5, A8, Ad, B1] at g
  simp [q4Y, q4Z, Ax, tC, A5, A8, Ad, B1] at ih
  simp [q4Y, q4Z, Ax, tC, A5, A8, Ad, B1, hfn, hf, A0, A6]
  refine Aa em rfl ?_
  simp [hfn, hf, A0, A6, vt, vs, hl1]
  refine ⟨by omega, ?_⟩
  refine g _ ?_
  simp [w1]
  rw [hK]
  simpa using ih
theorem qKG {hp : List (Nat × B7)} {n : Nat} : Ah hp (n + 1) ∘ AV.t = some := rfl
theorem qBx {α : Type} : ∀ {l : List α}, Af (l.map some) = some l
 | [] => rfl
 | a :: l => by simp [Af, qBx (l := l)]
def stN (c : B5) : List Nat := (Aj c).map Int.toNat
theorem qMD {c : B5} (h : ∀ x ∈ Aj c, 0 ≤ x ∧ x < c.nodes.l.length) : Vb (stN c) = Aj c := by
 unfold Vb stN
 rw [List.map_map]
 conv => rhs; rw [← List.map_id (Aj c)]
 refine List.map_congr_left fun x hx => ?_
 have := h x hx
 simp; omega
theorem qCc {c : B5} : (stN c).length = (Aj c).length := by simp [stN]
theorem qME {c : B5} (h : ∀ x ∈ Aj c, 0 ≤ x ∧ x < c.nodes.l.length) : ∀ i ∈ stN c, i < c.nodes.l.length := fun i hi => by
 obtain ⟨x, hx, rfl⟩ := List.mem_map.1 hi
 have := h x hx
 omega
def q84 (c : B5) (n : Nat) : List Nd := q2o c n ++ (stN c).map (qBv c n)
def q85 (c : B5) (n : Nat) : List (List UInt8) := q6C c.nodes.l.length n ++ (stN c).map (nmU n)
def q7G (c : B5) (n : Nat) : List Int := Qr c n (stN c) n
theorem qJD {c : B5} {n : Nat} : (q84 c n).length = n * c.nodes.l.length + (Aj c).length := by simp [q84, Qq, qCc]
theorem qJE {c : B5} {n : Nat} : (q85 c n).length = n * c.nodes.l.length + (Aj c).length := by simp [q85, q7F, qCc]
def tFr (c : B5) (n : Nat) : List T := [.sl (An Dn (q84 c n)) (some (q84 c n).length) none, .sl (Ab tS (q85 c n)) (some (q85 c n).length) none, Ax, .sl (Av (q7G c n)) (some (q7G c n).length) none, .sl ((Vu c.nodes.l.length n).map fun t => [t]) (some n) none]
set_option maxHeartbeats 4000000 in
theorem qE0 (hΓ : GOk Γ) (c : B5) (hc : NOk c) (hi : qDw c) (ho : c.outs.l.length ≤ 16) (hO2 : ∀ k ∈ c.outs.l, 0 ≤ k ∧ k ≤ 1000000) (hs : ∀ x ∈ Aj c, 0 ≤ x ∧ x < c.nodes.l.length) (n : Nat) (h1 : 1 ≤ n) (h8 : n ≤ 8) :
  Ac Tryz.prog Γ 18 [.agg (tC c), tI n] (.tup [.agg (tFr c n), tI 0]) := by
 refine Ar q76 rfl ?_
 have hsl := Di c
 have hm := hc.n2
 have e1 := q7D hΓ c hc ho n h1 h8
 have e2 := Fo (Γ := Γ) c hc.ok
 have hsN := qMD hs
 have hL := qME hs
 have hLl : (stN c).length ≤ 16 := by rw [qCc]; omega
 have hnl : n * c.nodes.l.length ≤ 8 * 16 := Nat.mul_le_mul h8 hm
 have g3 := fun Q S h0 => qL0 (Γ := Γ) (Q := Q) c n h8 hm hi S h0 n 0 (by omega)
 have g5 := fun Q cap nl h0 => qL1 (Γ := Γ) (Q := Q) c n h1 h8 hm hi (stN c) cap nl hL hLl (Vu c.nodes.l.length n) (q84 c n) (q85 c n) h0 (stN c).length 0 (q2o c n) (q6C c.nodes.l.length n) (by omega) (by rw [Qq, q7F]) (by rw [Qq]; omega) (by simp [q84]) (by simp [q85])
 have g9 := fun Q cap nl kk h0 => qL2 (Γ := Γ) (Q := Q) c n h8 hm (by omega) hO2 (stN c) cap nl (fun i hi => by have := hL i hi; omega) hLl (Vu c.nodes.l.length n) kk (q84 c n) (q85 c n) h0 n 0 (by omega)
 have lF : (Vu c.nodes.l.length n).length = n := qDy
 have lN : (q2o c n).length = n * c.nodes.l.length := Qq
 have lNX := qJD (c := c) (n := n)
 have lMX := qJE (c := c) (n := n)
 have k1 := qH5 (Γ := Γ) (An Dn (q84 c n)) none none Bd
 have k2 := qDd (Γ := Γ) (Ab tS (q85 c n)) none none A6
 have k3 := q6W (Γ := Γ) (Av (q7G c n)) none none A6
 rw [A9] at k1
 rw [A0] at k2 k3
 rw [← hsN] at e2
 unfold tFr
 have z0 : q2o c 0 = [] := rfl
 have z1 : q6C c.nodes.l.length 0 = [] := rfl
 have z2 : Vu c.nodes.l.length 0 = [] := rfl
 have z3 : Qr c n (stN c) 0 = [] := rfl
 have fo : Qr c n (stN c) n = q7G c n := rfl
 rw [fo, z3] at g9
 rw [z0, z1, z2] at g3
 rw [lN] at g5
 have hce : (List.map (fun i : Nat => (i : Int)) (stN c)) = Vb (stN c) := rfl
 rw [hce] at g5
 have ht1 : (An Dn (q84 c n)).take (n * c.nodes.l.length + (Aj c).length) = An Dn (q84 c n) := by rw [← lNX]; exact qAm
 have ht2 : (Ab tS (q85 c n)).take (n * c.nodes.l.length + (Aj c).length) = Ab tS (q85 c n) := by rw [← lMX]; exact Ag
 have ht3 : (Av (q7G c n)).take (q7G c n).length = Av (q7G c n) := Ag
 rw [lNX] at g5
 have lXX : (q84 c n).length = (q85 c n).length := by rw [lNX, lMX]
 have hSl : (Vb (stN c)).length = (stN c).length := q4F
 generalize q84 c n = NX at *
 generalize q85 c n = MX at *
 generalize q7G c n = OX at *
 generalize q2o c n = N0 at *
 generalize q6C c.nodes.l.length n = M0 at *
 generalize Vu c.nodes.l.length n = F at *
 generalize Vb (stN c) = SL at *
 simp [tC, A5, A8, Ad, B1] at e1 e2
 simp [unE, unH, unG, Ax, tC, A5, A8, Ad, B1, D4, qBo] at g3
 simp [unE, unH, unG, Ax, tC, A5, A8, Ad, B1] at g5
 simp [q4Y, q4Z, Ax, tC, A5, A8, Ad, B1, D4] at g9
 simp [q1W, tC, A5, A8, Ad, B1]
 refine Aa e1 rfl ?_
 simp
 refine Dt e2 rfl ?_
 simp [A9, St.freeze, B7.closed, Bi, frz1, frz0, E1, del, Ah]
 refine ⟨by omega, ?_⟩
 refine g3 _ _ ?_
 simp [A0, hSl]
 refine g5 _ _ _ ?_
 simp
 refine g9 _ _ _ _ ?_
 simp [St.freeze, B7.closed, Bi, frz1, frz0, E1, del, Ah, ht1, ht2, ht3, q6B, qKy, A9, A0]
 refine Dt k1 rfl ?_
 simp
 refine Dt k2 rfl ?_
 simp
 refine Dt k3 rfl ?_
 have hF2 : ∀ hp : List (Nat × B7), Af (F.map (Ah hp 2 ∘ Aw 9 ∘ AV.t)) = some F := fun hp => by
  rw [q6B, qKG]; exact qBx
 simp [q1X, lF, Ax, hF2, Af]
theorem qL3 : NOk (Ub 9) := ⟨qFE 9 (by omega), by decide +kernel, rfl, by decide +kernel, by decide, by decide, fun i hi => by
 have : i < 3 := hi
 match i, this with
 | 0, _ | 1, _ | 2, _ => decide +kernel⟩
theorem qKH : qDw (Ub 9) := by
 intro x hx; simp [Ub] at hx; rcases hx with rfl | rfl | rfl <;> simp
def qBy : List Nd := [⟨0, ⟨[], some 0, none⟩, 0, 0⟩, ⟨0, ⟨[], some 0, some true⟩, 0, 0⟩, ⟨9, ⟨[0, 1], some 2, none⟩, 0, 0⟩, ⟨0, ⟨[], some 0, none⟩, 0, 0⟩, ⟨3, ⟨[2], some 1, none⟩, 0, 0⟩, ⟨9, ⟨[3, 4], some 2, none⟩, 0, 0⟩, ⟨3, ⟨[5], some 1, none⟩, 0, 0⟩]
def qBz : List (List UInt8) := [[48, 46, 48], [48, 46, 49], [48, 46, 50], [49, 46, 48], [49, 46, 49], [49, 46, 50], [50, 46, 49]]
theorem qJF : q84 (Ub 9) 2 = qBy := by rfl
theorem qJG : q85 (Ub 9) 2 = qBz := by decide +kernel
theorem qJH : q7G (Ub 9) 2 = [2, 4, 5, 6] := by decide +kernel
theorem qMF : ∀ x ∈ Aj (Ub 9), 0 ≤ x ∧ x < (Ub 9).nodes.l.length := by
 have e : Aj (Ub 9) = [1] := by decide +kernel
 intro x hx
 rw [e] at hx
 simp at hx
 subst hx
 decide
theorem qKI (hΓ : GOk Γ) : Ac Tryz.prog Γ 18 [.agg (tC (Ub 9)), tI 2] (.tup [.agg [.sl (An Dn qBy) (some 7) none, .sl (Ab tS qBz) (some 7) none, Ax, .sl (Av [2, 4, 5, 6]) (some 4) none, .sl ((Vu 3 2).map fun t => [t]) (some 2) none], tI 0]) := by
 have h := qE0 hΓ (Ub 9) qL3 qKH (by decide) (by intro k hk; simp [Ub] at hk; subst hk; omega) qMF 2 (by omega) (by omega)
 unfold tFr at h
 rw [qJF, qJG, qJH] at h
 exact h
theorem qKJ (hΓ : GOk Γ) : Ac Tryz.prog Γ 31 [.agg (tC (Ub 9)), lvZ, tW ⟨[⟨[1], some 1, some false⟩, ⟨[1], some 1, some false⟩], some 2, some false⟩] (.tup [.agg [.sl (Aq [1, 0, 1]) (some 3) none, Ax], tI 0]) := by
 have h := qCb hΓ (Ub 9) qL3 (by decide) ⟨[0], some 1, some false⟩ (by decide +kernel) (by simp) ⟨[⟨[1], some 1, some false⟩, ⟨[1], some 1, some false⟩], some 2, some false⟩ (by decide) (by decide) (qCX 9 _ (by simp) (by decide +kernel))
 have e : qHI (Ub 9) [0] [⟨[1], some 1, some false⟩, ⟨[1], some 1, some false⟩] = [1, 0, 1] := by decide +kernel
 simp only at h
 rw [e] at h
 exact h
def qHK (vN v1 v2 v3 : Value) : T := .agg [.pin (.sl (q3z 9) none none) vN, .pin qDt v1, .pin qDu v2, .pin qDv v3]
theorem q7H {vN v1 v2 v3 : Value} : Imp (qHK vN v1 v2 v3) (.agg (tC (Ub 9))) := Imp.agg (.cons (.pin _ _) (.cons (.pin _ _) (.cons (.pin _ _) (.cons (.pin _ _) .nil)))) rfl
theorem qMG (hΓ : GOk Γ) (vN v1 v2 v3 vz : Value) : Ac Tryz.prog Γ 25 [qHK vN v1 v2 v3, .agg [.pin lvZ vz, .sl [] (some 0) (some true), .sl [] (some 0) (some true)], .sl [[lvO], [lvO], [.pin lvZ vz]] (some 3) (some false)]
  (.tup [.sl (An F8 [([1], [1]), ([0], [0]), ([0], [0])]) (some 3) none, .agg (B9 (seqS (Ub 9) (G1 q68) [[1], [1], [0]])), tI 0]) := by
 refine (qKE hΓ).imp (.cons q7H (.cons (Imp.agg (.cons (.pin _ _) (.cons (.refl _) (.cons (.refl _) .nil))) rfl) (.cons (Imp.sl (.cons (.refl _) (.cons (.refl _) (.cons (.cons (.pin _ _) .nil) .nil))) ?_) .nil)))
 intro e he
 simp [Ab] at he
 rcases he with rfl | rfl <;> rfl
theorem qMH (hΓ : GOk Γ) (vN v1 v2 v3 : Value) : Ac Tryz.prog Γ 18 [qHK vN v1 v2 v3, tI 2] (.tup [.agg [.sl (An Dn qBy) (some 7) none, .sl (Ab tS qBz) (some 7) none, Ax, .sl (Av [2, 4, 5, 6]) (some 4) none, .sl ((Vu 3 2).map fun t => [t]) (some 2) none], tI 0]) :=
 (qKI hΓ).imp (.cons q7H (.cons (.refl _) .nil))
theorem qMI (hΓ : GOk Γ) (vN v1 v2 v3 vz : Value) : Ac Tryz.prog Γ 31 [qHK vN v1 v2 v3, .pin lvZ vz, .sl [[lvO], [lvO]] (some 2) (some false)] (.tup [.agg [.sl (Aq [1, 0, 1]) (some 3) none, Ax], tI 0]) :=
 (qKJ hΓ).imp (.cons q7H (.cons (.pin _ _) (.cons (.refl _) .nil)))
theorem qMJ (hΓ : GOk Γ) (vN v1 v2 v3 : Value) : Ac Tryz.prog Γ 28 [qHK vN v1 v2 v3, .sl [[lvO], [lvO]] (some 2) (some false)] (.tup [.sl [] (some 0) none, tI 0]) :=
 (qJ5 hΓ).imp (.cons q7H (.cons (.refl _) .nil))
set_option maxHeartbeats 8000000 in
theorem qOr (hΓ : GOk Γ) (vN v1 v2 v3 vz : Value) (hvz : ∃ a n m, vz = Value.slice a n m) : run Tryz.prog Γ (q3w qMA .skip) (fun e s' => e = .normal ∧ s' = thE (q3z 9) qDt qDu qDv lvZ vN v1 v2 v3 vz (.sl (An Dn qBy) (some 7) none) (.sl (Ab tS qBz) (some 7) none) Ax (.sl (Av [2, 4, 5, 6]) (some 4) none) (.sl ((Vu 3 2).map fun t => [t]) (some 2) none) (tS [49, 48, 48]) (tS [49, 48, 48]) (.sl [] (some 0) none) (tI 0)) (thM (q3z 9) qDt qDu qDv lvO lvZ vN v1 v2 v3 vz) := by
 obtain ⟨az, nz, mz, rfl⟩ := hvz
 have e1 := qMG hΓ vN v1 v2 v3 (.slice az nz mz)
 have e2 := qMH hΓ vN v1 v2 v3
 have e3 := qMI hΓ vN v1 v2 v3 (.slice az nz mz)
 have e4 := qMJ hΓ vN v1 v2 v3
 have hd := qKF
 generalize seqS (Ub 9) (G1 q68) [[1], [1], [0]] = S at *
 have t1 := q4B (Γ := Γ) S.dff (by rw [hd]; decide) (by rw [hd]; simp)
 rw [hd] at t1
 have t2 := q4B (Γ := Γ) ⟨[1, 0, 1], some 3, none⟩ (by decide) (by simp)
 have t3 := q4B (Γ := Γ) ⟨[1], some 1, none⟩ (by decide) (by simp)
 have t4 := q4B (Γ := Γ) ⟨[0], some 1, none⟩ (by decide) (by simp)
 rw [show qBd [0] = [48] by decide +kernel] at t1 t4
 rw [show qBd [1, 0, 1] = [49, 48, 49] by decide +kernel] at t2
 rw [show qBd [1] = [49] by decide +kernel] at t3
 have hF : (Vu 3 2).map (fun t => [t]) = (Vu 3 2).map (fun t => [t]) := rfl
 generalize (Vu 3 2).map (fun t => [t]) = FF at *
 simp [tV, tS, sV, Ab] at t1 t2 t3 t4
 unfold qHK at e1 e2 e3 e4
 generalize q3z 9 = RW at *
 generalize qDt = NM at *
 generalize qDu = MM at *
 generalize qDv = OU at *
 simp [An, F8, tVs, Ab, B9, tV, Dn, B1, qBy, qBz, tS, sV, Ax, lvO, lvZ, tW, Ko] at e1 e2 e3 e4
 simp [qMA, q3w, q2W, q2X, q2Y, q2Z, q2a, q2b, q2c, q1a, q1b, q1c, thM, thE, An, Ab, Dn, B1, qBy, qBz, tS, sV, Ax, lvO, lvZ, tW, Ko]
 refine Aa e1 rfl ?_
 simp
 refine Aa e2 rfl ?_
 simp
 refine Aa e3 rfl ?_
 simp
 refine A1 t1 rfl ?_
 simp
 refine A1 t2 rfl ?_
 simp
 have r1 : IntKind.i64.wrap 1 = 1 := by decide +kernel
 have r2 : IntKind.i64.wrap 2 = 2 := by decide +kernel
 have r3 : IntKind.i64.wrap 3 = 3 := by decide +kernel
 have r4 : IntKind.i64.wrap 4 = 4 := by decide +kernel
 have r5 : IntKind.i64.wrap 5 = 5 := by decide +kernel
 have r6 : IntKind.i64.wrap 6 = 6 := by decide +kernel
 have r7 : IntKind.i64.wrap 7 = 7 := by decide +kernel
 have b1 : ({ data := #[] } : ByteArray) ++ { data := #[49] } = { data := #[49] } := by decide +kernel
 have b2 : ({ data := #[49] } : ByteArray) ++ { data := #[48] } = { data := #[49, 48] } := by decide +kernel
 have b3 : ({ data := #[49, 48] } : ByteArray) ++ { data := #[48] } = { data := #[49, 48, 48] } := by decide +kernel
 refine Ho fun K hK => ?_
 simp [Ce, r1, r2, r3, r4, r5, r6, r7]
 refine A1 t3 rfl ?_
 simp [b1, Ce, r1, r2, r3, r4, r5, r6, r7]
 refine A1 t3 rfl ?_
 simp [b1, Ce, r1, r2, r3, r4, r5, r6, r7]
 rw [hK]
 clear hK K
 refine Ho fun K hK => ?_
 simp [Ce, r1, r2, r3, r4, r5, r6, r7]
 refine A1 t4 rfl ?_
 simp [b2, Ce, r1, r2, r3, r4, r5, r6, r7]
 refine A1 t4 rfl ?_
 simp [b2, Ce, r1, r2, r3, r4, r5, r6, r7]
 rw [hK]
 clear hK K
 refine Ho fun K hK => ?_
 simp [Ce, r1, r2, r3, r4, r5, r6, r7]
 refine A1 t4 rfl ?_
 simp [b3, Ce, r1, r2, r3, r4, r5, r6, r7]
 refine A1 t4 rfl ?_
 simp [b3, Ce, r1, r2, r3, r4, r5, r6, r7]
 rw [hK]
 clear hK K
 refine Ho fun K hK => ?_
 simp [Ce, r1, r2, r3, r4, r5, r6, r7]
 refine C7 fun K hK => ?_
 simp [Ce, r1, r2, r3, r4, r5, r6, r7]
 rw [hK]
 clear hK K
 refine C7 fun K hK => ?_
 simp [Ce, r1, r2, r3, r4, r5, r6, r7]
 rw [hK]
 clear hK K
 refine C7 fun K hK => ?_
 simp [Ce, r1, r2, r3, r4, r5, r6, r7]
 rw [hK]
 clear hK K
 refine C7 fun K hK => ?_
 simp [Ce, r1, r2, r3, r4, r5, r6, r7]
 rw [hK]
 clear hK K
 refine C7 fun K hK => ?_
 simp [Ce, r1, r2, r3, r4, r5, r6, r7]
 rw [hK]
 clear hK K
 refine C7 fun K hK => ?_
 simp [Ce, r1, r2, r3, r4, r5, r6, r7]
 rw [hK]
 clear hK K
 refine C7 fun K hK => ?_
 simp [Ce, r1, r2, r3, r4, r5, r6, r7]
 rw [hK]
 clear hK K
 refine C7 fun K hK => ?_
 simp [Ce, r1, r2, r3, r4, r5, r6, r7]
 refine Aa e4 rfl ?_
 simp
theorem qMK : ∀ (w : World) (X : Nat → Prop) (v : Value), TR w X lvZ v → ∃ a n m, v = Value.slice a n m := by
 intro w X v h
 cases h <;> exact ⟨_, _, _, rfl⟩
theorem q7I (hΓ : GOk Γ) : Ac Tryz.prog Γ 23 [] (tB true) := by
 refine qAb (n := 0) qMB rfl ?_
 intro w X c a hN hmx hg hX hchk hbody hI Qw fin
 have hreg : q8g 13 c = some false := by
  have := qMC
  rw [hbody] at this
  exact this
 refine q67 hN hmx hchk hI (Je qO0) fun d2 a' w' hc2 hr hI2 => ?_
 refine qNz hN hmx hX hg (b8' := 5) (lo := [2, 4, 5, 6]) (co := some 4) (no := none) hI2 hc2 (by rw [hr]; exact hreg) qMK (fun vN v1 v2 v3 vz hvz => Je (qOr hΓ vN v1 v2 v3 vz hvz)) ⟨rfl, rfl, rfl, rfl⟩ (fun y0 y1 y2 y4 => qJ3 (qOq hΓ y0 y1 y2 y4)) fin
end Go.Lg
namespace Go.Lg
open Go
section
variable {P : Program} {Γ : Tables} {Q : AX → St → Prop} {s : St}
/- probecard/probecardlaw10.CyclesShape (function 4) -/
abbrev Na : IC := (.seq (.reg [od 3 (.box true (tm 0)), od 4 (.box true (tm 1)), od 6 (.mv kF)] [kp [2, 3, 4] []]) (.seq (.seq (.reg [od 20 (fa 1 4), od 21 (ld 1 20), od 22 (le 0 21), od 23 (.bin .gtr (tm 22) (ki 8))] [kp [2, 3, 4, 23] []]) (.cond
 (tm 23) (.seq (.reg [od 24 (.call 23 []), om 6 24] [kp [6] []]) .ret) .skip)) (.seq (.reg [od 25 (lG 12 3), od 26 (.call 9 [(tm 25)]), od 7 (.alloc false [(.slice none 0 0), (.slice none 0 0), (.slice none 0 0), (.slice none 0
 0)]), on (.store 4 (tm 7) (tm 26))] [kp [2, 4, 7] [7]]) (.seq (.reg [od 28 (lG 2 4), od 29 (lG 4 7), od 30 (.call 24 [(tm 28), (tm 29)]), om 27 30, od 31 (ex 27 0), od 32 (ex 27 1), od 8 (.alloc false [(.slice none 0 0), (.slice
 none 0 0), (.slice none 0 0)]), on (.store 3 (tm 8) (tm 31)), om 9 32] [kp [2, 7, 8, 9] [7, 8]]) (.seq (.reg [om 33 2, od 34 (.conv .i64 (tm 33)), om 35 9, od 36 (le 0 35), od 37 (.bin .add (tm 36) (ki 1)), od 38 (.bin .rem (tm 34)
 (tm 37)), om 10 38] [kp [7, 8, 9, 10] [7, 8]]) (.seq (.reg [od 40 (lG 4 7), od 41 (lG 3 8), om 42 9, od 43 (.call 25 [(tm 40), (tm 41), (tm 42)]), om 39 43, od 44 (ex 39 0), od 45 (ex 39 1), od 46 (ex 39 2), od 12 (.alloc false
 [(.slice none 0 0), (.slice none 0 0), (.slice none 0 0)]), om 11 44, on (.store 3 (tm 12) (tm 45)), om 13 46] [kp [7, 8, 9, 10, 11, 12, 13] [7, 8, 12]]) (.seq (.reg [od 48 (.ldR 7 4 true (tm 7)), od 49 (.ldR 8 3 true (tm 8)), om
 50 9, om 51 10, od 52 (.slice 1 (tm 50) none (some (tm 51)) none), od 53 (.callT 25 [(tm 48), (tm 49), (tm 52)]), om 47 53, od 54 (ex 47 0), od 55 (ex 47 1), od 56 (ex 47 2), od 15 (.alloc false [(.slice none 0 0), (.slice none 0
 0), (.slice none 0 0)]), om 14 54, on (.stR 15 3 (tm 15) (tm 55)), om 16 56] [kp [7, 9, 10, 11, 12, 13, 14, 15, 16] [7, 12, 15]]) (.seq (.reg [od 58 (.ldR 7 4 true (tm 7)), od 59 (.ldR 15 3 true (tm 15)), om 60 9, om 61 10, od 62
 (.slice 1 (tm 60) (some (tm 61)) none none), od 63 (.callT 25 [(tm 58), (tm 59), (tm 62)]), om 57 63, od 64 (ex 57 0), od 65 (ex 57 1), od 66 (ex 57 2), od 18 (.alloc false [(.slice none 0 0), (.slice none 0 0), (.slice none 0
 0)]), om 17 64, on (.stR 18 3 (tm 18) (tm 65)), om 19 66] [kp [11, 12, 13, 14, 16, 17, 18, 19] [12, 18]]) (.seq (.reg [om 67 13, od 68 (.bin .eql (tm 67) (ki 0)), om 69 68, oT 70 (.mv (tm 16)) 69, oT 71 (.bin .eql (tm 70) (ki 0))
 69, od 72 (.pick (tm 69) (tm 71) kF), om 73 72, oT 74 (.mv (tm 19)) 73, oT 75 (.bin .eql (tm 74) (ki 0)) 73, od 76 (.pick (tm 73) (tm 75) kF), om 77 76, oT 78 (.mv (tm 14)) 77, oT 79 (.mv (tm 17)) 77, oT 80 (.appT 49 2 (tm 78) (tm
 79)) 77, oT 81 (.mv (tm 11)) 77, oT 82 (.call 26 [(tm 80), (tm 81)]) 77, od 83 (.pick (tm 77) (tm 82) kF), om 84 83, oT 85 (lG 3 12) 84, oT 86 (lG 3 18) 84, oT 87 (.call 27 [(tm 85), (tm 86)]) 84, od 88 (.pick (tm 84) (tm 87) kF),
 om 89 88, oT 90 (.call 23 []) 89, od 91 (.pick (tm 89) (tm 90) kF), om 6 91] [kp [6] []]) .ret)))))))))
def Nb : List RV := [.tmp 6]
/- probecard/probecardlaw10.CyclesSettled (function 7) -/
end
end Go.Lg
namespace Go.Lg
open Go Go.Proofs
theorem q40 : Ap Tryz.prog 6 Na 92 3 Nb = true := by kernel_rfl
end Go.Lg
namespace Go.Lg
open Go Go.Proofs
variable {Γ : Tables}
theorem qFI {s : Sl Int} : NlS (Nz s) := by
 unfold Nz NlS
 split
 ·exact fun _ => rfl
 ·exact fun h => nomatch h
theorem qML {s : I9} : q90 (G1 s) := by
 refine ⟨qFI, fun w hw r hr => ?_, fun r hr => ?_⟩
 ·obtain ⟨w', _, rfl⟩ := List.mem_map.1 hw
  obtain ⟨r', _, rfl⟩ := List.mem_map.1 hr
  exact qFI
 ·obtain ⟨r', _, rfl⟩ := List.mem_map.1 hr
  exact qFI
theorem qKK {c : B5} {s : I9} {N : List Int} : q90 (Wi c s N) := by
 refine ⟨fun h => (nomatch h), fun w hw r hr => ?_, fun r hr => ?_⟩
 ·obtain ⟨i, _, _, rfl⟩ := qIv Mm.d Sl.zz hw
  obtain ⟨r', _, rfl⟩ := List.mem_map.1 hr
  exact fun h => nomatch h
 ·obtain ⟨i, _, _, rfl⟩ := qIv Mm.d Sl.zz hr
  exact fun h => nomatch h
theorem qJI {c : B5} : ∀ {is : List (List Int)} {s : I9}, q90 s → q90 (seqS c s is)
 | [], _, h => h
 | i :: is, s, _ => by simp only [seqS]; exact qJI qKK
theorem qMM {v : List Int} {c : B5} : q90 (q4V v c) := by
 refine ⟨fun h => (nomatch h), fun w hw r hr => ?_, fun r hr => ?_⟩
 ·obtain ⟨i, hi, rfl⟩ := Yr Sl.zz hw
  have hi' : i < c.mems.l.length := by rw [show (q4V v c).words.l = ofW v c.mems.l (Aj c).length from rfl, q9D] at hi; exact hi
  obtain ⟨a', e⟩ := q74 (v := v) (a := (Aj c).length) hi'
  rw [show (q4V v c).words.l = ofW v c.mems.l (Aj c).length from rfl, e] at hr
  obtain ⟨a2, rfl⟩ := q4D hr
  exact fun h => nomatch h
 ·obtain ⟨i, hi, rfl⟩ := Yr Sl.z hr
  have hi' : i < c.mems.l.length := by rw [show (q4V v c).read.l = ofR v c.mems.l (Aj c).length from rfl, q9E] at hi; exact hi
  obtain ⟨a', e⟩ := q9F (v := v) (a := (Aj c).length) hi'
  rw [show (q4V v c).read.l = ofR v c.mems.l (Aj c).length from rfl, e]
  exact fun h => nomatch h
set_option maxHeartbeats 4000000 in
theorem qKL (hΓ : GOk Γ) (x : CD) (hx : q7l x) (v : Sl Int) (hv : ∀ u ∈ v.l, Byt u) (ps : Sl PD) (hp : ∀ q ∈ ps.l, q8v q) (a : Int) (ha : 0 ≤ a ∧ a ≤ 255) :
  Ac Tryz.prog Γ 6 [.agg (Nh x), .agg (Ww v ps), tK a] (tB true) := by
 refine Ar q40 rfl ?_
 by_cases h8 : ps.l.length ≤ 8
 ·have h8' : ¬ 8 < (ps.l.length : Int) := by omega
  have h := qM6 hx
  have M := qKv hx
  have e1 := qJs (Γ := Γ) x hx
  generalize ofC x = c at *
  have hn2 := M.n2
  have e2 := qHB (Γ := Γ) v ps (by omega) hp c h
  have H : I4 c (q4V v.l c) := qK6 (fun u hu => (hv u hu).1) c
  have hN : q90 (q4V v.l c) := qMM
  have hI := qJ1 (c := c) hp
  have hIl : (Z2 c ps.l).length = ps.l.length := by simp [Z2]
  generalize q4V v.l c = s at *
  generalize Z2 c ps.l = L at *
  -- where it is split
  obtain ⟨k, hk, hkl⟩ : ∃ k : Nat, a.tmod ((L.length : Int) + 1) = k ∧ k ≤ L.length := by
   have h0 := Int.tmod_eq_emod_of_nonneg (b := (L.length : Int) + 1) ha.1
   have h1 := Int.emod_nonneg a (show ((L.length : Int) + 1) ≠ 0 by omega)
   have h2 := Int.emod_lt_of_pos a (show (0 : Int) < (L.length : Int) + 1 by omega)
   exact ⟨(a % ((L.length : Int) + 1)).toNat, by rw [h0]; omega, by omega⟩
  have hI1 : q91 c (L.take k) := fun y hy => hI y (List.mem_of_mem_take hy)
  have hI2 : q91 c (L.drop k) := fun y hy => hI y (List.mem_of_mem_drop hy)
  have hE := qCW hN
  have Hc := hE.ok H
  have Hm := q9G h Hc hI1.seq
  have Nm : q90 (seqS c (G1 s) ((L.take k).map (·.l))) := qJI qML
  have r1 := fun cp nl => Z1 hΓ c h (by omega) s H hN ⟨L, cp, nl⟩ (by simp only; omega) hI
  have r2 := fun cp nl => Z1 hΓ c h (by omega) s H hN ⟨L.take k, cp, nl⟩ (by simp only [List.length_take]; omega) hI1
  have r3 := fun cp nl => Z1 hΓ c h (by omega) _ Hm Nm ⟨L.drop k, cp, nl⟩ (by simp only [List.length_drop]; omega) hI2
  simp only at r1 r2 r3
  have hEm := qCW Nm
  have spl : L.map (·.l) = (L.take k).map (·.l) ++ (L.drop k).map (·.l) := by rw [← List.map_append, List.take_append_drop]
  have hR : seqR c (G1 s) (L.map (·.l)) = seqR c (G1 s) ((L.take k).map (·.l)) ++ seqR c (G1 (seqS c (G1 s) ((L.take k).map (·.l)))) ((L.drop k).map (·.l)) := by
   rw [spl, q8f, hEm.seqR]
  have hS : Xe (seqS c (G1 s) (L.map (·.l))) (seqS c (G1 (seqS c (G1 s) ((L.take k).map (·.l)))) ((L.drop k).map (·.l))) := by
   rw [spl, q8e]
   exact hEm.symm.seqS
  have HS := q9G h Hc hI.seq
  have es := qF8 (Γ := Γ) _ _ (HS.small h) hS.rel
  have lR : (seqR c (G1 s) (L.map (·.l))).length = L.length := by rw [q3m, List.length_map]
  have lA : (seqR c (G1 s) ((L.take k).map (·.l))).length = k := by rw [q3m, List.length_map, List.length_take]; omega
  have lB : (seqR c (G1 (seqS c (G1 s) ((L.take k).map (·.l)))) ((L.drop k).map (·.l))).length = L.length - k := by rw [q3m, List.length_map, List.length_drop]
  have er := fun c1 c2 n1 n2 => qHC (Γ := Γ) (seqR c (G1 s) (L.map (·.l))) (by omega) (qAa h) c1 c2 n1 n2
  rw [hR] at er r1
  have ltk : (L.take k).length = k := by rw [List.length_take]; omega
  rw [ltk] at r2
  generalize seqR c (G1 (seqS c (G1 s) ((L.take k).map (·.l)))) ((L.drop k).map (·.l)) = B at *
  generalize seqS c (G1 (seqS c (G1 s) ((L.take k).map (·.l)))) ((L.drop k).map (·.l)) = SE at *
  generalize seqS c (G1 s) ((L.take k).map (·.l)) = SM at *
  generalize seqR c (G1 s) ((L.take k).map (·.l)) = A at *
  generalize seqS c (G1 s) (L.map (·.l)) = SL at *
  have t1 : (Ab tV L).take k = Ab tV (L.take k) := by simp [Ab]
  have t2 : (Ab tV L).drop k = Ab tV (L.drop k) := by simp [Ab]
  have t3 : (Ab tV (L.drop k)).take (L.length - k) = Ab tV (L.drop k) := List.take_of_length_le (by rw [A0, List.length_drop]; omega)
  have wl : IntKind.i64.wrap ((L.length : Int) + 1) = (L.length : Int) + 1 := A4 (by omega) (by omega)
  have wa : IntKind.i64.wrap a = a := A4 (by omega) (by omega)
  have ne : ¬ ((L.length : Int) + 1 = 0) := by omega
  have kl : (k : Int) ≤ L.length := by omega
  have hw2 : ∀ l : List (List Int × List Int), Ce 2 (An F8 l) := fun l => Xn fun _ => rfl
  simp [B9, tV, tW, Ko, tC, A5, A8, Ad, B1, Nh, Ww] at e1 e2 r1 r2 r3 es
  simp [Na, Ww, Nh, tV, A9, h8, h8']
  refine Aa e1 rfl ?_
  simp [tC, A5, A8, Ad, B1]
  refine Aa e2 rfl ?_
  simp [A0, wl, wa, ne, hk]
  refine Aa (r1 _ _) rfl ?_
  simp [A0, A6, hkl, kl, t1]
  refine Dt (r2 _ _) rfl ?_
  simp [A0, A6, hkl, kl, t2, t3]
  refine Dt (r3 _ _) rfl ?_
  simp [hw2, q0x]
  refine ⟨⟨by rw [A9, lA], by rw [A9, A9, lA, lB]; omega⟩, ?_⟩
  refine A1 (er _ _ _ _) rfl ?_
  simp
  refine Aa es rfl ?_
  simp
  refine Aa (q7I hΓ) rfl ?_
  simp [Nb]
 ·have h8' : 8 < (ps.l.length : Int) := by omega
  simp [Na, Ww, Nh, tV, A9, h8, h8']
  refine Aa (q7I hΓ) rfl ?_
  simp [Nb]
end Go.Lg
