/- Package memories: Cycle. Conditions: none. -/
import Derived.Test.YtjcogpofldkniaaGreatDoorPkE
import Derived.Test.YtjcogpofldkniaaGreatDoorPkC
import Derived.Test.YtjcogpofldkniaaGreatDoorProg
import Derived.KernelRfl
import Derived.Test.YtjcogpofldkniaaGreatDoorPkD
set_option linter.unusedSimpArgs false
set_option linter.unusedVariables false
set_option maxRecDepth 100000
namespace Go.Lg
open Go Go.Proofs
variable {Γ : Tables}
def cyH (c : B5) (n : Nat) (nets : List Int) : List (Nat × B7) := [(6, .bx [F7, F7, F7]), (7, .bx [F7, F7]), (11, .bx (Z5 c 35 n (some n))), (35, .sl 61 1 (Aq nets))]
def cyE (c : B5) (s : I9) : List (Nat × AV) := [(3, .t (.ip (tC c) 0)), (4, .t (.ip (B9 s) 0)), (6, .lp 6 0 0), (7, .lp 7 0 0), (11, .lp 11 0 0)]
theorem qKr {Q : AX → St → Prop} (hΓ : GOk Γ) (c : B5) (H : ROk c) (hn : c.nodes.l.length ≤ 1000000) (s : I9) (ord : List Int) (ho : ord.length ≤ 1000000) (hin : ∀ n ∈ ord, 0 ≤ n ∧ n < c.nodes.l.length) (R : List Int)
  (h0 : Q (.exit 0) ⟨cyE c s ++ [(46, .t (.sl (Av ord) none none)), (47, .t (tI ord.length)), (48, .t (tI ord.length)), (49, .t (tB false))], cyH c c.nodes.l.length R⟩) :
  ∀ (k i : Nat) (nets : List Int), k + i = ord.length → nets.length = c.nodes.l.length → (∀ v ∈ nets, V4 v) → qGv c (ord.drop i) nets = R →
  run Tryz.prog Γ Jx Q ⟨cyE c s ++ [(46, .t (.sl (Av ord) none none)), (47, .t (tI ord.length)), (48, .t (tI i))], cyH c c.nodes.l.length nets⟩
 | 0, i, nets, h, hl, hv, hR => by
  refine Rr fun K hK => ?_
  have h2 : i = ord.length := by omega
  subst h2
  rw [List.drop_length] at hR
  have hR' : nets = R := hR
  subst hR'
  simp [cyE, cyH, Z5, F7, A5, A8, Ad, B1] at h0
  simp [cyE, cyH, Z5, F7, A5, A8, Ad, B1]
  simpa using h0
 | k + 1, i, nets, h, hl, hv, hR => by
  refine Rr fun K hK => ?_
  have h2 : i < ord.length := by omega
  rw [List.drop_eq_getElem_cons h2] at hR
  have hR : qGv c (ord.drop (i + 1)) (q4m c nets ord[i]) = R := hR
  have e1 := gE (f := tI) 0 h2
  have e1' := gE' (f := tI) 0 h2
  have hnn := hin _ (List.getElem_mem h2)
  rw [Cj h2] at e1 e1'
  generalize ord[i] = n at *
  have ih := qKr hΓ c H hn s ord ho hin R h0 k (i + 1) (q4m c nets n) (by omega) (by rw [qBX]; exact hl) (qFt hv) hR
  have hget := qAE hnn.1 hnn.2
  have hget' := qCR hnn.1 hnn.2
  have hmem := qIP hnn.1 hnn.2
  have hxi := H.inn _ hmem
  have hkk := H.ok.kind _ hmem
  have hinv : q5l c nets n.toNat = Bj nets (nd c n).inn.l := rfl
  have hlR : (q5l c nets n.toNat).length = (nd c n).inn.l.length := by rw [hinv]; simp [Bj]
  have hvR : ∀ v ∈ q5l c nets n.toNat, V4 v := fun v hv' => by
   rw [hinv] at hv'
   obtain ⟨q, hq, rfl⟩ := List.mem_map.1 hv'
   exact q1v hv _
  have hev := qGy hΓ (nd c n).k hkk (q5l c nets n.toNat) none none (by rw [hlR]; omega) hvR
  have hcb := q7d (Γ := Γ) (nd c n).k
  have hst : q4m c nets n = if Fj (nd c n).k then nets.set n.toNat (q6h (nd c n).k (q5l c nets n.toNat)) else nets := rfl
  have hmv := q28 (Γ := Γ) c ⟨nets, some c.nodes.l.length, none⟩ (by show nets.length ≤ _; omega) (nd c n).inn (by omega) (fun k hk => by show 0 ≤ k ∧ k < (nets.length : Int); rw [hl]; exact hxi.2 k hk)
  have hcd : decide (1 ≤ (nd c n).k ∧ (nd c n).k ≤ 13) = Fj (nd c n).k := rfl
  rw [hcd] at hcb
  rw [hst] at ih
  simp only [← hinv] at hmv
  generalize q5l c nets n.toNat = RV at *
  generalize nd c n = x at *
  obtain ⟨hn0, hn1⟩ := hnn
  have hn2 : n.toNat < c.nodes.l.length := by omega
  have hn3 : n.toNat < nets.length := by omega
  have w1 := B0 (i := i) (by omega)
  have vt : (Aq nets).take c.nodes.l.length = Aq nets := by rw [← hl]; exact Ci
  simp [N8, A5, A8, Ad, B1, tV] at hmv
  simp [cyE, cyH, Z5, F7, A5, A8, Ad, B1] at ih
  simp [cyE, cyH, Z5, F7, A5, A8, Ad, B1, h2, A0, A6, A9, Bd, e1, e1', hn0, hn1, hn2, hget, hget', Dn]
  refine A1 hcb rfl ?_
  by_cases hc : Fj x.k = true
  ·rw [if_pos hc] at ih
   simp only [hc]
   have hs : (Aq nets).set n.toNat [tK (q6h x.k RV)] = Aq (nets.set n.toNat (q6h x.k RV)) := J2
   generalize q6h x.k RV = v at *
   simp
   refine A1 hmv (by simp [Ah, vt, Af]) ?_
   simp
   refine A1 hev rfl ?_
   simp [hn0, hn1, hn2, hn3, A0, hl, hs, w1]
   rw [hK]
   simpa using ih
  ·rw [if_neg hc] at ih
   simp only [Bool.not_eq_true] at hc
   simp only [hc]
   simp [w1]
   rw [hK]
   simpa using ih
def Vr (R : List (List Int)) : Sl (Sl Int) := ⟨R.map fun r => ⟨r, none, none⟩, some R.length, none⟩
theorem qIe (R : List (List Int)) : qFy R = tW (Vr R) := by
 unfold qFy tW Vr Ab
 simp [tV, Function.comp_def]
def Qk (nets : List Int) (ms : List Mm) (ws : List (Sl (Sl Int))) : List (Sl Int) := List.zipWith (fun m w => ⟨q3f (w.l.map (·.l)) (Bj nets m.addr.l), none, none⟩) ms ws
def Ny (nets : List Int) (ms : List Mm) (ws : List (Sl (Sl Int))) : List (Sl (Sl Int)) := List.zipWith (fun m w => Vr (Gt (Bj nets m.addr.l) (Bj nets m.data.l) (nets.getD m.write.toNat 0) 0 (w.l.map (·.l)))) ms ws
def qF2 (c : B5) (n : Nat) (nets : List Int) (o x d : T) (rs : List (Sl Int)) (ws : List (Sl (Sl Int))) : List (Nat × B7) :=
 [(6, .bx [F7, F7, F7]), (7, .bx [F7, F7]), (11, .bx ((N8 c ⟨nets, some n, none⟩).map .t)), (17, .bx [.t o, .t x]), (18, .bx [.t d, .ls 127 0 ws.length none, .ls 105 0 rs.length none]), (105, .sl 41 1 (Ab tV rs)), (127, .sl 43 1 (Ab tW ws))]
def qF3 (c : B5) (s : I9) : List (Nat × AV) := [(4, .t (.ip (B9 s) 0)), (6, .lp 6 0 0), (7, .lp 7 0 0), (11, .lp 11 0 0), (17, .lp 17 0 0), (18, .lp 18 0 0)]
theorem qKs {Q : AX → St → Prop} (c : B5) (hn : c.nodes.l.length ≤ 1000000) (s : I9) (nets : List Int) (hl : nets.length = c.nodes.l.length) (hv : ∀ v ∈ nets, V4 v) (hcm : c.mems.l.length ≤ 16)
  (hm : ∀ m ∈ c.mems.l, m.addr.l.length ≤ 8 ∧ m.data.l.length ≤ 32 ∧ (∀ n ∈ m.addr.l, 0 ≤ n ∧ n < c.nodes.l.length) ∧ (∀ n ∈ m.data.l, 0 ≤ n ∧ n < c.nodes.l.length) ∧ 0 ≤ m.write ∧ m.write < c.nodes.l.length)
  (hs : s.words.l.length = c.mems.l.length) (hw : ∀ w ∈ s.words.l, w.l.length ≤ 256 ∧ w.l ≠ [] ∧ ∀ r ∈ w.l, r.l.length ≤ 32) (o x d : T) (RR : List (Sl Int)) (RW : List (Sl (Sl Int)))
  (h0 : Q (.exit 2) ⟨qF3 c s ++ [(84, .t (Ad c.mems)), (85, .t (tI c.mems.l.length)), (86, .t (tI c.mems.l.length)), (87, .t (tB false))], qF2 c c.nodes.l.length nets o x d RR RW⟩) :
  ∀ (k i : Nat) (rs : List (Sl Int)) (ws : List (Sl (Sl Int))), k + i = c.mems.l.length → rs.length = i → ws.length = i → rs ++ Qk nets (c.mems.l.drop i) (s.words.l.drop i) = RR → ws ++ Ny nets (c.mems.l.drop i) (s.words.l.drop i) = RW →
  run Tryz.prog Γ Jy Q ⟨qF3 c s ++ [(84, .t (Ad c.mems)), (85, .t (tI c.mems.l.length)), (86, .t (tI i))], qF2 c c.nodes.l.length nets o x d rs ws⟩
 | 0, i, rs, ws, h, hr, hws, hR, hW => by
  refine Rt fun K hK => ?_
  have h2 : i = c.mems.l.length := by omega
  subst h2
  rw [List.drop_length] at hR hW
  simp only [Qk, Ny, List.zipWith_nil_left, List.append_nil] at hR hW
  subst hR
  subst hW
  simp [qF3, qF2, N8, F7, tV, A5, A8, Ad, B1] at h0
  simp [qF3, qF2, N8, F7, tV, A5, A8, Ad, B1]
  simpa using h0
 | k + 1, i, rs, ws, h, hr, hws, hR, hW => by
  refine Rt fun K hK => ?_
  have h2 : i < c.mems.l.length := by omega
  have h3 : i < s.words.l.length := by omega
  rw [List.drop_eq_getElem_cons h2, List.drop_eq_getElem_cons h3] at hR hW
  simp only [Qk, Ny, List.zipWith_cons_cons] at hR hW
  have e1 : (An tMm c.mems.l)[i]?.getD [] = tMm c.mems.l[i] := by simp [An, h2]
  have e1' : ∀ h, (An tMm c.mems.l)[i]'h = tMm c.mems.l[i] := fun h => by simp [An]
  have e2 := gE (f := tW) Sl.zz h3
  have e2' := gE' (f := tW) Sl.zz h3
  rw [show s.words.l.getD i Sl.zz = s.words.l[i] by simp [List.getD_eq_getElem?_getD, h3]] at e2 e2'
  obtain ⟨ma, md, mia, mid, mw0, mw1⟩ := hm _ (List.getElem_mem h2)
  obtain ⟨wl, wn, wr⟩ := hw _ (List.getElem_mem h3)
  generalize c.mems.l[i] = m at *
  generalize s.words.l[i] = w at *
  have ih := qKs c hn s nets hl hv hcm hm hs hw o x d RR RW h0 k (i + 1) (rs ++ [⟨q3f (w.l.map (·.l)) (Bj nets m.addr.l), none, none⟩]) (ws ++ [Vr (Gt (Bj nets m.addr.l) (Bj nets m.data.l) (nets.getD m.write.toNat 0) 0 (w.l.map (·.l)))]) (by omega) (by rw [List.length_append, hr]; rfl) (by rw [List.length_append, hws]; rfl) (by rw [← hR, List.append_assoc]; rfl) (by rw [← hW, List.append_assoc]; rfl)
  have hva := q28 (Γ := Γ) c ⟨nets, some c.nodes.l.length, none⟩ (by show nets.length ≤ _; omega) m.addr (by omega) (fun k hk => by show 0 ≤ k ∧ k < (nets.length : Int); rw [hl]; exact mia k hk)
  have hvd := q28 (Γ := Γ) c ⟨nets, some c.nodes.l.length, none⟩ (by show nets.length ≤ _; omega) m.data (by omega) (fun k hk => by show 0 ≤ k ∧ k < (nets.length : Int); rw [hl]; exact mid k hk)
  have val : (Bj nets m.addr.l).length = m.addr.l.length := by simp [Bj]
  have vdl : (Bj nets m.data.l).length = m.data.l.length := by simp [Bj]
  have vav : ∀ v ∈ Bj nets m.addr.l, 0 ≤ v := fun v hv' => by
   obtain ⟨q, _, rfl⟩ := List.mem_map.1 hv'
   exact (q1v hv _).1
  have hlook := qH7 (Γ := Γ) w (by omega) (fun r hr => by have := wr r hr; omega) ⟨Bj nets m.addr.l, none, none⟩ (by show (Bj nets m.addr.l).length ≤ _; omega) vav
  have hsto := qEy (Γ := Γ) w (by omega) (fun r hr => by have := wr r hr; omega) ⟨Bj nets m.addr.l, none, none⟩ ⟨Bj nets m.data.l, none, none⟩ (by show (Bj nets m.addr.l).length ≤ _; omega) vav (by show (Bj nets m.data.l).length ≤ _; omega) (nets.getD m.write.toNat 0)
  rw [if_neg wn] at hlook
  rw [qIe] at hsto
  have hq : m.write.toNat < nets.length := by omega
  have e3 := gE (f := tK) 0 hq
  have e3' := gE' (f := tK) 0 hq
  have hqn : m.write.toNat < c.nodes.l.length := by omega
  generalize nets.getD m.write.toNat 0 = en at *
  simp only at hlook hsto hva hvd
  have hsr : Ab tV rs ++ [[tV ⟨q3f (w.l.map (·.l)) (Bj nets m.addr.l), none, none⟩]] = Ab tV (rs ++ [⟨q3f (w.l.map (·.l)) (Bj nets m.addr.l), none, none⟩]) := Bf
  have hsw : Ab tW ws ++ [[tW (Vr (Gt (Bj nets m.addr.l) (Bj nets m.data.l) en 0 (w.l.map (·.l))))]] = Ab tW (ws ++ [Vr (Gt (Bj nets m.addr.l) (Bj nets m.data.l) en 0 (w.l.map (·.l)))]) := Bf
  generalize Vr (Gt (Bj nets m.addr.l) (Bj nets m.data.l) en 0 (w.l.map (·.l))) = nw at *
  generalize q3f (w.l.map (·.l)) (Bj nets m.addr.l) = L at *
  have hsr : Ab tV rs ++ [[T.sl (Aq L) none none]] = Ab tV (rs ++ [⟨L, none, none⟩]) := hsr
  have hsw : Ab tW ws ++ [[T.sl (Ab tV nw.l) nw.cap nw.nl]] = Ab tW (ws ++ [nw]) := hsw
  have hsto : Ac Tryz.prog Γ 46 [tW w, .sl (Aq (Bj nets m.addr.l)) none none, .sl (Aq (Bj nets m.data.l)) none none, tK en] (T.sl (Ab tV nw.l) nw.cap nw.nl) := hsto
  generalize Bj nets m.addr.l = va at *
  generalize Bj nets m.data.l = vd at *
  have w1 := B0 (i := i) (by omega)
  have vt : (Aq nets).take c.nodes.l.length = Aq nets := by rw [← hl]; exact Ci
  have vt1 : (Ab tV rs).take i = Ab tV rs := by rw [← hr]; exact Ag
  have vt2 : (Ab tW ws).take i = Ab tW ws := by rw [← hws]; exact Ag
  have h3i : (i : Int) < s.words.l.length := by omega
  simp only [tMm, B1] at e1 e1'
  simp [N8, A5, A8, Ad, B1] at hva hvd
  simp only [tV] at hva hvd
  simp [qF3, qF2, N8, F7, tV, A5, A8, Ad, B1, B9, Ko] at ih
  simp [qF3, qF2, N8, F7, tV, A5, A8, Ad, B1, B9, Ko, h2, Q5, A9, e1, e1']
  refine A1 hva rfl ?_
  simp [h3, A0, A6, e2, e2']
  refine Aa hlook rfl ?_
  have hw1 : ∀ t : T, Ce 1 [[t]] := fun t e he => by simp at he; subst he; rfl
  simp [hr, hws, h3, A0, A6, e2, e2', vt1, vt2, hsr, hw1]
  refine ⟨by omega, ?_⟩
  refine A1 hvd rfl ?_
  simp [hl, hq, hqn, mw0, mw1, e3, e3', A0, A6]
  refine Aa hsto rfl ?_
  simp [hr, hws, A0, A6, vt1, vt2, hsw, hw1, w1]
  refine ⟨by omega, ?_⟩
  rw [hK]
  simpa [hr, hws] using ih
theorem qG0 (es : List (List T)) (cap : Option Nat) (nl : Option Bool) (hw : Ce 1 es) : Ac Tryz.prog Γ 48 [.sl es cap nl] (.sl es (some es.length) nl) := by
 refine Ar Yn rfl ?_
 simp [Mc, Md, hw]
theorem qIf (es : List (List T)) (cap : Option Nat) (nl : Option Bool) (hw : Ce 1 es) : Ac Tryz.prog Γ 47 [.sl es cap nl] (.sl es (some es.length) nl) := by
 refine Ar Xd rfl ?_
 simp [L2, L6, hw]
theorem qB0 (c : B5) (hc : COk c) (nets : Sl Int) (hl : nets.l.length ≤ 1000000000) : Ac Tryz.prog Γ 42 [.agg (tC c), tV nets] (.agg [tVs (Z6 c nets.l), tVs (Df c nets.l)]) := by
 refine Ar q7q rfl ?_
 have h := qCL (Γ := Γ) c hc nets hl
 generalize Z6 c nets.l = O at *
 generalize Df c nets.l = N at *
 simp [N8, A5, A8, Ad, B1, tV] at h
 simp [q2I, tC, A5, A8, Ad, B1, tV]
 refine A1 h rfl ?_
 simp [q2J, tVs]
def Wi (c : B5) (s : I9) (nets : List Int) : I9 :=
 ⟨⟨Df c nets, some (Df c nets).length, none⟩, ⟨Ny nets c.mems.l s.words.l, some c.mems.l.length, none⟩, ⟨Qk nets c.mems.l s.words.l, some c.mems.l.length, none⟩⟩
def Bq (c : B5) (s : I9) (inn : List Int) : List Int := qIT c inn s.dff.l s.rd
set_option maxHeartbeats 4000000 in
theorem qF4 (hΓ : GOk Γ) (c : B5) (h : MOk c) (hn : c.nodes.l.length ≤ 19) (s : I9) (H : I4 c s) (inn : Sl Int) (hi : inn.l.length = (Bz c).length) (hv : ∀ v ∈ inn.l, V4 v) (hs0 : ∀ x ∈ mems c, 0 ≤ (nd c x).mem ∧ (nd c x).mem < c.mems.l.length ∧ 0 ≤ (nd c x).bit ∧ (nd c x).bit < (c.mems.l.getD (nd c x).mem.toNat Mm.d).data.l.length) (hnv : ∀ v ∈ Bq c s inn.l, V4 v) (hlv : ∀ v ∈ q1H c inn.l s.dff.l s.rd, V4 v) :
  Ac Tryz.prog Γ 11 [.agg (tC c), .agg (B9 s), tV inn] (.tup [.agg (B9 (Wi c s (Bq c s inn.l))), .agg [tVs (Z6 c (Bq c s inn.l)), tVs (Df c (Bq c s inn.l))], .sl (Aq (Bq c s inn.l)) (some c.nodes.l.length) none, tI 0]) := by
 refine Ar q5u rfl ?_
 have e1 := q8b hΓ c h s H inn hi (fun v hv' => (hv v hv').2)
 have e2 := qEo hΓ c h.ok hn
 have hm := h.mf
 have hcm := h.cm
 have hW := H.words h
 have hzl : (List.replicate c.nodes.l.length (0 : Int)).length = c.nodes.l.length := by simp
 have hld := qK4 (Γ := Γ) c h.ok s inn (some c.nodes.l.length) (List.replicate c.nodes.l.length 0) hzl h.n hi H.d (fun x hx => by
  obtain ⟨a1, a2, a3, a4⟩ := hs0 x hx
  exact ⟨a1, by rw [H.r]; exact a2, a3, by rw [H.rl _ (by omega)]; exact a4⟩) rfl
 have hol : (Vj c).length = c.nodes.l.length := by rw [(q7p c).1.length_eq, X6]
 have g1 := fun Q h0 => qKr (Γ := Γ) (Q := Q) hΓ c (qM0 h.ok h.lev) h.n s (Vj c) (by omega) (fun n hn => by rw [(q7p c).1.mem_iff, qCJ] at hn; exact hn) (Bq c s inn.l) h0 (Vj c).length 0 (q1H c inn.l s.dff.l s.rd) (by omega) q7t hlv rfl
 have hnl : (Bq c s inn.l).length = c.nodes.l.length := qH4
 have hll : (q1H c inn.l s.dff.l s.rd).length = c.nodes.l.length := q7t
 have hobs := qB0 (Γ := Γ) c h.ok ⟨Bq c s inn.l, some c.nodes.l.length, none⟩ (by show (Bq c s inn.l).length ≤ _; omega)
 have hcl := qBk (Γ := Γ) ⟨Df c (Bq c s inn.l), some (Df c (Bq c s inn.l)).length, none⟩ (fun h => nomatch h) (by have := Di c; show (Df c _).length ≤ _; unfold Df; rw [List.length_map]; omega)
 have hcs : Vq ⟨Df c (Bq c s inn.l), some (Df c (Bq c s inn.l)).length, none⟩ = ⟨Df c (Bq c s inn.l), none, none⟩ := by unfold Vq; rw [if_neg (fun h => nomatch h)]
 rw [hcs] at hcl
 have g3 := fun Q o x d h0 => qKs (Γ := Γ) (Q := Q) c h.n s (Bq c s inn.l) hnl hnv hcm (fun m hm' => ⟨(hm m hm').1.2, (hm m hm').2.1.2, (hm m hm').2.2⟩) H.w hW o x d (Qk (Bq c s inn.l) c.mems.l s.words.l) (Ny (Bq c s inn.l) c.mems.l s.words.l) h0 c.mems.l.length 0 [] [] (by omega) rfl rfl rfl rfl
 have htk : (Aq (Bq c s inn.l)).take c.nodes.l.length = Aq (Bq c s inn.l) := by rw [← hnl]; exact Ci
 have lR : (Qk (Bq c s inn.l) c.mems.l s.words.l).length = c.mems.l.length := by unfold Qk; rw [List.length_zipWith, H.w, Nat.min_self]
 have lW : (Ny (Bq c s inn.l) c.mems.l s.words.l).length = c.mems.l.length := by unfold Ny; rw [List.length_zipWith, H.w, Nat.min_self]
 have tR : (Ab tV (Qk (Bq c s inn.l) c.mems.l s.words.l)).take c.mems.l.length = Ab tV (Qk (Bq c s inn.l) c.mems.l s.words.l) := by rw [← lR]; exact Ag
 have tW' : (Ab tW (Ny (Bq c s inn.l) c.mems.l s.words.l)).take c.mems.l.length = Ab tW (Ny (Bq c s inn.l) c.mems.l s.words.l) := by rw [← lW]; exact Ag
 have c1 := qA8 (Γ := Γ) (Aq (Df c (Bq c s inn.l))) none none A6
 have c2 := qG0 (Γ := Γ) (Ab tV (Qk (Bq c s inn.l) c.mems.l s.words.l)) none none A6
 have c3 := qIf (Γ := Γ) (Ab tW (Ny (Bq c s inn.l) c.mems.l s.words.l)) none none A6
 rw [A0] at c1 c2 c3
 rw [lR] at c2
 rw [lW] at c3
 have hz : List.replicate c.nodes.l.length [T.v (Value.int .u8 0)] = Aq (List.replicate c.nodes.l.length 0) := by simp [Ab]
 unfold Wi
 generalize Qk (Bq c s inn.l) c.mems.l s.words.l = NR at *
 generalize Ny (Bq c s inn.l) c.mems.l s.words.l = NW at *
 generalize Z6 c (Bq c s inn.l) = O at *
 generalize Df c (Bq c s inn.l) = X at *
 generalize Bq c s inn.l = N at *
 generalize q1H c inn.l s.dff.l s.rd = L at *
 have hlev := h.lev
 simp [tC, A5, A8, Ad, B1, B9, tV, tW, Ko] at e1 e2 hobs hcl
 simp [hlev] at e2
 simp [Z5, A5, A8, Ad, B1, B9, tV, tW, Ko] at hld
 simp [cyE, cyH, Z5, F7, tC, A5, A8, Ad, B1, B9, tV, tW, Ko] at g1
 simp [qF3, qF2, N8, F7, tC, A5, A8, Ad, B1, B9, tV, tW, Ko, D4, lR, lW] at g3
 simp [q06, tC, A5, A8, Ad, B1, B9, tV, tW, Ko]
 refine Aa e1 rfl ?_
 simp [A9]
 refine ⟨by omega, ?_⟩
 rw [hz]
 refine ⟨_, _, hld, ?_⟩
 simp [A0, hll]
 refine A1 e2 rfl ?_
 simp [A0]
 refine g1 _ ?_
 simp [St.freeze, B7.closed, Bi, frz1, frz0, E1, del, Ah, htk]
 refine Aa hobs rfl ?_
 simp [tVs]
 refine Aa hcl rfl ?_
 simp
 refine Aa c1 rfl ?_
 simp [A9]
 refine g3 _ _ _ _ ?_
 simp [St.freeze, B7.closed, Bi, frz1, frz0, E1, del, Ah, tR, tW']
 refine Aa c3 rfl ?_
 simp
 refine Aa c2 rfl ?_
 simp [q07, Ah, Af]
end Go.Lg
namespace Go.Lg
open Go
section
variable {P : Program} {Γ : Tables} {Q : AX → St → Prop} {s : St}
/- probecard/memories.alike (function 73) -/
abbrev q0F : IC := (.seq (.reg [od 3 (.box true (tm 0)), od 4 (.box true (tm 1)), od 5 (.box true (tm 2)), od 6 (.mv kF)] [kp [3, 4, 5] []]) (.seq (.reg [od 9 (.mkf 118 [(tm 5)]), od 7 (.alloc false [.nilFunc]), on (.store 1 (tm 7) (tm 9))] [kp [3,
 4, 7] [7]]) (.seq (.reg [od 10 (.mkf 120 [(tm 7)]), om 8 10] [kp [3, 4, 7, 8] [7]]) (.seq (.reg [od 11 (ld 1 7), od 12 (fa 0 3), od 13 (ld 1 12), od 14 (fa 0 4), od 15 (ld 1 14), od 16 (.callv (tm 11) [(tm 13), (tm 15)]), om 17 16,
 oT 18 (.mv (tm 8)) 17, oT 19 (fa 2 3) 17, oT 20 (ld 1 19) 17, oT 21 (fa 2 4) 17, oT 22 (ld 1 21) 17, oT 23 (.callv (tm 18) [(tm 20), (tm 22)]) 17, od 24 (.pick (tm 17) (tm 23) kF), om 25 24, oT 26 (fa 1 3) 25, oT 27 (ld 1 26) 25,
 oT 28 (fa 1 4) 25, oT 29 (ld 1 28) 25, oT 30 (.mv (tm 8)) 25, oT 31 (.call 122 [(tm 27), (tm 29), (tm 30)]) 25, od 32 (.pick (tm 25) (tm 31) kF), om 6 32] [kp [6] []]) .ret))))
def q0G : List RV := [.tmp 6]
/- probecard/memories.alike$1 (function 118) -/
abbrev Wj : IC := (.seq (.reg [od 5 (.mv kF)] [kp [0, 1, 2] []]) (.seq (.reg [om 6 0, om 7 1, od 8 (ld 1 2), od 9 (.call 119 [(tm 6), (tm 7), (tm 8)]), om 5 9] [kp [5] []]) .ret))
def Wl : List RV := [.tmp 5]
/- probecard/memories.alike$2 (function 120) -/
abbrev Wm : IC := (.seq (.reg [od 5 (.mv kF)] [kp [0, 1, 2] []]) (.seq (.reg [om 6 0, om 7 1, od 8 (ld 1 2), od 9 (.call 121 [(tm 6), (tm 7), (tm 8)]), om 5 9] [kp [5] []]) .ret))
def Wn : List RV := [.tmp 5]
/- probecard/memories.Below (function 30) -/
abbrev q1K : IC := (.seq (.reg [od 2 (.box true (tm 0)), od 3 (.box true (tm 1)), od 4 (.mv kF)] [kp [2, 3] []]) (.seq (.reg [od 5 (lG 3 2), od 6 (lG 3 3), od 7 (.call 73 [(tm 5), (tm 6), (.func 74)]), om 4 7] [kp [4] []]) .ret))
def q1L : List RV := [.tmp 4]
/- probecard/memories.Same$1 (function 74) -/
abbrev Yo : IC := (.seq (.reg [od 4 (.mv kF)] [kp [0, 1] []]) (.seq (.reg [om 5 0, om 6 1, od 7 (.bin .eql (tm 5) (tm 6)), om 4 7] [kp [4] []]) .ret))
def Yp : List RV := [.tmp 4]
/- slices.EqualFunc[[]probecard/api.Value,[]probecard/api.Value,probecard/api.Value,probecard/api.Value] (function 119) -/
abbrev Ig : IC := .gh (.seq (.reg [od 18 (.bin .lss (tm 17) (tm 16))] [kp [1, 2, 15, 16, 17, 18] []]) (.seq (.cond (tm 18) .skip (.exit 0)) (.seq (.block 1 (.seq (.reg [om 19 17, od 20 (ia 1 15 17), od 21 (ld 1 20), om 7 19, om 8 21] [kp [1, 2, 7,
 8, 15, 16, 17] []]) (.seq (.reg [om 22 1, om 23 7, od 24 (ia 1 22 23), od 25 (ld 1 24), om 9 25] [kp [1, 2, 8, 9, 15, 16, 17] []]) (.seq (.reg [om 26 2, om 27 8, om 28 9, od 29 (.callv (tm 26) [(tm 27), (tm 28)]), od 30 (.un .not
 (tm 29))] [kp [1, 2, 15, 16, 17, 30] []]) (.cond (tm 30) (.seq (.reg [od 6 (.mv kF)] [kp [6] []]) .ret) .skip))))) (.reg [od 31 (.bin .add (tm 17) (ki 1)), om 17 31] [kp [1, 2, 15, 16, 17] []])))) [kp [1, 2, 15, 16, 17] []]
def Dj : IC := .loop Ig
abbrev Ih : IC := (.seq (.reg [od 6 (.mv kF)] [kp [0, 1, 2] []]) (.seq (.seq (.reg [om 10 0, od 11 (le 0 10), om 12 1, od 13 (le 0 12), od 14 (.bin .neq (tm 11) (tm 13))] [kp [0, 1, 2, 14] []]) (.cond (tm 14) (.seq (.reg [od 6 (.mv kF)] [kp [6] []])
 .ret) .skip)) (.seq (.seq (.reg [om 15 0, od 16 (le 0 15), od 17 (.mv (ki 0))] [kp [1, 2, 15, 16, 17] []]) (.block 0 Dj)) (.seq (.reg [od 6 (.mv kT)] [kp [6] []]) .ret))))
theorem Gn (h : ∀ K : St → Prop, K = run P Γ Dj Q → run P Γ Ig (Am K Q) s) : run P Γ Dj Q s := Ae h
def Ii : List RV := [.tmp 6]
/- slices.EqualFunc[[][]probecard/api.Value,[][]probecard/api.Value,[]probecard/api.Value,[]probecard/api.Value] (function 121) -/
abbrev I5 : IC := .gh (.seq (.reg [od 18 (.bin .lss (tm 17) (tm 16))] [kp [1, 2, 15, 16, 17, 18] []]) (.seq (.cond (tm 18) .skip (.exit 0)) (.seq (.block 1 (.seq (.reg [om 19 17, od 20 (ia 1 15 17), od 21 (ld 1 20), om 7 19, om 8 21] [kp [1, 2, 7,
 8, 15, 16, 17] []]) (.seq (.reg [om 22 1, om 23 7, od 24 (ia 1 22 23), od 25 (ld 1 24), om 9 25] [kp [1, 2, 8, 9, 15, 16, 17] []]) (.seq (.reg [om 26 2, om 27 8, om 28 9, od 29 (.callv (tm 26) [(tm 27), (tm 28)]), od 30 (.un .not
 (tm 29))] [kp [1, 2, 15, 16, 17, 30] []]) (.cond (tm 30) (.seq (.reg [od 6 (.mv kF)] [kp [6] []]) .ret) .skip))))) (.reg [od 31 (.bin .add (tm 17) (ki 1)), om 17 31] [kp [1, 2, 15, 16, 17] []])))) [kp [1, 2, 15, 16, 17] []]
def D9 : IC := .loop I5
abbrev I6 : IC := (.seq (.reg [od 6 (.mv kF)] [kp [0, 1, 2] []]) (.seq (.seq (.reg [om 10 0, od 11 (le 0 10), om 12 1, od 13 (le 0 12), od 14 (.bin .neq (tm 11) (tm 13))] [kp [0, 1, 2, 14] []]) (.cond (tm 14) (.seq (.reg [od 6 (.mv kF)] [kp [6] []])
 .ret) .skip)) (.seq (.seq (.reg [om 15 0, od 16 (le 0 15), od 17 (.mv (ki 0))] [kp [1, 2, 15, 16, 17] []]) (.block 0 D9)) (.seq (.reg [od 6 (.mv kT)] [kp [6] []]) .ret))))
theorem Ge (h : ∀ K : St → Prop, K = run P Γ D9 Q → run P Γ I5 (Am K Q) s) : run P Γ D9 Q s := Ae h
def I7 : List RV := [.tmp 6]
/- slices.EqualFunc[[][][]probecard/api.Value,[][][]probecard/api.Value,[][]probecard/api.Value,[][]probecard/api.Value] (function 122) -/
abbrev Hg : IC := .gh (.seq (.reg [od 18 (.bin .lss (tm 17) (tm 16))] [kp [1, 2, 15, 16, 17, 18] []]) (.seq (.cond (tm 18) .skip (.exit 0)) (.seq (.block 1 (.seq (.reg [om 19 17, od 20 (ia 1 15 17), od 21 (ld 1 20), om 7 19, om 8 21] [kp [1, 2, 7,
 8, 15, 16, 17] []]) (.seq (.reg [om 22 1, om 23 7, od 24 (ia 1 22 23), od 25 (ld 1 24), om 9 25] [kp [1, 2, 8, 9, 15, 16, 17] []]) (.seq (.reg [om 26 2, om 27 8, om 28 9, od 29 (.callv (tm 26) [(tm 27), (tm 28)]), od 30 (.un .not
 (tm 29))] [kp [1, 2, 15, 16, 17, 30] []]) (.cond (tm 30) (.seq (.reg [od 6 (.mv kF)] [kp [6] []]) .ret) .skip))))) (.reg [od 31 (.bin .add (tm 17) (ki 1)), om 17 31] [kp [1, 2, 15, 16, 17] []])))) [kp [1, 2, 15, 16, 17] []]
def D1 : IC := .loop Hg
abbrev Hh : IC := (.seq (.reg [od 6 (.mv kF)] [kp [0, 1, 2] []]) (.seq (.seq (.reg [om 10 0, od 11 (le 0 10), om 12 1, od 13 (le 0 12), od 14 (.bin .neq (tm 11) (tm 13))] [kp [0, 1, 2, 14] []]) (.cond (tm 14) (.seq (.reg [od 6 (.mv kF)] [kp [6] []])
 .ret) .skip)) (.seq (.seq (.reg [om 15 0, od 16 (le 0 15), od 17 (.mv (ki 0))] [kp [1, 2, 15, 16, 17] []]) (.block 0 D1)) (.seq (.reg [od 6 (.mv kT)] [kp [6] []]) .ret))))
theorem Fq (h : ∀ K : St → Prop, K = run P Γ D1 Q → run P Γ Hg (Am K Q) s) : run P Γ D1 Q s := Ae h
def Hi : List RV := [.tmp 6]
end
end Go.Lg
namespace Go.Lg
open Go Go.Proofs
theorem q60 : Ap Tryz.prog 73 q0F 33 3 q0G = true := by kernel_rfl
theorem q3g : Ap Tryz.prog 118 Wj 10 3 Wl = true := by kernel_rfl
theorem q3h : Ap Tryz.prog 120 Wm 10 3 Wn = true := by kernel_rfl
theorem q72 : Ap Tryz.prog 27 q1K 8 2 q1L = true := by kernel_rfl
theorem q4U : Ap Tryz.prog 74 Yo 8 2 Yp = true := by kernel_rfl
theorem Tm : Ap Tryz.prog 119 Ih 32 3 Ii = true := by kernel_rfl
theorem Qy : Ap Tryz.prog 121 I6 32 3 I7 = true := by kernel_rfl
theorem Ql : Ap Tryz.prog 122 Hh 32 3 Hi = true := by kernel_rfl
end Go.Lg
namespace Go.Lg
open Go Go.Proofs
variable {Γ : Tables}
theorem q29 {hp : List (Nat × B7)} {f : FuncId} {K : T → Prop} {cs : List T} {t u res : T} (h : Ac Tryz.prog Γ f (t :: u :: cs) res ∨ A3 Tryz.prog Γ f (t :: u :: cs) res) (hk : K res) : q4b Tryz.prog Γ hp f (.t t :: .t u :: cs.map .t) K ⟨⟩ := by
 rcases h with h | h
 ·exact Aa h (by simp only [List.map_cons, List.map_map, Function.comp_def, Af, toT]; rw [P6]; rfl) hk
 ·exact A1 h (by simp only [List.map_cons, List.map_map, Function.comp_def, Af, Ah]; rw [P6]; rfl) hk
theorem qIg {Q : AX → St → Prop} (a b : List Int) (ac bc : Option Nat) (an bn : Option Bool) (hl : a.length ≤ 1000000) (hab : a.length = b.length) (f : FuncId) (cs : List T)
  (hf : ∀ i, i < a.length → Ac Tryz.prog Γ f (tK (a.getD i 0) :: tK (b.getD i 0) :: cs) (tB true) ∨ A3 Tryz.prog Γ f (tK (a.getD i 0) :: tK (b.getD i 0) :: cs) (tB true))
  (h0 : Q (.exit 0) ⟨[(1, .t (.sl (Ab tK b) bc bn)), (2, .t (.fn f cs)), (15, .t (.sl (Ab tK a) ac an)), (16, .t (tI a.length)), (17, .t (tI a.length)), (18, .t (tB false))], []⟩) :
  ∀ (k i : Nat), k + i = a.length → run Tryz.prog Γ Dj Q ⟨[(1, .t (.sl (Ab tK b) bc bn)), (2, .t (.fn f cs)), (15, .t (.sl (Ab tK a) ac an)), (16, .t (tI a.length)), (17, .t (tI i))], []⟩
 | 0, i, h => by
  refine Gn fun K hK => ?_
  have h2 : i = a.length := by omega
  subst h2
  simp
  simpa using h0
 | k + 1, i, h => by
  refine Gn fun K hK => ?_
  have h2 : i < a.length := by omega
  have h3 : i < b.length := by omega
  have ih := qIg a b ac bc an bn hl hab f cs hf h0 k (i + 1) (by omega)
  have hq := hf i h2
  have e1 := gE (f := tK) 0 h2
  have e1' := gE' (f := tK) 0 h2
  have e2 := gE (f := tK) 0 h3
  have e2' := gE' (f := tK) 0 h3
  generalize a.getD i 0 = x at *
  generalize b.getD i 0 = y at *
  have w1 := B0 (i := i) (by omega)
  simp [A0, A6, h2, h3, e1, e1', e2, e2']
  refine q29 hq ?_
  simp [w1]
  rw [hK]
  simpa using ih
theorem qIh (a b : List Int) (ac bc : Option Nat) (an bn : Option Bool) (hl : a.length ≤ 1000000) (hab : a.length = b.length) (f : FuncId) (cs : List T)
  (hf : ∀ i, i < a.length → Ac Tryz.prog Γ f (tK (a.getD i 0) :: tK (b.getD i 0) :: cs) (tB true) ∨ A3 Tryz.prog Γ f (tK (a.getD i 0) :: tK (b.getD i 0) :: cs) (tB true)) :
  A3 Tryz.prog Γ 119 [.sl (Ab tK a) ac an, .sl (Ab tK b) bc bn, .fn f cs] (tB true) := by
 refine A7 Tm rfl ?_
 have g := fun Q h0 => qIg (Γ := Γ) (Q := Q) a b ac bc an bn hl hab f cs hf h0 a.length 0 (by omega)
 simp at g
 simp [Ih, A0, hab]
 rw [hab] at g
 refine g _ ?_
 simp [Ii]
theorem qIi {Q : AX → St → Prop} (a b : List (Sl Int)) (ac bc : Option Nat) (an bn : Option Bool) (hl : a.length ≤ 1000000) (hab : a.length = b.length) (f : FuncId) (cs : List T)
  (hf : ∀ i, i < a.length → Ac Tryz.prog Γ f (tV (a.getD i Sl.z) :: tV (b.getD i Sl.z) :: cs) (tB true) ∨ A3 Tryz.prog Γ f (tV (a.getD i Sl.z) :: tV (b.getD i Sl.z) :: cs) (tB true))
  (h0 : Q (.exit 0) ⟨[(1, .t (.sl (Ab tV b) bc bn)), (2, .t (.fn f cs)), (15, .t (.sl (Ab tV a) ac an)), (16, .t (tI a.length)), (17, .t (tI a.length)), (18, .t (tB false))], []⟩) :
  ∀ (k i : Nat), k + i = a.length → run Tryz.prog Γ D9 Q ⟨[(1, .t (.sl (Ab tV b) bc bn)), (2, .t (.fn f cs)), (15, .t (.sl (Ab tV a) ac an)), (16, .t (tI a.length)), (17, .t (tI i))], []⟩
 | 0, i, h => by
  refine Ge fun K hK => ?_
  have h2 : i = a.length := by omega
  subst h2
  simp
  simpa using h0
 | k + 1, i, h => by
  refine Ge fun K hK => ?_
  have h2 : i < a.length := by omega
  have h3 : i < b.length := by omega
  have ih := qIi a b ac bc an bn hl hab f cs hf h0 k (i + 1) (by omega)
  have hq := hf i h2
  have e1 := gE (f := tV) Sl.z h2
  have e1' := gE' (f := tV) Sl.z h2
  have e2 := gE (f := tV) Sl.z h3
  have e2' := gE' (f := tV) Sl.z h3
  generalize a.getD i Sl.z = x at *
  generalize b.getD i Sl.z = y at *
  have w1 := B0 (i := i) (by omega)
  simp [A0, A6, h2, h3, e1, e1', e2, e2']
  refine q29 hq ?_
  simp [w1]
  rw [hK]
  simpa using ih
theorem qIj (a b : List (Sl Int)) (ac bc : Option Nat) (an bn : Option Bool) (hl : a.length ≤ 1000000) (hab : a.length = b.length) (f : FuncId) (cs : List T)
  (hf : ∀ i, i < a.length → Ac Tryz.prog Γ f (tV (a.getD i Sl.z) :: tV (b.getD i Sl.z) :: cs) (tB true) ∨ A3 Tryz.prog Γ f (tV (a.getD i Sl.z) :: tV (b.getD i Sl.z) :: cs) (tB true)) :
  A3 Tryz.prog Γ 121 [.sl (Ab tV a) ac an, .sl (Ab tV b) bc bn, .fn f cs] (tB true) := by
 refine A7 Qy rfl ?_
 have g := fun Q h0 => qIi (Γ := Γ) (Q := Q) a b ac bc an bn hl hab f cs hf h0 a.length 0 (by omega)
 simp at g
 simp [I6, A0, hab]
 rw [hab] at g
 refine g _ ?_
 simp [I7]
theorem qIk {Q : AX → St → Prop} (a b : List (Sl (Sl Int))) (ac bc : Option Nat) (an bn : Option Bool) (hl : a.length ≤ 1000000) (hab : a.length = b.length) (f : FuncId) (cs : List T)
  (hf : ∀ i, i < a.length → Ac Tryz.prog Γ f (tW (a.getD i Sl.zz) :: tW (b.getD i Sl.zz) :: cs) (tB true) ∨ A3 Tryz.prog Γ f (tW (a.getD i Sl.zz) :: tW (b.getD i Sl.zz) :: cs) (tB true))
  (h0 : Q (.exit 0) ⟨[(1, .t (.sl (Ab tW b) bc bn)), (2, .t (.fn f cs)), (15, .t (.sl (Ab tW a) ac an)), (16, .t (tI a.length)), (17, .t (tI a.length)), (18, .t (tB false))], []⟩) :
  ∀ (k i : Nat), k + i = a.length → run Tryz.prog Γ D1 Q ⟨[(1, .t (.sl (Ab tW b) bc bn)), (2, .t (.fn f cs)), (15, .t (.sl (Ab tW a) ac an)), (16, .t (tI a.length)), (17, .t (tI i))], []⟩
 | 0, i, h => by
  refine Fq fun K hK => ?_
  have h2 : i = a.length := by omega
  subst h2
  simp
  simpa using h0
 | k + 1, i, h => by
  refine Fq fun K hK => ?_
  have h2 : i < a.length := by omega
  have h3 : i < b.length := by omega
  have ih := qIk a b ac bc an bn hl hab f cs hf h0 k (i + 1) (by omega)
  have hq := hf i h2
  have e1 := gE (f := tW) Sl.zz h2
  have e1' := gE' (f := tW) Sl.zz h2
  have e2 := gE (f := tW) Sl.zz h3
  have e2' := gE' (f := tW) Sl.zz h3
  generalize a.getD i Sl.zz = x at *
  generalize b.getD i Sl.zz = y at *
  have w1 := B0 (i := i) (by omega)
  simp [A0, A6, h2, h3, e1, e1', e2, e2']
  refine q29 hq ?_
  simp [w1]
  rw [hK]
  simpa using ih
theorem qIl (a b : List (Sl (Sl Int))) (ac bc : Option Nat) (an bn : Option Bool) (hl : a.length ≤ 1000000) (hab : a.length = b.length) (f : FuncId) (cs : List T)
  (hf : ∀ i, i < a.length → Ac Tryz.prog Γ f (tW (a.getD i Sl.zz) :: tW (b.getD i Sl.zz) :: cs) (tB true) ∨ A3 Tryz.prog Γ f (tW (a.getD i Sl.zz) :: tW (b.getD i Sl.zz) :: cs) (tB true)) :
  A3 Tryz.prog Γ 122 [.sl (Ab tW a) ac an, .sl (Ab tW b) bc bn, .fn f cs] (tB true) := by
 refine A7 Ql rfl ?_
 have g := fun Q h0 => qIk (Γ := Γ) (Q := Q) a b ac bc an bn hl hab f cs hf h0 a.length 0 (by omega)
 simp at g
 simp [Hh, A0, hab]
 rw [hab] at g
 refine g _ ?_
 simp [Hi]
def qF5 (rel : Int → Int → Prop) (l m : List Int) : Prop := l.length = m.length ∧ ∀ i, i < l.length → rel (l.getD i 0) (m.getD i 0)
structure qIm (rel : Int → Int → Prop) (a b : I9) : Prop where
 d : qF5 rel a.dff.l b.dff.l
 rl : a.read.l.length = b.read.l.length
 r : ∀ i, i < a.read.l.length → qF5 rel (a.read.l.getD i Sl.z).l (b.read.l.getD i Sl.z).l
 wl : a.words.l.length = b.words.l.length
 w : ∀ i, i < a.words.l.length → (a.words.l.getD i Sl.zz).l.length = (b.words.l.getD i Sl.zz).l.length ∧ ∀ j, j < (a.words.l.getD i Sl.zz).l.length → qF5 rel ((a.words.l.getD i Sl.zz).l.getD j Sl.z).l ((b.words.l.getD i Sl.zz).l.getD j Sl.z).l
structure qK5 (a : I9) : Prop where
 d : a.dff.l.length ≤ 1000000
 r : a.read.l.length ≤ 1000000 ∧ ∀ x ∈ a.read.l, x.l.length ≤ 1000000
 w : a.words.l.length ≤ 1000000 ∧ ∀ x ∈ a.words.l, x.l.length ≤ 1000000 ∧ ∀ y ∈ x.l, y.l.length ≤ 1000000
theorem q8c (a b : Sl Int) (hl : a.l.length ≤ 1000000) (f : FuncId) (rel : Int → Int → Prop) (hf : ∀ x y, rel x y → A3 Tryz.prog Γ f [tK x, tK y] (tB true)) (h : qF5 rel a.l b.l) :
  A3 Tryz.prog Γ 118 [tV a, tV b, .ip [.fn f []] 0] (tB true) := by
 refine A7 q3g rfl ?_
 have e := qIh (Γ := Γ) a.l b.l a.cap b.cap a.nl b.nl hl h.1 f [] (fun i hi => .inr (hf _ _ (h.2 i hi)))
 simp [Wj, tV]
 refine A1 e rfl ?_
 simp [Wl]
theorem q8d (a b : Sl (Sl Int)) (hl : a.l.length ≤ 1000000) (hl2 : ∀ x ∈ a.l, x.l.length ≤ 1000000) (f : FuncId) (rel : Int → Int → Prop) (hf : ∀ x y, rel x y → A3 Tryz.prog Γ f [tK x, tK y] (tB true)) (hab : a.l.length = b.l.length)
  (h : ∀ i, i < a.l.length → qF5 rel (a.l.getD i Sl.z).l (b.l.getD i Sl.z).l) :
  A3 Tryz.prog Γ 120 [tW a, tW b, .ip [.fn 118 [.ip [.fn f []] 0]] 0] (tB true) := by
 refine A7 q3h rfl ?_
 have e := qIj (Γ := Γ) a.l b.l a.cap b.cap a.nl b.nl hl hab 118 [.ip [.fn f []] 0] (fun i hi => .inr (q8c _ _ (hl2 _ (Tj hi)) f rel hf (h i hi)))
 simp [Wm, tW]
 refine A1 e rfl ?_
 simp [Wn]
theorem qF6 (a b : I9) (hs : qK5 a) (f : FuncId) (rel : Int → Int → Prop) (hf : ∀ x y, rel x y → A3 Tryz.prog Γ f [tK x, tK y] (tB true)) (h : qIm rel a b) :
  Ac Tryz.prog Γ 73 [.agg (B9 a), .agg (B9 b), .fn f []] (tB true) := by
 refine Ar q60 rfl ?_
 have e1 := q8c (Γ := Γ) a.dff b.dff hs.d f rel hf h.d
 have e2 := q8d (Γ := Γ) a.read b.read hs.r.1 hs.r.2 f rel hf h.rl h.r
 have e3 := qIl (Γ := Γ) a.words.l b.words.l a.words.cap b.words.cap a.words.nl b.words.nl hs.w.1 h.wl 120 [.ip [.fn 118 [.ip [.fn f []] 0]] 0]
  (fun i hi => .inr (q8d _ _ (hs.w.2 _ (Tj hi)).1 (fun x hx => (hs.w.2 _ (Tj hi)).2 x hx) f rel hf (h.w i hi).1 (h.w i hi).2))
 simp [tV, tW] at e1 e2
 simp [q0F, B9, tV, tW, Ko]
 refine A1 e1 (by simp [Ah, Af]) ?_
 simp
 refine A1 e2 (by simp [Ah, Af]) ?_
 simp
 refine A1 e3 (by simp [Ah, Af]) ?_
 simp [q0G]
theorem qF7 (x : Int) : A3 Tryz.prog Γ 74 [tK x, tK x] (tB true) := by
 refine A7 q4U rfl ?_
 simp [Yo, Yp]
theorem qF8 (a b : I9) (hs : qK5 a) (h : qIm (· = ·) a b) : Ac Tryz.prog Γ 27 [.agg (B9 a), .agg (B9 b)] (tB true) := by
 refine Ar q72 rfl ?_
 have e := qF6 (Γ := Γ) a b hs 74 (· = ·) (fun x y h => by subst h; exact qF7 x) h
 simp [B9, tV, tW, Ko] at e
 simp [q1K, B9, tV, tW, Ko]
 refine Aa e rfl ?_
 simp [q1L]
end Go.Lg
namespace Go.Lg
open Go
section
variable {P : Program} {Γ : Tables} {Q : AX → St → Prop} {s : St}
/- probecard/probecardlaw09.taken (function 53) -/
abbrev q3i : IC := .gh (.seq (.seq (.reg [om 9 8, om 10 2, od 11 (.bin .lss (tm 9) (tm 10))] [kp [0, 1, 2, 7, 8, 11] [19]]) (.cond (tm 11) .skip (.exit 0))) (.seq (.block 1 (.seq (.reg [om 14 0, od 15 (le 0 14), od 16 (.bin .eql (tm 15) (ki 0))] [kp
 [0, 1, 2, 7, 8, 16] [19]]) (.cond (tm 16) (.reg [om 17 7, od 18 (.bsl true 61 1 [(ku 2)]), od 19 (.app false 61 1 (tm 17) (tm 18)), om 7 19] [kp [0, 1, 2, 7, 8] [19]]) (.reg [om 20 7, om 21 0, om 22 1, om 23 8, od 24 (.bin .add (tm
 22) (tm 23)), om 25 0, od 26 (le 0 25), od 27 (.bin .rem (tm 24) (tm 26)), od 28 (ia 1 21 27), od 29 (ld 1 28), od 30 (.bin .rem (tm 29) (ku 3)), od 31 (.bsl true 61 1 [(tm 30)]), oz 32 (.app false 61 1 (tm 20) (tm 31)) 19, om 7
 32] [kp [0, 1, 2, 7, 8] [19]])))) (.reg [om 12 8, od 13 (.bin .add (tm 12) (ki 1)), om 8 13] [kp [0, 1, 2, 7, 8] [19]]))) [kp [0, 1, 2, 7, 8] [19]]
def Qm : IC := .loop q3i
abbrev q3j : IC := (.seq (.reg [od 6 (.mv kN)] [kp [0, 1, 2] []]) (.seq (.reg [od 7 (.mv kN)] [.nl 7 19 61 1, kp [0, 1, 2, 7] [19]]) (.seq (.seq (.reg [od 8 (.mv (ki 0))] [kp [0, 1, 2, 7, 8] [19]]) (.block 0 Qm)) (.seq (.reg [om 33 7, om
 6 33] [kp [6] [19]]) .ret))))
theorem Yq (h : ∀ K : St → Prop, K = run P Γ Qm Q → run P Γ q3i (Am K Q) s) : run P Γ Qm Q s := Ae h
def q3k : List RV := [.tmp 6]
/- (probecard/probecardlaw09.S).Of (function 14) -/
abbrev q53 : IC := .gh (.seq (.seq (.reg [om 33 10, od 34 (fa 2 3), od 35 (ld 1 34), om 36 7, od 37 (ia 3 35 36), od 38 (fa 0 37), od 39 (ld 1 38), od 40 (le 0 39), od 41 (.mmx false [(tm 40), (ki 8)]), od 42 (.bin .shl (ki 1) (tm 41)), od 43 (.bin
 .lss (tm 33) (tm 42))] [kp [2, 3, 4, 5, 6, 7, 8, 9, 10, 43] [4, 5, 53, 61, 71]]) (.cond (tm 43) .skip (.exit 2))) (.seq (.block 3 (.seq (.reg [om 46 9, od 47 (fa 0 2), od 48 (ld 1 47), om 49 6, om 50 8, od 51 (.call 53 [(tm 48),
 (tm 49), (tm 50)]), od 52 (.bsl true 41 1 [(tm 51)]), od 53 (.app false 41 1 (tm 46) (tm 52)), om 9 53] [kp [2, 3, 4, 5, 6, 7, 8, 9, 10] [4, 5, 53, 61, 71]]) (.reg [om 54 6, om 55 8, od 56 (.bin .add (tm 54) (tm 55)), om 6 56] [kp
 [2, 3, 4, 5, 6, 7, 8, 9, 10] [4, 5, 53, 61, 71]]))) (.reg [om 44 10, od 45 (.bin .add (tm 44) (ki 1)), om 10 45] [kp [2, 3, 4, 5, 6, 7, 8, 9, 10] [4, 5, 53, 61, 71]]))) [kp [2, 3, 4, 5, 6, 7, 8, 9, 10] [4, 5, 53, 61, 71]]
def U5 : IC := .loop q53
abbrev q54 : IC := .gh (.seq (.seq (.reg [om 19 7, od 20 (fa 2 3), od 21 (ld 1 20), od 22 (le 0 21), od 23 (.bin .lss (tm 19) (tm 22))] [kp [2, 3, 4, 5, 6, 7, 23] [4, 5, 61, 71]]) (.cond (tm 23) .skip (.exit 0))) (.seq (.block 1 (.seq (.reg [od 26
 (fa 2 3), od 27 (ld 1 26), om 28 7, od 29 (ia 3 27 28), od 30 (fa 1 29), od 31 (ld 1 30), od 32 (le 0 31), om 8 32] [kp [2, 3, 4, 5, 6, 7, 8] [4, 5, 61, 71]]) (.seq (.reg [od 9 (.mv kN)] [.nl 9 53 41 1, kp [2, 3, 4, 5, 6, 7, 8, 9]
 [4, 5, 53, 61, 71]]) (.seq (.seq (.reg [od 10 (.mv (ki 0))] [kp [2, 3, 4, 5, 6, 7, 8, 9, 10] [4, 5, 53, 61, 71]]) (.gh (.block 2 U5) [.frz 53])) (.seq (.reg [od 57 (fa 1 5), od 58 (ld 1 57), om 59 9, od 60 (.bsl true 43
 1 [(tm 59)]), od 61 (.app false 43 1 (tm 58) (tm 60)), od 62 (fa 1 5), on (.store 1 (tm 62) (tm 61))] [kp [2, 3, 4, 5, 6, 7, 8] [4, 5, 61, 71]]) (.seq (.reg [od 63 (fa 2 5), od 64 (.ldR 5 1 false (tm 63)), od 65 (fa 0 2), od 66
 (.ldT 1 false (tm 65)), om 67 6, om 68 8, od 69 (.call 53 [(tm 66), (tm 67), (tm 68)]), od 70 (.bsl true 41 1 [(tm 69)]), od 71 (.app false 41 1 (tm 64) (tm 70)), od 72 (fa 2 5), on (.stR 5 1 (tm 72) (tm 71))] [kp [2, 3, 4, 5, 6,
 7, 8] [4, 5, 61, 71]]) (.reg [om 73 6, om 74 8, od 75 (.bin .add (tm 73) (tm 74)), om 6 75] [kp [2, 3, 4, 5, 6, 7] [4, 5, 61, 71]]))))))) (.reg [om 24 7, od 25 (.bin .add (tm 24) (ki 1)), om 7 25] [kp [2, 3, 4, 5, 6, 7] [4, 5, 61,
 71]]))) [kp [2, 3, 4, 5, 6, 7] [4, 5, 61, 71]]
def U6 : IC := .loop q54
abbrev q55 : IC := (.seq (.reg [od 2 (.box true (tm 0)), od 3 (.box true (tm 1)), od 4 (.alloc false [(.slice none 0 0), (.slice none 0 0), (.slice none 0 0)])] [kp [2, 3, 4] [4, 61, 71]]) (.seq (.reg [od 5 (.alloc false [(.slice none 0 0), (.slice
 none 0 0), (.slice none 0 0)])] [.nlb 5 1 61 43 1, .nlb 5 2 71 41 1, kp [2, 3, 4, 5] [4, 5, 61, 71]]) (.seq (.reg [od 11 (lG 4 3), od 12 (.call 52 [(tm 11), (ku 14)]), od 13 (le 0 12), om 6 13] [kp [2, 3, 4, 5, 6] [4, 5, 61, 71]])
 (.seq (.reg [od 14 (fa 0 2), od 15 (ld 1 14), om 16 6, od 17 (.call 53 [(tm 15), (ki 0), (tm 16)]), od 18 (fa 0 5), on (.store 1 (tm 18) (tm 17))] [kp [2, 3, 4, 5, 6] [4, 5, 61, 71]]) (.seq (.seq (.reg [od 7 (.mv (ki 0))] [kp [2,
 3, 4, 5, 6, 7] [4, 5, 61, 71]]) (.gh (.block 0 U6) [.frz 61, .frz 71])) (.seq (.reg [od 76 (lG 3 5), on (.store 3 (tm 4) (tm 76))] [kp [4] [4, 61, 71]]) .ret))))))
theorem q0H (h : ∀ K : St → Prop, K = run P Γ U5 Q → run P Γ q53 (Am K Q) s) : run P Γ U5 Q s := Ae h
theorem q0I (h : ∀ K : St → Prop, K = run P Γ U6 Q → run P Γ q54 (Am K Q) s) : run P Γ U6 Q s := Ae h
def q56 : List RV := [.cell 4 3 true]
/- probecard/probecardlaw09.values (function 56) -/
end
end Go.Lg
namespace Go.Lg
open Go Go.Proofs
theorem q8w : Ap Tryz.prog 53 q3j 34 3 q3k = true := by kernel_rfl
theorem qAS : Ap Tryz.prog 14 q55 77 2 q56 = true := by kernel_rfl
end Go.Lg
namespace Go.Lg
open Go Go.Proofs
variable {Γ : Tables}
def qB1 (l : List Int) (at' i : Nat) : Int := if l = [] then 2 else (l.getD ((at' + i) % l.length) 0).tmod 3
def Uy (l : List Int) (at' n : Nat) : List Int := (List.range' 0 n).map (qB1 l at')
theorem q73 {l : List Int} {a n : Nat} : (Uy l a n).length = n := by simp [Uy]
theorem qIn {Q : AX → St → Prop} (l : Sl Int) (at' n : Nat) (hn : n ≤ 1000000) (ha : at' ≤ 1000000000) (R : List Int)
  (h0 : Q (.exit 0) ⟨[(0, .t (tV l)), (1, .t (tI at')), (2, .t (tI n)), (7, .ls 19 0 n none), (8, .t (tI n)), (11, .t (tB false))], [(19, .sl 61 1 (Aq R))]⟩) : ∀ (k i : Nat) (out : List Int), k + i = n → out.length = i → out ++ (List.range' i k).map (qB1 l.l at') = R →
  run Tryz.prog Γ Qm Q ⟨[(0, .t (tV l)), (1, .t (tI at')), (2, .t (tI n)), (7, .ls 19 0 i none), (8, .t (tI i))], [(19, .sl 61 1 (Aq out))]⟩
 | 0, i, out, h, hi, hR => by
  refine Yq fun K hK => ?_
  have h2 : i = n := by omega
  subst h2
  simp only [List.range'_zero, List.map_nil, List.append_nil] at hR
  subst hR
  simp
  exact h0
 | k + 1, i, out, h, hi, hR => by
  refine Yq fun K hK => ?_
  have h2 : i < n := by omega
  rw [List.range'_succ, List.map_cons] at hR
  have vt : (Aq out).take i = Aq out := by rw [← hi]; exact Ci
  have w1 := B0 (i := i) (by omega)
  have wa : IntKind.i64.wrap ((at' : Int) + i) = ((at' + i : Nat) : Int) := by rw [A4] <;> omega
  have ih := qIn l at' n hn ha R h0 k (i + 1) (out ++ [qB1 l.l at' i]) (by omega) (by simp [hi]) (by rw [← hR]; simp)
  have vs := Ph (l := out) (v := qB1 l.l at' i)
  by_cases h1 : l.l = []
  ·have hv : qB1 l.l at' i = 2 := by unfold qB1; rw [if_pos h1]
   rw [hv] at ih vs
   simp [tV, h1] at ih
   simp [h2, tV, A0, h1, w1, vt, vs, hi]
   refine ⟨by omega, ?_⟩
   rw [hK]
   simpa using ih
  ·have hpos : 0 < l.l.length := List.length_pos_iff.2 h1
   have hlt : (at' + i) % l.l.length < l.l.length := Nat.mod_lt _ hpos
   have hmod : ((at' + i : Nat) : Int).tmod (l.l.length : Int) = (((at' + i) % l.l.length : Nat) : Int) := by rw [Int.natCast_emod]; exact Int.tmod_eq_emod_of_nonneg (by omega)
   have hv : qB1 l.l at' i = (l.l.getD ((at' + i) % l.l.length) 0).tmod 3 := by unfold qB1; rw [if_neg h1]
   rw [hv] at ih vs
   have e1 := gE (f := tK) 0 hlt
   have e1' := gE' (f := tK) 0 hlt
   generalize (at' + i) % l.l.length = j at *
   generalize l.l.getD j 0 = v at *
   have hne : ¬ (l.l.length : Int) = 0 := by omega
   have hj0 : (j : Int) < l.l.length := by omega
   simp [tV] at ih
   simp [h2, tV, A0, A6, h1, hne, wa, hmod, hlt, e1, e1', vt, vs, hi, w1, -Int.natCast_emod, -Int.natCast_add]
   refine ⟨by omega, ?_⟩
   rw [hK]
   simpa using ih
theorem q3l (l : Sl Int) (at' n : Nat) (hn : n ≤ 1000000) (ha : at' ≤ 1000000000) : A3 Tryz.prog Γ 53 [tV l, tI at', tI n] (.sl (Aq (Uy l.l at' n)) none none) := by
 refine A7 q8w rfl ?_
 have g := fun Q h0 => qIn (Γ := Γ) (Q := Q) l at' n hn ha (Uy l.l at' n) h0 n 0 [] (by omega) rfl (by simp [Uy])
 have ht : (Aq (Uy l.l at' n)).take n = Aq (Uy l.l at' n) := List.take_of_length_le (by rw [A0, q73]; exact Nat.le_refl _)
 generalize Uy l.l at' n = R at *
 simp [tV, D4] at g
 simp [q3j, tV]
 refine g _ ?_
 simp [q3k, Ah, ht]
def Qn (v : List Int) (n : Nat) : Nat → Nat → List (Sl Int)
 | 0, _ => []
 | k + 1, a => ⟨Uy v a n, none, none⟩ :: Qn v n k (a + n)
def ofW (v : List Int) : List Mm → Nat → List (Sl (Sl Int))
 | [], _ => []
 | m :: ms, a => ⟨Qn v m.data.l.length (2 ^ m.addr.l.length) a, none, none⟩ :: ofW v ms (a + 2 ^ m.addr.l.length * m.data.l.length + m.data.l.length)
def ofR (v : List Int) : List Mm → Nat → List (Sl Int)
 | [], _ => []
 | m :: ms, a => ⟨Uy v (a + 2 ^ m.addr.l.length * m.data.l.length) m.data.l.length, none, none⟩ :: ofR v ms (a + 2 ^ m.addr.l.length * m.data.l.length + m.data.l.length)
def q4V (v : List Int) (c : B5) : I9 := ⟨⟨Uy v 0 (Aj c).length, none, none⟩, ⟨ofW v c.mems.l (Aj c).length, none, none⟩, ⟨ofR v c.mems.l (Aj c).length, none, none⟩⟩
def soH (d : T) (ws : List (Sl (Sl Int))) (rs : List (Sl Int)) : List (Nat × B7) := [(4, .bx [F7, F7, F7]), (5, .bx [.t d, .ls 61 0 ws.length none, .ls 71 0 rs.length none])]
def soT (ws : List (Sl (Sl Int))) (rs : List (Sl Int)) : List (Nat × B7) := [(61, .sl 43 1 (Ab tW ws)), (71, .sl 41 1 (Ab tV rs))]
def soE (v : Sl Int) (c : B5) (a m : Nat) : List (Nat × AV) := [(2, .t (.ip [tV v] 0)), (3, .t (.ip (tC c) 0)), (4, .lp 4 0 0), (5, .lp 5 0 0), (6, .t (tI a)), (7, .t (tI m))]
theorem qNw {Q : AX → St → Prop} (v : Sl Int) (c : B5) (m : Nat) (hm : m < c.mems.l.length) (n K : Nat) (hn : n ≤ 32) (hk : (c.mems.l.getD m Mm.d).addr.l.length ≤ 8) (hK : K = 2 ^ (c.mems.l.getD m Mm.d).addr.l.length) (hcm : c.mems.l.length ≤ 16) (d : T) (ws : List (Sl (Sl Int))) (rs : List (Sl Int)) (A : Nat) (R : List (Sl Int))
  (h0 : Q (.exit 2) ⟨soE v c A m ++ [(8, .t (tI n)), (9, .ls 53 0 R.length none), (10, .t (tI K)), (43, .t (tB false))], soH d ws rs ++ (53, .sl 41 1 (Ab tV R)) :: soT ws rs⟩) :
  ∀ (k i a : Nat) (out : List (Sl Int)), k + i = K → out.length = i → a ≤ 2000000 + 32 * i → a + k * n = A → out ++ Qn v.l n k a = R →
  run Tryz.prog Γ U5 Q ⟨soE v c a m ++ [(8, .t (tI n)), (9, .ls 53 0 i none), (10, .t (tI i))], soH d ws rs ++ (53, .sl 41 1 (Ab tV out)) :: soT ws rs⟩ := by
 have e1 : (An tMm c.mems.l)[m]?.getD [] = tMm (c.mems.l.getD m Mm.d) := by simp [An, hm]
 have e1' : ∀ h, (An tMm c.mems.l)[m]'h = tMm (c.mems.l.getD m Mm.d) := fun h => by simp [An, hm]
 generalize c.mems.l.getD m Mm.d = mm at *
 have sh := qM4 hk
 rw [← hK] at sh
 have hK256 : K ≤ 256 := by rw [hK]; exact Nat.pow_le_pow_right (by omega) hk
 have hmin : ¬ (8 : Int) < mm.addr.l.length := by omega
 have hmin' : ¬ 8 < mm.addr.l.length := by omega
 simp only [tMm, B1] at e1 e1'
 intro k
 induction k with
 | zero =>
  intro i a out h ho hb ha hR
  refine q0H fun KK hKK => ?_
  have h2 : i = K := by omega
  subst h2
  simp only [Qn, List.append_nil] at hR
  subst hR
  have ha' : a = A := by omega
  subst ha'
  simp [soE, soH, soT, F7, tC, A5, A8, Ad, B1, ho] at h0
  simp [soE, soH, soT, F7, tC, A5, A8, Ad, B1, Q5, A9, A0, hm, e1, e1', hmin, hmin', sh]
  simpa using h0
 | succ k ih =>
  intro i a out h ho hb ha hR
  refine q0H fun KK hKK => ?_
  have h2 : i < K := by omega
  simp only [Qn] at hR
  have ht := q3l (Γ := Γ) v a n (by omega) (by omega)
  have ih := ih (i + 1) (a + n) (out ++ [⟨Uy v.l a n, none, none⟩]) (by omega) (by simp [ho]) (by omega) (by rw [← ha, Nat.succ_mul]; omega) (by rw [← hR]; simp)
  have vs : Ab tV out ++ [[T.sl (Aq (Uy v.l a n)) none none]] = Ab tV (out ++ [⟨Uy v.l a n, none, none⟩]) := Bf (f := tV) (x := ⟨Uy v.l a n, none, none⟩)
  have vt : (Ab tV out).take i = Ab tV out := by rw [← ho]; exact Ag
  have w1 := B0 (i := i) (by omega)
  have wa : IntKind.i64.wrap ((a : Int) + n) = (a : Int) + n := by rw [A4] <;> omega
  generalize Uy v.l a n = row at *
  simp only [tV] at ht
  simp [soE, soH, soT, F7, tC, A5, A8, Ad, B1, tV] at ih
  simp [soE, soH, soT, F7, tC, A5, A8, Ad, B1, Q5, A9, A0, hm, e1, e1', hmin, hmin', sh, h2, tV]
  refine A1 ht rfl ?_
  simp [vt, vs, ho, A0, A6, w1, wa]
  refine ⟨by omega, ?_⟩
  rw [hKK]
  simpa using ih
theorem q7y {v : List Int} {n : Nat} : ∀ {k a : Nat}, (Qn v n k a).length = k
 | 0, _ => rfl
 | k + 1, a => by simp [Qn, q7y]
theorem qKt {Q : AX → St → Prop} (v : Sl Int) (c : B5) (hcm : c.mems.l.length ≤ 16) (hm : ∀ m ∈ c.mems.l, m.addr.l.length ≤ 8 ∧ m.data.l.length ≤ 32) (d : T) (RW : List (Sl (Sl Int))) (RR : List (Sl Int))
  (h0 : ∀ A : Nat, Q (.exit 0) ⟨soE v c A c.mems.l.length ++ [(23, .t (tB false))], soH d RW RR ++ soT RW RR⟩) :
  ∀ (k i a : Nat) (ws : List (Sl (Sl Int))) (rs : List (Sl Int)), k + i = c.mems.l.length → ws.length = i → rs.length = i → a ≤ 1000000 + 10000 * i → ws ++ ofW v.l (c.mems.l.drop i) a = RW → rs ++ ofR v.l (c.mems.l.drop i) a = RR →
  run Tryz.prog Γ U6 Q ⟨soE v c a i, soH d ws rs ++ soT ws rs⟩
 | 0, i, a, ws, rs, h, hw, hr, ha, hW, hR => by
  refine q0I fun K hK => ?_
  have h2 : i = c.mems.l.length := by omega
  subst h2
  rw [List.drop_length] at hW hR
  simp only [ofW, ofR, List.append_nil] at hW hR
  subst hW
  subst hR
  have := h0 a
  simp [soE, soH, soT, F7, tC, A5, A8, Ad, B1] at this
  simp [soE, soH, soT, F7, tC, A5, A8, Ad, B1, A9]
  simpa using this
 | k + 1, i, a, ws, rs, h, hw, hr, ha, hW, hR => by
  refine q0I fun K hK => ?_
  have h2 : i < c.mems.l.length := by omega
  rw [List.drop_eq_getElem_cons h2] at hW hR
  simp only [ofW, ofR] at hW hR
  have e1 : (An tMm c.mems.l)[i]?.getD [] = tMm c.mems.l[i] := by simp [An, h2]
  have e1' : ∀ h, (An tMm c.mems.l)[i]'h = tMm c.mems.l[i] := fun h => by simp [An]
  obtain ⟨ma, md⟩ := hm _ (List.getElem_mem h2)
  have hge : c.mems.l.getD i Mm.d = c.mems.l[i] := by simp [List.getD_eq_getElem?_getD, h2]
  have g := fun Q n hn h1 h2' A R hA hR h0 => qNw (Γ := Γ) (Q := Q) v c i h2 n (2 ^ (c.mems.l.getD i Mm.d).addr.l.length) hn h1 rfl hcm d ws rs A R h0 (2 ^ (c.mems.l.getD i Mm.d).addr.l.length) 0 a [] (by omega) rfl h2' hA hR
  rw [hge] at g
  generalize c.mems.l[i] = m at *
  have hK256 : 2 ^ m.addr.l.length ≤ 256 := Nat.pow_le_pow_right (by omega) ma
  have hKn : 2 ^ m.addr.l.length * m.data.l.length ≤ 256 * 32 := Nat.mul_le_mul hK256 md
  have g := fun Q h0 => g Q m.data.l.length md ma (by omega) (a + 2 ^ m.addr.l.length * m.data.l.length) (Qn v.l m.data.l.length (2 ^ m.addr.l.length) a) rfl (by simp) h0
  have hrl : (Qn v.l m.data.l.length (2 ^ m.addr.l.length) a).length = 2 ^ m.addr.l.length := q7y
  generalize 2 ^ m.addr.l.length * m.data.l.length = KN at *
  generalize 2 ^ m.addr.l.length = K0 at *
  have ht := q3l (Γ := Γ) v (a + KN) m.data.l.length (by omega) (by omega)
  have ih := qKt v c hcm hm d RW RR h0 k (i + 1) (a + KN + m.data.l.length) (ws ++ [⟨Qn v.l m.data.l.length K0 a, none, none⟩]) (rs ++ [⟨Uy v.l (a + KN) m.data.l.length, none, none⟩]) (by omega) (by simp [hw]) (by simp [hr]) (by omega) (by rw [← hW]; simp) (by rw [← hR]; simp)
  have vsw : Ab tW ws ++ [[T.sl (Ab tV (Qn v.l m.data.l.length K0 a)) none none]] = Ab tW (ws ++ [⟨Qn v.l m.data.l.length K0 a, none, none⟩]) := Bf (f := tW) (x := ⟨Qn v.l m.data.l.length K0 a, none, none⟩)
  have vsr : Ab tV rs ++ [[T.sl (Aq (Uy v.l (a + KN) m.data.l.length)) none none]] = Ab tV (rs ++ [⟨Uy v.l (a + KN) m.data.l.length, none, none⟩]) := Bf (f := tV) (x := ⟨Uy v.l (a + KN) m.data.l.length, none, none⟩)
  have vt : (Ab tV (Qn v.l m.data.l.length K0 a)).take (Qn v.l m.data.l.length K0 a).length = Ab tV (Qn v.l m.data.l.length K0 a) := Ag
  have vtw : (Ab tW ws).take i = Ab tW ws := by rw [← hw]; exact Ag
  have vtr : (Ab tV rs).take i = Ab tV rs := by rw [← hr]; exact Ag
  generalize Qn v.l m.data.l.length K0 a = rows at *
  generalize Uy v.l (a + KN) m.data.l.length = rd at *
  have w1 := B0 (i := i) (by omega)
  have wa : IntKind.i64.wrap ((a : Int) + KN + m.data.l.length) = (a : Int) + KN + m.data.l.length := by rw [A4] <;> omega
  have hw1 : ∀ t : T, Ce 1 [[t]] := fun t e he => by simp at he; subst he; rfl
  simp only [tMm, B1] at e1 e1'
  simp only [tV] at ht
  simp [soE, soH, soT, F7, tC, A5, A8, Ad, B1, tV, D4, hw, hr] at g ih
  simp [soE, soH, soT, F7, tC, A5, A8, Ad, B1, Q5, A9, A0, h2, e1, e1', tV, hw, hr]
  refine g _ ?_
  simp [St.freeze, B7.closed, Bi, frz1, frz0, E1, del, Ah, vt, vtw, vsw, hw1, A6, A0, hw]
  refine ⟨by omega, ?_⟩
  refine A1 ht rfl ?_
  simp [vtr, vsr, hw1, A6, A0, hr, wa, w1]
  refine ⟨by omega, ?_⟩
  rw [hK]
  simpa using ih
theorem qH9 (v : Sl Int) (c : B5) (hc : COk c) (hn : c.nodes.l.length ≤ 1000000) (hcm : c.mems.l.length ≤ 16) (hm : ∀ m ∈ c.mems.l, m.addr.l.length ≤ 8 ∧ m.data.l.length ≤ 32) : Ac Tryz.prog Γ 14 [.agg [tV v], .agg (tC c)] (.agg (B9 (q4V v.l c))) := by
 refine Ar qAS rfl ?_
 have e1 := qEz (Γ := Γ) c hc 14 hn
 have hsl := Di c
 have e2 := q3l (Γ := Γ) v 0 (Aj c).length (by omega) (by omega)
 have g := fun Q d h0 => qKt (Γ := Γ) (Q := Q) v c hcm hm d (ofW v.l c.mems.l (Aj c).length) (ofR v.l c.mems.l (Aj c).length) h0 c.mems.l.length 0 (Aj c).length [] [] (by omega) rfl rfl (by omega) rfl rfl
 have hst : Qs [14] c.nodes.l 0 = Aj c := rfl
 rw [hst] at e1
 have tw : (Ab tW (ofW v.l c.mems.l (Aj c).length)).take (ofW v.l c.mems.l (Aj c).length).length = Ab tW (ofW v.l c.mems.l (Aj c).length) := Ag
 have tr : (Ab tV (ofR v.l c.mems.l (Aj c).length)).take (ofR v.l c.mems.l (Aj c).length).length = Ab tV (ofR v.l c.mems.l (Aj c).length) := Ag
 unfold q4V
 generalize ofW v.l c.mems.l (Aj c).length = W at *
 generalize ofR v.l c.mems.l (Aj c).length = R at *
 generalize Uy v.l 0 (Aj c).length = D at *
 simp [soE, soH, soT, F7, tC, A5, A8, Ad, B1, tV, D4] at e1 e2 g
 simp [q55, tC, A5, A8, Ad, B1, tV]
 refine Aa e1 rfl ?_
 simp [A0]
 refine A1 e2 rfl ?_
 simp
 refine g _ _ fun A => ?_
 simp [St.freeze, B7.closed, Bi, frz1, frz0, E1, del, Ah, tw, tr, q56, B9, tV, tW, Ko]
end Go.Lg
namespace Go.Lg
open Go Go.Proofs
def V3 (v : Int) : Prop := 0 ≤ v ∧ v ≤ 2
theorem V3.four {v : Int} (h : V3 v) : V4 v := by unfold V3 V4 at *; omega
theorem qIo {l : List Int} (h : ∀ v ∈ l, V3 v) (i : Nat) : V3 (l.getD i 0) := by
 by_cases hi : i < l.length
 ·rw [Cj hi]; exact h _ (List.getElem_mem hi)
 ·rw [List.getD_eq_getElem?_getD, List.getElem?_eq_none (by omega)]; exact ⟨by simp, by simp⟩
theorem qM5 {l : List Int} (hl : ∀ v ∈ l, 0 ≤ v) (a i : Nat) : V3 (qB1 l a i) := by
 unfold qB1
 split
 ·exact ⟨by omega, by omega⟩
 ·rename_i h
  have hpos : 0 < l.length := List.length_pos_iff.2 h
  have h0 : 0 ≤ l.getD ((a + i) % l.length) 0 := by
   rw [Cj (Nat.mod_lt _ hpos)]; exact hl _ (List.getElem_mem _)
  generalize l.getD ((a + i) % l.length) 0 = u at *
  rw [Int.tmod_eq_emod_of_nonneg h0]
  have := Int.emod_nonneg u (show (3 : Int) ≠ 0 by omega)
  have := Int.emod_lt_of_pos u (show (0 : Int) < 3 by omega)
  exact ⟨by omega, by omega⟩
theorem qF9 {l : List Int} (hl : ∀ v ∈ l, 0 ≤ v) {a n : Nat} : ∀ v ∈ Uy l a n, V3 v := by
 intro v hv
 obtain ⟨i, _, rfl⟩ := List.mem_map.1 hv
 exact qM5 hl a i
theorem q4D {v : List Int} {n : Nat} {r : Sl Int} : ∀ {k a : Nat}, r ∈ Qn v n k a → ∃ a', r = ⟨Uy v a' n, none, none⟩
 | 0, _, h => by cases h
 | k + 1, a, h => by
  rcases List.mem_cons.1 h with rfl | h
  ·exact ⟨a, rfl⟩
  ·exact q4D h
theorem q9D {v : List Int} : ∀ {ms : List Mm} {a : Nat}, (ofW v ms a).length = ms.length
 | [], _ => rfl
 | m :: ms, a => by simp [ofW, q9D]
theorem q9E {v : List Int} : ∀ {ms : List Mm} {a : Nat}, (ofR v ms a).length = ms.length
 | [], _ => rfl
 | m :: ms, a => by simp [ofR, q9E]
theorem q74 {v : List Int} : ∀ {ms : List Mm} {a i : Nat}, i < ms.length → ∃ a', (ofW v ms a).getD i Sl.zz = ⟨Qn v (ms.getD i Mm.d).data.l.length (2 ^ (ms.getD i Mm.d).addr.l.length) a', none, none⟩
 | m :: ms, a, 0, _ => ⟨a, rfl⟩
 | m :: ms, a, i + 1, h => q74 (ms := ms) (by simpa using h)
theorem q9F {v : List Int} : ∀ {ms : List Mm} {a i : Nat}, i < ms.length → ∃ a', (ofR v ms a).getD i Sl.z = ⟨Uy v a' (ms.getD i Mm.d).data.l.length, none, none⟩
 | m :: ms, a, 0, _ => ⟨a + 2 ^ m.addr.l.length * m.data.l.length, rfl⟩
 | m :: ms, a, i + 1, h => q9F (ms := ms) (by simpa using h)
theorem Yr {α : Type} {l : List α} {x : α} (d : α) (h : x ∈ l) : ∃ i, i < l.length ∧ l.getD i d = x := by
 obtain ⟨i, hi, rfl⟩ := List.getElem_of_mem h
 exact ⟨i, hi, by simp [List.getD_eq_getElem?_getD, hi]⟩
theorem qK6 {v : List Int} (hv : ∀ x ∈ v, 0 ≤ x) (c : B5) : I4 c (q4V v c) := by
 refine ⟨q73, q9D, q9E, fun i hi => ?_, fun i hi w hw => ?_, fun i hi => ?_, qF9 hv, fun w hw r hr => ?_, fun r hr => ?_⟩
 ·obtain ⟨a, e⟩ := q74 (v := v) (a := (Aj c).length) hi
  show ((ofW v c.mems.l _).getD i Sl.zz).l.length = _
  rw [e]; exact q7y
 ·obtain ⟨a, e⟩ := q74 (v := v) (a := (Aj c).length) hi
  have hw : w ∈ ((ofW v c.mems.l (Aj c).length).getD i Sl.zz).l := hw
  rw [e] at hw
  obtain ⟨a', rfl⟩ := q4D hw
  exact q73
 ·obtain ⟨a, e⟩ := q9F (v := v) (a := (Aj c).length) hi
  show ((ofR v c.mems.l _).getD i Sl.z).l.length = _
  rw [e]; exact q73
 ·obtain ⟨i, hi, rfl⟩ := Yr Sl.zz hw
  have hi' : i < c.mems.l.length := by have : (q4V v c).words.l.length = c.mems.l.length := q9D; omega
  obtain ⟨a, e⟩ := q74 (v := v) (a := (Aj c).length) hi'
  have hr : r ∈ ((ofW v c.mems.l (Aj c).length).getD i Sl.zz).l := hr
  rw [e] at hr
  obtain ⟨a', rfl⟩ := q4D hr
  exact qF9 hv
 ·obtain ⟨i, hi, rfl⟩ := Yr Sl.z hr
  have hi' : i < c.mems.l.length := by have : (q4V v c).read.l.length = c.mems.l.length := q9E; omega
  obtain ⟨a, e⟩ := q9F (v := v) (a := (Aj c).length) hi'
  have e : (q4V v c).read.l.getD i Sl.z = ⟨Uy v a (c.mems.l.getD i Mm.d).data.l.length, none, none⟩ := e
  rw [e]
  exact qF9 hv
theorem qCS {w : List Int} (h : ∀ v ∈ w, V3 v) (b : Nat) : V3 (q3e w b) := by
 unfold q3e
 split
 ·have := qIo h b
  unfold P8 V3 at *
  split <;> omega
 ·exact ⟨by omega, by omega⟩
theorem qG1 {w : List Int} (h : ∀ v ∈ w, V4 v) (b : Nat) : V3 (q3e w b) := by
 unfold q3e
 split
 ·have := q1v h b
  unfold P8 V3 V4 at *
  split <;> omega
 ·exact ⟨by omega, by omega⟩
theorem qG2 {a b : Int} (ha : V3 a) (hb : V3 b) : V3 (qBh a b) := by
 unfold qBh
 split
 ·exact ha
 ·exact ⟨by omega, by omega⟩
theorem qBm {w : List Int} {f : Bool} : ∀ {k b : Nat} {o : List Int}, (q1I w f k b o).length = o.length
 | 0, _, _ => rfl
 | k + 1, b, o => by simp only [q1I]; rw [qBm, List.length_set]
theorem qG3 {w : List Int} (hw : ∀ v ∈ w, V3 v) {f : Bool} : ∀ {k b : Nat} {o : List Int}, (∀ v ∈ o, V3 v) → ∀ v ∈ q1I w f k b o, V3 v
 | 0, _, _, h => h
 | k + 1, b, o, h => by
  simp only [q1I]
  refine qG3 hw fun v hv => ?_
  rcases List.mem_or_eq_of_mem_set hv with hv | rfl
  ·exact h v hv
  ·split
   ·exact qCS hw b
   ·exact qG2 (qIo h b) (qCS hw b)
theorem qCT {addr : List Int} : ∀ {ws : List (List Int)} {i : Nat} {s : List Int × Bool}, (∀ w ∈ ws, ∀ v ∈ w, V3 v) → (∀ v ∈ s.1, V3 v) → (q4y addr i ws s).1.length = s.1.length ∧ ∀ v ∈ (q4y addr i ws s).1, V3 v
 | [], _, _, _, h => ⟨rfl, h⟩
 | w :: ws, i, s, hw, h => by
  simp only [q4y]
  have hw' : ∀ x ∈ ws, ∀ v ∈ x, V3 v := fun x hx => hw x (List.mem_cons_of_mem _ hx)
  by_cases hm : q0h i addr = true
  ·rw [if_pos hm]
   have := qCT (addr := addr) (i := i + 1) (s := (q1I w s.2 s.1.length 0 s.1, false)) hw' (qG3 (hw w List.mem_cons_self) h)
   exact ⟨this.1.trans qBm, this.2⟩
  ·rw [if_neg hm]
   exact qCT (addr := addr) (i := i + 1) hw' h
theorem qDl {words : List (List Int)} {addr : List Int} (hw : ∀ w ∈ words, ∀ v ∈ w, V3 v) : (q3f words addr).length = (words.headD []).length ∧ ∀ v ∈ q3f words addr, V3 v := by
 cases words with
 | nil => exact ⟨rfl, fun v h => by cases h⟩
 | cons w ws =>
  have := qCT (addr := addr) (i := 0) (s := (List.replicate w.length 2, true)) hw (fun v hv => by rw [List.eq_of_mem_replicate hv]; exact ⟨by omega, by omega⟩)
  exact ⟨this.1.trans (by simp), this.2⟩
theorem q61 {addr data : List Int} {en : Int} {r : List Int} : ∀ {ws : List (List Int)} {i : Nat}, r ∈ Gt addr data en i ws → ∃ i' w, w ∈ ws ∧ r = Vp i' addr data en w w.length 0
 | [], _, h => by cases h
 | w :: ws, i, h => by
  rcases List.mem_cons.1 h with rfl | h
  ·exact ⟨i, w, List.mem_cons_self, rfl⟩
  ·obtain ⟨i', w', h1, h2⟩ := q61 h
   exact ⟨i', w', List.mem_cons_of_mem _ h1, h2⟩
theorem qIp {addr data w : List Int} {en : Int} {i : Nat} (hw : ∀ v ∈ w, V3 v) (hd : ∀ v ∈ data, V4 v) : ∀ v ∈ Vp i addr data en w w.length 0, V3 v := by
 intro v hv
 obtain ⟨j, hj, rfl⟩ := Yr 0 hv
 rw [q27] at hj
 rw [q5x hj]
 unfold qAM
 split
 ·exact qCS hw _
 split
 ·exact qG1 hd _
 ·exact qG2 (qCS hw _) (qG1 hd _)
theorem q7z {nets : List Int} {ms : List Mm} {ws : List (Sl (Sl Int))} (h : ws.length = ms.length) : (Ny nets ms ws).length = ms.length := by unfold Ny; rw [List.length_zipWith, h, Nat.min_self]
theorem q80 {nets : List Int} {ms : List Mm} {ws : List (Sl (Sl Int))} (h : ws.length = ms.length) : (Qk nets ms ws).length = ms.length := by unfold Qk; rw [List.length_zipWith, h, Nat.min_self]
theorem q4E {α : Type} {l : List α} {i : Nat} {d : α} (h : i < l.length) : l.getD i d = l[i] := by simp [List.getD_eq_getElem?_getD, h]
theorem q81 {nets : List Int} {ms : List Mm} {ws : List (Sl (Sl Int))} (h : ws.length = ms.length) {i : Nat} (hi : i < ms.length) :
  (Ny nets ms ws).getD i Sl.zz = Vr (Gt (Bj nets (ms.getD i Mm.d).addr.l) (Bj nets (ms.getD i Mm.d).data.l) (nets.getD (ms.getD i Mm.d).write.toNat 0) 0 ((ws.getD i Sl.zz).l.map (·.l))) := by
 have h1 : i < ws.length := by omega
 have h2 : i < (Ny nets ms ws).length := by rw [q7z h]; exact hi
 rw [q4E h2, q4E hi, q4E h1]
 simp only [Ny, List.getElem_zipWith]
theorem qBn {nets : List Int} {ms : List Mm} {ws : List (Sl (Sl Int))} (h : ws.length = ms.length) {i : Nat} (hi : i < ms.length) :
  (Qk nets ms ws).getD i Sl.z = ⟨q3f ((ws.getD i Sl.zz).l.map (·.l)) (Bj nets (ms.getD i Mm.d).addr.l), none, none⟩ := by
 have h1 : i < ws.length := by omega
 have h2 : i < (Qk nets ms ws).length := by rw [q80 h]; exact hi
 rw [q4E h2, q4E hi, q4E h1]
 simp only [Qk, List.getElem_zipWith]
theorem qIq {nets l : List Int} (h : ∀ v ∈ nets, V4 v) : ∀ v ∈ Bj nets l, V4 v := by
 intro v hv
 obtain ⟨q, _, rfl⟩ := List.mem_map.1 hv
 exact q1v h _
theorem qIr {c : B5} {nets : List Int} (h : ∀ v ∈ nets, V4 v) : ∀ v ∈ Df c nets, V3 v := by
 intro v hv
 obtain ⟨n, _, rfl⟩ := List.mem_map.1 hv
 unfold qAC q0f
 split
 ·split
  ·exact ⟨by unfold P8; omega, by unfold P8; omega⟩
  ·have := q1v h ((Jm c n.toNat).getD 0 0).toNat
   generalize nets.getD ((Jm c n.toNat).getD 0 0).toNat 0 = u at *
   unfold V4 at this
   unfold V3 P8 F2
   constructor <;> (split <;> split <;> omega)
 ·exact ⟨by omega, by omega⟩
theorem qDm {c : B5} (h : MOk c) {s : I9} (H : I4 c s) {nets : List Int} (hv : ∀ v ∈ nets, V4 v) : I4 c (Wi c s nets) := by
 have hwm : ∀ i, i < c.mems.l.length → ∀ r ∈ ((s.words.l.getD i Sl.zz).l.map (·.l)), ∀ v ∈ r, V3 v := fun i hi r hr v hvv => by
  obtain ⟨x, hx, rfl⟩ := List.mem_map.1 hr
  exact H.vw _ (Tj (by rw [H.w]; exact hi)) x hx v hvv
 have hsw := H.w
 refine ⟨by simp [Wi, Df], q7z hsw, q80 hsw, fun i hi => ?_, fun i hi w hw => ?_, fun i hi => ?_, qIr hv, fun w hw r hr => ?_, fun r hr => ?_⟩
 ·show ((Ny nets c.mems.l s.words.l).getD i Sl.zz).l.length = _
  rw [q81 hsw hi]
  simp only [Vr, List.length_map, q5z]
  exact H.wl i hi
 ·have hw : w ∈ ((Ny nets c.mems.l s.words.l).getD i Sl.zz).l := hw
  rw [q81 hsw hi] at hw
  simp only [Vr] at hw
  obtain ⟨r, hr, rfl⟩ := List.mem_map.1 hw
  obtain ⟨i', w', hw', rfl⟩ := q61 hr
  obtain ⟨x, hx, rfl⟩ := List.mem_map.1 hw'
  show (Vp _ _ _ _ _ _ _).length = _
  rw [q27]
  exact H.wr i hi x hx
 ·show ((Qk nets c.mems.l s.words.l).getD i Sl.z).l.length = _
  rw [qBn hsw hi]
  simp only
  rw [(qDl (hwm i hi)).1]
  have hlen := H.wl i hi
  have hwr := H.wr i hi
  cases hW : (s.words.l.getD i Sl.zz).l with
  | nil =>
   rw [hW] at hlen
   have := Nat.pow_pos (n := (c.mems.l.getD i Mm.d).addr.l.length) (show 0 < 2 by omega)
   simp only [List.length_nil] at hlen
   omega
  | cons x xs =>
   rw [hW] at hwr
   exact hwr x List.mem_cons_self
 ·obtain ⟨i, hi, rfl⟩ := Yr Sl.zz hw
  have hi' : i < c.mems.l.length := by have : (Wi c s nets).words.l.length = c.mems.l.length := q7z hsw; omega
  have hr : r ∈ ((Ny nets c.mems.l s.words.l).getD i Sl.zz).l := hr
  rw [q81 hsw hi'] at hr
  simp only [Vr] at hr
  obtain ⟨q, hq, rfl⟩ := List.mem_map.1 hr
  obtain ⟨i', w', hw', rfl⟩ := q61 hq
  exact qIp (hwm i hi' w' hw') (qIq hv)
 ·obtain ⟨i, hi, rfl⟩ := Yr Sl.z hr
  have hi' : i < c.mems.l.length := by have : (Wi c s nets).read.l.length = c.mems.l.length := q80 hsw; omega
  have e : (Wi c s nets).read.l.getD i Sl.z = _ := qBn hsw hi'
  rw [e]
  exact (qDl (hwm i hi')).2
theorem qIs {c : B5} : ∀ {o nets : List Int}, (∀ v ∈ nets, V4 v) → ∀ v ∈ qGv c o nets, V4 v
 | [], nets, h => h
 | n :: o, nets, h => qIs (o := o) (nets := q4m c nets n) (qFt h)
theorem qG4 {c : B5} {s : I9} (H : I4 c s) {inn : List Int} (hv : ∀ v ∈ inn, V4 v) : ∀ v ∈ q1H c inn s.dff.l s.rd, V4 v := by
 refine q9C (fun v hvm => ?_) (q9C (fun v h => (show V3 v from H.vd v h).four) (q9C hv fun v hv => by rw [(List.mem_replicate.1 hv).2]; simp [V4]))
 obtain ⟨n, _, rfl⟩ := List.mem_map.1 hvm
 by_cases hm : (nd c n).mem.toNat < s.rd.length
 ·refine q1v (fun v hv => ?_) _
  have hmem := Tj (d := ([] : List Int)) hm
  obtain ⟨r, hr, e⟩ := List.mem_map.1 hmem
  rw [← e] at hv
  exact (show V3 v from H.vr r hr v hv).four
 ·have e : s.rd.getD (nd c n).mem.toNat [] = [] := by rw [List.getD_eq_getElem?_getD, List.getElem?_eq_none (by omega)]; rfl
  rw [e]
  exact ⟨by simp, by simp⟩
theorem qCU {c : B5} {s : I9} (H : I4 c s) {inn : List Int} (hv : ∀ v ∈ inn, V4 v) : ∀ v ∈ Bq c s inn, V4 v := qIs (qG4 H hv)
theorem qIt {c : B5} (h : Gq c = 0) : ∀ x ∈ mems c, 0 ≤ (nd c x).mem ∧ (nd c x).mem < c.mems.l.length ∧ 0 ≤ (nd c x).bit ∧ (nd c x).bit < (c.mems.l.getD (nd c x).mem.toNat Mm.d).data.l.length := by
 intro x hx
 obtain ⟨h0, h1, h2⟩ := q1w x hx
 have hi : x.toNat < c.nodes.l.length := by omega
 have hne := (Ia (P9 h).1).2.2.1 _ (qIP h0 h1)
 have hk : (nd c x).k = 15 := by
  have := q6d [15] c.nodes.l 0 x hx
  simpa [nd] using this.2.2
 unfold Dq at hne
 rw [if_neg (by omega)] at hne
 split at hne
 ·cases hne
 split at hne
 ·cases hne
 split at hne
 ·cases hne
 split at hne
 ·cases hne
 rename_i hb
 simp [q13, hk] at hb
 exact hb
theorem qIu {Γ : Tables} (hΓ : GOk Γ) {c : B5} (h : MOk c) (hn : c.nodes.l.length ≤ 19) {s : I9} (H : I4 c s) (inn : Sl Int) (hi : inn.l.length = (Bz c).length) (hv : ∀ v ∈ inn.l, V4 v) :
  Ac Tryz.prog Γ 11 [.agg (tC c), .agg (B9 s), tV inn] (.tup [.agg (B9 (Wi c s (Bq c s inn.l))), .agg [tVs (Z6 c (Bq c s inn.l)), tVs (Df c (Bq c s inn.l))], .sl (Aq (Bq c s inn.l)) (some c.nodes.l.length) none, tI 0]) :=
 qF4 hΓ c h hn s H inn hi hv (qIt h.lev) (qCU H hv) (qG4 H hv)
end Go.Lg
namespace Go.Lg
open Go Go.Proofs
variable {Γ : Tables}
theorem qG5 (a b : List UInt8) : ByteArray.mk a.toArray ++ ByteArray.mk b.toArray = ByteArray.mk (a ++ b).toArray := by
 apply ByteArray.ext
 simp [ByteArray.data_append]
theorem qKu {α : Type} {l : List α} (h : l.length = 1) : ∃ a, l = [a] := by
 match l, h with
 | [a], _ => exact ⟨a, rfl⟩
theorem qG6 {α : Type} {l : List α} (h : l.length = 2) : ∃ a b, l = [a, b] := by
 match l, h with
 | [a, b], _ => exact ⟨a, b, rfl⟩
theorem st2 {c : B5} {s : I9} (H : I4 c s) {m : Mm} (hm : c.mems.l = [m]) (ha : m.addr.l.length = 1) (hd : m.data.l.length = 2) :
  ∃ W r0 r1 a b cc d rd e f, s.words.l = [W] ∧ W.l = [r0, r1] ∧ r0.l = [a, b] ∧ r1.l = [cc, d] ∧ s.read.l = [rd] ∧ rd.l = [e, f] ∧ V3 a ∧ V3 b ∧ V3 cc ∧ V3 d ∧ V3 e ∧ V3 f := by
 have hl : c.mems.l.length = 1 := by rw [hm]; rfl
 obtain ⟨W, hW⟩ := qKu (H.w.trans hl)
 obtain ⟨rd, hr⟩ := qKu (H.r.trans hl)
 have wl := H.wl 0 (by omega)
 have wr := H.wr 0 (by omega)
 have rl := H.rl 0 (by omega)
 have em : c.mems.l.getD 0 Mm.d = m := by rw [hm]; rfl
 have eW : s.words.l.getD 0 Sl.zz = W := by rw [hW]; rfl
 have er : s.read.l.getD 0 Sl.z = rd := by rw [hr]; rfl
 rw [eW, em, ha] at wl
 rw [eW, em, hd] at wr
 rw [er, em, hd] at rl
 obtain ⟨r0, r1, hW2⟩ := qG6 (show W.l.length = 2 from wl)
 obtain ⟨e, f, hrd⟩ := qG6 rl
 obtain ⟨a, b, h0⟩ := qG6 (wr r0 (by rw [hW2]; simp))
 obtain ⟨cc, d, h1⟩ := qG6 (wr r1 (by rw [hW2]; simp))
 have v0 := H.vw W (by rw [hW]; simp) r0 (by rw [hW2]; simp)
 have v1 := H.vw W (by rw [hW]; simp) r1 (by rw [hW2]; simp)
 have v2 := H.vr rd (by rw [hr]; simp)
 exact ⟨W, r0, r1, a, b, cc, d, rd, e, f, hW, hW2, h0, h1, hr, hrd, v0 a (by rw [h0]; simp), v0 b (by rw [h0]; simp), v1 cc (by rw [h1]; simp), v1 d (by rw [h1]; simp), v2 e (by rw [hrd]; simp), v2 f (by rw [hrd]; simp)⟩
structure M2 (c : B5) : Prop where
 m : c.mems.l = [] ∨ ∃ m p p1 p2, c.mems.l = [m] ∧ m.addr.l = [p] ∧ m.data.l = [p1, p2]
 k : ∀ i, i < c.nodes.l.length → 0 ≤ Bo c i ∧ Bo c i ≤ 15
 n1 : 1 ≤ c.nodes.l.length
 n2 : c.nodes.l.length ≤ 16
theorem qKv {x : CD} (hx : q7l x) : M2 (ofC x) := by
 have hl := q5j hx
 have h5 := q5k hx
 have hN : (ofC x).nodes.l = H8 x := rfl
 have hv := qBg hx
 refine ⟨?_, fun i hi => ?_, by rw [hN]; omega, by rw [hN]; omega⟩
 ·by_cases hm : x.mem = true
  ·exact .inr ⟨⟨⟨[x.p0.tmod (C5 x).length], some 1, some false⟩, ⟨[x.p1.tmod (C5 x).length, x.p2.tmod (C5 x).length], some 2, some false⟩, x.p3.tmod (C5 x).length⟩, _, _, _, by simp [ofC, qAq, hm], rfl, rfl⟩
  ·left
   simp [ofC, qAq, hm]
 ·have hs := (P9 hv).1
  have hn := (Ia hs).2.2.1 _ (List.getElem_mem hi)
  have hk : Bo (ofC x) i = (ofC x).nodes.l[i].k := by simp [Bo, hi]
  have hkk := (qI8 hx).kind _ (List.getElem_mem hi)
  have hle : ¬ 15 < (ofC x).nodes.l[i].k := fun h => by
   unfold Dq at hn
   rw [if_pos h] at hn; cases hn
  rw [hk]
  omega
theorem qM6 {x : CD} (hx : q7l x) : MOk (ofC x) := ⟨qI8 hx, qBg hx, by have := (qKv hx).n2; omega⟩
end Go.Lg
namespace Go.Lg
open Go Go.Proofs Go.Proofs.YtjcogpofldkniaaGreatDoor
theorem qG7 : Tryz.prog.cellsOf 29 = 1 := by kernel_rfl
theorem qOm : Rd Tryz.prog 29 fun ts => ∃ s : Sl Int, ts = [tV s] ∧ ∀ b ∈ s.l, Byt b := by
 refine (q0w (l := [(1, fun ts => ∃ s : Sl Int, ts = [tV s] ∧ ∀ b ∈ s.l, Byt b)]) Tryz.underlying29 qG7
  (.cons rfl q9B qCM (.nil _))).mono fun ts h => ?_
 obtain ⟨_, _, rfl, ⟨a, rfl, ha⟩, rfl⟩ := h
 exact ⟨a, rfl, ha⟩
end Go.Lg
namespace Go.Proofs.YtjcogpofldkniaaGreatDoor
open Go Go.Lg Go.ChangeShapes Go.WideShapes Go.ChangeAt Go.RowKit
end Go.Proofs.YtjcogpofldkniaaGreatDoor
namespace Go.Lg
open Go Go.Proofs
variable {Γ : Tables}
def Qz (n : Nat) : Sl Int := ⟨List.replicate n 2, none, none⟩
def q62 (m : Mm) : Sl (Sl Int) := ⟨List.replicate (2 ^ m.addr.l.length) (Qz m.data.l.length), none, none⟩
def L9 (c : B5) : I9 := ⟨Qz (Aj c).length, ⟨c.mems.l.map q62, some c.mems.l.length, none⟩, ⟨c.mems.l.map fun m => Qz m.data.l.length, some c.mems.l.length, none⟩⟩
def blH (m : Mm) (d : T) (nw nr : Nat) : List (Nat × B7) := [(2, .bx [F7, F7, F7]), (3, .bx [.t d, .ls 46 0 nw none, .ls 55 0 nr none]), (5, .bx ((tMm m).map .t))]
def blT (ws : List (Sl (Sl Int))) (rs : List (Sl Int)) : List (Nat × B7) := [(46, .sl 43 1 (Ab tW ws)), (55, .sl 41 1 (Ab tV rs))]
theorem qNx {Q : AX → St → Prop} (m : Mm) (K : Nat) (hK : K ≤ 1000000) (hd : m.data.l.length ≤ 60000) (tm : T) (len j : Int) (d : T) (ws : List (Sl (Sl Int))) (rs : List (Sl Int)) (R : List (List T)) (hR : R = Ab tV (List.replicate K (Qz m.data.l.length)))
  (h0 : Q (.exit 2) ⟨[(2, .lp 2 0 0), (3, .lp 3 0 0), (5, .lp 5 0 0), (6, .ls 28 0 K none), (18, .t tm), (19, .t (tI len)), (20, .t (tI j)), (30, .t (tI K)), (31, .t (tI K)), (32, .t (tB false))], blH m d ws.length rs.length ++ (28, .sl 41 1 R) :: blT ws rs⟩) :
  ∀ (k i : Nat), k + i = K →
  run Tryz.prog Γ Jz Q ⟨[(2, .lp 2 0 0), (3, .lp 3 0 0), (5, .lp 5 0 0), (6, .ls 28 0 K none), (18, .t tm), (19, .t (tI len)), (20, .t (tI j)), (30, .t (tI K)), (31, .t (tI i))], blH m d ws.length rs.length ++ (28, .sl 41 1 (R.take i ++ List.replicate (K - i) [T.sl [] (some 0) (some true)])) :: blT ws rs⟩ := by
 have hRl : R.length = K := by rw [hR, A0]; simp
 intro k
 induction k with
 | zero =>
  intro i h
  refine Ru fun KK hKK => ?_
  have h2 : i = K := by omega
  subst h2
  rw [← hRl, List.take_length, hRl, Nat.sub_self, List.replicate_zero, List.append_nil]
  simp [blH, blT, F7] at h0
  simp [blH, blT, F7]
  simpa using h0
 | succ k ih =>
  intro i h
  refine Ru fun KK hKK => ?_
  have h2 : i < K := by omega
  have h2R : i < R.length := by omega
  have ih := ih (i + 1) (by omega)
  have hu := q26 (Γ := Γ) m.data.l.length hd
  have hRi : R[i] = [T.sl (Aq (List.replicate m.data.l.length 2)) none none] := by
   have : R[i]? = some [T.sl (Aq (List.replicate m.data.l.length 2)) none none] := by
    rw [hR]
    simp [Ab, List.getElem?_replicate, h2, tV, Qz]
   rw [List.getElem?_eq_getElem h2R] at this
   exact Option.some.inj this
  have hset : (R.take i ++ List.replicate (K - i) [T.sl [] (some 0) (some true)]).set i [T.sl (Aq (List.replicate m.data.l.length 2)) none none] = R.take (i + 1) ++ List.replicate (K - (i + 1)) [T.sl [] (some 0) (some true)] := by
   have ht : (R.take i).length = i := by rw [List.length_take]; omega
   rw [List.set_append_right _ _ (by omega), ht, Nat.sub_self, show K - i = (K - (i + 1)) + 1 by omega, List.replicate_succ, List.set_cons_zero, List.take_add_one, List.getElem?_eq_getElem h2R, hRi]
   simp
  have hel : (R.take i ++ List.replicate (K - i) [T.sl [] (some 0) (some true)]).length = K := by simp; omega
  generalize R.take i ++ List.replicate (K - i) [T.sl [] (some 0) (some true)] = E at *
  generalize R.take (i + 1) ++ List.replicate (K - (i + 1)) [T.sl [] (some 0) (some true)] = E' at *
  have w1 := B0 (i := i) (by omega)
  simp [blH, blT, F7, tMm, B1] at ih
  simp [blH, blT, F7, tMm, B1, h2, A0]
  refine Aa hu rfl ?_
  simp [h2, hel, hset, w1]
  rw [hKK]
  simpa using ih
theorem qKw {Q : AX → St → Prop} (c : B5) (hcm : c.mems.l.length ≤ 16) (hm : ∀ m ∈ c.mems.l, m.addr.l.length ≤ 8 ∧ m.data.l.length ≤ 32) (d : T) (RW : List (Sl (Sl Int))) (RR : List (Sl Int))
  (h0 : Q (.exit 0) ⟨[(2, .lp 2 0 0), (3, .lp 3 0 0), (18, .t (Ad c.mems)), (19, .t (tI c.mems.l.length)), (20, .t (tI c.mems.l.length)), (21, .t (tB false))], [(2, .bx [F7, F7, F7]), (3, .bx [.t d, .ls 46 0 RW.length none, .ls 55 0 RR.length none])] ++ blT RW RR⟩) :
  ∀ (k i : Nat) (ws : List (Sl (Sl Int))) (rs : List (Sl Int)), k + i = c.mems.l.length → ws.length = i → rs.length = i → ws ++ (c.mems.l.drop i).map q62 = RW → rs ++ (c.mems.l.drop i).map (fun m => Qz m.data.l.length) = RR →
  run Tryz.prog Γ K1 Q ⟨[(2, .lp 2 0 0), (3, .lp 3 0 0), (18, .t (Ad c.mems)), (19, .t (tI c.mems.l.length)), (20, .t (tI i))], [(2, .bx [F7, F7, F7]), (3, .bx [.t d, .ls 46 0 i none, .ls 55 0 i none])] ++ blT ws rs⟩
 | 0, i, ws, rs, h, hw, hr, hW, hR => by
  refine Rw fun K hK => ?_
  have h2 : i = c.mems.l.length := by omega
  subst h2
  rw [List.drop_length] at hW hR
  simp only [List.map_nil, List.append_nil] at hW hR
  subst hW
  subst hR
  simp [blT, F7, Ad, hw, hr] at h0
  simp [blT, F7, Ad]
  simpa using h0
 | k + 1, i, ws, rs, h, hw, hr, hW, hR => by
  refine Rw fun K hK => ?_
  have h2 : i < c.mems.l.length := by omega
  rw [List.drop_eq_getElem_cons h2, List.map_cons] at hW hR
  have e1 : (An tMm c.mems.l)[i]?.getD [] = tMm c.mems.l[i] := by simp [An, h2]
  have e1' : ∀ h, (An tMm c.mems.l)[i]'h = tMm c.mems.l[i] := fun h => by simp [An]
  obtain ⟨ma, md⟩ := hm _ (List.getElem_mem h2)
  generalize c.mems.l[i] = m at *
  have hK256 : 2 ^ m.addr.l.length ≤ 256 := Nat.pow_le_pow_right (by omega) ma
  have sh := qM4 ma
  have g := fun Q h0 => qNx (Γ := Γ) (Q := Q) m (2 ^ m.addr.l.length) (by omega) (by omega) (Ad c.mems) c.mems.l.length i d ws rs (Ab tV (List.replicate (2 ^ m.addr.l.length) (Qz m.data.l.length))) rfl h0 (2 ^ m.addr.l.length) 0 (by omega)
  rw [List.take_zero, Nat.sub_zero, List.nil_append] at g
  have hu := q26 (Γ := Γ) m.data.l.length (by omega)
  have hul : (List.replicate (2 ^ m.addr.l.length) (Qz m.data.l.length)).length = 2 ^ m.addr.l.length := by simp
  have vt : (Ab tV (List.replicate (2 ^ m.addr.l.length) (Qz m.data.l.length))).take (2 ^ m.addr.l.length) = Ab tV (List.replicate (2 ^ m.addr.l.length) (Qz m.data.l.length)) := List.take_of_length_le (by rw [A0, hul]; exact Nat.le_refl _)
  have ih := qKw c hcm hm d RW RR h0 k (i + 1) (ws ++ [q62 m]) (rs ++ [Qz m.data.l.length]) (by omega) (by simp [hw]) (by simp [hr]) (by rw [← hW]; simp) (by rw [← hR]; simp)
  have vsw : Ab tW ws ++ [[T.sl (Ab tV (List.replicate (2 ^ m.addr.l.length) (Qz m.data.l.length))) none none]] = Ab tW (ws ++ [q62 m]) := Bf (f := tW) (x := q62 m)
  have vsr : Ab tV rs ++ [[T.sl (Aq (List.replicate m.data.l.length 2)) none none]] = Ab tV (rs ++ [Qz m.data.l.length]) := Bf (f := tV) (x := Qz m.data.l.length)
  have vtw : (Ab tW ws).take i = Ab tW ws := by rw [← hw]; exact Ag
  have vtr : (Ab tV rs).take i = Ab tV rs := by rw [← hr]; exact Ag
  generalize Ab tV (List.replicate (2 ^ m.addr.l.length) (Qz m.data.l.length)) = rows at *
  generalize Aq (List.replicate m.data.l.length 2) = rd at *
  generalize q62 m = uw at *
  generalize Qz m.data.l.length = us at *
  have hnat : ((2 ^ m.addr.l.length : Nat) : Int).toNat = 2 ^ m.addr.l.length := Int.toNat_natCast _
  generalize 2 ^ m.addr.l.length = KK at *
  have w1 := B0 (i := i) (by omega)
  have hw1 : ∀ t : T, Ce 1 [[t]] := fun t e he => by simp at he; subst he; rfl
  simp only [tMm, B1] at e1 e1'
  simp [blH, blT, F7, tMm, B1, Ad, hw, hr] at g ih
  simp [blT, F7, Ad, Q5, A9, A0, h2, e1, e1', sh]
  refine ⟨by omega, ?_⟩
  refine g _ ?_
  simp [St.freeze, B7.closed, Bi, frz1, frz0, E1, del, Ah, vt, vtw, vsw, hw1, A6, A0, hw]
  refine ⟨by omega, ?_⟩
  refine Aa hu rfl ?_
  simp [vtr, vsr, hw1, A6, A0, hr, w1]
  refine ⟨by omega, ?_⟩
  rw [hK]
  simpa using ih
theorem qDn (hΓ : GOk Γ) (c : B5) (h : MOk c) (hs : (Aj c).length ≤ 60000) : Ac Tryz.prog Γ 29 [.agg (tC c)] (.agg (B9 (L9 c))) := by
 refine Ar q5v rfl ?_
 have e1 := q5g hΓ c h.ok
 rw [h.lev] at e1
 have e2 := Fo (Γ := Γ) c h.ok
 have e3 := q26 (Γ := Γ) (Aj c).length hs
 have hcm := h.cm
 have g := fun Q d h0 => qKw (Γ := Γ) (Q := Q) c h.cm (fun m hm => ⟨(h.mf m hm).1.2, (h.mf m hm).2.1.2⟩) d (c.mems.l.map q62) (c.mems.l.map fun m => Qz m.data.l.length) h0 c.mems.l.length 0 [] [] (by omega) rfl rfl rfl rfl
 have lW : (c.mems.l.map q62).length = c.mems.l.length := by simp
 have lR : (c.mems.l.map fun m => Qz m.data.l.length).length = c.mems.l.length := by simp
 have tw : (Ab tW (c.mems.l.map q62)).take c.mems.l.length = Ab tW (c.mems.l.map q62) := by rw [← lW]; exact Ag
 have tr : (Ab tV (c.mems.l.map fun m => Qz m.data.l.length)).take c.mems.l.length = Ab tV (c.mems.l.map fun m => Qz m.data.l.length) := by rw [← lR]; exact Ag
 have c2 := qG0 (Γ := Γ) (Ab tV (c.mems.l.map fun m => Qz m.data.l.length)) none none A6
 have c3 := qIf (Γ := Γ) (Ab tW (c.mems.l.map q62)) none none A6
 rw [A0, lR] at c2
 rw [A0, lW] at c3
 unfold L9
 generalize (c.mems.l.map q62) = W at *
 generalize (c.mems.l.map fun m => Qz m.data.l.length) = R at *
 simp [tC, A5, A8, Ad, B1] at e1 e2
 simp [blT, F7, Ad, D4, lW, lR] at g
 simp [q0A, tC, A5, A8, Ad, B1]
 refine A1 e1 rfl ?_
 simp
 refine Aa e2 rfl ?_
 simp [A0]
 refine Aa e3 rfl ?_
 simp [A9]
 refine g _ _ ?_
 simp [St.freeze, B7.closed, Bi, frz1, frz0, E1, del, Ah, tw, tr]
 refine Aa c3 rfl ?_
 simp
 refine Aa c2 rfl ?_
 simp [q0B, Ah, Af, B9, tV, tW, Ko, Qz]
theorem qIv {α β γ : Type} {f : α → β → γ} {x : List α} {y : List β} {z : γ} (dx : α) (dy : β) (h : z ∈ List.zipWith f x y) : ∃ i, i < x.length ∧ i < y.length ∧ z = f (x.getD i dx) (y.getD i dy) := by
 obtain ⟨i, hi, rfl⟩ := List.getElem_of_mem h
 rw [List.length_zipWith] at hi
 exact ⟨i, by omega, by omega, by simp [List.getD_eq_getElem?_getD, show i < x.length by omega, show i < y.length by omega]⟩
theorem qEl.rel {a b : List Int} (h : qEl a b) : qF5 Blw a b := ⟨h.1, fun i _ => h.2 i⟩
end Go.Lg
namespace Go.Lg
open Go Go.Proofs
def seqS (c : B5) : I9 → List (List Int) → I9
 | s, [] => s
 | s, i :: is => seqS c (Wi c s (Bq c s i)) is
def seqR (c : B5) : I9 → List (List Int) → List (List Int × List Int)
 | _, [] => []
 | s, i :: is => (Z6 c (Bq c s i), Df c (Bq c s i)) :: seqR c (Wi c s (Bq c s i)) is
theorem q3m {c : B5} : ∀ {is : List (List Int)} {s : I9}, (seqR c s is).length = is.length
 | [], _ => rfl
 | _ :: is, s => by simp [seqR, q3m (is := is)]
theorem q8e {c : B5} : ∀ {a b : List (List Int)} {s : I9}, seqS c s (a ++ b) = seqS c (seqS c s a) b
 | [], _, _ => rfl
 | _ :: a, b, s => by simp only [List.cons_append, seqS]; exact q8e
theorem q8f {c : B5} : ∀ {a b : List (List Int)} {s : I9}, seqR c s (a ++ b) = seqR c s a ++ seqR c (seqS c s a) b
 | [], _, _ => rfl
 | _ :: a, b, s => by simp only [List.cons_append, seqS, seqR]; rw [q8f]
structure Xe (a b : I9) : Prop where
 d : a.dff.l = b.dff.l
 w : a.ws = b.ws
 r : a.rd = b.rd
theorem Xe.refl (a : I9) : Xe a a := ⟨rfl, rfl, rfl⟩
theorem Xe.symm {a b : I9} (h : Xe a b) : Xe b a := ⟨h.d.symm, h.w.symm, h.r.symm⟩
theorem Xe.trans {a b d : I9} (h : Xe a b) (g : Xe b d) : Xe a d := ⟨h.d.trans g.d, h.w.trans g.w, h.r.trans g.r⟩
theorem qAT {nets : List Int} : ∀ {ms : List Mm} {ws : List (Sl (Sl Int))}, Qk nets ms ws = List.zipWith (fun m w => ⟨q3f w (Bj nets m.addr.l), none, none⟩) ms (ws.map fun w => w.l.map (·.l))
 | [], _ => rfl
 | _ :: _, [] => rfl
 | m :: ms, w :: ws => by
  have := qAT (nets := nets) (ms := ms) (ws := ws)
  unfold Qk at this ⊢
  simp only [List.zipWith_cons_cons, List.map_cons, this]
theorem qAU {nets : List Int} : ∀ {ms : List Mm} {ws : List (Sl (Sl Int))}, Ny nets ms ws = List.zipWith (fun m w => Vr (Gt (Bj nets m.addr.l) (Bj nets m.data.l) (nets.getD m.write.toNat 0) 0 w)) ms (ws.map fun w => w.l.map (·.l))
 | [], _ => rfl
 | _ :: _, [] => rfl
 | m :: ms, w :: ws => by
  have := qAU (nets := nets) (ms := ms) (ws := ws)
  unfold Ny at this ⊢
  simp only [List.zipWith_cons_cons, List.map_cons, this]
theorem Xe.nets {c : B5} {a b : I9} (h : Xe a b) (i : List Int) : Bq c a i = Bq c b i := by unfold Bq; rw [h.d, h.r]
theorem Xe.next {c : B5} {a b : I9} (h : Xe a b) (N : List Int) : Wi c a N = Wi c b N := by
 unfold Wi
 rw [qAT, qAT, qAU, qAU]
 have hw := h.w
 unfold I9.ws at hw
 rw [hw]
theorem Xe.seqR {c : B5} {a b : I9} (h : Xe a b) : ∀ {is : List (List Int)}, seqR c a is = seqR c b is
 | [] => rfl
 | i :: is => by simp only [Lg.seqR]; rw [h.nets i, h.next]
theorem Xe.seqS {c : B5} {a b : I9} (h : Xe a b) : ∀ {is : List (List Int)}, Xe (seqS c a is) (seqS c b is)
 | [] => h
 | i :: is => by simp only [Lg.seqS]; rw [h.nets i, h.next]; exact .refl _
theorem q63 {a b : List (Sl Int)} (h : a.map (·.l) = b.map (·.l)) (i : Nat) : (a.getD i Sl.z).l = (b.getD i Sl.z).l := by
 have := congrArg (fun x => x.getD i []) h
 simp only [List.getD_eq_getElem?_getD, List.getElem?_map] at this ⊢
 cases ha : a[i]? <;> cases hb : b[i]? <;> simp [ha, hb] at this ⊢ <;> first | exact this | (simp [Sl.z, this])
theorem Xi {α β : Type} {f : α → β} {a b : List α} (h : a.map f = b.map f) : a.length = b.length := by
 have := congrArg List.length h
 simpa using this
theorem q64 {a b : List (Sl (Sl Int))} (h : (a.map fun w => w.l.map (·.l)) = b.map fun w => w.l.map (·.l)) (i : Nat) : (a.getD i Sl.zz).l.map (·.l) = (b.getD i Sl.zz).l.map (·.l) := by
 have := congrArg (fun x => x.getD i []) h
 simp only [List.getD_eq_getElem?_getD, List.getElem?_map] at this ⊢
 cases ha : a[i]? <;> cases hb : b[i]? <;> simp [ha, hb] at this ⊢ <;> first | exact this | (simp [Sl.zz, this])
theorem qIw {a b : List Int} (h : a = b) : qF5 (· = ·) a b := by subst h; exact ⟨rfl, fun _ _ => rfl⟩
theorem Xe.rel {a b : I9} (h : Xe a b) : qIm (· = ·) a b := by
 have hw := h.w
 have hr := h.r
 unfold I9.ws at hw
 unfold I9.rd at hr
 refine ⟨qIw h.d, Xi hr, fun i _ => qIw (q63 hr i), Xi hw, fun i _ => ?_⟩
 have := q64 hw i
 exact ⟨Xi this, fun j _ => qIw (q63 this j)⟩
theorem q82 {a b : List (Sl Int)} (h : a.map (·.l) = b.map (·.l)) {r : Sl Int} (hr : r ∈ a) : ∃ q ∈ b, q.l = r.l := by
 have : r.l ∈ b.map (·.l) := by rw [← h]; exact List.mem_map.2 ⟨r, hr, rfl⟩
 obtain ⟨q, hq, e⟩ := List.mem_map.1 this
 exact ⟨q, hq, e⟩
theorem Xe.ok {c : B5} {a b : I9} (h : Xe a b) (H : I4 c b) : I4 c a := by
 have hw := h.w
 have hr := h.r
 unfold I9.ws at hw
 unfold I9.rd at hr
 refine ⟨by rw [h.d, H.d], (Xi hw).trans H.w, (Xi hr).trans H.r, fun i hi => (Xi (q64 hw i)).trans (H.wl i hi), fun i hi w hw' => ?_, fun i hi => by rw [q63 hr i]; exact H.rl i hi, by rw [h.d]; exact H.vd, fun w hw' r hr' => ?_, fun r hr' => ?_⟩
 ·obtain ⟨q, hq, e⟩ := q82 (q64 hw i) hw'
  rw [← e]; exact H.wr i hi q hq
 ·have : w.l.map (·.l) ∈ b.words.l.map fun w => w.l.map (·.l) := by rw [← hw]; exact List.mem_map.2 ⟨w, hw', rfl⟩
  obtain ⟨W, hW, e⟩ := List.mem_map.1 this
  obtain ⟨q, hq, e2⟩ := q82 e.symm hr'
  rw [← e2]; exact H.vw W hW q hq
 ·obtain ⟨q, hq, e⟩ := q82 hr hr'
  rw [← e]; exact H.vr q hq
def qKx (c : B5) (is : List (List Int)) : Prop := ∀ i ∈ is, i.length = (Bz c).length ∧ ∀ v ∈ i, V4 v
theorem q9G {c : B5} (h : MOk c) : ∀ {is : List (List Int)} {s : I9}, I4 c s → qKx c is → I4 c (seqS c s is)
 | [], _, H, _ => H
 | i :: is, s, H, hi => by
  simp only [seqS]
  exact q9G h (qDm h H (qCU H (hi i List.mem_cons_self).2)) fun x hx => hi x (List.mem_cons_of_mem _ hx)
end Go.Lg
namespace Go.Lg
open Go
section
variable {P : Program} {Γ : Tables} {Q : AX → St → Prop} {s : St}
/- probecard/cycles.Run (function 25) -/
abbrev q57 : IC := .gh (.seq (.reg [od 29 (.bin .lss (tm 28) (tm 27))] [kp [2, 3, 4, 7, 26, 27, 28, 29] [7]]) (.seq (.cond (tm 29) .skip (.exit 0)) (.seq (.block 1 (.seq (.reg [od 30 (ia 1 26 28), od 31 (ld 1 30), om 10 31] [kp [2, 3, 4, 7, 10, 26,
 27, 28] [7]]) (.seq (.reg [od 32 (lG 4 3), od 33 (lG 3 4), om 34 10, od 35 (.call 36 [(tm 32), (tm 33), (tm 34)]), om 11 35] [kp [2, 3, 4, 7, 11, 26, 27, 28] [7]]) (.seq (.reg [om 36 11, od 37 (.bin .neq (tm 36) (ki 0))] [kp [2, 3,
 4, 7, 11, 26, 27, 28, 37] [7]]) (.cond (tm 37) (.seq (.reg [od 38 (.build [(1, kN), (1, kN), (1, kN)]), om 39 11, od 6 (.mv kN), on (.store 3 (tm 7) (tm 38)), om 8 39] [kp [6, 7, 8] [7, 43]]) .ret) .skip))))) (.reg [od 40 (.bin
 .add (tm 28) (ki 1)), om 28 40] [kp [2, 3, 4, 7, 26, 27, 28] [7]])))) [kp [2, 3, 4, 7, 26, 27, 28] [7]]
def U7 : IC := .loop q57
abbrev q58 : IC := .gh (.seq (.reg [od 49 (.bin .lss (tm 48) (tm 47))] [kp [3, 7, 12, 13, 46, 47, 48, 49] [7, 13, 43]]) (.seq (.cond (tm 49) .skip (.exit 2)) (.seq (.block 3 (.seq (.reg [om 50 48, od 51 (ia 1 46 48), od 52 (ld 1 51), om 14 50, om 15
 52] [kp [3, 7, 12, 13, 14, 15, 46, 47, 48] [7, 13, 43]]) (.reg [om 54 12, om 55 14, od 56 (lG 4 3), od 57 (lG 3 13), om 58 15, od 59 (.call 11 [(tm 56), (tm 57), (tm 58)]), om 53 59, od 60 (ex 53 0), od 61 (ex 53 1), od 62 (ex 53
 2), od 63 (ex 53 3), on (.store 3 (tm 13) (tm 60)), od 64 (ia 2 54 55), on (.store 2 (tm 64) (tm 61))] [kp [3, 7, 12, 13, 46, 47, 48] [7, 13, 43]]))) (.reg [od 65 (.bin .add (tm 48) (ki 1)), om 48 65] [kp [3, 7, 12, 13, 46, 47, 48]
 [7, 13, 43]])))) [kp [3, 7, 12, 13, 46, 47, 48] [7, 13, 43]]
def U8 : IC := .loop q58
abbrev q59 : IC := (.seq (.reg [od 3 (.box true (tm 0)), od 4 (.box true (tm 1)), od 6 (.mv kN), od 7 (.alloc false [(.slice none 0 0), (.slice none 0 0), (.slice none 0 0)]), od 8 (.mv (ki 0))] [kp [2, 3, 4, 7] [7]]) (.seq (.seq (.reg [om 16 2, od
 17 (le 0 16), od 18 (.bin .gtr (tm 17) (ki 1024))] [kp [2, 3, 4, 7, 18] [7]]) (.cond (tm 18) (.seq (.reg [od 19 (.build [(1, kN), (1, kN), (1, kN)]), od 6 (.mv kN), on (.store 3 (tm 7) (tm 19)), od 8 (.mv (ki 3))] [kp [6, 7, 8] [7,
 43]]) .ret) .skip)) (.seq (.seq (.reg [od 20 (lG 4 3), od 21 (.call 71 [(tm 20)]), od 22 (.fld 0 1 false (tm 21)), od 23 (.bsl true 41 1 [(tm 22)]), om 24 2, od 25 (.bsl true 43 1 [(tm 23), (tm 24)]), od 26 (.call 70 [(tm 25)]), od
 27 (le 0 26), od 28 (.mv (ki 0))] [kp [2, 3, 4, 7, 26, 27, 28] [7]]) (.block 0 U7)) (.seq (.reg [om 41 2, od 42 (le 0 41), od 43 (.mkE 49 2 [(.slice none 0 0), (.slice none 0 0)] (tm 42) (tm 42)), om 12 43] [kp [2, 3, 4,
 7, 12] [7, 43]]) (.seq (.reg [od 44 (lG 3 4), od 45 (.call 72 [(tm 44)]), od 13 (.alloc false [(.slice none 0 0), (.slice none 0 0), (.slice none 0 0)]), on (.store 3 (tm 13) (tm 45))] [kp [2, 3, 7, 12, 13] [7, 13, 43]]) (.seq
 (.seq (.reg [om 46 2, od 47 (le 0 46), od 48 (.mv (ki 0))] [kp [3, 7, 12, 13, 46, 47, 48] [7, 13, 43]]) (.block 2 U8)) (.seq (.reg [om 66 12, od 67 (.ldR 13 3 true (tm 13)), om 6 66, on (.stR 7 3 (tm 7) (tm 67)), od 8
 (.mv (ki 0))] [kp [6, 7, 8] [7, 43]]) .ret)))))))
theorem q0J (h : ∀ K : St → Prop, K = run P Γ U7 Q → run P Γ q57 (Am K Q) s) : run P Γ U7 Q s := Ae h
theorem q0K (h : ∀ K : St → Prop, K = run P Γ U8 Q → run P Γ q58 (Am K Q) s) : run P Γ U8 Q s := Ae h
def q5A : List RV := [.tmp 6, .cell 7 3 true, .tmp 8]
/- probecard/cycles.copied (function 72) -/
abbrev q1M : IC := .gh (.seq (.reg [od 25 (.bin .lss (tm 24) (tm 23))] [kp [1, 2, 3, 6, 16, 17, 18, 22, 23, 24, 25] [2, 3, 32, 39, 54]]) (.seq (.cond (tm 25) .skip (.exit 2)) (.seq (.block 3 (.seq (.reg [od 26 (ia 1 22 24), od 27 (ld 1 26), om 8 27]
 [kp [1, 2, 3, 6, 8, 16, 17, 18, 22, 23, 24] [2, 3, 32, 39, 54]]) (.reg [om 28 6, om 29 8, od 30 (.call 84 [(tm 29)]), od 31 (.bsl true 41 1 [(tm 30)]), od 32 (.app false 41 1 (tm 28) (tm 31)), om 6 32] [kp [1, 2, 3, 6, 16, 17, 18,
 22, 23, 24] [2, 3, 32, 39, 54]]))) (.reg [od 33 (.bin .add (tm 24) (ki 1)), om 24 33] [kp [1, 2, 3, 6, 16, 17, 18, 22, 23, 24] [2, 3, 32, 39, 54]])))) [kp [1, 2, 3, 6, 16, 17, 18, 22, 23, 24] [2, 3, 32, 39, 54]]
def Ln : IC := .loop q1M
abbrev q1N : IC := .gh (.seq (.reg [od 19 (.bin .lss (tm 18) (tm 17))] [kp [1, 2, 3, 16, 17, 18, 19] [2, 3, 39, 54]]) (.seq (.cond (tm 19) .skip (.exit 0)) (.seq (.block 1 (.seq (.reg [od 20 (ia 1 16 18), od 21 (ld 1 20), om 5 21] [kp [1, 2, 3, 5,
 16, 17, 18] [2, 3, 39, 54]]) (.seq (.reg [od 6 (.mv kN)] [.nl 6 32 41 1, kp [1, 2, 3, 5, 6, 16, 17, 18] [2, 3, 32, 39, 54]]) (.seq (.seq (.reg [om 22 5, od 23 (le 0 22), od 24 (.mv (ki 0))] [kp [1, 2, 3, 6, 16, 17, 18, 22, 23, 24]
 [2, 3, 32, 39, 54]]) (.gh (.block 2 Ln) [.frz 32])) (.reg [od 34 (fa 1 3), od 35 (.ldR 3 1 false (tm 34)), om 36 6, od 37 (.callT 48 [(tm 36)]), od 38 (.bsl true 43 1 [(tm 37)]), od 39 (.app false 43 1 (tm 35) (tm
 38)), od 40 (fa 1 3), on (.stR 3 1 (tm 40) (tm 39))] [kp [1, 2, 3, 16, 17, 18] [2, 3, 39, 54]]))))) (.reg [od 41 (.bin .add (tm 18) (ki 1)), om 18 41] [kp [1, 2, 3, 16, 17, 18] [2, 3, 39, 54]])))) [kp [1, 2, 3, 16, 17, 18] [2, 3,
 39, 54]]
def Lo : IC := .loop q1N
abbrev q1O : IC := .gh (.seq (.reg [od 46 (.bin .lss (tm 45) (tm 44))] [kp [2, 3, 43, 44, 45, 46] [2, 3, 39, 54]]) (.seq (.cond (tm 46) .skip (.exit 4)) (.seq (.block 5 (.seq (.reg [od 47 (ia 1 43 45), od 48 (ld 1 47), om 10 48] [kp [2, 3, 10, 43,
 44, 45] [2, 3, 39, 54]]) (.reg [od 49 (fa 2 3), od 50 (.ldR 3 1 false (tm 49)), om 51 10, od 52 (.callT 84 [(tm 51)]), od 53 (.bsl true 41 1 [(tm 52)]), od 54 (.app false 41 1 (tm 50) (tm 53)), od 55 (fa 2 3), on (.stR 3 1 (tm 55)
 (tm 54))] [kp [2, 3, 43, 44, 45] [2, 3, 39, 54]]))) (.reg [od 56 (.bin .add (tm 45) (ki 1)), om 45 56] [kp [2, 3, 43, 44, 45] [2, 3, 39, 54]])))) [kp [2, 3, 43, 44, 45] [2, 3, 39, 54]]
def Lp : IC := .loop q1O
abbrev q1P : IC := (.seq (.reg [od 1 (.box true (tm 0)), od 2 (.alloc false [(.slice none 0 0), (.slice none 0 0), (.slice none 0 0)])] [kp [1, 2] [2, 39, 54]]) (.seq (.reg [od 11 (fa 0 1), od 12 (ld 1 11), od 13 (.call 84 [(tm 12)]), od 14 (.build
 [(1, (tm 13)), (1, kN), (1, kN)]), od 3 (.alloc false [(.slice none 0 0), (.slice none 0 0), (.slice none 0 0)]), on (.store 3 (tm 3) (tm 14))] [.nlb 3 1 39 43 1, .nlb 3 2 54 41 1, kp [1, 2, 3] [2, 3, 39, 54]]) (.seq (.seq (.reg
 [od 15 (fa 1 1), od 16 (ld 1 15), od 17 (le 0 16), od 18 (.mv (ki 0))] [kp [1, 2, 3, 16, 17, 18] [2, 3, 39, 54]]) (.gh (.block 0 Lo) [.frz 39])) (.seq (.seq (.reg [od 42 (fa 2 1), od 43 (ld 1 42), od 44 (le 0 43), od
 45 (.mv (ki 0))] [kp [2, 3, 43, 44, 45] [2, 3, 39, 54]]) (.gh (.block 4 Lp) [.frz 54])) (.seq (.reg [od 57 (fa 1 3), od 58 (.ldR 3 1 false (tm 57)), od 59 (.callT 47 [(tm 58)]), od 60 (fa 2 3), od 61 (.ldR 3 1 false
 (tm 60)), od 62 (.callT 48 [(tm 61)]), od 63 (fa 1 3), on (.stR 3 1 (tm 63) (tm 59)), od 64 (fa 2 3), on (.stR 3 1 (tm 64) (tm 62))] [kp [2, 3] [2, 3, 39, 54]]) (.seq (.reg [od 65 (lG 3 3), on (.store 3 (tm 2) (tm 65))] [kp [2] [2,
 39, 54]]) .ret))))))
theorem Uz (h : ∀ K : St → Prop, K = run P Γ Ln Q → run P Γ q1M (Am K Q) s) : run P Γ Ln Q s := Ae h
theorem V0 (h : ∀ K : St → Prop, K = run P Γ Lo Q → run P Γ q1N (Am K Q) s) : run P Γ Lo Q s := Ae h
theorem V1 (h : ∀ K : St → Prop, K = run P Γ Lp Q → run P Γ q1O (Am K Q) s) : run P Γ Lp Q s := Ae h
def q1Q : List RV := [.cell 2 3 true]
/- probecard/cycles.list (function 84) -/
abbrev q3n : IC := (.seq (.reg [od 2 (.mv kN)] [kp [0] []]) (.seq (.reg [om 3 0, od 4 (.call 44 [(tm 3)]), od 5 (.call 43 [(tm 4)]), om 2 5] [kp [2] []]) .ret))
def q3o : List RV := [.tmp 2]
/- probecard/cycles.check (function 59) -/
abbrev q2Q : IC := (.seq (.reg [od 2 (.box true (tm 0)), od 4 (.mv (ki 0))] [kp [1, 2] []]) (.seq (.reg [od 7 (lG 4 2), od 8 (lG 4 2), od 9 (.call 71 [(tm 8)]), od 10 (.call 110 [(tm 7), (tm 9)]), om 5 10] [kp [1, 2, 5] []]) (.seq (.reg [od 11 (lG 4
 2), od 12 (.call 19 [(tm 11)]), od 13 (le 0 12), om 6 13] [kp [1, 2, 5, 6] []]) (.seq (.block 0 (.seq (.reg [om 15 5, od 16 (.bin .neq (tm 15) (ki 0)), om 14 16] [kp [1, 2, 5, 6, 14] []]) (.cond (tm 14) (.seq (.reg [om 17 5, om 4
 17] [kp [4] []]) .ret) (.seq (.reg [om 19 1, od 20 (.bin .lss (tm 19) (ki 1)), om 18 20] [kp [1, 2, 6, 18] []]) (.cond (tm 18) (.seq (.reg [od 4 (.mv (ki 1))] [kp [4] []]) .ret) (.seq (.reg [om 22 1, od 23 (.bin .gtr (tm 22) (ki
 1024)), om 24 23, oF 25 (.mv (tm 1)) 24, oF 26 (fa 0 2) 24, oF 27 (ld 1 26) 24, oF 28 (le 0 27) 24, oF 29 (.bin .mul (tm 25) (tm 28)) 24, oF 30 (.mv (tm 6)) 24, oF 31 (.bin .add (tm 29) (tm 30)) 24, oF 32 (.bin .gtr (tm 31) (ki
 16384)) 24, od 33 (.pick (tm 24) kT (tm 32)), om 34 33, oF 35 (.mv (tm 1)) 34, oF 36 (fa 3 2) 34, oF 37 (ld 1 36) 34, oF 38 (le 0 37) 34, oF 39 (.mv (tm 6)) 34, oF 40 (.bin .add (tm 38) (tm 39)) 34, oF 41 (.bin .mul (tm 35) (tm
 40)) 34, oF 42 (.bin .gtr (tm 41) (ki 16384)) 34, od 43 (.pick (tm 34) kT (tm 42)), om 21 43] [kp [21] []]) (.cond (tm 21) (.seq (.reg [od 4 (.mv (ki 3))] [kp [4] []]) .ret) .skip))))))) (.seq (.reg [od 4 (.mv (ki 0))] [kp [4] []])
 .ret)))))
def q2R : List RV := [.tmp 4]
/- probecard/cycles.name (function 63) -/
abbrev q3p : IC := (.seq (.reg [od 4 (.mv (.const (sV [])))] [kp [0, 1] []]) (.seq (.reg [om 5 0, od 6 (.call 22 [(tm 5)]), od 7 (.bin .add (tm 6) (.const (sV [46]))), om 8 1, od 9 (.call 22 [(tm 8)]), od 10 (.bin .add (tm 7) (tm 9)), om 4 10] [kp
 [4] []]) .ret))
def q3q : List RV := [.tmp 4]
/- probecard/cycles.Unroll (function 18) -/
abbrev q1R : IC := .gh (.seq (.reg [od 47 (.bin .lss (tm 46) (tm 45))] [kp [1, 2, 4, 7, 8, 9, 10, 11, 12, 13, 39, 40, 44, 45, 46, 47] [4, 9, 38, 89, 141, 96009, 96014]]) (.seq (.cond (tm 47) .skip (.exit 2)) (.seq (.block 3 (.seq (.reg [om 48 46, od
 49 (ia 4 44 46), od 50 (lG 4 49), od 15 (.alloc false [(.int .u8 0), (.slice none 0 0), (.int .i64 0), (.int .i64 0)]), om 14 48, on (.store 4 (tm 15) (tm 50))] [kp [1, 2, 4, 7, 8, 9, 10, 11, 12, 13, 14, 15, 39, 40, 44, 45, 46] [4,
 9, 15, 38, 89, 141, 96009, 96014]]) (.seq (.reg [od 51 (fa 0 15), od 52 (.ldR 15 1 false (tm 51)), om 53 11, om 54 13, od 55 (fa 1 15), od 56 (.ldR 15 1 false (tm 55)), od 57 (.callv (tm 53) [(tm 54), (tm 56)]), od 58 (.build [(1,
 (tm 52)), (1, (tm 57)), (1, (ki 0)), (1, (ki 0))]), od 16 (.alloc false [(.int .u8 0), (.slice none 0 0), (.int .i64 0), (.int .i64 0)]), on (.stR 16 4 (tm 16) (tm 58))] [kp [1, 2, 4, 7, 8, 9, 10, 11, 12, 13, 14, 15, 16, 39, 40,
 44, 45, 46] [4, 9, 15, 16, 38, 89, 141, 96009, 96014]]) (.seq (.seq (.reg [od 59 (fa 0 15), od 60 (ld 1 59), od 61 (.bin .eql (tm 60) (ku 14)), om 62 61, oT 63 (.mv (tm 13)) 62, oT 64 (.bin .eql (tm 63) (ki 0)) 62, od 65 (.pick (tm
 62) (tm 64) kF)] [kp [1, 2, 4, 7, 8, 9, 10, 11, 12, 13, 14, 15, 16, 39, 40, 44, 45, 46, 65] [4, 9, 15, 16, 38, 89, 141, 96009, 96014]]) (.cond (tm 65) (.reg [od 66 (.build [(1, (ku 0)), (1, kN), (1, (ki 0)), (1, (ki 0))]), on
 (.store 4 (tm 16) (tm 66))] [kp [1, 2, 4, 7, 8, 9, 10, 11, 12, 13, 14, 16, 39, 40, 44, 45, 46] [4, 9, 16, 38, 89, 141, 96009, 96014]]) (.seq (.reg [od 67 (fa 0 15), od 68 (ld 1 67), od 69 (.bin .eql (tm 68) (ku 14))] [kp [1, 2, 4,
 7, 8, 9, 10, 11, 12, 13, 14, 15, 16, 39, 40, 44, 45, 46, 69] [4, 9, 15, 16, 38, 89, 141, 96009, 96014]]) (.cond (tm 69) (.reg [om 70 11, om 71 13, od 72 (.bin .sub (tm 71) (ki 1)), od 73 (fa 1 15), od 74 (ld 1 73), od 75 (.callv
 (tm 70) [(tm 72), (tm 74)]), od 76 (.build [(1, (ku 3)), (1, (tm 75)), (1, (ki 0)), (1, (ki 0))]), on (.store 4 (tm 16) (tm 76))] [kp [1, 2, 4, 7, 8, 9, 10, 11, 12, 13, 14, 16, 39, 40, 44, 45, 46] [4, 9, 16, 38, 89, 141, 96009,
 96014]]) .skip)))) (.seq (.reg [om 77 12, om 78 13, om 79 12, om 80 13, od 81 (ia 1 79 80), od 82 (.ldR 38 1 false (tm 81)), om 83 13, od 84 (.ldT 1 false (tm 7)), od 85 (.bin .mul (tm 83) (tm 84)), om 86 14, od 87 (.bin .add (tm
 85) (tm 86)), od 88 (.bsl true 3 1 [(tm 87)]), od 89 (.app false 3 1 (tm 82) (tm 88)), od 90 (ia 1 77 78), on (.stR 38 1 (tm 90) (tm 89))] [kp [1, 2, 4, 7, 8, 9, 10, 11, 12, 13, 14, 16, 39, 40, 44, 45, 46] [4, 9, 16, 38, 89, 141,
 96009, 96014]]) (.reg [om 91 10, od 92 (lG 4 16), om 93 13, om 94 14, od 95 (.callT 63 [(tm 93), (tm 94)]), od 96 (.hcallv (tm 91) [(tm 92), (tm 95)] [9, 141, 96009, 96014] 196000)] [.ren 196009 96009, .ren 196014 96014, kp [1, 2,
 4, 7, 8, 9, 10, 11, 12, 13, 39, 40, 44, 45, 46] [4, 9, 38, 89, 141, 96009, 96014]])))))) (.reg [od 97 (.bin .add (tm 46) (ki 1)), om 46 97] [kp [1, 2, 4, 7, 8, 9, 10, 11, 12, 13, 39, 40, 44, 45, 46] [4, 9, 38, 89, 141, 96009,
 96014]])))) [kp [1, 2, 4, 7, 8, 9, 10, 11, 12, 13, 39, 40, 44, 45, 46] [4, 9, 38, 89, 141, 96009, 96014]]
def Lq : IC := .loop q1R
abbrev q1S : IC := .gh (.seq (.reg [od 41 (.bin .lss (tm 40) (tm 39))] [kp [1, 2, 4, 7, 8, 9, 10, 11, 12, 39, 40, 41] [4, 9, 38, 89, 141, 96009, 96014]]) (.seq (.cond (tm 41) .skip (.exit 0)) (.seq (.block 1 (.seq (.reg [om 42 40, om 13 42] [.nlbS 38
 13 89 3 1, kp [1, 2, 4, 7, 8, 9, 10, 11, 12, 13, 39, 40] [4, 9, 38, 89, 141, 96009, 96014]]) (.seq (.seq (.reg [od 43 (fa 0 2), od 44 (ld 1 43), od 45 (le 0 44), od 46 (.mv (ki 0))] [kp [1, 2, 4, 7, 8, 9, 10, 11, 12, 13, 39, 40,
 44, 45, 46] [4, 9, 38, 89, 141, 96009, 96014]]) (.gh (.block 2 Lq) [.frz 89])) (.reg [om 98 12, om 99 13, om 100 12, om 101 13, od 102 (ia 1 100 101), od 103 (ld 1 102), od 104 (.call 62 [(tm 103)]), od 105 (ia 1 98
 99), on (.store 1 (tm 105) (tm 104))] [kp [1, 2, 4, 7, 8, 9, 10, 11, 12, 39, 40] [4, 9, 38, 89, 141, 96009, 96014]])))) (.reg [od 106 (.bin .add (tm 40) (ki 1)), om 40 106] [kp [1, 2, 4, 7, 8, 9, 10, 11, 12, 39, 40] [4, 9, 38, 89,
 141, 96009, 96014]])))) [kp [1, 2, 4, 7, 8, 9, 10, 11, 12, 39, 40] [4, 9, 38, 89, 141, 96009, 96014]]
def Lr : IC := .loop q1S
abbrev q1T : IC := .gh (.seq (.reg [od 110 (.bin .lss (tm 109) (tm 108))] [kp [1, 2, 4, 7, 8, 9, 10, 11, 12, 107, 108, 109, 110] [4, 9, 38, 89, 141, 96009, 96014]]) (.seq (.cond (tm 110) .skip (.exit 4)) (.seq (.block 5 (.seq (.reg [od 111 (ia 1 107
 109), od 112 (ld 1 111), om 18 112] [kp [1, 2, 4, 7, 8, 9, 10, 11, 12, 18, 107, 108, 109] [4, 9, 38, 89, 141, 96009, 96014]]) (.reg [om 113 10, om 114 11, om 115 1, od 116 (.bin .sub (tm 115) (ki 1)), od 117 (fa 0 2), od 118 (ld 1
 117), om 119 18, od 120 (ia 4 118 119), od 121 (fa 1 120), od 122 (ld 1 121), od 123 (.callv (tm 114) [(tm 116), (tm 122)]), od 124 (.build [(1, (ku 3)), (1, (tm 123)), (1, (ki 0)), (1, (ki 0))]), om 125 1, om 126 18, od 127 (.call
 63 [(tm 125), (tm 126)]), od 128 (.hcallv (tm 113) [(tm 124), (tm 127)] [9, 141, 96009, 96014] 228000)] [.ren 228009 96009, .ren 228014 96014, kp [1, 2, 4, 7, 8, 9, 10, 11, 12, 107, 108, 109] [4, 9, 38, 89, 141, 96009, 96014]])))
 (.reg [od 129 (.bin .add (tm 109) (ki 1)), om 109 129] [kp [1, 2, 4, 7, 8, 9, 10, 11, 12, 107, 108, 109] [4, 9, 38, 89, 141, 96009, 96014]])))) [kp [1, 2, 4, 7, 8, 9, 10, 11, 12, 107, 108, 109] [4, 9, 38, 89, 141, 96009, 96014]]
def Ls : IC := .loop q1T
abbrev q1U : IC := .gh (.seq (.reg [od 146 (.bin .lss (tm 145) (tm 144))] [kp [1, 2, 4, 7, 8, 9, 11, 12, 19, 130, 131, 143, 144, 145, 146] [4, 9, 38, 89, 141, 96009, 96014]]) (.seq (.cond (tm 146) .skip (.exit 8)) (.seq (.block 9 (.seq (.reg [om 147
 145, od 148 (ia 1 143 145), od 149 (.ldT 1 false (tm 148)), om 20 147, om 21 149] [kp [1, 2, 4, 7, 8, 9, 11, 12, 19, 20, 21, 130, 131, 143, 144, 145] [4, 9, 38, 89, 141, 96009, 96014]]) (.seq (.reg [om 150 19, od 151 (.bin .add (tm
 150) (ki 1)), od 152 (ld 1 7), od 153 (.bin .mul (tm 151) (tm 152)), om 154 21, od 155 (.bin .add (tm 153) (tm 154)), om 22 155] [kp [1, 2, 4, 7, 8, 9, 11, 12, 19, 20, 22, 130, 131, 143, 144, 145] [4, 9, 38, 89, 141, 96009,
 96014]]) (.seq (.seq (.reg [om 156 19, om 157 1, od 158 (.bin .sub (tm 157) (ki 1)), od 159 (.bin .eql (tm 156) (tm 158))] [kp [1, 2, 4, 7, 8, 9, 11, 12, 19, 20, 22, 130, 131, 143, 144, 145, 159] [4, 9, 38, 89, 141, 96009, 96014]])
 (.cond (tm 159) (.reg [om 160 1, od 161 (.ldT 1 false (tm 7)), od 162 (.bin .mul (tm 160) (tm 161)), om 163 20, od 164 (.bin .add (tm 162) (tm 163)), om 22 164] [kp [1, 2, 4, 7, 8, 9, 11, 12, 19, 22, 130, 131, 143, 144, 145] [4, 9,
 38, 89, 141, 96009, 96014]]) .skip)) (.reg [od 165 (fa 3 9), od 166 (ld 1 165), om 167 22, od 168 (.bsl true 3 1 [(tm 167)]), oz 169 (.app false 3 1 (tm 166) (tm 168)) 141, od 170 (fa 3 9), on (.store 1 (tm 170) (tm 169))] [kp [1,
 2, 4, 7, 8, 9, 11, 12, 19, 130, 131, 143, 144, 145] [4, 9, 38, 89, 141, 96009, 96014]]))))) (.reg [od 171 (.bin .add (tm 145) (ki 1)), om 145 171] [kp [1, 2, 4, 7, 8, 9, 11, 12, 19, 130, 131, 143, 144, 145] [4, 9, 38, 89, 141,
 96009, 96014]])))) [kp [1, 2, 4, 7, 8, 9, 11, 12, 19, 130, 131, 143, 144, 145] [4, 9, 38, 89, 141, 96009, 96014]]
def Lt : IC := .loop q1U
abbrev q1V : IC := .gh (.seq (.reg [od 132 (.bin .lss (tm 131) (tm 130))] [kp [1, 2, 4, 7, 8, 9, 11, 12, 130, 131, 132] [4, 9, 38, 89, 141, 96009, 96014]]) (.seq (.cond (tm 132) .skip (.exit 6)) (.seq (.block 7 (.seq (.reg [om 133 131, om 19 133] [kp
 [1, 2, 4, 7, 8, 9, 11, 12, 19, 130, 131] [4, 9, 38, 89, 141, 96009, 96014]]) (.seq (.reg [od 134 (fa 3 9), od 135 (.ldR 9 1 false (tm 134)), om 136 11, om 137 19, od 138 (fa 3 2), od 139 (.ldT 1 false (tm 138)), od 140 (.callv (tm
 136) [(tm 137), (tm 139)]), od 141 (.app false 3 1 (tm 135) (tm 140)), od 142 (fa 3 9), on (.stR 9 1 (tm 142) (tm 141))] [kp [1, 2, 4, 7, 8, 9, 11, 12, 19, 130, 131] [4, 9, 38, 89, 141, 96009, 96014]]) (.seq (.reg [om 143 8, od 144
 (le 0 143), od 145 (.mv (ki 0))] [kp [1, 2, 4, 7, 8, 9, 11, 12, 19, 130, 131, 143, 144, 145] [4, 9, 38, 89, 141, 96009, 96014]]) (.block 8 Lt))))) (.reg [od 172 (.bin .add (tm 131) (ki 1)), om 131 172] [kp [1, 2, 4,
 7, 8, 9, 11, 12, 130, 131] [4, 9, 38, 89, 141, 96009, 96014]])))) [kp [1, 2, 4, 7, 8, 9, 11, 12, 130, 131] [4, 9, 38, 89, 141, 96009, 96014]]
def Lu : IC := .loop q1V
abbrev q1W : IC := (.seq (.reg [od 2 (.box true (tm 0)), od 4 (.alloc false [(.slice none 0 0), (.slice none 0 0), (.slice none 0 0), (.slice none 0 0), (.slice none 0 0)]), od 5 (.mv (ki 0))] [kp [1, 2, 4] [4, 38, 89, 141, 96009, 96014]]) (.seq
 (.seq (.reg [od 23 (lG 4 2), om 24 1, od 25 (.call 59 [(tm 23), (tm 24)]), om 6 25] [kp [1, 2, 4, 6] [4, 38, 89, 141, 96009, 96014]]) (.seq (.reg [om 26 6, od 27 (.bin .neq (tm 26) (ki 0))] [kp [1, 2, 4, 6, 27] [4, 38, 89, 141,
 96009, 96014]]) (.cond (tm 27) (.seq (.reg [od 28 (.build [(4, (.const (.agg #[(.slice none 0 0), (.slice none 0 0), (.slice none 0 0), (.slice none 0 0)]))), (1, kN)]), om 29 6, on (.store 5 (tm 4) (tm 28)), om 5 29] [kp [4, 5]
 [4, 38, 89, 141, 96009, 96014]]) .ret) .skip))) (.seq (.reg [od 30 (fa 0 2), od 31 (.ldT 1 false (tm 30)), od 32 (le 0 31), od 33 (.ldT 4 true (tm 2)), od 34 (.callT 19 [(tm 33)]), od 7 (.alloc false [(.int .i64 0)]), on (.stR 7 1
 (tm 7) (tm 32)), om 8 34] [.frz 7, kp [1, 2, 4, 7, 8] [4, 38, 89, 141, 96009, 96014]]) (.seq (.reg [od 9 (.alloc false [(.slice none 0 0), (.slice none 0 0), (.slice none 0 0), (.slice none 0 0)])] [.nlb 9 0 96009 73 4, .nlb 9 1
 96014 9 1, kp [1, 2, 4, 7, 8, 9] [4, 9, 38, 89, 141, 96009, 96014]]) (.seq (.reg [od 35 (.mkf 60 [(tm 9)]), om 10 35] [kp [1, 2, 4, 7, 8, 9, 10] [4, 9, 38, 89, 141, 96009, 96014]]) (.seq (.reg [od 36 (.mkf 61 [(tm 7)]), om 11 36]
 [kp [1, 2, 4, 7, 8, 9, 10, 11] [4, 9, 38, 89, 141, 96009, 96014]]) (.seq (.reg [om 37 1, od 38 (.mkB 37 [(.slice none 0 0)] (tm 37) (tm 37)), om 12 38] [kp [1, 2, 4, 7, 8, 9, 10, 11, 12] [4, 9, 38, 89, 141, 96009, 96014]]) (.seq
 (.seq (.reg [om 39 1, od 40 (.mv (ki 0))] [kp [1, 2, 4, 7, 8, 9, 10, 11, 12, 39, 40] [4, 9, 38, 89, 141, 96009, 96014]]) (.block 0 Lr)) (.seq (.seq (.reg [om 107 8, od 108 (le 0 107), od 109 (.mv (ki 0))] [kp [1, 2,
 4, 7, 8, 9, 10, 11, 12, 107, 108, 109] [4, 9, 38, 89, 141, 96009, 96014]]) (.block 4 Ls)) (.seq (.seq (.reg [om 130 1, od 131 (.mv (ki 0))] [.nlb 9 3 141 3 1, kp [1, 2, 4, 7, 8, 9, 11, 12, 130, 131] [4, 9, 38, 89,
 141, 96009, 96014]]) (.gh (.block 6 Lu) [.frz 96009, .frz 96014, .frz 141])) (.seq (.reg [od 173 (fa 0 9), od 174 (.ldR 9 1 false (tm 173)), od 175 (.callT 64 [(tm 174)]), od 176 (fa 1 9), od 177 (.ldR 9 1 false (tm
 176)), od 178 (.callT 65 [(tm 177)]), od 179 (fa 3 9), od 180 (.ldR 9 1 false (tm 179)), od 181 (.callT 62 [(tm 180)]), od 182 (fa 0 9), on (.stR 9 1 (tm 182) (tm 175)), od 183 (fa 1 9), on (.stR 9 1 (tm 183) (tm 178)), od 184 (fa
 3 9), on (.stR 9 1 (tm 184) (tm 181))] [kp [4, 9, 12] [4, 9, 38, 89, 141, 96009, 96014]]) (.seq (.reg [od 185 (lG 4 9), om 186 12, od 187 (.build [(4, (tm 185)), (1, (tm 186))]), on (.store 5 (tm 4) (tm 187)), od 5 (.mv (ki 0))]
 [kp [4, 5] [4, 38, 89, 141, 96009, 96014]]) .ret))))))))))))
theorem V5 (h : ∀ K : St → Prop, K = run P Γ Lq Q → run P Γ q1R (Am K Q) s) : run P Γ Lq Q s := Ae h
theorem V6 (h : ∀ K : St → Prop, K = run P Γ Lr Q → run P Γ q1S (Am K Q) s) : run P Γ Lr Q s := Ae h
theorem V7 (h : ∀ K : St → Prop, K = run P Γ Ls Q → run P Γ q1T (Am K Q) s) : run P Γ Ls Q s := Ae h
theorem V8 (h : ∀ K : St → Prop, K = run P Γ Lt Q → run P Γ q1U (Am K Q) s) : run P Γ Lt Q s := Ae h
theorem V9 (h : ∀ K : St → Prop, K = run P Γ Lu Q → run P Γ q1V (Am K Q) s) : run P Γ Lu Q s := Ae h
def q1X : List RV := [.cell 4 5 true, .tmp 5]
/- probecard/cycles.Unroll$1 (function 60) -/
abbrev Ys : IC := (.seq (.reg [od 3 (.box true (tm 0))] [kp [1, 2, 3] [9, 14, 1000000, 1000001, 1000002, 1000003]]) (.reg [od 5 (fa 0 2), od 6 (.ldR 1000000 1 false (tm 5)), od 7 (.ldT 4 true (tm 3)), od 8 (.bsl true 73 4 [(tm 7)]), od 9 (.app false
 73 4 (tm 6) (tm 8)), od 10 (fa 1 2), od 11 (.ldR 1000000 1 false (tm 10)), om 12 1, od 13 (.bsl true 9 1 [(tm 12)]), od 14 (.app false 9 1 (tm 11) (tm 13)), od 15 (fa 0 2), on (.stR 1000000 1 (tm 15) (tm 9)), od 16 (fa 1 2), on
 (.stR 1000000 1 (tm 16) (tm 14))] [kp [] [9, 14, 1000000, 1000001, 1000002, 1000003]]))
def Yt : List RV := []
/- probecard/cycles.Unroll$2 (function 61) -/
abbrev Yu : IC := .gh (.seq (.reg [od 12 (.bin .lss (tm 11) (tm 10))] [kp [0, 2, 6, 9, 10, 11, 12] [22]]) (.seq (.cond (tm 12) .skip (.exit 0)) (.seq (.block 1 (.seq (.reg [od 13 (ia 1 9 11), od 14 (ld 1 13), om 8 14] [kp [0, 2, 6, 8, 9, 10, 11]
 [22]]) (.reg [om 15 6, om 16 0, od 17 (ld 1 2), od 18 (.bin .mul (tm 16) (tm 17)), om 19 8, od 20 (.bin .add (tm 18) (tm 19)), od 21 (.bsl true 3 1 [(tm 20)]), od 22 (.app false 3 1 (tm 15) (tm 21)), om 6 22] [kp [0, 2, 6, 9, 10,
 11] [22]]))) (.reg [od 23 (.bin .add (tm 11) (ki 1)), om 11 23] [kp [0, 2, 6, 9, 10, 11] [22]])))) [kp [0, 2, 6, 9, 10, 11] [22]]
def Iz : IC := .loop Yu
abbrev Yv : IC := (.seq (.reg [od 5 (.mv kN)] [kp [0, 1, 2] []]) (.seq (.reg [od 6 (.mv kN)] [.nl 6 22 3 1, kp [0, 1, 2, 6] [22]]) (.seq (.seq (.reg [om 9 1, od 10 (le 0 9), od 11 (.mv (ki 0))] [kp [0, 2, 6, 9, 10, 11] [22]]) (.gh (.block 0
 Iz) [.frz 22])) (.seq (.reg [om 24 6, od 25 (.call 62 [(tm 24)]), om 5 25] [kp [5] []]) .ret))))
theorem Qo (h : ∀ K : St → Prop, K = run P Γ Iz Q → run P Γ Yu (Am K Q) s) : run P Γ Iz Q s := Ae h
def Yw : List RV := [.tmp 5]
/- probecard/cycles.Pattern (function 31) -/
abbrev q0L : IC := .gh (.seq (.reg [od 57 (.bin .lss (tm 56) (tm 55))] [kp [1, 2, 6, 12, 13, 14, 54, 55, 56, 57] [6, 72]]) (.seq (.cond (tm 57) .skip (.exit 1)) (.seq (.block 2 (.seq (.reg [od 58 (ia 4 54 56), od 59 (lG 4 58), od 16 (.alloc false
 [(.int .u8 0), (.slice none 0 0), (.int .i64 0), (.int .i64 0)]), on (.store 4 (tm 16) (tm 59))] [kp [1, 2, 6, 12, 13, 14, 16, 54, 55, 56] [6, 16, 72]]) (.seq (.reg [od 60 (fa 0 16), od 61 (ld 1 60)] [kp [1, 2, 6, 12, 13, 14, 54,
 55, 56, 61] [6, 72]]) (.block 3 (.seq (.reg [od 63 (.bin .eql (tm 61) (ku 0)), om 62 63] [kp [1, 2, 6, 12, 13, 14, 54, 55, 56, 61, 62] [6, 72]]) (.cond (tm 62) (.seq (.reg [om 64 12, om 65 2, od 66 (.iadr 1 (tm 65) (ki 0)), od 67
 (ld 1 66), om 68 13, od 69 (ia 1 67 68), od 70 (ld 1 69), od 71 (.bsl true 61 1 [(tm 70)]), od 72 (.app false 61 1 (tm 64) (tm 71)), om 12 72] [kp [1, 2, 6, 12, 13, 14, 54, 55, 56] [6, 72]]) (.reg [om 73 13, od 74 (.bin .add (tm
 73) (ki 1)), om 13 74] [kp [1, 2, 6, 12, 13, 14, 54, 55, 56] [6, 72]])) (.seq (.reg [od 76 (.bin .eql (tm 61) (ku 14)), om 75 76] [kp [1, 2, 6, 12, 13, 14, 54, 55, 56, 75] [6, 72]]) (.cond (tm 75) (.seq (.reg [om 77 12, om 78 1, om
 79 14, od 80 (ia 1 78 79), od 81 (ld 1 80), od 82 (.bsl true 61 1 [(tm 81)]), oz 83 (.app false 61 1 (tm 77) (tm 82)) 72, om 12 83] [kp [1, 2, 6, 12, 13, 14, 54, 55, 56] [6, 72]]) (.reg [om 84 14, od 85 (.bin .add (tm 84) (ki 1)),
 om 14 85] [kp [1, 2, 6, 12, 13, 14, 54, 55, 56] [6, 72]])) .skip)))))))) (.reg [od 86 (.bin .add (tm 56) (ki 1)), om 56 86] [kp [1, 2, 6, 12, 13, 14, 54, 55, 56] [6, 72]])))) [kp [1, 2, 6, 12, 13, 14, 54, 55, 56] [6, 72]]
def K7 : IC := .loop q0L
abbrev q0M : IC := .gh (.seq (.reg [od 91 (.bin .lss (tm 90) (tm 89))] [kp [6, 12, 88, 89, 90, 91] [6, 72]]) (.seq (.cond (tm 91) .skip (.exit 4)) (.seq (.block 5 (.seq (.reg [od 92 (ia 1 88 90), od 93 (ld 1 92), om 18 93] [kp [6, 12, 18, 88, 89, 90]
 [6, 72]]) (.reg [om 94 12, om 95 18, oz 96 (.app false 61 1 (tm 94) (tm 95)) 72, om 12 96] [kp [6, 12, 88, 89, 90] [6, 72]]))) (.reg [od 97 (.bin .add (tm 90) (ki 1)), om 90 97] [kp [6, 12, 88, 89, 90] [6, 72]])))) [kp [6, 12, 88,
 89, 90] [6, 72]]
def K8 : IC := .loop q0M
abbrev q0N : IC := (.seq (.reg [od 3 (.box true (tm 0)), od 6 (.alloc false [(.slice none 0 0), (.slice none 0 0)]), od 7 (.mv (ki 0))] [kp [1, 2, 3, 6] [6]]) (.seq (.seq (.reg [od 19 (lG 4 3), om 20 2, od 21 (le 0 20), od 22 (.call 59 [(tm 19), (tm
 21)]), om 8 22] [kp [1, 2, 3, 6, 8] [6]]) (.seq (.reg [om 23 8, od 24 (.bin .neq (tm 23) (ki 0))] [kp [1, 2, 3, 6, 8, 24] [6]]) (.cond (tm 24) (.seq (.reg [od 25 (.build [(1, kN), (1, kN)]), om 26 8, on (.store 2 (tm 6) (tm 25)),
 om 7 26] [kp [6, 7] [6]]) .ret) .skip))) (.seq (.reg [od 27 (lG 4 3), od 28 (.call 77 [(tm 27)]), od 29 (le 0 28), od 9 (.alloc false [(.int .i64 0)]), on (.store 1 (tm 9) (tm 29))] [.frz 9, kp [1, 2, 3, 6, 9] [6]]) (.seq (.reg [od
 30 (.mkf 78 [(tm 9)]), om 10 30] [kp [1, 2, 3, 6, 10] [6]]) (.seq (.reg [od 11 (.mv (.func 79))] [kp [1, 2, 3, 6, 10, 11] [6]]) (.seq (.block 0 (.seq (.reg [om 32 1, od 33 (le 0 32), od 34 (lG 4 3), od 35 (.call 19 [(tm 34)]), od
 36 (le 0 35), od 37 (.bin .neq (tm 33) (tm 36)), om 38 37, oF 39 (.mv (tm 2)) 38, oF 40 (.mv (tm 10)) 38, oF 41 (.call 82 [(tm 39), (tm 40)]) 38, od 42 (.pick (tm 38) kT (tm 41)), om 31 42] [kp [1, 2, 3, 6, 11, 31] [6]]) (.cond (tm
 31) (.seq (.reg [od 43 (.build [(1, kN), (1, kN)]), on (.store 2 (tm 6) (tm 43)), od 7 (.mv (ki 8))] [kp [6, 7] [6]]) .ret) (.seq (.reg [om 45 2, om 46 11, od 47 (.call 82 [(tm 45), (tm 46)]), om 48 47, oF 49 (.mv (tm 1)) 48, oF 50
 (.call 80 [(tm 49), (.func 83)]) 48, od 51 (.pick (tm 48) kT (tm 50)), om 44 51] [kp [1, 2, 3, 6, 44] [6]]) (.cond (tm 44) (.seq (.reg [od 52 (.build [(1, kN), (1, kN)]), on (.store 2 (tm 6) (tm 52)), od 7 (.mv (ki 1))] [kp [6, 7]
 [6]]) .ret) .skip))))) (.seq (.reg [od 12 (.mv kN)] [.nl 12 72 61 1, kp [1, 2, 3, 6, 12] [6, 72]]) (.seq (.reg [od 13 (.mv (ki 0)), od 14 (.mv (ki 0))] [kp [1, 2, 3, 6, 12, 13, 14] [6, 72]]) (.seq (.seq (.reg [od 53 (fa 0 3), od 54
 (ld 1 53), od 55 (le 0 54), od 56 (.mv (ki 0))] [kp [1, 2, 6, 12, 13, 14, 54, 55, 56] [6, 72]]) (.block 1 K7)) (.seq (.seq (.reg [om 87 2, od 88 (.slice 1 (tm 87) (some (ki 1)) none none), od 89 (le 0 88), od 90 (.mv
 (ki 0))] [kp [6, 12, 88, 89, 90] [6, 72]]) (.gh (.block 4 K8) [.frz 72])) (.seq (.reg [om 98 12, od 99 (.call 43 [(tm 98)]), od 100 (.build [(1, (tm 99)), (1, kN)]), on (.store 2 (tm 6) (tm 100)), od 7 (.mv (ki 0))]
 [kp [6, 7] [6]]) .ret)))))))))))
theorem Rz (h : ∀ K : St → Prop, K = run P Γ K7 Q → run P Γ q0L (Am K Q) s) : run P Γ K7 Q s := Ae h
theorem S0 (h : ∀ K : St → Prop, K = run P Γ K8 Q → run P Γ q0M (Am K Q) s) : run P Γ K8 Q s := Ae h
def q0O : List RV := [.cell 6 2 true, .tmp 7]
/- probecard/cycles.Pattern$1 (function 78) -/
abbrev Wp : IC := (.seq (.reg [od 3 (.mv kF)] [kp [0, 1] []]) (.seq (.reg [om 4 0, od 5 (le 0 4), od 6 (ld 1 1), od 7 (.bin .neq (tm 5) (tm 6)), om 3 7] [kp [3] []]) .ret))
def Wq : List RV := [.tmp 3]
/- probecard/cycles.Pattern$2 (function 79) -/
abbrev Ws : IC := (.seq (.reg [od 2 (.mv kF)] [kp [0] []]) (.seq (.reg [om 3 0, od 4 (.call 80 [(tm 3), (.func 81)]), om 2 4] [kp [2] []]) .ret))
def Wt : List RV := [.tmp 2]
/- probecard/cycles.Pattern$2$1 (function 81) -/
abbrev S1 : IC := (.seq (.reg [od 2 (.mv kF)] [kp [0] []]) (.seq (.reg [om 3 0, od 4 (.bin .gtr (tm 3) (ku 3)), om 2 4] [kp [2] []]) .ret))
def S3 : List RV := [.tmp 2]
/- probecard/cycles.Pattern$3 (function 83) -/
abbrev Wu : IC := (.seq (.reg [od 2 (.mv kF)] [kp [0] []]) (.seq (.reg [om 3 0, od 4 (.bin .gtr (tm 3) (ku 2)), om 2 4] [kp [2] []]) .ret))
def Wv : List RV := [.tmp 2]
/- probecard/cycles.Split (function 32) -/
abbrev q0P : IC := .gh (.seq (.reg [od 28 (.bin .lss (tm 27) (tm 26))] [kp [7, 9, 25, 26, 27, 28] [7, 41]]) (.seq (.cond (tm 28) .skip (.exit 0)) (.seq (.block 1 (.seq (.reg [om 29 27, od 30 (ia 1 25 27), od 31 (ld 1 30), om 10 29, om 11 31] [kp [7,
 9, 10, 11, 25, 26, 27] [7, 41]]) (.seq (.reg [od 32 (fa 0 7), od 33 (ld 1 32), om 34 10, od 35 (ia 1 33 34), od 36 (ld 1 35), od 37 (.call 16 [(tm 36)])] [kp [7, 9, 11, 25, 26, 27, 37] [7, 41]]) (.cond (tm 37) (.reg [om 38 9, om 39
 11, od 40 (.bsl true 3 1 [(tm 39)]), od 41 (.app false 3 1 (tm 38) (tm 40)), om 9 41] [kp [7, 9, 25, 26, 27] [7, 41]]) .skip)))) (.reg [od 42 (.bin .add (tm 27) (ki 1)), om 27 42] [kp [7, 9, 25, 26, 27] [7, 41]])))) [kp [7, 9, 25,
 26, 27] [7, 41]]
def K9 : IC := .loop q0P
abbrev q0Q : IC := (.seq (.reg [od 2 (.box true (tm 0)), od 4 (.mv kN), od 5 (.mv (ki 0))] [kp [1, 2] []]) (.seq (.reg [od 13 (.ldT 4 true (tm 2)), od 14 (.ldT 4 true (tm 2)), od 15 (.callT 29 [(tm 14)]), om 16 1, od 17 (.callT 25 [(tm 13), (tm 15),
 (tm 16)]), om 12 17, od 18 (ex 12 0), od 19 (ex 12 1), od 20 (ex 12 2), od 7 (.alloc false [(.slice none 0 0), (.slice none 0 0), (.slice none 0 0)]), om 6 18, on (.stR 7 3 (tm 7) (tm 19)), om 8 20] [kp [2, 7, 8] [7]]) (.seq (.seq
 (.reg [om 21 8, od 22 (.bin .neq (tm 21) (ki 0))] [kp [2, 7, 8, 22] [7]]) (.cond (tm 22) (.seq (.reg [om 23 8, od 4 (.mv kN), om 5 23] [kp [4, 5] []]) .ret) .skip)) (.seq (.reg [od 9 (.mv kN)] [.nl 9 41 3 1, kp [2, 7, 9] [7, 41]])
 (.seq (.seq (.reg [od 24 (lG 4 2), od 25 (.call 19 [(tm 24)]), od 26 (le 0 25), od 27 (.mv (ki 0))] [kp [7, 9, 25, 26, 27] [7, 41]]) (.gh (.block 0 K9) [.frz 41])) (.seq (.reg [om 43 9, od 44 (.call 62 [(tm 43)]), om
 4 44, od 5 (.mv (ki 0))] [kp [4, 5] []]) .ret))))))
theorem S4 (h : ∀ K : St → Prop, K = run P Γ K9 Q → run P Γ q0P (Am K Q) s) : run P Γ K9 Q s := Ae h
def q0R : List RV := [.tmp 4, .tmp 5]
/- probecard/probecardlaw10.example (function 69) -/
abbrev q1Y : IC := (.seq (.reg [od 0 (.alloc false [(.slice none 0 0), (.slice none 0 0), (.slice none 0 0), (.slice none 0 0)])] [kp [0] [0, 6]]) (.seq (.reg [od 1 (.build [(1, (ku 0)), (1, kN), (1, (ki 0)), (1, (ki 0))]), od 2 (.bsl true 3 1 [(ki
 2)]), od 3 (.build [(1, (ku 14)), (1, (tm 2)), (1, (ki 0)), (1, (ki 0))]), od 4 (.bsl true 3 1 [(ki 0), (ki 1)]), od 5 (.build [(1, (ku 9)), (1, (tm 4)), (1, (ki 0)), (1, (ki 0))]), od 6 (.bsl false 73 4 [(tm 1), (tm 3), (tm 5)]),
 od 7 (.bsl true 9 1 [(.const (sV [97])), (.const (sV [113])), (.const (sV [120]))]), od 8 (.bsl true 3 1 [(ki 2)]), od 9 (.build [(1, (tm 6)), (1, (tm 7)), (1, kN), (1, (tm 8))]), on (.store 4 (tm 0) (tm 9))] [kp [0] [0, 6]])
 .ret))
def q1Z : List RV := [.cell 0 4 true]
/- probecard/probecardlaw10.lives (function 23) -/
abbrev Yx : IC := (.reg [od 0 (.mv kF)] [kp [] []])
abbrev Yy : IC := (.reg [od 21 (.ncall 69 [] 21000), od 1 (.alloc false [(.slice none 0 0), (.slice none 0 0), (.slice none 0 0), (.slice none 0 0)]), on (.store 4 (tm 1) (tm 21))] [kp [1] [1, 21006]])
abbrev Yz : IC := (.reg [od 22 (.bsl true 61 1 [(ku 1)]), od 23 (.bsl true 61 1 [(ku 0)]), om 2 22, om 3 23] [kp [1, 2, 3] [1, 21006]])
abbrev q2S : IC := (.reg [od 161 (lG 4 1), om 162 3, od 163 (.bsl true 41 1 [(tm 162)]), od 164 (.call 28 [(tm 161), (tm 163)]), om 160 164, od 165 (ex 160 0), od 166 (ex 160 1), om 19 165, om 20 166] [kp [7, 11, 12, 17, 18, 19, 20] [7]])
abbrev q2T : IC := (.reg [om 167 11, od 168 (.bin .eql (tm 167) (.const (sV [49, 48, 48]))), om 169 168, oT 170 (.mv (tm 12)) 169, oT 171 (.bin .eql (tm 170) (.const (sV [49, 48, 48]))) 169, od 172 (.pick (tm 169) (tm 171) kF), om 173 172, oT 174 (fa
 0 7) 173, oT 175 (fa 3 174) 173, oT 176 (ld 1 175) 173, oT 177 (.bsl true 3 1 [(ki 2), (ki 4), (ki 5), (ki 6)]) 173, oT 178 (.call 21 [(tm 176), (tm 177)]) 173, oT 179 (.bin .eql (tm 178) (ki 0)) 173, od 180 (.pick (tm 173) (tm
 179) kF), om 181 180, oT 182 (.mv (tm 18)) 181, oT 183 (.bin .eql (tm 182) (ki 0)) 181, od 184 (.pick (tm 181) (tm 183) kF), om 185 184, oT 186 (.mv (tm 20)) 185, oT 187 (.bin .eql (tm 186) (ki 0)) 185, od 188 (.pick (tm 185) (tm
 187) kF), om 189 188, oT 190 (.mv (tm 17)) 189, oT 191 (le 0 190) 189, oT 192 (.bin .eql (tm 191) (ki 0)) 189, od 193 (.pick (tm 189) (tm 192) kF), om 194 193, oT 195 (.mv (tm 19)) 194, oT 196 (.bsl true 3 1 [(ki 1)]) 194, oT 197
 (.call 21 [(tm 195), (tm 196)]) 194, oT 198 (.bin .eql (tm 197) (ki 0)) 194, od 199 (.pick (tm 194) (tm 198) kF), om 0 199] [kp [0] []])
def Z0 : List RV := [.tmp 0]
/- probecard/probecardlaw10.lives (function 23) -/
abbrev q2U : IC := .gh (.seq (.seq (.reg [om 97 13, od 98 (.bin .lss (tm 97) (ki 3))] [kp [1, 2, 3, 4, 7, 11, 12, 13, 98] [1, 7, 21006, 1000000]]) (.cond (tm 98) .skip (.exit 0))) (.seq (.block 1 (.seq (.reg [om 101 11, om 102 4, om 103 13, od 104
 (ia 2 102 103), od 105 (fa 0 104), od 106 (ld 1 105), od 107 (.call 57 [(tm 106)]), od 108 (.bin .add (tm 101) (tm 107)), om 11 108] [kp [1, 2, 3, 4, 7, 11, 12, 13] [1, 7, 21006, 1000000]]) (.reg [om 109 12, om 110 4, om 111 13, od
 112 (ia 2 110 111), od 113 (fa 1 112), od 114 (ld 1 113), od 115 (.call 57 [(tm 114)]), od 116 (.bin .add (tm 109) (tm 115)), om 12 116] [kp [1, 2, 3, 4, 7, 11, 12, 13] [1, 7, 21006, 1000000]]))) (.reg [om 99 13, od 100 (.bin .add
 (tm 99) (ki 1)), om 13 100] [kp [1, 2, 3, 4, 7, 11, 12, 13] [1, 7, 21006, 1000000]]))) [kp [1, 2, 3, 4, 7, 11, 12, 13] [1, 7, 21006, 1000000]]
def Vs : IC := .loop q2U
abbrev q2V : IC := .gh (.seq (.seq (.reg [om 119 16, od 120 (.bin .lss (tm 119) (ki 7))] [kp [1, 2, 3, 7, 11, 12, 14, 15, 16, 120] [1, 7, 21006, 1000000]]) (.cond (tm 120) .skip (.exit 2))) (.seq (.block 3 (.seq (.reg [od 123 (fa 0 7), od 124 (fa 0
 123), od 125 (ld 1 124), om 126 16, od 127 (ia 4 125 126), od 128 (fa 0 127), od 129 (ld 1 128), om 130 14, om 131 16, od 132 (ia 1 130 131), od 133 (ld 1 132), od 134 (.bin .neq (tm 129) (tm 133)), om 135 134, oF 136 (fa 0 7) 135,
 oF 137 (fa 1 136) 135, oF 138 (ld 1 137) 135, oF 139 (.mv (tm 16)) 135, oF 140 (ia 1 138 139) 135, oF 141 (ld 1 140) 135, oF 142 (.mv (tm 15)) 135, oF 143 (.mv (tm 16)) 135, oF 144 (ia 1 142 143) 135, oF 145 (ld 1 144) 135, oF 146
 (.bin .neq (tm 141) (tm 145)) 135, od 147 (.pick (tm 135) kT (tm 146))] [kp [1, 2, 3, 7, 11, 12, 14, 15, 16, 147] [1, 7, 21006, 1000000]]) (.cond (tm 147) (.seq (.reg [od 0 (.mv kF)] [kp [0] [21006, 1000000]]) .ret) .skip))) (.reg
 [om 121 16, od 122 (.bin .add (tm 121) (ki 1)), om 16 122] [kp [1, 2, 3, 7, 11, 12, 14, 15, 16] [1, 7, 21006, 1000000]]))) [kp [1, 2, 3, 7, 11, 12, 14, 15, 16] [1, 7, 21006, 1000000]]
def Vt : IC := .loop q2V
abbrev q2W : IC := (.reg [od 25 (lG 4 1), om 26 3, od 27 (.build [(1, (tm 26)), (1, kN), (1, kN)]), om 28 2, om 29 2, om 30 3, od 31 (.bsl true 41 1 [(tm 28), (tm 29), (tm 30)]), od 32 (.call 25 [(tm 25), (tm 27), (tm 31)]), om 24 32, od 33 (ex 24
 0), od 34 (ex 24 1), od 35 (ex 24 2), od 5 (.alloc false [(.slice none 0 0), (.slice none 0 0), (.slice none 0 0)]), om 4 33, on (.store 3 (tm 5) (tm 34)), om 6 35] [kp [1, 2, 3, 4, 5, 6] [1, 5, 21006, 1000000]])
abbrev q2X : IC := (.reg [od 37 (lG 4 1), od 38 (.call 18 [(tm 37), (ki 2)]), om 36 38, od 39 (ex 36 0), od 40 (ex 36 1), od 7 (.alloc false [(.slice none 0 0), (.slice none 0 0), (.slice none 0 0), (.slice none 0 0), (.slice none 0 0)]), on (.store
 5 (tm 7) (tm 39)), om 8 40] [kp [1, 2, 3, 4, 5, 6, 7, 8] [1, 5, 7, 21006, 1000000]])
abbrev q2Y : IC := (.reg [od 42 (lG 4 1), om 43 3, om 44 2, om 45 2, od 46 (.bsl true 41 1 [(tm 44), (tm 45)]), od 47 (.call 31 [(tm 42), (tm 43), (tm 46)]), om 41 47, od 48 (ex 41 0), od 49 (ex 41 1), od 9 (.alloc false [(.slice none 0 0), (.slice
 none 0 0)]), on (.store 2 (tm 9) (tm 48)), om 10 49] [kp [1, 2, 3, 4, 5, 6, 7, 8, 9, 10] [1, 5, 7, 9, 21006, 1000000]])
abbrev q2Z : IC := (.seq (.reg [om 50 6, od 51 (.bin .neq (tm 50) (ki 0)), om 52 51, oF 53 (.mv (tm 8)) 52, oF 54 (.bin .neq (tm 53) (ki 0)) 52, od 55 (.pick (tm 52) kT (tm 54)), om 56 55, oF 57 (.mv (tm 10)) 56, oF 58 (.bin .neq (tm 57) (ki 0)) 56,
 od 59 (.pick (tm 56) kT (tm 58)), om 60 59, oF 61 (.mv (tm 4)) 60, oF 62 (le 0 61) 60, oF 63 (.bin .neq (tm 62) (ki 3)) 60, od 64 (.pick (tm 60) kT (tm 63)), om 65 64, oF 66 (fa 0 5) 65, oF 67 (ld 1 66) 65, oF 68 (.call 57 [(tm
 67)]) 65, oF 69 (.bin .neq (tm 68) (.const (sV [48]))) 65, od 70 (.pick (tm 65) kT (tm 69)), om 71 70, oF 72 (fa 0 9) 71, oF 73 (ld 1 72) 71, oF 74 (.call 57 [(tm 73)]) 71, oF 75 (.bin .neq (tm 74) (.const (sV [49, 48, 49]))) 71,
 od 76 (.pick (tm 71) kT (tm 75)), om 77 76, oF 78 (fa 1 9) 77, oF 79 (ld 1 78) 77, oF 80 (le 0 79) 77, oF 81 (.bin .neq (tm 80) (ki 0)) 77, od 82 (.pick (tm 77) kT (tm 81)), om 83 82, oF 84 (fa 0 7) 83, oF 85 (fa 0 84) 83, oF 86
 (ld 1 85) 83, oF 87 (le 0 86) 83, oF 88 (.bin .neq (tm 87) (ki 7)) 83, od 89 (.pick (tm 83) kT (tm 88)), om 90 89, oF 91 (fa 0 7) 90, oF 92 (fa 1 91) 90, oF 93 (ld 1 92) 90, oF 94 (le 0 93) 90, oF 95 (.bin .neq (tm 94) (ki 7)) 90,
 od 96 (.pick (tm 90) kT (tm 95))] [kp [1, 2, 3, 4, 7, 96] [1, 7, 21006, 1000000]]) (.cond (tm 96) (.seq (.reg [od 0 (.mv kF)] [kp [0] [21006, 1000000]]) .ret) .skip))
abbrev q2a : IC := (.reg [od 11 (.mv (.const (sV []))), od 12 (.mv (.const (sV [])))] [kp [1, 2, 3, 4, 7, 11, 12] [1, 7, 21006, 1000000]])
abbrev q2b : IC := (.seq (.reg [od 13 (.mv (ki 0))] [kp [1, 2, 3, 4, 7, 11, 12, 13] [1, 7, 21006, 1000000]]) (.block 0 Vs))
abbrev q2c : IC := (.reg [od 117 (.bsl true 71 1 [(ku 0), (ku 0), (ku 9), (ku 0), (ku 3), (ku 9), (ku 3)]), om 14 117] [kp [1, 2, 3, 7, 11, 12, 14] [1, 7, 21006, 1000000]])
abbrev q1a : IC := (.reg [od 118 (.bsl true 9 1 [(.const (sV [48, 46, 48])), (.const (sV [48, 46, 49])), (.const (sV [48, 46, 50])), (.const (sV [49, 46, 48])), (.const (sV [49, 46, 49])), (.const (sV [49, 46, 50])), (.const (sV [50, 46, 49]))]), om
 15 118] [kp [1, 2, 3, 7, 11, 12, 14, 15] [1, 7, 21006, 1000000]])
abbrev q1b : IC := (.seq (.reg [od 16 (.mv (ki 0))] [kp [1, 2, 3, 7, 11, 12, 14, 15, 16] [1, 7, 21006, 1000000]]) (.block 2 Vt))
abbrev q1c : IC := (.reg [od 149 (lG 4 1), om 150 2, om 151 2, od 152 (.bsl true 41 1 [(tm 150), (tm 151)]), od 153 (.call 28 [(tm 149), (tm 152)]), om 148 153, od 154 (ex 148 0), od 155 (ex 148 1), om 17 154, om 18 155] [kp [1, 3, 7, 11, 12, 17, 18]
 [1, 7, 21006, 1000000]])
theorem Ho (h : ∀ K : St → Prop, K = run P Γ Vs Q → run P Γ q2U (Am K Q) s) : run P Γ Vs Q s := Ae h
theorem C7 (h : ∀ K : St → Prop, K = run P Γ Vt Q → run P Γ q2V (Am K Q) s) : run P Γ Vt Q s := Ae h
abbrev q1d : IC := .gh (.seq (.seq (.reg [om 8 7, od 9 (fa 1 2), od 10 (ld 1 9), od 11 (le 0 10), od 12 (.bin .lss (tm 8) (tm 11))] [kp [2, 3, 4, 6, 7, 12] [4, 25]]) (.cond (tm 12) .skip (.exit 0))) (.seq (.block 1 (.reg [om 15 6, od 16 (fa 1 2), od
 17 (ld 1 16), om 18 7, od 19 (ia 2 17 18), od 20 (lG 2 19), od 21 (lG 4 3), od 22 (.callT 35 [(tm 20), (tm 21)]), od 23 (.fld 0 1 false (tm 22)), od 24 (.bsl true 41 1 [(tm 23)]), od 25 (.app false 41 1 (tm 15) (tm 24)), om 6 25]
 [kp [2, 3, 4, 6, 7] [4, 25]])) (.reg [om 13 7, od 14 (.bin .add (tm 13) (ki 1)), om 7 14] [kp [2, 3, 4, 6, 7] [4, 25]]))) [kp [2, 3, 4, 6, 7] [4, 25]]
def Lx : IC := .loop q1d
abbrev q1e : IC := (.seq (.reg [od 2 (.box true (tm 0)), od 3 (.box true (tm 1)), od 4 (.alloc false [(.slice none 0 0), (.slice none 0 0), (.slice none 0 0)]), od 5 (.mv kN)] [kp [2, 3, 4] [4]]) (.seq (.reg [od 6 (.mv kN)] [.nl 6 25 41 1, kp [2, 3,
 4, 6] [4, 25]]) (.seq (.seq (.reg [od 7 (.mv (ki 0))] [kp [2, 3, 4, 6, 7] [4, 25]]) (.gh (.block 0 Lx) [.frz 25])) (.seq (.reg [od 26 (fa 0 2), od 27 (lG 1 26), od 28 (lG 4 3), od 29 (.call 14 [(tm 27), (tm 28)]), om
 30 6, on (.store 3 (tm 4) (tm 29)), om 5 30] [kp [4, 5] [4, 25]]) .ret))))
theorem Va (h : ∀ K : St → Prop, K = run P Γ Lx Q → run P Γ q1d (Am K Q) s) : run P Γ Lx Q s := Ae h
def q1f : List RV := [.cell 4 3 true, .tmp 5]
/- probecard/probecardlaw10.same (function 26) -/
abbrev q5B : IC := .gh (.seq (.seq (.reg [om 11 5, om 12 0, od 13 (le 0 12), od 14 (.bin .lss (tm 11) (tm 13))] [kp [0, 1, 5, 14] []]) (.cond (tm 14) .skip (.exit 0))) (.seq (.block 1 (.seq (.reg [om 17 0, om 18 5, od 19 (ia 2 17 18), od 20 (fa 0
 19), od 21 (ld 1 20), om 22 1, om 23 5, od 24 (ia 2 22 23), od 25 (fa 0 24), od 26 (ld 1 25), od 27 (.call 13 [(tm 21), (tm 26)]), om 28 0, om 29 5, od 30 (ia 2 28 29), od 31 (fa 1 30), od 32 (ld 1 31), om 33 1, om 34 5, od 35 (ia
 2 33 34), od 36 (fa 1 35), od 37 (ld 1 36), od 38 (.call 13 [(tm 32), (tm 37)]), od 39 (.bin .add (tm 27) (tm 38)), od 40 (.bin .neq (tm 39) (ki 0))] [kp [0, 1, 5, 40] []]) (.cond (tm 40) (.seq (.reg [od 4 (.mv kF)] [kp [4] []])
 .ret) .skip))) (.reg [om 15 5, od 16 (.bin .add (tm 15) (ki 1)), om 5 16] [kp [0, 1, 5] []]))) [kp [0, 1, 5] []]
def U9 : IC := .loop q5B
abbrev q5C : IC := (.seq (.reg [od 4 (.mv kF)] [kp [0, 1] []]) (.seq (.seq (.reg [om 6 0, od 7 (le 0 6), om 8 1, od 9 (le 0 8), od 10 (.bin .neq (tm 7) (tm 9))] [kp [0, 1, 10] []]) (.cond (tm 10) (.seq (.reg [od 4 (.mv kF)] [kp [4] []]) .ret) .skip))
 (.seq (.seq (.reg [od 5 (.mv (ki 0))] [kp [0, 1, 5] []]) (.block 0 U9)) (.seq (.reg [od 4 (.mv kT)] [kp [4] []]) .ret))))
theorem q0S (h : ∀ K : St → Prop, K = run P Γ U9 Q → run P Γ q5B (Am K Q) s) : run P Γ U9 Q s := Ae h
def q5D : List RV := [.tmp 4]
/- probecard/probecardlaw03.Ints (function 21) -/
abbrev q5E : IC := .gh (.seq (.seq (.reg [om 18 5, om 19 0, od 20 (le 0 19), od 21 (.bin .lss (tm 18) (tm 20))] [kp [0, 1, 5, 21] []]) (.cond (tm 21) .skip (.exit 0))) (.seq (.block 1 (.seq (.reg [om 24 0, om 25 5, od 26 (ia 1 24 25), od 27 (ld 1
 26), om 28 1, om 29 5, od 30 (ia 1 28 29), od 31 (ld 1 30), od 32 (.bin .neq (tm 27) (tm 31))] [kp [0, 1, 5, 32] []]) (.cond (tm 32) (.seq (.reg [od 4 (.mv (ki 1))] [kp [4] []]) .ret) .skip))) (.reg [om 22 5, od 23 (.bin .add (tm
 22) (ki 1)), om 5 23] [kp [0, 1, 5] []]))) [kp [0, 1, 5] []]
def Ua : IC := .loop q5E
abbrev q5F : IC := (.seq (.reg [od 4 (.mv (ki 0))] [kp [0, 1] []]) (.seq (.seq (.reg [om 6 0, od 7 (le 0 6), om 8 1, od 9 (le 0 8), od 10 (.bin .neq (tm 7) (tm 9)), om 11 10, oF 12 (.mv (tm 0)) 11, oF 13 (.cap (tm 12)) 11, oF 14 (.mv (tm 0)) 11, oF
 15 (le 0 14) 11, oF 16 (.bin .gtr (tm 13) (tm 15)) 11, od 17 (.pick (tm 11) kT (tm 16))] [kp [0, 1, 17] []]) (.cond (tm 17) (.seq (.reg [od 4 (.mv (ki 1))] [kp [4] []]) .ret) .skip)) (.seq (.seq (.reg [od 5 (.mv (ki 0))] [kp [0, 1,
 5] []]) (.block 0 Ua)) (.seq (.reg [od 4 (.mv (ki 0))] [kp [4] []]) .ret))))
theorem q0T (h : ∀ K : St → Prop, K = run P Γ Ua Q → run P Γ q5E (Am K Q) s) : run P Γ Ua Q s := Ae h
def q5G : List RV := [.tmp 4]
end
end Go.Lg
namespace Go.Lg
open Go Go.Proofs
theorem qAV : Ap Tryz.prog 25 q59 68 3 q5A = true := by kernel_rfl
theorem q75 : Ap Tryz.prog 72 q1P 66 1 q1Q = true := by kernel_rfl
theorem q8x : Ap Tryz.prog 84 q3n 6 1 q3o = true := by kernel_rfl
theorem q83 : Ap Tryz.prog 59 q2Q 44 2 q2R = true := by kernel_rfl
theorem q8y : Ap Tryz.prog 63 q3p 11 2 q3q = true := by kernel_rfl
theorem q76 : Ap Tryz.prog 18 q1W 188 2 q1X = true := by kernel_rfl
theorem q4W : Ap Tryz.prog 60 Ys 17 3 Yt = true := by kernel_rfl
theorem q4X : Ap Tryz.prog 61 Yv 26 3 Yw = true := by kernel_rfl
theorem q65 : Ap Tryz.prog 31 q0N 101 3 q0O = true := by kernel_rfl
theorem q3r : Ap Tryz.prog 78 Wp 8 2 Wq = true := by kernel_rfl
theorem q3s : Ap Tryz.prog 79 Ws 5 1 Wt = true := by kernel_rfl
theorem q2A : Ap Tryz.prog 81 S1 5 1 S3 = true := by kernel_rfl
theorem q3t : Ap Tryz.prog 83 Wu 5 1 Wv = true := by kernel_rfl
theorem q66 : Ap Tryz.prog 28 q0Q 45 2 q0R = true := by kernel_rfl
theorem q77 : Ap Tryz.prog 69 q1Y 10 0 q1Z = true := by kernel_rfl
theorem q78 : Ap Tryz.prog 24 q1e 31 2 q1f = true := by kernel_rfl
theorem qAW : Ap Tryz.prog 26 q5C 41 2 q5D = true := by kernel_rfl
theorem qAX : Ap Tryz.prog 21 q5F 33 2 q5G = true := by kernel_rfl
end Go.Lg
namespace Go.Lg
open Go Go.Proofs
variable {Γ : Tables}
theorem I4.small {c : B5} {s : I9} (h : MOk c) (H : I4 c s) : qK5 s := by
 have hsl := Di c
 have hn := h.n
 have hcm := h.cm
 have hw := H.words h
 have hr := H.reads h
 have h1 := H.d
 have h2 := H.w
 have h3 := H.r
 exact ⟨by omega, ⟨by omega, fun x hx => by have := hr x hx; omega⟩, ⟨by omega, fun x hx => ⟨by have := (hw x hx).1; omega, fun y hy => by have := (hw x hx).2.2 y hy; omega⟩⟩⟩
theorem qIm.refl (s : I9) : qIm (· = ·) s s := ⟨⟨rfl, fun _ _ => rfl⟩, rfl, fun _ _ => ⟨rfl, fun _ _ => rfl⟩, rfl, fun _ _ => ⟨rfl, fun _ _ => ⟨rfl, fun _ _ => rfl⟩⟩⟩
theorem Dt {f : FuncId} {as' : List AV} {ts : List T} {res : T} {K : T → Prop} (h : Ac Tryz.prog Γ f ts res) (ht : Af (as'.map toT) = some ts) (hk : K res) : qCB Tryz.prog Γ f as' K ⟨⟩ := ⟨ts, res, ht, .inl h, hk⟩
theorem qK7 (n : Nat) (h0 : 0 < n) (hn : n ≤ 1000000000) : Eu Tryz.prog Γ 115 [] [.t (.sl [] (some 0) (some true)), .t (tI n)] (.ls 22 0 0 none) [(22, .sl 41 1 (List.replicate n [.sl [] (some 0) (some true)]))] := by
 refine Gu Yl rfl ?_
 have h1 : (0 : Int) < n := by omega
 have h2 : ¬ (n : Int) < 0 := by omega
 have h3 : (n : Int) ≤ 2147483648 := by omega
 simp (disch := omega) [M8, M9, h1, h2, h3, h0, A4]
theorem qAY {Q : AX → St → Prop} (ss : List (Sl (Sl Int))) (cap : Option Nat) (nl : Option Bool) (hs : ss.length ≤ 1000) (hl : ∀ s ∈ ss, s.l.length ≤ 1000000) (N : Nat)
  (h0 : Q (.exit 0) ⟨[(0, .t (.sl (Ab tW ss) cap nl)), (3, .t (tI N)), (9, .t (.sl (Ab tW ss) cap nl)), (10, .t (tI ss.length)), (11, .t (tI ss.length)), (12, .t (tB false))], []⟩) :
  ∀ (k i m : Nat), k + i = ss.length → m ≤ i * 1000000 → m + ((ss.drop i).flatMap (·.l)).length = N →
  run Tryz.prog Γ Dz Q ⟨[(0, .t (.sl (Ab tW ss) cap nl)), (3, .t (tI m)), (9, .t (.sl (Ab tW ss) cap nl)), (10, .t (tI ss.length)), (11, .t (tI i))], []⟩
 | 0, i, m, h, hm, hN => by
  refine He fun K hK => ?_
  have h3 : i = ss.length := by omega
  subst h3
  rw [List.drop_of_length_le (Nat.le_refl _)] at hN
  simp at hN
  subst hN
  simp
  exact h0
 | k + 1, i, m, h, hm, hN => by
  refine He fun K hK => ?_
  have h2 : i < ss.length := by omega
  rw [List.drop_eq_getElem_cons h2] at hN
  have e := Bv (f := tW) ⟨[], none, none⟩ h2
  have e2 : ss[i]?.getD ⟨[], none, none⟩ = ss[i] := by simp [h2]
  rw [e2] at e
  have hsl := hl _ (List.getElem_mem h2)
  generalize ss[i] = s at *
  simp at hN
  have ih := qAY ss cap nl hs hl N h0 k (i + 1) (m + s.l.length) (by omega) (by omega) (by simp; omega)
  have e' : ∀ h : i < (Ab tW ss).length, (Ab tW ss)[i] = [tW s] := fun h => by rw [← e]; simp [h]
  have w1' : IntKind.i64.wrap ((m : Int) + (s.l.length : Int)) = (m : Int) + (s.l.length : Int) := by rw [A4] <;> omega
  have w2 : ¬ ((m : Int) + (s.l.length : Int)) < 0 := by omega
  simp only [tW] at e e'
  simp [h2, A0, A6, e, e', w1', w2]
  rw [A4 (by omega) (by omega), hK]
  simpa [tW] using ih
theorem qAZ {Q : AX → St → Prop} (ss : List (Sl (Sl Int))) (cap : Option Nat) (nl : Option Bool) (hs : ss.length ≤ 1000) (hl : ∀ s ∈ ss, s.l.length ≤ 1000000) (R : List (Sl Int))
  (h0 : ∀ E : List (List T), E.take R.length = Ab tV R → Q (.exit 2) ⟨[(6, .ls 24022 0 R.length none), (25, .t (.sl (Ab tW ss) cap nl)), (26, .t (tI ss.length)), (27, .t (tI ss.length)), (28, .t (tB false))], [(24022, .sl 41 1 E)]⟩) :
  ∀ (k i : Nat) (acc : List (Sl Int)) (E : List (List T)), k + i = ss.length → acc.length ≤ i * 1000000 → E.take acc.length = Ab tV acc → acc ++ (ss.drop i).flatMap (·.l) = R →
  run Tryz.prog Γ E0 Q ⟨[(6, .ls 24022 0 acc.length none), (25, .t (.sl (Ab tW ss) cap nl)), (26, .t (tI ss.length)), (27, .t (tI i))], [(24022, .sl 41 1 E)]⟩
 | 0, i, acc, E, h, hm, hE, hR => by
  refine Hf fun K hK => ?_
  have h3 : i = ss.length := by omega
  subst h3
  rw [List.drop_of_length_le (Nat.le_refl _)] at hR
  simp at hR
  subst hR
  simp
  exact h0 E hE
 | k + 1, i, acc, E, h, hm, hE, hR => by
  refine Hf fun K hK => ?_
  have h2 : i < ss.length := by omega
  rw [List.drop_eq_getElem_cons h2] at hR
  have e := Bv (f := tW) ⟨[], none, none⟩ h2
  have e2 : ss[i]?.getD ⟨[], none, none⟩ = ss[i] := by simp [h2]
  rw [e2] at e
  have hsl := hl _ (List.getElem_mem h2)
  generalize ss[i] = s at *
  have q : Ab tV acc ++ Ab tV s.l = Ab tV (acc ++ s.l) := q6T
  have ih := qAZ ss cap nl hs hl R h0 k (i + 1) (acc ++ s.l) (Ab tV (acc ++ s.l)) (by omega) (by simp; omega) Ag (by rw [← hR]; simp)
  have e' : ∀ h : i < (Ab tW ss).length, (Ab tW ss)[i] = [tW s] := fun h => by rw [← e]; simp [h]
  simp only [tW] at e e'
  have hm : min acc.length E.length = acc.length := by have := congrArg List.length hE; simpa [A0] using this
  simp [h2, A0, A6, e, e', hE, q, hm]
  refine ⟨by omega, ?_⟩
  rw [A4 (by omega) (by omega), hK]
  simpa [tW] using ih
theorem qCV (ss : List (Sl (Sl Int))) (cap : Option Nat) (nl : Option Bool) (hs : ss.length ≤ 1000) (hl : ∀ s ∈ ss, s.l.length ≤ 1000000) (h0 : 0 < (ss.flatMap (·.l)).length) :
  Ac Tryz.prog Γ 70 [.sl (Ab tW ss) cap nl] (.sl (Ab tV (ss.flatMap (·.l))) none none) := by
 refine Ar Vo rfl ?_
 have hb : ∀ l : List (Sl (Sl Int)), (∀ s ∈ l, s.l.length ≤ 1000000) → (l.flatMap (·.l)).length ≤ l.length * 1000000 := by
  intro l
  induction l with
  | nil => intro _; simp
  | cons s l ih =>
   intro h
   have h1 := h s List.mem_cons_self
   have h2 := ih fun x hx => h x (List.mem_cons_of_mem _ hx)
   simp at h2 ⊢
   omega
 have hb := hb ss hl
 have g1 := fun Q h0 => qAY (Γ := Γ) (Q := Q) ss cap nl hs hl (ss.flatMap (·.l)).length h0 ss.length 0 0 (by omega) (by omega) (by simp)
 have g2 := qK7 (Γ := Γ) (ss.flatMap (·.l)).length h0 (by omega)
 have g3 := fun Q h0 E hE => qAZ (Γ := Γ) (Q := Q) ss cap nl hs hl (ss.flatMap (·.l)) h0 ss.length 0 [] E (by omega) (by simp) hE (by simp)
 generalize ss.flatMap (·.l) = R at *
 simp [K4, A0]
 refine g1 _ ?_
 simp
 refine ⟨_, _, g2, ?_⟩
 simp [A0]
 refine g3 _ (fun E hE => ?_) _ (by simp [Ab])
 simp [K5, Ah, hE]
def NlS {α : Type} (s : Sl α) : Prop := s.nl = some true → s.l = []
def Nz (s : Sl Int) : Sl Int := if s.nl = some true then ⟨[], some 0, some true⟩ else ⟨s.l, some s.l.length, none⟩
theorem qFA {s : Sl Int} (h : NlS s) : (Nz s).l = s.l := by
 unfold Nz
 split
 ·rename_i e; exact (h e).symm
 ·rfl
theorem q3u (s : Sl Int) (h1 : NlS s) (h2 : s.l.length ≤ 1000000) : Ac Tryz.prog Γ 84 [tV s] (tV (Nz s)) := by
 refine Ar q8x rfl ?_
 have e1 := qBk (Γ := Γ) s h1 h2
 have e2 := qA8 (Γ := Γ) (Aq (Vq s).l) (Vq s).cap (Vq s).nl A6
 rw [A0] at e2
 have e3 : T.sl (Aq (Vq s).l) (some (Vq s).l.length) (Vq s).nl = tV (Nz s) := by
  unfold Vq Nz tV
  split <;> rfl
 rw [e3] at e2
 generalize Vq s = d at *
 generalize Nz s = r at *
 simp [tV] at e1 e2
 simp [q3n, tV]
 refine Aa e1 rfl ?_
 simp
 refine Aa e2 rfl ?_
 simp [q3o]
def q8z (w : Sl (Sl Int)) : Sl (Sl Int) := ⟨w.l.map Nz, some w.l.length, none⟩
def G1 (s : I9) : I9 := ⟨Nz s.dff, ⟨s.words.l.map q8z, some s.words.l.length, none⟩, ⟨s.read.l.map Nz, some s.read.l.length, none⟩⟩
structure q90 (s : I9) : Prop where
 d : NlS s.dff
 w : ∀ w ∈ s.words.l, ∀ r ∈ w.l, NlS r
 r : ∀ r ∈ s.read.l, NlS r
theorem qCW {s : I9} (h : q90 s) : Xe (G1 s) s := by
 refine ⟨qFA h.d, ?_, ?_⟩
 ·unfold I9.ws G1
  simp only [List.map_map]
  refine List.map_congr_left fun w hw => ?_
  simp only [Function.comp, q8z, List.map_map]
  exact List.map_congr_left fun r hr => qFA (h.w w hw r hr)
 ·unfold I9.rd G1
  simp only [List.map_map]
  exact List.map_congr_left fun r hr => qFA (h.r r hr)
def q79 (s2 : T) (d : T) (ws : List (Sl (Sl Int))) (rs : List (Sl Int)) : List (Nat × B7) := [(2, .bx [.t (.sl [] (some 0) (some true)), .t (.sl [] (some 0) (some true)), .t (.sl [] (some 0) (some true))]), (3, .bx [.t d, .ls 39 0 ws.length none, .ls 54 0 rs.length none])]
theorem qIx {Q : AX → St → Prop} (s : I9) (i : Nat) (w : Sl (Sl Int)) (hw : w.l.length ≤ 1000000) (hn : ∀ r ∈ w.l, NlS r ∧ r.l.length ≤ 1000000) (d : T) (ws : List (Sl (Sl Int))) (R : List (Sl Int))
  (h0 : Q (.exit 2) ⟨[(1, .t (.ip (B9 s) 0)), (2, .lp 2 0 0), (3, .lp 3 0 0), (6, .ls 32 0 w.l.length none), (16, .t (Ko s.words)), (17, .t (tI s.words.l.length)), (18, .t (tI i)), (22, .t (tW w)), (23, .t (tI w.l.length)), (24, .t (tI w.l.length)), (25, .t (tB false))], q79 d d ws [] ++ [(32, .sl 41 1 (Ab tV R)), (39, .sl 43 1 (Ab tW ws)), (54, .sl 41 1 [])]⟩) :
  ∀ (k j : Nat) (out : List (Sl Int)), k + j = w.l.length → out.length = j → out ++ (w.l.drop j).map Nz = R →
  run Tryz.prog Γ Ln Q ⟨[(1, .t (.ip (B9 s) 0)), (2, .lp 2 0 0), (3, .lp 3 0 0), (6, .ls 32 0 j none), (16, .t (Ko s.words)), (17, .t (tI s.words.l.length)), (18, .t (tI i)), (22, .t (tW w)), (23, .t (tI w.l.length)), (24, .t (tI j))], q79 d d ws [] ++ [(32, .sl 41 1 (Ab tV out)), (39, .sl 43 1 (Ab tW ws)), (54, .sl 41 1 [])]⟩
 | 0, j, out, h, ho, hR => by
  refine Uz fun K hK => ?_
  have h2 : j = w.l.length := by omega
  subst h2
  rw [List.drop_length] at hR
  simp only [List.map_nil, List.append_nil] at hR
  subst hR
  simp [q79, B9, Ko, tW] at h0
  simp [q79, B9, Ko, tW]
  simpa using h0
 | k + 1, j, out, h, ho, hR => by
  refine Uz fun K hK => ?_
  have h2 : j < w.l.length := by omega
  rw [List.drop_eq_getElem_cons h2] at hR
  simp only [List.map_cons] at hR
  have e2 := gE (f := tV) Sl.z h2
  have e2' := gE' (f := tV) Sl.z h2
  rw [show w.l.getD j Sl.z = w.l[j] by simp [List.getD_eq_getElem?_getD, h2]] at e2 e2'
  obtain ⟨hr1, hr2⟩ := hn _ (List.getElem_mem h2)
  generalize w.l[j] = r at *
  have hc := q3u (Γ := Γ) r hr1 hr2
  have ih := qIx s i w hw hn d ws R h0 k (j + 1) (out ++ [Nz r]) (by omega) (by simp [ho]) (by rw [← hR]; simp)
  have vs := Bf (f := tV) (l := out) (x := Nz r)
  have vt : (Ab tV out).take j = Ab tV out := by rw [← ho]; exact Ag
  generalize Nz r = q at *
  have h3 : (j : Int) < w.l.length := by omega
  have w1 := B0 (i := j) (by omega)
  have hw1 : ∀ t : T, Ce 1 [[t]] := fun t e he => by simp at he; subst he; rfl
  simp only [tV] at e2 e2' hc vs
  simp [q79, B9, Ko, tW, tV] at ih
  simp [q79, B9, Ko, tW, tV, A0, A6, h2, h3, e2, e2']
  refine Aa hc rfl ?_
  simp [hw1, vt, vs, ho, w1, A0]
  refine ⟨by omega, ?_⟩
  rw [hK]
  simpa using ih
theorem qIy {Q : AX → St → Prop} (s : I9) (hs : s.words.l.length ≤ 1000000) (hw : ∀ w ∈ s.words.l, w.l.length ≤ 1000000 ∧ ∀ r ∈ w.l, NlS r ∧ r.l.length ≤ 1000000) (d : T) (R : List (Sl (Sl Int)))
  (h0 : Q (.exit 0) ⟨[(1, .t (.ip (B9 s) 0)), (2, .lp 2 0 0), (3, .lp 3 0 0), (16, .t (Ko s.words)), (17, .t (tI s.words.l.length)), (18, .t (tI s.words.l.length)), (19, .t (tB false))], q79 d d R [] ++ [(39, .sl 43 1 (Ab tW R)), (54, .sl 41 1 [])]⟩) :
  ∀ (k i : Nat) (ws : List (Sl (Sl Int))), k + i = s.words.l.length → ws.length = i → ws ++ (s.words.l.drop i).map q8z = R →
  run Tryz.prog Γ Lo Q ⟨[(1, .t (.ip (B9 s) 0)), (2, .lp 2 0 0), (3, .lp 3 0 0), (16, .t (Ko s.words)), (17, .t (tI s.words.l.length)), (18, .t (tI i))], q79 d d ws [] ++ [(39, .sl 43 1 (Ab tW ws)), (54, .sl 41 1 [])]⟩
 | 0, i, ws, h, ho, hR => by
  refine V0 fun K hK => ?_
  have h2 : i = s.words.l.length := by omega
  subst h2
  rw [List.drop_length] at hR
  simp only [List.map_nil, List.append_nil] at hR
  subst hR
  simp [q79, B9, Ko] at h0
  simp [q79, B9, Ko]
  simpa using h0
 | k + 1, i, ws, h, ho, hR => by
  refine V0 fun K hK => ?_
  have h2 : i < s.words.l.length := by omega
  rw [List.drop_eq_getElem_cons h2] at hR
  simp only [List.map_cons] at hR
  have e2 := gE (f := tW) Sl.zz h2
  have e2' := gE' (f := tW) Sl.zz h2
  rw [show s.words.l.getD i Sl.zz = s.words.l[i] by simp [List.getD_eq_getElem?_getD, h2]] at e2 e2'
  obtain ⟨hw1, hw2⟩ := hw _ (List.getElem_mem h2)
  generalize s.words.l[i] = w at *
  have g := fun Q h0 => qIx (Γ := Γ) (Q := Q) s i w hw1 hw2 d ws (w.l.map Nz) h0 w.l.length 0 [] (by omega) rfl (by simp)
  have ih := qIy s hs hw d R h0 k (i + 1) (ws ++ [q8z w]) (by omega) (by simp [ho]) (by rw [← hR]; simp)
  have ml : (w.l.map Nz).length = w.l.length := by simp
  have vtm : (Ab tV (w.l.map Nz)).take w.l.length = Ab tV (w.l.map Nz) := by rw [← ml]; exact Ag
  have hcl := qG0 (Γ := Γ) (Ab tV (w.l.map Nz)) none none A6
  rw [A0, ml] at hcl
  have vs := Bf (f := tW) (l := ws) (x := q8z w)
  unfold q8z at ih vs
  have vt : (Ab tW ws).take i = Ab tW ws := by rw [← ho]; exact Ag
  generalize w.l.map Nz = q at *
  have h3 : (i : Int) < s.words.l.length := by omega
  have w1 := B0 (i := i) (by omega)
  have hwd1 : ∀ t : T, Ce 1 [[t]] := fun t e he => by simp at he; subst he; rfl
  simp only [tW] at e2 e2' vs
  simp [q79, B9, Ko, tW, D4] at g
  simp [q79, B9, Ko, tW] at ih
  simp [q79, B9, Ko, tW, A0, A6, h2, h3, e2, e2']
  refine g _ ?_
  simp [St.freeze, B7.closed, Bi, frz1, frz0, E1, del, Ah, vtm]
  refine Dt hcl rfl ?_
  simp [hwd1, vt, vs, ho, w1, A6, A0]
  refine ⟨by omega, ?_⟩
  rw [hK]
  simpa [ho] using ih
theorem qIz {Q : AX → St → Prop} (s : I9) (hs : s.read.l.length ≤ 1000000) (hr : ∀ r ∈ s.read.l, NlS r ∧ r.l.length ≤ 1000000) (d : T) (W : T) (R : List (Sl Int))
  (h0 : Q (.exit 4) ⟨[(2, .lp 2 0 0), (3, .lp 3 0 0), (43, .t (tW s.read)), (44, .t (tI s.read.l.length)), (45, .t (tI s.read.l.length)), (46, .t (tB false))], [(2, .bx [.t (.sl [] (some 0) (some true)), .t (.sl [] (some 0) (some true)), .t (.sl [] (some 0) (some true))]), (3, .bx [.t d, .t W, .ls 54 0 R.length none]), (54, .sl 41 1 (Ab tV R))]⟩) :
  ∀ (k i : Nat) (rs : List (Sl Int)), k + i = s.read.l.length → rs.length = i → rs ++ (s.read.l.drop i).map Nz = R →
  run Tryz.prog Γ Lp Q ⟨[(2, .lp 2 0 0), (3, .lp 3 0 0), (43, .t (tW s.read)), (44, .t (tI s.read.l.length)), (45, .t (tI i))], [(2, .bx [.t (.sl [] (some 0) (some true)), .t (.sl [] (some 0) (some true)), .t (.sl [] (some 0) (some true))]), (3, .bx [.t d, .t W, .ls 54 0 i none]), (54, .sl 41 1 (Ab tV rs))]⟩
 | 0, i, rs, h, ho, hR => by
  refine V1 fun K hK => ?_
  have h2 : i = s.read.l.length := by omega
  subst h2
  rw [List.drop_length] at hR
  simp only [List.map_nil, List.append_nil] at hR
  subst hR
  rw [ho] at h0
  simp [tW] at h0
  simp [tW]
  simpa using h0
 | k + 1, i, rs, h, ho, hR => by
  refine V1 fun K hK => ?_
  have h2 : i < s.read.l.length := by omega
  rw [List.drop_eq_getElem_cons h2] at hR
  simp only [List.map_cons] at hR
  have e2 := gE (f := tV) Sl.z h2
  have e2' := gE' (f := tV) Sl.z h2
  rw [show s.read.l.getD i Sl.z = s.read.l[i] by simp [List.getD_eq_getElem?_getD, h2]] at e2 e2'
  obtain ⟨hr1, hr2⟩ := hr _ (List.getElem_mem h2)
  generalize s.read.l[i] = r at *
  have hc := q3u (Γ := Γ) r hr1 hr2
  have ih := qIz s hs hr d W R h0 k (i + 1) (rs ++ [Nz r]) (by omega) (by simp [ho]) (by rw [← hR]; simp)
  have vs := Bf (f := tV) (l := rs) (x := Nz r)
  have vt : (Ab tV rs).take i = Ab tV rs := by rw [← ho]; exact Ag
  generalize Nz r = q at *
  have h3 : (i : Int) < s.read.l.length := by omega
  have w1 := B0 (i := i) (by omega)
  have hwd1 : ∀ t : T, Ce 1 [[t]] := fun t e he => by simp at he; subst he; rfl
  simp only [tV] at e2 e2' hc vs
  simp [tW, tV] at ih
  simp [tW, tV, A0, A6, h2, h3, e2, e2']
  refine Dt hc rfl ?_
  simp [hwd1, vt, vs, ho, w1, A0]
  refine ⟨by omega, ?_⟩
  rw [hK]
  simpa using ih
theorem qB2 (s : I9) (hs : qK5 s) (hn : q90 s) : Ac Tryz.prog Γ 72 [.agg (B9 s)] (.agg (B9 (G1 s))) := by
 refine Ar q75 rfl ?_
 have e1 := q3u (Γ := Γ) s.dff hn.d hs.d
 have g3 := fun Q d h0 => qIy (Γ := Γ) (Q := Q) s hs.w.1 (fun w hw => ⟨(hs.w.2 w hw).1, fun r hr => ⟨hn.w w hw r hr, (hs.w.2 w hw).2 r hr⟩⟩) d (s.words.l.map q8z) h0 s.words.l.length 0 [] (by omega) rfl (by simp)
 have g5 := fun Q d W h0 => qIz (Γ := Γ) (Q := Q) s hs.r.1 (fun r hr => ⟨hn.r r hr, hs.r.2 r hr⟩) d W (s.read.l.map Nz) h0 s.read.l.length 0 [] (by omega) rfl (by simp)
 have lW : (s.words.l.map q8z).length = s.words.l.length := by simp
 have lR : (s.read.l.map Nz).length = s.read.l.length := by simp
 have tW' : (Ab tW (s.words.l.map q8z)).take s.words.l.length = Ab tW (s.words.l.map q8z) := by rw [← lW]; exact Ag
 have tR' : (Ab tV (s.read.l.map Nz)).take s.read.l.length = Ab tV (s.read.l.map Nz) := by rw [← lR]; exact Ag
 have c2 := qG0 (Γ := Γ) (Ab tV (s.read.l.map Nz)) none none A6
 have c3 := qIf (Γ := Γ) (Ab tW (s.words.l.map q8z)) none none A6
 rw [A0, lR] at c2
 rw [A0, lW] at c3
 unfold G1
 generalize Nz s.dff = D at *
 generalize s.words.l.map q8z = W at *
 generalize s.read.l.map Nz = R at *
 simp [B9, tV, tW, Ko] at e1
 simp [q79, B9, tV, tW, Ko, D4, lW] at g3
 simp [B9, tV, tW, Ko, D4, lR] at g5
 simp [q1P, B9, tV, tW, Ko]
 refine Aa e1 rfl ?_
 simp [A0]
 refine g3 _ _ ?_
 simp [St.freeze, B7.closed, Bi, frz1, frz0, E1, del, Ah, tW', A0]
 refine g5 _ _ _ ?_
 simp [St.freeze, B7.closed, Bi, frz1, frz0, E1, del, Ah, tR', A0]
 refine Dt c3 rfl ?_
 simp
 refine Dt c2 rfl ?_
 simp [q1Q, Ah, Af]
def F8 (r : List Int × List Int) : List T := [tVs r.1, tVs r.2]
def q91 (c : B5) (l : List (Sl Int)) : Prop := ∀ x ∈ l, x.l.length = (Bz c).length ∧ ∀ v ∈ x.l, V4 v
theorem q91.seq {c : B5} {l : List (Sl Int)} (h : q91 c l) : qKx c (l.map (·.l)) := fun i hi => by
 obtain ⟨x, hx, rfl⟩ := List.mem_map.1 hi
 exact h x hx
theorem qDo {Q : AX → St → Prop} (hΓ : GOk Γ) (c : B5) (h : MOk c) (s : I9) (H : I4 c s) (ins L : Sl (Sl Int)) (hL : L.l.length ≤ 2000) (hv : q91 c L.l)
  (h0 : Q (.exit 0) ⟨[(2, .t (tW ins)), (3, .t (.ip (tC c) 0)), (4, .t (.ip (B9 s) 0)), (7, .lp 7 0 0), (26, .t (tW L)), (27, .t (tI L.l.length)), (28, .t (tI L.l.length)), (29, .t (tB false))], [(7, .bx [.t Ax, .t Ax, .t Ax])]⟩) :
  ∀ (k i : Nat), k + i = L.l.length → run Tryz.prog Γ U7 Q ⟨[(2, .t (tW ins)), (3, .t (.ip (tC c) 0)), (4, .t (.ip (B9 s) 0)), (7, .lp 7 0 0), (26, .t (tW L)), (27, .t (tI L.l.length)), (28, .t (tI i))], [(7, .bx [.t Ax, .t Ax, .t Ax])]⟩
 | 0, i, hk => by
  refine q0J fun K hK => ?_
  have h2 : i = L.l.length := by omega
  subst h2
  simp [Ax, B9, tV, tW, Ko, tC, A5, A8, Ad, B1] at h0
  simp [Ax, B9, tV, tW, Ko, tC, A5, A8, Ad, B1]
  simpa using h0
 | k + 1, i, hk => by
  refine q0J fun K hK => ?_
  have h2 : i < L.l.length := by omega
  have e2 := gE (f := tV) Sl.z h2
  have e2' := gE' (f := tV) Sl.z h2
  rw [show L.l.getD i Sl.z = L.l[i] by simp [List.getD_eq_getElem?_getD, h2]] at e2 e2'
  obtain ⟨hl, hv4⟩ := hv _ (List.getElem_mem h2)
  generalize L.l[i] = x at *
  have hc := q8b hΓ c h s H x hl (fun v hv => (hv4 v hv).2)
  have ih := qDo hΓ c h s H ins L hL hv h0 k (i + 1) (by omega)
  have h3 : (i : Int) < L.l.length := by omega
  have w1 := B0 (i := i) (by omega)
  simp only [tV] at e2 e2'
  simp [B9, tV, tW, Ko, tC, A5, A8, Ad, B1] at hc
  simp [Ax, B9, tV, tW, Ko, tC, A5, A8, Ad, B1] at ih
  simp [Ax, B9, tV, tW, Ko, tC, A5, A8, Ad, B1, A0, A6, h2, h3, e2, e2']
  refine Aa hc rfl ?_
  simp [w1]
  rw [hK]
  simpa using ih
theorem Gv {α : Type} {f : α → T} {x : α} {l : List α} : Ab f (x :: l) = [f x] :: Ab f l := rfl
theorem qBo {α : Type} {f : α → List T} : An f [] = [] := rfl
theorem qK8 {α : Type} {l : List α} {n : Nat} (h : l.length = n) {x y : α} {m : List α} : (l ++ x :: m).set n y = l ++ y :: m := by
 subst h
 rw [List.set_append_right (h := Nat.le_refl _)]
 simp
theorem qHA {l : List (List Int × List Int)} {k : Nat} : Ce 2 (An F8 l ++ List.replicate k [Ax, Ax]) := by
 intro e he
 rcases List.mem_append.1 he with he | he
 ·obtain ⟨x, _, rfl⟩ := List.mem_map.1 he; rfl
 ·rw [List.eq_of_mem_replicate he]; rfl
set_option maxHeartbeats 2000000 in
theorem qDp {Q : AX → St → Prop} (hΓ : GOk Γ) (c : B5) (h : MOk c) (hn : c.nodes.l.length ≤ 19) (ins : Sl (Sl Int)) (hL : ins.l.length ≤ 2000) (hv : q91 c ins.l) (RR : List (List Int × List Int)) (SS : I9)
  (h0 : Q (.exit 2) ⟨[(3, .t (.ip (tC c) 0)), (7, .lp 7 0 0), (12, .ls 43 0 ins.l.length (some ins.l.length)), (13, .lp 13 0 0), (46, .t (tW ins)), (47, .t (tI ins.l.length)), (48, .t (tI ins.l.length)), (49, .t (tB false))], [(7, .bx [.t Ax, .t Ax, .t Ax]), (13, .bx ((B9 SS).map .t)), (43, .sl 49 2 (An F8 RR))]⟩) :
  ∀ (k i : Nat) (st : I9) (done : List (List Int × List Int)), k + i = ins.l.length → done.length = i → I4 c st → done ++ seqR c st ((ins.l.drop i).map (·.l)) = RR → seqS c st ((ins.l.drop i).map (·.l)) = SS →
  run Tryz.prog Γ U8 Q ⟨[(3, .t (.ip (tC c) 0)), (7, .lp 7 0 0), (12, .ls 43 0 ins.l.length (some ins.l.length)), (13, .lp 13 0 0), (46, .t (tW ins)), (47, .t (tI ins.l.length)), (48, .t (tI i))], [(7, .bx [.t Ax, .t Ax, .t Ax]), (13, .bx ((B9 st).map .t)), (43, .sl 49 2 (An F8 done ++ List.replicate k [Ax, Ax]))]⟩
 | 0, i, st, done, hk, hd, H, hR, hS => by
  refine q0K fun K hK => ?_
  have h2 : i = ins.l.length := by omega
  subst h2
  rw [List.drop_length] at hR hS
  simp only [List.map_nil, seqR, seqS, List.append_nil] at hR hS
  subst hR
  subst hS
  simp [Ax, B9, tV, tW, Ko, tC, A5, A8, Ad, B1] at h0
  simp [Ax, B9, tV, tW, Ko, tC, A5, A8, Ad, B1]
  simpa using h0
 | k + 1, i, st, done, hk, hd, H, hR, hS => by
  refine q0K fun K hK => ?_
  have h2 : i < ins.l.length := by omega
  rw [List.drop_eq_getElem_cons h2] at hR hS
  simp only [List.map_cons, seqR, seqS] at hR hS
  have e2 := gE (f := tV) Sl.z h2
  have e2' := gE' (f := tV) Sl.z h2
  rw [show ins.l.getD i Sl.z = ins.l[i] by simp [List.getD_eq_getElem?_getD, h2]] at e2 e2'
  obtain ⟨hl, hv4⟩ := hv _ (List.getElem_mem h2)
  generalize ins.l[i] = x at *
  have hc := qIu hΓ h hn H x hl hv4
  have ih := qDp hΓ c h hn ins hL hv RR SS h0 k (i + 1) (Wi c st (Bq c st x.l)) (done ++ [(Z6 c (Bq c st x.l), Df c (Bq c st x.l))]) (by omega) (by simp [hd]) (qDm h H (qCU H hv4)) (by rw [← hR]; simp) hS
  have el : (An F8 done).length = i := by rw [A9, hd]
  have hset := qK8 (l := An F8 done) (n := i) el (x := [Ax, Ax]) (y := F8 (Z6 c (Bq c st x.l), Df c (Bq c st x.l))) (m := List.replicate k [Ax, Ax])
  have hsn : An F8 done ++ F8 (Z6 c (Bq c st x.l), Df c (Bq c st x.l)) :: List.replicate k [Ax, Ax] = An F8 (done ++ [(Z6 c (Bq c st x.l), Df c (Bq c st x.l))]) ++ List.replicate k [Ax, Ax] := by simp [An]
  rw [hsn] at hset
  have hlen : (An F8 done ++ List.replicate (k + 1) [Ax, Ax]).length = ins.l.length := by simp [el]; omega
  rw [← List.replicate_succ] at hset
  have hwid := qHA (l := done) (k := k + 1)
  generalize An F8 done ++ List.replicate (k + 1) [Ax, Ax] = E at *
  generalize An F8 (done ++ [(Z6 c (Bq c st x.l), Df c (Bq c st x.l))]) ++ List.replicate k [Ax, Ax] = E' at *
  generalize Wi c st (Bq c st x.l) = st' at *
  simp only [F8] at hset
  generalize Z6 c (Bq c st x.l) = O at *
  generalize Df c (Bq c st x.l) = X at *
  generalize Bq c st x.l = N at *
  have h3 : (i : Int) < ins.l.length := by omega
  have w1 := B0 (i := i) (by omega)
  simp only [tV] at e2 e2'
  simp only [tVs] at hset
  simp [B9, tV, tVs, tW, Ko, tC, A5, A8, Ad, B1] at hc
  simp [Ax, B9, tV, tW, Ko, tC, A5, A8, Ad, B1] at ih
  simp [Ax, B9, tV, tW, Ko, tC, A5, A8, Ad, B1, A0, A6, h2, h3, e2, e2']
  refine Aa hc rfl ?_
  simp [h2, h3, hlen, hset, w1]
  rw [hK]
  simpa using ih
set_option maxHeartbeats 2000000 in
theorem Z1 (hΓ : GOk Γ) (c : B5) (h : MOk c) (hn : c.nodes.l.length ≤ 19) (s : I9) (H : I4 c s) (hN : q90 s) (ins : Sl (Sl Int)) (hL : ins.l.length ≤ 1000) (hv : q91 c ins.l) :
  Ac Tryz.prog Γ 25 [.agg (tC c), .agg (B9 s), tW ins] (.tup [.sl (An F8 (seqR c (G1 s) (ins.l.map (·.l)))) (some ins.l.length) none, .agg (B9 (seqS c (G1 s) (ins.l.map (·.l)))), tI 0]) := by
 refine Ar qAV rfl ?_
 have hil := Oi c
 have hsl := Di c
 have e1 := qAQ (Γ := Γ) c h.ok (by omega) (by omega)
 have e2 := qCV (Γ := Γ) [⟨[⟨List.replicate (Bz c).length 2, none, none⟩], some 1, some false⟩, ins] (some 2) (some false) (by simp) (by simp; omega) (by simp)
 have e3 := qB2 (Γ := Γ) s (H.small h) hN
 have hE := (qCW hN).ok H
 have hvL : q91 c (⟨List.replicate (Bz c).length 2, none, none⟩ :: ins.l) := fun x hx => by
  rcases List.mem_cons.1 hx with rfl | hx
  ·exact ⟨by simp, fun v hv => by rw [List.eq_of_mem_replicate hv]; unfold V4; omega⟩
  ·exact hv x hx
 have g1 := fun Q h0 => qDo (Γ := Γ) (Q := Q) hΓ c h s H ins ⟨⟨List.replicate (Bz c).length 2, none, none⟩ :: ins.l, none, none⟩ (by simp; omega) hvL h0 (ins.l.length + 1) 0 (by simp)
 have g3 := fun Q h0 => qDp (Γ := Γ) (Q := Q) hΓ c h hn ins (by omega) hv (seqR c (G1 s) (ins.l.map (·.l))) (seqS c (G1 s) (ins.l.map (·.l))) h0 ins.l.length 0 (G1 s) [] (by omega) rfl hE (by simp) (by simp)
 simp only [List.flatMap_cons, List.flatMap_nil, List.append_nil, List.singleton_append] at e2
 have hfl : (An F8 (seqR c (G1 s) (ins.l.map (·.l)))).length = ins.l.length := by rw [A9, q3m, List.length_map]
 have htk : (An F8 (seqR c (G1 s) (ins.l.map (·.l)))).take ins.l.length = An F8 (seqR c (G1 s) (ins.l.map (·.l))) := List.take_of_length_le (by omega)
 generalize seqR c (G1 s) (ins.l.map (·.l)) = RR at *
 generalize seqS c (G1 s) (ins.l.map (·.l)) = SS at *
 generalize G1 s = s' at *
 generalize List.replicate (Bz c).length (2 : Int) = bl at *
 have h9 : ¬ 1024 < (ins.l.length : Int) := by omega
 have h9' : ins.l.length ≤ 1024 := by omega
 have h9'' : ¬ 1024 < ins.l.length := by omega
 simp [tW, tV, Gv, D4] at e2
 simp [B9, tV, tW, Ko, tC, A5, A8, Ad, B1] at e1 e3
 simp [Ax, B9, tV, tW, Ko, tC, A5, A8, Ad, B1, Gv, D4] at g1
 simp [Ax, B9, tV, tW, Ko, tC, A5, A8, Ad, B1, qBo] at g3
 simp [q59, B9, tV, tW, Ko, tC, A5, A8, Ad, B1, A0, h9, h9']
 refine Aa e1 rfl ?_
 simp
 refine Aa e2 rfl ?_
 simp [A0]
 refine g1 _ ?_
 simp [A9, A0]
 refine ⟨by omega, ?_⟩
 refine Aa e3 rfl ?_
 simp [A0]
 refine g3 _ ?_
 simp [q5A, Ah, Af, htk]
 done
def V2 (v : Int) : Prop := 0 ≤ v ∧ v ≤ 1
theorem qJ0 (l : List Int) (c1 c2 : Option Nat) (n1 n2 : Option Bool) (hl : l.length ≤ 1000000000) : A3 Tryz.prog Γ 13 [.sl (Aq l) c1 n1, .sl (Aq l) c2 n2] (tI 0) := by
 have := qH0 (Γ := Γ) ⟨l, c1, n1⟩ ⟨l, c2, n2⟩ (by show l.length ≤ _; omega)
 have e : qBb l l = 0 := by unfold qBb; rw [if_pos rfl]
 simpa [tV, e] using this
theorem V2.four {v : Int} (h : V2 v) : V4 v := by unfold V2 V4 at *; omega
def Ww (v : Sl Int) (ps : Sl PD) : List T := [tV v, .sl (An tPD ps.l) ps.cap ps.nl]
theorem qK9 {l : List PD} : Ce 2 (An tPD l) := Xn fun _ => rfl
def Z2 (c : B5) (ps : List PD) : List (Sl Int) := ps.map fun q => (qAL q c).inn
theorem qJ1 {c : B5} {ps : List PD} (h : ∀ q ∈ ps, q8v q) : q91 c (Z2 c ps) := fun x hx => by
 obtain ⟨q, hq, rfl⟩ := List.mem_map.1 hx
 have hP := qIS (h q hq) c
 exact ⟨hP.i, hP.vi⟩
theorem qG8 {Q : AX → St → Prop} (v : Sl Int) (ps : Sl PD) (hl : ps.l.length ≤ 1000000) (hp : ∀ q ∈ ps.l, q8v q) (c : B5) (hc : COk c) (R : List (Sl Int))
  (h0 : Q (.exit 0) ⟨[(2, .t (.ip (Ww v ps) 0)), (3, .t (.ip (tC c) 0)), (4, .lp 4 0 0), (6, .ls 25 0 ps.l.length none), (7, .t (tI ps.l.length)), (12, .t (tB false))], [(4, .bx [.t Ax, .t Ax, .t Ax]), (25, .sl 41 1 (Ab tV R))]⟩) :
  ∀ (k i : Nat) (out : List (Sl Int)), k + i = ps.l.length → out.length = i → out ++ Z2 c (ps.l.drop i) = R →
  run Tryz.prog Γ Lx Q ⟨[(2, .t (.ip (Ww v ps) 0)), (3, .t (.ip (tC c) 0)), (4, .lp 4 0 0), (6, .ls 25 0 i none), (7, .t (tI i))], [(4, .bx [.t Ax, .t Ax, .t Ax]), (25, .sl 41 1 (Ab tV out))]⟩
 | 0, i, out, h, ho, hR => by
  refine Va fun K hK => ?_
  have h2 : i = ps.l.length := by omega
  subst h2
  rw [List.drop_length] at hR
  simp only [Z2, List.map_nil, List.append_nil] at hR
  subst hR
  simp [Ww, Ax, tV, tC, A5, A8, Ad, B1] at h0
  simp [Ww, Ax, tV, tC, A5, A8, Ad, B1, A9]
  simpa using h0
 | k + 1, i, out, h, ho, hR => by
  refine Va fun K hK => ?_
  have h2 : i < ps.l.length := by omega
  rw [List.drop_eq_getElem_cons h2] at hR
  simp only [Z2, List.map_cons] at hR
  have e1 : (An tPD ps.l)[i]?.getD [] = tPD ps.l[i] := by simp [An, h2]
  have e1' : ∀ h, (An tPD ps.l)[i]'h = tPD ps.l[i] := fun h => by simp [An]
  have hq := hp _ (List.getElem_mem h2)
  generalize ps.l[i] = q at *
  have ep := qH2 (Γ := Γ) q hq c hc
  have ih := qG8 v ps hl hp c hc R h0 k (i + 1) (out ++ [(qAL q c).inn]) (by omega) (by simp [ho]) (by rw [← hR]; simp [Z2])
  have vs := Bf (f := tV) (l := out) (x := (qAL q c).inn)
  have vt : (Ab tV out).take i = Ab tV out := by rw [← ho]; exact Ag
  generalize qAL q c = p at *
  have h3 : (i : Int) < ps.l.length := by omega
  have w1 := B0 (i := i) (by omega)
  have hw1 : ∀ t : T, Ce 1 [[t]] := fun t e he => by simp at he; subst he; rfl
  simp only [tPD] at e1 e1' ep
  simp only [tP, tV] at ep vs
  simp only [tV] at e1 e1'
  simp [tC, A5, A8, Ad, B1] at ep
  simp [Ww, Ax, tV, tC, A5, A8, Ad, B1] at ih
  simp [Ww, Ax, tV, tC, A5, A8, Ad, B1, A9, qK9, h2, h3, e1, e1']
  refine Lm ep rfl ?_
  simp [hw1, vt, vs, ho, w1, A0]
  refine ⟨by omega, ?_⟩
  rw [hK]
  simpa using ih
theorem qHB (v : Sl Int) (ps : Sl PD) (hl : ps.l.length ≤ 1000000) (hp : ∀ q ∈ ps.l, q8v q) (c : B5) (h : MOk c) :
  Ac Tryz.prog Γ 24 [.agg (Ww v ps), .agg (tC c)] (.tup [.agg (B9 (q4V v.l c)), .sl (Ab tV (Z2 c ps.l)) none none]) := by
 refine Ar q78 rfl ?_
 have e1 := qH9 (Γ := Γ) v c h.ok h.n h.cm (fun m hm => ⟨(h.mf m hm).1.2, (h.mf m hm).2.1.2⟩)
 have g := fun Q h0 => qG8 (Γ := Γ) (Q := Q) v ps hl hp c h.ok (Z2 c ps.l) h0 ps.l.length 0 [] (by omega) rfl (by simp)
 have ml : (Z2 c ps.l).length = ps.l.length := by simp [Z2]
 have ht : (Ab tV (Z2 c ps.l)).take ps.l.length = Ab tV (Z2 c ps.l) := by rw [← ml]; exact Ag
 generalize q4V v.l c = s at *
 generalize Z2 c ps.l = R at *
 simp [tC, A5, A8, Ad, B1, tV, B9, tW, Ko] at e1
 simp [Ww, Ax, tV, tC, A5, A8, Ad, B1, D4] at g
 simp [q1e, Ww, tV, tC, A5, A8, Ad, B1]
 refine g _ ?_
 simp [St.freeze, B7.closed, Bi, frz1, frz0, E1, del, Ah, ht]
 refine Aa e1 rfl ?_
 simp [q1f, Ah, Af, B9, tV, tW, Ko]
theorem qG9 {Q : AX → St → Prop} (l : List (List Int × List Int)) (hl : l.length ≤ 1000000) (hx : ∀ x ∈ l, x.1.length ≤ 1000000000 ∧ x.2.length ≤ 1000000000) (c1 c2 : Option Nat) (n1 n2 : Option Bool)
  (h0 : Q (.exit 0) ⟨[(0, .t (.sl (An F8 l) c1 n1)), (1, .t (.sl (An F8 l) c2 n2)), (5, .t (tI l.length)), (14, .t (tB false))], []⟩) :
  ∀ (k i : Nat), k + i = l.length → run Tryz.prog Γ U9 Q ⟨[(0, .t (.sl (An F8 l) c1 n1)), (1, .t (.sl (An F8 l) c2 n2)), (5, .t (tI i))], []⟩
 | 0, i, h => by
  refine q0S fun K hK => ?_
  have h2 : i = l.length := by omega
  subst h2
  simp [A9]
  simpa using h0
 | k + 1, i, h => by
  refine q0S fun K hK => ?_
  have h2 : i < l.length := by omega
  have e1 : (An F8 l)[i]?.getD [] = F8 l[i] := by simp [An, h2]
  have e1' : ∀ h, (An F8 l)[i]'h = F8 l[i] := fun h => by simp [An]
  obtain ⟨x1, x2⟩ := hx _ (List.getElem_mem h2)
  generalize l[i] = x at *
  have s1 := fun c1 c2 n1 n2 => qJ0 (Γ := Γ) x.1 c1 c2 n1 n2 x1
  have s2 := fun c1 c2 n1 n2 => qJ0 (Γ := Γ) x.2 c1 c2 n1 n2 x2
  have ih := qG9 l hl hx c1 c2 n1 n2 h0 k (i + 1) (by omega)
  have hw : Ce 2 (An F8 l) := Xn fun _ => rfl
  have h3 : (i : Int) < l.length := by omega
  have w1 := B0 (i := i) (by omega)
  have w00 : IntKind.i64.wrap 0 = 0 := by decide
  simp only [F8, tVs] at e1 e1'
  simp [A9, hw, h2, h3, e1, e1']
  refine A1 (s1 _ _ _ _) rfl ?_
  simp [A9, hw, h2, h3, e1, e1']
  refine A1 (s2 _ _ _ _) rfl ?_
  simp [w00, w1]
  rw [hK]
  simpa using ih
theorem qHC (l : List (List Int × List Int)) (hl : l.length ≤ 1000000) (hx : ∀ x ∈ l, x.1.length ≤ 1000000000 ∧ x.2.length ≤ 1000000000) (c1 c2 : Option Nat) (n1 n2 : Option Bool) :
  A3 Tryz.prog Γ 26 [.sl (An F8 l) c1 n1, .sl (An F8 l) c2 n2] (tB true) := by
 refine A7 qAW rfl ?_
 have g := fun Q h0 => qG9 (Γ := Γ) (Q := Q) l hl hx c1 c2 n1 n2 h0 l.length 0 (by omega)
 simp at g
 simp [q5C, A9]
 refine g _ ?_
 simp [q5D]
theorem qAa {c : B5} (h : MOk c) : ∀ {is : List (List Int)} {s : I9}, ∀ x ∈ seqR c s is, x.1.length ≤ 1000000000 ∧ x.2.length ≤ 1000000000
 | [], _, x, hx => by simp [seqR] at hx
 | i :: is, s, x, hx => by
  simp only [seqR] at hx
  rcases List.mem_cons.1 hx with rfl | hx
  ·have := h.ok.outs
   have := Di c
   have := h.n
   exact ⟨by show (Z6 c _).length ≤ _; unfold Z6; rw [List.length_map]; assumption, by show (Df c _).length ≤ _; unfold Df; rw [List.length_map]; omega⟩
  ·exact qAa h x hx
theorem qGA {Q : AX → St → Prop} (l : List Int) (hl : l.length ≤ 1000000) (c1 c2 : Option Nat) (n1 n2 : Option Bool)
  (h0 : Q (.exit 0) ⟨[(0, .t (.sl (Av l) c1 n1)), (1, .t (.sl (Av l) c2 n2)), (5, .t (tI l.length)), (21, .t (tB false))], []⟩) :
  ∀ (k i : Nat), k + i = l.length → run Tryz.prog Γ Ua Q ⟨[(0, .t (.sl (Av l) c1 n1)), (1, .t (.sl (Av l) c2 n2)), (5, .t (tI i))], []⟩
 | 0, i, h => by
  refine q0T fun K hK => ?_
  have h2 : i = l.length := by omega
  subst h2
  simp [A0]
  simpa using h0
 | k + 1, i, h => by
  refine q0T fun K hK => ?_
  have h2 : i < l.length := by omega
  have e1 := gE (f := tI) 0 h2
  have e1' := gE' (f := tI) 0 h2
  rw [Cj h2] at e1 e1'
  generalize l[i] = x at *
  have ih := qGA l hl c1 c2 n1 n2 h0 k (i + 1) (by omega)
  have h3 : (i : Int) < l.length := by omega
  have w1 := B0 (i := i) (by omega)
  simp [A0, A6, h2, h3, e1, e1', w1]
  rw [hK]
  simpa using ih
theorem qBp (l : List Int) (hl : l.length ≤ 1000000) (c2 : Option Nat) (n1 n2 : Option Bool) :
  A3 Tryz.prog Γ 21 [.sl (Av l) (some l.length) n1, .sl (Av l) c2 n2] (tI 0) := by
 refine A7 qAX rfl ?_
 have g := fun Q h0 => qGA (Γ := Γ) (Q := Q) l hl (some l.length) c2 n1 n2 h0 l.length 0 (by omega)
 simp at g
 simp [q5F, A0]
 refine g _ ?_
 simp [q5G]
def q7A (ds : List Int) : Nat → List Int → List Int
 | _, [] => []
 | i, n :: ns => if N7 (ds.getD i 0) = true then n :: q7A ds (i + 1) ns else q7A ds (i + 1) ns
theorem qDq {ds : List Int} : ∀ {ns : List Int} {i : Nat}, (q7A ds i ns).length ≤ ns.length
 | [], _ => by simp [q7A]
 | n :: ns, i => by
  have := qDq (ds := ds) (ns := ns) (i := i + 1)
  simp only [q7A]
  split <;> simp <;> omega
theorem qFB {Q : AX → St → Prop} (S : I9) (ns : List Int) (hn : ns.length ≤ 100000) (hd : S.dff.l.length = ns.length) (R : List Int)
  (h0 : Q (.exit 0) ⟨[(7, .lp 7 0 0), (9, .ls 41 0 R.length none), (25, .t (.sl (Av ns) (some ns.length) none)), (26, .t (tI ns.length)), (27, .t (tI ns.length)), (28, .t (tB false))], [(7, .bx ((B9 S).map .t)), (41, .sl 3 1 (Av R))]⟩) :
  ∀ (k i : Nat) (out : List Int), k + i = ns.length → out.length ≤ i → out ++ q7A S.dff.l i (ns.drop i) = R →
  run Tryz.prog Γ K9 Q ⟨[(7, .lp 7 0 0), (9, .ls 41 0 out.length none), (25, .t (.sl (Av ns) (some ns.length) none)), (26, .t (tI ns.length)), (27, .t (tI i))], [(7, .bx ((B9 S).map .t)), (41, .sl 3 1 (Av out))]⟩
 | 0, i, out, h, ho, hR => by
  refine S4 fun K hK => ?_
  have h2 : i = ns.length := by omega
  subst h2
  rw [List.drop_length] at hR
  simp only [q7A, List.append_nil] at hR
  subst hR
  simp [B9, tV, tW, Ko] at h0
  simp [B9, tV, tW, Ko]
  simpa using h0
 | k + 1, i, out, h, ho, hR => by
  refine S4 fun K hK => ?_
  have h2 : i < ns.length := by omega
  have h2d : i < S.dff.l.length := by omega
  rw [List.drop_eq_getElem_cons h2] at hR
  simp only [q7A] at hR
  have e1 := gE (f := tI) 0 h2
  have e1' := gE' (f := tI) 0 h2
  rw [Cj h2] at e1 e1'
  have e2 := gE (f := tK) 0 h2d
  have e2' := gE' (f := tK) 0 h2d
  generalize ns[i] = x at *
  generalize S.dff.l.getD i 0 = d at *
  have hk := Tc (Γ := Γ) d
  have h3 : (i : Int) < ns.length := by omega
  have h4 : (i : Int) < S.dff.l.length := by omega
  have w1 := B0 (i := i) (by omega)
  by_cases hd1 : N7 d = true
  ·rw [if_pos hd1] at hR
   rw [hd1] at hk
   have ih := qFB S ns hn hd R h0 k (i + 1) (out ++ [x]) (by omega) (by simp; omega) (by rw [← hR]; simp)
   have vs := Bf (f := tI) (l := out) (x := x)
   have vt : (Av out).take out.length = Av out := Ag
   simp [B9, tV, tW, Ko] at ih
   simp [B9, tV, tW, Ko, A0, A6, h2, h3, e1, e1', h2d, h4, e2, e2']
   refine A1 hk rfl ?_
   simp [vt, vs, w1, A0]
   refine ⟨by omega, ?_⟩
   rw [hK]
   simpa using ih
  ·rw [if_neg hd1] at hR
   have hd2 : N7 d = false := by simpa using hd1
   rw [hd2] at hk
   have ih := qFB S ns hn hd R h0 k (i + 1) out (by omega) (by omega) hR
   simp [B9, tV, tW, Ko] at ih
   simp [B9, tV, tW, Ko, A0, A6, h2, h3, e1, e1', h2d, h4, e2, e2']
   refine A1 hk rfl ?_
   simp [w1]
   rw [hK]
   simpa using ih
theorem qDr {c : B5} : q90 (L9 c) := by
 refine ⟨fun h => (nomatch h), fun w hw r hr => ?_, fun r hr => ?_⟩
 ·obtain ⟨m, _, rfl⟩ := List.mem_map.1 hw
  rw [List.eq_of_mem_replicate hr]
  exact fun h => nomatch h
 ·obtain ⟨m, _, rfl⟩ := List.mem_map.1 hr
  exact fun h => nomatch h
theorem qJ2 {n : Nat} : ∀ v ∈ List.replicate n (2 : Int), 0 ≤ v ∧ v ≤ 2 := fun v hv => by rw [List.eq_of_mem_replicate hv]; omega
theorem qBq {c : B5} : I4 c (L9 c) := by
 have gm : ∀ i, i < c.mems.l.length → (L9 c).words.l.getD i Sl.zz = q62 (c.mems.l.getD i Mm.d) := fun i hi => by
  show (c.mems.l.map q62).getD i Sl.zz = _
  simp [List.getD_eq_getElem?_getD, hi]
 have gr : ∀ i, i < c.mems.l.length → (L9 c).read.l.getD i Sl.z = Qz (c.mems.l.getD i Mm.d).data.l.length := fun i hi => by
  show (c.mems.l.map fun m => Qz m.data.l.length).getD i Sl.z = _
  simp [List.getD_eq_getElem?_getD, hi]
 refine ⟨by simp [L9, Qz], by simp [L9], by simp [L9], fun i hi => by rw [gm i hi]; simp [q62], fun i hi w hw => ?_, fun i hi => by rw [gr i hi]; simp [Qz], qJ2, fun w hw r hr => ?_, fun r hr => ?_⟩
 ·rw [gm i hi] at hw
  rw [List.eq_of_mem_replicate hw]; simp [Qz]
 ·obtain ⟨m, _, rfl⟩ := List.mem_map.1 hw
  rw [List.eq_of_mem_replicate hr]; exact qJ2
 ·obtain ⟨m, _, rfl⟩ := List.mem_map.1 hr
  exact qJ2
set_option maxHeartbeats 2000000 in
theorem q3v (hΓ : GOk Γ) (c : B5) (h : MOk c) (hn : c.nodes.l.length ≤ 19) (ins : Sl (Sl Int)) (hL : ins.l.length ≤ 1000) (hv : q91 c ins.l) :
  Ac Tryz.prog Γ 28 [.agg (tC c), tW ins] (.tup [.sl (Av (q7A (seqS c (G1 (L9 c)) (ins.l.map (·.l))).dff.l 0 (Aj c))) (some (q7A (seqS c (G1 (L9 c)) (ins.l.map (·.l))).dff.l 0 (Aj c)).length) none, tI 0]) := by
 refine Ar q66 rfl ?_
 have hsl := Di c
 have e1 := qDn hΓ c h (by omega)
 have e2 := Z1 hΓ c h hn (L9 c) qBq qDr ins hL hv
 have e3 := Fo (Γ := Γ) c h.ok
 have K := (q9G h ((qCW qDr).ok (qBq (c := c))) hv.seq).d
 generalize seqS c (G1 (L9 c)) (ins.l.map (·.l)) = S at *
 generalize seqR c (G1 (L9 c)) (ins.l.map (·.l)) = RR at *
 generalize L9 c = b at *
 have g := fun Q h0 => qFB (Γ := Γ) (Q := Q) S (Aj c) (by omega) K (q7A S.dff.l 0 (Aj c)) h0 (Aj c).length 0 [] (by omega) (by simp) (by simp)
 have sl := qDq (ds := S.dff.l) (ns := Aj c) (i := 0)
 generalize q7A S.dff.l 0 (Aj c) = R at *
 have hc := q6W (Γ := Γ) (Av R) none none A6
 rw [A0] at hc
 have ht : (Av R).take R.length = Av R := Ag
 simp [B9, tV, tW, Ko, tC, A5, A8, Ad, B1] at e1 e2 e3
 simp [B9, tV, tW, Ko, D4] at g
 simp [q0Q, B9, tV, tW, Ko, tC, A5, A8, Ad, B1]
 refine Dt e1 rfl ?_
 simp
 refine Dt e2 rfl ?_
 simp
 refine Aa e3 rfl ?_
 simp [A0]
 refine g _ ?_
 simp [St.freeze, B7.closed, Bi, frz1, frz0, E1, del, Ah, ht]
 refine Aa hc rfl ?_
 simp [q0R]
end Go.Lg
namespace Go.Lg
open Go Go.Proofs Go.Proofs.YtjcogpofldkniaaGreatDoor
theorem qKA : Tryz.prog.cellsOf 79 = 2 := by kernel_rfl
theorem qKB : Rd Tryz.prog 77 fun ts => ∃ s : Sl PD, ts = [.sl (An tPD s.l) s.cap s.nl] ∧ ∀ q ∈ s.l, q8v q := by
 refine (q6S Tryz.underlying77 qFv (by decide) qOj).mono fun ts ⟨es, cap, nl, h, _, hes⟩ => ?_
 obtain ⟨l, rfl, hl⟩ := q6g (f := tPD) (Q := q8v) fun x hx => (hes x hx).1
 exact ⟨⟨l, cap, nl⟩, h, hl⟩
theorem qKC : Tryz.prog.cellsOf 77 = 1 := by kernel_rfl
theorem qM7 : Rd Tryz.prog 79 fun ts => ∃ v ps, ts = Ww v ps ∧ (∀ b ∈ v.l, Byt b) ∧ ∀ q ∈ ps.l, q8v q := by
 refine (q0w (l := [(1, fun ts => ∃ s : Sl Int, ts = [tV s] ∧ ∀ b ∈ s.l, Byt b), (1, fun ts => ∃ s : Sl PD, ts = [.sl (An tPD s.l) s.cap s.nl] ∧ ∀ q ∈ s.l, q8v q)]) Tryz.underlying79 qKA
  (.cons rfl qG7 qOm (.cons rfl qKC qKB (.nil _)))).mono fun ts h => ?_
 obtain ⟨_, _, rfl, ⟨a, rfl, ha⟩, _, _, rfl, ⟨q, rfl, hq⟩, rfl⟩ := h
 exact ⟨a, q, by simp [Ww], ha, hq⟩
end Go.Lg
namespace Go.Proofs.YtjcogpofldkniaaGreatDoor
open Go Go.Lg Go.ChangeShapes Go.WideShapes Go.ChangeAt Go.RowKit
theorem qN1 {H : Type} {enc : TypeId × Value → H} {W : World} {base : Nat} {v : Value} {d : DataW H} {p : List MemPlace} (hval : Value.okWide Tryz.prog W .any base 79 v) (h : DataW.Trod enc Tryz.prog W 0 (fun _ => true) true 79 v d p) : ∃ s ps, (∀ b ∈ s.l, Byt b) ∧ (∀ q ∈ ps.l, q8v q) ∧ TR W (Old W) (.agg (Ww s ps)) v := by
 simp only [Value.okWide, Tryz.underlying79] at hval
 obtain ⟨cs, rfl, _, _⟩ := hval
 obtain ⟨fuel, hf⟩ := h
 obtain ⟨ts, ⟨s, ps, rfl, h1, h2⟩, htr, ho⟩ := qM7 H enc W true fuel _ _ hf
 exact ⟨s, ps, h1, h2, qHz htr ho⟩
theorem qOn {n : Int} (h : (Lit.int .u8 n).wf = true) : 0 ≤ n ∧ n ≤ 255 := by
 simp only [Lit.wf, Bool.and_eq_true, decide_eq_true_eq] at h
 have h1 : IntKind.u8.min = 0 := by decide
 have h2 : IntKind.u8.max = 255 := by decide
 omega
end Go.Proofs.YtjcogpofldkniaaGreatDoor
namespace Go.Lg
open Go
section
variable {P : Program} {Γ : Tables} {w0 : World} {B : Nat} {κ : Da} {X0 : Nat → Prop} {N : Nat} {a : Act} {w : World}
def q3w : List IC → IC → IC
 | [], r => r
 | a :: l, r => .seq a (q3w l r)
theorem qGB {x y : IC} {d : Code} (h : N1 P N (.seq x y) d = true) : ∃ d1 d2, d = .seq d1 d2 ∧ N1 P N x d1 = true ∧ N1 P N y d2 = true := by
 cases d <;> simp [N1] at h
 rename_i d1 d2
 exact ⟨d1, d2, rfl, h.1, h.2⟩
def q8g : Nat → Code → Option Bool
 | 0, .seq (.region _ _ dr) _ => some dr
 | n + 1, .seq _ d => q8g n d
 | _, _ => none
theorem q67 (hN : N ≤ 1000000) (hm : P.follows .mixedOrders = true) {Qw : Exit → Act → World → Prop} {rest : IC} {sE : St} : ∀ {ms : List IC} {d : Code} {s : St} {a : Act} {w : World}, N1 P N (q3w ms rest) d = true → Inv Γ w0 B κ X0 N s a w →
  awp P Γ (q3w ms .skip) (fun e s' => e = .normal ∧ s' = sE) s → (∀ d2 a' w', N1 P N rest d2 = true → (∀ k, q8g k d2 = q8g (k + ms.length) d) → Inv Γ w0 B κ X0 N sE a' w' → d2.wp P Qw a' w') → d.wp P Qw a w
 | [], d, s, a, w, h, hI, ha, hk => by
  obtain ⟨_, rfl⟩ := ha
  exact hk d a w h (fun _ => rfl) hI
 | m :: ms, d, s, a, w, h, hI, ha, hk => by
  obtain ⟨d1, d2, rfl, h1, h2⟩ := qGB h
  refine wp_seq (wp_mono (Eb hN hm h1 hI ha) ?_)
  rintro e a' w' ⟨x, s1, rfl, hI1, hq⟩
  cases x with
  | normal => exact q67 hN hm h2 hI1 hq fun d3 a' w' h3 hr hI3 => hk d3 a' w' h3 (fun k => (hr k).trans rfl) hI3
  | exit i => exact absurd hq.1 (by simp)
  | ret => exact absurd hq.1 (by simp)
theorem qAb {f : FuncId} {ic : IC} {n : Nat} {rvs : List RV} {args : List T} {res : T} (hc : Ap P f ic N n rvs = true) (hn : args.length = n)
  (h : ∀ (w : World) (X : Nat → Prop) (c : Code) (a : Act), N ≤ 1000000 → P.follows .mixedOrders = true → Gl Γ w X → (∀ b, X b → b < w.heap.size) → N1 P N ic c = true → (P.funcs[f]?).bind (·.body) = some c → Inv Γ w w.heap.size (fun _ => none) X N ⟨params 0 args, []⟩ a w → ∀ Qw : Exit → Act → World → Prop,
   (∀ rest d2 s' a' w', N1 P N rest d2 = true → Inv Γ w w.heap.size (fun _ => none) X N s' a' w' → awp P Γ rest (qGd rvs res) s' → d2.wp P Qw a' w') → c.wp P Qw a w) : Ac P Γ f args res := by
 intro w X vs hg hx hts
 refine .inl ⟨q31 hc vs.toArray, ?_⟩
 unfold Ap at hc
 split at hc
 case h_2 => cases hc
 rename_i fn hf
 simp only [Bool.and_eq_true, Bool.not_eq_true', decide_eq_true_eq, beq_iff_eq] at hc
 obtain ⟨⟨⟨⟨⟨⟨h1, h2⟩, h3⟩, h4⟩, h5⟩, h6⟩, h7⟩ := hc
 cases hb : fn.body with
 | none => rw [hb] at h1; cases h1
 | some c =>
  rw [hb] at h1
  subst h3
  refine calls_of_wp hf hb ?_
  have hI := Inv.start (N := fn.ntmps) hg hx hts (by rw [← hts.1, hn]; exact h5)
  refine h w X c _ h4 h7 hg hx h1 (by rw [hf]; exact hb) hI _ fun rest d2 s' a' w' hr hI' hq => ?_
  refine wp_mono (Eb h4 h7 hr hI' hq) ?_
  rintro e a w' ⟨x, s, rfl, ⟨X', μ, hsim, hg', h0, hbd, hsz, hds⟩, hq⟩
  have fin : ∀ c, q0v s rvs = some (c, res) → c → a.defers = [] ∧ ∃ v, (results fn a.tmps).run P w' = .ok v w' ∧ ∃ u, Ending.returned v = .returned u ∧ RowKit.Below w.heap.size w w' ∧ TR w' (fun b => X b ∨ (w.heap.size ≤ b ∧ b < w'.heap.size)) res u := by
   intro c hr hcc
   obtain ⟨v, h8, h9⟩ := q9i hsim h6 hr hcc
   refine ⟨hds, v, h8, v, rfl, ⟨hsim.os, hsim.tape, hsim.output, hsim.size, fun k hk => hsim.fr k hk (fun id n h => by cases h)⟩, h9.mono (fun _ _ => rfl) fun b hb => ?_⟩
   rcases hb with hb | ⟨id, n, hi, hm⟩
   ·rcases hbd b hb with h | h | ⟨_, _, h⟩
    ·exact .inl h
    ·exact .inr ⟨h, hsim.xlt b hb⟩
    ·cases h
   ·obtain ⟨_, h10, h11⟩ := hsim.loc id b n hi hm
    refine .inr ⟨?_, h10⟩
    rcases Nat.lt_or_ge b w.heap.size with h | h
    ·obtain ⟨_, _, h⟩ := h11 h; cases h
    ·exact h
  cases x with
  | normal => obtain ⟨c, hr, hcc⟩ := hq; exact fin c hr hcc
  | ret => obtain ⟨c, hr, hcc⟩ := hq; exact fin c hr hcc
  | exit i => exact hq.elim
theorem qJ3 {c : IC} {rvs : List RV} {res : T} {s : St} (h : run P Γ c (ret false rvs fun r => r = res) s) : awp P Γ c (qGd rvs res) s := by
 refine Bm (Je h) fun e s h => ?_
 obtain ⟨r, hr, hq⟩ := qHv h
 subst hr
 exact hq
end
end Go.Lg
namespace Go.Lg
open Go
section
variable {P : Program} {N : Nat} {a : Act} {w : World} {Q K : Exit → Act → World → Prop}
def qB3 (b : Int) : List RO := [⟨some 156, .fadr 0 (.tmp 1), none, none⟩, ⟨some 157, .load 1 false (.tmp 156), none, none⟩, ⟨some 158, .iadr 4 (.tmp 157) (.const (.int .i64 2)), none, none⟩, ⟨some 159, .fadr 0 (.tmp 158), none, none⟩, ⟨none, .store 1 (.tmp 159) (.const (.int .u8 b)), none, none⟩]
theorem q3x {ops : List Oper} {ro : RO} {o : Oper} (h : q9a P N ops ro o = true) (hg : ro.guard = none) : ro.dst = o.dst ∧ Pm P ro.op o.op = true ∧ o.guard = none ∧ ∀ d, ro.dst = some d → d < N := by
 simp only [q9a, Bool.and_eq_true, decide_eq_true_eq, hg] at h
 obtain ⟨⟨⟨⟨⟨h1, h2⟩, _⟩, h3⟩, _⟩, h4⟩ := h
 refine ⟨h1, h2, ?_, fun d hd => by rw [hd] at h3; simpa using h3⟩
 cases hg : o.guard with
 | none => rfl
 | some x => rw [hg] at h4; cases h4
theorem q8h {o : Oper} {m : Nat → Option Bool} (h : o.guard = none) : Region.wanted o m = true := by simp [Region.wanted, h]
theorem q7B {o : Oper} {ops : Array Oper} {os : List Oper} {v : Value} (hg : o.guard = none) (hr : (execOp a.eval o).run P w = .ok (.value v) w) (hK : wpList P ops Q os (a.put o.dst v) w) : wpList P ops Q (o :: os) a w := by
 unfold wpList
 rw [q8h hg, if_pos rfl]
 left
 unfold Oper.wp
 rw [hr, Oper.upon_value]
 exact hK
theorem qHD {o : Oper} {ops : Array Oper} {os : List Oper} {w' : World} (hg : o.guard = none) (hr : (execOp a.eval o).run P w = .ok .skip w') (hK : wpList P ops Q os (a.put o.dst undef) w') : wpList P ops Q (o :: os) a w := by
 unfold wpList
 rw [q8h hg, if_pos rfl]
 left
 unfold Oper.wp
 rw [hr, Oper.upon_skip]
 exact hK
theorem q9H {d : Nat} {v : Value} (h : d < a.tmps.size) : (a.put (some d) v).tmps.getD d undef = v := by
 simp [Act.put, Array.getD, h]
theorem q2B {d t : Nat} {v : Value} (h : t ≠ d) : (a.put (some d) v).tmps.getD t undef = a.tmps.getD t undef := by
 simp only [Act.put]
 rw [Array.getD_eq_getD_getElem?, Array.getD_eq_getD_getElem?, Array.getElem?_setIfInBounds_ne (fun e => h e.symm)]
theorem La {d : Option Nat} {v : Value} : (a.put d v).tmps.size = a.tmps.size := by cases d <;> simp [Act.put]
theorem Z3 {d : Option Nat} {v : Value} : (a.put d v).defers = a.defers := by cases d <;> rfl
theorem q7C {t : Nat} : a.eval (.tmp t) = a.tmps.getD t undef := rfl
theorem qFC {gs : List Gh} {d : Code} {b : Int} {g1 gR c ty1 ty : Nat} {vs : List Value} {arr : Array Value} (hc : N1 P N (.reg (qB3 b) gs) d = true) (hdr : ∀ id ops dr, d = .region id ops dr → dr = false)
  (hsz : a.tmps.size = N) (h1 : a.tmps.getD 1 undef = .pointer (some ⟨g1, 0, none⟩)) (hh1 : w.heap[g1]? = some (.cells ((.slice (some ⟨gR, 0, none⟩) 3 c) :: vs).toArray ty1 (0, 0))) (hhR : w.heap[gR]? = some (.cells arr ty (0, 0))) (hl : 9 ≤ arr.size)
  (hK : ∀ a', a'.tmps.size = N → a'.defers = a.defers → (∀ t, t < 156 → a'.tmps.getD t undef = a.tmps.getD t undef) → Q .normal a' (w.setRow gR (arr.toList.take 8 ++ [Value.int .u8 b] ++ arr.toList.drop 9).toArray)) : d.wp P Q a w := by
 cases d <;> simp only [N1, Bool.false_eq_true] at hc
 rename_i id ops dr
 have := hdr id ops dr rfl
 subst this
 simp only [Bool.and_eq_true] at hc
 refine wp_region_list ?_
 have hc := hc.1
 generalize hos : ops.toList = os at hc ⊢
 match os, hc with
 | [], hc => simp [qB3, R9] at hc
 | [_], hc => simp [qB3, R9] at hc
 | [_, _], hc => simp [qB3, R9] at hc
 | [_, _, _], hc => simp [qB3, R9] at hc
 | [_, _, _, _], hc => simp [qB3, R9] at hc
 | _ :: _ :: _ :: _ :: _ :: _ :: _, hc => simp [qB3, R9] at hc
 | [o1, o2, o3, o4, o5], hc =>
  simp only [qB3, R9, Bool.and_eq_true, and_true] at hc
  obtain ⟨c1, c2, c3, c4, c5⟩ := hc
  obtain ⟨d1, k1, g1', n1⟩ := q3x c1 rfl
  obtain ⟨d2, k2, g2', n2⟩ := q3x c2 rfl
  obtain ⟨d3, k3, g3', n3⟩ := q3x c3 rfl
  obtain ⟨d4, k4, g4', n4⟩ := q3x c4 rfl
  obtain ⟨d5, k5, g5', _⟩ := q3x c5 rfl
  have n1 := n1 156 rfl
  have n2 := n2 157 rfl
  have n3 := n3 158 rfl
  have n4 := n4 159 rfl
  simp only at d1 d2 d3 d4 d5 k1 k2 k3 k4 k5
  -- the address of the field
  have r1 : ∀ {o : Oper} {t g q : Nat} {a : Act}, Pm P (.fadr 0 (.tmp t)) o.op = true → a.tmps.getD t undef = .pointer (some ⟨g, q, none⟩) → (execOp a.eval o).run P w = .ok (.value (.pointer (some ⟨g, q, none⟩))) w := fun {o t g q a} hk ha => by
   generalize hop : o.op = op at hk
   simp only [Pm] at hk
   split at hk
   case h_2 => cases hk
   rename_i ty b' i
   simp only [Bool.and_eq_true] at hk
   obtain ⟨hb, hk⟩ := hk
   have := Ai hb; subst this
   split at hk
   case h_2 => cases hk
   rename_i fs hu
   split at hk
   case h_2 => cases hk
   rename_i f hf
   simp only [Bool.and_eq_true, beq_iff_eq] at hk
   obtain ⟨ho, hs⟩ := hk
   split at hs
   case h_2 => cases hs
   rename_i s hs'
   have hp : 0 < s := by simpa using hs
   simp [execOp, hop, q7C, ha, Z8 hu hf ho hs' hp]
  refine q7B g1' (r1 k1 h1) ?_
  rw [← d1]
  -- the load
  have e2 : (a.put (some 156) (.pointer (some ⟨g1, 0, none⟩))).tmps.getD 156 undef = .pointer (some ⟨g1, 0, none⟩) := q9H (by omega)
  have r2 : (execOp (a.put (some 156) (.pointer (some ⟨g1, 0, none⟩))).eval o2).run P w = .ok (.value (.slice (some ⟨gR, 0, none⟩) 3 c)) w := by
   generalize hop : o2.op = op at k2
   simp only [Pm] at k2
   split at k2
   case h_2 => cases k2
   rename_i ty b'
   simp only [Bool.and_eq_true, beq_iff_eq] at k2
   obtain ⟨⟨⟨hb, hz⟩, ha⟩, _⟩ := k2
   have := Ai hb; subst this
   have hl := Xk (P := P) (w := w) (b := g1) (off := 0) (xs := [.slice (some ⟨gR, 0, none⟩) 3 c]) hz ha rfl rfl (fun j x hj => by
    match j, hj with
    | 0, hj => cases hj; simp [World.cell?, hh1]
    | j + 1, hj => simp at hj)
   simp [execOp, hop, q7C, e2, hl]
  refine q7B g2' r2 ?_
  rw [← d2]
  -- the element's address
  generalize hA2 : (a.put (some 156) (.pointer (some ⟨g1, 0, none⟩))).put (some 157) (.slice (some ⟨gR, 0, none⟩) 3 c) = a2
  have e3 : a2.tmps.getD 157 undef = .slice (some ⟨gR, 0, none⟩) 3 c := by rw [← hA2]; exact q9H (by rw [La]; omega)
  have r3 : (execOp a2.eval o3).run P w = .ok (.value (.pointer (some ⟨gR, 8, none⟩))) w := by
   generalize hop : o3.op = op at k3
   simp only [Pm] at k3
   split at k3
   case h_2 => cases k3
   rename_i ty y j
   simp only [Bool.and_eq_true] at k3
   obtain ⟨⟨hb, hj⟩, hk⟩ := k3
   have := Ai hb; subst this
   have := Ai hj; subst this
   split at hk
   case h_2 => cases hk
   rename_i e hu
   have hz : O7 P e = some 4 := by simpa using hk
   have e4 : a2.eval (.const (.int .i64 2)) = .int .i64 2 := rfl
   simp [execOp, hop, q7C, e3, e4, Instr.indexAt, asIntOf, run_underlying (By hu), Dk hz, Addr.add_lit]
  refine q7B g3' r3 ?_
  rw [← d3]
  have e5 : (a2.put (some 158) (.pointer (some ⟨gR, 8, none⟩))).tmps.getD 158 undef = .pointer (some ⟨gR, 8, none⟩) := q9H (by rw [← hA2, La, La]; omega)
  refine q7B g4' (r1 k4 e5) ?_
  rw [← d4]
  generalize hA4 : (a2.put (some 158) (.pointer (some ⟨gR, 8, none⟩))).put (some 159) (.pointer (some ⟨gR, 8, none⟩)) = a4
  have e6 : a4.tmps.getD 159 undef = .pointer (some ⟨gR, 8, none⟩) := by rw [← hA4]; exact q9H (by rw [La, ← hA2, La, La]; omega)
  -- the store
  have r5 : (execOp a4.eval o5).run P w = .ok .skip (w.setRow gR (arr.toList.take 8 ++ [Value.int .u8 b] ++ arr.toList.drop 9).toArray) := by
   generalize hop : o5.op = op at k5
   simp only [Pm] at k5
   split at k5
   case h_2 => cases k5
   rename_i ty y z
   simp only [Bool.and_eq_true, beq_iff_eq] at k5
   obtain ⟨⟨hb, hx⟩, hz⟩ := k5
   have := Ai hb; subst this
   have := Ai hx; subst this
   have hst := q2t (P := P) (w := w) (v := .int .u8 b) (o := 8) hz rfl (fun x hx => by simp [Value.cells] at hx; subst hx; rfl) hhR hl
   have e7 : a4.eval (.const (.int .u8 b)) = .int .u8 b := rfl
   simp only [execOp, hop, q7C, e6, e7, Sem.run_bind, hst]
   rfl
  refine qHD g5' r5 ?_
  rw [← d5]
  unfold wpList
  refine hK _ ?_ ?_ fun t ht => ?_
  ·rw [La, ← hA4, La, La, ← hA2, La, La, hsz]
  ·rw [Z3, ← hA4, Z3, Z3, ← hA2, Z3, Z3]
  ·show (a4.put none undef).tmps.getD t undef = _
   show a4.tmps.getD t undef = _
   rw [← hA4, q2B (by omega), q2B (by omega), ← hA2, q2B (by omega), q2B (by omega)]
end
end Go.Lg
namespace Go.Lg
open Go
section
variable {P : Program} {Γ : Tables} {N : Nat}
def qFD (ty : Nat) (nE : List (List T)) (nm mm ou o z : T) : St := ⟨[(1, .lp 1 0 0), (2, .t o), (3, .t z)], [(1, .bx [.ls 21006 0 3 none, .t nm, .t mm, .t ou]), (21006, .sl ty 4 nE)]⟩
def thM (nE : List (List T)) (nm mm ou o z : T) (vN v1 v2 v3 vz : Value) : St := ⟨[(1, .lp 1000000 0 0), (2, .t o), (3, .t (.pin z vz))], [(1000000, .bx [.t (.pin (.sl nE none none) vN), .t (.pin nm v1), .t (.pin mm v2), .t (.pin ou v3)])]⟩
def thE (nE : List (List T)) (nm mm ou z : T) (vN v1 v2 v3 vz : Value) (f0 f1 f2 f3 f4 s11 s12 s17 s18 : T) : St :=
 ⟨[(1, .lp 1000000 0 0), (3, .t (.pin z vz)), (7, .lp 7 0 0), (11, .t s11), (12, .t s12), (17, .t s17), (18, .t s18)], [(7, .bx [.t f0, .t f1, .t f2, .t f3, .t f4]), (1000000, .bx [.t (.pin (.sl nE none none) vN), .t (.pin nm v1), .t (.pin mm v2), .t (.pin ou v3)])]⟩
def thS (nE : List (List T)) (nm mm ou z : T) (y0 y1 y2 y4 : Value) (f3 s11 s12 s17 s18 : T) : St :=
 ⟨[(1, .t (.ip [.sl nE none none, nm, mm, ou] 0)), (3, .t z), (7, .t (.ip [.v y0, .v y1, .v y2, f3, .v y4] 0)), (11, .t s11), (12, .t s12), (17, .t s17), (18, .t s18)], []⟩
theorem qNy {arr : Array Value} (h : arr.size = 4) : ∃ a b c d, arr = #[a, b, c, d] := by
 obtain ⟨l⟩ := arr
 match l, h with
 | [a, b, c, d], _ => exact ⟨a, b, c, d, rfl⟩
theorem qOo {arr : Array Value} (h : arr.size = 5) : ∃ a b c d e, arr = #[a, b, c, d, e] := by
 obtain ⟨l⟩ := arr
 match l, h with
 | [a, b, c, d, e], _ => exact ⟨a, b, c, d, e, rfl⟩
theorem q9I {w : World} {g j ty : Nat} {arr : Array Value} {q : Nat × Nat} {x : Value} (h : w.heap[g]? = some (.cells arr ty q)) (hj : arr[j]? = some x) : w.cell? ⟨g, j, none⟩ = some x := by
 simp [World.cell?, h, hj]
theorem q9J {w w' : World} {X Y : Nat → Prop} {t : T} {x : Value} (h : TR w X t x) (hf : Ht t = true) : TR w' Y t x := by
 cases h with
 | v x => exact .v x
 | nil cap nl a c hc hn hz => exact .nil cap nl a c hc hn hz
 | sl es cap nl s b off c f hcell hlen hrel hone hx hle hc hn =>
  cases es with
  | nil => exact .nil cap nl _ c hc (fun q hq => by rw [hn q hq]; rfl) (fun e => by cases e)
  | cons e es => simp [Ht] at hf
 | agg => simp [Ht] at hf
 | tup => simp [Ht] at hf
 | ip => simp [Ht] at hf
 | fn => simp [Ht] at hf
 | mpnil => simp [Ht] at hf
 | mp => simp [Ht] at hf
 | pin => simp [Ht] at hf
theorem qHE {w w' : World} {X Y : Nat → Prop} {l : List Int} {cap : Option Nat} {nl : Option Bool} {v : Value} {g j : Nat} {b : Int} (h : TR w X (.sl (l.map fun n => [.v (.int .i64 n)]) cap nl) v) (hg : w.cell? ⟨g, j, none⟩ = some (.int .u8 b))
  (hs : ∀ k i, X k → ¬ (k = g ∧ i = j) → w'.cell? ⟨k, i, none⟩ = w.cell? ⟨k, i, none⟩) (hxy : ∀ k, X k → Y k) : TR w' Y (.sl (l.map fun n => [.v (.int .i64 n)]) cap nl) v := by
 generalize he : l.map (fun n => [T.v (.int .i64 n)]) = es at h
 cases h with
 | nil cap nl a c hc hn hz => exact .nil cap nl a c hc hn hz
 | sl es cap nl s bb off c f hcell hlen hrel hone hx hle hc hn =>
  by_cases hes : es = []
  ·subst hes
   exact .nil cap nl _ c hc (fun q hq => by rw [hn q hq]; rfl) (fun e => by cases e)
  have s1 : s = 1 := by
   cases es with
   | nil => exact absurd rfl hes
   | cons e es =>
    have := hlen 0 e rfl
    cases l with
    | nil => cases he
    | cons n l => simp only [List.map_cons, List.cons.injEq] at he; rw [← he.1] at this; exact this.symm
  subst s1
  have hrow : ∀ i, i < es.length → ∃ n, es[i]? = some [T.v (.int .i64 n)] := fun i hi => by
   rw [← he] at hi ⊢
   simp only [List.length_map] at hi
   exact ⟨l[i], by simp [hi]⟩
  refine .sl es cap nl 1 bb off c f (fun i k hi hk => ?_) hlen (fun i k e t h1 h2 => ?_) hone (hxy _ hx) hle hc hn
  ·rw [hs _ _ hx ?_]
   ·exact hcell i k hi hk
   ·rintro ⟨rfl, rfl⟩
    have h1 := hcell i k hi hk
    rw [hg] at h1
    obtain ⟨n, hn'⟩ := hrow i hi
    have k0 : k = 0 := by omega
    subst k0
    have h2 := (hrel i 0 _ _ hn' rfl).v_inv
    rw [h2] at h1
    cases h1
  ·have hi := (List.getElem?_eq_some_iff.1 h1).1
   obtain ⟨n, hn'⟩ := hrow i hi
   rw [hn'] at h1
   cases h1
   have h3 := (hrel i k _ t hn' h2)
   have hk := (List.getElem?_eq_some_iff.1 h2).1
   have k0 : k = 0 := by simpa using hk
   subst k0
   simp at h2
   subst h2
   rw [h3.v_inv]
   exact .v _
def Qp {α : Type} (e0 e1 e2 e3 e4 e5 e6 e7 e8 e9 e10 e11 : α) : List (List α) := [[e0, e1, e2, e3], [e4, e5, e6, e7], [e8, e9, e10, e11]]
theorem qAc {α : Type} {e0 e1 e2 e3 e4 e5 e6 e7 e8 e9 e10 e11 : α} {i k : Nat} {e : List α} {t : α} (h1 : (Qp e0 e1 e2 e3 e4 e5 e6 e7 e8 e9 e10 e11)[i]? = some e) (h2 : e[k]? = some t) :
  i < 3 ∧ k < 4 ∧ [e0, e1, e2, e3, e4, e5, e6, e7, e8, e9, e10, e11][i * 4 + k]? = some t := by
 unfold Qp at h1
 match i, h1 with
 | 0, h1 => cases h1; match k, h2 with
  | 0, h2 => exact ⟨by omega, by omega, h2⟩
  | 1, h2 => exact ⟨by omega, by omega, h2⟩
  | 2, h2 => exact ⟨by omega, by omega, h2⟩
  | 3, h2 => exact ⟨by omega, by omega, h2⟩
  | k + 4, h2 => simp at h2
 | 1, h1 => cases h1; match k, h2 with
  | 0, h2 => exact ⟨by omega, by omega, h2⟩
  | 1, h2 => exact ⟨by omega, by omega, h2⟩
  | 2, h2 => exact ⟨by omega, by omega, h2⟩
  | 3, h2 => exact ⟨by omega, by omega, h2⟩
  | k + 4, h2 => simp at h2
 | 2, h1 => cases h1; match k, h2 with
  | 0, h2 => exact ⟨by omega, by omega, h2⟩
  | 1, h2 => exact ⟨by omega, by omega, h2⟩
  | 2, h2 => exact ⟨by omega, by omega, h2⟩
  | 3, h2 => exact ⟨by omega, by omega, h2⟩
  | k + 4, h2 => simp at h2
 | i + 3, h1 => simp at h1
set_option maxHeartbeats 4000000 in
theorem qNz (hN : N ≤ 1000000) (hmx : P.follows .mixedOrders = true) {w : World} {X : Nat → Prop} (hX : ∀ b, X b → b < w.heap.size) (hg : Gl Γ w X) {a1 : Act} {w1 : World} {ty : Nat} {e0 e1 e2 e3 e4 e5 e6 e7 e9 e10 e11 nm mm ou o z : T} {b8 b8' : Int}
  {ms : List IC} {gs : List Gh} {rest : IC} {d : Code} {f0 f1 f2 f4 s11 s12 s17 s18 : T} {lo : List Int} {co : Option Nat} {no : Option Bool} {rvs : List RV} {res : T} {Qw : Exit → Act → World → Prop}
  (hI : Inv Γ w w.heap.size (fun _ => none) X N (qFD ty (Qp e0 e1 e2 e3 e4 e5 e6 e7 (.v (.int .u8 b8)) e9 e10 e11) nm mm ou o z) a1 w1)
  (hd : N1 P N (q3w ms (.seq (.reg (qB3 b8') gs) rest)) d = true) (hdr : q8g ms.length d = some false)
  (hz : ∀ (w : World) (X : Nat → Prop) (v : Value), TR w X z v → ∃ a n m, v = Value.slice a n m) (hM : ∀ vN v1 v2 v3 vz, (∃ a n m, vz = Value.slice a n m) → awp P Γ (q3w ms .skip) (fun e s' => e = .normal ∧ s' = thE (Qp e0 e1 e2 e3 e4 e5 e6 e7 (.v (.int .u8 b8)) e9 e10 e11) nm mm ou z vN v1 v2 v3 vz f0 f1 f2 (.sl (lo.map fun n => [.v (.int .i64 n)]) co no) f4 s11 s12 s17 s18) (thM (Qp e0 e1 e2 e3 e4 e5 e6 e7 (.v (.int .u8 b8)) e9 e10 e11) nm mm ou o z vN v1 v2 v3 vz))
  (hfl : Ht s11 = true ∧ Ht s12 = true ∧ Ht s17 = true ∧ Ht s18 = true)
  (hS : ∀ y0 y1 y2 y4, awp P Γ rest (qGd rvs res) (thS (Qp e0 e1 e2 e3 e4 e5 e6 e7 (.v (.int .u8 b8')) e9 e10 e11) nm mm ou z y0 y1 y2 y4 (.sl (lo.map fun n => [.v (.int .i64 n)]) co no) s11 s12 s17 s18))
  (fin : ∀ rest d2 s' a' w', N1 P N rest d2 = true → Inv Γ w w.heap.size (fun _ => none) X N s' a' w' → awp P Γ rest (qGd rvs res) s' → d2.wp P Qw a' w') : d.wp P Qw a1 w1 := by
 obtain ⟨X1, μ1, S, hg1, h01, hb1, hsz1, hds1⟩ := hI
 have hX1 : ∀ b, X1 b → X b ∨ w.heap.size ≤ b := fun b hb => by
  rcases hb1 b hb with h | h | ⟨_, _, h⟩
  ·exact .inl h
  ·exact .inr h
  ·cases h
 -- the two regions
 obtain ⟨one1, g1, arr1, ty1, hm1, hh1, hs1, hr1⟩ := S.reg 1 _ rfl
 obtain ⟨vN, v1, v2, v3, rfl⟩ := qNy hs1.symm
 have tN := hr1 0 _ _ rfl rfl
 have t1 := (hr1 1 _ _ rfl rfl).t_inv
 have t2 := (hr1 2 _ _ rfl rfl).t_inv
 have t3 := (hr1 3 _ _ rfl rfl).t_inv
 have o1 : v1.oneCell' = true := t1.one (one1 1 _ rfl)
 have o2 : v2.oneCell' = true := t2.one (one1 2 _ rfl)
 have o3 : v3.oneCell' = true := t3.one (one1 3 _ rfl)
 obtain ⟨rows, hR⟩ := S.reg 21006 _ rfl
 obtain ⟨gR, arr, hmR, hhR, hlR, hrR⟩ : ∃ g arr, μ1 21006 = some (g, arr.size) ∧ w1.heap[g]? = some (.cells arr ty (0, 0)) ∧ 3 * 4 ≤ arr.size ∧ ∀ (i k : Nat) (e : List T) (t : T) (x : Value), (Qp e0 e1 e2 e3 e4 e5 e6 e7 (.v (.int .u8 b8)) e9 e10 e11)[i]? = some e → e[k]? = some t → arr[i * 4 + k]? = some x → TR w1 X1 t x := by
  rcases hR with ⟨h, _⟩ | h
  ·simp [Qp] at h
  ·exact h
 have h1R : g1 ≠ gR := fun e => by
  have := S.inj 1 21006 g1 _ _ (by simp [St.sh, qFD, A2]) (by simp [St.sh, qFD, A2]) hm1 (e ▸ hmR)
  omega
 obtain ⟨l1a, l1b, l1c⟩ := S.loc 1 g1 _ (by simp [St.sh, qFD, A2]) hm1
 obtain ⟨lRa, lRb, lRc⟩ := S.loc 21006 gR _ (by simp [St.sh, qFD, A2]) hmR
 have l1d : w.heap.size ≤ g1 := by
  rcases Nat.lt_or_ge g1 w.heap.size with h | h
  ·obtain ⟨_, _, h⟩ := l1c h; cases h
  ·exact h
 have lRd : w.heap.size ≤ gR := by
  rcases Nat.lt_or_ge gR w.heap.size with h | h
  ·obtain ⟨_, _, h⟩ := lRc h; cases h
  ·exact h
 obtain ⟨sN, nN, hshN, hN1⟩ := tN.ls_inv
 have hsN : sN = 4 ∧ nN = 3 := by
  have : some (Sh.sl 4 3) = some (Sh.sl sN nN) := by rw [← hshN]; rfl
  cases this; exact ⟨rfl, rfl⟩
 obtain ⟨rfl, rfl⟩ := hsN
 obtain ⟨c, hvN, hc3', hcm, hcf⟩ : ∃ c, vN = .slice (some ⟨gR, 0, none⟩) 3 c ∧ 3 ≤ c ∧ c ≤ maxLen ∧ c * 4 = arr.size := by
  rcases hN1 with ⟨_, _, _, h, _⟩ | ⟨g, m, c, ad, hm, hv, hle, hlc, hcm, hfit, hfull, hcap, had⟩
  ·cases h
  ·rw [hmR] at hm
   cases hm
   have := hfull rfl
   rw [had (.inr rfl)] at hv
   exact ⟨c, by simpa using hv, hlc, hcm, by omega⟩
 have p1 : a1.tmps.getD 1 undef = .pointer (some ⟨g1, 0, none⟩) := by
  obtain ⟨g, m, hm, h⟩ := (S.env 1 _ rfl).lp_inv
  rw [hm1] at hm
  cases hm
  rcases h with ⟨s, n, h, _⟩ | ⟨_, _, h⟩
  ·cases (show some Sh.bx = some (Sh.sl s n) from h)
  ·exact h
 have to := (S.env 2 _ rfl).t_inv
 have tz := (S.env 3 _ rfl).t_inv
 -- the nodes as a tree
 let X1' : Nat → Prop := fun b => X1 b ∨ b = gR
 let κ1 : Da := fun id => if id = 1000000 then some (g1, 4) else none
 have same1 : Same X1 w1 w1 := fun _ _ => rfl
 have tNt : TR w1 X1' (.sl (Qp e0 e1 e2 e3 e4 e5 e6 e7 (.v (.int .u8 b8)) e9 e10 e11) none none) vN := by
  rw [hvN]
  refine .sl _ none none 4 gR 0 c (fun i k => arr.getD (i * 4 + k) undef) (fun i k hi hk => ?_) (fun i e he => (rows i e he).1) (fun i k e t h1 h2 => ?_) (fun i k e t h1 h2 => (rows i e h1).2 k t h2) (.inr rfl) hc3' (fun _ h => by cases h) (fun _ h => by cases h)
  ·have hi' : i < 3 := hi
   have hj : i * 4 + k < arr.size := by omega
   refine (q9I (x := arr[i * 4 + k]) hhR (by simp [hj])).trans ?_ |> fun h => by simpa using h
   simp [Array.getD, hj]
  ·obtain ⟨hi, hk, _⟩ := qAc h1 h2
   have hj : i * 4 + k < arr.size := by omega
   have := hrR i k e t arr[i * 4 + k] h1 h2 (by simp [hj])
   simpa [Array.getD, hj] using this.mono same1 (fun _ h => .inl h)
 have IM : Inv Γ w1 w1.heap.size κ1 X1' N (thM (Qp e0 e1 e2 e3 e4 e5 e6 e7 (.v (.int .u8 b8)) e9 e10 e11) nm mm ou o z vN v1 v2 v3 (a1.tmps.getD 3 undef)) a1 w1 := by
  refine ⟨X1', κ1, ⟨fun t a ht => ?_, fun id r hr => ?_, fun id id' g n n' hi hi' hm hm' => ?_, fun id g n hi hm => ?_, fun _ _ _ => rfl, fun id l h => ?_, fun b hb => ?_, rfl, rfl, rfl, Nat.le_refl _, fun _ _ _ => rfl⟩, hg1.mono same1 (fun _ h => .inl h), fun _ h => h, fun _ h => .inl h, hsz1, hds1⟩
  ·simp only [thM, A2] at ht
   split at ht
   ·rename_i e; subst e; cases ht
    rw [p1]; exact .lpbx 1000000 0 g1 4 rfl (by simp [κ1])
   split at ht
   ·rename_i e; subst e; cases ht; exact .t _ _ (to.mono same1 fun _ h => .inl h)
   split at ht
   ·rename_i e; subst e; cases ht; exact .t _ _ (.pin _ _ (tz.mono same1 fun _ h => .inl h))
   ·cases ht
  ·simp only [thM, A2] at hr
   split at hr
   ·rename_i e; subst e; cases hr
    refine ⟨fun k a hk => ?_, g1, _, ty1, by simp [κ1], hh1, rfl, fun k a x hk hx => ?_⟩
    ·match k, hk with
     | 0, hk => cases hk; rw [hvN]; rfl
     | 1, hk => cases hk; exact o1
     | 2, hk => cases hk; exact o2
     | 3, hk => cases hk; exact o3
     | k + 4, hk => simp at hk
    ·match k, hk, hx with
     | 0, hk, hx => cases hk; cases hx; exact .t _ _ (.pin _ _ tNt)
     | 1, hk, hx => cases hk; cases hx; exact .t _ _ (.pin _ _ (t1.mono same1 fun _ h => .inl h))
     | 2, hk, hx => cases hk; cases hx; exact .t _ _ (.pin _ _ (t2.mono same1 fun _ h => .inl h))
     | 3, hk, hx => cases hk; cases hx; exact .t _ _ (.pin _ _ (t3.mono same1 fun _ h => .inl h))
     | k + 4, hk, hx => simp at hk
   ·cases hr
  ·have key : ∀ j, St.sh (thM (Qp e0 e1 e2 e3 e4 e5 e6 e7 (.v (.int .u8 b8)) e9 e10 e11) nm mm ou o z vN v1 v2 v3 (a1.tmps.getD 3 undef)) j ≠ none → j = 1000000 := fun j hj => by
    simp only [St.sh, thM, A2] at hj
    split at hj
    ·rename_i e; exact e.symm
    ·simp at hj
   rw [key _ hi, key _ hi']
  ·have key : id = 1000000 := by
    simp only [St.sh, thM, A2] at hi
    split at hi
    ·rename_i e; exact e.symm
    ·simp at hi
   subst key
   simp [κ1] at hm
   obtain ⟨rfl, rfl⟩ := hm
   refine ⟨fun h => ?_, l1b, fun _ => ⟨1000000, 4, by simp [κ1]⟩⟩
   rcases h with h | h
   ·exact l1a h
   ·exact h1R h
  ·simp only [κ1] at h
   split at h
   ·omega
   ·cases h
  ·rcases hb with hb | rfl
   ·exact S.xlt b hb
   ·exact lRb
 refine q67 hN hmx hd IM (hM _ _ _ _ _ (hz _ _ _ tz)) fun d2 a2 w2 hd2 hr2' hI2 => ?_
 obtain ⟨X2, μ2, S2, hg2, h02, hb2, hsz2, hds2⟩ := hI2
 have k1 : μ2 1000000 = some (g1, 4) := (S2.kap 1000000 (Nat.le_refl _) (by simp [St.sh, thE, A2])).trans (by simp [κ1])
 obtain ⟨q1, g1', arr2, ty2, hm2, hh2, hs2, hr2⟩ := S2.reg 1000000 _ rfl
 obtain ⟨u0, u1, u2, u3, rfl⟩ := qNy hs2.symm
 rw [k1] at hm2
 have hg1' : g1' = g1 := by cases hm2; rfl
 subst hg1'
 have pin : ∀ {t : T} {x y : Value} {w : World} {X : Nat → Prop}, TR w X (.pin t x) y → y = x := fun h => by cases h; rfl
 have w0' := (pin (hr2 0 _ _ rfl rfl).t_inv).symm
 have w1' := (pin (hr2 1 _ _ rfl rfl).t_inv).symm
 have w2' := (pin (hr2 2 _ _ rfl rfl).t_inv).symm
 have w3' := (pin (hr2 3 _ _ rfl rfl).t_inv).symm
 subst w0'; subst w1'; subst w2'; subst w3'
 obtain ⟨q7, g7, arr7, ty7, hm7, hh7, hs7, hr7⟩ := S2.reg 7 _ rfl
 obtain ⟨y0, y1, y2, y3, y4, rfl⟩ := qOo hs7.symm
 have t7 := (hr7 3 _ _ rfl rfl).t_inv
 have oy : ∀ (j : Nat) (a : T) (x : Value), ([f0, f1, f2, (.sl (lo.map fun n => [.v (.int .i64 n)]) co no), f4] : List T)[j]? = some a → (#[y0, y1, y2, y3, y4] : Array Value)[j]? = some x → x.oneCell' = true := fun j a x h1 h2 =>
  ((hr7 j (.t a) x (by rw [show ([.t f0, .t f1, .t f2, .t (.sl (lo.map fun n => [.v (.int .i64 n)]) co no), .t f4] : List AV) = ([f0, f1, f2, (.sl (lo.map fun n => [.v (.int .i64 n)]) co no), f4] : List T).map .t from rfl, List.getElem?_map, h1]; rfl) h2).t_inv).one
   (q7 j (.t a) (by rw [show ([.t f0, .t f1, .t f2, .t (.sl (lo.map fun n => [.v (.int .i64 n)]) co no), .t f4] : List AV) = ([f0, f1, f2, (.sl (lo.map fun n => [.v (.int .i64 n)]) co no), f4] : List T).map .t from rfl, List.getElem?_map, h1]; rfl))
 have p1' : a2.tmps.getD 1 undef = .pointer (some ⟨g1', 0, none⟩) := by
  obtain ⟨g, m, hm, h⟩ := (S2.env 1 _ rfl).lp_inv
  rw [k1] at hm
  cases hm
  rcases h with ⟨s, n, h, _⟩ | ⟨_, _, h⟩
  ·cases (show some Sh.bx = some (Sh.sl s n) from h)
  ·exact h
 have p3' := pin (S2.env 3 _ rfl).t_inv
 have p7' : a2.tmps.getD 7 undef = .pointer (some ⟨g7, 0, none⟩) := by
  obtain ⟨g, m, hm, h⟩ := (S2.env 7 _ rfl).lp_inv
  rw [hm7] at hm
  cases hm
  rcases h with ⟨s, n, h, _⟩ | ⟨_, _, h⟩
  ·cases (show some Sh.bx = some (Sh.sl s n) from h)
  ·exact h
 have z11 := (S2.env 11 _ rfl).t_inv
 have z12 := (S2.env 12 _ rfl).t_inv
 have z17 := (S2.env 17 _ rfl).t_inv
 have z18 := (S2.env 18 _ rfl).t_inv
 have h71 : g7 ≠ g1' := fun e => by
  have := S2.inj 7 1000000 g7 _ _ (by simp [St.sh, thE, A2]) (by simp [St.sh, thE, A2]) hm7 (e ▸ k1)
  omega
 obtain ⟨l7a, l7b, l7c⟩ := S2.loc 7 g7 _ (by simp [St.sh, thE, A2]) hm7
 have l7d : w1.heap.size ≤ g7 := by
  rcases Nat.lt_or_ge g7 w1.heap.size with h | h
  ·obtain ⟨id, n, h⟩ := l7c h
   simp only [κ1] at h
   split at h
   ·cases h; exact absurd rfl h71
   ·cases h
  ·exact h
 have fr2 : ∀ k, k < w1.heap.size → k ≠ g1' → w2.heap[k]? = w1.heap[k]? := fun k hk hne => S2.fr k hk fun id n h => by
  simp only [κ1] at h
  split at h
  ·cases h; exact hne rfl
  ·cases h
 have hhR2 := (fr2 gR lRb (Ne.symm h1R)).trans hhR
 have sz2 := S2.size
 -- the store
 let xs : Nat → Value := fun j => arr.getD j undef
 have hxs : ∀ j, j < arr.size → arr[j]? = some (xs j) := fun j hj => by simp [xs, Array.getD, hj]
 have x8 : xs 8 = .int .u8 b8 := (hrR 2 0 _ _ _ rfl rfl (hxs 8 (by omega))).v_inv
 have frX : ∀ k, k < w.heap.size → w2.heap[k]? = w.heap[k]? := fun k hk => (fr2 k (Nat.lt_of_lt_of_le hk S.size) (by omega)).trans (S.fr k hk fun _ _ h => by cases h)
 obtain ⟨d3, d4, rfl, hc3, hc4⟩ := qGB hd2
 have hdr' : q8g 0 (.seq d3 d4) = some false := by rw [hr2', Nat.zero_add]; exact hdr
 refine wp_seq (qFC (Q := fun e a w => Exit.then (d4.wp P Qw) Qw e a w) hc3 (fun id ops dr e => ?_) hsz2 p1' (vs := [v1, v2, v3]) (by rw [hh2, hvN]) hhR2 (by omega) fun a3 z3 z4 z5 => ?_)
 ·subst e
  simpa [q8g] using hdr'
 -- what stands behind the store
 generalize hA : (arr.toList.take 8 ++ [Value.int .u8 b8'] ++ arr.toList.drop 9).toArray = arr3
 have hsz3 : arr3.size = arr.size := by rw [← hA]; simp; omega
 have hget3 : ∀ j, j ≠ 8 → arr3[j]? = arr[j]? := fun j hj => by
  rw [← hA]
  simp only [List.getElem?_toArray, List.append_assoc]
  by_cases h : j < 8
  ·rw [List.getElem?_append_left (by simp; omega), List.getElem?_take, if_pos h]; simp
  ·have e8 : (arr.toList.take 8).length = 8 := by simp; omega
   rw [List.getElem?_append_right (by omega), e8]
   obtain ⟨q, rfl⟩ : ∃ q, j = q + 9 := ⟨j - 9, by omega⟩
   rw [show q + 9 - 8 = q + 1 by omega]
   simp only [List.singleton_append, List.getElem?_cons_succ, List.getElem?_drop]
   rw [show 9 + q = q + 9 by omega]
   simp
 have hget8 : arr3[8]? = some (.int .u8 b8') := by
  rw [← hA]
  simp only [List.getElem?_toArray, List.append_assoc]
  have e8 : (arr.toList.take 8).length = 8 := by simp; omega
  rw [List.getElem?_append_right (by omega), e8]
  simp
 have hw3R : (w2.setRow gR arr3).heap[gR]? = some (.cells arr3 ty (0, 0)) := setRow_heap w2 gR arr _ ty _ hhR2
 have hw3 : ∀ j, j ≠ gR → (w2.setRow gR arr3).heap[j]? = w2.heap[j]? := fun j hj => setRow_other w2 gR j _ hj
 have sz3 : (w2.setRow gR arr3).heap.size = w2.heap.size := by simp [World.setRow]
 have o3' : (w2.setRow gR arr3).os = w2.os ∧ (w2.setRow gR arr3).tape = w2.tape ∧ (w2.setRow gR arr3).output = w2.output := ⟨rfl, rfl, rfl⟩
 generalize hW : w2.setRow gR arr3 = w3 at *
 show d4.wp P Qw a3 w3
 have X1w3 : Same X1 w1 w3 := fun b hb => by
  have h1 := S.xlt b hb
  rw [hw3 b (fun e => lRa (e ▸ hb)), fr2 b h1 (fun e => l1a (e ▸ hb))]
 let X4 : Nat → Prop := fun b => b < w3.heap.size ∧ (X b ∨ w.heap.size ≤ b)
 have X14 : ∀ b, X1 b → X4 b := fun b hb => ⟨by have := S.xlt b hb; omega, hX1 b hb⟩
 have X24 : ∀ b, X2 b → X4 b := fun b hb => by
  refine ⟨by have := S2.xlt b hb; omega, ?_⟩
  rcases hb2 b hb with h | h | ⟨id, n, h⟩
  ·rcases h with h | rfl
   ·exact hX1 b h
   ·exact .inr lRd
  ·exact .inr (Nat.le_trans S.size h)
  ·simp only [κ1] at h
   split at h
   ·cases h; exact .inr l1d
   ·cases h
 have tN3 : TR w3 X4 (.sl (Qp e0 e1 e2 e3 e4 e5 e6 e7 (.v (.int .u8 b8')) e9 e10 e11) none none) (.slice (some ⟨gR, 0, none⟩) 3 c) := by
  have rows' : ∀ i k e t, (Qp e0 e1 e2 e3 e4 e5 e6 e7 (.v (.int .u8 b8')) e9 e10 e11)[i]? = some e → e[k]? = some t → (i * 4 + k = 8 ∧ t = .v (.int .u8 b8')) ∨ (i * 4 + k ≠ 8 ∧ ∃ e', (Qp e0 e1 e2 e3 e4 e5 e6 e7 (.v (.int .u8 b8)) e9 e10 e11)[i]? = some e' ∧ e'[k]? = some t) := by
   intro i k e t h1 h2
   obtain ⟨hi, hk, _⟩ := qAc h1 h2
   match i, hi, k, hk, h1, h2 with
   | 0, _, 0, _, h1, h2 | 0, _, 1, _, h1, h2 | 0, _, 2, _, h1, h2 | 0, _, 3, _, h1, h2 | 1, _, 0, _, h1, h2 | 1, _, 1, _, h1, h2 | 1, _, 2, _, h1, h2 | 1, _, 3, _, h1, h2 | 2, _, 1, _, h1, h2 | 2, _, 2, _, h1, h2 | 2, _, 3, _, h1, h2 =>
    cases h1; cases h2; exact .inr ⟨by omega, _, rfl, rfl⟩
   | 2, _, 0, _, h1, h2 => cases h1; cases h2; exact .inl ⟨rfl, rfl⟩
  refine .sl _ none none 4 gR 0 c (fun i k => arr3.getD (i * 4 + k) undef) (fun i k hi hk => ?_) (fun i e he => ?_) (fun i k e t h1 h2 => ?_) (fun i k e t h1 h2 => ?_) ⟨by omega, .inr lRd⟩ hc3' (fun _ h => by cases h) (fun _ h => by cases h)
  ·have hi' : i < 3 := hi
   have hj : i * 4 + k < arr3.size := by omega
   rw [Nat.zero_add]
   exact q9I hw3R (by rw [Array.getD_eq_getD_getElem?, Array.getElem?_eq_getElem hj]; rfl)
  ·match i, he with
   | 0, he => cases he; rfl
   | 1, he => cases he; rfl
   | 2, he => cases he; rfl
   | i + 3, he => simp [Qp] at he
  ·obtain ⟨hi, hk, _⟩ := qAc h1 h2
   have hj : i * 4 + k < arr.size := by omega
   rcases rows' i k e t h1 h2 with ⟨h8, rfl⟩ | ⟨h8, e', h3, h4⟩
   ·rw [h8]
    have : arr3.getD 8 undef = .int .u8 b8' := by simp [Array.getD_eq_getD_getElem?, hget8]
    rw [this]; exact .v _
   ·have : arr3.getD (i * 4 + k) undef = arr[i * 4 + k] := by rw [Array.getD_eq_getD_getElem?, hget3 _ h8]; simp [hj]
    rw [this]
    exact (hrR i k e' t arr[i * 4 + k] h3 h4 (by simp [hj])).mono X1w3 X14
  ·rcases rows' i k e t h1 h2 with ⟨h8, rfl⟩ | ⟨h8, e', h3, h4⟩
   ·rfl
   ·exact (rows i e' h3).2 k t h4
 have cell3 : ∀ k i, X2 k → ¬ (k = gR ∧ i = 8) → w3.cell? ⟨k, i, none⟩ = w2.cell? ⟨k, i, none⟩ := fun k i hk hne => by
  by_cases hkR : k = gR
  ·subst hkR
   simp only [World.cell?, hw3R, hhR2]
   have h8 : i ≠ 8 := fun e => hne ⟨rfl, e⟩
   simpa using hget3 i h8
  ·simp only [World.cell?, hw3 k hkR]
 have t7' := qHE (Y := X4) t7 (show w2.cell? ⟨gR, 8, none⟩ = some (.int .u8 b8) by simp [World.cell?, hhR2, hxs 8 (by omega), x8]) cell3 X24
 have h7R : g7 ≠ gR := by omega
 have hh73 := (hw3 g7 h7R).trans hh7
 have hh13 := (hw3 g1' h1R).trans hh2
 have kt : ∀ {t : Nat}, t < 156 → a3.tmps.getD t undef = a2.tmps.getD t undef := fun {t} ht => z5 t ht
 refine fin rest d4 (thS (Qp e0 e1 e2 e3 e4 e5 e6 e7 (.v (.int .u8 b8')) e9 e10 e11) nm mm ou z y0 y1 y2 y4 (.sl (lo.map fun n => [.v (.int .i64 n)]) co no) s11 s12 s17 s18) a3 w3 hc4 ⟨X4, fun _ => none, ⟨fun t a ht => ?_, fun id r hr => by simp [thS, A2] at hr, fun _ _ _ _ _ _ _ h => (by cases h), fun _ _ _ _ h => (by cases h), fun _ _ _ => rfl, fun _ _ h => (by cases h), fun b hb => hb.1, ?_, ?_, ?_, by rw [sz3]; have := S.size; omega, fun k hk _ => ?_⟩, ?_, fun b hb => ⟨by have := hX b hb; have := S.size; omega, .inl hb⟩, fun b hb => ?_, z3, z4.trans hds2⟩ (hS _ _ _ _)
 ·simp only [thS, A2] at ht
  split at ht
  ·rename_i e; subst e; cases ht
   rw [kt (by omega), p1']
   refine .t _ _ (.ip _ 0 g1' 0 (fun j => [(.slice (some ⟨gR, 0, none⟩) 3 c : Value), v1, v2, v3].getD j undef) (fun j hj => ?_) (fun j t ht => ?_) (fun j t ht => ?_) ⟨by omega, .inr l1d⟩)
   ·have hj4 : j < 4 := hj
    match j, hj4 with
    | 0, _ | 1, _ | 2, _ | 3, _ => exact q9I hh13 (by rw [hvN]; rfl)
   ·match j, ht with
    | 0, ht => cases ht; exact tN3
    | 1, ht => cases ht; exact t1.mono X1w3 X14
    | 2, ht => cases ht; exact t2.mono X1w3 X14
    | 3, ht => cases ht; exact t3.mono X1w3 X14
    | j + 4, ht => simp at ht
   ·match j, ht with
    | 0, ht => cases ht; rfl
    | 1, ht => cases ht; exact one1 1 _ rfl
    | 2, ht => cases ht; exact one1 2 _ rfl
    | 3, ht => cases ht; exact one1 3 _ rfl
    | j + 4, ht => simp at ht
  split at ht
  ·rename_i e; subst e; cases ht
   rw [kt (by omega), p3']; exact .t _ _ (tz.mono X1w3 X14)
  split at ht
  ·rename_i e; subst e; cases ht
   rw [kt (by omega), p7']
   refine .t _ _ (.ip _ 0 g7 0 (fun j => [y0, y1, y2, y3, y4].getD j undef) (fun j hj => ?_) (fun j t ht => ?_) (fun j t ht => ?_) ⟨by omega, .inr (by have := S.size; omega)⟩)
   ·have hj5 : j < 5 := hj
    match j, hj5 with
    | 0, _ | 1, _ | 2, _ | 3, _ | 4, _ => exact q9I hh73 rfl
   ·match j, ht with
    | 0, ht => cases ht; exact .v _
    | 1, ht => cases ht; exact .v _
    | 2, ht => cases ht; exact .v _
    | 3, ht => cases ht; exact t7'
    | 4, ht => cases ht; exact .v _
    | j + 5, ht => simp at ht
   ·match j, ht with
    | 0, ht => cases ht; exact oy 0 _ _ rfl rfl
    | 1, ht => cases ht; exact oy 1 _ _ rfl rfl
    | 2, ht => cases ht; exact oy 2 _ _ rfl rfl
    | 3, ht => cases ht; rfl
    | 4, ht => cases ht; exact oy 4 _ _ rfl rfl
    | j + 5, ht => simp at ht
  split at ht
  ·rename_i e; subst e; cases ht; rw [kt (by omega)]; exact .t _ _ (q9J z11 hfl.1)
  split at ht
  ·rename_i e; subst e; cases ht; rw [kt (by omega)]; exact .t _ _ (q9J z12 hfl.2.1)
  split at ht
  ·rename_i e; subst e; cases ht; rw [kt (by omega)]; exact .t _ _ (q9J z17 hfl.2.2.1)
  split at ht
  ·rename_i e; subst e; cases ht; rw [kt (by omega)]; exact .t _ _ (q9J z18 hfl.2.2.2)
  ·cases ht
 ·exact o3'.1.trans (S2.os.trans S.os)
 ·exact o3'.2.1.trans (S2.tape.trans S.tape)
 ·exact o3'.2.2.trans (S2.output.trans S.output)
 ·rw [hw3 k (by omega)]; exact frX k hk
 ·refine hg.mono (fun b hb => ?_) fun b hb => ⟨by have := hX b hb; have := S.size; omega, .inl hb⟩
  have := hX b hb
  rw [hw3 b (by omega)]; exact frX b this
 ·rcases hb.2 with h | h
  ·exact .inl h
  ·exact .inr (.inl h)
end
end Go.Lg
namespace Go.Lg
open Go
section
variable {P : Program} {Γ : Tables}
def Imp (t' t : T) : Prop := ∀ (w : World) (X : Nat → Prop) (v : Value), TR w X t' v → TR w X t v
theorem Imp.refl (t : T) : Imp t t := fun _ _ _ h => h
theorem Imp.pin (t : T) (x : Value) : Imp (.pin t x) t := fun _ _ _ h => by cases h; assumption
inductive q3y : List T → List T → Prop
 | nil : q3y [] []
 | cons {t' t : T} {ts' ts : List T} (h : Imp t' t) (hs : q3y ts' ts) : q3y (t' :: ts') (t :: ts)
theorem q3y.refl : ∀ (ts : List T), q3y ts ts
 | [] => .nil
 | t :: ts => .cons (.refl t) (q3y.refl ts)
theorem q3y.len {ts' ts : List T} (h : q3y ts' ts) : ts'.length = ts.length := by induction h <;> simp_all
theorem q3y.get {ts' ts : List T} (h : q3y ts' ts) : ∀ {k : Nat} {t : T}, ts[k]? = some t → ∃ t', ts'[k]? = some t' ∧ Imp t' t := by
 induction h with
 | nil => intro k t h; simp at h
 | cons h hs ih =>
  intro k t hk
  cases k with
  | zero => simp at hk; subst hk; exact ⟨_, rfl, h⟩
  | succ k => simp at hk; simpa using ih hk
theorem q3y.trs {ts' ts : List T} (h : q3y ts' ts) {w : World} {X : Nat → Prop} {vs : List Value} (ht : F3 w X ts' vs) : F3 w X ts vs :=
 ⟨by rw [← h.len]; exact ht.1, fun k t x hk hx => by
  obtain ⟨t', h1, h2⟩ := h.get hk
  exact h2 w X x (ht.2 k t' x h1 hx)⟩
theorem Imp.agg {ts' ts : List T} (h : q3y ts' ts) (ho : C6 ts = true) : Imp (.agg ts') (.agg ts) := fun w X v hv => by
 obtain ⟨xs, rfl, _, hr⟩ := hv.agg_inv
 exact TR.mk_agg ho (h.trs hr)
inductive q8i : List (List T) → List (List T) → Prop
 | nil : q8i [] []
 | cons {t' t : List T} {ts' ts : List (List T)} (h : q3y t' t) (hs : q8i ts' ts) : q8i (t' :: ts') (t :: ts)
theorem q8i.len {ts' ts : List (List T)} (h : q8i ts' ts) : ts'.length = ts.length := by induction h <;> simp_all
theorem q8i.get {ts' ts : List (List T)} (h : q8i ts' ts) : ∀ {k : Nat} {t : List T}, ts[k]? = some t → ∃ t', ts'[k]? = some t' ∧ q3y t' t := by
 induction h with
 | nil => intro k t h; simp at h
 | cons h hs ih =>
  intro k t hk
  cases k with
  | zero => simp at hk; subst hk; exact ⟨_, rfl, h⟩
  | succ k => simp at hk; simpa using ih hk
theorem Imp.sl {es' es : List (List T)} {cap : Option Nat} {nl : Option Bool} (h : q8i es' es) (ho : ∀ e ∈ es, C6 e = true) : Imp (.sl es' cap nl) (.sl es cap nl) := fun w X v hv => by
 cases hv with
 | nil cap nl a c hc hn hz =>
  have : es = [] := by cases h; rfl
  subst this
  exact .nil cap nl a c hc hn hz
 | sl es' cap nl s b off c f hcell hlen hrel hone hx hle hc hn =>
  rw [h.len]
  refine .sl es cap nl s b off c f (fun i k hi hk => hcell i k (by rw [h.len]; exact hi) hk) (fun i e he => ?_) (fun i k e t he ht => ?_) (fun i k e t he ht => ?_) hx (by rw [← h.len]; exact hle) hc hn
  ·obtain ⟨e', h1, h2⟩ := h.get he
   rw [← h2.len]; exact hlen i e' h1
  ·obtain ⟨e', h1, h2⟩ := h.get he
   obtain ⟨t', h3, h4⟩ := h2.get ht
   exact h4 w X _ (hrel i k e' t' h1 h3)
  ·exact List.all_eq_true.1 (ho e (List.mem_of_getElem? he)) t (List.mem_of_getElem? ht)
theorem Ac.imp {f : FuncId} {ts' ts : List T} {res : T} (h : Ac P Γ f ts res) (hi : q3y ts' ts) : Ac P Γ f ts' res := fun w X vs hg hx hr => h w X vs hg hx (hi.trs hr)
theorem A3.imp {f : FuncId} {ts' ts : List T} {res : T} (h : A3 P Γ f ts res) (hi : q3y ts' ts) : A3 P Γ f ts' res := fun w X vs hg hx hr => h w X vs hg hx (hi.trs hr)
end
end Go.Lg
namespace Go.Lg
open Go Go.Proofs
variable {Γ : Tables}
def Ub (k : Int) : B5 := ⟨⟨[⟨0, ⟨[], some 0, some true⟩, 0, 0⟩, ⟨14, ⟨[2], some 1, some false⟩, 0, 0⟩, ⟨k, ⟨[0, 1], some 2, some false⟩, 0, 0⟩], none, none⟩, ⟨[[97], [113], [120]], some 3, some false⟩, ⟨[], some 0, some true⟩, ⟨[2], some 1, some false⟩⟩
theorem qFE (k : Int) (hk : 0 ≤ k ∧ k ≤ 255) : COk (Ub k) := by
 refine ⟨⟨by simp [Ub], by simp [Ub], by simp [Ub], by simp [Ub], ?_, ?_, ?_⟩, ?_⟩
 ·intro x hx; simp [Ub] at hx; rcases hx with rfl | rfl | rfl <;> simp [hk]
 ·intro x hx; simp [Ub] at hx; rcases hx with rfl | rfl | rfl <;> simp [hk]
 ·intro m hm; simp [Ub] at hm
 ·intro s hs b hb; simp [Ub] at hs; rcases hs with rfl | rfl | rfl <;> simp at hb <;> subst hb <;> decide
theorem qJ4 : MOk (Ub 9) := ⟨qFE 9 (by omega), by decide +kernel, by decide⟩
theorem qM8 : MOk (Ub 5) := ⟨qFE 5 (by omega), by decide +kernel, by decide⟩
def q68 : I9 := ⟨⟨[0], some 1, some false⟩, ⟨[], some 0, some true⟩, ⟨[], some 0, some true⟩⟩
theorem qKD : I4 (Ub 9) q68 := ⟨by decide, rfl, rfl, fun i hi => absurd hi (by simp [Ub]), fun i hi => absurd hi (by simp [Ub]), fun i hi => absurd hi (by simp [Ub]), by intro v hv; simp [q68] at hv; subst hv; omega, by intro w hw; simp [q68] at hw, by intro w hw; simp [q68] at hw⟩
theorem qM9 : q90 q68 := ⟨fun h => by simp [q68] at h, by intro w hw; simp [q68] at hw, by intro w hw; simp [q68] at hw⟩
theorem qCX (k : Int) (l : List (Sl Int)) (h : ∀ x ∈ l, x.l = [0] ∨ x.l = [1]) (hk : (Bz (Ub k)).length = 1) : q91 (Ub k) l := fun x hx => by
 rcases h x hx with e | e <;> rw [e] <;> refine ⟨hk.symm, fun v hv => ?_⟩ <;> simp at hv <;> subst hv <;> unfold V4 <;> omega
theorem qKE (hΓ : GOk Γ) : Ac Tryz.prog Γ 25 [.agg (tC (Ub 9)), .agg (B9 q68), tW ⟨[⟨[1], some 1, some false⟩, ⟨[1], some 1, some false⟩, ⟨[0], some 1, some false⟩], some 3, some false⟩]
  (.tup [.sl (An F8 [([1], [1]), ([0], [0]), ([0], [0])]) (some 3) none, .agg (B9 (seqS (Ub 9) (G1 q68) [[1], [1], [0]])), tI 0]) := by
 have h := Z1 hΓ (Ub 9) qJ4 (by decide) q68 qKD qM9 ⟨[⟨[1], some 1, some false⟩, ⟨[1], some 1, some false⟩, ⟨[0], some 1, some false⟩], some 3, some false⟩ (by decide) (qCX 9 _ (by simp) (by decide +kernel))
 have e : seqR (Ub 9) (G1 q68) [[1], [1], [0]] = [([1], [1]), ([0], [0]), ([0], [0])] := by decide +kernel
 simp only [List.map_cons, List.map_nil] at h
 rw [e] at h
 exact h
theorem qKF : (seqS (Ub 9) (G1 q68) [[1], [1], [0]]).dff.l = [0] := by decide +kernel
theorem qJ5 (hΓ : GOk Γ) : Ac Tryz.prog Γ 28 [.agg (tC (Ub 9)), tW ⟨[⟨[1], some 1, some false⟩, ⟨[1], some 1, some false⟩], some 2, some false⟩] (.tup [.sl [] (some 0) none, tI 0]) := by
 have h := q3v hΓ (Ub 9) qJ4 (by decide) ⟨[⟨[1], some 1, some false⟩, ⟨[1], some 1, some false⟩], some 2, some false⟩ (by decide) (qCX 9 _ (by simp) (by decide +kernel))
 have e : q7A (seqS (Ub 9) (G1 (L9 (Ub 9))) [[1], [1]]).dff.l 0 (Aj (Ub 9)) = [] := by decide +kernel
 simp only [List.map_cons, List.map_nil] at h
 rw [e] at h
 exact h
theorem qJ6 (hΓ : GOk Γ) : Ac Tryz.prog Γ 28 [.agg (tC (Ub 5)), tW ⟨[⟨[0], some 1, some false⟩], some 1, some false⟩] (.tup [.sl (Av [1]) (some 1) none, tI 0]) := by
 have h := q3v hΓ (Ub 5) qM8 (by decide) ⟨[⟨[0], some 1, some false⟩], some 1, some false⟩ (by decide) (qCX 5 _ (by simp) (by decide +kernel))
 have e : q7A (seqS (Ub 5) (G1 (L9 (Ub 5))) [[0]]).dff.l 0 (Aj (Ub 5)) = [1] := by decide +kernel
 simp only [List.map_cons, List.map_nil] at h
 rw [e] at h
 exact h
theorem qDs : Eu Tryz.prog Γ 69 [] [] (.ag [.ls 6 0 3 none, .t (.sl (Ab tS [[97], [113], [120]]) (some 3) (some false)), .t (.sl [] (some 0) (some true)), .t (.sl (Av [2]) (some 1) (some false))]) [(0, .bx [.ls 6 0 3 none, .t (.sl (Ab tS [[97], [113], [120]]) (some 3) (some false)), .t (.sl [] (some 0) (some true)), .t (.sl (Av [2]) (some 1) (some false))]), (6, .sl 73 4 (An Dn (Ub 9).nodes.l))] := by
 refine Gu q77 rfl ?_
 simp [q1Y, q1Z, Ub, An, Ab, Dn, B1, tS, sV, Ce]
def qMA : List IC := [q2W, q2X, q2Y, q2Z, q2a, q2b, q2c, q1a, q1b, q1c]
def qFF : IC := .seq q2S (.seq q2T .ret)
def qOp : IC := q3w [Yx, Yy, Yz] (q3w qMA (.seq (.reg (qB3 5) []) qFF))
theorem qMB : Ap Tryz.prog 23 qOp 200 0 Z0 = true := by kernel_rfl
theorem qMC : ((Tryz.prog.funcs[(23 : Nat)]?).bind (·.body)).bind (q8g 13) = some false := by kernel_rfl
def q3z (k : Int) : List (List T) := Qp (tK 0) (.sl [] (some 0) (some true)) (tI 0) (tI 0) (tK 14) (.sl [[tI 2]] (some 1) (some false)) (tI 0) (tI 0) (.v (.int .u8 k)) (.sl [[tI 0], [tI 1]] (some 2) (some false)) (tI 0) (tI 0)
def qDt : T := .sl [[tS [97]], [tS [113]], [tS [120]]] (some 3) (some false)
def qDu : T := .sl [] (some 0) (some true)
def qDv : T := .sl [[tI 2]] (some 1) (some false)
def lvO : T := .sl [[tK 1]] (some 1) (some false)
def lvZ : T := .sl [[tK 0]] (some 1) (some false)
theorem qO0 : run Tryz.prog Γ (q3w [Yx, Yy, Yz] .skip) (fun e s' => e = .normal ∧ s' = qFD 73 (q3z 9) qDt qDu qDv lvO lvZ) ⟨params 0 [], []⟩ := by
 have e1 := qDs (Γ := Γ)
 simp [Ub, An, Ab, Dn, B1] at e1
 simp [q3w, Yx, Yy, Yz]
 refine ⟨_, _, e1, ?_⟩
 simp [qFD, q3z, Qp, qDt, qDu, qDv, lvO, lvZ]
theorem qOq (hΓ : GOk Γ) (y0 y1 y2 y4 : Value) : run Tryz.prog Γ qFF (ret false Z0 fun r => r = tB true) (thS (q3z 5) qDt qDu qDv lvZ y0 y1 y2 y4 (.sl (Av [2, 4, 5, 6]) (some 4) none) (tS [49, 48, 48]) (tS [49, 48, 48]) (.sl [] (some 0) none) (tI 0)) := by
 have e1 := qJ6 hΓ
 simp [Ub, tC, A5, A8, Ad, tW, tV, An, Ab, Dn, B1] at e1
 have e2 := qBp (Γ := Γ) [2, 4, 5, 6] (by decide) (some 4) none (some false)
 have e3 := qBp (Γ := Γ) [1] (by decide) (some 1) none (some false)
 simp [Ab] at e2 e3
 simp [qFF, q2S, q2T, thS, q3z, Qp, qDt, qDu, qDv, lvO, lvZ, Ab]
 refine Aa e1 rfl ?_
 simp [tS, sV]
 refine A1 e2 rfl ?_
 simp
 refine A1 e3 rfl ?_
 simp [Z0]
def mvL (many : Nat) (f : Int) (l : List Int) : List Int := l.map fun k => f * many + k
def mvS (many : Nat) (f : Int) (s : Sl Int) : Sl Int := ⟨mvL many f s.l, some s.l.length, none⟩
theorem qCY {many : Nat} {f : Int} {l : List Int} : (mvL many f l).length = l.length := by simp [mvL]
def nmU (f i : Nat) : List UInt8 := q2O f ++ [46] ++ q2O i
def unN (many : Nat) (f : Nat) (x : Nd) : Nd := if x.k = 14 then (if f = 0 then ⟨0, ⟨[], some 0, some true⟩, 0, 0⟩ else ⟨3, mvS many ((f : Int) - 1) x.inn, 0, 0⟩) else ⟨x.k, mvS many f x.inn, 0, 0⟩
theorem qGC {Q : AX → St → Prop} (many : Nat) (f : Int) (l : Sl Int) (hl : l.l.length ≤ 1000000) (hf : 0 ≤ f * many ∧ f * many ≤ 1000000000) (hin : ∀ k ∈ l.l, 0 ≤ k ∧ k ≤ 1000000) (R : List Int)
  (h0 : Q (.exit 0) ⟨[(0, .t (tI f)), (2, .t (.ip [tI many] 0)), (6, .ls 22 0 l.l.length none), (9, .t (B1 l)), (10, .t (tI l.l.length)), (11, .t (tI l.l.length)), (12, .t (tB false))], [(22, .sl 3 1 (Av R))]⟩) :
  ∀ (k i : Nat) (out : List Int), k + i = l.l.length → out.length = i → out ++ mvL many f (l.l.drop i) = R →
  run Tryz.prog Γ Iz Q ⟨[(0, .t (tI f)), (2, .t (.ip [tI many] 0)), (6, .ls 22 0 i none), (9, .t (B1 l)), (10, .t (tI l.l.length)), (11, .t (tI i))], [(22, .sl 3 1 (Av out))]⟩
 | 0, i, out, h, ho, hR => by
  refine Qo fun K hK => ?_
  have h2 : i = l.l.length := by omega
  subst h2
  rw [List.drop_length] at hR
  simp only [mvL, List.map_nil, List.append_nil] at hR
  subst hR
  simp [B1] at h0
  simp [B1]
  simpa using h0
 | k + 1, i, out, h, ho, hR => by
  refine Qo fun K hK => ?_
  have h2 : i < l.l.length := by omega
  rw [List.drop_eq_getElem_cons h2] at hR
  simp only [mvL, List.map_cons] at hR
  have e1 := gE (f := tI) 0 h2
  have e1' := gE' (f := tI) 0 h2
  obtain ⟨q0, q1⟩ := hin _ (List.getElem_mem h2)
  rw [Cj h2] at e1 e1'
  generalize l.l[i] = q at *
  have ih := qGC many f l hl hf hin R h0 k (i + 1) (out ++ [f * many + q]) (by omega) (by simp [ho]) (by rw [← hR]; simp [mvL])
  have vs := Bf (f := tI) (l := out) (x := f * many + q)
  have vt : (Av out).take i = Av out := by rw [← ho]; exact Ag
  generalize hm : f * (many : Int) = m at *
  have w1 := B0 (i := i) (by omega)
  have w2 : IntKind.i64.wrap m = m := A4 (by omega) (by omega)
  have w3 : IntKind.i64.wrap (m + q) = m + q := A4 (by omega) (by omega)
  have h3 : (i : Int) < l.l.length := by omega
  simp [B1] at ih
  simp [B1, A0, A6, h2, h3, e1, e1', hm, w2, w3, vt, vs, ho, w1]
  refine ⟨by omega, ?_⟩
  rw [hK]
  simpa using ih
theorem q2C (many : Nat) (f : Int) (l : Sl Int) (hl : l.l.length ≤ 1000000) (hf : 0 ≤ f * many ∧ f * many ≤ 1000000000) (hin : ∀ k ∈ l.l, 0 ≤ k ∧ k ≤ 1000000) :
  Ac Tryz.prog Γ 61 [tI f, B1 l, .ip [tI many] 0] (B1 (mvS many f l)) := by
 refine Ar q4X rfl ?_
 have g := fun Q h0 => qGC (Γ := Γ) (Q := Q) many f l hl hf hin (mvL many f l.l) h0 l.l.length 0 [] (by omega) rfl (by simp)
 have ml : (mvL many f l.l).length = l.l.length := qCY
 have hc := q6W (Γ := Γ) (Av (mvL many f l.l)) none none A6
 have ht : (Av (mvL many f l.l)).take l.l.length = Av (mvL many f l.l) := by rw [← ml]; exact Ag
 rw [A0, ml] at hc
 unfold mvS
 generalize mvL many f l.l = R at *
 simp [B1, D4] at g
 simp [Yv, B1, A0]
 refine g _ ?_
 simp [St.freeze, B7.closed, Bi, frz1, frz0, E1, del, Ah, ht]
 refine Aa hc rfl ?_
 simp [Yw]
theorem q8j (f i : Nat) (hf : f < 100) (hi : i < 100) : A3 Tryz.prog Γ 63 [tI f, tI i] (tS (nmU f i)) := by
 refine A7 q8y rfl ?_
 have e1 := qBi (Γ := Γ) f hf
 have e2 := qBi (Γ := Γ) i hi
 have l1 : ∀ j, (q2O j).length ≤ 2 := fun j => by unfold q2O; split <;> simp
 have l1f := l1 f
 have l1i := l1 i
 unfold nmU
 generalize q2O f = a at *
 generalize q2O i = b at *
 simp only [tS, sV] at e1 e2
 simp [q3p, sV]
 refine A1 e1 rfl ?_
 simp
 refine ⟨by omega, ?_⟩
 refine A1 e2 rfl ?_
 simp [q3q, tS]
 refine ⟨by omega, ?_⟩
 show Value.string (ByteArray.mk a.toArray ++ ByteArray.mk [46].toArray ++ ByteArray.mk b.toArray) = _
 rw [qG5, qG5]
 simp [sV]
theorem qGD (x : Nd) (s : List UInt8) (ns : List Nd) (ms : List (List UInt8)) (hl : ns.length = ms.length) (hn : ns.length ≤ 1000000) (m o : T) :
  Eu Tryz.prog Γ 60 [(1000000, .bx [.ls 1000002 0 ns.length none, .ls 1000003 0 ms.length none, .t m, .t o]), (1000002, .sl 73 4 (An Dn ns)), (1000003, .sl 9 1 (Ab tS ms))]
   [.ag ((Dn x).map .t), .t (tS s), .lp 1000000 0 0] (.t (.tup [])) [(9, .sl 73 4 (An Dn (ns ++ [x]))), (14, .sl 9 1 (Ab tS (ms ++ [s]))), (1000000, .bx [.ls 9 0 (ns.length + 1) none, .ls 14 0 (ms.length + 1) none, .t m, .t o])] := by
 refine Gu q4W rfl ?_
 have vs := q0y (f := Dn) (l := ns) (x := x)
 have vs2 := Bf (f := tS) (l := ms) (x := s)
 simp only [Dn, B1] at vs
 simp only [tS, sV] at vs2
 have hw1 : Ce 4 [[tK x.k, .sl (Av x.inn.l) x.inn.cap x.inn.nl, tI x.mem, tI x.bit]] := fun e he => by simp at he; subst he; rfl
 have hw2 : ∀ t : T, Ce 1 [[t]] := fun t e he => by simp at he; subst he; rfl
 simp [Ys, Dn, B1, tS, sV, A9, A0, hw1, hw2, vs, vs2]
 refine ⟨by omega, by omega, ?_⟩
 simp [Yt, Dn, B1, tS, sV, hl]
 done
end Go.Lg
namespace Go.Lg
open Go
section
variable {P : Program} {Γ : Tables} {Q : AX → St → Prop} {s : St}
/- probecard/sims.Check (function 110) -/
abbrev q5H : IC := (.seq (.reg [od 2 (.box true (tm 0)), od 3 (.box true (tm 1)), od 4 (.mv (ki 0))] [kp [2, 3] []]) (.seq (.seq (.reg [od 6 (lG 4 2), od 7 (.call 20 [(tm 6)]), om 5 7] [kp [2, 3, 5] []]) (.seq (.reg [om 8 5, od 9 (.bin .neq (tm 8)
 (ki 0))] [kp [2, 3, 5, 9] []]) (.cond (tm 9) (.seq (.reg [om 10 5, om 4 10] [kp [4] []]) .ret) .skip))) (.seq (.reg [od 11 (lG 4 2), od 12 (lG 2 3), od 13 (.call 49 [(tm 11), (tm 12)]), om 4 13] [kp [4] []]) .ret)))
def q5I : List RV := [.tmp 4]
end
end Go.Lg
namespace Go.Lg
open Go Go.Proofs
theorem qAd : Ap Tryz.prog 110 q5H 14 2 q5I = true := by kernel_rfl
end Go.Lg
namespace Go.Lg
open Go Go.Proofs
variable {Γ : Tables}
theorem qJ7 (hΓ : GOk Γ) (c : B5) (hc : NOk c) (p : Pat) (hp : POk c p) : A3 Tryz.prog Γ 110 [.agg (tC c), .agg (tP p)] (tI 0) := by
 refine A7 qAd rfl ?_
 have hil := Oi c
 have hsl := Di c
 have hn := hc.n2
 have e1 := q5g (Γ := Γ) hΓ c hc.ok
 have e2 := qGz (Γ := Γ) c hc.ok p ⟨by rw [hp.i]; omega, by rw [hp.s]; omega⟩
 have h0 := qH3 hc hp
 unfold qEp at h0
 rw [if_neg (by simp [hc.lev])] at h0
 rw [h0] at e2
 rw [hc.lev] at e1
 simp [tC, A5, A8, Ad, B1, tP, tV] at e1 e2
 simp [q5H, tC, A5, A8, Ad, B1, tP, tV]
 refine A1 e1 rfl ?_
 simp
 refine A1 e2 rfl ?_
 simp [q5I]
theorem q7D (hΓ : GOk Γ) (c : B5) (hc : NOk c) (ho : c.outs.l.length ≤ 16) (n : Nat) (h1 : 1 ≤ n) (h8 : n ≤ 8) : Ac Tryz.prog Γ 59 [.agg (tC c), tI n] (tI 0) := by
 refine Ar q83 rfl ?_
 have hil := Oi c
 have hsl := Di c
 have hn := hc.n2
 have e1 := qAQ (Γ := Γ) c hc.ok (by omega) (by omega)
 have e2 := qJ7 (Γ := Γ) hΓ c hc ⟨⟨List.replicate (Bz c).length 2, none, none⟩, ⟨List.replicate (Aj c).length 2, none, none⟩⟩ ⟨by simp, by simp, fun v hv => by rw [List.eq_of_mem_replicate hv]; unfold V4; omega, fun v hv => by rw [List.eq_of_mem_replicate hv]; unfold V4; omega⟩
 have e3 := Fo (Γ := Γ) c hc.ok
 have b1 : n * c.nodes.l.length ≤ 8 * 16 := Nat.mul_le_mul h8 hn
 have b2 : n * (c.outs.l.length + (Aj c).length) ≤ 8 * 32 := Nat.mul_le_mul h8 (by omega)
 have c1 : ((n * c.nodes.l.length : Nat) : Int) = (n : Int) * c.nodes.l.length := by simp
 have c2 : ((n * (c.outs.l.length + (Aj c).length) : Nat) : Int) = (n : Int) * ((c.outs.l.length : Int) + (Aj c).length) := by simp
 have w1 : IntKind.i64.wrap ((n : Int) * c.nodes.l.length) = (n : Int) * c.nodes.l.length := by rw [← c1]; exact A4 (by omega) (by omega)
 have w2 : IntKind.i64.wrap ((n : Int) * c.nodes.l.length + (Aj c).length) = (n : Int) * c.nodes.l.length + (Aj c).length := by rw [← c1]; exact A4 (by omega) (by omega)
 have w3 : IntKind.i64.wrap ((c.outs.l.length : Int) + (Aj c).length) = (c.outs.l.length : Int) + (Aj c).length := A4 (by omega) (by omega)
 have w4 : IntKind.i64.wrap ((n : Int) * ((c.outs.l.length : Int) + (Aj c).length)) = (n : Int) * ((c.outs.l.length : Int) + (Aj c).length) := by rw [← c2]; exact A4 (by omega) (by omega)
 have k1 : ¬ (n : Int) < 1 := by omega
 have k2 : ¬ 1024 < (n : Int) := by omega
 have k3 : ¬ 16384 < (n : Int) * c.nodes.l.length + (Aj c).length := by rw [← c1]; omega
 have k4 : ¬ 16384 < (n : Int) * ((c.outs.l.length : Int) + (Aj c).length) := by rw [← c2]; omega
 simp only [tP, tV] at e2
 simp [tC, A5, A8, Ad, B1] at e1 e2 e3
 simp [q2Q, tC, A5, A8, Ad, B1]
 refine Aa e1 rfl ?_
 simp
 refine A1 e2 rfl ?_
 simp
 refine Aa e3 rfl ?_
 simp [A0, A9, w1, w2, w3, w4, k1, k2, k3, k4, q2R]
def q92 (a st : List Int) : Nat → Nat → List Nd → List Int
 | _, _, [] => []
 | i, k, x :: xs => if x.k = 0 then a.getD i 0 :: q92 a st (i + 1) k xs else if x.k = 14 then st.getD k 0 :: q92 a st i (k + 1) xs else q92 a st i k xs
def q2n (q : Int) : List Nd → Nat
 | [] => 0
 | x :: xs => (if x.k = q then 1 else 0) + q2n q xs
theorem qCZ {q : Int} : ∀ {l : List Nd} {i : Nat}, (Qs [q] l i).length = q2n q l
 | [], _ => rfl
 | x :: xs, i => by
  simp only [Qs, q2n]
  have ih := qCZ (q := q) (l := xs) (i := i + 1)
  by_cases h : x.k = q
  ·simp [h, ih]; omega
  ·have : [q].contains x.k = false := by simpa using h
   simp [h, this, ih]
theorem q7E {a st : List Int} : ∀ {l : List Nd} {i k : Nat}, (q92 a st i k l).length = q2n 0 l + q2n 14 l
 | [], _, _ => rfl
 | x :: xs, i, k => by
  simp only [q92, q2n]
  by_cases h0 : x.k = 0
  ·have h14 : ¬ (0 : Int) = 14 := by omega
   simp [h0, q7E (l := xs)]; omega
  ·by_cases h14 : x.k = 14
   ·simp [h0, h14, q7E (l := xs)]; omega
   ·simp [h0, h14, q7E (l := xs)]
theorem qCa {Q : AX → St → Prop} (c : B5) (hm : c.nodes.l.length ≤ 16) (st : Sl Int) (a : Sl Int) (ins : List (Sl Int)) (ic : Option Nat) (il : Option Bool) (R : List Int)
  (ha : a.l.length = q2n 0 c.nodes.l) (hs : st.l.length = q2n 14 c.nodes.l)
  (h0 : ∀ i k : Nat, Q (.exit 1) ⟨[(1, .t (tV st)), (2, .t (.sl (Ab tV (a :: ins)) ic il)), (6, .lp 6 0 0), (12, .ls 72 0 R.length none), (13, .t (tI i)), (14, .t (tI k)), (54, .t (A5 c.nodes)), (55, .t (tI c.nodes.l.length)), (56, .t (tI c.nodes.l.length)), (57, .t (tB false))], [(6, .bx [.t Ax, .t Ax]), (72, .sl 61 1 (Aq R))]⟩) :
  ∀ (q j i k : Nat) (out : List Int), q + j = c.nodes.l.length → out.length = i + k → i + q2n 0 (c.nodes.l.drop j) = a.l.length → k + q2n 14 (c.nodes.l.drop j) = st.l.length → out ++ q92 a.l st.l i k (c.nodes.l.drop j) = R →
  run Tryz.prog Γ K7 Q ⟨[(1, .t (tV st)), (2, .t (.sl (Ab tV (a :: ins)) ic il)), (6, .lp 6 0 0), (12, .ls 72 0 out.length none), (13, .t (tI i)), (14, .t (tI k)), (54, .t (A5 c.nodes)), (55, .t (tI c.nodes.l.length)), (56, .t (tI j))], [(6, .bx [.t Ax, .t Ax]), (72, .sl 61 1 (Aq out))]⟩
 | 0, j, i, k, out, h, ho, hi, hk, hR => by
  refine Rz fun K hK => ?_
  have h2 : j = c.nodes.l.length := by omega
  subst h2
  rw [List.drop_length] at hR
  simp only [q92, List.append_nil] at hR
  subst hR
  have := h0 i k
  simp [Ax, tV, A5] at this
  simp [Ax, tV, A5]
  simpa using this
 | q + 1, j, i, k, out, h, ho, hi, hk, hR => by
  refine Rz fun K hK => ?_
  have h2 : j < c.nodes.l.length := by omega
  rw [List.drop_eq_getElem_cons h2] at hi hk hR
  simp only [q2n, q92] at hi hk hR
  have e1 : (An Dn c.nodes.l)[j]?.getD [] = Dn c.nodes.l[j] := by simp [An, h2]
  have e1' : ∀ h, (An Dn c.nodes.l)[j]'h = Dn c.nodes.l[j] := fun h => by simp [An]
  generalize c.nodes.l[j] = x at *
  obtain ⟨xk, xin, xm, xb⟩ := x
  simp only at hi hk hR
  simp only [Dn, B1] at e1 e1'
  have h3 : (j : Int) < c.nodes.l.length := by omega
  have w1 := B0 (i := j) (by omega)
  have vt : (Aq out).take out.length = Aq out := Ci
  have hle : q2n 0 c.nodes.l ≤ 16 ∧ q2n 14 c.nodes.l ≤ 16 := by
   have : ∀ (l : List Nd) (z : Int), q2n z l ≤ l.length := fun l z => by
    induction l with
    | nil => simp [q2n]
    | cons x xs ih => simp only [q2n, List.length_cons]; split <;> omega
   have a1 := this c.nodes.l 0
   have a2 := this c.nodes.l 14
   omega
  by_cases c0 : xk = 0
  ·rw [if_pos c0] at hi hR
   rw [if_neg (by omega)] at hk
   have hlt : i < a.l.length := by omega
   have e2 := gE (f := tK) 0 hlt
   have e2' := gE' (f := tK) 0 hlt
   have ih := qCa c hm st a ins ic il R ha hs h0 q (j + 1) (i + 1) k (out ++ [a.l.getD i 0]) (by omega) (by simp; omega) (by omega) (by omega) (by rw [← hR]; simp)
   have vs := Ph (l := out) (v := a.l.getD i 0)
   generalize a.l.getD i 0 = v at *
   have h4 : (i : Int) < a.l.length := by omega
   have w2 := B0 (i := i) (by omega)
   simp [Ax, tV, A5, Gv] at ih
   simp [Ax, tV, A5, A9, Bd, h2, h3, e1, e1', c0, Gv, A0, A6, hlt, h4, e2, e2', vt, vs, w2, w1]
   refine ⟨(A6 : Ce 1 (Ab tV (a :: ins))), by omega, ?_⟩
   rw [hK]
   simpa using ih
  ·by_cases c14 : xk = 14
   ·rw [if_pos c14] at hk
    rw [if_neg c0] at hi
    rw [if_neg c0, if_pos c14] at hR
    have hlt : k < st.l.length := by omega
    have e2 := gE (f := tK) 0 hlt
    have e2' := gE' (f := tK) 0 hlt
    have ih := qCa c hm st a ins ic il R ha hs h0 q (j + 1) i (k + 1) (out ++ [st.l.getD k 0]) (by omega) (by simp; omega) (by omega) (by omega) (by rw [← hR]; simp)
    have vs := Ph (l := out) (v := st.l.getD k 0)
    generalize st.l.getD k 0 = v at *
    have h4 : (k : Int) < st.l.length := by omega
    have w2 := B0 (i := k) (by omega)
    simp [Ax, tV, A5, Gv] at ih
    simp [Ax, tV, A5, A9, Bd, h2, h3, e1, e1', c14, Gv, A0, A6, hlt, h4, e2, e2', vt, vs, w2, w1]
    refine ⟨by omega, ?_⟩
    rw [hK]
    simpa using ih
   ·rw [if_neg c14] at hk
    rw [if_neg c0] at hi
    rw [if_neg c0, if_neg c14] at hR
    have ih := qCa c hm st a ins ic il R ha hs h0 q (j + 1) i k out (by omega) ho (by omega) (by omega) hR
    simp [Ax, tV, A5, Gv] at ih
    simp [Ax, tV, A5, A9, Bd, h2, h3, e1, e1', c0, c14, w1, Gv]
    rw [hK]
    simpa using ih
theorem qJ8 {Q : AX → St → Prop} (ins : List (Sl Int)) (ic : Option Nat) (il : Option Bool) (hl : ins.length ≤ 1000) (hx : ∀ x ∈ ins, x.l.length ≤ 1000000) (R : List Int)
  (h0 : Q (.exit 4) ⟨[(6, .lp 6 0 0), (12, .ls 72 0 R.length none), (88, .t (.sl (Ab tV ins) ic il)), (89, .t (tI ins.length)), (90, .t (tI ins.length)), (91, .t (tB false))], [(6, .bx [.t Ax, .t Ax]), (72, .sl 61 1 (Aq R))]⟩) :
  ∀ (k i : Nat) (out : List Int), k + i = ins.length → out.length ≤ 1000000 + i * 1000000 → out ++ (ins.drop i).flatMap (·.l) = R →
  run Tryz.prog Γ K8 Q ⟨[(6, .lp 6 0 0), (12, .ls 72 0 out.length none), (88, .t (.sl (Ab tV ins) ic il)), (89, .t (tI ins.length)), (90, .t (tI i))], [(6, .bx [.t Ax, .t Ax]), (72, .sl 61 1 (Aq out))]⟩
 | 0, i, out, h, ho, hR => by
  refine S0 fun K hK => ?_
  have h2 : i = ins.length := by omega
  subst h2
  rw [List.drop_length] at hR
  simp only [List.flatMap_nil, List.append_nil] at hR
  subst hR
  simp [Ax] at h0
  simp [Ax]
  simpa using h0
 | k + 1, i, out, h, ho, hR => by
  refine S0 fun K hK => ?_
  have h2 : i < ins.length := by omega
  rw [List.drop_eq_getElem_cons h2] at hR
  simp only [List.flatMap_cons] at hR
  have e1 := gE (f := tV) Sl.z h2
  have e1' := gE' (f := tV) Sl.z h2
  rw [show ins.getD i Sl.z = ins[i] by simp [List.getD_eq_getElem?_getD, h2]] at e1 e1'
  have hx1 := hx _ (List.getElem_mem h2)
  generalize ins[i] = x at *
  have ih := qJ8 ins ic il hl hx R h0 k (i + 1) (out ++ x.l) (by omega) (by simp; omega) (by rw [← hR]; simp)
  have vs : Aq out ++ Aq x.l = Aq (out ++ x.l) := q6T
  have vt : (Aq out).take out.length = Aq out := Ci
  have h3 : (i : Int) < ins.length := by omega
  have w1 := B0 (i := i) (by omega)
  simp only [tV] at e1 e1'
  simp [Ax] at ih
  simp [Ax, A0, A6, h2, h3, e1, e1', vs, vt, w1]
  refine ⟨by omega, ?_⟩
  rw [hK]
  simpa using ih
theorem qHF (x : Sl Int) (n : Nat) (h : x.l.length = n) : Ac Tryz.prog Γ 78 [tV x, .ip [tI n] 0] (tB false) := by
 refine Ar q3r rfl ?_
 simp [Wp, tV, A0, h, Wq]
theorem qFG (v : Int) : A3 Tryz.prog Γ 81 [tK v] (tB (decide (3 < v))) := by
 refine A7 q2A rfl ?_
 simp [S1, S3]
theorem qHG (v : Int) : A3 Tryz.prog Γ 83 [tK v] (tB (decide (2 < v))) := by
 refine A7 q3t rfl ?_
 simp [Wu, Wv]
theorem qBr {l : List Int} {b : Int} (h : ∀ v ∈ l, v ≤ b) : l.any (fun v => decide (b < v)) = false := by
 rw [List.any_eq_false]
 intro v hv
 have := h v hv
 simp; omega
theorem qHH (x : Sl Int) (hl : x.l.length ≤ 1000000) (hv : ∀ v ∈ x.l, V4 v) : A3 Tryz.prog Γ 79 [tV x] (tB false) := by
 refine A7 q3s rfl ?_
 have e := Dy (Γ := Γ) x.l x.cap x.nl 81 [] (fun v => decide (3 < v)) (fun v _ => qFG v) (by omega)
 rw [qBr (fun v h => (hv v h).2)] at e
 simp [Ws, tV]
 refine A1 e rfl ?_
 simp [Wt]
def qHI (c : B5) (st : List Int) (ins : List (Sl Int)) : List Int := q92 (ins.headD ⟨[], none, none⟩).l st 0 0 c.nodes.l ++ (ins.drop 1).flatMap (·.l)
theorem q69 {c : B5} : (Bz c).length = q2n 0 c.nodes.l := qCZ
theorem q6A {c : B5} : (Aj c).length = q2n 14 c.nodes.l := qCZ
set_option maxHeartbeats 2000000 in
theorem qCb (hΓ : GOk Γ) (c : B5) (hc : NOk c) (ho : c.outs.l.length ≤ 16) (st : Sl Int) (hs : st.l.length = (Aj c).length) (hs2 : ∀ v ∈ st.l, 0 ≤ v ∧ v ≤ 2) (ins : Sl (Sl Int)) (h1 : 1 ≤ ins.l.length) (h8 : ins.l.length ≤ 8) (hv : q91 c ins.l) :
  Ac Tryz.prog Γ 31 [.agg (tC c), tV st, tW ins] (.tup [.agg [.sl (Aq (qHI c st.l ins.l)) (some (qHI c st.l ins.l).length) none, Ax], tI 0]) := by
 refine Ar q65 rfl ?_
 have hil := Oi c
 have hsl := Di c
 have hn := hc.n2
 obtain ⟨il, ic, inl⟩ := ins
 simp only at h1 h8 hv
 obtain ⟨a, rest, rfl⟩ : ∃ a rest, il = a :: rest := by cases il with | nil => simp at h1 | cons a r => exact ⟨a, r, rfl⟩
 have e1 := q7D hΓ c hc ho (a :: rest).length h1 h8
 have e2 := Ur (Γ := Γ) c hc.ok
 have e3 := Fo (Γ := Γ) c hc.ok
 have e4 := q4C (Γ := Γ) (a :: rest) ic inl 78 [.ip [tI (Bz c).length] 0] (fun x hx => .inl (qHF x _ (hv x hx).1)) (by omega)
 have e5 := q4C (Γ := Γ) (a :: rest) ic inl 79 [] (fun x hx => .inr (qHH x (by rw [(hv x hx).1]; omega) (hv x hx).2)) (by omega)
 have e6 := Dy (Γ := Γ) st.l st.cap st.nl 83 [] (fun v => decide (2 < v)) (fun v _ => qHG v) (by omega)
 rw [qBr (fun v h => (hs2 v h).2)] at e6
 have ha := hv a List.mem_cons_self
 have g1 := fun Q h0 => qCa (Γ := Γ) (Q := Q) c hn st a rest ic inl (q92 a.l st.l 0 0 c.nodes.l) (by rw [ha.1, q69]) (by rw [hs, q6A]) h0 c.nodes.l.length 0 0 0 [] (by omega) rfl (by rw [ha.1, q69]; simp) (by rw [hs, q6A]; simp) (by simp)
 have hp : (q92 a.l st.l 0 0 c.nodes.l).length ≤ 1000000 := by rw [q7E, ← q69, ← q6A]; omega
 have g3 := fun Q cc nn h0 => qJ8 (Γ := Γ) (Q := Q) rest cc nn (by simp at h8; omega) (fun x hx => by rw [(hv x (List.mem_cons_of_mem _ hx)).1]; omega) (qHI c st.l (a :: rest)) h0 rest.length 0 (q92 a.l st.l 0 0 c.nodes.l) (by omega) (by omega) (by simp [qHI])
 generalize qHI c st.l (a :: rest) = R at *
 have hcl := qA8 (Γ := Γ) (Aq R) none none A6
 rw [A0] at hcl
 have ht : (Aq R).take R.length = Aq R := Ci
 simp [tC, A5, A8, Ad, B1] at e1 e2 e3
 simp [Ax, tV, A5, D4, Gv] at g1
 simp [Ax, tV, Gv] at g3
 simp only [Gv] at e4 e5
 simp only [tV] at e4 e5
 have hrl : (Bz c).length ≤ 1000 := by omega
 simp [q0N, tC, A5, A8, Ad, B1, tV, tW, Gv, A0]
 refine Aa e1 rfl ?_
 simp
 refine Aa e2 rfl ?_
 simp [St.freeze, B7.closed, Bi, frz1, frz0, E1, del, Ah]
 refine Aa e3 rfl ?_
 simp [A0, hs]
 refine A1 e4 rfl ?_
 simp
 refine A1 e5 rfl ?_
 simp
 refine A1 e6 rfl ?_
 simp [A9]
 refine g1 _ (fun i k => ?_)
 simp [A0]
 refine ⟨(A6 : Ce 1 (Ab tV (a :: rest))), ?_⟩
 refine g3 _ _ _ ?_
 simp [St.freeze, B7.closed, Bi, frz1, frz0, E1, del, Ah, ht]
 refine Aa hcl rfl ?_
 simp [q0O, Ax]
def unE (n : Nat) (c : B5) (S : T) : List (Nat × AV) := [(1, .t (tI n)), (2, .t (.ip (tC c) 0)), (4, .lp 4 0 0), (7, .t (.ip [tI c.nodes.l.length] 0)), (8, .t S), (9, .lp 9 0 0), (10, .fn 60 [.lp 9 0 0]), (11, .t (.fn 61 [.ip [tI c.nodes.l.length] 0])), (12, .lb 38 n)]
def unH (k : Nat) (B : List AV) : List (Nat × B7) := [(4, .bx [.t Ax, .t Ax, .t Ax, .t Ax, .t Ax]), (9, .bx [.ls 96009 0 k none, .ls 96014 0 k none, .t Ax, .t Ax]), (38, .bx B)]
def unG (ns : List Nd) (ms : List (List UInt8)) : List (Nat × B7) := [(96009, .sl 73 4 (An Dn ns)), (96014, .sl 9 1 (Ab tS ms))]
def qDw (c : B5) : Prop := ∀ x ∈ c.nodes.l, x.inn.l.length ≤ 1000000 ∧ ∀ k ∈ x.inn.l, 0 ≤ k ∧ k ≤ 1000000
theorem q6B {j : Nat} : Aw j ∘ AV.t = AV.t := rfl
theorem qKy {j : Nat} {r : B7} : Bi j r ∘ AV.t = AV.t := rfl
theorem qJ9 {φ : Nat → Option Nat} : Bc φ ∘ AV.t = AV.t := rfl
def unB (F : List T) (x : AV) (k : Nat) : List AV := F.map .t ++ x :: List.replicate k (.t (.sl [] (some 0) (some true)))
theorem qGE {F : List T} {x : AV} {k : Nat} : (unB F x k).length = F.length + (k + 1) := by simp [unB]
theorem qAe {F : List T} {x : AV} {k f : Nat} (h : F.length = f) : (unB F x k).drop f = x :: List.replicate k (.t (.sl [] (some 0) (some true))) := by
 unfold unB; rw [List.drop_left' (by simpa using h)]
theorem qDx {F : List T} {x : AV} {k f : Nat} (h : F.length = f) : (unB F x k).take f = F.map .t := by
 unfold unB; rw [List.take_left' (by simpa using h)]
theorem qBs {F : List T} {x : AV} {k f : Nat} (h : F.length = f) : (unB F x k).drop (f + 1) = List.replicate k (.t (.sl [] (some 0) (some true))) := by
 rw [← List.drop_drop, qAe h]; rfl
theorem qGF {F : List T} {x : AV} {k f : Nat} (h : F.length = f) : (unB F x k)[f]? = some x := by
 unfold unB; rw [List.getElem?_append_right (by simpa using Nat.le_of_eq h)]; simp [h]
theorem qGG {F : List T} {x y : AV} {k f : Nat} (h : F.length = f) : (unB F x k).set f y = unB F y k := by
 unfold unB; rw [List.set_append_right (h := by simpa using Nat.le_of_eq h)]; simp [h]
theorem I8 {F : List T} {x : AV} {k j : Nat} : (unB F x k).map (Aw j) = unB F (Aw j x) k := by
 unfold unB; simp [q6B]
theorem Ly {F : List T} {x : AV} {k j : Nat} {r : B7} : (unB F x k).map (Bi j r) = unB F (Bi j r x) k := by
 unfold unB; simp [qKy, Bi, frz1, frz0]
theorem M1 {F : List T} {x : AV} {k : Nat} {φ : Nat → Option Nat} : (unB F x k).map (Bc φ) = unB F (Bc φ x) k := by
 unfold unB; simp [qJ9]
set_option maxHeartbeats 4000000 in
theorem qKz {Q : AX → St → Prop} (c : B5) (n f : Nat) (hf : f < n) (h8 : n ≤ 8) (hm : c.nodes.l.length ≤ 16) (hi : qDw c) (S : T) (F : List T) (hF : F.length = f)
  (CS : List Int) (NS : List Nd) (MS : List (List UInt8))
  (h0 : Q (.exit 2) ⟨unE n c S ++ [(13, .t (tI f)), (39, .t (tI n)), (40, .t (tI f)), (44, .t (A5 c.nodes)), (45, .t (tI c.nodes.l.length)), (46, .t (tI c.nodes.l.length)), (47, .t (tB false))], unH NS.length (unB F (.ls 89 0 c.nodes.l.length none) (n - f - 1)) ++ [(89, .sl 3 1 (Av CS))] ++ unG NS MS⟩) :
  ∀ (k i : Nat) (cs : List Int) (ns : List Nd) (ms : List (List UInt8)), k + i = c.nodes.l.length → cs.length = i → ns.length = ms.length → ns.length = f * c.nodes.l.length + i →
  cs ++ (List.range' i k).map (fun j : Nat => (f : Int) * c.nodes.l.length + (j : Int)) = CS → ns ++ (c.nodes.l.drop i).map (unN c.nodes.l.length f) = NS → ms ++ (List.range' i k).map (nmU f) = MS →
  run Tryz.prog Γ Lq Q ⟨unE n c S ++ [(13, .t (tI f)), (39, .t (tI n)), (40, .t (tI f)), (44, .t (A5 c.nodes)), (45, .t (tI c.nodes.l.length)), (46, .t (tI i))], unH ns.length (unB F (.ls 89 0 i none) (n - f - 1)) ++ [(89, .sl 3 1 (Av cs))] ++ unG ns ms⟩
 | 0, i, cs, ns, ms, hk, hc, hnm, hns, hC, hN, hM => by
  refine V5 fun K hK => ?_
  have h2 : i = c.nodes.l.length := by omega
  subst h2
  rw [List.drop_length] at hN
  simp only [List.range'_zero, List.map_nil, List.append_nil] at hC hN hM
  subst hC
  subst hN
  subst hM
  simp [unE, unH, unG, Ax, tC, A5, A8, Ad, B1] at h0
  simp [unE, unH, unG, Ax, tC, A5, A8, Ad, B1]
  simpa using h0
 | k + 1, i, cs, ns, ms, hk, hc, hnm, hns, hC, hN, hM => by
  refine V5 fun K hK => ?_
  have h2 : i < c.nodes.l.length := by omega
  rw [List.drop_eq_getElem_cons h2] at hN
  rw [List.range'_succ] at hC hM
  simp only [List.map_cons] at hC hN hM
  have e1 : (An Dn c.nodes.l)[i]?.getD [] = Dn c.nodes.l[i] := by simp [An, h2]
  have e1' : ∀ h, (An Dn c.nodes.l)[i]'h = Dn c.nodes.l[i] := fun h => by simp [An]
  obtain ⟨hx1, hx2⟩ := hi _ (List.getElem_mem h2)
  have hfm : f * c.nodes.l.length ≤ 8 * 16 := Nat.mul_le_mul (by omega) hm
  have hcm : ((f * c.nodes.l.length : Nat) : Int) = (f : Int) * c.nodes.l.length := by simp
  have ih := qKz c n f hf h8 hm hi S F hF CS NS MS h0 k (i + 1) (cs ++ [(f : Int) * c.nodes.l.length + (i : Int)]) (ns ++ [unN c.nodes.l.length f c.nodes.l[i]]) (ms ++ [nmU f i]) (by omega) (by simp [hc]) (by simp [hnm]) (by simp; omega) (by rw [← hC]; simp) (by rw [← hN]; simp) (by rw [← hM]; simp)
  have em := q2C (Γ := Γ) c.nodes.l.length f c.nodes.l[i].inn hx1 ⟨by rw [← hcm]; omega, by rw [← hcm]; omega⟩ hx2
  have en := q8j (Γ := Γ) f i (by omega) (by omega)
  have ea := fun x => qGD (Γ := Γ) x (nmU f i) ns ms hnm (by omega) Ax Ax
  have w1 := B0 (i := i) (by omega)
  have wm : IntKind.i64.wrap ((f : Int) * c.nodes.l.length) = (f : Int) * c.nodes.l.length := by rw [← hcm]; exact A4 (by omega) (by omega)
  have wm2 : IntKind.i64.wrap ((f : Int) * c.nodes.l.length + (i : Int)) = (f : Int) * c.nodes.l.length + (i : Int) := by rw [← hcm]; exact A4 (by omega) (by omega)
  have h3 : (i : Int) < c.nodes.l.length := by omega
  have hfn : (f : Int) < n := by omega
  have vs := Bf (f := tI) (l := cs) (x := (f : Int) * c.nodes.l.length + (i : Int))
  have vt : (Av cs).take i = Av cs := by rw [← hc]; exact Ag
  have hBl : ∀ x : AV, (unB F x (n - f - 1)).length = n := fun x => by rw [qGE]; omega
  have d1 := fun x k => qAe (x := x) (k := k) hF
  have d2 := fun x k => qDx (x := x) (k := k) hF
  have d3 := fun x k => qBs (x := x) (k := k) hF
  have d4 := fun x k => qGF (x := x) (k := k) hF
  have d5 := fun x y k => qGG (x := x) (y := y) (k := k) hF
  have hfold : ∀ x : AV, F.map AV.t ++ x :: List.replicate (n - f - 1) (AV.t (.sl [] (some 0) (some true))) = unB F x (n - f - 1) := fun x => rfl
  generalize hr : n - f - 1 = r at *
  generalize c.nodes.l[i] = x at *
  obtain ⟨xk, xin, xm, xb⟩ := x
  simp only at em ih e1 e1' hx1 hx2
  simp only [Dn] at e1 e1'
  simp only [B1] at e1 e1' em
  have q1 : List.idxOf 96009 [9, 141, 96009, 96014] = 2 := by decide
  have q2 : List.idxOf 96014 [9, 141, 96009, 96014] = 3 := by decide
  by_cases hk14 : xk = 14
  ·by_cases hf0 : f = 0
   ·have hun : unN c.nodes.l.length f ⟨xk, xin, xm, xb⟩ = ⟨0, ⟨[], some 0, some true⟩, 0, 0⟩ := by unfold unN; rw [if_pos hk14, if_pos hf0]
    rw [hun] at ih
    have hfz : ((f : Int) = 0) = True := eq_true (by omega)
    have hfz' : (f = 0) = True := eq_true hf0
    clear hf0
    have ea' := ea ⟨0, ⟨[], some 0, some true⟩, 0, 0⟩
    simp [Dn, B1, Ax, ← hnm] at ea'
    simp [unE, unH, unG, Ax, tC, A5, A8, Ad, B1] at ih
    simp [unE, unH, unG, Ax, tC, A5, A8, Ad, B1, A9, Bd, h2, h3, e1, e1', I8, Ly, M1]
    refine Aa em rfl ?_
    simp [hk14, hfz, hfz', d1, d2, d3, d4, d5, hBl, wm, wm2, vs, vt, I8, Ly, M1, hfold, hfn, hf, A0, A9, hc]
    refine ⟨by omega, by omega, by omega, ?_⟩
    refine Lm en rfl ?_
    simp [q1, q2]
    refine ⟨_, _, ea', ?_⟩
    simp [I8, Ly, M1, q1, q2, hc, q0u, w1]
    rw [hK]
    simpa using ih
   ·obtain ⟨f', rfl⟩ : ∃ f', f = f' + 1 := ⟨f - 1, by omega⟩
    have hfm' : f' * c.nodes.l.length ≤ 8 * 16 := Nat.mul_le_mul (by omega) hm
    have hcm' : ((f' * c.nodes.l.length : Nat) : Int) = (f' : Int) * c.nodes.l.length := by simp
    have em2 := q2C (Γ := Γ) c.nodes.l.length f' xin hx1 ⟨by rw [← hcm']; omega, by rw [← hcm']; omega⟩ hx2
    have hun : unN c.nodes.l.length (f' + 1) ⟨xk, xin, xm, xb⟩ = ⟨3, mvS c.nodes.l.length f' xin, 0, 0⟩ := by
     unfold unN; rw [if_pos hk14, if_neg hf0, show (((f' + 1 : Nat) : Int) - 1) = (f' : Int) by omega]
    rw [hun] at ih
    have hw2 : IntKind.i64.wrap (((f' + 1 : Nat) : Int) - 1) = (f' : Int) := by rw [show (((f' + 1 : Nat) : Int) - 1) = (f' : Int) by omega]; exact A4 (by omega) (by omega)
    have hz : ((((f' + 1 : Nat) : Int)) = 0) = False := eq_false (by omega)
    generalize hff : f' + 1 = f at *
    have hz' : (f = 0) = False := eq_false (by omega)
    simp only [B1] at em2
    have ea' := ea ⟨3, mvS c.nodes.l.length f' xin, 0, 0⟩
    simp [Dn, B1, Ax, ← hnm] at ea'
    simp [unE, unH, unG, Ax, tC, A5, A8, Ad, B1] at ih
    simp [unE, unH, unG, Ax, tC, A5, A8, Ad, B1, A9, Bd, h2, h3, e1, e1', I8, Ly, M1]
    refine Aa em rfl ?_
    simp [hk14, hz, hz', hw2, d1, d2, d3, d4, d5, hBl, wm, wm2, vs, vt, I8, Ly, M1, hfold, hfn, hf, A0, A9, hc]
    refine Aa em2 rfl ?_
    simp [hk14, hz, hz', hw2, d1, d2, d3, d4, d5, hBl, wm, wm2, vs, vt, I8, Ly, M1, hfold, hfn, hf, A0, A9, hc]
    refine ⟨by omega, by omega, by omega, ?_⟩
    refine Lm en rfl ?_
    simp [q1, q2]
    refine ⟨_, _, ea', ?_⟩
    simp [I8, Ly, M1, q1, q2, hc, q0u, w1]
    rw [hK]
    simpa using ih
  ·have hun : unN c.nodes.l.length f ⟨xk, xin, xm, xb⟩ = ⟨xk, mvS c.nodes.l.length f xin, 0, 0⟩ := by unfold unN; rw [if_neg hk14]
   rw [hun] at ih
   have ea' := ea ⟨xk, mvS c.nodes.l.length f xin, 0, 0⟩
   simp [Dn, B1, Ax, ← hnm] at ea'
   simp [unE, unH, unG, Ax, tC, A5, A8, Ad, B1] at ih
   simp [unE, unH, unG, Ax, tC, A5, A8, Ad, B1, A9, Bd, h2, h3, e1, e1', I8, Ly, M1]
   refine Aa em rfl ?_
   simp [hk14, d1, d2, d3, d4, d5, hBl, wm, wm2, vs, vt, I8, Ly, M1, hfold, hfn, hf, A0, A9, hc]
   refine ⟨by omega, by omega, by omega, ?_⟩
   refine Lm en rfl ?_
   simp [q1, q2]
   refine ⟨_, _, ea', ?_⟩
   simp [I8, Ly, M1, q1, q2, hc, q0u, w1]
   rw [hK]
   simpa using ih
end Go.Lg
