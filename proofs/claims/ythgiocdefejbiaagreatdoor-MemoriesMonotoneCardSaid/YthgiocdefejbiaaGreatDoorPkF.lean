/- Package memories: Cycle. Conditions: none. -/
import Derived.Test.YthgiocdefejbiaaGreatDoorPkE
import Derived.Test.YthgiocdefejbiaaGreatDoorPkC
import Derived.Test.YthgiocdefejbiaaGreatDoorProg
import Derived.KernelRfl
import Derived.Test.YthgiocdefejbiaaGreatDoorPkD
set_option linter.unusedSimpArgs false
set_option linter.unusedVariables false
set_option maxRecDepth 100000
namespace Go.Lg
open Go Go.Proofs
variable {Γ : Tables}
def cyH (c : B1) (n : Nat) (nets : List Int) : List (Nat × B0) := [(6, .bx [Dq, Dq, Dq]), (7, .bx [Dq, Dq]), (11, .bx (Wx c 35 n (some n))), (35, .sl 64 1 (Ag nets))]
def cyE (c : B1) (s : Q9) : List (Nat × AV) := [(3, .t (.ip (tC c) 0)), (4, .t (.ip (C9 s) 0)), (6, .lp 6 0 0), (7, .lp 7 0 0), (11, .lp 11 0 0)]
theorem qG6 {Q : AX → St → Prop} (hΓ : GOk Γ) (c : B1) (H : ROk c) (hn : c.nodes.l.length ≤ 1000000) (s : Q9) (ord : List Int) (ho : ord.length ≤ 1000000) (hin : ∀ n ∈ ord, 0 ≤ n ∧ n < c.nodes.l.length) (R : List Int)
  (h0 : Q (.exit 0) ⟨cyE c s ++ [(46, .t (.sl (Bw ord) none none)), (47, .t (tI ord.length)), (48, .t (tI ord.length)), (49, .t (tB false))], cyH c c.nodes.l.length R⟩) :
  ∀ (k i : Nat) (nets : List Int), k + i = ord.length → nets.length = c.nodes.l.length → (∀ v ∈ nets, V4 v) → q5m c (ord.drop i) nets = R →
  run Tryz.prog Γ Jk Q ⟨cyE c s ++ [(46, .t (.sl (Bw ord) none none)), (47, .t (tI ord.length)), (48, .t (tI i))], cyH c c.nodes.l.length nets⟩
 | 0, i, nets, h, hl, hv, hR => by
  refine Q5 fun K hK => ?_
  have h2 : i = ord.length := by omega
  subst h2
  rw [List.drop_length] at hR
  have hR' : nets = R := hR
  subst hR'
  simp [cyE, cyH, Wx, Dq, A7, Ac, Af, Bo] at h0
  simp [cyE, cyH, Wx, Dq, A7, Ac, Af, Bo]
  simpa using h0
 | k + 1, i, nets, h, hl, hv, hR => by
  refine Q5 fun K hK => ?_
  have h2 : i < ord.length := by omega
  rw [List.drop_eq_getElem_cons h2] at hR
  have hR : q5m c (ord.drop (i + 1)) (S5 c nets ord[i]) = R := hR
  have e1 := gE (f := tI) 0 h2
  have e1' := gE' (f := tI) 0 h2
  have hnn := hin _ (List.getElem_mem h2)
  rw [Bg h2] at e1 e1'
  generalize ord[i] = n at *
  have ih := qG6 hΓ c H hn s ord ho hin R h0 k (i + 1) (S5 c nets n) (by omega) (by rw [q4t]; exact hl) (qCC hv) hR
  have hget := q75 hnn.1 hnn.2
  have hget' := q8w hnn.1 hnn.2
  have hmem := qE8 hnn.1 hnn.2
  have hxi := H.inn _ hmem
  have hkk := H.ok.kind _ hmem
  have hinv : W0 c nets n.toNat = Bc nets (nd c n).inn.l := rfl
  have hlR : (W0 c nets n.toNat).length = (nd c n).inn.l.length := by rw [hinv]; simp [Bc]
  have hvR : ∀ v ∈ W0 c nets n.toNat, V4 v := fun v hv' => by
   rw [hinv] at hv'
   obtain ⟨q, hq, rfl⟩ := List.mem_map.1 hv'
   exact N1 hv _
  have hev := qD3 hΓ (nd c n).k hkk (W0 c nets n.toNat) none none (by rw [hlR]; omega) hvR
  have hcb := q4g (Γ := Γ) (nd c n).k
  have hst : S5 c nets n = if Dt (nd c n).k then nets.set n.toNat (Vy (nd c n).k (W0 c nets n.toNat)) else nets := rfl
  have hmv := q0C (Γ := Γ) c ⟨nets, some c.nodes.l.length, none⟩ (by show nets.length ≤ _; omega) (nd c n).inn (by omega) (fun k hk => by show 0 ≤ k ∧ k < (nets.length : Int); rw [hl]; exact hxi.2 k hk)
  have hcd : decide (1 ≤ (nd c n).k ∧ (nd c n).k ≤ 13) = Dt (nd c n).k := rfl
  rw [hcd] at hcb
  rw [hst] at ih
  simp only [← hinv] at hmv
  generalize W0 c nets n.toNat = RV at *
  generalize nd c n = x at *
  obtain ⟨hn0, hn1⟩ := hnn
  have hn2 : n.toNat < c.nodes.l.length := by omega
  have hn3 : n.toNat < nets.length := by omega
  have w1 := Bj (i := i) (by omega)
  have vt : (Ag nets).take c.nodes.l.length = Ag nets := by rw [← hl]; exact D1
  simp [Le, A7, Ac, Af, Bo, tV] at hmv
  simp [cyE, cyH, Wx, Dq, A7, Ac, Af, Bo] at ih
  simp [cyE, cyH, Wx, Dq, A7, Ac, Af, Bo, h2, A1, A5, Aa, Bl, e1, e1', hn0, hn1, hn2, hget, hget', Gq]
  refine A0 hcb rfl ?_
  by_cases hc : Dt x.k = true
  ·rw [if_pos hc] at ih
   simp only [hc]
   have hs : (Ag nets).set n.toNat [tK (Vy x.k RV)] = Ag (nets.set n.toNat (Vy x.k RV)) := Gj
   generalize Vy x.k RV = v at *
   simp
   refine A0 hmv (by simp [Ae, vt, Aj]) ?_
   simp
   refine A0 hev rfl ?_
   simp [hn0, hn1, hn2, hn3, A1, hl, hs, w1]
   rw [hK]
   simpa using ih
  ·rw [if_neg hc] at ih
   simp only [Bool.not_eq_true] at hc
   simp only [hc]
   simp [w1]
   rw [hK]
   simpa using ih
def Gg (R : List (List Int)) : Sl (Sl Int) := ⟨R.map fun r => ⟨r, none, none⟩, some R.length, none⟩
theorem qAO (R : List (List Int)) : qCH R = tW (Gg R) := by
 unfold qCH tW Gg A9
 simp [tV, Function.comp_def]
def Jp (nets : List Int) (ms : List Mm) (ws : List (Sl (Sl Int))) : List (Sl Int) := List.zipWith (fun m w => ⟨Uh (w.l.map (·.l)) (Bc nets m.addr.l), none, none⟩) ms ws
def I1 (nets : List Int) (ms : List Mm) (ws : List (Sl (Sl Int))) : List (Sl (Sl Int)) := List.zipWith (fun m w => Gg (E7 (Bc nets m.addr.l) (Bc nets m.data.l) (nets.getD m.write.toNat 0) 0 (w.l.map (·.l)))) ms ws
def qBV (c : B1) (n : Nat) (nets : List Int) (o x d : T) (rs : List (Sl Int)) (ws : List (Sl (Sl Int))) : List (Nat × B0) :=
 [(6, .bx [Dq, Dq, Dq]), (7, .bx [Dq, Dq]), (11, .bx ((Le c ⟨nets, some n, none⟩).map .t)), (17, .bx [.t o, .t x]), (18, .bx [.t d, .ls 127 0 ws.length none, .ls 105 0 rs.length none]), (105, .sl 41 1 (A9 tV rs)), (127, .sl 43 1 (A9 tW ws))]
def qBW (c : B1) (s : Q9) : List (Nat × AV) := [(4, .t (.ip (C9 s) 0)), (6, .lp 6 0 0), (7, .lp 7 0 0), (11, .lp 11 0 0), (17, .lp 17 0 0), (18, .lp 18 0 0)]
theorem qG7 {Q : AX → St → Prop} (c : B1) (hn : c.nodes.l.length ≤ 1000000) (s : Q9) (nets : List Int) (hl : nets.length = c.nodes.l.length) (hv : ∀ v ∈ nets, V4 v) (hcm : c.mems.l.length ≤ 16)
  (hm : ∀ m ∈ c.mems.l, m.addr.l.length ≤ 8 ∧ m.data.l.length ≤ 32 ∧ (∀ n ∈ m.addr.l, 0 ≤ n ∧ n < c.nodes.l.length) ∧ (∀ n ∈ m.data.l, 0 ≤ n ∧ n < c.nodes.l.length) ∧ 0 ≤ m.write ∧ m.write < c.nodes.l.length)
  (hs : s.words.l.length = c.mems.l.length) (hw : ∀ w ∈ s.words.l, w.l.length ≤ 256 ∧ w.l ≠ [] ∧ ∀ r ∈ w.l, r.l.length ≤ 32) (o x d : T) (RR : List (Sl Int)) (RW : List (Sl (Sl Int)))
  (h0 : Q (.exit 2) ⟨qBW c s ++ [(84, .t (Af c.mems)), (85, .t (tI c.mems.l.length)), (86, .t (tI c.mems.l.length)), (87, .t (tB false))], qBV c c.nodes.l.length nets o x d RR RW⟩) :
  ∀ (k i : Nat) (rs : List (Sl Int)) (ws : List (Sl (Sl Int))), k + i = c.mems.l.length → rs.length = i → ws.length = i → rs ++ Jp nets (c.mems.l.drop i) (s.words.l.drop i) = RR → ws ++ I1 nets (c.mems.l.drop i) (s.words.l.drop i) = RW →
  run Tryz.prog Γ Jl Q ⟨qBW c s ++ [(84, .t (Af c.mems)), (85, .t (tI c.mems.l.length)), (86, .t (tI i))], qBV c c.nodes.l.length nets o x d rs ws⟩
 | 0, i, rs, ws, h, hr, hws, hR, hW => by
  refine Q6 fun K hK => ?_
  have h2 : i = c.mems.l.length := by omega
  subst h2
  rw [List.drop_length] at hR hW
  simp only [Jp, I1, List.zipWith_nil_left, List.append_nil] at hR hW
  subst hR
  subst hW
  simp [qBW, qBV, Le, Dq, tV, A7, Ac, Af, Bo] at h0
  simp [qBW, qBV, Le, Dq, tV, A7, Ac, Af, Bo]
  simpa using h0
 | k + 1, i, rs, ws, h, hr, hws, hR, hW => by
  refine Q6 fun K hK => ?_
  have h2 : i < c.mems.l.length := by omega
  have h3 : i < s.words.l.length := by omega
  rw [List.drop_eq_getElem_cons h2, List.drop_eq_getElem_cons h3] at hR hW
  simp only [Jp, I1, List.zipWith_cons_cons] at hR hW
  have e1 : (B8 tMm c.mems.l)[i]?.getD [] = tMm c.mems.l[i] := by simp [B8, h2]
  have e1' : ∀ h, (B8 tMm c.mems.l)[i]'h = tMm c.mems.l[i] := fun h => by simp [B8]
  have e2 := gE (f := tW) Sl.zz h3
  have e2' := gE' (f := tW) Sl.zz h3
  rw [show s.words.l.getD i Sl.zz = s.words.l[i] by simp [List.getD_eq_getElem?_getD, h3]] at e2 e2'
  obtain ⟨ma, md, mia, mid, mw0, mw1⟩ := hm _ (List.getElem_mem h2)
  obtain ⟨wl, wn, wr⟩ := hw _ (List.getElem_mem h3)
  generalize c.mems.l[i] = m at *
  generalize s.words.l[i] = w at *
  have ih := qG7 c hn s nets hl hv hcm hm hs hw o x d RR RW h0 k (i + 1) (rs ++ [⟨Uh (w.l.map (·.l)) (Bc nets m.addr.l), none, none⟩]) (ws ++ [Gg (E7 (Bc nets m.addr.l) (Bc nets m.data.l) (nets.getD m.write.toNat 0) 0 (w.l.map (·.l)))]) (by omega) (by rw [List.length_append, hr]; rfl) (by rw [List.length_append, hws]; rfl) (by rw [← hR, List.append_assoc]; rfl) (by rw [← hW, List.append_assoc]; rfl)
  have hva := q0C (Γ := Γ) c ⟨nets, some c.nodes.l.length, none⟩ (by show nets.length ≤ _; omega) m.addr (by omega) (fun k hk => by show 0 ≤ k ∧ k < (nets.length : Int); rw [hl]; exact mia k hk)
  have hvd := q0C (Γ := Γ) c ⟨nets, some c.nodes.l.length, none⟩ (by show nets.length ≤ _; omega) m.data (by omega) (fun k hk => by show 0 ≤ k ∧ k < (nets.length : Int); rw [hl]; exact mid k hk)
  have val : (Bc nets m.addr.l).length = m.addr.l.length := by simp [Bc]
  have vdl : (Bc nets m.data.l).length = m.data.l.length := by simp [Bc]
  have vav : ∀ v ∈ Bc nets m.addr.l, 0 ≤ v := fun v hv' => by
   obtain ⟨q, _, rfl⟩ := List.mem_map.1 hv'
   exact (N1 hv _).1
  have hlook := q8S (Γ := Γ) w (by omega) (fun r hr => by have := wr r hr; omega) ⟨Bc nets m.addr.l, none, none⟩ (by show (Bc nets m.addr.l).length ≤ _; omega) vav
  have hsto := q7K (Γ := Γ) w (by omega) (fun r hr => by have := wr r hr; omega) ⟨Bc nets m.addr.l, none, none⟩ ⟨Bc nets m.data.l, none, none⟩ (by show (Bc nets m.addr.l).length ≤ _; omega) vav (by show (Bc nets m.data.l).length ≤ _; omega) (nets.getD m.write.toNat 0)
  rw [if_neg wn] at hlook
  rw [qAO] at hsto
  have hq : m.write.toNat < nets.length := by omega
  have e3 := gE (f := tK) 0 hq
  have e3' := gE' (f := tK) 0 hq
  have hqn : m.write.toNat < c.nodes.l.length := by omega
  generalize nets.getD m.write.toNat 0 = en at *
  simp only at hlook hsto hva hvd
  have hsr : A9 tV rs ++ [[tV ⟨Uh (w.l.map (·.l)) (Bc nets m.addr.l), none, none⟩]] = A9 tV (rs ++ [⟨Uh (w.l.map (·.l)) (Bc nets m.addr.l), none, none⟩]) := C6
  have hsw : A9 tW ws ++ [[tW (Gg (E7 (Bc nets m.addr.l) (Bc nets m.data.l) en 0 (w.l.map (·.l))))]] = A9 tW (ws ++ [Gg (E7 (Bc nets m.addr.l) (Bc nets m.data.l) en 0 (w.l.map (·.l)))]) := C6
  generalize Gg (E7 (Bc nets m.addr.l) (Bc nets m.data.l) en 0 (w.l.map (·.l))) = nw at *
  generalize Uh (w.l.map (·.l)) (Bc nets m.addr.l) = L at *
  have hsr : A9 tV rs ++ [[T.sl (Ag L) none none]] = A9 tV (rs ++ [⟨L, none, none⟩]) := hsr
  have hsw : A9 tW ws ++ [[T.sl (A9 tV nw.l) nw.cap nw.nl]] = A9 tW (ws ++ [nw]) := hsw
  have hsto : Ab Tryz.prog Γ 55 [tW w, .sl (Ag (Bc nets m.addr.l)) none none, .sl (Ag (Bc nets m.data.l)) none none, tK en] (T.sl (A9 tV nw.l) nw.cap nw.nl) := hsto
  generalize Bc nets m.addr.l = va at *
  generalize Bc nets m.data.l = vd at *
  have w1 := Bj (i := i) (by omega)
  have vt : (Ag nets).take c.nodes.l.length = Ag nets := by rw [← hl]; exact D1
  have vt1 : (A9 tV rs).take i = A9 tV rs := by rw [← hr]; exact An
  have vt2 : (A9 tW ws).take i = A9 tW ws := by rw [← hws]; exact An
  have h3i : (i : Int) < s.words.l.length := by omega
  simp only [tMm, Bo] at e1 e1'
  simp [Le, A7, Ac, Af, Bo] at hva hvd
  simp only [tV] at hva hvd
  simp [qBW, qBV, Le, Dq, tV, A7, Ac, Af, Bo, C9, tWs] at ih
  simp [qBW, qBV, Le, Dq, tV, A7, Ac, Af, Bo, C9, tWs, h2, On, Aa, e1, e1']
  refine A0 hva rfl ?_
  simp [h3, A1, A5, e2, e2']
  refine A8 hlook rfl ?_
  have hw1 : ∀ t : T, E5 1 [[t]] := fun t e he => by simp at he; subst he; rfl
  simp [hr, hws, h3, A1, A5, e2, e2', vt1, vt2, hsr, hw1]
  refine ⟨by omega, ?_⟩
  refine A0 hvd rfl ?_
  simp [hl, hq, hqn, mw0, mw1, e3, e3', A1, A5]
  refine A8 hsto rfl ?_
  simp [hr, hws, A1, A5, vt1, vt2, hsw, hw1, w1]
  refine ⟨by omega, ?_⟩
  rw [hK]
  simpa [hr, hws] using ih
theorem qG8 (es : List (List T)) (cap : Option Nat) (nl : Option Bool) (hw : E5 1 es) : Ab Tryz.prog Γ 57 [.sl es cap nl] (.sl es (some es.length) nl) := by
 refine Ax Wl rfl ?_
 simp [Kz, L0, hw]
theorem qG9 (es : List (List T)) (cap : Option Nat) (nl : Option Bool) (hw : E5 1 es) : Ab Tryz.prog Γ 56 [.sl es cap nl] (.sl es (some es.length) nl) := by
 refine Ax V0 rfl ?_
 simp [K5, K6, hw]
theorem q7j (c : B1) (hc : COk c) (nets : Sl Int) (hl : nets.l.length ≤ 1000000000) : Ab Tryz.prog Γ 51 [.agg (tC c), tV nets] (.agg [tVs (q06 c nets.l), tVs (Dh c nets.l)]) := by
 refine Ax q4u rfl ?_
 have h := q8p (Γ := Γ) c hc nets hl
 generalize q06 c nets.l = O at *
 generalize Dh c nets.l = N at *
 simp [Le, A7, Ac, Af, Bo, tV] at h
 simp [q0O, tC, A7, Ac, Af, Bo, tV]
 refine A0 h rfl ?_
 simp [q0P, tVs]
def Sv (c : B1) (s : Q9) (nets : List Int) : Q9 :=
 ⟨⟨Dh c nets, some (Dh c nets).length, none⟩, ⟨I1 nets c.mems.l s.words.l, some c.mems.l.length, none⟩, ⟨Jp nets c.mems.l s.words.l, some c.mems.l.length, none⟩⟩
def Bh (c : B1) (s : Q9) (inn : List Int) : List Int := q8P c inn s.dff.l s.rd
set_option maxHeartbeats 4000000 in
theorem qBX (hΓ : GOk Γ) (c : B1) (h : MOk c) (hn : c.nodes.l.length ≤ 19) (s : Q9) (H : G6 c s) (inn : Sl Int) (hi : inn.l.length = (Bz c).length) (hv : ∀ v ∈ inn.l, V4 v) (hs0 : ∀ x ∈ mems c, 0 ≤ (nd c x).mem ∧ (nd c x).mem < c.mems.l.length ∧ 0 ≤ (nd c x).bit ∧ (nd c x).bit < (c.mems.l.getD (nd c x).mem.toNat Mm.d).data.l.length) (hnv : ∀ v ∈ Bh c s inn.l, V4 v) (hlv : ∀ v ∈ Uf c inn.l s.dff.l s.rd, V4 v) :
  Ab Tryz.prog Γ 13 [.agg (tC c), .agg (C9 s), tV inn] (.tup [.agg (C9 (Sv c s (Bh c s inn.l))), .agg [tVs (q06 c (Bh c s inn.l)), tVs (Dh c (Bh c s inn.l))], .sl (Ag (Bh c s inn.l)) (some c.nodes.l.length) none, tI 0]) := by
 refine Ax q3M rfl ?_
 have e1 := qAN hΓ c h s H inn hi (fun v hv' => (hv v hv').2)
 have e2 := qBJ hΓ c h.ok hn
 have hm := h.mf
 have hcm := h.cm
 have hW := H.words h
 have hzl : (List.replicate c.nodes.l.length (0 : Int)).length = c.nodes.l.length := by simp
 have hld := qFU (Γ := Γ) c h.ok s inn (some c.nodes.l.length) (List.replicate c.nodes.l.length 0) hzl h.n hi H.d (fun x hx => by
  obtain ⟨a1, a2, a3, a4⟩ := hs0 x hx
  exact ⟨a1, by rw [H.r]; exact a2, a3, by rw [H.rl _ (by omega)]; exact a4⟩) rfl
 have hol : (Ti c).length = c.nodes.l.length := by rw [(Z6 c).1.length_eq, Rk]
 have g1 := fun Q h0 => qG6 (Γ := Γ) (Q := Q) hΓ c (qHC h.ok h.lev) h.n s (Ti c) (by omega) (fun n hn => by rw [(Z6 c).1.mem_iff, q6A] at hn; exact hn) (Bh c s inn.l) h0 (Ti c).length 0 (Uf c inn.l s.dff.l s.rd) (by omega) q25 hlv rfl
 have hnl : (Bh c s inn.l).length = c.nodes.l.length := q4x
 have hll : (Uf c inn.l s.dff.l s.rd).length = c.nodes.l.length := q25
 have hobs := q7j (Γ := Γ) c h.ok ⟨Bh c s inn.l, some c.nodes.l.length, none⟩ (by show (Bh c s inn.l).length ≤ _; omega)
 have hcl := qD5 (Γ := Γ) ⟨Dh c (Bh c s inn.l), some (Dh c (Bh c s inn.l)).length, none⟩ (fun h => nomatch h) (by have := Gv c; show (Dh c _).length ≤ _; unfold Dh; rw [List.length_map]; omega)
 have hcs : q8u ⟨Dh c (Bh c s inn.l), some (Dh c (Bh c s inn.l)).length, none⟩ = ⟨Dh c (Bh c s inn.l), none, none⟩ := by unfold q8u; rw [if_neg (fun h => nomatch h)]
 rw [hcs] at hcl
 have g3 := fun Q o x d h0 => qG7 (Γ := Γ) (Q := Q) c h.n s (Bh c s inn.l) hnl hnv hcm (fun m hm' => ⟨(hm m hm').1.2, (hm m hm').2.1.2, (hm m hm').2.2⟩) H.w hW o x d (Jp (Bh c s inn.l) c.mems.l s.words.l) (I1 (Bh c s inn.l) c.mems.l s.words.l) h0 c.mems.l.length 0 [] [] (by omega) rfl rfl rfl rfl
 have htk : (Ag (Bh c s inn.l)).take c.nodes.l.length = Ag (Bh c s inn.l) := by rw [← hnl]; exact D1
 have lR : (Jp (Bh c s inn.l) c.mems.l s.words.l).length = c.mems.l.length := by unfold Jp; rw [List.length_zipWith, H.w, Nat.min_self]
 have lW : (I1 (Bh c s inn.l) c.mems.l s.words.l).length = c.mems.l.length := by unfold I1; rw [List.length_zipWith, H.w, Nat.min_self]
 have tR : (A9 tV (Jp (Bh c s inn.l) c.mems.l s.words.l)).take c.mems.l.length = A9 tV (Jp (Bh c s inn.l) c.mems.l s.words.l) := by rw [← lR]; exact An
 have tW' : (A9 tW (I1 (Bh c s inn.l) c.mems.l s.words.l)).take c.mems.l.length = A9 tW (I1 (Bh c s inn.l) c.mems.l s.words.l) := by rw [← lW]; exact An
 have c1 := qE7 (Γ := Γ) (Ag (Dh c (Bh c s inn.l))) none none A5
 have c2 := qG8 (Γ := Γ) (A9 tV (Jp (Bh c s inn.l) c.mems.l s.words.l)) none none A5
 have c3 := qG9 (Γ := Γ) (A9 tW (I1 (Bh c s inn.l) c.mems.l s.words.l)) none none A5
 rw [A1] at c1 c2 c3
 rw [lR] at c2
 rw [lW] at c3
 have hz : List.replicate c.nodes.l.length [T.v (Value.int .u8 0)] = Ag (List.replicate c.nodes.l.length 0) := by simp [A9]
 unfold Sv
 generalize Jp (Bh c s inn.l) c.mems.l s.words.l = NR at *
 generalize I1 (Bh c s inn.l) c.mems.l s.words.l = NW at *
 generalize q06 c (Bh c s inn.l) = O at *
 generalize Dh c (Bh c s inn.l) = X at *
 generalize Bh c s inn.l = N at *
 generalize Uf c inn.l s.dff.l s.rd = L at *
 have hlev := h.lev
 simp [tC, A7, Ac, Af, Bo, C9, tV, tW, tWs] at e1 e2 hobs hcl
 simp [hlev] at e2
 simp [Wx, A7, Ac, Af, Bo, C9, tV, tW, tWs] at hld
 simp [cyE, cyH, Wx, Dq, tC, A7, Ac, Af, Bo, C9, tV, tW, tWs] at g1
 simp [qBW, qBV, Le, Dq, tC, A7, Ac, Af, Bo, C9, tV, tW, tWs, Gk, lR, lW] at g3
 simp [Xx, tC, A7, Ac, Af, Bo, C9, tV, tW, tWs]
 refine A8 e1 rfl ?_
 simp [Aa]
 refine ⟨by omega, ?_⟩
 rw [hz]
 refine ⟨_, _, hld, ?_⟩
 simp [A1, hll]
 refine A0 e2 rfl ?_
 simp [A1]
 refine g1 _ ?_
 simp [St.freeze, B0.closed, Cm, frz1, frz0, G9, del, Ae, htk]
 refine A8 hobs rfl ?_
 simp [tVs]
 refine A8 hcl rfl ?_
 simp
 refine A8 c1 rfl ?_
 simp [Aa]
 refine g3 _ _ _ _ ?_
 simp [St.freeze, B0.closed, Cm, frz1, frz0, G9, del, Ae, tR, tW']
 refine A8 c3 rfl ?_
 simp
 refine A8 c2 rfl ?_
 simp [Xy, Ae, Aj]
end Go.Lg
namespace Go.Lg
open Go
section
variable {P : Program} {Γ : Tables} {Q : AX → St → Prop} {s : St}
/- probecard/memories.alike (function 65) -/
abbrev Y4 : IC := (.seq (.reg [od 3 (.box true (tm 0)), od 4 (.box true (tm 1)), od 5 (.box true (tm 2)), od 6 (.mv kF)] [kp [3, 4, 5] []]) (.seq (.reg [od 9 (.mkf 134 [(tm 5)]), od 7 (.alloc false [.nilFunc]), on (.store 1 (tm 7) (tm 9))] [kp [3,
 4, 7] [7]]) (.seq (.reg [od 10 (.mkf 136 [(tm 7)]), om 8 10] [kp [3, 4, 7, 8] [7]]) (.seq (.reg [od 11 (ld 1 7), od 12 (fa 0 3), od 13 (ld 1 12), od 14 (fa 0 4), od 15 (ld 1 14), od 16 (.callv (tm 11) [(tm 13), (tm 15)]), om 17 16,
 oT 18 (.mv (tm 8)) 17, oT 19 (fa 2 3) 17, oT 20 (ld 1 19) 17, oT 21 (fa 2 4) 17, oT 22 (ld 1 21) 17, oT 23 (.callv (tm 18) [(tm 20), (tm 22)]) 17, od 24 (.pick (tm 17) (tm 23) kF), om 25 24, oT 26 (fa 1 3) 25, oT 27 (ld 1 26) 25,
 oT 28 (fa 1 4) 25, oT 29 (ld 1 28) 25, oT 30 (.mv (tm 8)) 25, oT 31 (.call 138 [(tm 27), (tm 29), (tm 30)]) 25, od 32 (.pick (tm 25) (tm 31) kF), om 6 32] [kp [6] []]) .ret))))
def Y5 : List RV := [.tmp 6]
/- probecard/memories.alike$1 (function 134) -/
abbrev Ui : IC := (.seq (.reg [od 5 (.mv kF)] [kp [0, 1, 2] []]) (.seq (.reg [om 6 0, om 7 1, od 8 (ld 1 2), od 9 (.call 135 [(tm 6), (tm 7), (tm 8)]), om 5 9] [kp [5] []]) .ret))
def Uj : List RV := [.tmp 5]
/- probecard/memories.alike$2 (function 136) -/
abbrev Uk : IC := (.seq (.reg [od 5 (.mv kF)] [kp [0, 1, 2] []]) (.seq (.reg [om 6 0, om 7 1, od 8 (ld 1 2), od 9 (.call 137 [(tm 6), (tm 7), (tm 8)]), om 5 9] [kp [5] []]) .ret))
def Ul : List RV := [.tmp 5]
/- probecard/memories.Below (function 23) -/
abbrev Y6 : IC := (.seq (.reg [od 2 (.box true (tm 0)), od 3 (.box true (tm 1)), od 4 (.mv kF)] [kp [2, 3] []]) (.seq (.reg [od 5 (lG 3 2), od 6 (lG 3 3), od 7 (.call 65 [(tm 5), (tm 6), (.func 75)]), om 4 7] [kp [4] []]) .ret))
def Y7 : List RV := [.tmp 4]
/- probecard/memories.Same (function 19) -/
abbrev I2 : IC := .gh (.seq (.reg [od 18 (.bin .lss (tm 17) (tm 16))] [kp [1, 2, 15, 16, 17, 18] []]) (.seq (.cond (tm 18) .skip (.exit 0)) (.seq (.block 1 (.seq (.reg [om 19 17, od 20 (ia 1 15 17), od 21 (ld 1 20), om 7 19, om 8 21] [kp [1, 2, 7,
 8, 15, 16, 17] []]) (.seq (.reg [om 22 1, om 23 7, od 24 (ia 1 22 23), od 25 (ld 1 24), om 9 25] [kp [1, 2, 8, 9, 15, 16, 17] []]) (.seq (.reg [om 26 2, om 27 8, om 28 9, od 29 (.callv (tm 26) [(tm 27), (tm 28)]), od 30 (.un .not
 (tm 29))] [kp [1, 2, 15, 16, 17, 30] []]) (.cond (tm 30) (.seq (.reg [od 6 (.mv kF)] [kp [6] []]) .ret) .skip))))) (.reg [od 31 (.bin .add (tm 17) (ki 1)), om 17 31] [kp [1, 2, 15, 16, 17] []])))) [kp [1, 2, 15, 16, 17] []]
def D9 : IC := .loop I2
abbrev I3 : IC := (.seq (.reg [od 6 (.mv kF)] [kp [0, 1, 2] []]) (.seq (.seq (.reg [om 10 0, od 11 (le 0 10), om 12 1, od 13 (le 0 12), od 14 (.bin .neq (tm 11) (tm 13))] [kp [0, 1, 2, 14] []]) (.cond (tm 14) (.seq (.reg [od 6 (.mv kF)] [kp [6] []])
 .ret) .skip)) (.seq (.seq (.reg [om 15 0, od 16 (le 0 15), od 17 (.mv (ki 0))] [kp [1, 2, 15, 16, 17] []]) (.block 0 D9)) (.seq (.reg [od 6 (.mv kT)] [kp [6] []]) .ret))))
theorem G7 (h : ∀ K : St → Prop, K = run P Γ D9 Q → run P Γ I2 (Ao K Q) s) : run P Γ D9 Q s := Ad h
def I4 : List RV := [.tmp 6]
/- slices.EqualFunc[[][]probecard/api.Value,[][]probecard/api.Value,[]probecard/api.Value,[]probecard/api.Value] (function 137) -/
abbrev Hr : IC := .gh (.seq (.reg [od 18 (.bin .lss (tm 17) (tm 16))] [kp [1, 2, 15, 16, 17, 18] []]) (.seq (.cond (tm 18) .skip (.exit 0)) (.seq (.block 1 (.seq (.reg [om 19 17, od 20 (ia 1 15 17), od 21 (ld 1 20), om 7 19, om 8 21] [kp [1, 2, 7,
 8, 15, 16, 17] []]) (.seq (.reg [om 22 1, om 23 7, od 24 (ia 1 22 23), od 25 (ld 1 24), om 9 25] [kp [1, 2, 8, 9, 15, 16, 17] []]) (.seq (.reg [om 26 2, om 27 8, om 28 9, od 29 (.callv (tm 26) [(tm 27), (tm 28)]), od 30 (.un .not
 (tm 29))] [kp [1, 2, 15, 16, 17, 30] []]) (.cond (tm 30) (.seq (.reg [od 6 (.mv kF)] [kp [6] []]) .ret) .skip))))) (.reg [od 31 (.bin .add (tm 17) (ki 1)), om 17 31] [kp [1, 2, 15, 16, 17] []])))) [kp [1, 2, 15, 16, 17] []]
def D4 : IC := .loop Hr
abbrev Ht : IC := (.seq (.reg [od 6 (.mv kF)] [kp [0, 1, 2] []]) (.seq (.seq (.reg [om 10 0, od 11 (le 0 10), om 12 1, od 13 (le 0 12), od 14 (.bin .neq (tm 11) (tm 13))] [kp [0, 1, 2, 14] []]) (.cond (tm 14) (.seq (.reg [od 6 (.mv kF)] [kp [6] []])
 .ret) .skip)) (.seq (.seq (.reg [om 15 0, od 16 (le 0 15), od 17 (.mv (ki 0))] [kp [1, 2, 15, 16, 17] []]) (.block 0 D4)) (.seq (.reg [od 6 (.mv kT)] [kp [6] []]) .ret))))
theorem G1 (h : ∀ K : St → Prop, K = run P Γ D4 Q → run P Γ Hr (Ao K Q) s) : run P Γ D4 Q s := Ad h
def Hu : List RV := [.tmp 6]
/- slices.EqualFunc[[][][]probecard/api.Value,[][][]probecard/api.Value,[][]probecard/api.Value,[][]probecard/api.Value] (function 138) -/
abbrev H3 : IC := .gh (.seq (.reg [od 18 (.bin .lss (tm 17) (tm 16))] [kp [1, 2, 15, 16, 17, 18] []]) (.seq (.cond (tm 18) .skip (.exit 0)) (.seq (.block 1 (.seq (.reg [om 19 17, od 20 (ia 1 15 17), od 21 (ld 1 20), om 7 19, om 8 21] [kp [1, 2, 7,
 8, 15, 16, 17] []]) (.seq (.reg [om 22 1, om 23 7, od 24 (ia 1 22 23), od 25 (ld 1 24), om 9 25] [kp [1, 2, 8, 9, 15, 16, 17] []]) (.seq (.reg [om 26 2, om 27 8, om 28 9, od 29 (.callv (tm 26) [(tm 27), (tm 28)]), od 30 (.un .not
 (tm 29))] [kp [1, 2, 15, 16, 17, 30] []]) (.cond (tm 30) (.seq (.reg [od 6 (.mv kF)] [kp [6] []]) .ret) .skip))))) (.reg [od 31 (.bin .add (tm 17) (ki 1)), om 17 31] [kp [1, 2, 15, 16, 17] []])))) [kp [1, 2, 15, 16, 17] []]
def Cc : IC := .loop H3
abbrev H4 : IC := (.seq (.reg [od 6 (.mv kF)] [kp [0, 1, 2] []]) (.seq (.seq (.reg [om 10 0, od 11 (le 0 10), om 12 1, od 13 (le 0 12), od 14 (.bin .neq (tm 11) (tm 13))] [kp [0, 1, 2, 14] []]) (.cond (tm 14) (.seq (.reg [od 6 (.mv kF)] [kp [6] []])
 .ret) .skip)) (.seq (.seq (.reg [om 15 0, od 16 (le 0 15), od 17 (.mv (ki 0))] [kp [1, 2, 15, 16, 17] []]) (.block 0 Cc)) (.seq (.reg [od 6 (.mv kT)] [kp [6] []]) .ret))))
theorem F8 (h : ∀ K : St → Prop, K = run P Γ Cc Q → run P Γ H3 (Ao K Q) s) : run P Γ Cc Q s := Ad h
def H5 : List RV := [.tmp 6]
end
end Go.Lg
namespace Go.Lg
open Go Go.Proofs
theorem q3R : Aq Tryz.prog 65 Y4 33 3 Y5 = true := by kernel_rfl
theorem q1f : Aq Tryz.prog 134 Ui 10 3 Uj = true := by kernel_rfl
theorem q1g : Aq Tryz.prog 136 Uk 10 3 Ul = true := by kernel_rfl
theorem q3S : Aq Tryz.prog 23 Y6 8 2 Y7 = true := by kernel_rfl
theorem Qx : Aq Tryz.prog 135 I3 32 3 I4 = true := by kernel_rfl
theorem Pm : Aq Tryz.prog 137 Ht 32 3 Hu = true := by kernel_rfl
theorem P8 : Aq Tryz.prog 138 H4 32 3 H5 = true := by kernel_rfl
end Go.Lg
namespace Go.Lg
open Go Go.Proofs
variable {Γ : Tables}
theorem q0D {hp : List (Nat × B0)} {f : FuncId} {K : T → Prop} {cs : List T} {t u res : T} (h : Ab Tryz.prog Γ f (t :: u :: cs) res ∨ A3 Tryz.prog Γ f (t :: u :: cs) res) (hk : K res) : q2M Tryz.prog Γ hp f (.t t :: .t u :: cs.map .t) K ⟨⟩ := by
 rcases h with h | h
 ·exact A8 h (by simp only [List.map_cons, List.map_map, Function.comp_def, Aj, toT]; rw [Nw]; rfl) hk
 ·exact A0 h (by simp only [List.map_cons, List.map_map, Function.comp_def, Aj, Ae]; rw [Nw]; rfl) hk
theorem qEN {Q : AX → St → Prop} (a b : List Int) (ac bc : Option Nat) (an bn : Option Bool) (hl : a.length ≤ 1000000) (hab : a.length = b.length) (f : FuncId) (cs : List T)
  (hf : ∀ i, i < a.length → Ab Tryz.prog Γ f (tK (a.getD i 0) :: tK (b.getD i 0) :: cs) (tB true) ∨ A3 Tryz.prog Γ f (tK (a.getD i 0) :: tK (b.getD i 0) :: cs) (tB true))
  (h0 : Q (.exit 0) ⟨[(1, .t (.sl (A9 tK b) bc bn)), (2, .t (.fn f cs)), (15, .t (.sl (A9 tK a) ac an)), (16, .t (tI a.length)), (17, .t (tI a.length)), (18, .t (tB false))], []⟩) :
  ∀ (k i : Nat), k + i = a.length → run Tryz.prog Γ D9 Q ⟨[(1, .t (.sl (A9 tK b) bc bn)), (2, .t (.fn f cs)), (15, .t (.sl (A9 tK a) ac an)), (16, .t (tI a.length)), (17, .t (tI i))], []⟩
 | 0, i, h => by
  refine G7 fun K hK => ?_
  have h2 : i = a.length := by omega
  subst h2
  simp
  simpa using h0
 | k + 1, i, h => by
  refine G7 fun K hK => ?_
  have h2 : i < a.length := by omega
  have h3 : i < b.length := by omega
  have ih := qEN a b ac bc an bn hl hab f cs hf h0 k (i + 1) (by omega)
  have hq := hf i h2
  have e1 := gE (f := tK) 0 h2
  have e1' := gE' (f := tK) 0 h2
  have e2 := gE (f := tK) 0 h3
  have e2' := gE' (f := tK) 0 h3
  generalize a.getD i 0 = x at *
  generalize b.getD i 0 = y at *
  have w1 := Bj (i := i) (by omega)
  simp [A1, A5, h2, h3, e1, e1', e2, e2']
  refine q0D hq ?_
  simp [w1]
  rw [hK]
  simpa using ih
theorem qEO (a b : List Int) (ac bc : Option Nat) (an bn : Option Bool) (hl : a.length ≤ 1000000) (hab : a.length = b.length) (f : FuncId) (cs : List T)
  (hf : ∀ i, i < a.length → Ab Tryz.prog Γ f (tK (a.getD i 0) :: tK (b.getD i 0) :: cs) (tB true) ∨ A3 Tryz.prog Γ f (tK (a.getD i 0) :: tK (b.getD i 0) :: cs) (tB true)) :
  A3 Tryz.prog Γ 135 [.sl (A9 tK a) ac an, .sl (A9 tK b) bc bn, .fn f cs] (tB true) := by
 refine A6 Qx rfl ?_
 have g := fun Q h0 => qEN (Γ := Γ) (Q := Q) a b ac bc an bn hl hab f cs hf h0 a.length 0 (by omega)
 simp at g
 simp [I3, A1, hab]
 rw [hab] at g
 refine g _ ?_
 simp [I4]
theorem qEP {Q : AX → St → Prop} (a b : List (Sl Int)) (ac bc : Option Nat) (an bn : Option Bool) (hl : a.length ≤ 1000000) (hab : a.length = b.length) (f : FuncId) (cs : List T)
  (hf : ∀ i, i < a.length → Ab Tryz.prog Γ f (tV (a.getD i Sl.z) :: tV (b.getD i Sl.z) :: cs) (tB true) ∨ A3 Tryz.prog Γ f (tV (a.getD i Sl.z) :: tV (b.getD i Sl.z) :: cs) (tB true))
  (h0 : Q (.exit 0) ⟨[(1, .t (.sl (A9 tV b) bc bn)), (2, .t (.fn f cs)), (15, .t (.sl (A9 tV a) ac an)), (16, .t (tI a.length)), (17, .t (tI a.length)), (18, .t (tB false))], []⟩) :
  ∀ (k i : Nat), k + i = a.length → run Tryz.prog Γ D4 Q ⟨[(1, .t (.sl (A9 tV b) bc bn)), (2, .t (.fn f cs)), (15, .t (.sl (A9 tV a) ac an)), (16, .t (tI a.length)), (17, .t (tI i))], []⟩
 | 0, i, h => by
  refine G1 fun K hK => ?_
  have h2 : i = a.length := by omega
  subst h2
  simp
  simpa using h0
 | k + 1, i, h => by
  refine G1 fun K hK => ?_
  have h2 : i < a.length := by omega
  have h3 : i < b.length := by omega
  have ih := qEP a b ac bc an bn hl hab f cs hf h0 k (i + 1) (by omega)
  have hq := hf i h2
  have e1 := gE (f := tV) Sl.z h2
  have e1' := gE' (f := tV) Sl.z h2
  have e2 := gE (f := tV) Sl.z h3
  have e2' := gE' (f := tV) Sl.z h3
  generalize a.getD i Sl.z = x at *
  generalize b.getD i Sl.z = y at *
  have w1 := Bj (i := i) (by omega)
  simp [A1, A5, h2, h3, e1, e1', e2, e2']
  refine q0D hq ?_
  simp [w1]
  rw [hK]
  simpa using ih
theorem qEQ (a b : List (Sl Int)) (ac bc : Option Nat) (an bn : Option Bool) (hl : a.length ≤ 1000000) (hab : a.length = b.length) (f : FuncId) (cs : List T)
  (hf : ∀ i, i < a.length → Ab Tryz.prog Γ f (tV (a.getD i Sl.z) :: tV (b.getD i Sl.z) :: cs) (tB true) ∨ A3 Tryz.prog Γ f (tV (a.getD i Sl.z) :: tV (b.getD i Sl.z) :: cs) (tB true)) :
  A3 Tryz.prog Γ 137 [.sl (A9 tV a) ac an, .sl (A9 tV b) bc bn, .fn f cs] (tB true) := by
 refine A6 Pm rfl ?_
 have g := fun Q h0 => qEP (Γ := Γ) (Q := Q) a b ac bc an bn hl hab f cs hf h0 a.length 0 (by omega)
 simp at g
 simp [Ht, A1, hab]
 rw [hab] at g
 refine g _ ?_
 simp [Hu]
theorem qER {Q : AX → St → Prop} (a b : List (Sl (Sl Int))) (ac bc : Option Nat) (an bn : Option Bool) (hl : a.length ≤ 1000000) (hab : a.length = b.length) (f : FuncId) (cs : List T)
  (hf : ∀ i, i < a.length → Ab Tryz.prog Γ f (tW (a.getD i Sl.zz) :: tW (b.getD i Sl.zz) :: cs) (tB true) ∨ A3 Tryz.prog Γ f (tW (a.getD i Sl.zz) :: tW (b.getD i Sl.zz) :: cs) (tB true))
  (h0 : Q (.exit 0) ⟨[(1, .t (.sl (A9 tW b) bc bn)), (2, .t (.fn f cs)), (15, .t (.sl (A9 tW a) ac an)), (16, .t (tI a.length)), (17, .t (tI a.length)), (18, .t (tB false))], []⟩) :
  ∀ (k i : Nat), k + i = a.length → run Tryz.prog Γ Cc Q ⟨[(1, .t (.sl (A9 tW b) bc bn)), (2, .t (.fn f cs)), (15, .t (.sl (A9 tW a) ac an)), (16, .t (tI a.length)), (17, .t (tI i))], []⟩
 | 0, i, h => by
  refine F8 fun K hK => ?_
  have h2 : i = a.length := by omega
  subst h2
  simp
  simpa using h0
 | k + 1, i, h => by
  refine F8 fun K hK => ?_
  have h2 : i < a.length := by omega
  have h3 : i < b.length := by omega
  have ih := qER a b ac bc an bn hl hab f cs hf h0 k (i + 1) (by omega)
  have hq := hf i h2
  have e1 := gE (f := tW) Sl.zz h2
  have e1' := gE' (f := tW) Sl.zz h2
  have e2 := gE (f := tW) Sl.zz h3
  have e2' := gE' (f := tW) Sl.zz h3
  generalize a.getD i Sl.zz = x at *
  generalize b.getD i Sl.zz = y at *
  have w1 := Bj (i := i) (by omega)
  simp [A1, A5, h2, h3, e1, e1', e2, e2']
  refine q0D hq ?_
  simp [w1]
  rw [hK]
  simpa using ih
theorem qES (a b : List (Sl (Sl Int))) (ac bc : Option Nat) (an bn : Option Bool) (hl : a.length ≤ 1000000) (hab : a.length = b.length) (f : FuncId) (cs : List T)
  (hf : ∀ i, i < a.length → Ab Tryz.prog Γ f (tW (a.getD i Sl.zz) :: tW (b.getD i Sl.zz) :: cs) (tB true) ∨ A3 Tryz.prog Γ f (tW (a.getD i Sl.zz) :: tW (b.getD i Sl.zz) :: cs) (tB true)) :
  A3 Tryz.prog Γ 138 [.sl (A9 tW a) ac an, .sl (A9 tW b) bc bn, .fn f cs] (tB true) := by
 refine A6 P8 rfl ?_
 have g := fun Q h0 => qER (Γ := Γ) (Q := Q) a b ac bc an bn hl hab f cs hf h0 a.length 0 (by omega)
 simp at g
 simp [H4, A1, hab]
 rw [hab] at g
 refine g _ ?_
 simp [H5]
def q5w (rel : Int → Int → Prop) (l m : List Int) : Prop := l.length = m.length ∧ ∀ i, i < l.length → rel (l.getD i 0) (m.getD i 0)
structure q7k (rel : Int → Int → Prop) (a b : Q9) : Prop where
 d : q5w rel a.dff.l b.dff.l
 rl : a.read.l.length = b.read.l.length
 r : ∀ i, i < a.read.l.length → q5w rel (a.read.l.getD i Sl.z).l (b.read.l.getD i Sl.z).l
 wl : a.words.l.length = b.words.l.length
 w : ∀ i, i < a.words.l.length → (a.words.l.getD i Sl.zz).l.length = (b.words.l.getD i Sl.zz).l.length ∧ ∀ j, j < (a.words.l.getD i Sl.zz).l.length → q5w rel ((a.words.l.getD i Sl.zz).l.getD j Sl.z).l ((b.words.l.getD i Sl.zz).l.getD j Sl.z).l
structure qFV (a : Q9) : Prop where
 d : a.dff.l.length ≤ 1000000
 r : a.read.l.length ≤ 1000000 ∧ ∀ x ∈ a.read.l, x.l.length ≤ 1000000
 w : a.words.l.length ≤ 1000000 ∧ ∀ x ∈ a.words.l, x.l.length ≤ 1000000 ∧ ∀ y ∈ x.l, y.l.length ≤ 1000000
theorem q5f (a b : Sl Int) (hl : a.l.length ≤ 1000000) (f : FuncId) (rel : Int → Int → Prop) (hf : ∀ x y, rel x y → A3 Tryz.prog Γ f [tK x, tK y] (tB true)) (h : q5w rel a.l b.l) :
  A3 Tryz.prog Γ 134 [tV a, tV b, .ip [.fn f []] 0] (tB true) := by
 refine A6 q1f rfl ?_
 have e := qEO (Γ := Γ) a.l b.l a.cap b.cap a.nl b.nl hl h.1 f [] (fun i hi => .inr (hf _ _ (h.2 i hi)))
 simp [Ui, tV]
 refine A0 e rfl ?_
 simp [Uj]
theorem q5g (a b : Sl (Sl Int)) (hl : a.l.length ≤ 1000000) (hl2 : ∀ x ∈ a.l, x.l.length ≤ 1000000) (f : FuncId) (rel : Int → Int → Prop) (hf : ∀ x y, rel x y → A3 Tryz.prog Γ f [tK x, tK y] (tB true)) (hab : a.l.length = b.l.length)
  (h : ∀ i, i < a.l.length → q5w rel (a.l.getD i Sl.z).l (b.l.getD i Sl.z).l) :
  A3 Tryz.prog Γ 136 [tW a, tW b, .ip [.fn 134 [.ip [.fn f []] 0]] 0] (tB true) := by
 refine A6 q1g rfl ?_
 have e := qEQ (Γ := Γ) a.l b.l a.cap b.cap a.nl b.nl hl hab 134 [.ip [.fn f []] 0] (fun i hi => .inr (q5f _ _ (hl2 _ (Qw hi)) f rel hf (h i hi)))
 simp [Uk, tW]
 refine A0 e rfl ?_
 simp [Ul]
theorem qBY (a b : Q9) (hs : qFV a) (f : FuncId) (rel : Int → Int → Prop) (hf : ∀ x y, rel x y → A3 Tryz.prog Γ f [tK x, tK y] (tB true)) (h : q7k rel a b) :
  Ab Tryz.prog Γ 65 [.agg (C9 a), .agg (C9 b), .fn f []] (tB true) := by
 refine Ax q3R rfl ?_
 have e1 := q5f (Γ := Γ) a.dff b.dff hs.d f rel hf h.d
 have e2 := q5g (Γ := Γ) a.read b.read hs.r.1 hs.r.2 f rel hf h.rl h.r
 have e3 := qES (Γ := Γ) a.words.l b.words.l a.words.cap b.words.cap a.words.nl b.words.nl hs.w.1 h.wl 136 [.ip [.fn 134 [.ip [.fn f []] 0]] 0]
  (fun i hi => .inr (q5g _ _ (hs.w.2 _ (Qw hi)).1 (fun x hx => (hs.w.2 _ (Qw hi)).2 x hx) f rel hf (h.w i hi).1 (h.w i hi).2))
 simp [tV, tW] at e1 e2
 simp [Y4, C9, tV, tW, tWs]
 refine A0 e1 (by simp [Ae, Aj]) ?_
 simp
 refine A0 e2 (by simp [Ae, Aj]) ?_
 simp
 refine A0 e3 (by simp [Ae, Aj]) ?_
 simp [Y5]
theorem q1h (a b : Q9) (hs : qFV a) (h : q7k N2 a b) : Ab Tryz.prog Γ 23 [.agg (C9 a), .agg (C9 b)] (tB true) := by
 refine Ax q3S rfl ?_
 have e := qBY (Γ := Γ) a b hs 75 N2 (fun x y h => by
  have := q7C (Γ := Γ) x y
  rwa [N2.below h] at this) h
 simp [C9, tV, tW, tWs] at e
 simp [Y6, C9, tV, tW, tWs]
 refine A8 e rfl ?_
 simp [Y7]
end Go.Lg
namespace Go.Lg
open Go
section
variable {P : Program} {Γ : Tables} {Q : AX → St → Prop} {s : St}
/- probecard/probecardlaw09.taken (function 80) -/
abbrev q1i : IC := .gh (.seq (.seq (.reg [om 9 8, om 10 2, od 11 (.bin .lss (tm 9) (tm 10))] [kp [0, 1, 2, 7, 8, 11] [19]]) (.cond (tm 11) .skip (.exit 0))) (.seq (.block 1 (.seq (.reg [om 14 0, od 15 (le 0 14), od 16 (.bin .eql (tm 15) (ki 0))] [kp
 [0, 1, 2, 7, 8, 16] [19]]) (.cond (tm 16) (.reg [om 17 7, od 18 (.bsl true 64 1 [(ku 2)]), od 19 (.app false 64 1 (tm 17) (tm 18)), om 7 19] [kp [0, 1, 2, 7, 8] [19]]) (.reg [om 20 7, om 21 0, om 22 1, om 23 8, od 24 (.bin .add (tm
 22) (tm 23)), om 25 0, od 26 (le 0 25), od 27 (.bin .rem (tm 24) (tm 26)), od 28 (ia 1 21 27), od 29 (ld 1 28), od 30 (.bin .rem (tm 29) (ku 3)), od 31 (.bsl true 64 1 [(tm 30)]), oz 32 (.app false 64 1 (tm 20) (tm 31)) 19, om 7
 32] [kp [0, 1, 2, 7, 8] [19]])))) (.reg [om 12 8, od 13 (.bin .add (tm 12) (ki 1)), om 8 13] [kp [0, 1, 2, 7, 8] [19]]))) [kp [0, 1, 2, 7, 8] [19]]
def P9 : IC := .loop q1i
abbrev q1j : IC := (.seq (.reg [od 6 (.mv kN)] [kp [0, 1, 2] []]) (.seq (.reg [od 7 (.mv kN)] [.nl 7 19 64 1, kp [0, 1, 2, 7] [19]]) (.seq (.seq (.reg [od 8 (.mv (ki 0))] [kp [0, 1, 2, 7, 8] [19]]) (.block 0 P9)) (.seq (.reg [om 33 7, om
 6 33] [kp [6] [19]]) .ret))))
theorem Wm (h : ∀ K : St → Prop, K = run P Γ P9 Q → run P Γ q1i (Ao K Q) s) : run P Γ P9 Q s := Ad h
def q1k : List RV := [.tmp 6]
/- (probecard/probecardlaw09.S).Of (function 27) -/
abbrev q2j : IC := .gh (.seq (.seq (.reg [om 33 10, od 34 (fa 2 3), od 35 (ld 1 34), om 36 7, od 37 (ia 3 35 36), od 38 (fa 0 37), od 39 (ld 1 38), od 40 (le 0 39), od 41 (.mmx false [(tm 40), (ki 8)]), od 42 (.bin .shl (ki 1) (tm 41)), od 43 (.bin
 .lss (tm 33) (tm 42))] [kp [2, 3, 4, 5, 6, 7, 8, 9, 10, 43] [4, 5, 53, 61, 71]]) (.cond (tm 43) .skip (.exit 2))) (.seq (.block 3 (.seq (.reg [om 46 9, od 47 (fa 0 2), od 48 (ld 1 47), om 49 6, om 50 8, od 51 (.call 80 [(tm 48),
 (tm 49), (tm 50)]), od 52 (.bsl true 41 1 [(tm 51)]), od 53 (.app false 41 1 (tm 46) (tm 52)), om 9 53] [kp [2, 3, 4, 5, 6, 7, 8, 9, 10] [4, 5, 53, 61, 71]]) (.reg [om 54 6, om 55 8, od 56 (.bin .add (tm 54) (tm 55)), om 6 56] [kp
 [2, 3, 4, 5, 6, 7, 8, 9, 10] [4, 5, 53, 61, 71]]))) (.reg [om 44 10, od 45 (.bin .add (tm 44) (ki 1)), om 10 45] [kp [2, 3, 4, 5, 6, 7, 8, 9, 10] [4, 5, 53, 61, 71]]))) [kp [2, 3, 4, 5, 6, 7, 8, 9, 10] [4, 5, 53, 61, 71]]
def Rm : IC := .loop q2j
abbrev q2k : IC := .gh (.seq (.seq (.reg [om 19 7, od 20 (fa 2 3), od 21 (ld 1 20), od 22 (le 0 21), od 23 (.bin .lss (tm 19) (tm 22))] [kp [2, 3, 4, 5, 6, 7, 23] [4, 5, 61, 71]]) (.cond (tm 23) .skip (.exit 0))) (.seq (.block 1 (.seq (.reg [od 26
 (fa 2 3), od 27 (ld 1 26), om 28 7, od 29 (ia 3 27 28), od 30 (fa 1 29), od 31 (ld 1 30), od 32 (le 0 31), om 8 32] [kp [2, 3, 4, 5, 6, 7, 8] [4, 5, 61, 71]]) (.seq (.reg [od 9 (.mv kN)] [.nl 9 53 41 1, kp [2, 3, 4, 5, 6, 7, 8, 9]
 [4, 5, 53, 61, 71]]) (.seq (.seq (.reg [od 10 (.mv (ki 0))] [kp [2, 3, 4, 5, 6, 7, 8, 9, 10] [4, 5, 53, 61, 71]]) (.gh (.block 2 Rm) [.frz 53])) (.seq (.reg [od 57 (fa 1 5), od 58 (ld 1 57), om 59 9, od 60 (.bsl true 43
 1 [(tm 59)]), od 61 (.app false 43 1 (tm 58) (tm 60)), od 62 (fa 1 5), on (.store 1 (tm 62) (tm 61))] [kp [2, 3, 4, 5, 6, 7, 8] [4, 5, 61, 71]]) (.seq (.reg [od 63 (fa 2 5), od 64 (.ldR 5 1 false (tm 63)), od 65 (fa 0 2), od 66
 (.ldT 1 false (tm 65)), om 67 6, om 68 8, od 69 (.call 80 [(tm 66), (tm 67), (tm 68)]), od 70 (.bsl true 41 1 [(tm 69)]), od 71 (.app false 41 1 (tm 64) (tm 70)), od 72 (fa 2 5), on (.stR 5 1 (tm 72) (tm 71))] [kp [2, 3, 4, 5, 6,
 7, 8] [4, 5, 61, 71]]) (.reg [om 73 6, om 74 8, od 75 (.bin .add (tm 73) (tm 74)), om 6 75] [kp [2, 3, 4, 5, 6, 7] [4, 5, 61, 71]]))))))) (.reg [om 24 7, od 25 (.bin .add (tm 24) (ki 1)), om 7 25] [kp [2, 3, 4, 5, 6, 7] [4, 5, 61,
 71]]))) [kp [2, 3, 4, 5, 6, 7] [4, 5, 61, 71]]
def Rn : IC := .loop q2k
abbrev q2l : IC := (.seq (.reg [od 2 (.box true (tm 0)), od 3 (.box true (tm 1)), od 4 (.alloc false [(.slice none 0 0), (.slice none 0 0), (.slice none 0 0)])] [kp [2, 3, 4] [4, 61, 71]]) (.seq (.reg [od 5 (.alloc false [(.slice none 0 0), (.slice
 none 0 0), (.slice none 0 0)])] [.nlb 5 1 61 43 1, .nlb 5 2 71 41 1, kp [2, 3, 4, 5] [4, 5, 61, 71]]) (.seq (.reg [od 11 (lG 4 3), od 12 (.call 60 [(tm 11), (ku 14)]), od 13 (le 0 12), om 6 13] [kp [2, 3, 4, 5, 6] [4, 5, 61, 71]])
 (.seq (.reg [od 14 (fa 0 2), od 15 (ld 1 14), om 16 6, od 17 (.call 80 [(tm 15), (ki 0), (tm 16)]), od 18 (fa 0 5), on (.store 1 (tm 18) (tm 17))] [kp [2, 3, 4, 5, 6] [4, 5, 61, 71]]) (.seq (.seq (.reg [od 7 (.mv (ki 0))] [kp [2,
 3, 4, 5, 6, 7] [4, 5, 61, 71]]) (.gh (.block 0 Rn) [.frz 61, .frz 71])) (.seq (.reg [od 76 (lG 3 5), on (.store 3 (tm 4) (tm 76))] [kp [4] [4, 61, 71]]) .ret))))))
theorem Y8 (h : ∀ K : St → Prop, K = run P Γ Rm Q → run P Γ q2j (Ao K Q) s) : run P Γ Rm Q s := Ad h
theorem Y9 (h : ∀ K : St → Prop, K = run P Γ Rn Q → run P Γ q2k (Ao K Q) s) : run P Γ Rn Q s := Ad h
def q2m : List RV := [.cell 4 3 true]
/- probecard/probecardlaw09.values (function 73) -/
abbrev q0S : IC := (.seq (.reg [od 2 (.mv kN)] [kp [0] []]) (.seq (.reg [om 6 0, od 7 (.call 139 [(tm 6)]), om 5 7, od 8 (ex 5 0), od 9 (ex 5 1), om 3 8, om 4 9] [kp [3] []]) (.seq (.reg [om 10 3, om 2 10] [kp [2] []]) .ret)))
def q0T : List RV := [.tmp 2]
/- probecard/probecardlaw09.text (function 18) -/
abbrev q2n : IC := .gh (.seq (.seq (.reg [om 5 4, om 6 0, od 7 (le 0 6), od 8 (.bin .lss (tm 5) (tm 7))] [kp [0, 3, 4, 8] []]) (.cond (tm 8) .skip (.exit 0))) (.seq (.block 1 (.reg [om 11 3, om 12 0, om 13 4, od 14 (ia 1 12 13), od 15 (ld 1 14), od
 16 (.call 64 [(tm 15)]), od 17 (.bin .add (tm 11) (tm 16)), od 18 (.bin .add (tm 17) (.const (sV [44]))), om 3 18] [kp [0, 3, 4] []])) (.reg [om 9 4, od 10 (.bin .add (tm 9) (ki 1)), om 4 10] [kp [0, 3, 4] []]))) [kp [0, 3, 4] []]
def Ro : IC := .loop q2n
abbrev q2o : IC := (.seq (.reg [od 2 (.mv (.const (sV [])))] [kp [0] []]) (.seq (.reg [od 3 (.mv (.const (sV [])))] [kp [0, 3] []]) (.seq (.seq (.reg [od 4 (.mv (ki 0))] [kp [0, 3, 4] []]) (.block 0 Ro)) (.seq (.reg [om 19 3, om 2 19] [kp
 [2] []]) .ret))))
theorem Ya (h : ∀ K : St → Prop, K = run P Γ Ro Q → run P Γ q2n (Ao K Q) s) : run P Γ Ro Q s := Ad h
def q2p : List RV := [.tmp 2]
/- probecard/probecardlaw09.lives (function 21) -/
abbrev q1l : IC := (.seq (.reg [od 0 (.mv kF)] [kp [] []]) (.seq (.reg [od 3 (.call 73 [(.const (sV [48, 48]))]), od 4 (.call 73 [(.const (sV [48, 49]))]), od 5 (.call 73 [(.const (sV [49, 48]))]), od 6 (.call 73 [(.const (sV [49, 49]))]), od 7 (.bsl
 true 41 1 [(tm 3), (tm 4), (tm 5), (tm 6)]), om 1 7] [kp [1] []]) (.seq (.reg [om 8 1, od 9 (.call 73 [(.const (sV [49, 48]))]), od 10 (.call 54 [(tm 8), (tm 9)]), od 11 (.call 64 [(tm 10)]), od 12 (.bin .eql (tm 11) (.const (sV
 [48, 49]))), om 13 12, oT 14 (.mv (tm 1)) 13, oT 15 (.call 73 [(.const (sV [88, 48]))]) 13, oT 16 (.call 54 [(tm 14), (tm 15)]) 13, oT 17 (.call 64 [(tm 16)]) 13, oT 18 (.bin .eql (tm 17) (.const (sV [48, 88]))) 13, od 19 (.pick
 (tm 13) (tm 18) kF), om 20 19, oT 21 (.mv (tm 1)) 20, oT 22 (.call 73 [(.const (sV [88, 88]))]) 20, oT 23 (.call 54 [(tm 21), (tm 22)]) 20, oT 24 (.call 64 [(tm 23)]) 20, oT 25 (.bin .eql (tm 24) (.const (sV [88, 88]))) 20, od 26
 (.pick (tm 20) (tm 25) kF), om 2 26] [kp [1, 2] []]) (.seq (.reg [om 27 2, om 28 27, oT 29 (.mv (tm 1)) 28, oT 30 (.call 73 [(.const (sV [49, 88]))]) 28, oT 31 (.call 73 [(.const (sV [49, 49]))]) 28, oT 32 (.call 55 [(tm 29), (tm
 30), (tm 31), (ku 1)]) 28, oT 33 (.call 18 [(tm 32)]) 28, oT 34 (.bin .eql (tm 33) (.const (sV [48, 48, 44, 88, 49, 44, 49, 48, 44, 49, 49, 44]))) 28, od 35 (.pick (tm 28) (tm 34) kF), om 36 35, oT 37 (.mv (tm 1)) 36, oT 38 (.call
 73 [(.const (sV [49, 48]))]) 36, oT 39 (.call 73 [(.const (sV [49, 49]))]) 36, oT 40 (.call 55 [(tm 37), (tm 38), (tm 39), (ku 1)]) 36, oT 41 (.call 18 [(tm 40)]) 36, oT 42 (.bin .eql (tm 41) (.const (sV [48, 48, 44, 49, 49, 44,
 49, 48, 44, 49, 49, 44]))) 36, od 43 (.pick (tm 36) (tm 42) kF), om 44 43, oT 45 (.mv (tm 1)) 44, oT 46 (.call 73 [(.const (sV [49, 48]))]) 44, oT 47 (.call 73 [(.const (sV [49, 49]))]) 44, oT 48 (.call 55 [(tm 45), (tm 46), (tm
 47), (ku 2)]) 44, oT 49 (.call 18 [(tm 48)]) 44, oT 50 (.bin .eql (tm 49) (.const (sV [48, 48, 44, 88, 49, 44, 49, 48, 44, 49, 49, 44]))) 44, od 51 (.pick (tm 44) (tm 50) kF), om 0 51] [kp [0] []]) .ret))))
def q1m : List RV := [.tmp 0]
/- (probecard/probecardlaw09.Two).Step (function 12) -/
abbrev Wn : IC := (.seq (.reg [od 2 (.box true (tm 0)), od 3 (.box true (tm 1)), od 4 (.alloc false [(.slice none 0 0), (.slice none 0 0), (.slice none 0 0)]), od 5 (.mv kN)] [kp [2, 3, 4] [4]]) (.seq (.reg [od 6 (fa 0 2), od 7 (.ldT 1 true (tm 6)),
 od 8 (.ldT 4 true (tm 3)), od 9 (.callT 27 [(tm 7), (tm 8)]), od 10 (fa 1 2), od 11 (.ldT 2 true (tm 10)), od 12 (.ldT 4 true (tm 3)), od 13 (.ncall 44 [(tm 11), (tm 12)] 13000), od 14 (.fld 0 1 false (tm 13)), on (.stR 4 3 (tm 4)
 (tm 9)), om 5 14] [kp [4, 5] [4, 22019, 27019]]) .ret))
def Wp : List RV := [.cell 4 3 true, .tmp 5]
/- probecard/probecardlaw09.above (function 22) -/
abbrev q1n : IC := .gh (.seq (.seq (.reg [om 24 9, od 25 (fa 1 2), od 26 (ld 1 25), om 27 7, od 28 (ia 1 26 27), od 29 (ld 1 28), od 30 (le 0 29), od 31 (.bin .lss (tm 24) (tm 30))] [kp [2, 3, 4, 5, 6, 7, 8, 9, 31] [4, 6, 54, 59, 76]]) (.cond (tm 31)
 .skip (.exit 2))) (.seq (.block 3 (.reg [om 34 8, om 35 5, od 36 (fa 1 2), od 37 (ld 1 36), om 38 7, od 39 (ia 1 37 38), od 40 (ld 1 39), om 41 9, od 42 (ia 1 40 41), od 43 (ld 1 42), od 44 (fa 1 3), od 45 (ld 1 44), om 46 7, od 47
 (ia 1 45 46), od 48 (ld 1 47), om 49 9, od 50 (ia 1 48 49), od 51 (ld 1 50), od 52 (.callv (tm 35) [(tm 43), (tm 51)]), od 53 (.bsl true 41 1 [(tm 52)]), od 54 (.app false 41 1 (tm 34) (tm 53)), om 8 54] [kp [2, 3, 4, 5, 6, 7, 8,
 9] [4, 6, 54, 59, 76]])) (.reg [om 32 9, od 33 (.bin .add (tm 32) (ki 1)), om 9 33] [kp [2, 3, 4, 5, 6, 7, 8, 9] [4, 6, 54, 59, 76]]))) [kp [2, 3, 4, 5, 6, 7, 8, 9] [4, 6, 54, 59, 76]]
def Pe : IC := .loop q1n
abbrev q1o : IC := .gh (.seq (.seq (.reg [om 17 7, od 18 (fa 1 2), od 19 (ld 1 18), od 20 (le 0 19), od 21 (.bin .lss (tm 17) (tm 20))] [kp [2, 3, 4, 5, 6, 7, 21] [4, 6, 59, 76]]) (.cond (tm 21) .skip (.exit 0))) (.seq (.block 1 (.seq (.reg [od 8
 (.mv kN)] [.nl 8 54 41 1, kp [2, 3, 4, 5, 6, 7, 8] [4, 6, 54, 59, 76]]) (.seq (.seq (.reg [od 9 (.mv (ki 0))] [kp [2, 3, 4, 5, 6, 7, 8, 9] [4, 6, 54, 59, 76]]) (.gh (.block 2 Pe) [.frz 54])) (.seq (.reg [od 55 (fa 1 6),
 od 56 (ld 1 55), om 57 8, od 58 (.bsl true 43 1 [(tm 57)]), od 59 (.app false 43 1 (tm 56) (tm 58)), od 60 (fa 1 6), on (.store 1 (tm 60) (tm 59))] [kp [2, 3, 4, 5, 6, 7] [4, 6, 59, 76]]) (.reg [od 61 (fa 2 6), od 62 (.ldR 6 1
 false (tm 61)), om 63 5, od 64 (fa 2 2), od 65 (.ldT 1 false (tm 64)), om 66 7, od 67 (ia 1 65 66), od 68 (.ldT 1 false (tm 67)), od 69 (fa 2 3), od 70 (.ldT 1 false (tm 69)), om 71 7, od 72 (ia 1 70 71), od 73 (.ldT 1 false (tm
 72)), od 74 (.callv (tm 63) [(tm 68), (tm 73)]), od 75 (.bsl true 41 1 [(tm 74)]), od 76 (.app false 41 1 (tm 62) (tm 75)), od 77 (fa 2 6), on (.stR 6 1 (tm 77) (tm 76))] [kp [2, 3, 4, 5, 6, 7] [4, 6, 59, 76]]))))) (.reg [om 22 7,
 od 23 (.bin .add (tm 22) (ki 1)), om 7 23] [kp [2, 3, 4, 5, 6, 7] [4, 6, 59, 76]]))) [kp [2, 3, 4, 5, 6, 7] [4, 6, 59, 76]]
def Pg : IC := .loop q1o
abbrev q1p : IC := (.seq (.reg [od 2 (.box true (tm 0)), od 3 (.box true (tm 1)), od 4 (.alloc false [(.slice none 0 0), (.slice none 0 0), (.slice none 0 0)])] [kp [2, 3, 4] [4, 59, 76]]) (.seq (.reg [od 5 (.mv (.func 74))] [kp [2, 3, 4, 5] [4, 59,
 76]]) (.seq (.reg [om 10 5, od 11 (fa 0 2), od 12 (ld 1 11), od 13 (fa 0 3), od 14 (ld 1 13), od 15 (.callv (tm 10) [(tm 12), (tm 14)]), od 16 (.build [(1, (tm 15)), (1, kN), (1, kN)]), od 6 (.alloc false [(.slice none 0 0),
 (.slice none 0 0), (.slice none 0 0)]), on (.store 3 (tm 6) (tm 16))] [.nlb 6 1 59 43 1, .nlb 6 2 76 41 1, kp [2, 3, 4, 5, 6] [4, 6, 59, 76]]) (.seq (.seq (.reg [od 7 (.mv (ki 0))] [kp [2, 3, 4, 5, 6, 7] [4, 6, 59, 76]]) (.gh
 (.block 0 Pg) [.frz 59, .frz 76])) (.seq (.reg [od 78 (lG 3 6), on (.store 3 (tm 4) (tm 78))] [kp [4] [4, 59, 76]]) .ret)))))
theorem Wq (h : ∀ K : St → Prop, K = run P Γ Pe Q → run P Γ q1n (Ao K Q) s) : run P Γ Pe Q s := Ad h
theorem Ws (h : ∀ K : St → Prop, K = run P Γ Pg Q → run P Γ q1o (Ao K Q) s) : run P Γ Pg Q s := Ad h
def q1q : List RV := [.cell 4 3 true]
/- probecard/probecardlaw09.above$1 (function 74) -/
abbrev Zi : IC := .gh (.seq (.seq (.reg [om 7 6, om 8 0, od 9 (le 0 8), od 10 (.bin .lss (tm 7) (tm 9))] [kp [0, 1, 5, 6, 10] [24]]) (.cond (tm 10) .skip (.exit 0))) (.seq (.block 1 (.seq (.reg [om 13 0, om 14 6, od 15 (ia 1 13 14), od 16 (ld 1 15),
 od 17 (.bin .eql (tm 16) (ku 2))] [kp [0, 1, 5, 6, 17] [24]]) (.cond (tm 17) (.reg [om 18 5, om 19 1, om 20 6, od 21 (ia 1 19 20), od 22 (ld 1 21), od 23 (.bsl true 64 1 [(tm 22)]), od 24 (.app false 64 1 (tm 18) (tm 23)), om 5 24]
 [kp [0, 1, 5, 6] [24]]) (.reg [om 25 5, om 26 0, om 27 6, od 28 (ia 1 26 27), od 29 (ld 1 28), od 30 (.bsl true 64 1 [(tm 29)]), oz 31 (.app false 64 1 (tm 25) (tm 30)) 24, om 5 31] [kp [0, 1, 5, 6] [24]])))) (.reg [om 11 6, od 12
 (.bin .add (tm 11) (ki 1)), om 6 12] [kp [0, 1, 5, 6] [24]]))) [kp [0, 1, 5, 6] [24]]
def Kt : IC := .loop Zi
abbrev Zj : IC := (.seq (.reg [od 4 (.mv kN)] [kp [0, 1] []]) (.seq (.reg [od 5 (.mv kN)] [.nl 5 24 64 1, kp [0, 1, 5] [24]]) (.seq (.seq (.reg [od 6 (.mv (ki 0))] [kp [0, 1, 5, 6] [24]]) (.block 0 Kt)) (.seq (.reg [om 32 5, om 4 32]
 [kp [4] [24]]) .ret))))
theorem Sz (h : ∀ K : St → Prop, K = run P Γ Kt Q → run P Γ Zi (Ao K Q) s) : run P Γ Kt Q s := Ad h
def Zk : List RV := [.tmp 4]
end
end Go.Lg
namespace Go.Lg
open Go Go.Proofs
theorem q5x : Aq Tryz.prog 80 q1j 34 3 q1k = true := by kernel_rfl
theorem q7M : Aq Tryz.prog 27 q2l 77 2 q2m = true := by kernel_rfl
theorem q50 : Aq Tryz.prog 73 q0S 11 1 q0T = true := by kernel_rfl
theorem q7N : Aq Tryz.prog 18 q2o 20 1 q2p = true := by kernel_rfl
theorem q5y : Aq Tryz.prog 21 q1l 52 0 q1m = true := by kernel_rfl
theorem q2L : Aq Tryz.prog 12 Wn 15 2 Wp = true := by kernel_rfl
theorem q5z : Aq Tryz.prog 22 q1p 79 2 q1q = true := by kernel_rfl
theorem q4I : Aq Tryz.prog 74 Zj 33 2 Zk = true := by kernel_rfl
end Go.Lg
namespace Go.Lg
open Go Go.Proofs
variable {Γ : Tables}
def q7l (l : List Int) (at' i : Nat) : Int := if l = [] then 2 else (l.getD ((at' + i) % l.length) 0).tmod 3
def T0 (l : List Int) (at' n : Nat) : List Int := (List.range' 0 n).map (q7l l at')
theorem q4J {l : List Int} {a n : Nat} : (T0 l a n).length = n := by simp [T0]
theorem qET {Q : AX → St → Prop} (l : Sl Int) (at' n : Nat) (hn : n ≤ 1000000) (ha : at' ≤ 1000000000) (R : List Int)
  (h0 : Q (.exit 0) ⟨[(0, .t (tV l)), (1, .t (tI at')), (2, .t (tI n)), (7, .ls 19 0 n none), (8, .t (tI n)), (11, .t (tB false))], [(19, .sl 64 1 (Ag R))]⟩) : ∀ (k i : Nat) (out : List Int), k + i = n → out.length = i → out ++ (List.range' i k).map (q7l l.l at') = R →
  run Tryz.prog Γ P9 Q ⟨[(0, .t (tV l)), (1, .t (tI at')), (2, .t (tI n)), (7, .ls 19 0 i none), (8, .t (tI i))], [(19, .sl 64 1 (Ag out))]⟩
 | 0, i, out, h, hi, hR => by
  refine Wm fun K hK => ?_
  have h2 : i = n := by omega
  subst h2
  simp only [List.range'_zero, List.map_nil, List.append_nil] at hR
  subst hR
  simp
  exact h0
 | k + 1, i, out, h, hi, hR => by
  refine Wm fun K hK => ?_
  have h2 : i < n := by omega
  rw [List.range'_succ, List.map_cons] at hR
  have vt : (Ag out).take i = Ag out := by rw [← hi]; exact D1
  have w1 := Bj (i := i) (by omega)
  have wa : IntKind.i64.wrap ((at' : Int) + i) = ((at' + i : Nat) : Int) := by rw [A4] <;> omega
  have ih := qET l at' n hn ha R h0 k (i + 1) (out ++ [q7l l.l at' i]) (by omega) (by simp [hi]) (by rw [← hR]; simp)
  have vs := O3 (l := out) (v := q7l l.l at' i)
  by_cases h1 : l.l = []
  ·have hv : q7l l.l at' i = 2 := by unfold q7l; rw [if_pos h1]
   rw [hv] at ih vs
   simp [tV, h1] at ih
   simp [h2, tV, A1, h1, w1, vt, vs, hi]
   refine ⟨by omega, ?_⟩
   rw [hK]
   simpa using ih
  ·have hpos : 0 < l.l.length := List.length_pos_iff.2 h1
   have hlt : (at' + i) % l.l.length < l.l.length := Nat.mod_lt _ hpos
   have hmod : ((at' + i : Nat) : Int).tmod (l.l.length : Int) = (((at' + i) % l.l.length : Nat) : Int) := by rw [Int.natCast_emod]; exact Int.tmod_eq_emod_of_nonneg (by omega)
   have hv : q7l l.l at' i = (l.l.getD ((at' + i) % l.l.length) 0).tmod 3 := by unfold q7l; rw [if_neg h1]
   rw [hv] at ih vs
   have e1 := gE (f := tK) 0 hlt
   have e1' := gE' (f := tK) 0 hlt
   generalize (at' + i) % l.l.length = j at *
   generalize l.l.getD j 0 = v at *
   have hne : ¬ (l.l.length : Int) = 0 := by omega
   have hj0 : (j : Int) < l.l.length := by omega
   simp [tV] at ih
   simp [h2, tV, A1, A5, h1, hne, wa, hmod, hlt, e1, e1', vt, vs, hi, w1, -Int.natCast_emod, -Int.natCast_add]
   refine ⟨by omega, ?_⟩
   rw [hK]
   simpa using ih
theorem q1r (l : Sl Int) (at' n : Nat) (hn : n ≤ 1000000) (ha : at' ≤ 1000000000) : A3 Tryz.prog Γ 80 [tV l, tI at', tI n] (.sl (Ag (T0 l.l at' n)) none none) := by
 refine A6 q5x rfl ?_
 have g := fun Q h0 => qET (Γ := Γ) (Q := Q) l at' n hn ha (T0 l.l at' n) h0 n 0 [] (by omega) rfl (by simp [T0])
 have ht : (Ag (T0 l.l at' n)).take n = Ag (T0 l.l at' n) := List.take_of_length_le (by rw [A1, q4J]; exact Nat.le_refl _)
 generalize T0 l.l at' n = R at *
 simp [tV, Gk] at g
 simp [q1j, tV]
 refine g _ ?_
 simp [q1k, Ae, ht]
def Ph (v : List Int) (n : Nat) : Nat → Nat → List (Sl Int)
 | 0, _ => []
 | k + 1, a => ⟨T0 v a n, none, none⟩ :: Ph v n k (a + n)
def ofW (v : List Int) : List Mm → Nat → List (Sl (Sl Int))
 | [], _ => []
 | m :: ms, a => ⟨Ph v m.data.l.length (2 ^ m.addr.l.length) a, none, none⟩ :: ofW v ms (a + 2 ^ m.addr.l.length * m.data.l.length + m.data.l.length)
def ofR (v : List Int) : List Mm → Nat → List (Sl Int)
 | [], _ => []
 | m :: ms, a => ⟨T0 v (a + 2 ^ m.addr.l.length * m.data.l.length) m.data.l.length, none, none⟩ :: ofR v ms (a + 2 ^ m.addr.l.length * m.data.l.length + m.data.l.length)
def q51 (v : List Int) (c : B1) : Q9 := ⟨⟨T0 v 0 (Av c).length, none, none⟩, ⟨ofW v c.mems.l (Av c).length, none, none⟩, ⟨ofR v c.mems.l (Av c).length, none, none⟩⟩
def soH (d : T) (ws : List (Sl (Sl Int))) (rs : List (Sl Int)) : List (Nat × B0) := [(4, .bx [Dq, Dq, Dq]), (5, .bx [.t d, .ls 61 0 ws.length none, .ls 71 0 rs.length none])]
def soT (ws : List (Sl (Sl Int))) (rs : List (Sl Int)) : List (Nat × B0) := [(61, .sl 43 1 (A9 tW ws)), (71, .sl 41 1 (A9 tV rs))]
def soE (v : Sl Int) (c : B1) (a m : Nat) : List (Nat × AV) := [(2, .t (.ip [tV v] 0)), (3, .t (.ip (tC c) 0)), (4, .lp 4 0 0), (5, .lp 5 0 0), (6, .t (tI a)), (7, .t (tI m))]
theorem qIq {Q : AX → St → Prop} (v : Sl Int) (c : B1) (m : Nat) (hm : m < c.mems.l.length) (n K : Nat) (hn : n ≤ 32) (hk : (c.mems.l.getD m Mm.d).addr.l.length ≤ 8) (hK : K = 2 ^ (c.mems.l.getD m Mm.d).addr.l.length) (hcm : c.mems.l.length ≤ 16) (d : T) (ws : List (Sl (Sl Int))) (rs : List (Sl Int)) (A : Nat) (R : List (Sl Int))
  (h0 : Q (.exit 2) ⟨soE v c A m ++ [(8, .t (tI n)), (9, .ls 53 0 R.length none), (10, .t (tI K)), (43, .t (tB false))], soH d ws rs ++ (53, .sl 41 1 (A9 tV R)) :: soT ws rs⟩) :
  ∀ (k i a : Nat) (out : List (Sl Int)), k + i = K → out.length = i → a ≤ 2000000 + 32 * i → a + k * n = A → out ++ Ph v.l n k a = R →
  run Tryz.prog Γ Rm Q ⟨soE v c a m ++ [(8, .t (tI n)), (9, .ls 53 0 i none), (10, .t (tI i))], soH d ws rs ++ (53, .sl 41 1 (A9 tV out)) :: soT ws rs⟩ := by
 have e1 : (B8 tMm c.mems.l)[m]?.getD [] = tMm (c.mems.l.getD m Mm.d) := by simp [B8, hm]
 have e1' : ∀ h, (B8 tMm c.mems.l)[m]'h = tMm (c.mems.l.getD m Mm.d) := fun h => by simp [B8, hm]
 generalize c.mems.l.getD m Mm.d = mm at *
 have sh := qHH hk
 rw [← hK] at sh
 have hK256 : K ≤ 256 := by rw [hK]; exact Nat.pow_le_pow_right (by omega) hk
 have hmin : ¬ (8 : Int) < mm.addr.l.length := by omega
 have hmin' : ¬ 8 < mm.addr.l.length := by omega
 simp only [tMm, Bo] at e1 e1'
 intro k
 induction k with
 | zero =>
  intro i a out h ho hb ha hR
  refine Y8 fun KK hKK => ?_
  have h2 : i = K := by omega
  subst h2
  simp only [Ph, List.append_nil] at hR
  subst hR
  have ha' : a = A := by omega
  subst ha'
  simp [soE, soH, soT, Dq, tC, A7, Ac, Af, Bo, ho] at h0
  simp [soE, soH, soT, Dq, tC, A7, Ac, Af, Bo, On, Aa, A1, hm, e1, e1', hmin, hmin', sh]
  simpa using h0
 | succ k ih =>
  intro i a out h ho hb ha hR
  refine Y8 fun KK hKK => ?_
  have h2 : i < K := by omega
  simp only [Ph] at hR
  have ht := q1r (Γ := Γ) v a n (by omega) (by omega)
  have ih := ih (i + 1) (a + n) (out ++ [⟨T0 v.l a n, none, none⟩]) (by omega) (by simp [ho]) (by omega) (by rw [← ha, Nat.succ_mul]; omega) (by rw [← hR]; simp)
  have vs : A9 tV out ++ [[T.sl (Ag (T0 v.l a n)) none none]] = A9 tV (out ++ [⟨T0 v.l a n, none, none⟩]) := C6 (f := tV) (x := ⟨T0 v.l a n, none, none⟩)
  have vt : (A9 tV out).take i = A9 tV out := by rw [← ho]; exact An
  have w1 := Bj (i := i) (by omega)
  have wa : IntKind.i64.wrap ((a : Int) + n) = (a : Int) + n := by rw [A4] <;> omega
  generalize T0 v.l a n = row at *
  simp only [tV] at ht
  simp [soE, soH, soT, Dq, tC, A7, Ac, Af, Bo, tV] at ih
  simp [soE, soH, soT, Dq, tC, A7, Ac, Af, Bo, On, Aa, A1, hm, e1, e1', hmin, hmin', sh, h2, tV]
  refine A0 ht rfl ?_
  simp [vt, vs, ho, A1, A5, w1, wa]
  refine ⟨by omega, ?_⟩
  rw [hKK]
  simpa using ih
theorem q52 {v : List Int} {n : Nat} : ∀ {k a : Nat}, (Ph v n k a).length = k
 | 0, _ => rfl
 | k + 1, a => by simp [Ph, q52]
theorem qGA {Q : AX → St → Prop} (v : Sl Int) (c : B1) (hcm : c.mems.l.length ≤ 16) (hm : ∀ m ∈ c.mems.l, m.addr.l.length ≤ 8 ∧ m.data.l.length ≤ 32) (d : T) (RW : List (Sl (Sl Int))) (RR : List (Sl Int))
  (h0 : ∀ A : Nat, Q (.exit 0) ⟨soE v c A c.mems.l.length ++ [(23, .t (tB false))], soH d RW RR ++ soT RW RR⟩) :
  ∀ (k i a : Nat) (ws : List (Sl (Sl Int))) (rs : List (Sl Int)), k + i = c.mems.l.length → ws.length = i → rs.length = i → a ≤ 1000000 + 10000 * i → ws ++ ofW v.l (c.mems.l.drop i) a = RW → rs ++ ofR v.l (c.mems.l.drop i) a = RR →
  run Tryz.prog Γ Rn Q ⟨soE v c a i, soH d ws rs ++ soT ws rs⟩
 | 0, i, a, ws, rs, h, hw, hr, ha, hW, hR => by
  refine Y9 fun K hK => ?_
  have h2 : i = c.mems.l.length := by omega
  subst h2
  rw [List.drop_length] at hW hR
  simp only [ofW, ofR, List.append_nil] at hW hR
  subst hW
  subst hR
  have := h0 a
  simp [soE, soH, soT, Dq, tC, A7, Ac, Af, Bo] at this
  simp [soE, soH, soT, Dq, tC, A7, Ac, Af, Bo, Aa]
  simpa using this
 | k + 1, i, a, ws, rs, h, hw, hr, ha, hW, hR => by
  refine Y9 fun K hK => ?_
  have h2 : i < c.mems.l.length := by omega
  rw [List.drop_eq_getElem_cons h2] at hW hR
  simp only [ofW, ofR] at hW hR
  have e1 : (B8 tMm c.mems.l)[i]?.getD [] = tMm c.mems.l[i] := by simp [B8, h2]
  have e1' : ∀ h, (B8 tMm c.mems.l)[i]'h = tMm c.mems.l[i] := fun h => by simp [B8]
  obtain ⟨ma, md⟩ := hm _ (List.getElem_mem h2)
  have hge : c.mems.l.getD i Mm.d = c.mems.l[i] := by simp [List.getD_eq_getElem?_getD, h2]
  have g := fun Q n hn h1 h2' A R hA hR h0 => qIq (Γ := Γ) (Q := Q) v c i h2 n (2 ^ (c.mems.l.getD i Mm.d).addr.l.length) hn h1 rfl hcm d ws rs A R h0 (2 ^ (c.mems.l.getD i Mm.d).addr.l.length) 0 a [] (by omega) rfl h2' hA hR
  rw [hge] at g
  generalize c.mems.l[i] = m at *
  have hK256 : 2 ^ m.addr.l.length ≤ 256 := Nat.pow_le_pow_right (by omega) ma
  have hKn : 2 ^ m.addr.l.length * m.data.l.length ≤ 256 * 32 := Nat.mul_le_mul hK256 md
  have g := fun Q h0 => g Q m.data.l.length md ma (by omega) (a + 2 ^ m.addr.l.length * m.data.l.length) (Ph v.l m.data.l.length (2 ^ m.addr.l.length) a) rfl (by simp) h0
  have hrl : (Ph v.l m.data.l.length (2 ^ m.addr.l.length) a).length = 2 ^ m.addr.l.length := q52
  generalize 2 ^ m.addr.l.length * m.data.l.length = KN at *
  generalize 2 ^ m.addr.l.length = K0 at *
  have ht := q1r (Γ := Γ) v (a + KN) m.data.l.length (by omega) (by omega)
  have ih := qGA v c hcm hm d RW RR h0 k (i + 1) (a + KN + m.data.l.length) (ws ++ [⟨Ph v.l m.data.l.length K0 a, none, none⟩]) (rs ++ [⟨T0 v.l (a + KN) m.data.l.length, none, none⟩]) (by omega) (by simp [hw]) (by simp [hr]) (by omega) (by rw [← hW]; simp) (by rw [← hR]; simp)
  have vsw : A9 tW ws ++ [[T.sl (A9 tV (Ph v.l m.data.l.length K0 a)) none none]] = A9 tW (ws ++ [⟨Ph v.l m.data.l.length K0 a, none, none⟩]) := C6 (f := tW) (x := ⟨Ph v.l m.data.l.length K0 a, none, none⟩)
  have vsr : A9 tV rs ++ [[T.sl (Ag (T0 v.l (a + KN) m.data.l.length)) none none]] = A9 tV (rs ++ [⟨T0 v.l (a + KN) m.data.l.length, none, none⟩]) := C6 (f := tV) (x := ⟨T0 v.l (a + KN) m.data.l.length, none, none⟩)
  have vt : (A9 tV (Ph v.l m.data.l.length K0 a)).take (Ph v.l m.data.l.length K0 a).length = A9 tV (Ph v.l m.data.l.length K0 a) := An
  have vtw : (A9 tW ws).take i = A9 tW ws := by rw [← hw]; exact An
  have vtr : (A9 tV rs).take i = A9 tV rs := by rw [← hr]; exact An
  generalize Ph v.l m.data.l.length K0 a = rows at *
  generalize T0 v.l (a + KN) m.data.l.length = rd at *
  have w1 := Bj (i := i) (by omega)
  have wa : IntKind.i64.wrap ((a : Int) + KN + m.data.l.length) = (a : Int) + KN + m.data.l.length := by rw [A4] <;> omega
  have hw1 : ∀ t : T, E5 1 [[t]] := fun t e he => by simp at he; subst he; rfl
  simp only [tMm, Bo] at e1 e1'
  simp only [tV] at ht
  simp [soE, soH, soT, Dq, tC, A7, Ac, Af, Bo, tV, Gk, hw, hr] at g ih
  simp [soE, soH, soT, Dq, tC, A7, Ac, Af, Bo, On, Aa, A1, h2, e1, e1', tV, hw, hr]
  refine g _ ?_
  simp [St.freeze, B0.closed, Cm, frz1, frz0, G9, del, Ae, vt, vtw, vsw, hw1, A5, A1, hw]
  refine ⟨by omega, ?_⟩
  refine A0 ht rfl ?_
  simp [vtr, vsr, hw1, A5, A1, hr, wa, w1]
  refine ⟨by omega, ?_⟩
  rw [hK]
  simpa using ih
theorem qD8 (v : Sl Int) (c : B1) (hc : COk c) (hn : c.nodes.l.length ≤ 1000000) (hcm : c.mems.l.length ≤ 16) (hm : ∀ m ∈ c.mems.l, m.addr.l.length ≤ 8 ∧ m.data.l.length ≤ 32) : Ab Tryz.prog Γ 27 [.agg [tV v], .agg (tC c)] (.agg (C9 (q51 v.l c))) := by
 refine Ax q7M rfl ?_
 have e1 := qBS (Γ := Γ) c hc 14 hn
 have hsl := Gv c
 have e2 := q1r (Γ := Γ) v 0 (Av c).length (by omega) (by omega)
 have g := fun Q d h0 => qGA (Γ := Γ) (Q := Q) v c hcm hm d (ofW v.l c.mems.l (Av c).length) (ofR v.l c.mems.l (Av c).length) h0 c.mems.l.length 0 (Av c).length [] [] (by omega) rfl rfl (by omega) rfl rfl
 have hst : K9 [14] c.nodes.l 0 = Av c := rfl
 rw [hst] at e1
 have tw : (A9 tW (ofW v.l c.mems.l (Av c).length)).take (ofW v.l c.mems.l (Av c).length).length = A9 tW (ofW v.l c.mems.l (Av c).length) := An
 have tr : (A9 tV (ofR v.l c.mems.l (Av c).length)).take (ofR v.l c.mems.l (Av c).length).length = A9 tV (ofR v.l c.mems.l (Av c).length) := An
 unfold q51
 generalize ofW v.l c.mems.l (Av c).length = W at *
 generalize ofR v.l c.mems.l (Av c).length = R at *
 generalize T0 v.l 0 (Av c).length = D at *
 simp [soE, soH, soT, Dq, tC, A7, Ac, Af, Bo, tV, Gk] at e1 e2 g
 simp [q2l, tC, A7, Ac, Af, Bo, tV]
 refine A8 e1 rfl ?_
 simp [A1]
 refine A0 e2 rfl ?_
 simp
 refine g _ _ fun A => ?_
 simp [St.freeze, B0.closed, Cm, frz1, frz0, G9, del, Ae, tw, tr, q2m, C9, tV, tW, tWs]
end Go.Lg
namespace Go.Lg
open Go Go.Proofs
def V3 (v : Int) : Prop := 0 ≤ v ∧ v ≤ 2
theorem V3.four {v : Int} (h : V3 v) : V4 v := by unfold V3 V4 at *; omega
theorem qEU {l : List Int} (h : ∀ v ∈ l, V3 v) (i : Nat) : V3 (l.getD i 0) := by
 by_cases hi : i < l.length
 ·rw [Bg hi]; exact h _ (List.getElem_mem hi)
 ·rw [List.getD_eq_getElem?_getD, List.getElem?_eq_none (by omega)]; exact ⟨by simp, by simp⟩
theorem qHI {l : List Int} (hl : ∀ v ∈ l, 0 ≤ v) (a i : Nat) : V3 (q7l l a i) := by
 unfold q7l
 split
 ·exact ⟨by omega, by omega⟩
 ·rename_i h
  have hpos : 0 < l.length := List.length_pos_iff.2 h
  have h0 : 0 ≤ l.getD ((a + i) % l.length) 0 := by
   rw [Bg (Nat.mod_lt _ hpos)]; exact hl _ (List.getElem_mem _)
  generalize l.getD ((a + i) % l.length) 0 = u at *
  rw [Int.tmod_eq_emod_of_nonneg h0]
  have := Int.emod_nonneg u (show (3 : Int) ≠ 0 by omega)
  have := Int.emod_lt_of_pos u (show (0 : Int) < 3 by omega)
  exact ⟨by omega, by omega⟩
theorem qBZ {l : List Int} (hl : ∀ v ∈ l, 0 ≤ v) {a n : Nat} : ∀ v ∈ T0 l a n, V3 v := by
 intro v hv
 obtain ⟨i, _, rfl⟩ := List.mem_map.1 hv
 exact qHI hl a i
theorem q53 {v : List Int} {n : Nat} {r : Sl Int} : ∀ {k a : Nat}, r ∈ Ph v n k a → ∃ a', r = ⟨T0 v a' n, none, none⟩
 | 0, _, h => by cases h
 | k + 1, a, h => by
  rcases List.mem_cons.1 h with rfl | h
  ·exact ⟨a, rfl⟩
  ·exact q53 h
theorem q8x {v : List Int} : ∀ {ms : List Mm} {a : Nat}, (ofW v ms a).length = ms.length
 | [], _ => rfl
 | m :: ms, a => by simp [ofW, q8x]
theorem q8y {v : List Int} : ∀ {ms : List Mm} {a : Nat}, (ofR v ms a).length = ms.length
 | [], _ => rfl
 | m :: ms, a => by simp [ofR, q8y]
theorem q6D {v : List Int} : ∀ {ms : List Mm} {a i : Nat}, i < ms.length → ∃ a', (ofW v ms a).getD i Sl.zz = ⟨Ph v (ms.getD i Mm.d).data.l.length (2 ^ (ms.getD i Mm.d).addr.l.length) a', none, none⟩
 | m :: ms, a, 0, _ => ⟨a, rfl⟩
 | m :: ms, a, i + 1, h => q6D (ms := ms) (by simpa using h)
theorem q8z {v : List Int} : ∀ {ms : List Mm} {a i : Nat}, i < ms.length → ∃ a', (ofR v ms a).getD i Sl.z = ⟨T0 v a' (ms.getD i Mm.d).data.l.length, none, none⟩
 | m :: ms, a, 0, _ => ⟨a + 2 ^ m.addr.l.length * m.data.l.length, rfl⟩
 | m :: ms, a, i + 1, h => q8z (ms := ms) (by simpa using h)
theorem q1s {α : Type} {l : List α} {x : α} (d : α) (h : x ∈ l) : ∃ i, i < l.length ∧ l.getD i d = x := by
 obtain ⟨i, hi, rfl⟩ := List.getElem_of_mem h
 exact ⟨i, hi, by simp [List.getD_eq_getElem?_getD, hi]⟩
theorem qCJ {v : List Int} (hv : ∀ x ∈ v, 0 ≤ x) (c : B1) : G6 c (q51 v c) := by
 refine ⟨q4J, q8x, q8y, fun i hi => ?_, fun i hi w hw => ?_, fun i hi => ?_, qBZ hv, fun w hw r hr => ?_, fun r hr => ?_⟩
 ·obtain ⟨a, e⟩ := q6D (v := v) (a := (Av c).length) hi
  show ((ofW v c.mems.l _).getD i Sl.zz).l.length = _
  rw [e]; exact q52
 ·obtain ⟨a, e⟩ := q6D (v := v) (a := (Av c).length) hi
  have hw : w ∈ ((ofW v c.mems.l (Av c).length).getD i Sl.zz).l := hw
  rw [e] at hw
  obtain ⟨a', rfl⟩ := q53 hw
  exact q4J
 ·obtain ⟨a, e⟩ := q8z (v := v) (a := (Av c).length) hi
  show ((ofR v c.mems.l _).getD i Sl.z).l.length = _
  rw [e]; exact q4J
 ·obtain ⟨i, hi, rfl⟩ := q1s Sl.zz hw
  have hi' : i < c.mems.l.length := by have : (q51 v c).words.l.length = c.mems.l.length := q8x; omega
  obtain ⟨a, e⟩ := q6D (v := v) (a := (Av c).length) hi'
  have hr : r ∈ ((ofW v c.mems.l (Av c).length).getD i Sl.zz).l := hr
  rw [e] at hr
  obtain ⟨a', rfl⟩ := q53 hr
  exact qBZ hv
 ·obtain ⟨i, hi, rfl⟩ := q1s Sl.z hr
  have hi' : i < c.mems.l.length := by have : (q51 v c).read.l.length = c.mems.l.length := q8y; omega
  obtain ⟨a, e⟩ := q8z (v := v) (a := (Av c).length) hi'
  have e : (q51 v c).read.l.getD i Sl.z = ⟨T0 v a (c.mems.l.getD i Mm.d).data.l.length, none, none⟩ := e
  rw [e]
  exact qBZ hv
theorem q90 {w : List Int} (h : ∀ v ∈ w, V3 v) (b : Nat) : V3 (Ym w b) := by
 unfold Ym
 split
 ·have := qEU h b
  unfold Dv V3 at *
  split <;> omega
 ·exact ⟨by omega, by omega⟩
theorem qCK {w : List Int} (h : ∀ v ∈ w, V4 v) (b : Nat) : V3 (Ym w b) := by
 unfold Ym
 split
 ·have := N1 h b
  unfold Dv V3 V4 at *
  split <;> omega
 ·exact ⟨by omega, by omega⟩
theorem qCL {a b : Int} (ha : V3 a) (hb : V3 b) : V3 (q2g a b) := by
 unfold q2g
 split
 ·exact ha
 ·exact ⟨by omega, by omega⟩
theorem q8V {w : List Int} {f : Bool} : ∀ {k b : Nat} {o : List Int}, (Ug w f k b o).length = o.length
 | 0, _, _ => rfl
 | k + 1, b, o => by simp only [Ug]; rw [q8V, List.length_set]
theorem qCM {w : List Int} (hw : ∀ v ∈ w, V3 v) {f : Bool} : ∀ {k b : Nat} {o : List Int}, (∀ v ∈ o, V3 v) → ∀ v ∈ Ug w f k b o, V3 v
 | 0, _, _, h => h
 | k + 1, b, o, h => by
  simp only [Ug]
  refine qCM hw fun v hv => ?_
  rcases List.mem_or_eq_of_mem_set hv with hv | rfl
  ·exact h v hv
  ·split
   ·exact q90 hw b
   ·exact qCL (qEU h b) (q90 hw b)
theorem q91 {addr : List Int} : ∀ {ws : List (List Int)} {i : Nat} {s : List Int × Bool}, (∀ w ∈ ws, ∀ v ∈ w, V3 v) → (∀ v ∈ s.1, V3 v) → (q1d addr i ws s).1.length = s.1.length ∧ ∀ v ∈ (q1d addr i ws s).1, V3 v
 | [], _, _, _, h => ⟨rfl, h⟩
 | w :: ws, i, s, hw, h => by
  simp only [q1d]
  have hw' : ∀ x ∈ ws, ∀ v ∈ x, V3 v := fun x hx => hw x (List.mem_cons_of_mem _ hx)
  by_cases hm : P6 i addr = true
  ·rw [if_pos hm]
   have := q91 (addr := addr) (i := i + 1) (s := (Ug w s.2 s.1.length 0 s.1, false)) hw' (qCM (hw w List.mem_cons_self) h)
   exact ⟨this.1.trans q8V, this.2⟩
  ·rw [if_neg hm]
   exact q91 (addr := addr) (i := i + 1) hw' h
theorem qAP {words : List (List Int)} {addr : List Int} (hw : ∀ w ∈ words, ∀ v ∈ w, V3 v) : (Uh words addr).length = (words.headD []).length ∧ ∀ v ∈ Uh words addr, V3 v := by
 cases words with
 | nil => exact ⟨rfl, fun v h => by cases h⟩
 | cons w ws =>
  have := q91 (addr := addr) (i := 0) (s := (List.replicate w.length 2, true)) hw (fun v hv => by rw [List.eq_of_mem_replicate hv]; exact ⟨by omega, by omega⟩)
  exact ⟨this.1.trans (by simp), this.2⟩
theorem q3T {addr data : List Int} {en : Int} {r : List Int} : ∀ {ws : List (List Int)} {i : Nat}, r ∈ E7 addr data en i ws → ∃ i' w, w ∈ ws ∧ r = Qv i' addr data en w w.length 0
 | [], _, h => by cases h
 | w :: ws, i, h => by
  rcases List.mem_cons.1 h with rfl | h
  ·exact ⟨i, w, List.mem_cons_self, rfl⟩
  ·obtain ⟨i', w', h1, h2⟩ := q3T h
   exact ⟨i', w', List.mem_cons_of_mem _ h1, h2⟩
theorem qEV {addr data w : List Int} {en : Int} {i : Nat} (hw : ∀ v ∈ w, V3 v) (hd : ∀ v ∈ data, V4 v) : ∀ v ∈ Qv i addr data en w w.length 0, V3 v := by
 intro v hv
 obtain ⟨j, hj, rfl⟩ := q1s 0 hv
 rw [q0B] at hj
 rw [q3O hj]
 unfold q1e
 split
 ·exact q90 hw _
 split
 ·exact qCK hd _
 ·exact qCL (q90 hw _) (qCK hd _)
theorem q54 {nets : List Int} {ms : List Mm} {ws : List (Sl (Sl Int))} (h : ws.length = ms.length) : (I1 nets ms ws).length = ms.length := by unfold I1; rw [List.length_zipWith, h, Nat.min_self]
theorem q55 {nets : List Int} {ms : List Mm} {ws : List (Sl (Sl Int))} (h : ws.length = ms.length) : (Jp nets ms ws).length = ms.length := by unfold Jp; rw [List.length_zipWith, h, Nat.min_self]
theorem q0E {α : Type} {l : List α} {i : Nat} {d : α} (h : i < l.length) : l.getD i d = l[i] := by simp [List.getD_eq_getElem?_getD, h]
theorem q56 {nets : List Int} {ms : List Mm} {ws : List (Sl (Sl Int))} (h : ws.length = ms.length) {i : Nat} (hi : i < ms.length) :
  (I1 nets ms ws).getD i Sl.zz = Gg (E7 (Bc nets (ms.getD i Mm.d).addr.l) (Bc nets (ms.getD i Mm.d).data.l) (nets.getD (ms.getD i Mm.d).write.toNat 0) 0 ((ws.getD i Sl.zz).l.map (·.l))) := by
 have h1 : i < ws.length := by omega
 have h2 : i < (I1 nets ms ws).length := by rw [q54 h]; exact hi
 rw [q0E h2, q0E hi, q0E h1]
 simp only [I1, List.getElem_zipWith]
theorem q8W {nets : List Int} {ms : List Mm} {ws : List (Sl (Sl Int))} (h : ws.length = ms.length) {i : Nat} (hi : i < ms.length) :
  (Jp nets ms ws).getD i Sl.z = ⟨Uh ((ws.getD i Sl.zz).l.map (·.l)) (Bc nets (ms.getD i Mm.d).addr.l), none, none⟩ := by
 have h1 : i < ws.length := by omega
 have h2 : i < (Jp nets ms ws).length := by rw [q55 h]; exact hi
 rw [q0E h2, q0E hi, q0E h1]
 simp only [Jp, List.getElem_zipWith]
theorem qEW {nets l : List Int} (h : ∀ v ∈ nets, V4 v) : ∀ v ∈ Bc nets l, V4 v := by
 intro v hv
 obtain ⟨q, _, rfl⟩ := List.mem_map.1 hv
 exact N1 h _
theorem qEX {c : B1} {nets : List Int} (h : ∀ v ∈ nets, V4 v) : ∀ v ∈ Dh c nets, V3 v := by
 intro v hv
 obtain ⟨n, _, rfl⟩ := List.mem_map.1 hv
 unfold q0Q Qp
 split
 ·split
  ·exact ⟨by unfold Dv; omega, by unfold Dv; omega⟩
  ·have := N1 h ((Hl c n.toNat).getD 0 0).toNat
   generalize nets.getD ((Hl c n.toNat).getD 0 0).toNat 0 = u at *
   unfold V4 at this
   unfold V3 Dv Dl
   constructor <;> (split <;> split <;> omega)
 ·exact ⟨by omega, by omega⟩
theorem qEY {c : B1} (h : MOk c) {s : Q9} (H : G6 c s) {nets : List Int} (hv : ∀ v ∈ nets, V4 v) : G6 c (Sv c s nets) := by
 have hwm : ∀ i, i < c.mems.l.length → ∀ r ∈ ((s.words.l.getD i Sl.zz).l.map (·.l)), ∀ v ∈ r, V3 v := fun i hi r hr v hvv => by
  obtain ⟨x, hx, rfl⟩ := List.mem_map.1 hr
  exact H.vw _ (Qw (by rw [H.w]; exact hi)) x hx v hvv
 have hsw := H.w
 refine ⟨by simp [Sv, Dh], q54 hsw, q55 hsw, fun i hi => ?_, fun i hi w hw => ?_, fun i hi => ?_, qEX hv, fun w hw r hr => ?_, fun r hr => ?_⟩
 ·show ((I1 nets c.mems.l s.words.l).getD i Sl.zz).l.length = _
  rw [q56 hsw hi]
  simp only [Gg, List.length_map, q3Q]
  exact H.wl i hi
 ·have hw : w ∈ ((I1 nets c.mems.l s.words.l).getD i Sl.zz).l := hw
  rw [q56 hsw hi] at hw
  simp only [Gg] at hw
  obtain ⟨r, hr, rfl⟩ := List.mem_map.1 hw
  obtain ⟨i', w', hw', rfl⟩ := q3T hr
  obtain ⟨x, hx, rfl⟩ := List.mem_map.1 hw'
  show (Qv _ _ _ _ _ _ _).length = _
  rw [q0B]
  exact H.wr i hi x hx
 ·show ((Jp nets c.mems.l s.words.l).getD i Sl.z).l.length = _
  rw [q8W hsw hi]
  simp only
  rw [(qAP (hwm i hi)).1]
  have hlen := H.wl i hi
  have hwr := H.wr i hi
  cases hW : (s.words.l.getD i Sl.zz).l with
  | nil =>
   rw [hW] at hlen
   have := Nat.pow_pos (n := (c.mems.l.getD i Mm.d).addr.l.length) (show 0 < 2 by omega)
   simp only [List.length_nil] at hlen
   omega
  | cons x xs =>
   rw [hW] at hwr
   exact hwr x List.mem_cons_self
 ·obtain ⟨i, hi, rfl⟩ := q1s Sl.zz hw
  have hi' : i < c.mems.l.length := by have : (Sv c s nets).words.l.length = c.mems.l.length := q54 hsw; omega
  have hr : r ∈ ((I1 nets c.mems.l s.words.l).getD i Sl.zz).l := hr
  rw [q56 hsw hi'] at hr
  simp only [Gg] at hr
  obtain ⟨q, hq, rfl⟩ := List.mem_map.1 hr
  obtain ⟨i', w', hw', rfl⟩ := q3T hq
  exact qEV (hwm i hi' w' hw') (qEW hv)
 ·obtain ⟨i, hi, rfl⟩ := q1s Sl.z hr
  have hi' : i < c.mems.l.length := by have : (Sv c s nets).read.l.length = c.mems.l.length := q55 hsw; omega
  have e : (Sv c s nets).read.l.getD i Sl.z = _ := q8W hsw hi'
  rw [e]
  exact (qAP (hwm i hi')).2
theorem qEZ {c : B1} : ∀ {o nets : List Int}, (∀ v ∈ nets, V4 v) → ∀ v ∈ q5m c o nets, V4 v
 | [], nets, h => h
 | n :: o, nets, h => qEZ (o := o) (nets := S5 c nets n) (qCC h)
theorem qCN {c : B1} {s : Q9} (H : G6 c s) {inn : List Int} (hv : ∀ v ∈ inn, V4 v) : ∀ v ∈ Uf c inn s.dff.l s.rd, V4 v := by
 refine q6C (fun v hvm => ?_) (q6C (fun v h => (show V3 v from H.vd v h).four) (q6C hv fun v hv => by rw [(List.mem_replicate.1 hv).2]; simp [V4]))
 obtain ⟨n, _, rfl⟩ := List.mem_map.1 hvm
 by_cases hm : (nd c n).mem.toNat < s.rd.length
 ·refine N1 (fun v hv => ?_) _
  have hmem := Qw (d := ([] : List Int)) hm
  obtain ⟨r, hr, e⟩ := List.mem_map.1 hmem
  rw [← e] at hv
  exact (show V3 v from H.vr r hr v hv).four
 ·have e : s.rd.getD (nd c n).mem.toNat [] = [] := by rw [List.getD_eq_getElem?_getD, List.getElem?_eq_none (by omega)]; rfl
  rw [e]
  exact ⟨by simp, by simp⟩
theorem q92 {c : B1} {s : Q9} (H : G6 c s) {inn : List Int} (hv : ∀ v ∈ inn, V4 v) : ∀ v ∈ Bh c s inn, V4 v := qEZ (qCN H hv)
theorem qEa {c : B1} (h : Ew c = 0) : ∀ x ∈ mems c, 0 ≤ (nd c x).mem ∧ (nd c x).mem < c.mems.l.length ∧ 0 ≤ (nd c x).bit ∧ (nd c x).bit < (c.mems.l.getD (nd c x).mem.toNat Mm.d).data.l.length := by
 intro x hx
 obtain ⟨h0, h1, h2⟩ := Ld x hx
 have hi : x.toNat < c.nodes.l.length := by omega
 have hne := (Hw (Ny h).1).2.2.1 _ (qE8 h0 h1)
 have hk : (nd c x).k = 15 := by
  have := q3s [15] c.nodes.l 0 x hx
  simpa [nd] using this.2.2
 unfold Di at hne
 rw [if_neg (by omega)] at hne
 split at hne
 ·cases hne
 split at hne
 ·cases hne
 split at hne
 ·cases hne
 split at hne
 ·cases hne
 rename_i hb
 simp [Z2, hk] at hb
 exact hb
theorem qAQ {Γ : Tables} (hΓ : GOk Γ) {c : B1} (h : MOk c) (hn : c.nodes.l.length ≤ 19) {s : Q9} (H : G6 c s) (inn : Sl Int) (hi : inn.l.length = (Bz c).length) (hv : ∀ v ∈ inn.l, V4 v) :
  Ab Tryz.prog Γ 13 [.agg (tC c), .agg (C9 s), tV inn] (.tup [.agg (C9 (Sv c s (Bh c s inn.l))), .agg [tVs (q06 c (Bh c s inn.l)), tVs (Dh c (Bh c s inn.l))], .sl (Ag (Bh c s inn.l)) (some c.nodes.l.length) none, tI 0]) :=
 qBX hΓ c h hn s H inn hi hv (qEa h.lev) (q92 H hv) (qCN H hv)
end Go.Lg
namespace Go.Lg
open Go Go.Proofs
variable {Γ : Tables}
theorem qCO (a b : List UInt8) : ByteArray.mk a.toArray ++ ByteArray.mk b.toArray = ByteArray.mk (a ++ b).toArray := by
 apply ByteArray.ext
 simp [ByteArray.data_append]
def q4K (l : List (Sl Int)) : List UInt8 := l.flatMap fun r => q2f r.l ++ [44]
theorem qD9 {l : List Int} : (q2f l).length = l.length := by simp [q2f]
theorem qGB {Q : AX → St → Prop} (w : Sl (Sl Int)) (hl : w.l.length ≤ 1000) (hr : ∀ r ∈ w.l, r.l.length ≤ 1000 ∧ ∀ v ∈ r.l, 0 ≤ v) (R : List UInt8)
  (h0 : Q (.exit 0) ⟨[(0, .t (tW w)), (3, .t (tS R)), (4, .t (tI w.l.length)), (8, .t (tB false))], []⟩) :
  ∀ (k i : Nat) (s : List UInt8), k + i = w.l.length → s.length ≤ 2000 * i → s ++ q4K (w.l.drop i) = R →
  run Tryz.prog Γ Ro Q ⟨[(0, .t (tW w)), (3, .t (tS s)), (4, .t (tI i))], []⟩
 | 0, i, s, h, hs, hR => by
  refine Ya fun K hK => ?_
  have h2 : i = w.l.length := by omega
  subst h2
  rw [List.drop_length] at hR
  simp only [q4K, List.flatMap_nil, List.append_nil] at hR
  subst hR
  simp [tW] at h0
  simp [tW, A1]
  simpa using h0
 | k + 1, i, s, h, hs, hR => by
  refine Ya fun K hK => ?_
  have h2 : i < w.l.length := by omega
  rw [List.drop_eq_getElem_cons h2] at hR
  simp only [q4K, List.flatMap_cons] at hR
  have e1 := gE (f := tV) Sl.z h2
  have e1' := gE' (f := tV) Sl.z h2
  rw [show w.l.getD i Sl.z = w.l[i] by simp [List.getD_eq_getElem?_getD, h2]] at e1 e1'
  obtain ⟨hr1, hr2⟩ := hr _ (List.getElem_mem h2)
  generalize w.l[i] = r at *
  have ht := q8M (Γ := Γ) r (by omega) hr2
  have tl := qD9 (l := r.l)
  have ih := qGB w hl hr R h0 k (i + 1) (s ++ q2f r.l ++ [44]) (by omega) (by simp; omega) (by rw [← hR]; simp [q4K])
  generalize q2f r.l = tx at *
  have b1 := qCO s tx
  have b2 := qCO (s ++ tx) [44]
  have w1 := Bj (i := i) (by omega)
  simp only [tS, sV] at ht ih
  simp only [tV] at e1 e1' ht
  simp [tW] at ih
  simp [tW, A1, A5, h2, e1, e1', tS, sV]
  refine A0 ht rfl ?_
  simp at b1 b2 ih
  simp [b1, b2, w1, tl]
  refine ⟨by omega, by omega, ?_⟩
  rw [hK]
  simpa using ih
theorem qBa (w : Sl (Sl Int)) (hl : w.l.length ≤ 1000) (hr : ∀ r ∈ w.l, r.l.length ≤ 1000 ∧ ∀ v ∈ r.l, 0 ≤ v) : A3 Tryz.prog Γ 18 [tW w] (tS (q4K w.l)) := by
 refine A6 q7N rfl ?_
 have g := fun Q h0 => qGB (Γ := Γ) (Q := Q) w hl hr (q4K w.l) h0 w.l.length 0 [] (by omega) (by simp) (by simp)
 generalize q4K w.l = R at *
 simp [tW, tS, sV] at g
 simp [q2o, tW, tS, sV]
 refine g _ ?_
 simp [q2p]
theorem qEb {Q : AX → St → Prop} (s : List UInt8) (hl : s.length ≤ 1000) (hs : ∀ b ∈ s, b = 48 ∨ b = 49 ∨ b = 88 ∨ b = 90)
  (h0 : Q (.exit 0) ⟨[(0, .t (tS s)), (4, .ls 9 0 s.length none), (11, .t (tI s.length)), (12, .t (tI s.length)), (13, .t (tB false))], [(9, .sl 64 1 (Ag (s.map Qq)))]⟩) :
  ∀ (k i : Nat), k + i = s.length →
  run Tryz.prog Γ P2 Q ⟨[(0, .t (tS s)), (4, .ls 9 0 s.length none), (11, .t (tI s.length)), (12, .t (tI i))], [(9, .sl 64 1 (Ag ((s.map Qq).take i ++ List.replicate (s.length - i) 0)))]⟩
 | 0, i, h => by
  refine Wa fun K hK => ?_
  have h2 : i = s.length := by omega
  subst h2
  rw [List.take_of_length_le (by simp), Nat.sub_self, List.replicate_zero, List.append_nil]
  simp
  simpa using h0
 | k + 1, i, h => by
  refine Wa fun K hK => ?_
  have h2 : i < s.length := by omega
  have h2R : i < (s.map Qq).length := by simpa using h2
  have ih := qEb s hl hs h0 k (i + 1) (by omega)
  have hb := hs _ (List.getElem_mem h2)
  have hget : (s[i]?.getD 0) = s[i] := by simp [h2]
  have hRi : (s.map Qq)[i] = Qq s[i] := by simp
  have hset : ∀ v : Int, v = Qq s[i] → (Ag ((s.map Qq).take i ++ List.replicate (s.length - i) 0)).set i [tK v] = Ag ((s.map Qq).take (i + 1) ++ List.replicate (s.length - (i + 1)) 0) := by
   rintro v rfl
   rw [show (Ag ((s.map Qq).take i ++ List.replicate (s.length - i) 0)).set i [tK (Qq s[i])] = Ag (((s.map Qq).take i ++ List.replicate (s.length - i) 0).set i (Qq s[i])) from Gj]
   congr 1
   have ht : ((s.map Qq).take i).length = i := by rw [List.length_take]; omega
   rw [List.set_append_right _ _ (by omega), ht, Nat.sub_self, show s.length - i = (s.length - (i + 1)) + 1 by omega, List.replicate_succ, List.set_cons_zero, List.take_add_one, List.getElem?_eq_getElem h2R, hRi]
   simp
  have hel : (Ag ((s.map Qq).take i ++ List.replicate (s.length - i) 0)).length = s.length := by rw [A1]; simp; omega
  generalize Ag ((s.map Qq).take i ++ List.replicate (s.length - i) 0) = E at *
  generalize Ag ((s.map Qq).take (i + 1) ++ List.replicate (s.length - (i + 1)) 0) = E' at *
  generalize hbq : s[i] = b at *
  have hi := q0y (Γ := Γ) (ByteArray.mk #[48, 49, 88, 90]) (b.toNat : Int)
  have hx : Lib.indexByte (ByteArray.mk #[48, 49, 88, 90]).data.toList ((b.toNat : Int)).toNat.toUInt8 = Qq b := by
   rcases hb with rfl | rfl | rfl | rfl <;> rfl
  rw [hx] at hi
  have hp : 0 ≤ Qq b ∧ Qq b ≤ 3 := by rcases hb with rfl | rfl | rfl | rfl <;> decide
  have hset := hset _ rfl
  generalize Qq b = v at *
  have hneg : ¬ v < 0 := by omega
  have wv : IntKind.u8.wrap v = v := by rw [B7] <;> omega
  have w1 := Bj (i := i) (by omega)
  simp [tS, sV] at ih
  simp [tS, sV, h2, hget, hbq]
  refine A0 hi rfl ?_
  simp [hneg, wv, h2, hel, hset, w1]
  rw [hK]
  simpa using ih
theorem qBb (s : List UInt8) (hl : s.length ≤ 1000) (hs : ∀ b ∈ s, b = 48 ∨ b = 49 ∨ b = 88 ∨ b = 90) : A3 Tryz.prog Γ 139 [tS s] (.tup [.sl (Ag (s.map Qq)) none none, tI 0]) := by
 refine A6 q5t rfl ?_
 have g := fun Q h0 => qEb (Γ := Γ) (Q := Q) s hl hs h0 s.length 0 (by omega)
 have hz : Ag ((s.map Qq).take 0 ++ List.replicate (s.length - 0) 0) = List.replicate s.length [tK 0] := by simp [A9]
 rw [hz] at g
 have vt : (Ag (s.map Qq)).take s.length = Ag (s.map Qq) := List.take_of_length_le (by rw [A1]; simp)
 simp [tS, sV] at g
 simp [q1Q, tS, sV]
 refine ⟨by omega, g _ ?_⟩
 simp [q1R, Ae, vt]
theorem q93 (s : List UInt8) (hl : s.length ≤ 1000) (hs : ∀ b ∈ s, b = 48 ∨ b = 49 ∨ b = 88 ∨ b = 90) : Ab Tryz.prog Γ 73 [tS s] (.sl (Ag (s.map Qq)) none none) := by
 refine Ax q50 rfl ?_
 have e := qBb (Γ := Γ) s hl hs
 generalize Ag (s.map Qq) = E at *
 simp only [tS, sV] at e
 simp [q0S, tS, sV]
 refine A0 e rfl ?_
 simp [q0T]
def ex4 : Sl (Sl Int) := ⟨[⟨[0, 0], none, none⟩, ⟨[0, 1], none, none⟩, ⟨[1, 0], none, none⟩, ⟨[1, 1], none, none⟩], some 4, some false⟩
def qHJ : T := .sl [[.sl (Ag [0, 0]) none none], [.sl (Ag [0, 1]) none none], [.sl (Ag [1, 0]) none none], [.sl (Ag [1, 1]) none none]] (some 4) (some false)
theorem q7O (s : List UInt8) (l : List Int) (hs : ∀ b ∈ s, b = 48 ∨ b = 49 ∨ b = 88 ∨ b = 90) (hl : s.length ≤ 1000) (h : s.map Qq = l) : Ab Tryz.prog Γ 73 [.v (.string ⟨s.toArray⟩)] (.sl (Ag l) none none) := by
 have := q93 (Γ := Γ) s hl hs
 rwa [h] at this
theorem qBc (a R : List Int) (ha : ∀ v ∈ a, 0 ≤ v) (hl : a.length ≤ 1000) (h : Uh [[0, 0], [0, 1], [1, 0], [1, 1]] a = R) : Ab Tryz.prog Γ 54 [qHJ, .sl (Ag a) none none] (.sl (Ag R) none none) := by
 have := q8S (Γ := Γ) ex4 (by decide) (by decide) ⟨a, none, none⟩ (by show a.length ≤ _; omega) ha
 rw [if_neg (by simp [ex4])] at this
 have e : Uh (ex4.l.map (·.l)) a = R := h
 simp only [e] at this
 exact this
theorem q94 (a d : List Int) (en : Int) (R : List (List Int)) (ha : ∀ v ∈ a, 0 ≤ v) (hl : a.length ≤ 1000) (hd : d.length ≤ 1000) (h : E7 a d en 0 [[0, 0], [0, 1], [1, 0], [1, 1]] = R) : Ab Tryz.prog Γ 55 [qHJ, .sl (Ag a) none none, .sl (Ag d) none none, tK en] (tW (Gg R)) := by
 have := q7K (Γ := Γ) ex4 (by decide) (by decide) ⟨a, none, none⟩ ⟨d, none, none⟩ (by show a.length ≤ _; omega) ha (by show d.length ≤ _; omega) en
 have e : E7 a d en 0 (ex4.l.map (·.l)) = R := h
 simp only [e] at this
 rw [qAO] at this
 exact this
theorem qEc (l : List Int) (s : List UInt8) (hl : l.length ≤ 1000) (hv : ∀ v ∈ l, 0 ≤ v) (h : q2f l = s) : A3 Tryz.prog Γ 64 [.sl (Ag l) none none] (.v (.string ⟨s.toArray⟩)) := by
 have := q8M (Γ := Γ) ⟨l, none, none⟩ (by show l.length ≤ _; omega) hv
 simp only [h] at this
 exact this
theorem qGC (R : List (List Int)) (s : List UInt8) (hl : R.length ≤ 1000) (hr : ∀ r ∈ R, r.length ≤ 1000 ∧ ∀ v ∈ r, 0 ≤ v) (h : R.flatMap (fun r => q2f r ++ [44]) = s) : A3 Tryz.prog Γ 18 [tW (Gg R)] (.v (.string ⟨s.toArray⟩)) := by
 have := qBa (Γ := Γ) (Gg R) (by simp [Gg]; exact hl) (fun r hr' => by
  obtain ⟨x, hx, rfl⟩ := List.mem_map.1 hr'
  exact hr x hx)
 have e : q4K (Gg R).l = s := by
  rw [← h]
  simp [q4K, Gg, List.flatMap_map]
 rw [e] at this
 exact this
theorem q95 : Ab Tryz.prog Γ 21 [] (tB true) := by
 refine Ax q5y rfl ?_
 have v00 := q7O (Γ := Γ) [48, 48] [0, 0] (by decide) (by decide) (by decide)
 have v01 := q7O (Γ := Γ) [48, 49] [0, 1] (by decide) (by decide) (by decide)
 have v10 := q7O (Γ := Γ) [49, 48] [1, 0] (by decide) (by decide) (by decide)
 have v11 := q7O (Γ := Γ) [49, 49] [1, 1] (by decide) (by decide) (by decide)
 have vX0 := q7O (Γ := Γ) [88, 48] [2, 0] (by decide) (by decide) (by decide)
 have vXX := q7O (Γ := Γ) [88, 88] [2, 2] (by decide) (by decide) (by decide)
 have v1X := q7O (Γ := Γ) [49, 88] [1, 2] (by decide) (by decide) (by decide)
 have l1 := qBc (Γ := Γ) [1, 0] [0, 1] (by decide) (by decide) (by decide)
 have l2 := qBc (Γ := Γ) [2, 0] [0, 2] (by decide) (by decide) (by decide)
 have l3 := qBc (Γ := Γ) [2, 2] [2, 2] (by decide) (by decide) (by decide)
 have t1 := qEc (Γ := Γ) [0, 1] [48, 49] (by decide) (by decide) (by decide)
 have t2 := qEc (Γ := Γ) [0, 2] [48, 88] (by decide) (by decide) (by decide)
 have t3 := qEc (Γ := Γ) [2, 2] [88, 88] (by decide) (by decide) (by decide)
 have s1 := q94 (Γ := Γ) [1, 2] [1, 1] 1 [[0, 0], [2, 1], [1, 0], [1, 1]] (by decide) (by decide) (by decide) (by decide)
 have s2 := q94 (Γ := Γ) [1, 0] [1, 1] 1 [[0, 0], [1, 1], [1, 0], [1, 1]] (by decide) (by decide) (by decide) (by decide)
 have s3 := q94 (Γ := Γ) [1, 0] [1, 1] 2 [[0, 0], [2, 1], [1, 0], [1, 1]] (by decide) (by decide) (by decide) (by decide)
 have x1 := qGC (Γ := Γ) [[0, 0], [2, 1], [1, 0], [1, 1]] [48, 48, 44, 88, 49, 44, 49, 48, 44, 49, 49, 44] (by decide) (by decide) (by decide)
 have x2 := qGC (Γ := Γ) [[0, 0], [1, 1], [1, 0], [1, 1]] [48, 48, 44, 49, 49, 44, 49, 48, 44, 49, 49, 44] (by decide) (by decide) (by decide)
 simp [qHJ] at l1 l2 l3 s1 s2 s3
 generalize tW (Gg [[0, 0], [2, 1], [1, 0], [1, 1]]) = A at *
 generalize tW (Gg [[0, 0], [1, 1], [1, 0], [1, 1]]) = B at *
 simp [q1l, sV]
 refine A8 v00 rfl ?_
 simp
 refine A8 v01 rfl ?_
 simp
 refine A8 v10 rfl ?_
 simp
 refine A8 v11 rfl ?_
 simp
 refine A8 v10 rfl ?_
 simp
 refine A8 l1 rfl ?_
 simp
 refine A0 t1 rfl ?_
 simp
 refine A8 vX0 rfl ?_
 simp
 refine A8 l2 rfl ?_
 simp
 refine A0 t2 rfl ?_
 simp
 refine A8 vXX rfl ?_
 simp
 refine A8 l3 rfl ?_
 simp
 refine A0 t3 rfl ?_
 simp
 refine A8 v1X rfl ?_
 simp
 refine A8 v11 rfl ?_
 simp
 refine A8 s1 rfl ?_
 simp
 refine A0 x1 rfl ?_
 simp
 refine A8 v10 rfl ?_
 simp
 refine A8 v11 rfl ?_
 simp
 refine A8 s2 rfl ?_
 simp
 refine A0 x2 rfl ?_
 simp
 refine A8 v10 rfl ?_
 simp
 refine A8 v11 rfl ?_
 simp
 refine A8 s3 rfl ?_
 simp
 refine A0 x1 rfl ?_
 simp [q1m]
def q96 (v : Sl Int) (q : PD) : List T := tV v :: tPD q
theorem qGD {α : Type} {l : List α} (h : l.length = 1) : ∃ a, l = [a] := by
 match l, h with
 | [a], _ => exact ⟨a, rfl⟩
theorem qCP {α : Type} {l : List α} (h : l.length = 2) : ∃ a b, l = [a, b] := by
 match l, h with
 | [a, b], _ => exact ⟨a, b, rfl⟩
theorem st2 {c : B1} {s : Q9} (H : G6 c s) {m : Mm} (hm : c.mems.l = [m]) (ha : m.addr.l.length = 1) (hd : m.data.l.length = 2) :
  ∃ W r0 r1 a b cc d rd e f, s.words.l = [W] ∧ W.l = [r0, r1] ∧ r0.l = [a, b] ∧ r1.l = [cc, d] ∧ s.read.l = [rd] ∧ rd.l = [e, f] ∧ V3 a ∧ V3 b ∧ V3 cc ∧ V3 d ∧ V3 e ∧ V3 f := by
 have hl : c.mems.l.length = 1 := by rw [hm]; rfl
 obtain ⟨W, hW⟩ := qGD (H.w.trans hl)
 obtain ⟨rd, hr⟩ := qGD (H.r.trans hl)
 have wl := H.wl 0 (by omega)
 have wr := H.wr 0 (by omega)
 have rl := H.rl 0 (by omega)
 have em : c.mems.l.getD 0 Mm.d = m := by rw [hm]; rfl
 have eW : s.words.l.getD 0 Sl.zz = W := by rw [hW]; rfl
 have er : s.read.l.getD 0 Sl.z = rd := by rw [hr]; rfl
 rw [eW, em, ha] at wl
 rw [eW, em, hd] at wr
 rw [er, em, hd] at rl
 obtain ⟨r0, r1, hW2⟩ := qCP (show W.l.length = 2 from wl)
 obtain ⟨e, f, hrd⟩ := qCP rl
 obtain ⟨a, b, h0⟩ := qCP (wr r0 (by rw [hW2]; simp))
 obtain ⟨cc, d, h1⟩ := qCP (wr r1 (by rw [hW2]; simp))
 have v0 := H.vw W (by rw [hW]; simp) r0 (by rw [hW2]; simp)
 have v1 := H.vw W (by rw [hW]; simp) r1 (by rw [hW2]; simp)
 have v2 := H.vr rd (by rw [hr]; simp)
 exact ⟨W, r0, r1, a, b, cc, d, rd, e, f, hW, hW2, h0, h1, hr, hrd, v0 a (by rw [h0]; simp), v0 b (by rw [h0]; simp), v1 cc (by rw [h1]; simp), v1 d (by rw [h1]; simp), v2 e (by rw [hrd]; simp), v2 f (by rw [hrd]; simp)⟩
structure M2 (c : B1) : Prop where
 m : c.mems.l = [] ∨ ∃ m p p1 p2, c.mems.l = [m] ∧ m.addr.l = [p] ∧ m.data.l = [p1, p2]
 k : ∀ i, i < c.nodes.l.length → 0 ≤ Ar c i ∧ Ar c i ≤ 15
 n1 : 1 ≤ c.nodes.l.length
 n2 : c.nodes.l.length ≤ 16
theorem qGE {x : CD} (hx : q4o x) : M2 (V6 x) := by
 have hl := q3D hx
 have h5 := q3E hx
 have hN : (V6 x).nodes.l = Gy x := rfl
 have hv := q8O hx
 refine ⟨?_, fun i hi => ?_, by rw [hN]; omega, by rw [hN]; omega⟩
 ·by_cases hm : x.mem = true
  ·exact .inr ⟨⟨⟨[x.p0.tmod (Bv x).length], some 1, some false⟩, ⟨[x.p1.tmod (Bv x).length, x.p2.tmod (Bv x).length], some 2, some false⟩, x.p3.tmod (Bv x).length⟩, _, _, _, by simp [V6, q7Z, hm], rfl, rfl⟩
  ·left
   simp [V6, q7Z, hm]
 ·have hs := (Ny hv).1
  have hn := (Hw hs).2.2.1 _ (List.getElem_mem hi)
  have hk : Ar (V6 x) i = (V6 x).nodes.l[i].k := by simp [Ar, hi]
  have hkk := (qDs hx).kind _ (List.getElem_mem hi)
  have hle : ¬ 15 < (V6 x).nodes.l[i].k := fun h => by
   unfold Di at hn
   rw [if_pos h] at hn; cases hn
  rw [hk]
  omega
theorem qHK {x : CD} (hx : q4o x) : MOk (V6 x) := ⟨qDs hx, q8O hx, by have := (qGE hx).n2; omega⟩
end Go.Lg
namespace Go.Lg
open Go Go.Proofs Go.Proofs.YthgiocdefejbiaaGreatDoor
theorem qCQ : Tryz.prog.cellsOf 29 = 1 := by kernel_rfl
theorem qFW : Tryz.prog.cellsOf 33 = 3 := by kernel_rfl
theorem qJh : Rd Tryz.prog 29 fun ts => ∃ s : Sl Int, ts = [tV s] ∧ ∀ b ∈ s.l, Byt b := by
 refine (Yx (l := [(1, fun ts => ∃ s : Sl Int, ts = [tV s] ∧ ∀ b ∈ s.l, Byt b)]) Tryz.underlying29 qCQ
  (.cons rfl q68 q8r (.nil _))).mono fun ts h => ?_
 obtain ⟨_, _, rfl, ⟨a, rfl, ha⟩, rfl⟩ := h
 exact ⟨a, rfl, ha⟩
theorem qIr : Rd Tryz.prog 33 fun ts => ∃ v q, ts = q96 v q ∧ (∀ b ∈ v.l, Byt b) ∧ q8q q := by
 refine (Yx (l := [(1, fun ts => ∃ s : Sl Int, ts = [tV s] ∧ ∀ b ∈ s.l, Byt b), (2, fun ts => ∃ q, ts = tPD q ∧ q8q q)]) Tryz.underlying33 qFW
  (.cons rfl qCQ qJh (.cons rfl qCE qJe (.nil _)))).mono fun ts h => ?_
 obtain ⟨_, _, rfl, ⟨a, rfl, ha⟩, _, _, rfl, ⟨q, rfl, hq⟩, rfl⟩ := h
 exact ⟨a, q, by simp [q96], ha, hq⟩
end Go.Lg
namespace Go.Proofs.YthgiocdefejbiaaGreatDoor
open Go Go.Lg Go.ChangeShapes Go.WideShapes Go.ChangeAt Go.RowKit
theorem qIs {H : Type} {enc : TypeId × Value → H} {W : World} {base : Nat} {v : Value} {d : DataW H} {p : List MemPlace} (hval : Value.okWide Tryz.prog W .any base 33 v) (h : DataW.Trod enc Tryz.prog W 0 (fun _ => true) true 33 v d p) : ∃ s q, (∀ b ∈ s.l, Byt b) ∧ q8q q ∧ TR W (Old W) (.agg (q96 s q)) v := by
 simp only [Value.okWide, Tryz.underlying33] at hval
 obtain ⟨cs, rfl, _, _⟩ := hval
 obtain ⟨fuel, hf⟩ := h
 obtain ⟨ts, ⟨s, q, rfl, h1, h2⟩, htr, ho⟩ := qIr H enc W true fuel _ _ hf
 exact ⟨s, q, h1, h2, qDi htr ho⟩
end Go.Proofs.YthgiocdefejbiaaGreatDoor
namespace Go.Lg
open Go Go.Proofs
variable {Γ : Tables}
def Dm (a b : List Int) : List Int := List.zipWith (fun x y => if x = 2 then y else x) a b
def H6 (x y : List (Sl Int)) : List (Sl Int) := List.zipWith (fun a b => ⟨Dm a.l b.l, none, none⟩) x y
def Yn (x y : List (Sl (Sl Int))) : List (Sl (Sl Int)) := List.zipWith (fun a b => ⟨H6 a.l b.l, none, none⟩) x y
def q0F (s u : Q9) : Q9 := ⟨⟨Dm s.dff.l u.dff.l, none, none⟩, ⟨Yn s.words.l u.words.l, none, none⟩, ⟨H6 s.read.l u.read.l, none, none⟩⟩
theorem q0G {a b : List Int} (h : a.length = b.length) : (Dm a b).length = a.length := by unfold Dm; rw [List.length_zipWith, h, Nat.min_self]
theorem qEd {Q : AX → St → Prop} (a b : Sl Int) (hl : a.l.length ≤ 1000000) (hab : a.l.length = b.l.length) (R : List Int)
  (h0 : R.length = a.l.length → Q (.exit 0) ⟨[(0, .t (tV a)), (1, .t (tV b)), (5, .ls 24 0 a.l.length none), (6, .t (tI a.l.length)), (10, .t (tB false))], [(24, .sl 64 1 (Ag R))]⟩) :
  ∀ (k i : Nat) (out : List Int), k + i = a.l.length → out.length = i → out ++ Dm (a.l.drop i) (b.l.drop i) = R →
  run Tryz.prog Γ Kt Q ⟨[(0, .t (tV a)), (1, .t (tV b)), (5, .ls 24 0 i none), (6, .t (tI i))], [(24, .sl 64 1 (Ag out))]⟩
 | 0, i, out, h, hi, hR => by
  refine Sz fun K hK => ?_
  have h2 : i = a.l.length := by omega
  subst h2
  rw [List.drop_length] at hR
  simp only [Dm, List.zipWith_nil_left, List.append_nil] at hR
  subst hR
  have := h0 hi
  simp [tV] at this
  simp [tV, A1]
  simpa using this
 | k + 1, i, out, h, hi, hR => by
  refine Sz fun K hK => ?_
  have h2 : i < a.l.length := by omega
  have h3 : i < b.l.length := by omega
  rw [List.drop_eq_getElem_cons h2, List.drop_eq_getElem_cons h3] at hR
  simp only [Dm, List.zipWith_cons_cons] at hR
  have e1 := gE (f := tK) 0 h2
  have e1' := gE' (f := tK) 0 h2
  have e2 := gE (f := tK) 0 h3
  have e2' := gE' (f := tK) 0 h3
  rw [Bg h2] at e1 e1'
  rw [Bg h3] at e2 e2'
  generalize a.l[i] = x at *
  generalize b.l[i] = y at *
  have vt : (Ag out).take i = Ag out := by rw [← hi]; exact D1
  have w1 := Bj (i := i) (by omega)
  by_cases hx : x = 2
  ·rw [if_pos hx] at hR
   have ih := qEd a b hl hab R h0 k (i + 1) (out ++ [y]) (by omega) (by simp [hi]) (by rw [← hR]; simp [Dm])
   have vs := O3 (l := out) (v := y)
   simp [tV] at ih
   simp [tV, A1, A5, h2, h3, e1, e1', e2, e2', hx, vt, vs, hi, w1]
   refine ⟨by omega, ?_⟩
   rw [hK]
   simpa using ih
  ·rw [if_neg hx] at hR
   have ih := qEd a b hl hab R h0 k (i + 1) (out ++ [x]) (by omega) (by simp [hi]) (by rw [← hR]; simp [Dm])
   have vs := O3 (l := out) (v := x)
   simp [tV] at ih
   simp [tV, A1, A5, h2, h3, e1, e1', e2, e2', hx, vt, vs, hi, w1]
   refine ⟨by omega, ?_⟩
   rw [hK]
   simpa using ih
theorem q57 (a b : Sl Int) (hl : a.l.length ≤ 1000000) (hab : a.l.length = b.l.length) : A3 Tryz.prog Γ 74 [tV a, tV b] (.sl (Ag (Dm a.l b.l)) none none) := by
 refine A6 q4I rfl ?_
 have g := fun Q h0 => qEd (Γ := Γ) (Q := Q) a b hl hab (Dm a.l b.l) h0 a.l.length 0 [] (by omega) rfl (by simp)
 generalize Dm a.l b.l = R at *
 simp [tV, Gk] at g
 simp [Zj, tV]
 refine g _ fun hR => ?_
 have vt : (Ag R).take a.l.length = Ag R := by rw [← hR]; exact D1
 simp [Zk, Ae, vt]
def avE (s u : Q9) (m : Nat) : List (Nat × AV) := [(2, .t (.ip (C9 s) 0)), (3, .t (.ip (C9 u) 0)), (4, .lp 4 0 0), (5, .t (.fn 74 [])), (6, .lp 6 0 0), (7, .t (tI m))]
def avH (d : T) (ws : List (Sl (Sl Int))) (rs : List (Sl Int)) : List (Nat × B0) := [(4, .bx [Dq, Dq, Dq]), (6, .bx [.t d, .ls 59 0 ws.length none, .ls 76 0 rs.length none])]
def avT (ws : List (Sl (Sl Int))) (rs : List (Sl Int)) : List (Nat × B0) := [(59, .sl 43 1 (A9 tW ws)), (76, .sl 41 1 (A9 tV rs))]
theorem qIt {Q : AX → St → Prop} (s u : Q9) (m : Nat) (hm : m < s.words.l.length) (hm2 : m < u.words.l.length) (x y : Sl (Sl Int)) (hx : s.words.l.getD m Sl.zz = x) (hy : u.words.l.getD m Sl.zz = y) (hl : x.l.length ≤ 1000000) (hxy : x.l.length = y.l.length)
  (hr : ∀ j, j < x.l.length → (x.l.getD j Sl.z).l.length ≤ 1000000 ∧ (x.l.getD j Sl.z).l.length = (y.l.getD j Sl.z).l.length) (d : T) (ws : List (Sl (Sl Int))) (rs : List (Sl Int)) (R : List (Sl Int))
  (h0 : R.length = x.l.length → Q (.exit 2) ⟨avE s u m ++ [(8, .ls 54 0 x.l.length none), (9, .t (tI x.l.length)), (31, .t (tB false))], avH d ws rs ++ (54, .sl 41 1 (A9 tV R)) :: avT ws rs⟩) :
  ∀ (k i : Nat) (out : List (Sl Int)), k + i = x.l.length → out.length = i → out ++ H6 (x.l.drop i) (y.l.drop i) = R →
  run Tryz.prog Γ Pe Q ⟨avE s u m ++ [(8, .ls 54 0 i none), (9, .t (tI i))], avH d ws rs ++ (54, .sl 41 1 (A9 tV out)) :: avT ws rs⟩ := by
 have e1 := gE (f := tW) Sl.zz hm
 have e1' := gE' (f := tW) Sl.zz hm
 have e2 := gE (f := tW) Sl.zz hm2
 have e2' := gE' (f := tW) Sl.zz hm2
 rw [hx] at e1 e1'
 rw [hy] at e2 e2'
 simp only [tW] at e1 e1' e2 e2'
 intro k
 induction k with
 | zero =>
  intro i out h ho hR
  refine Wq fun K hK => ?_
  have h2 : i = x.l.length := by omega
  subst h2
  rw [List.drop_length] at hR
  simp only [H6, List.zipWith_nil_left, List.append_nil] at hR
  subst hR
  have := h0 ho
  simp [avE, avH, avT, Dq, C9, tWs] at this
  simp [avE, avH, avT, Dq, C9, tWs, A1, A5, hm, hm2, e1, e1']
  simpa using this
 | succ k ih =>
  intro i out h ho hR
  refine Wq fun K hK => ?_
  have h2 : i < x.l.length := by omega
  have h3 : i < y.l.length := by omega
  rw [List.drop_eq_getElem_cons h2, List.drop_eq_getElem_cons h3] at hR
  simp only [H6, List.zipWith_cons_cons] at hR
  have e3 := gE (f := tV) Sl.z h2
  have e3' := gE' (f := tV) Sl.z h2
  have e4 := gE (f := tV) Sl.z h3
  have e4' := gE' (f := tV) Sl.z h3
  have hri := hr i h2
  rw [show x.l.getD i Sl.z = x.l[i] by simp [List.getD_eq_getElem?_getD, h2]] at e3 e3' hri
  rw [show y.l.getD i Sl.z = y.l[i] by simp [List.getD_eq_getElem?_getD, h3]] at e4 e4' hri
  generalize x.l[i] = p at *
  generalize y.l[i] = q at *
  have hj := q57 (Γ := Γ) p q hri.1 hri.2
  have ih := ih (i + 1) (out ++ [⟨Dm p.l q.l, none, none⟩]) (by omega) (by simp [ho]) (by rw [← hR]; simp [H6])
  have vs : A9 tV out ++ [[T.sl (Ag (Dm p.l q.l)) none none]] = A9 tV (out ++ [⟨Dm p.l q.l, none, none⟩]) := C6 (f := tV) (x := ⟨Dm p.l q.l, none, none⟩)
  have vt : (A9 tV out).take i = A9 tV out := by rw [← ho]; exact An
  generalize Dm p.l q.l = L at *
  have w1 := Bj (i := i) (by omega)
  have hw1 : ∀ t : T, E5 1 [[t]] := fun t e he => by simp at he; subst he; rfl
  simp only [tV] at e3 e3' e4 e4' hj
  simp [avE, avH, avT, Dq, C9, tWs] at ih
  simp [avE, avH, avT, Dq, C9, tWs, A1, A5, hm, hm2, e1, e1', e2, e2', h2, h3, e3, e3', e4, e4']
  refine A0 hj rfl ?_
  simp [vt, vs, ho, hw1, A1, A5, w1]
  refine ⟨by omega, ?_⟩
  rw [hK]
  simpa using ih
structure Shp (s u : Q9) : Prop where
 dl : s.dff.l.length ≤ 1000000
 d : s.dff.l.length = u.dff.l.length
 wl : s.words.l.length ≤ 1000000
 w : s.words.l.length = u.words.l.length
 rl : s.read.l.length = s.words.l.length
 r : s.read.l.length = u.read.l.length
 ww : ∀ i, i < s.words.l.length → (s.words.l.getD i Sl.zz).l.length ≤ 1000000 ∧ (s.words.l.getD i Sl.zz).l.length = (u.words.l.getD i Sl.zz).l.length ∧
  ∀ j, j < (s.words.l.getD i Sl.zz).l.length → ((s.words.l.getD i Sl.zz).l.getD j Sl.z).l.length ≤ 1000000 ∧ ((s.words.l.getD i Sl.zz).l.getD j Sl.z).l.length = ((u.words.l.getD i Sl.zz).l.getD j Sl.z).l.length
 rr : ∀ i, i < s.read.l.length → (s.read.l.getD i Sl.z).l.length ≤ 1000000 ∧ (s.read.l.getD i Sl.z).l.length = (u.read.l.getD i Sl.z).l.length
theorem qGF {Q : AX → St → Prop} (s u : Q9) (S : Shp s u) (d : T) (RW : List (Sl (Sl Int))) (RR : List (Sl Int))
  (h0 : Q (.exit 0) ⟨avE s u s.words.l.length ++ [(21, .t (tB false))], avH d RW RR ++ avT RW RR⟩) :
  ∀ (k i : Nat) (ws : List (Sl (Sl Int))) (rs : List (Sl Int)), k + i = s.words.l.length → ws.length = i → rs.length = i → ws ++ Yn (s.words.l.drop i) (u.words.l.drop i) = RW → rs ++ H6 (s.read.l.drop i) (u.read.l.drop i) = RR →
  run Tryz.prog Γ Pg Q ⟨avE s u i, avH d ws rs ++ avT ws rs⟩
 | 0, i, ws, rs, h, hw, hr, hW, hR => by
  refine Ws fun K hK => ?_
  have h2 : i = s.words.l.length := by omega
  subst h2
  rw [List.drop_length] at hW
  rw [← S.rl, List.drop_length] at hR
  simp only [Yn, H6, List.zipWith_nil_left, List.append_nil] at hW hR
  subst hW
  subst hR
  simp [avE, avH, avT, Dq, C9, tWs] at h0
  simp [avE, avH, avT, Dq, C9, tWs, A1]
  simpa using h0
 | k + 1, i, ws, rs, h, hw, hr, hW, hR => by
  refine Ws fun K hK => ?_
  have h2 : i < s.words.l.length := by omega
  have h3 : i < u.words.l.length := by have := S.w; omega
  have h4 : i < s.read.l.length := by have := S.rl; omega
  have h5 : i < u.read.l.length := by have := S.r; omega
  have hwl := S.wl
  obtain ⟨sw1, sw2, sw3⟩ := S.ww i h2
  obtain ⟨sr1, sr2⟩ := S.rr i h4
  rw [List.drop_eq_getElem_cons h2, List.drop_eq_getElem_cons h3] at hW
  rw [List.drop_eq_getElem_cons h4, List.drop_eq_getElem_cons h5] at hR
  simp only [Yn, List.zipWith_cons_cons] at hW
  simp only [H6, List.zipWith_cons_cons] at hR
  have g := fun Q R hR0 h0 => qIt (Γ := Γ) (Q := Q) s u i h2 h3 (s.words.l.getD i Sl.zz) (u.words.l.getD i Sl.zz) rfl rfl sw1 sw2 sw3 d ws rs R h0 (s.words.l.getD i Sl.zz).l.length 0 [] (by omega) rfl hR0
  have e3 := gE (f := tV) Sl.z h4
  have e3' := gE' (f := tV) Sl.z h4
  have e4 := gE (f := tV) Sl.z h5
  have e4' := gE' (f := tV) Sl.z h5
  rw [show s.words.l.getD i Sl.zz = s.words.l[i] by simp [List.getD_eq_getElem?_getD, h2]] at g sw1 sw2 sw3
  rw [show u.words.l.getD i Sl.zz = u.words.l[i] by simp [List.getD_eq_getElem?_getD, h3]] at g sw2 sw3
  rw [show s.read.l.getD i Sl.z = s.read.l[i] by simp [List.getD_eq_getElem?_getD, h4]] at e3 e3' sr1 sr2
  rw [show u.read.l.getD i Sl.z = u.read.l[i] by simp [List.getD_eq_getElem?_getD, h5]] at e4 e4' sr2
  generalize s.words.l[i] = x at *
  generalize u.words.l[i] = y at *
  generalize s.read.l[i] = p at *
  generalize u.read.l[i] = q at *
  have g := fun Q h0 => g Q (H6 x.l y.l) (by simp) h0
  have hj := q57 (Γ := Γ) p q sr1 sr2
  have ih := qGF s u S d RW RR h0 k (i + 1) (ws ++ [⟨H6 x.l y.l, none, none⟩]) (rs ++ [⟨Dm p.l q.l, none, none⟩]) (by omega) (by simp [hw]) (by simp [hr]) (by rw [← hW]; simp [Yn, H6]) (by rw [← hR]; simp [H6])
  have vsw : A9 tW ws ++ [[T.sl (A9 tV (H6 x.l y.l)) none none]] = A9 tW (ws ++ [⟨H6 x.l y.l, none, none⟩]) := C6 (f := tW) (x := ⟨H6 x.l y.l, none, none⟩)
  have vsr : A9 tV rs ++ [[T.sl (Ag (Dm p.l q.l)) none none]] = A9 tV (rs ++ [⟨Dm p.l q.l, none, none⟩]) := C6 (f := tV) (x := ⟨Dm p.l q.l, none, none⟩)
  have vtw : (A9 tW ws).take i = A9 tW ws := by rw [← hw]; exact An
  have vtr : (A9 tV rs).take i = A9 tV rs := by rw [← hr]; exact An
  generalize H6 x.l y.l = rows at *
  generalize Dm p.l q.l = L at *
  have w1 := Bj (i := i) (by omega)
  have hw1 : ∀ t : T, E5 1 [[t]] := fun t e he => by simp at he; subst he; rfl
  simp only [tV] at e3 e3' e4 e4' hj
  simp [avE, avH, avT, Dq, C9, tWs, tW, Gk, hw, hr] at g ih
  simp [avE, avH, avT, Dq, C9, tWs, tW, A1, A5, h2, hw, hr]
  refine g _ fun hRl => ?_
  have vt : (A9 tV rows).take x.l.length = A9 tV rows := by rw [← hRl]; exact An
  simp [St.freeze, B0.closed, Cm, frz1, frz0, G9, del, Ae, vt, vtw, vsw, hw1, A5, A1, hw]
  refine ⟨by omega, ?_⟩
  simp [h4, h5, e3, e3', e4, e4', A1, A5]
  refine A0 hj rfl ?_
  simp [vtr, vsr, hw1, A5, A1, hr, w1]
  refine ⟨by omega, ?_⟩
  rw [hK]
  simpa using ih
theorem qAR (s u : Q9) (S : Shp s u) : Ab Tryz.prog Γ 22 [.agg (C9 s), .agg (C9 u)] (.agg (C9 (q0F s u))) := by
 refine Ax q5z rfl ?_
 have hj := q57 (Γ := Γ) s.dff u.dff S.dl S.d
 have hrl := S.rl
 have g := fun Q d h0 => qGF (Γ := Γ) (Q := Q) s u S d (Yn s.words.l u.words.l) (H6 s.read.l u.read.l) h0 s.words.l.length 0 [] [] (by omega) rfl rfl rfl rfl
 have tw : (A9 tW (Yn s.words.l u.words.l)).take (Yn s.words.l u.words.l).length = A9 tW (Yn s.words.l u.words.l) := An
 have tr : (A9 tV (H6 s.read.l u.read.l)).take (H6 s.read.l u.read.l).length = A9 tV (H6 s.read.l u.read.l) := An
 unfold q0F
 generalize Yn s.words.l u.words.l = W at *
 generalize H6 s.read.l u.read.l = R at *
 generalize Dm s.dff.l u.dff.l = D at *
 simp only [tV] at hj
 simp [avE, avH, avT, Dq, C9, tV, tW, tWs, Gk] at g
 simp [q1p, C9, tV, tW, tWs]
 refine A0 hj rfl ?_
 simp
 refine g _ _ ?_
 simp [St.freeze, B0.closed, Cm, frz1, frz0, G9, del, Ae, tw, tr, q1q]
def J1 (n : Nat) : Sl Int := ⟨List.replicate n 2, none, none⟩
def Zl (m : Mm) : Sl (Sl Int) := ⟨List.replicate (2 ^ m.addr.l.length) (J1 m.data.l.length), none, none⟩
def J2 (c : B1) : Q9 := ⟨J1 (Av c).length, ⟨c.mems.l.map Zl, some c.mems.l.length, none⟩, ⟨c.mems.l.map fun m => J1 m.data.l.length, some c.mems.l.length, none⟩⟩
def blH (m : Mm) (d : T) (nw nr : Nat) : List (Nat × B0) := [(2, .bx [Dq, Dq, Dq]), (3, .bx [.t d, .ls 46 0 nw none, .ls 55 0 nr none]), (5, .bx ((tMm m).map .t))]
def blT (ws : List (Sl (Sl Int))) (rs : List (Sl Int)) : List (Nat × B0) := [(46, .sl 43 1 (A9 tW ws)), (55, .sl 41 1 (A9 tV rs))]
theorem qIu {Q : AX → St → Prop} (m : Mm) (K : Nat) (hK : K ≤ 1000000) (hd : m.data.l.length ≤ 60000) (tm : T) (len j : Int) (d : T) (ws : List (Sl (Sl Int))) (rs : List (Sl Int)) (R : List (List T)) (hR : R = A9 tV (List.replicate K (J1 m.data.l.length)))
  (h0 : Q (.exit 2) ⟨[(2, .lp 2 0 0), (3, .lp 3 0 0), (5, .lp 5 0 0), (6, .ls 28 0 K none), (18, .t tm), (19, .t (tI len)), (20, .t (tI j)), (30, .t (tI K)), (31, .t (tI K)), (32, .t (tB false))], blH m d ws.length rs.length ++ (28, .sl 41 1 R) :: blT ws rs⟩) :
  ∀ (k i : Nat), k + i = K →
  run Tryz.prog Γ Jm Q ⟨[(2, .lp 2 0 0), (3, .lp 3 0 0), (5, .lp 5 0 0), (6, .ls 28 0 K none), (18, .t tm), (19, .t (tI len)), (20, .t (tI j)), (30, .t (tI K)), (31, .t (tI i))], blH m d ws.length rs.length ++ (28, .sl 41 1 (R.take i ++ List.replicate (K - i) [T.sl [] (some 0) (some true)])) :: blT ws rs⟩ := by
 have hRl : R.length = K := by rw [hR, A1]; simp
 intro k
 induction k with
 | zero =>
  intro i h
  refine Q7 fun KK hKK => ?_
  have h2 : i = K := by omega
  subst h2
  rw [← hRl, List.take_length, hRl, Nat.sub_self, List.replicate_zero, List.append_nil]
  simp [blH, blT, Dq] at h0
  simp [blH, blT, Dq]
  simpa using h0
 | succ k ih =>
  intro i h
  refine Q7 fun KK hKK => ?_
  have h2 : i < K := by omega
  have h2R : i < R.length := by omega
  have ih := ih (i + 1) (by omega)
  have hu := q0A (Γ := Γ) m.data.l.length hd
  have hRi : R[i] = [T.sl (Ag (List.replicate m.data.l.length 2)) none none] := by
   have : R[i]? = some [T.sl (Ag (List.replicate m.data.l.length 2)) none none] := by
    rw [hR]
    simp [A9, List.getElem?_replicate, h2, tV, J1]
   rw [List.getElem?_eq_getElem h2R] at this
   exact Option.some.inj this
  have hset : (R.take i ++ List.replicate (K - i) [T.sl [] (some 0) (some true)]).set i [T.sl (Ag (List.replicate m.data.l.length 2)) none none] = R.take (i + 1) ++ List.replicate (K - (i + 1)) [T.sl [] (some 0) (some true)] := by
   have ht : (R.take i).length = i := by rw [List.length_take]; omega
   rw [List.set_append_right _ _ (by omega), ht, Nat.sub_self, show K - i = (K - (i + 1)) + 1 by omega, List.replicate_succ, List.set_cons_zero, List.take_add_one, List.getElem?_eq_getElem h2R, hRi]
   simp
  have hel : (R.take i ++ List.replicate (K - i) [T.sl [] (some 0) (some true)]).length = K := by simp; omega
  generalize R.take i ++ List.replicate (K - i) [T.sl [] (some 0) (some true)] = E at *
  generalize R.take (i + 1) ++ List.replicate (K - (i + 1)) [T.sl [] (some 0) (some true)] = E' at *
  have w1 := Bj (i := i) (by omega)
  simp [blH, blT, Dq, tMm, Bo] at ih
  simp [blH, blT, Dq, tMm, Bo, h2, A1]
  refine A8 hu rfl ?_
  simp [h2, hel, hset, w1]
  rw [hKK]
  simpa using ih
theorem qGG {Q : AX → St → Prop} (c : B1) (hcm : c.mems.l.length ≤ 16) (hm : ∀ m ∈ c.mems.l, m.addr.l.length ≤ 8 ∧ m.data.l.length ≤ 32) (d : T) (RW : List (Sl (Sl Int))) (RR : List (Sl Int))
  (h0 : Q (.exit 0) ⟨[(2, .lp 2 0 0), (3, .lp 3 0 0), (18, .t (Af c.mems)), (19, .t (tI c.mems.l.length)), (20, .t (tI c.mems.l.length)), (21, .t (tB false))], [(2, .bx [Dq, Dq, Dq]), (3, .bx [.t d, .ls 46 0 RW.length none, .ls 55 0 RR.length none])] ++ blT RW RR⟩) :
  ∀ (k i : Nat) (ws : List (Sl (Sl Int))) (rs : List (Sl Int)), k + i = c.mems.l.length → ws.length = i → rs.length = i → ws ++ (c.mems.l.drop i).map Zl = RW → rs ++ (c.mems.l.drop i).map (fun m => J1 m.data.l.length) = RR →
  run Tryz.prog Γ Jn Q ⟨[(2, .lp 2 0 0), (3, .lp 3 0 0), (18, .t (Af c.mems)), (19, .t (tI c.mems.l.length)), (20, .t (tI i))], [(2, .bx [Dq, Dq, Dq]), (3, .bx [.t d, .ls 46 0 i none, .ls 55 0 i none])] ++ blT ws rs⟩
 | 0, i, ws, rs, h, hw, hr, hW, hR => by
  refine Q8 fun K hK => ?_
  have h2 : i = c.mems.l.length := by omega
  subst h2
  rw [List.drop_length] at hW hR
  simp only [List.map_nil, List.append_nil] at hW hR
  subst hW
  subst hR
  simp [blT, Dq, Af, hw, hr] at h0
  simp [blT, Dq, Af]
  simpa using h0
 | k + 1, i, ws, rs, h, hw, hr, hW, hR => by
  refine Q8 fun K hK => ?_
  have h2 : i < c.mems.l.length := by omega
  rw [List.drop_eq_getElem_cons h2, List.map_cons] at hW hR
  have e1 : (B8 tMm c.mems.l)[i]?.getD [] = tMm c.mems.l[i] := by simp [B8, h2]
  have e1' : ∀ h, (B8 tMm c.mems.l)[i]'h = tMm c.mems.l[i] := fun h => by simp [B8]
  obtain ⟨ma, md⟩ := hm _ (List.getElem_mem h2)
  generalize c.mems.l[i] = m at *
  have hK256 : 2 ^ m.addr.l.length ≤ 256 := Nat.pow_le_pow_right (by omega) ma
  have sh := qHH ma
  have g := fun Q h0 => qIu (Γ := Γ) (Q := Q) m (2 ^ m.addr.l.length) (by omega) (by omega) (Af c.mems) c.mems.l.length i d ws rs (A9 tV (List.replicate (2 ^ m.addr.l.length) (J1 m.data.l.length))) rfl h0 (2 ^ m.addr.l.length) 0 (by omega)
  rw [List.take_zero, Nat.sub_zero, List.nil_append] at g
  have hu := q0A (Γ := Γ) m.data.l.length (by omega)
  have hul : (List.replicate (2 ^ m.addr.l.length) (J1 m.data.l.length)).length = 2 ^ m.addr.l.length := by simp
  have vt : (A9 tV (List.replicate (2 ^ m.addr.l.length) (J1 m.data.l.length))).take (2 ^ m.addr.l.length) = A9 tV (List.replicate (2 ^ m.addr.l.length) (J1 m.data.l.length)) := List.take_of_length_le (by rw [A1, hul]; exact Nat.le_refl _)
  have ih := qGG c hcm hm d RW RR h0 k (i + 1) (ws ++ [Zl m]) (rs ++ [J1 m.data.l.length]) (by omega) (by simp [hw]) (by simp [hr]) (by rw [← hW]; simp) (by rw [← hR]; simp)
  have vsw : A9 tW ws ++ [[T.sl (A9 tV (List.replicate (2 ^ m.addr.l.length) (J1 m.data.l.length))) none none]] = A9 tW (ws ++ [Zl m]) := C6 (f := tW) (x := Zl m)
  have vsr : A9 tV rs ++ [[T.sl (Ag (List.replicate m.data.l.length 2)) none none]] = A9 tV (rs ++ [J1 m.data.l.length]) := C6 (f := tV) (x := J1 m.data.l.length)
  have vtw : (A9 tW ws).take i = A9 tW ws := by rw [← hw]; exact An
  have vtr : (A9 tV rs).take i = A9 tV rs := by rw [← hr]; exact An
  generalize A9 tV (List.replicate (2 ^ m.addr.l.length) (J1 m.data.l.length)) = rows at *
  generalize Ag (List.replicate m.data.l.length 2) = rd at *
  generalize Zl m = uw at *
  generalize J1 m.data.l.length = us at *
  have hnat : ((2 ^ m.addr.l.length : Nat) : Int).toNat = 2 ^ m.addr.l.length := Int.toNat_natCast _
  generalize 2 ^ m.addr.l.length = KK at *
  have w1 := Bj (i := i) (by omega)
  have hw1 : ∀ t : T, E5 1 [[t]] := fun t e he => by simp at he; subst he; rfl
  simp only [tMm, Bo] at e1 e1'
  simp [blH, blT, Dq, tMm, Bo, Af, hw, hr] at g ih
  simp [blT, Dq, Af, On, Aa, A1, h2, e1, e1', sh]
  refine ⟨by omega, ?_⟩
  refine g _ ?_
  simp [St.freeze, B0.closed, Cm, frz1, frz0, G9, del, Ae, vt, vtw, vsw, hw1, A5, A1, hw]
  refine ⟨by omega, ?_⟩
  refine A8 hu rfl ?_
  simp [vtr, vsr, hw1, A5, A1, hr, w1]
  refine ⟨by omega, ?_⟩
  rw [hK]
  simpa using ih
theorem qAS (hΓ : GOk Γ) (c : B1) (h : MOk c) (hs : (Av c).length ≤ 60000) : Ab Tryz.prog Γ 24 [.agg (tC c)] (.agg (C9 (J2 c))) := by
 refine Ax q3N rfl ?_
 have e1 := q6r hΓ c h.ok
 rw [h.lev] at e1
 have e2 := Xd (Γ := Γ) c h.ok
 have e3 := q0A (Γ := Γ) (Av c).length hs
 have hcm := h.cm
 have g := fun Q d h0 => qGG (Γ := Γ) (Q := Q) c h.cm (fun m hm => ⟨(h.mf m hm).1.2, (h.mf m hm).2.1.2⟩) d (c.mems.l.map Zl) (c.mems.l.map fun m => J1 m.data.l.length) h0 c.mems.l.length 0 [] [] (by omega) rfl rfl rfl rfl
 have lW : (c.mems.l.map Zl).length = c.mems.l.length := by simp
 have lR : (c.mems.l.map fun m => J1 m.data.l.length).length = c.mems.l.length := by simp
 have tw : (A9 tW (c.mems.l.map Zl)).take c.mems.l.length = A9 tW (c.mems.l.map Zl) := by rw [← lW]; exact An
 have tr : (A9 tV (c.mems.l.map fun m => J1 m.data.l.length)).take c.mems.l.length = A9 tV (c.mems.l.map fun m => J1 m.data.l.length) := by rw [← lR]; exact An
 have c2 := qG8 (Γ := Γ) (A9 tV (c.mems.l.map fun m => J1 m.data.l.length)) none none A5
 have c3 := qG9 (Γ := Γ) (A9 tW (c.mems.l.map Zl)) none none A5
 rw [A1, lR] at c2
 rw [A1, lW] at c3
 unfold J2
 generalize (c.mems.l.map Zl) = W at *
 generalize (c.mems.l.map fun m => J1 m.data.l.length) = R at *
 simp [tC, A7, Ac, Af, Bo] at e1 e2
 simp [blT, Dq, Af, Gk, lW, lR] at g
 simp [Y1, tC, A7, Ac, Af, Bo]
 refine A0 e1 rfl ?_
 simp
 refine A8 e2 rfl ?_
 simp [A1]
 refine A8 e3 rfl ?_
 simp [Aa]
 refine g _ _ ?_
 simp [St.freeze, B0.closed, Cm, frz1, frz0, G9, del, Ae, tw, tr]
 refine A8 c3 rfl ?_
 simp
 refine A8 c2 rfl ?_
 simp [Y2, Ae, Aj, C9, tV, tW, tWs, J1]
theorem q97 {α β γ : Type} {f : α → β → γ} {x : List α} {y : List β} {i : Nat} {d : γ} (dx : α) (dy : β) (h1 : i < x.length) (h2 : i < y.length) : (List.zipWith f x y).getD i d = f (x.getD i dx) (y.getD i dy) := by
 simp [List.getD_eq_getElem?_getD, List.getElem?_zipWith, h1, h2]
theorem q7P {α β γ : Type} {f : α → β → γ} {x : List α} {y : List β} {z : γ} (dx : α) (dy : β) (h : z ∈ List.zipWith f x y) : ∃ i, i < x.length ∧ i < y.length ∧ z = f (x.getD i dx) (y.getD i dy) := by
 obtain ⟨i, hi, rfl⟩ := List.getElem_of_mem h
 rw [List.length_zipWith] at hi
 exact ⟨i, by omega, by omega, by simp [List.getD_eq_getElem?_getD, show i < x.length by omega, show i < y.length by omega]⟩
theorem q98 {α β γ : Type} {f : α → β → γ} {x : List α} {y : List β} (h : x.length = y.length) : (List.zipWith f x y).length = x.length := by rw [List.length_zipWith, h, Nat.min_self]
theorem Et {α : Type} {l : List α} {i : Nat} {d : α} (h : i < l.length) : l.getD i d ∈ l := by
 rw [q0E h]; exact List.getElem_mem h
theorem q7Q {a b : List Int} (ha : ∀ v ∈ a, V3 v) (hb : ∀ v ∈ b, V3 v) : ∀ v ∈ Dm a b, V3 v := fun v hv => by
 obtain ⟨i, h1, h2, rfl⟩ := q7P 0 0 hv
 split
 ·exact hb _ (Et h2)
 ·exact ha _ (Et h1)
theorem q3U {a b : List Int} (h : a.length = b.length) : q5w N2 a (Dm a b) := by
 refine ⟨(q0G h).symm, fun i hi => ?_⟩
 unfold Dm
 rw [q97 (d := 0) 0 0 hi (by omega)]
 split
 ·rename_i e; exact .inr e
 ·exact .refl _
theorem q5w.blw {a b : List Int} (h : q5w N2 a b) : Qk a b := ⟨h.1, fun i => by
 by_cases hi : i < a.length
 ·exact h.2 i hi
 ·rw [List.getD_eq_getElem?_getD, List.getD_eq_getElem?_getD, List.getElem?_eq_none (by omega), List.getElem?_eq_none (by have := h.1; omega)]
  exact .refl _⟩
theorem Qk.rel {a b : List Int} (h : Qk a b) : q5w N2 a b := ⟨h.1, fun i _ => h.2 i⟩
theorem qEe {c : B1} (h : MOk c) {s u : Q9} (H : G6 c s) (K : G6 c u) : Shp s u := by
 have hsl := Gv c
 have hn := h.n
 have hcm := h.cm
 have hw := H.words h
 have hr := H.reads h
 have h1 := H.d
 have h2 := H.w
 have h3 := H.r
 have k1 := K.d
 have k2 := K.w
 have k3 := K.r
 refine ⟨by omega, by omega, by omega, by omega, by omega, by omega, fun i hi => ⟨?_, ?_, fun j hj => ⟨?_, ?_⟩⟩, fun i hi => ⟨?_, ?_⟩⟩
 ·have := (hw _ (Et (d := Sl.zz) hi)).1; omega
 ·rw [H.wl i (by omega), K.wl i (by omega)]
 ·have := (hw _ (Et (d := Sl.zz) hi)).2.2 _ (Et (d := Sl.z) hj); omega
 ·rw [H.wr i (by omega) _ (Et hj), K.wr i (by omega) _ (Et (by rw [K.wl i (by omega), ← H.wl i (by omega)]; exact hj))]
 ·have := hr _ (Et (d := Sl.z) hi); omega
 ·rw [H.rl i (by omega), K.rl i (by omega)]
theorem qEf {c : B1} (h : MOk c) {s u : Q9} (H : G6 c s) (K : G6 c u) : G6 c (q0F s u) ∧ q7k N2 s (q0F s u) := by
 have S := qEe h H K
 have Ww : ∀ i, i < s.words.l.length → (q0F s u).words.l.getD i Sl.zz = ⟨H6 (s.words.l.getD i Sl.zz).l (u.words.l.getD i Sl.zz).l, none, none⟩ := fun i hi => q97 _ _ hi (by rw [← S.w]; exact hi)
 have Rr : ∀ i, i < s.read.l.length → (q0F s u).read.l.getD i Sl.z = ⟨Dm (s.read.l.getD i Sl.z).l (u.read.l.getD i Sl.z).l, none, none⟩ := fun i hi => q97 _ _ hi (by rw [← S.r]; exact hi)
 have lW : (q0F s u).words.l.length = s.words.l.length := q98 S.w
 have lR : (q0F s u).read.l.length = s.read.l.length := q98 S.r
 have h2 := H.w
 have h3 := H.r
 refine ⟨⟨?_, by rw [lW, h2], by rw [lR, h3], fun i hi => ?_, fun i hi w hw => ?_, fun i hi => ?_, ?_, fun w hw r hr => ?_, fun r hr => ?_⟩, ⟨q3U S.d, lR.symm, fun i hi => ?_, lW.symm, fun i hi => ?_⟩⟩
 ·show (Dm s.dff.l u.dff.l).length = _
  rw [q0G S.d, H.d]
 ·rw [Ww i (by omega)]
  show (H6 _ _).length = _
  rw [H6, q98 (S.ww i (by omega)).2.1, H.wl i hi]
 ·rw [Ww i (by omega)] at hw
  obtain ⟨j, h1, h2, rfl⟩ := q7P Sl.z Sl.z hw
  show (Dm _ _).length = _
  rw [q0G ((S.ww i (by omega)).2.2 j h1).2, H.wr i hi _ (Et h1)]
 ·rw [Rr i (by omega)]
  show (Dm _ _).length = _
  rw [q0G (S.rr i (by omega)).2, H.rl i hi]
 ·exact q7Q H.vd K.vd
 ·obtain ⟨i, h1, h2, rfl⟩ := q7P Sl.zz Sl.zz hw
  obtain ⟨j, h3, h4, rfl⟩ := q7P Sl.z Sl.z hr
  exact q7Q (H.vw _ (Et h1) _ (Et h3)) (K.vw _ (Et h2) _ (Et h4))
 ·obtain ⟨i, h1, h2, rfl⟩ := q7P Sl.z Sl.z hr
  exact q7Q (H.vr _ (Et h1)) (K.vr _ (Et h2))
 ·rw [Rr i hi]
  exact q3U (S.rr i hi).2
 ·rw [Ww i hi]
  refine ⟨by show _ = (H6 _ _).length; rw [H6, q98 (S.ww i hi).2.1], fun j hj => ?_⟩
  have e : (H6 (s.words.l.getD i Sl.zz).l (u.words.l.getD i Sl.zz).l).getD j Sl.z = ⟨Dm ((s.words.l.getD i Sl.zz).l.getD j Sl.z).l ((u.words.l.getD i Sl.zz).l.getD j Sl.z).l, none, none⟩ := q97 _ _ hj (by rw [← (S.ww i hi).2.1]; exact hj)
  rw [e]
  exact q3U ((S.ww i hi).2.2 j hj).2
theorem qFX {α : Type} {n j : Nat} {x d : α} (h : j < n) : (List.replicate n x).getD j d = x := by rw [List.getD_eq_getElem?_getD, List.getElem?_replicate, if_pos h]; rfl
theorem qFY {n i : Nat} : (J1 n).l.getD i 0 = if i < n then 2 else 0 := by
 unfold J1
 rw [List.getD_eq_getElem?_getD, List.getElem?_replicate]
 split <;> rfl
theorem q99 {n : Nat} {l : List Int} (h : l.length = n) : q5w N2 (J1 n).l l := by
 refine ⟨by simp [J1, h], fun i hi => ?_⟩
 rw [qFY, if_pos (by simpa [J1] using hi)]
 exact .inr rfl
theorem qAT {c : B1} {s : Q9} (H : G6 c s) : q7k N2 (J2 c) s := by
 have gm : ∀ i, i < c.mems.l.length → (J2 c).words.l.getD i Sl.zz = Zl (c.mems.l.getD i Mm.d) := fun i hi => by
  show (c.mems.l.map Zl).getD i Sl.zz = _
  simp [List.getD_eq_getElem?_getD, hi]
 have gr : ∀ i, i < c.mems.l.length → (J2 c).read.l.getD i Sl.z = J1 (c.mems.l.getD i Mm.d).data.l.length := fun i hi => by
  show (c.mems.l.map fun m => J1 m.data.l.length).getD i Sl.z = _
  simp [List.getD_eq_getElem?_getD, hi]
 have lw : (J2 c).words.l.length = c.mems.l.length := by simp [J2]
 have lr : (J2 c).read.l.length = c.mems.l.length := by simp [J2]
 refine ⟨q99 H.d, by rw [lr, H.r], fun i hi => ?_, by rw [lw, H.w], fun i hi => ?_⟩
 ·rw [lr] at hi
  rw [gr i hi]
  exact q99 (H.rl i hi)
 ·rw [lw] at hi
  rw [gm i hi]
  refine ⟨by rw [H.wl i hi]; simp [Zl], fun j hj => ?_⟩
  have hj' : j < 2 ^ (c.mems.l.getD i Mm.d).addr.l.length := by simpa [Zl] using hj
  have e : (Zl (c.mems.l.getD i Mm.d)).l.getD j Sl.z = J1 (c.mems.l.getD i Mm.d).data.l.length := qFX hj'
  rw [e]
  exact q99 (H.wr i hi _ (Et (by rw [H.wl i hi]; exact hj')))
theorem qGH (s : Q9) (m : Nat) : s.rd.getD m [] = (s.read.l.getD m Sl.z).l := by
 unfold Q9.rd
 rw [List.getD_eq_getElem?_getD, List.getD_eq_getElem?_getD, List.getElem?_map]
 cases s.read.l[m]? <;> rfl
theorem qHL {s u : Q9} (R : q7k N2 s u) (m j : Nat) : N2 ((s.rd.getD m []).getD j 0) ((u.rd.getD m []).getD j 0) := by
 rw [qGH, qGH]
 by_cases hm : m < s.read.l.length
 ·exact (R.r m hm).blw.2 j
 ·have e : ∀ l : List (Sl Int), l.length ≤ m → l.getD m Sl.z = Sl.z := fun l h => by rw [List.getD_eq_getElem?_getD, List.getElem?_eq_none h]; rfl
  rw [e _ (by omega), e _ (by rw [← R.rl]; omega)]
  exact .refl _
theorem qBd {c : B1} (h : MOk c) {s u : Q9} (H : G6 c s) (K : G6 c u) (R : q7k N2 s u) {p m : List Int} (hp : p.length = (Bz c).length) (hm : m.length = (Bz c).length) (h1 : ∀ j, N2 (p.getD j 0) (m.getD j 0)) : Qk (Bh c s p) (Bh c u m) :=
 qBM h.lev hp H.d hm K.d h1 (R.d.blw.2) (qHL R)
theorem qHM {a b a' b' : Int} (h1 : N2 a a') (h2 : N2 b b') : q5w N2 [a, b] [a', b'] := ⟨rfl, fun i hi => by
 rcases i with _ | _ | i
 ·exact h1
 ·exact h2
 ·simp at hi; omega⟩
theorem qBe {c : B1} (h : MOk c) (M : M2 c) {s u : Q9} (H : G6 c s) (K : G6 c u) (R : q7k N2 s u) {N O : List Int} (hN : ∀ v ∈ N, V4 v) (hO : ∀ v ∈ O, V4 v) (B : Qk N O) : q7k N2 (Sv c s N) (Sv c u O) := by
 have hd : q5w N2 (Dh c N) (Dh c O) := (Qk.map (l := Av c) (f := q0Q c N) (g := q0Q c O) fun n _ => q7F B n).rel
 rcases M.m with hm | ⟨m, p, p1, p2, hm, ha, hdd⟩
 ·have e1 : ∀ (t : Q9) (x : List Int), (Sv c t x).words.l = [] := fun t x => by show I1 x c.mems.l t.words.l = []; rw [hm]; rfl
  have e2 : ∀ (t : Q9) (x : List Int), (Sv c t x).read.l = [] := fun t x => by show Jp x c.mems.l t.words.l = []; rw [hm]; rfl
  exact ⟨hd, by rw [e2, e2], fun i hi => by rw [e2] at hi; simp at hi, by rw [e1, e1], fun i hi => by rw [e1] at hi; simp at hi⟩
 ·obtain ⟨W, r0, r1, a, b, cc, d, rd, e, f, hW, hW2, hr0, hr1, hr, hrd, va, vb, vc, vd, ve, vf⟩ := st2 H hm (by rw [ha]; rfl) (by rw [hdd]; rfl)
  obtain ⟨W', r0', r1', a', b', cc', d', rd', e', f', hW', hW2', hr0', hr1', hr', hrd', va', vb', vc', vd', ve', vf'⟩ := st2 K hm (by rw [ha]; rfl) (by rw [hdd]; rfl)
  have rw0 := (R.w 0 (by rw [hW]; simp)).2
  rw [hW, hW'] at rw0
  simp only [List.getD_cons_zero] at rw0
  have x0 := rw0 0 (by rw [hW2]; simp)
  have x1 := rw0 1 (by rw [hW2]; simp)
  rw [hW2, hW2'] at x0 x1
  simp only [List.getD_cons_zero, List.getD_cons_succ] at x0 x1
  rw [hr0, hr0'] at x0
  rw [hr1, hr1'] at x1
  have ba := Fj (x0.2 0 (by simp))
  have bb := Fj (x0.2 1 (by simp))
  have bc := Fj (x1.2 0 (by simp))
  have bd := Fj (x1.2 1 (by simp))
  simp only [List.getD_cons_zero, List.getD_cons_succ] at ba bb bc bd
  have hWm : W.l.map (·.l) = [[a, b], [cc, d]] := by rw [hW2]; simp [hr0, hr1]
  have hWm' : W'.l.map (·.l) = [[a', b'], [cc', d']] := by rw [hW2']; simp [hr0', hr1']
  have hav : ∀ x, Bc x m.addr.l = [x.getD p.toNat 0] := fun x => by rw [ha]; rfl
  have hdv : ∀ x, Bc x m.data.l = [x.getD p1.toNat 0, x.getD p2.toNat 0] := fun x => by rw [hdd]; rfl
  have hv : N2 (N.getD p.toNat 0) (O.getD p.toNat 0) := B.2 _
  have hx := Fj (B.2 p1.toNat)
  have hy := Fj (B.2 p2.toNat)
  have hen : N2 (N.getD m.write.toNat 0) (O.getD m.write.toNat 0) := B.2 _
  have n1 : (Sv c s N).read.l = [⟨Uh [[a, b], [cc, d]] [N.getD p.toNat 0], none, none⟩] := by show Jp N c.mems.l s.words.l = _; rw [hm, hW]; simp only [Jp, List.zipWith_cons_cons, List.zipWith_nil_left, hWm, hav]
  have n1' : (Sv c u O).read.l = [⟨Uh [[a', b'], [cc', d']] [O.getD p.toNat 0], none, none⟩] := by show Jp O c.mems.l u.words.l = _; rw [hm, hW']; simp only [Jp, List.zipWith_cons_cons, List.zipWith_nil_left, hWm', hav]
  have n2 : (Sv c s N).words.l = [Gg (E7 [N.getD p.toNat 0] [N.getD p1.toNat 0, N.getD p2.toNat 0] (N.getD m.write.toNat 0) 0 [[a, b], [cc, d]])] := by show I1 N c.mems.l s.words.l = _; rw [hm, hW]; simp only [I1, List.zipWith_cons_cons, List.zipWith_nil_left, hWm, hav, hdv]
  have n2' : (Sv c u O).words.l = [Gg (E7 [O.getD p.toNat 0] [O.getD p1.toNat 0, O.getD p2.toNat 0] (O.getD m.write.toNat 0) 0 [[a', b'], [cc', d']])] := by show I1 O c.mems.l u.words.l = _; rw [hm, hW']; simp only [I1, List.zipWith_cons_cons, List.zipWith_nil_left, hWm', hav, hdv]
  rw [qFx (N1 hN _).1] at n1
  rw [qFx (N1 hO _).1] at n1'
  rw [qEC (N1 hN _).1] at n2
  rw [qEC (N1 hO _).1] at n2'
  refine ⟨hd, by rw [n1, n1']; rfl, fun i hi => ?_, by rw [n2, n2']; rfl, fun i hi => ?_⟩
  ·rw [n1] at hi
   have : i = 0 := by simpa using hi
   subst this
   rw [n1, n1']
   exact qHM (q7H hv ba bc) (q7H hv bb bd)
  ·rw [n2] at hi
   have : i = 0 := by simpa using hi
   subst this
   rw [n2, n2']
   refine ⟨rfl, fun j hj => ?_⟩
   rcases j with _ | _ | j
   ·exact qHM (q26 (.inl rfl) hv hen ba hx) (q26 (.inl rfl) hv hen bb hy)
   ·exact qHM (q26 (.inr rfl) hv hen bc hx) (q26 (.inr rfl) hv hen bd hy)
   ·simp [Gg] at hj; omega
theorem G6.small {c : B1} {s : Q9} (h : MOk c) (H : G6 c s) : qFV s := by
 have hsl := Gv c
 have hn := h.n
 have hcm := h.cm
 have hw := H.words h
 have hr := H.reads h
 have h1 := H.d
 have h2 := H.w
 have h3 := H.r
 exact ⟨by omega, ⟨by omega, fun x hx => by have := hr x hx; omega⟩, ⟨by omega, fun x hx => ⟨by have := (hw x hx).1; omega, fun y hy => by have := (hw x hx).2.2 y hy; omega⟩⟩⟩
theorem q7k.refl (s : Q9) : q7k (· = ·) s s := ⟨⟨rfl, fun _ _ => rfl⟩, rfl, fun _ _ => ⟨rfl, fun _ _ => rfl⟩, rfl, fun _ _ => ⟨rfl, fun _ _ => ⟨rfl, fun _ _ => rfl⟩⟩⟩
end Go.Lg
namespace Go.Lg
open Go
section
variable {P : Program} {Γ : Tables} {Q : AX → St → Prop} {s : St}
/- probecard/probecardlaw09.MemoriesMonotone (function 4) -/
abbrev L1 : IC := .gh (.seq (.seq (.reg [om 39 13, om 40 9, od 41 (le 0 40), od 42 (.bin .lss (tm 39) (tm 41))] [kp [7, 8, 9, 11, 12, 13, 42] [7, 8, 12, 122019, 222019]]) (.cond (tm 42) .skip (.exit 0))) (.seq (.block 1 (.seq (.reg [om 45 9, om 46
 13, od 47 (ia 1 45 46), od 48 (ld 1 47), od 49 (.bin .neq (tm 48) (ku 2))] [kp [7, 8, 9, 11, 12, 13, 49] [7, 8, 12, 122019, 222019]]) (.cond (tm 49) (.reg [om 50 11, om 51 13, om 52 9, om 53 13, od 54 (ia 1 52 53), od 55 (ld 1 54),
 od 56 (ia 1 50 51), on (.store 1 (tm 56) (tm 55))] [kp [7, 8, 9, 11, 12, 13] [7, 8, 12, 122019, 222019]]) .skip))) (.reg [om 43 13, od 44 (.bin .add (tm 43) (ki 1)), om 13 44] [kp [7, 8, 9, 11, 12, 13] [7, 8, 12, 122019,
 222019]]))) [kp [7, 8, 9, 11, 12, 13] [7, 8, 12, 122019, 222019]]
def E3 : IC := .loop L1
abbrev L2 : IC := (.seq (.reg [od 3 (.box true (tm 0)), od 4 (.box true (tm 1)), od 5 (.box true (tm 2)), od 6 (.mv kF)] [kp [3, 4, 5] []]) (.seq (.reg [od 22 (lG 12 3), od 23 (.call 11 [(tm 22)]), od 7 (.alloc false [(.slice none 0 0), (.slice none
 0 0), (.slice none 0 0), (.slice none 0 0)]), on (.store 4 (tm 7) (tm 23))] [kp [4, 5, 7] [7]]) (.seq (.reg [od 25 (lG 3 4), od 26 (lG 4 7), od 27 (.ncall 12 [(tm 25), (tm 26)] 100000), om 24 27, od 28 (ex 24 0), od 29 (ex 24 1),
 od 8 (.alloc false [(.slice none 0 0), (.slice none 0 0), (.slice none 0 0)]), on (.store 3 (tm 8) (tm 28)), om 9 29] [kp [5, 7, 8, 9] [7, 8, 122019]]) (.seq (.reg [od 31 (lG 3 5), od 32 (lG 4 7), od 33 (.ncall 12 [(tm 31), (tm
 32)] 200000), om 30 33, od 34 (ex 30 0), od 35 (ex 30 1), od 10 (.alloc false [(.slice none 0 0), (.slice none 0 0), (.slice none 0 0)]), on (.store 3 (tm 10) (tm 34)), om 11 35] [kp [7, 8, 9, 10, 11] [7, 8, 10, 122019, 222019]])
 (.seq (.reg [od 36 (lG 3 8), od 37 (lG 3 10), od 38 (.call 22 [(tm 36), (tm 37)]), od 12 (.alloc false [(.slice none 0 0), (.slice none 0 0), (.slice none 0 0)]), on (.store 3 (tm 12) (tm 38))] [kp [7, 8, 9, 11, 12] [7, 8, 12,
 122019, 222019]]) (.seq (.seq (.reg [od 13 (.mv (ki 0))] [kp [7, 8, 9, 11, 12, 13] [7, 8, 12, 122019, 222019]]) (.gh (.block 0 E3) [.frz 122019, .frz 222019])) (.seq (.reg [od 58 (lG 4 7), od 59 (lG 3 8), om
 60 9, od 61 (.call 13 [(tm 58), (tm 59), (tm 60)]), om 57 61, od 62 (ex 57 0), od 63 (ex 57 1), od 64 (ex 57 2), od 65 (ex 57 3), od 14 (.alloc false [(.slice none 0 0), (.slice none 0 0), (.slice none 0 0)]), od 15 (.alloc false
 [(.slice none 0 0), (.slice none 0 0)]), on (.store 3 (tm 14) (tm 62)), on (.store 2 (tm 15) (tm 63)), om 16 64, om 17 65] [kp [7, 8, 11, 12, 14, 15, 16, 17] [7, 8, 12, 14, 15, 122019, 222019]]) (.seq (.reg [od 67 (lG 4 7), od 68
 (lG 3 12), om 69 11, od 70 (.call 13 [(tm 67), (tm 68), (tm 69)]), om 66 70, od 71 (ex 66 0), od 72 (ex 66 1), od 73 (ex 66 2), od 74 (ex 66 3), od 18 (.alloc false [(.slice none 0 0), (.slice none 0 0), (.slice none 0 0)]), od 19
 (.alloc false [(.slice none 0 0), (.slice none 0 0)]), on (.store 3 (tm 18) (tm 71)), on (.store 2 (tm 19) (tm 72)), om 20 73, om 21 74] [kp [7, 8, 12, 14, 15, 16, 17, 18, 19, 20, 21] [7, 8, 12, 14, 15, 18, 19, 122019]]) (.seq
 (.seq (.reg [om 75 17, od 76 (.bin .neq (tm 75) (ki 0)), om 77 76, oF 78 (.mv (tm 21)) 77, oF 79 (.bin .neq (tm 78) (ki 0)) 77, od 80 (.pick (tm 77) kT (tm 79)), om 81 80, oF 82 (.mv (tm 16)) 81, oF 83 (le 0 82) 81, oF 84 (fa 0 7)
 81, oF 85 (ld 1 84) 81, oF 86 (le 0 85) 81, oF 87 (.bin .neq (tm 83) (tm 86)) 81, od 88 (.pick (tm 81) kT (tm 87)), om 89 88, oF 90 (lG 3 8) 89, oF 91 (lG 3 12) 89, oF 92 (.call 23 [(tm 90), (tm 91)]) 89, oF 93 (.un .not (tm 92))
 89, od 94 (.pick (tm 89) kT (tm 93)), om 95 94, oF 96 (lG 4 7) 95, oF 97 (.call 24 [(tm 96)]) 95, oF 98 (lG 3 8) 95, oF 99 (.call 23 [(tm 97), (tm 98)]) 95, oF 100 (.un .not (tm 99)) 95, od 101 (.pick (tm 95) kT (tm 100))] [kp [14,
 15, 16, 18, 19, 20, 101] [14, 15, 18, 19]]) (.cond (tm 101) (.seq (.reg [od 6 (.mv kF)] [kp [6] []]) .ret) .skip)) (.seq (.reg [od 102 (lG 3 14), od 103 (lG 3 18), od 104 (.call 23 [(tm 102), (tm 103)]), om 105 104, oT 106 (fa 0
 15) 105, oT 107 (ld 1 106) 105, oT 108 (fa 0 19) 105, oT 109 (ld 1 108) 105, oT 110 (.call 25 [(tm 107), (tm 109)]) 105, oT 111 (fa 1 15) 105, oT 112 (ld 1 111) 105, oT 113 (fa 1 19) 105, oT 114 (ld 1 113) 105, oT 115 (.call 25
 [(tm 112), (tm 114)]) 105, oT 116 (.bin .add (tm 110) (tm 115)) 105, oT 117 (.mv (tm 16)) 105, oT 118 (.mv (tm 20)) 105, oT 119 (.call 25 [(tm 117), (tm 118)]) 105, oT 120 (.bin .add (tm 116) (tm 119)) 105, oT 121 (.bin .eql (tm
 120) (ki 0)) 105, od 122 (.pick (tm 105) (tm 121) kF), om 123 122, oT 124 (.call 21 []) 123, od 125 (.pick (tm 123) (tm 124) kF), om 6 125] [kp [6] []]) .ret))))))))))
theorem I5 (h : ∀ K : St → Prop, K = run P Γ E3 Q → run P Γ L1 (Ao K Q) s) : run P Γ E3 Q s := Ad h
def L6 : List RV := [.tmp 6]
end
end Go.Lg
namespace Go.Lg
open Go Go.Proofs
theorem Wt : Aq Tryz.prog 4 L2 126 3 L6 = true := by kernel_rfl
end Go.Lg
namespace Go.Lg
open Go Go.Proofs
variable {Γ : Tables}
theorem qFZ (q : PD) (hq : q8q q) (c : B1) (hc : COk c) : Fe Tryz.prog Γ 44 [] [.t (.agg (tPD q)), .t (.agg (tC c))] (.ag [.ls 9019 0 (Bz c).length none, .ls 14019 0 (Av c).length none]) [(4, .bx [.ls 9019 0 (Bz c).length none, .ls 14019 0 (Av c).length none]), (9019, .sl 64 1 (Ag (q5U q c).inn.l)), (14019, .sl 64 1 (Ag (q5U q c).st.l))] := by
 refine Hg q76 rfl ?_
 have h1 := qCD (Γ := Γ) q.i (Bz c).length (Nat.le_trans (q05 c) hc.nodes) 4 (by omega)
 have h2 := qCD (Γ := Γ) q.s (Av c).length (Nat.le_trans (Gv c) hc.nodes) 3 (by omega)
 simp [q2a, tC, A7, Ac, Af, Bo, tPD, tV]
 refine q4D (q79 c hc 0) rfl ?_
 simp
 refine ⟨_, _, h1, ?_⟩
 simp
 refine q4D (q79 c hc 14) rfl ?_
 simp
 refine ⟨_, _, h2, ?_⟩
 simp [q2b]
 exact ⟨rfl, rfl⟩
theorem q9A {f : FuncId} {as' : List AV} {ts : List T} {res : T} {K : T → Prop} (h : Ab Tryz.prog Γ f ts res) (ht : Aj (as'.map toT) = some ts) (hk : K res) : q8h Tryz.prog Γ f as' K ⟨⟩ := ⟨ts, res, ht, .inl h, hk⟩
theorem qEg (v : Sl Int) (q : PD) (hq : q8q q) (c : B1) (h : MOk c) :
  Fe Tryz.prog Γ 12 [] [.t (.agg (q96 v q)), .ag ((tC c).map .t)] (.tu [.t (.agg (C9 (q51 v.l c))), .ls 22019 0 (Bz c).length none]) [(4, .bx ((C9 (q51 v.l c)).map .t)), (22019, .sl 64 1 (Ag (q5U q c).inn.l)), (27019, .sl 64 1 (Ag (q5U q c).st.l))] := by
 refine Hg q2L rfl ?_
 have e1 := qD8 (Γ := Γ) v c h.ok h.n h.cm (fun m hm => ⟨(h.mf m hm).1.2, (h.mf m hm).2.1.2⟩)
 have e2 := qFZ (Γ := Γ) q hq c h.ok
 generalize q51 v.l c = s at *
 generalize q5U q c = p at *
 simp [tC, A7, Ac, Af, Bo, tPD, tV, C9, tW, tWs] at e1 e2
 simp [Wn, q96, tC, A7, Ac, Af, Bo, tPD, tV, C9, tW, tWs]
 refine q9A e1 rfl ?_
 simp
 refine ⟨_, _, e2, ?_⟩
 simp [Wp]
theorem qHN {Q : AX → St → Prop} (r7 r8 r12 : B0) (a : Nat) (hab : a ≤ 1000000) (pi : List Int) (hp : pi.length = a) (R : List Int)
  (h0 : Q (.exit 0) ⟨[(7, .lp 7 0 0), (8, .lp 8 0 0), (9, .ls 122019 0 a none), (11, .ls 222019 0 a none), (12, .lp 12 0 0), (13, .t (tI a)), (42, .t (tB false))], [(7, r7), (8, r8), (12, r12), (122019, .sl 64 1 (Ag pi)), (222019, .sl 64 1 (Ag R))]⟩) :
  ∀ (k i : Nat) (m : List Int), k + i = a → m.length = a → q4E k i pi m = R →
  run Tryz.prog Γ E3 Q ⟨[(7, .lp 7 0 0), (8, .lp 8 0 0), (9, .ls 122019 0 a none), (11, .ls 222019 0 a none), (12, .lp 12 0 0), (13, .t (tI i))], [(7, r7), (8, r8), (12, r12), (122019, .sl 64 1 (Ag pi)), (222019, .sl 64 1 (Ag m))]⟩
 | 0, i, m, h, hm, hR => by
  refine I5 fun K hK => ?_
  have h2 : ¬ i < a := by omega
  have h3 : i = a := by omega
  subst h3
  simp only [q4E] at hR
  subst hR
  simp
  exact h0
 | k + 1, i, m, h, hm, hR => by
  refine I5 fun K hK => ?_
  have h2 : i < a := by omega
  have e := ge1 (f := tK) (show i < pi.length by omega)
  have hs : ∀ (j : Nat) (v : Int), (Ag m).set j [tK v] = Ag (m.set j v) := fun j v => Gj
  simp only [q4E] at hR
  generalize pi.getD i 0 = v at *
  by_cases hv : v = 2
  ·rw [if_pos hv] at hR
   have ih := qHN r7 r8 r12 a hab pi hp R h0 k (i + 1) m (by omega) hm hR
   subst hv
   simp (disch := omega) [h2, A1, A5, e, hp, hm, A4]
   rw [hK]
   simpa using ih
  ·rw [if_neg hv] at hR
   have ih := qHN r7 r8 r12 a hab pi hp R h0 k (i + 1) _ (by omega) (by simp [hm]) hR
   simp (disch := omega) [h2, A1, A5, e, hp, hm, hv, hs, A4]
   rw [hK]
   simpa using ih
theorem qEh {c : B1} (h : MOk c) : G6 c (J2 c) := by
 have gm : ∀ i, i < c.mems.l.length → (J2 c).words.l.getD i Sl.zz = Zl (c.mems.l.getD i Mm.d) := fun i hi => by
  show (c.mems.l.map Zl).getD i Sl.zz = _
  simp [List.getD_eq_getElem?_getD, hi]
 have gr : ∀ i, i < c.mems.l.length → (J2 c).read.l.getD i Sl.z = J1 (c.mems.l.getD i Mm.d).data.l.length := fun i hi => by
  show (c.mems.l.map fun m => J1 m.data.l.length).getD i Sl.z = _
  simp [List.getD_eq_getElem?_getD, hi]
 have uv : ∀ (n : Nat), ∀ v ∈ (J1 n).l, 0 ≤ v ∧ v ≤ 2 := fun n v hv => by have := List.eq_of_mem_replicate hv; omega
 refine ⟨by simp [J2, J1], by simp [J2], by simp [J2], fun i hi => ?_, fun i hi w hw => ?_, fun i hi => ?_, uv _, fun w hw r hr => ?_, fun r hr => ?_⟩
 ·rw [gm i hi]; simp [Zl]
 ·rw [gm i hi] at hw
  rw [List.eq_of_mem_replicate hw]; simp [J1]
 ·rw [gr i hi]; simp [J1]
 ·obtain ⟨m, _, rfl⟩ := List.mem_map.1 hw
  rw [List.eq_of_mem_replicate hr]; exact uv _
 ·obtain ⟨m, _, rfl⟩ := List.mem_map.1 hr
  exact uv _
set_option maxHeartbeats 4000000 in
theorem qCR (hΓ : GOk Γ) (x : CD) (hx : q4o x) (v : Sl Int) (hv : ∀ u ∈ v.l, Byt u) (q : PD) (hq : q8q q) (v' : Sl Int) (hv' : ∀ u ∈ v'.l, Byt u) (q' : PD) (hq' : q8q q') : Ab Tryz.prog Γ 4 [.agg (M6 x), .agg (q96 v q), .agg (q96 v' q')] (tB true) := by
 refine Ax Wt rfl ?_
 have h := qHK hx
 have M := qGE hx
 have hof := qFH (Γ := Γ) x hx
 generalize V6 x = c at *
 have hn2 := M.n2
 have ho4 := h.ok.outs
 have hst := qEg (Γ := Γ) v q hq c h
 have hst' := qEg (Γ := Γ) v' q' hq' c h
 have H : G6 c (q51 v.l c) := qCJ (fun u hu => (hv u hu).1) c
 have K : G6 c (q51 v'.l c) := qCJ (fun u hu => (hv' u hu).1) c
 have hP := qAA hq c
 have hB := qAA hq' c
 have hil := q05 c
 have hsl := Gv c
 generalize q51 v.l c = s at *
 generalize q51 v'.l c = t at *
 generalize q5U q c = p at *
 generalize q5U q' c = b at *
 obtain ⟨U, RU⟩ := qEf h H K
 have hab := qAR (Γ := Γ) s t (qEe h H K)
 obtain ⟨m1, m2, m3⟩ := qHG hP.i hB.i hP.vi hB.vi
 have g := fun Q r7 r8 r12 h0 => qHN (Γ := Γ) (Q := Q) r7 r8 r12 (Bz c).length (by omega) p.inn.l hP.i _ h0 (Bz c).length 0 b.inn.l (by omega) hB.i rfl
 generalize q4E (Bz c).length 0 p.inn.l b.inn.l = mi at *
 generalize q0F s t = u at *
 have c1 := qAQ hΓ h (by omega) H ⟨p.inn.l, none, none⟩ hP.i hP.vi
 have c2 := qAQ hΓ h (by omega) U ⟨mi, none, none⟩ m1 m2
 have hN4 := q92 H hP.vi
 have hO4 := q92 U m2
 have BN := qBd h H U RU hP.i m1 m3
 have hNl : (Bh c s p.inn.l).length = c.nodes.l.length := q4x
 have hOl : (Bh c u mi).length = c.nodes.l.length := q4x
 have RN := qBe h M H U RU hN4 hO4 BN
 have HN := qEY h H hN4
 have bl := qAS hΓ c h (by omega)
 have b1 := q1h (Γ := Γ) s u (H.small h) RU
 have RB := qAT H
 have SB : qFV (J2 c) := (qEh h).small h
 have b2 := q1h (Γ := Γ) (J2 c) s SB RB
 have b3 := q1h (Γ := Γ) _ _ (HN.small h) RN
 have ho : Qk (q06 c (Bh c s p.inn.l)) (q06 c (Bh c u mi)) := Qk.map fun n _ => q5X BN n
 have hxx : Qk (Dh c (Bh c s p.inn.l)) (Dh c (Bh c u mi)) := Qk.map fun n _ => q7F BN n
 have hol : (q06 c (Bh c s p.inn.l)).length = c.outs.l.length := by simp [q06]
 have hxl : (Dh c (Bh c s p.inn.l)).length = (Av c).length := by simp [Dh]
 simp only [Sv] at c1 c2 b3
 have tk1 : (Ag p.inn.l).take (Bz c).length = Ag p.inn.l := by rw [← hP.i]; exact D1
 have tk3 : (Ag mi).take (Bz c).length = Ag mi := by rw [← m1]; exact D1
 generalize I1 (Bh c s p.inn.l) c.mems.l s.words.l = NW at *
 generalize Jp (Bh c s p.inn.l) c.mems.l s.words.l = NR at *
 generalize I1 (Bh c u mi) c.mems.l u.words.l = OW at *
 generalize Jp (Bh c u mi) c.mems.l u.words.l = OR at *
 generalize Bh c s p.inn.l = N at *
 generalize Bh c u mi = O at *
 have q1 := fun c1 n1 c2 n2 => q7E (Γ := Γ) ⟨N, c1, n1⟩ ⟨O, c2, n2⟩ (by show N.length ≤ _; omega) BN.1 fun j _ => (BN.2 j).below
 generalize q06 c N = oN at *
 generalize q06 c O = oO at *
 generalize Dh c N = xN at *
 generalize Dh c O = xO at *
 have q2 := fun c1 n1 c2 n2 => q7E (Γ := Γ) ⟨oN, c1, n1⟩ ⟨oO, c2, n2⟩ (by show oN.length ≤ _; omega) ho.1 fun j _ => (ho.2 j).below
 have q3 := fun c1 n1 c2 n2 => q7E (Γ := Γ) ⟨xN, c1, n1⟩ ⟨xO, c2, n2⟩ (by show xN.length ≤ _; omega) hxx.1 fun j _ => (hxx.2 j).below
 simp only [tV] at q1 q2 q3
 generalize J2 c = bs at *
 simp [tC, A7, Ac, Af, Bo, tV, tVs, C9, tW, tWs, q96, tPD] at hst hst' hab c1 c2 bl b1 b2 b3
 simp [L2, M6, q96, tPD, tV]
 refine A8 hof rfl ?_
 simp [tC, A7, Ac, Af, Bo]
 refine ⟨_, _, hst, ?_⟩
 simp
 refine ⟨_, _, hst', ?_⟩
 simp
 refine A8 hab rfl ?_
 simp
 refine g _ _ _ _ ?_
 simp [St.freeze, B0.closed, Cm, frz1, frz0, G9, del, Ae, tk1, tk3]
 refine A8 c1 rfl ?_
 simp
 refine A8 c2 rfl ?_
 simp [A1, Aa, hNl, hOl]
 refine A8 b1 rfl ?_
 simp
 refine A8 bl rfl ?_
 simp
 refine A8 b2 rfl ?_
 simp
 refine A8 b3 rfl ?_
 simp
 refine A0 (q2 _ _ _ _) rfl ?_
 simp
 refine A0 (q3 _ _ _ _) rfl ?_
 simp
 have w00 : IntKind.i64.wrap 0 = 0 := by decide
 refine A0 (q1 _ _ _ _) rfl ?_
 simp [w00]
 refine A8 q95 rfl ?_
 simp [L6]
end Go.Lg
