/- netlists.Copy. Conditions: none. -/
import Derived.Test.YtgnomdkcimglbaaGreatDoorPkE
import Derived.Test.YtgnomdkcimglbaaGreatDoorPkD
import Derived.Test.YtgnomdkcimglbaaGreatDoorPkC
import Derived.Test.YtgnomdkcimglbaaGreatDoorProg
import Derived.KernelRfl
set_option linter.unusedSimpArgs false
set_option linter.unusedVariables false
set_option maxRecDepth 100000
namespace Go.Lg
open Go Go.Proofs
variable {Γ : Tables}
theorem calltK_pure {f : FuncId} {as' : List AV} {ts : List T} {res : T} {K : T → Prop} (h : PureCalls Tryz.prog Γ f ts res) (ht : optAll (as'.map toT) = some ts) (hk : K res) : calltK Tryz.prog Γ f as' K ⟨⟩ := ⟨ts, res, ht, .inl h, hk⟩
theorem encN_set {α : Type} {f : α → List T} {l : List α} {n : Nat} {x : α} : (encN f l).set n (f x) = encN f (l.set n x) := by simp [encN, List.map_set]
theorem gN {l : List Nd} {i : Nat} (h : i < l.length) : (encN tNd l)[i]?.getD [] = tNd (l.getD i Nd.d) := by
  rw [encN_get Nd.d h]; rfl
def cpNd (x : Nd) : Nd := ⟨x.k, cpS x.inn, x.mem, x.bit⟩
def cpL : Nat → Nat → List Nd → List Nd
  | 0, _, L => L
  | k + 1, i, L => cpL k (i + 1) (L.set i (cpNd (L.getD i Nd.d)))
theorem cpL_eq : ∀ (k i : Nat) (L : List Nd), i + k = L.length → cpL k i L = L.take i ++ (L.drop i).map cpNd
  | 0, i, L, h => by rw [List.drop_of_length_le (by omega), List.take_of_length_le (by omega)]; simp [cpL]
  | k + 1, i, L, h => by
    have hi : i < L.length := by omega
    simp only [cpL]
    rw [cpL_eq k (i + 1) _ (by simp; omega), List.drop_eq_getElem_cons hi]
    have e : L.getD i Nd.d = L[i] := by simp [List.getD_eq_getElem?_getD, hi]
    rw [e]
    have h1 : (L.set i (cpNd L[i])).take (i + 1) = L.take i ++ [cpNd L[i]] := by
      rw [List.take_add_one, List.take_set_of_le (Nat.le_refl i)]
      simp [hi]
    rw [h1, List.drop_set_of_lt (by omega), List.map_cons, List.append_assoc]
    rfl
def cpH (n : Nat) (nm mm oo : T) (L : List Nd) : List (Nat × Reg) :=
  [(2, .bx [.t (.sl [] (some 0) (some true)), .t (.sl [] (some 0) (some true)), .t (.sl [] (some 0) (some true)), .t (.sl [] (some 0) (some true))]), (3, .bx [.ls 14007 0 n (some n), .t nm, .t mm, .t oo]), (14007, .sl 104 4 (encN tNd L))]
theorem copy_loop {Q : AX → St → Prop} (n : Nat) (hn : n ≤ 1000000) (nm mm oo : T) (R : List Nd)
    (h0 : Q (.exit 0) ⟨[(2, .lp 2 0 0), (3, .lp 3 0 0), (22, .ls 14007 0 n (some n)), (23, .t (tI n)), (24, .t (tI n)), (25, .t (tB false))], cpH n nm mm oo R⟩) :
    ∀ (k i : Nat) (L : List Nd), k + i = n → L.length = n → (∀ j, i ≤ j → j < n → SlOk (L.getD j Nd.d).inn) → cpL k i L = R →
    run Tryz.prog Γ netlists_Copy_l1 Q ⟨[(2, .lp 2 0 0), (3, .lp 3 0 0), (22, .ls 14007 0 n (some n)), (23, .t (tI n)), (24, .t (tI i))], cpH n nm mm oo L⟩
  | 0, i, L, h, hl, hs, hR => by
    refine netlists_Copy_l1_run fun K hK => ?_
    have h3 : i = n := by omega
    subst h3
    simp only [cpL] at hR
    subst hR
    simp [cpH]
    simpa [cpH] using h0
  | k + 1, i, L, h, hl, hs, hR => by
    refine netlists_Copy_l1_run fun K hK => ?_
    have h2 : i < n := by omega
    have hi : i < L.length := by omega
    simp only [cpL] at hR
    have e := gN hi
    have hx : SlOk (L.getD i Nd.d).inn := hs i (Nat.le_refl i) h2
    have e1 := copied_int_spec (Γ := Γ) _ hx
    have ih := copy_loop n hn nm mm oo R h0 k (i + 1) (L.set i (cpNd (L.getD i Nd.d))) (by omega) (by simp [hl]) (fun j hj hjn => by
      have : (L.set i (cpNd (L.getD i Nd.d))).getD j Nd.d = L.getD j Nd.d := by
        rw [List.getD_eq_getElem?_getD, List.getElem?_set, if_neg (by omega), ← List.getD_eq_getElem?_getD]
      rw [this]
      exact hs j (by omega) hjn) hR
    generalize L.getD i Nd.d = x at *
    have e' : ∀ h : i < (encN tNd L).length, (encN tNd L)[i] = tNd x := fun h => by rw [← e]; simp [hi, encN_len]
    have hset : (encN tNd L).set i [tK x.k, tSl (cpS x.inn), tI x.mem, tI x.bit] = encN tNd (L.set i (cpNd x)) := encN_set (f := tNd) (x := cpNd x)
    simp only [tSl] at e1 hset
    simp (disch := omega) [cpH, h2, encN_len, tNd_wid, e, e', hl, wrap_i64, tNd, tSl]
    refine calltK_pure e1 rfl ?_
    simp (disch := omega) [cpH, h2, hi, encN_len, tNd_wid, e, e', hl, wrap_i64, tNd, tSl, hset]
    rw [hK]
    simpa [cpH] using ih
def copyC (c : Cir) : Cir := ⟨⟨c.nodes.l.map cpNd, some c.nodes.l.length, none⟩, ⟨c.names.l, some c.names.l.length, none⟩, ⟨[], some 0, some true⟩, cpS c.outs⟩
structure CpOk (c : Cir) : Prop where
  n0 : c.nodes.l ≠ []
  n1 : c.nodes.l.length ≤ 1000000
  nn : c.nodes.nl ≠ some true
  m0 : c.names.l ≠ []
  m1 : c.names.l.length ≤ 1000000
  mn : c.names.nl ≠ some true
  mems : c.mems = ⟨[], some 0, some true⟩
  inn : ∀ x ∈ c.nodes.l, SlOk x.inn
  outs : SlOk c.outs
theorem copy_spec (c : Cir) (hc : CpOk c) : PureCalls Tryz.prog Γ 83 [.agg (tC c)] (.agg (tC (copyC c))) := by
  refine run_pureQ netlists_Copy_chk rfl ?_
  have e1 := copied_nodes_h (Γ := Γ) c.nodes.l c.nodes.cap c.nodes.nl hc.nn hc.n0 hc.n1
  have e2 := copied_names_spec (Γ := Γ) c.names.l c.names.cap c.names.nl hc.mn hc.m0 hc.m1
  have e3 := copied_mems_nil (Γ := Γ)
  have e4 := copied_int_spec (Γ := Γ) c.outs hc.outs
  have hcp : cpL c.nodes.l.length 0 c.nodes.l = c.nodes.l.map cpNd := by rw [cpL_eq _ _ _ (by omega)]; simp
  have hn1 := hc.n1
  have g1 := fun Q nm mm oo h0 => copy_loop (Γ := Γ) (Q := Q) c.nodes.l.length hc.n1 nm mm oo _ h0 c.nodes.l.length 0 c.nodes.l (by omega) rfl (fun j _ hj => hc.inn _ (by rw [List.getD_eq_getElem?_getD, List.getElem?_eq_getElem hj]; exact List.getElem_mem hj)) hcp
  have hml : (encN tNd (c.nodes.l.map cpNd)).take c.nodes.l.length = encN tNd (c.nodes.l.map cpNd) := List.take_of_length_le (by simp [encN])
  simp [netlists_Copy_ic, tC, tNodes, tNames, tMems, tSl, hc.mems]
  refine ⟨_, _, e1, ?_⟩
  simp
  refine calltK_pure e2 rfl ?_
  simp
  refine calltK_pure e3 rfl ?_
  simp
  simp [tSl] at e4
  refine calltK_pure e4 rfl ?_
  simp
  simp [cpH] at g1
  refine g1 _ _ _ _ ?_
  simp [St.freeze, Reg.closed, frzRef, frz1, frz0, frzReg, del, reify, hml]
  refine netlists_Copy_l3_run fun K hK => ?_
  simp [netlists_Copy_rv, copyC, encN_len, enc1_nil, show encN tMm [] = [] from rfl]
end Go.Lg
namespace Go.Lg
open Go Go.Proofs
variable {Γ : Tables}
theorem add_tt (seen : List (List UInt8)) (nodes : List Nd) (names : List (List UInt8)) (ol : List Int) (oc : Option Nat) (on : Option Bool) (x : Nd) (nm : List UInt8) (hn : nodes.length ≤ 1000000) (hm : names.length ≤ 1000000) (hs : nm ∉ seen) (hl : nm.length ≤ 32) :
    HCalls Tryz.prog Γ 84 [(1000000, .mp (seenM seen)), (1000001, .bx [.t (.sl (encN tNd nodes) (some nodes.length) none), .t (.sl (enc1 tS names) (some names.length) none), .t (.sl [] (some 0) (some true)), .t (.sl (ints ol) oc on), .lm 1000000, .t (tB false)])] [.lp 1000001 0 0, .ag ((tNd x).map .t), .t (tS nm)] (.t (tI nodes.length))
      [(40, .sl 104 4 (encN tNd (nodes ++ [x]))), (52, .sl 9 1 (enc1 tS (names ++ [nm]))), (1000000, .mp (seenM (seen ++ [nm]))), (1000001, .bx [.ls 40 0 (nodes.length + 1) none, .ls 52 0 (names.length + 1) none, .t (.sl [] (some 0) (some true)), .t (.sl (ints ol) oc on), .lm 1000000, .t (tB false)])] := by
  refine run_handQ scans_builder_add_chk rfl ?_
  have q1 : encN tNd nodes ++ [[tK x.k, .sl (ints x.inn.l) x.inn.cap x.inn.nl, tI x.mem, tI x.bit]] = encN tNd (nodes ++ [x]) := encN_snoc (f := tNd) (x := x)
  have q2 : enc1 tS names ++ [[.v (sV nm)]] = enc1 tS (names ++ [nm]) := enc1_snoc
  have w1 : wid 4 [[tK x.k, .sl (ints x.inn.l) x.inn.cap x.inn.nl, tI x.mem, tI x.bit]] := by intro e he; simp at he; subst he; rfl
  have w2 : wid 1 [[T.v (sV nm)]] := by intro e he; simp at he; subst he; rfl
  have t1 : (encN tNd nodes).take nodes.length = encN tNd nodes := encN_take_len
  have t2 : (enc1 tS names).take names.length = enc1 tS names := enc1_take_len
  have f1 := seenM_find nm seen
  rw [if_neg hs] at f1
  have f2 := seenM_set nm seen hs
  have f3 := seenM_fit seen
  have h32 : ¬ 32 < nm.length := by omega
  have h32' : ¬ (32 : Int) < nm.length := by omega
  have hfit : KT.str.fits (sV nm) = true := rfl
  simp only [sV] at q2 w2 f1 f2 hfit
  simp [scans_builder_add_ic, tNd, tSl, tS, sV]
  refine scans_builder_add_l1_run fun K hK => ?_
  simp (maxSteps := 1000000) (disch := omega) [f1, f2, f3, hfit, h32, h32', q1, q2, w1, w2, t1, t2, encN_len, enc1_len, tNd_wid, enc1_wid, wrap_i64]
  simp (disch := omega) [scans_builder_add_rv, wrap_i64, hn, hm]
  omega
theorem add_rt (seen : List (List UInt8)) (nodes : List Nd) (names : List (List UInt8)) (ol : List Int) (oc : Option Nat) (on : Option Bool) (x : Nd) (nm : List UInt8) (hn : nodes.length ≤ 1000000) (hm : names.length ≤ 1000000) (hs : nm ∉ seen) (hl : nm.length ≤ 32) :
    HCalls Tryz.prog Γ 84 [(1000000, .mp (seenM seen)), (1000001, .bx [.ls 1000003 0 nodes.length none, .ls 1000004 0 names.length none, .t (.sl [] (some 0) (some true)), .t (.sl (ints ol) oc on), .lm 1000000, .t (tB false)]), (1000003, .sl 104 4 (encN tNd nodes)), (1000004, .sl 9 1 (enc1 tS names))] [.lp 1000001 0 0, .ag ((tNd x).map .t), .t (tS nm)] (.t (tI nodes.length))
      [(40, .sl 104 4 (encN tNd (nodes ++ [x]))), (52, .sl 9 1 (enc1 tS (names ++ [nm]))), (1000000, .mp (seenM (seen ++ [nm]))), (1000001, .bx [.ls 40 0 (nodes.length + 1) none, .ls 52 0 (names.length + 1) none, .t (.sl [] (some 0) (some true)), .t (.sl (ints ol) oc on), .lm 1000000, .t (tB false)])] := by
  refine run_handQ scans_builder_add_chk rfl ?_
  have q1 : encN tNd nodes ++ [[tK x.k, .sl (ints x.inn.l) x.inn.cap x.inn.nl, tI x.mem, tI x.bit]] = encN tNd (nodes ++ [x]) := encN_snoc (f := tNd) (x := x)
  have q2 : enc1 tS names ++ [[.v (sV nm)]] = enc1 tS (names ++ [nm]) := enc1_snoc
  have w1 : wid 4 [[tK x.k, .sl (ints x.inn.l) x.inn.cap x.inn.nl, tI x.mem, tI x.bit]] := by intro e he; simp at he; subst he; rfl
  have w2 : wid 1 [[T.v (sV nm)]] := by intro e he; simp at he; subst he; rfl
  have t1 : (encN tNd nodes).take nodes.length = encN tNd nodes := encN_take_len
  have t2 : (enc1 tS names).take names.length = enc1 tS names := enc1_take_len
  have f1 := seenM_find nm seen
  rw [if_neg hs] at f1
  have f2 := seenM_set nm seen hs
  have f3 := seenM_fit seen
  have h32 : ¬ 32 < nm.length := by omega
  have h32' : ¬ (32 : Int) < nm.length := by omega
  have hfit : KT.str.fits (sV nm) = true := rfl
  simp only [sV] at q2 w2 f1 f2 hfit
  simp [scans_builder_add_ic, tNd, tSl, tS, sV]
  refine scans_builder_add_l1_run fun K hK => ?_
  simp (maxSteps := 1000000) (disch := omega) [f1, f2, f3, hfit, h32, h32', q1, q2, w1, w2, t1, t2, encN_len, enc1_len, tNd_wid, enc1_wid, wrap_i64]
  simp (disch := omega) [scans_builder_add_rv, wrap_i64, hn, hm]
  omega
theorem add_rr (seen : List (List UInt8)) (nodes : List Nd) (names : List (List UInt8)) (ol : List Int) (x : Nd) (nm : List UInt8) (hn : nodes.length ≤ 1000000) (hm : names.length ≤ 1000000) (hs : nm ∉ seen) (hl : nm.length ≤ 32) :
    HCalls Tryz.prog Γ 84 [(1000000, .mp (seenM seen)), (1000001, .bx [.ls 1000003 0 nodes.length none, .ls 1000004 0 names.length none, .t (.sl [] (some 0) (some true)), .ls 1000002 0 ol.length none, .lm 1000000, .t (tB false)]), (1000002, .sl 3 1 (ints ol)), (1000003, .sl 104 4 (encN tNd nodes)), (1000004, .sl 9 1 (enc1 tS names))] [.lp 1000001 0 0, .ag ((tNd x).map .t), .t (tS nm)] (.t (tI nodes.length))
      [(40, .sl 104 4 (encN tNd (nodes ++ [x]))), (52, .sl 9 1 (enc1 tS (names ++ [nm]))), (1000000, .mp (seenM (seen ++ [nm]))), (1000001, .bx [.ls 40 0 (nodes.length + 1) none, .ls 52 0 (names.length + 1) none, .t (.sl [] (some 0) (some true)), .ls 1000002 0 ol.length none, .lm 1000000, .t (tB false)]), (1000002, .sl 3 1 (ints ol))] := by
  refine run_handQ scans_builder_add_chk rfl ?_
  have q1 : encN tNd nodes ++ [[tK x.k, .sl (ints x.inn.l) x.inn.cap x.inn.nl, tI x.mem, tI x.bit]] = encN tNd (nodes ++ [x]) := encN_snoc (f := tNd) (x := x)
  have q2 : enc1 tS names ++ [[.v (sV nm)]] = enc1 tS (names ++ [nm]) := enc1_snoc
  have w1 : wid 4 [[tK x.k, .sl (ints x.inn.l) x.inn.cap x.inn.nl, tI x.mem, tI x.bit]] := by intro e he; simp at he; subst he; rfl
  have w2 : wid 1 [[T.v (sV nm)]] := by intro e he; simp at he; subst he; rfl
  have t1 : (encN tNd nodes).take nodes.length = encN tNd nodes := encN_take_len
  have t2 : (enc1 tS names).take names.length = enc1 tS names := enc1_take_len
  have f1 := seenM_find nm seen
  rw [if_neg hs] at f1
  have f2 := seenM_set nm seen hs
  have f3 := seenM_fit seen
  have h32 : ¬ 32 < nm.length := by omega
  have h32' : ¬ (32 : Int) < nm.length := by omega
  have hfit : KT.str.fits (sV nm) = true := rfl
  simp only [sV] at q2 w2 f1 f2 hfit
  simp [scans_builder_add_ic, tNd, tSl, tS, sV]
  refine scans_builder_add_l1_run fun K hK => ?_
  simp (maxSteps := 1000000) (disch := omega) [f1, f2, f3, hfit, h32, h32', q1, q2, w1, w2, t1, t2, encN_len, enc1_len, tNd_wid, enc1_wid, wrap_i64]
  simp (disch := omega) [scans_builder_add_rv, wrap_i64, hn, hm]
  omega
end Go.Lg
namespace Go.Lg
open Go Go.Proofs
variable {Γ : Tables}
def befM (l : List (Int × Int)) : List (Value × T) := l.map fun p => (.int .i64 p.1, tI p.2)
def befOf (l : List (Int × Int)) (n : Int) : Int := match l.find? (fun p => p.1 == n) with | some p => p.2 | none => 0
theorem befM_fit (l : List (Int × Int)) : keysFit (.int .i64) (befM l) := by
  intro e he; obtain ⟨s, _, rfl⟩ := List.mem_map.1 he; rfl
theorem befM_find (n : Int) : ∀ l : List (Int × Int), (findM (.int .i64 n) (befM l)).getD (tI 0) = tI (befOf l n)
  | [] => rfl
  | (a, p) :: l => by
    have ih := befM_find n l
    simp only [befM, befOf, List.map_cons, findM, keyEq, List.find?_cons] at ih ⊢
    by_cases h : n = a
    · simp [h]
    · have h' : ¬ a = n := fun e => h e.symm
      simp [h, h', ih]
theorem befM_set (n a : Int) : ∀ l : List (Int × Int), n ∉ l.map (·.1) → setM (.int .i64 n) (tI a) (befM l) = befM (l ++ [(n, a)])
  | [], _ => rfl
  | (b, p) :: l, h => by
    have ih := befM_set n a l (fun hm => h (by simp only [List.map_cons, List.mem_cons]; exact .inr hm))
    have hne : n ≠ b := fun e => h (by simp [e])
    simp only [befM, List.map_cons, setM, keyEq, List.cons_append] at ih ⊢
    simp [hne, ih]
def prevs : Int → List Int → List (Int × Int)
  | _, [] => []
  | a, n :: l => (n, a) :: prevs n l
def lastC : Int → List Int → Int
  | a, [] => a
  | _, n :: l => lastC n l
theorem prevs_keys : ∀ (l : List Int) (a : Int), (prevs a l).map (·.1) = l
  | [], _ => rfl
  | n :: l, a => by simp only [prevs, List.map_cons, prevs_keys l n]
def nilT : T := .sl [] (some 0) (some true)
def Z8 : List AV := [.t nilT, .t nilT, .t nilT, .t nilT, .t nilT, .t (tI 0), .t nilT, .t nilT]
theorem gi1 {f : Int → T} {l : List Int} {i : Nat} (hi : i < l.length) : (enc1 f l)[i]?.getD [] = [f (l.getD i 0)] := by
  rw [enc1_get 0 hi]; rfl
theorem ins_l1 {Q : AX → St → Prop} (t1 t7 : T) (c : Cir) (names : Sl (List UInt8)) (hl : names.l.length ≤ 1000000) (hnd : names.l.Nodup) (N M O : T)
    (h0 : Q (.exit 0) ⟨[(1, .t t1), (2, .t (.ip (tC c) 0)), (4, .lp 4 0 0), (7, .t t7), (8, .lp 46 0 0), (48, .t (tNames names)), (49, .t (tI names.l.length)), (50, .t (tI names.l.length)), (51, .t (tB false))], [(4, .bx Z8), (44, .mp (seenM names.l)), (46, .bx [.t N, .t M, .t nilT, .t O, .lm 44, .t (tB false)])]⟩) :
    ∀ (k i : Nat), k + i = names.l.length →
    run Tryz.prog Γ scans_Insert_l1 Q ⟨[(1, .t t1), (2, .t (.ip (tC c) 0)), (4, .lp 4 0 0), (7, .t t7), (8, .lp 46 0 0), (48, .t (tNames names)), (49, .t (tI names.l.length)), (50, .t (tI i))], [(4, .bx Z8), (44, .mp (seenM (names.l.take i))), (46, .bx [.t N, .t M, .t nilT, .t O, .lm 44, .t (tB false)])]⟩
  | 0, i, h => by
    refine scans_Insert_l1_run fun K hK => ?_
    have h3 : i = names.l.length := by omega
    subst h3
    rw [List.take_of_length_le (Nat.le_refl _)]
    simp [Z8]
    simpa [Z8] using h0
  | k + 1, i, h => by
    refine scans_Insert_l1_run fun K hK => ?_
    have h2 : i < names.l.length := by omega
    have ih := ins_l1 t1 t7 c names hl hnd N M O h0 k (i + 1) (by omega)
    have ht : names.l.take (i + 1) = names.l.take i ++ [names.l[i]] := by rw [List.take_add_one]; simp [h2]
    have hm : names.l[i] ∉ names.l.take i := fun hm => by
      obtain ⟨j, hj, e⟩ := List.getElem_of_mem hm
      simp at hj e
      have hji : j < i := by omega
      exact List.pairwise_iff_getElem.1 (List.nodup_iff_pairwise_ne.1 hnd) j i (by omega) h2 hji e
    have e := enc1_get (f := tS) [] h2
    have e2 : names.l[i]?.getD [] = names.l[i] := by simp [h2]
    rw [e2] at e
    rw [ht] at ih
    generalize names.l[i] = x at *
    have e' : ∀ h : i < (enc1 tS names.l).length, (enc1 tS names.l)[i] = [tS x] := fun h => by rw [← e]; simp [h]
    have f2 := seenM_set x _ hm
    have f3 := seenM_fit (names.l.take i)
    have hfit : KT.str.fits (sV x) = true := rfl
    simp only [tS, sV] at e e' f2 hfit
    simp [h2, tNames, enc1_len, enc1_wid, e, e', f2, f3, hfit, Z8]
    rw [wrap_i64 (by omega) (by omega), hK]
    simpa [tNames, Z8] using ih
def i3E (t2 t7 t65 t66 t67 t93 : T) (L : List Int) (lc : Option Nat) (ln : Option Bool) (last : Int) (i : Nat) : List (Nat × AV) :=
  [(2, .t t2), (4, .lp 4 0 0), (7, .t t7), (8, .lp 46 0 0), (11, .lp 11 0 0), (12, .lm 64), (15, .t (tI last)), (65, .t t65), (66, .t t66), (67, .t t67), (92, .t (.sl (ints L) lc ln)), (93, .t t93), (94, .t (tI i))]
def i3H (r11 r44 r46 r78 r90 r157 rN rM : Reg) (bef : List (Int × Int)) : List (Nat × Reg) :=
  [(4, .bx Z8), (11, r11), (44, r44), (46, r46), (64, .mp (befM bef)), (78, r78), (90, r90), (157, r157), (62040, rN), (62052, rM)]
theorem ins_l3 {Q : AX → St → Prop} (t2 t7 t65 t66 t67 : T) (r11 r44 r46 r78 r90 r157 rN rM : Reg) (L : List Int) (hL : L.length ≤ 1000000) (lc : Option Nat) (ln : Option Bool) (hnd : L.Nodup) (R : List (Int × Int)) (z : Int)
    (h0 : Q (.exit 4) ⟨i3E t2 t7 t65 t66 t67 (tI L.length) L lc ln z L.length ++ [(95, .t (tB false))], i3H r11 r44 r46 r78 r90 r157 rN rM R⟩) :
    ∀ (k i : Nat) (last : Int) (bef : List (Int × Int)), k + i = L.length → (∀ n ∈ L.drop i, n ∉ bef.map (·.1)) → bef ++ prevs last (L.drop i) = R → lastC last (L.drop i) = z →
    run Tryz.prog Γ scans_Insert_l3 Q ⟨i3E t2 t7 t65 t66 t67 (tI L.length) L lc ln last i, i3H r11 r44 r46 r78 r90 r157 rN rM bef⟩
  | 0, i, last, bef, h, hk, hR, hz => by
    refine scans_Insert_l3_run fun K hK => ?_
    have h3 : i = L.length := by omega
    subst h3
    rw [List.drop_of_length_le (Nat.le_refl _)] at hR hz
    simp only [prevs, lastC, List.append_nil] at hR hz
    subst hR; subst hz
    simp [i3E, i3H, Z8]
    simpa [i3E, i3H, Z8] using h0
  | k + 1, i, last, bef, h, hk, hR, hz => by
    refine scans_Insert_l3_run fun K hK => ?_
    have h2 : i < L.length := by omega
    have e := gi1 (f := tI) h2
    rw [getD_eq h2] at e
    have hd : L.drop (i + 1) = (L.drop i).tail := by simp
    rw [List.drop_eq_getElem_cons h2] at hR hz hk
    have hxm := List.pairwise_iff_getElem.1 (List.nodup_iff_pairwise_ne.1 hnd)
    have hnx : ∀ n ∈ L.drop (i + 1), n ≠ L[i] := fun n hn e => by
      obtain ⟨j, hj, rfl⟩ := List.getElem_of_mem hn
      simp at hj e
      exact hxm i (i + 1 + j) h2 (by omega) (by omega) e.symm
    generalize L[i] = x at *
    simp only [prevs, lastC] at hR hz
    have hx : x ∉ bef.map (·.1) := hk x List.mem_cons_self
    have ih := ins_l3 t2 t7 t65 t66 t67 r11 r44 r46 r78 r90 r157 rN rM L hL lc ln hnd R z h0 k (i + 1) x (bef ++ [(x, last)]) (by omega) (fun n hn => by
      rw [List.map_append, List.mem_append]
      rintro (h | h)
      · exact hk n (List.mem_cons_of_mem _ hn) h
      · simp at h; exact hnx n hn h) (by rw [List.append_assoc]; exact hR) hz
    have f2 := befM_set x last bef hx
    have f3 := befM_fit bef
    have hfit : (KT.int .i64).fits (.int .i64 x) = true := rfl
    have e' : ∀ h : i < (ints L).length, (ints L)[i] = [tI x] := fun h => by rw [← e]; simp [h]
    simp only [i3E, i3H] at ih ⊢
    simp [h2, enc1_len, enc1_wid, e, e', f2, f3, hfit]
    rw [wrap_i64 (by omega) (by omega), hK]
    simpa using ih
end Go.Lg
namespace Go.Lg
open Go Go.Proofs
variable {Γ : Tables}
def i3G (r11 r44 r46 r78 r90 r111 r157 rN rM : Reg) (bef : List (Int × Int)) : List (Nat × Reg) :=
  [(4, .bx Z8), (11, r11), (44, r44), (46, r46), (64, .mp (befM bef)), (78, r78), (90, r90), (111, r111), (157, r157), (62040, rN), (62052, rM)]
theorem ins_m3 {Q : AX → St → Prop} (t2 t7 t65 t66 t67 : T) (r11 r44 r46 r78 r90 r111 r157 rN rM : Reg) (L : List Int) (hL : L.length ≤ 1000000) (lc : Option Nat) (ln : Option Bool) (hnd : L.Nodup) (R : List (Int × Int)) (z : Int)
    (h0 : Q (.exit 4) ⟨i3E t2 t7 t65 t66 t67 (tI L.length) L lc ln z L.length ++ [(95, .t (tB false))], i3G r11 r44 r46 r78 r90 r111 r157 rN rM R⟩) :
    ∀ (k i : Nat) (last : Int) (bef : List (Int × Int)), k + i = L.length → (∀ n ∈ L.drop i, n ∉ bef.map (·.1)) → bef ++ prevs last (L.drop i) = R → lastC last (L.drop i) = z →
    run Tryz.prog Γ scans_Insert_l3 Q ⟨i3E t2 t7 t65 t66 t67 (tI L.length) L lc ln last i, i3G r11 r44 r46 r78 r90 r111 r157 rN rM bef⟩
  | 0, i, last, bef, h, hk, hR, hz => by
    refine scans_Insert_l3_run fun K hK => ?_
    have h3 : i = L.length := by omega
    subst h3
    rw [List.drop_of_length_le (Nat.le_refl _)] at hR hz
    simp only [prevs, lastC, List.append_nil] at hR hz
    subst hR; subst hz
    simp [i3E, i3G, Z8]
    simpa [i3E, i3G, Z8] using h0
  | k + 1, i, last, bef, h, hk, hR, hz => by
    refine scans_Insert_l3_run fun K hK => ?_
    have h2 : i < L.length := by omega
    have e := gi1 (f := tI) h2
    rw [getD_eq h2] at e
    have hd : L.drop (i + 1) = (L.drop i).tail := by simp
    rw [List.drop_eq_getElem_cons h2] at hR hz hk
    have hxm := List.pairwise_iff_getElem.1 (List.nodup_iff_pairwise_ne.1 hnd)
    have hnx : ∀ n ∈ L.drop (i + 1), n ≠ L[i] := fun n hn e => by
      obtain ⟨j, hj, rfl⟩ := List.getElem_of_mem hn
      simp at hj e
      exact hxm i (i + 1 + j) h2 (by omega) (by omega) e.symm
    generalize L[i] = x at *
    simp only [prevs, lastC] at hR hz
    have hx : x ∉ bef.map (·.1) := hk x List.mem_cons_self
    have ih := ins_m3 t2 t7 t65 t66 t67 r11 r44 r46 r78 r90 r111 r157 rN rM L hL lc ln hnd R z h0 k (i + 1) x (bef ++ [(x, last)]) (by omega) (fun n hn => by
      rw [List.map_append, List.mem_append]
      rintro (h | h)
      · exact hk n (List.mem_cons_of_mem _ hn) h
      · simp at h; exact hnx n hn h) (by rw [List.append_assoc]; exact hR) hz
    have f2 := befM_set x last bef hx
    have f3 := befM_fit bef
    have hfit : (KT.int .i64).fits (.int .i64 x) = true := rfl
    have e' : ∀ h : i < (ints L).length, (ints L)[i] = [tI x] := fun h => by rw [← e]; simp [h]
    simp only [i3E, i3G] at ih ⊢
    simp [h2, enc1_len, enc1_wid, e, e', f2, f3, hfit]
    rw [wrap_i64 (by omega) (by omega), hK]
    simpa using ih
end Go.Lg
namespace Go.Lg
open Go Go.Proofs
variable {Γ : Tables}
structure IS where
  nodes : List Nd
  names : List (List UInt8)
  cl : List (Sl Int)
  ins : List Int
  bef : List (Int × Int)
  outs : List Int
def siN (i : Nat) : List UInt8 := [115, 105] ++ itoaL i
def smN (i : Nat) : List UInt8 := [115, 109] ++ itoaL i
def stepCh (i : Nat) (s : Sl Int) (S : IS) : IS :=
  ⟨S.nodes ++ [inpN], S.names ++ [siN i], S.cl ++ [⟨s.l, some s.l.length, none⟩], S.ins ++ [(S.nodes.length : Int)], S.bef ++ prevs S.nodes.length s.l, S.outs ++ [lastC S.nodes.length s.l]⟩
def goCh : Nat → List (Sl Int) → IS → IS
  | _, [], S => S
  | i, s :: l, S => goCh (i + 1) l (stepCh i s S)
structure ISz (S : IS) : Prop where
  nodes : S.nodes.length ≤ 100000
  names : S.names.length ≤ 100000
  cl : S.cl.length ≤ 100000
  ins : S.ins.length ≤ 100000
  outs : S.outs.length ≤ 100000
structure ChOne (i : Nat) (s : Sl Int) (S : IS) : Prop where
  z : ISz S
  nm : siN i ∉ S.names
  i100 : i < 100
  ne : s.l ≠ []
  nl : s.nl ≠ some true
  len : s.l.length ≤ 1000000
  nd : s.l.Nodup
  key : ∀ n ∈ s.l, n ∉ S.bef.map (·.1)
def okCh : Nat → List (Sl Int) → IS → Prop
  | _, [], S => True
  | i, s :: l, S => ChOne i s S ∧ okCh (i + 1) l (stepCh i s S)
theorem wid1s {t : T} : wid 1 [[t]] = True := eq_true (by intro e he; simp at he; subst he; rfl)
theorem ba_cat (a b : List UInt8) : ByteArray.mk a.toArray ++ ByteArray.mk b.toArray = ByteArray.mk (a ++ b).toArray := by
  ext1; simp [ByteArray.data_append]
theorem siN_len {i : Nat} : (siN i).length ≤ 32 := by unfold siN itoaL; split <;> simp
theorem smN_len {i : Nat} : (smN i).length ≤ 32 := by unfold smN itoaL; split <;> simp
def i6E (c : Cir) (t7 : T) (chs : Sl (Sl Int)) (i : Nat) : List (Nat × AV) :=
  [(2, .t (.ip (tC c) 0)), (4, .lp 4 0 0), (7, .t t7), (8, .lp 46 0 0), (11, .lp 11 0 0), (12, .lm 64), (65, .t (.sl (enc1 tSl chs.l) chs.cap chs.nl)), (66, .t (tI chs.l.length)), (67, .t (tI i))]
def r11 (en : Int) (i : Nat) (k : Nat) : Reg := .bx [.t nilT, .t nilT, .t nilT, .t nilT, .ls 78 0 i none, .t (tI en), .ls 90 0 i none, .ls 157 0 k none]
def r46 (n m : Nat) (O : AV) : Reg := .bx [.ls 62040 0 n none, .ls 62052 0 m none, .t nilT, O, .lm 44, .t (tB false)]
def i6R (en : Int) (S : IS) : List (Nat × Reg) :=
  i3G (r11 en S.cl.length 0) (.mp (seenM S.names)) (r46 S.nodes.length S.names.length (.ls 111 0 S.outs.length none)) (.sl 33 1 (enc1 tSl S.cl)) (.sl 3 1 (ints S.ins)) (.sl 3 1 (ints S.outs)) (.sl 3 1 []) (.sl 104 4 (encN tNd S.nodes)) (.sl 9 1 (enc1 tS S.names)) S.bef
def i6T (en : Int) (ol : List Int) (oc : Option Nat) (on : Option Bool) (S : IS) : List (Nat × Reg) :=
  i3H (r11 en S.cl.length 0) (.mp (seenM S.names)) (r46 S.nodes.length S.names.length (.t (.sl (ints ol) oc on))) (.sl 33 1 (enc1 tSl S.cl)) (.sl 3 1 (ints S.ins)) (.sl 3 1 []) (.sl 104 4 (encN tNd S.nodes)) (.sl 9 1 (enc1 tS S.names)) S.bef
set_option maxHeartbeats 2000000 in
theorem ins_l5 {Q : AX → St → Prop} (c : Cir) (t7 : T) (chs : Sl (Sl Int)) (hcl : chs.l.length ≤ 100) (en : Int) (R : IS)
    (h0 : Q (.exit 2) ⟨i6E c t7 chs chs.l.length ++ [(68, .t (tB false))], i6R en R⟩) :
    ∀ (k i : Nat) (S : IS), k + i = chs.l.length → S.ins.length = S.cl.length → okCh i (chs.l.drop i) S → goCh i (chs.l.drop i) S = R →
    run Tryz.prog Γ scans_Insert_l5 Q ⟨i6E c t7 chs i, i6R en S⟩
  | 0, i, S, h, hic, hk, hR => by
    refine scans_Insert_l5_run fun K hK => ?_
    have h3 : i = chs.l.length := by omega
    subst h3
    rw [List.drop_of_length_le (Nat.le_refl _)] at hR
    simp only [goCh] at hR
    subst hR
    simp [i6E, i6R, i3G, Z8]
    simpa [i6E, i6R, i3G, Z8] using h0
  | k + 1, i, S, h, hic, hk, hR => by
    refine scans_Insert_l5_run fun K hK => ?_
    have h2 : i < chs.l.length := by omega
    rw [List.drop_eq_getElem_cons h2] at hR hk
    have e := enc1_get (f := tSl) ⟨[], none, none⟩ h2
    have e2 : chs.l[i]?.getD ⟨[], none, none⟩ = chs.l[i] := by simp [h2]
    rw [e2] at e
    generalize chs.l[i] = s at *
    obtain ⟨h1, h5⟩ := hk
    simp only [goCh] at hR
    have ih := ins_l5 c t7 chs hcl en R h0 k (i + 1) (stepCh i s S) (by omega) (by simp [stepCh, hic]) h5 hR
    have e' : ∀ h : i < (enc1 tSl chs.l).length, (enc1 tSl chs.l)[i] = [tSl s] := fun h => by rw [← e]; simp [h]
    have hz := h1.z
    have hso : SlOk s := ⟨fun h => absurd h h1.nl, fun _ => h1.ne, h1.len⟩
    have c1 := clone_int_a (Γ := Γ) s hso
    rw [if_neg h1.nl] at c1
    have c2 := clip_int (Γ := Γ) (ints s.l) none none enc1_wid
    have c3 := itoa_spec (Γ := Γ) i h1.i100
    have z1 := hz.nodes
    have z2 := hz.names
    have c4 := add_rr (Γ := Γ) S.names S.nodes S.names S.outs inpN (siN i) (by omega) (by omega) h1.nm siN_len
    have tk1 : (enc1 tSl S.cl).take S.cl.length = enc1 tSl S.cl := enc1_take_len
    have q1 : enc1 tSl S.cl ++ [[.sl (ints s.l) (some s.l.length) none]] = enc1 tSl (S.cl ++ [⟨s.l, some s.l.length, none⟩]) := enc1_snoc (f := tSl) (x := ⟨s.l, some s.l.length, none⟩)
    simp only [tSl] at c1 e e' q1
    simp [i6E, i6R, i3G, r11, r46, h2, enc1_len, enc1_wid, e, e']
    refine callK_fresh c1 rfl ?_
    simp
    refine callK_pure c2 rfl ?_
    simp [enc1_len, enc1_wid, tk1, q1, wid1s, Z8]
    have hcl2 : S.cl.length ≤ 2147483647 := by have := hz.cl; omega
    refine ⟨hcl2, ?_⟩
    refine callK_fresh c3 rfl ?_
    simp [tS, sV, ba_cat, List.idxOf_cons]
    have hil : 2 + (itoaL i).length ≤ 9223372036854775807 := by unfold itoaL; split <;> simp
    refine ⟨hil, ?_⟩
    simp [tNd, inpN, tSl, enc1_nil, tS, sV, siN] at c4
    have g3 := fun Q r11 r44 r46 r78 r90 r111 r157 rN rM h0 => ins_m3 (Γ := Γ) (Q := Q) (.ip (tC c) 0) t7 (.sl (enc1 tSl chs.l) chs.cap chs.nl) (tI chs.l.length) (tI i) r11 r44 r46 r78 r90 r111 r157 rN rM s.l h1.len s.cap s.nl h1.nd _ _ h0 s.l.length 0 S.nodes.length S.bef (by omega) h1.key rfl rfl
    simp [i3E, i3G, Z8] at g3
    have q2 : ints S.ins ++ [[tI S.nodes.length]] = ints (S.ins ++ [(S.nodes.length : Int)]) := enc1_snoc
    have tk2 : (ints S.ins).take S.cl.length = ints S.ins := by rw [← hic]; exact enc1_take_len
    have q3 : ints S.outs ++ [[tI (lastC S.nodes.length s.l)]] = ints (S.outs ++ [lastC S.nodes.length s.l]) := enc1_snoc
    have tk3 : (ints S.outs).take S.outs.length = ints S.outs := enc1_take_len
    refine ⟨_, _, c4, ?_⟩
    simp [List.idxOf_cons, renSt, wid1s, hcl2, tk2, q2, enc1_len]
    refine g3 _ _ _ _ _ _ _ _ _ _ ?_
    simp [wid1s, tk3, q3, enc1_len]
    refine ⟨by have := hz.outs; omega, ?_⟩
    rw [wrap_i64 (by omega) (by omega), hK]
    simpa [i6E, i6R, i3G, r11, r46, Z8, stepCh, nilT, inpN, siN, hic, tSl] using ih
end Go.Lg
namespace Go.Lg
open Go Go.Proofs
variable {Γ : Tables}
set_option maxHeartbeats 2000000 in
theorem ins_l5t {Q : AX → St → Prop} (c : Cir) (t7 : T) (chs : Sl (Sl Int)) (hcl : chs.l.length ≤ 100) (en : Int) (R : IS) (on : Option Bool) (S : IS)
    (h0 : chs.l ≠ [] → Q (.exit 2) ⟨i6E c t7 chs chs.l.length ++ [(68, .t (tB false))], i6R en R⟩)
    (h0t : chs.l = [] → Q (.exit 2) ⟨i6E c t7 chs 0 ++ [(68, .t (tB false))], i6T en S.outs (some S.outs.length) on S⟩)
    (hic : S.ins.length = S.cl.length) (hk : okCh 0 chs.l S) (hR : goCh 0 chs.l S = R) :
    run Tryz.prog Γ scans_Insert_l5 Q ⟨i6E c t7 chs 0, i6T en S.outs (some S.outs.length) on S⟩ := by
  by_cases hne : chs.l = []
  · have hh := h0t hne
    refine scans_Insert_l5_run fun K hK => ?_
    have hl0 : chs.l.length = 0 := by rw [hne]; rfl
    simp [i6E, i6T, i3H, Z8, hl0] at hh ⊢
    simpa [i6E, i6T, i3H, Z8] using hh
  · have h0 := h0 hne
    have hlen : 0 < chs.l.length := List.length_pos_iff.2 hne
    have step := fun S hs h1 h2 => ins_l5 (Γ := Γ) (Q := Q) c t7 chs hcl en R h0 (chs.l.length - 1) 1 S (by omega) hs h1 h2
    refine scans_Insert_l5_run fun K hK => ?_
    have hdr : chs.l = chs.l[0] :: chs.l.drop 1 := by
      have := List.drop_eq_getElem_cons hlen
      simpa using this
    rw [hdr] at hk hR
    have e := enc1_get (f := tSl) ⟨[], none, none⟩ hlen
    have e2 : chs.l[0]?.getD ⟨[], none, none⟩ = chs.l[0] := by simp [hlen]
    rw [e2] at e
    generalize chs.l[0] = s at *
    obtain ⟨h1, h5⟩ := hk
    simp only [goCh] at hR
    have ih := step (stepCh 0 s S) (by simp [stepCh, hic]) h5 hR
    have e' : ∀ h : 0 < (enc1 tSl chs.l).length, (enc1 tSl chs.l)[0] = [tSl s] := fun h => by rw [← e]; simp [h]
    have hz := h1.z
    have hso : SlOk s := ⟨fun h => absurd h h1.nl, fun _ => h1.ne, h1.len⟩
    have c1 := clone_int_a (Γ := Γ) s hso
    rw [if_neg h1.nl] at c1
    have c2 := clip_int (Γ := Γ) (ints s.l) none none enc1_wid
    have c3 := itoa_spec (Γ := Γ) 0 h1.i100
    have z1 := hz.nodes
    have z2 := hz.names
    have c4 := add_rt (Γ := Γ) S.names S.nodes S.names S.outs (some S.outs.length) on inpN (siN 0) (by omega) (by omega) h1.nm siN_len
    have tk1 : (enc1 tSl S.cl).take S.cl.length = enc1 tSl S.cl := enc1_take_len
    have q1 : enc1 tSl S.cl ++ [[.sl (ints s.l) (some s.l.length) none]] = enc1 tSl (S.cl ++ [⟨s.l, some s.l.length, none⟩]) := enc1_snoc (f := tSl) (x := ⟨s.l, some s.l.length, none⟩)
    have hlen' : chs.l.length ≠ 0 := by omega
    simp only [tSl] at c1 e e' q1
    simp [i6E, i6T, i3H, r11, r46, hlen, enc1_len, enc1_wid, e, e']
    refine callK_fresh c1 rfl ?_
    simp
    refine callK_pure c2 rfl ?_
    simp [enc1_len, enc1_wid, tk1, q1, wid1s, Z8]
    have hcl2 : S.cl.length ≤ 2147483647 := by have := hz.cl; omega
    refine ⟨hcl2, ?_⟩
    refine callK_fresh c3 rfl ?_
    simp [tS, sV, ba_cat, List.idxOf_cons]
    have hil : 2 + (itoaL 0).length ≤ 9223372036854775807 := by unfold itoaL; split <;> simp
    refine ⟨hil, ?_⟩
    simp [tNd, inpN, tSl, enc1_nil, tS, sV, siN] at c4
    have g3 := fun Q r11 r44 r46 r78 r90 r157 rN rM h0 => ins_l3 (Γ := Γ) (Q := Q) (.ip (tC c) 0) t7 (.sl (enc1 tSl chs.l) chs.cap chs.nl) (tI chs.l.length) (tI 0) r11 r44 r46 r78 r90 r157 rN rM s.l h1.len s.cap s.nl h1.nd _ _ h0 s.l.length 0 S.nodes.length S.bef (by omega) h1.key rfl rfl
    simp [i3E, i3H, Z8] at g3
    have q2 : ints S.ins ++ [[tI S.nodes.length]] = ints (S.ins ++ [(S.nodes.length : Int)]) := enc1_snoc
    have tk2 : (ints S.ins).take S.cl.length = ints S.ins := by rw [← hic]; exact enc1_take_len
    have q3 : ints S.outs ++ [[tI (lastC S.nodes.length s.l)]] = ints (S.outs ++ [lastC S.nodes.length s.l]) := enc1_snoc
    have tk3 : (ints S.outs).take S.outs.length = ints S.outs := enc1_take_len
    refine ⟨_, _, c4, ?_⟩
    simp [List.idxOf_cons, renSt, wid1s, hcl2, tk2, q2, enc1_len]
    refine g3 _ _ _ _ _ _ _ _ _ ?_
    simp [wid1s, tk3, q3, enc1_len, enc1_wid]
    refine ⟨by have := hz.outs; omega, ?_⟩
    rw [wrap_i64 (by omega) (by omega), hK]
    simpa [i6E, i6R, i3G, r11, r46, Z8, stepCh, nilT, inpN, siN, hic, tSl] using ih
end Go.Lg
namespace Go.Lg
open Go Go.Proofs
variable {Γ : Tables}
structure JS where
  nodes : List Nd
  names : List (List UInt8)
  muxes : List Int
def muxN (e d b : Int) : Nd := ⟨11, ⟨[e, d, b], some 3, some false⟩, 0, 0⟩
def in0 (c : Cir) (n : Int) : Int := (innAt c n.toNat).getD 0 0
def stepSt (c : Cir) (en : Int) (bef : List (Int × Int)) (i : Nat) (n : Int) (J : JS) : JS :=
  ⟨setIn (J.nodes ++ [muxN en (in0 c n) (befOf bef n)]) n.toNat J.nodes.length, J.names ++ [smN i], J.muxes ++ [(J.nodes.length : Int)]⟩
def goSt (c : Cir) (en : Int) (bef : List (Int × Int)) : Nat → List Int → JS → JS
  | _, [], J => J
  | i, n :: l, J => goSt c en bef (i + 1) l (stepSt c en bef i n J)
structure StOne (c : Cir) (i : Nat) (n : Int) (J : JS) : Prop where
  nodes : J.nodes.length ≤ 100000
  names : J.names.length ≤ 100000
  muxes : J.muxes.length ≤ 100000
  nm : smN i ∉ J.names
  i100 : i < 100
  n0 : 0 ≤ n
  n1 : n < c.nodes.l.length
  n2 : n < J.nodes.length
  inn : innAt c n.toNat ≠ []
def okSt (c : Cir) (en : Int) (bef : List (Int × Int)) : Nat → List Int → JS → Prop
  | _, [], _ => True
  | i, n :: l, J => StOne c i n J ∧ okSt c en bef (i + 1) l (stepSt c en bef i n J)
def i8E (c : Cir) (st : List Int) (sc : Option Nat) (sn : Option Bool) (i : Nat) : List (Nat × AV) :=
  [(2, .t (.ip (tC c) 0)), (4, .lp 4 0 0), (8, .lp 46 0 0), (11, .lp 11 0 0), (12, .lm 64), (116, .t (.sl (ints st) sc sn)), (117, .t (tI st.length)), (118, .t (tI i))]
def i8R (en : Int) (S : IS) (J : JS) : List (Nat × Reg) :=
  i3G (r11 en S.cl.length J.muxes.length) (.mp (seenM J.names)) (r46 J.nodes.length J.names.length (.ls 111 0 S.outs.length none)) (.sl 33 1 (enc1 tSl S.cl)) (.sl 3 1 (ints S.ins)) (.sl 3 1 (ints S.outs)) (.sl 3 1 (ints J.muxes)) (.sl 104 4 (encN tNd J.nodes)) (.sl 9 1 (enc1 tS J.names)) S.bef
theorem nd_at {c : Cir} {n : Int} (h0 : 0 ≤ n) (h : n < c.nodes.l.length) : (encN tNd c.nodes.l)[n.toNat]?.getD [] = tNd (c.nodes.l.getD n.toNat Nd.d) := gN (by omega)
set_option maxHeartbeats 2000000 in
theorem ins_l7 {Q : AX → St → Prop} (c : Cir) (hcn : c.nodes.l.length ≤ 100000) (st : List Int) (hst : st.length ≤ 100) (sc : Option Nat) (sn : Option Bool) (en : Int) (S : IS) (R : JS)
    (h0 : Q (.exit 6) ⟨i8E c st sc sn st.length ++ [(119, .t (tB false))], i8R en S R⟩) :
    ∀ (k i : Nat) (J : JS), k + i = st.length → okSt c en S.bef i (st.drop i) J → goSt c en S.bef i (st.drop i) J = R →
    run Tryz.prog Γ scans_Insert_l7 Q ⟨i8E c st sc sn i, i8R en S J⟩
  | 0, i, J, h, hk, hR => by
    refine scans_Insert_l7_run fun K hK => ?_
    have h3 : i = st.length := by omega
    subst h3
    rw [List.drop_of_length_le (Nat.le_refl _)] at hR
    simp only [goSt] at hR
    subst hR
    simp [i8E, i8R, i3G, Z8]
    simpa [i8E, i8R, i3G, Z8] using h0
  | k + 1, i, J, h, hk, hR => by
    refine scans_Insert_l7_run fun K hK => ?_
    have h2 : i < st.length := by omega
    rw [List.drop_eq_getElem_cons h2] at hR hk
    have e := gi1 (f := tI) h2
    rw [getD_eq h2] at e
    generalize st[i] = n at *
    obtain ⟨h1, h5⟩ := hk
    simp only [goSt] at hR
    have ih := ins_l7 c hcn st hst sc sn en S R h0 k (i + 1) (stepSt c en S.bef i n J) (by omega) h5 hR
    have e' : ∀ h : i < (ints st).length, (ints st)[i] = [tI n] := fun h => by rw [← e]; simp [h]
    have n0 := h1.n0
    have n1 := h1.n1
    have n2 := h1.n2
    have n3 : n.toNat < c.nodes.l.length := by omega
    have n4 : n.toNat < J.nodes.length := by omega
    have en1 := nd_at (c := c) n0 n1
    have en1' : ∀ h : n.toNat < (encN tNd c.nodes.l).length, (encN tNd c.nodes.l)[n.toNat] = tNd (c.nodes.l.getD n.toNat Nd.d) := fun h => by rw [← en1]; simp [h]
    have hin : innAt c n.toNat = (c.nodes.l.getD n.toNat Nd.d).inn.l := rfl
    have hne := h1.inn
    have hd : (ints (c.nodes.l.getD n.toNat Nd.d).inn.l)[0]?.getD [] = [tI (in0 c n)] := by
      rw [← hin]
      cases hl : innAt c n.toNat with
      | nil => exact absurd hl hne
      | cons a l => simp [in0, hl, enc1]
    rw [hin] at hne
    have hlp : 0 < (c.nodes.l.getD n.toNat Nd.d).inn.l.length := List.length_pos_iff.2 hne
    generalize c.nodes.l.getD n.toNat Nd.d = x at *
    have hd' : ∀ h : 0 < (ints x.inn.l).length, (ints x.inn.l)[0] = [tI (in0 c n)] := fun h => by rw [← hd]; simp [h]
    have hb := befM_find n S.bef
    have hbf := befM_fit S.bef
    have c3 := itoa_spec (Γ := Γ) i h1.i100
    have z1 := h1.nodes
    have z2 := h1.names
    have c4 := add_rr (Γ := Γ) J.names J.nodes J.names S.outs (muxN en (in0 c n) (befOf S.bef n)) (smN i) (by omega) (by omega) h1.nm smN_len
    have hil : 2 + (itoaL i).length ≤ 9223372036854775807 := by unfold itoaL; split <;> simp
    have q1 : ints J.muxes ++ [[tI J.nodes.length]] = ints (J.muxes ++ [(J.nodes.length : Int)]) := enc1_snoc
    have tk1 : (ints J.muxes).take J.muxes.length = ints J.muxes := enc1_take_len
    simp [i8E, i8R, i3G, r11, r46, h2, enc1_len, enc1_wid, e, e', tC, tNodes, encN_len, tNd_wid, n0, n1, en1, en1', tNd, tSl, hd, hd', hlp, hb, hbf, KT.fits]
    refine callK_fresh c3 rfl ?_
    simp [tS, sV, ba_cat, List.idxOf_cons, Z8]
    refine ⟨hil, ?_⟩
    simp [tNd, muxN, tSl, enc1_nil, tS, sV, smN] at c4
    have hm : (⟨11, ⟨[en, in0 c n, befOf S.bef n], some 3, some false⟩, 0, 0⟩ : Nd) = muxN en (in0 c n) (befOf S.bef n) := rfl
    rw [hm] at c4
    have hLl : (J.nodes ++ [muxN en (in0 c n) (befOf S.bef n)]).length = J.nodes.length + 1 := by simp
    have y1 := gN (l := J.nodes ++ [muxN en (in0 c n) (befOf S.bef n)]) (i := n.toNat) (by omega)
    have y2 : ∀ y : Nd, (J.nodes ++ [muxN en (in0 c n) (befOf S.bef n)]).getD n.toNat Nd.d = y → (encN tNd (J.nodes ++ [muxN en (in0 c n) (befOf S.bef n)])).set n.toNat [tK y.k, .sl [[tI J.nodes.length]] (some 1) (some false), tI y.mem, tI y.bit] = encN tNd (setIn (J.nodes ++ [muxN en (in0 c n) (befOf S.bef n)]) n.toNat J.nodes.length) := fun y hy => by
      unfold setIn
      rw [hy]
      exact encN_set (f := tNd) (x := ⟨y.k, ⟨[(J.nodes.length : Int)], some 1, some false⟩, y.mem, y.bit⟩)
    have ihn : (stepSt c en S.bef i n J).nodes = setIn (J.nodes ++ [muxN en (in0 c n) (befOf S.bef n)]) n.toNat J.nodes.length := rfl
    have ihl : (setIn (J.nodes ++ [muxN en (in0 c n) (befOf S.bef n)]) n.toNat J.nodes.length).length = J.nodes.length + 1 := by unfold setIn; simp
    simp [i8E, i8R, i3G, r11, r46, Z8, ihn, ihl, tC, tNodes] at ih
    generalize J.nodes ++ [muxN en (in0 c n) (befOf S.bef n)] = L at *
    generalize setIn L n.toNat J.nodes.length = L2 at *
    have y3 := y2 _ rfl
    generalize L.getD n.toNat Nd.d = y at *
    have y1' : ∀ h : n.toNat < (encN tNd L).length, (encN tNd L)[n.toNat] = tNd y := fun h => by rw [← y1]; simp [h]
    have n5 : n < (J.nodes.length : Int) + 1 := by omega
    have n6 : n.toNat < J.nodes.length + 1 := by omega
    refine ⟨_, _, c4, ?_⟩
    simp [List.idxOf_cons, renSt, wid1s, tk1, q1, enc1_len, encN_len, hLl, n0, n5, n6, y1, y1', y3, tNd_wid, tNd, tSl]
    refine ⟨by have := h1.muxes; omega, ?_⟩
    rw [wrap_i64 (by omega) (by omega), hK]
    simpa [stepSt, nilT, smN, tSl] using ih
end Go.Lg
namespace Go.Lg
open Go Go.Proofs
variable {Γ : Tables}
def seN : List UInt8 := [115, 101]
def scS0 (c : Cir) : IS := ⟨c.nodes.l.map cpNd ++ [inpN], c.names.l ++ [seN], [], [], [], c.outs.l⟩
def scS (c : Cir) (chs : List (Sl Int)) : IS := goCh 0 chs (scS0 c)
def scJ (c : Cir) (chs : List (Sl Int)) : JS := goSt c c.nodes.l.length (scS c chs).bef 0 (states c) ⟨(scS c chs).nodes, (scS c chs).names, []⟩
def scC (c : Cir) (chs : List (Sl Int)) : Cir :=
  ⟨⟨(scJ c chs).nodes, some (scJ c chs).nodes.length, none⟩, ⟨(scJ c chs).names, some (scJ c chs).names.length, none⟩, ⟨[], some 0, some true⟩, ⟨(scS c chs).outs, some (scS c chs).outs.length, if chs = [] then (if c.outs.nl = some true then some true else none) else none⟩⟩
structure InsOk (c : Cir) (chs : Sl (Sl Int)) : Prop where
  ok : COk c
  cp : CpOk c
  names : c.names.l.Nodup
  se : seN ∉ c.names.l
  len : chs.l.length ≤ 100
  lens : ∀ s ∈ chs.l, s.l.length ≤ 1000000000
  n16 : c.nodes.l.length ≤ 1000
  n1 : c.names.l.length ≤ 1000
  s100 : (states c).length ≤ 100
  ch : okCh 0 chs.l (scS0 c)
  st : okSt c c.nodes.l.length (scS c chs.l).bef 0 (states c) ⟨(scS c chs.l).nodes, (scS c chs.l).names, []⟩
  both : chs.l = [] → states c = []
  err : checkErr c chs.l = 0
def tScan (c : Cir) (chs : List (Sl Int)) : T :=
  .agg (tC (scC c chs) ++ [.sl (enc1 tSl (scS c chs).cl) (some (scS c chs).cl.length) none, tI c.nodes.l.length, .sl (ints (scS c chs).ins) (some (scS c chs).ins.length) none, .sl (ints (scJ c chs).muxes) (some (scJ c chs).muxes.length) none])
theorem clip_node (es : List (List T)) (cap : Option Nat) (nl : Option Bool) (hw : wid 4 es) : PureCalls Tryz.prog Γ 88 [.sl es cap nl] (.sl es (some es.length) nl) := by
  refine run_pureQ slices_Clip_api_Node_chk rfl ?_
  simp [slices_Clip_api_Node_ic, slices_Clip_api_Node_rv, hw]
theorem clip_string (es : List (List T)) (cap : Option Nat) (nl : Option Bool) (hw : wid 1 es) : PureCalls Tryz.prog Γ 89 [.sl es cap nl] (.sl es (some es.length) nl) := by
  refine run_pureQ slices_Clip_string_chk rfl ?_
  simp [slices_Clip_string_ic, slices_Clip_string_rv, hw]
theorem goCh_len : ∀ {l : List (Sl Int)} {i : Nat} {S : IS}, S.ins.length = S.cl.length → (goCh i l S).ins.length = (goCh i l S).cl.length
  | [], _, _, h => h
  | s :: l, i, S, h => goCh_len (l := l) (by simp [stepCh, h])
set_option maxHeartbeats 4000000 in
theorem Insert_spec (hΓ : GOk Γ) (c : Cir) (chs : Sl (Sl Int)) (h : InsOk c chs) : PureCalls Tryz.prog Γ 29 [.agg (tC c), tChs chs] (.tup [tScan c chs.l, tI 0]) := by
  refine run_pureQ scans_Insert_chk rfl ?_
  have e1 := scheck_spec hΓ c h.ok chs (by have := h.len; omega) h.lens
  rw [h.err] at e1
  have e2 := states_spec (Γ := Γ) c h.ok
  have e3 := copy_spec (Γ := Γ) c h.cp
  have hn := h.n16
  have hn1 := h.n1
  have hm := h.len
  have hs := h.s100
  simp [scans_Insert_ic]
  simp [tC, tNodes, tNames, tMems, tSl, tChs] at e1 e2 e3
  simp [tC, tNodes, tNames, tMems, tSl, tChs]
  refine callK_fresh e1 rfl ?_
  simp
  refine callK_pure e2 rfl ?_
  have hlim : ¬ (16384 : Int) < (c.nodes.l.length : Int) + 1 + (chs.l.length : Int) + ((states c).length : Int) := by omega
  simp (disch := omega) [encN_len, enc1_len, wrap_i64, hlim]
  refine callK_pure e3 rfl ?_
  have g1 := fun Q N M O h0 => ins_l1 (Γ := Γ) (Q := Q) (.sl (enc1 tSl chs.l) chs.cap chs.nl) (.sl (ints (states c)) (some (states c).length) none) c c.names (by omega) h.names N M O h0 c.names.l.length 0 (by omega)
  simp [tC, tNodes, tNames, tMems, tSl, Z8, nilT, show seenM [] = [] from rfl] at g1
  simp [copyC, enc1_len, cpS, show encN tMm [] = [] from rfl, enc1_nil]
  refine g1 _ _ _ _ ?_
  simp [List.idxOf_cons, sV]
  have c4 := add_tt (Γ := Γ) c.names.l (c.nodes.l.map cpNd) c.names.l c.outs.l (some c.outs.l.length) (if c.outs.nl = some true then some true else none) inpN seN (by simp; omega) (by omega) h.se (by simp [seN])
  simp [tNd, inpN, tSl, enc1_nil, tS, sV, seN] at c4
  refine ⟨_, _, c4, ?_⟩
  simp [List.idxOf_cons, renSt]
  have g5 := fun Q h0 h0t => ins_l5t (Γ := Γ) (Q := Q) c (.sl (ints (states c)) (some (states c).length) none) chs h.len c.nodes.l.length (scS c chs.l) (if c.outs.nl = some true then some true else none) (scS0 c) h0 h0t rfl h.ch rfl
  have hst := h.st
  have hJ : scJ c chs.l = goSt c c.nodes.l.length (scS c chs.l).bef 0 (states c) ⟨(scS c chs.l).nodes, (scS c chs.l).names, []⟩ := rfl
  have hC : scC c chs.l = ⟨⟨(scJ c chs.l).nodes, some (scJ c chs.l).nodes.length, none⟩, ⟨(scJ c chs.l).names, some (scJ c chs.l).names.length, none⟩, ⟨[], some 0, some true⟩, ⟨(scS c chs.l).outs, some (scS c chs.l).outs.length, if chs.l = [] then (if c.outs.nl = some true then some true else none) else none⟩⟩ := rfl
  unfold tScan
  rw [hC]
  have hS0 : scS0 c = scS c [] := rfl
  have hSe : chs.l = [] → scS c chs.l = scS0 c := fun e => by rw [e]; rfl
  have hil : (scS c chs.l).ins.length = (scS c chs.l).cl.length := goCh_len rfl
  generalize scS c chs.l = S at *
  generalize scJ c chs.l = J at *
  have g7 := fun Q h0 => ins_l7 (Γ := Γ) (Q := Q) c (by omega) (states c) hs (some (states c).length) none c.nodes.l.length S J h0 (states c).length 0 ⟨S.nodes, S.names, []⟩ (by omega) hst hJ.symm
  simp [i6E, i6T, i6R, i3H, i3G, r11, r46, scS0, Z8, nilT, tC, tNodes, tNames, tMems, tSl, enc1_nil, inpN, seN, show befM [] = [] from rfl] at g5
  simp [i8E, i8R, i3G, r11, r46, Z8, nilT, tC, tNodes, tNames, tMems, tSl, enc1_nil] at g7
  simp [enc1_len]
  refine g5 _ (fun hne => ?_) (fun he => ?_)
  · simp [enc1_len]
    refine g7 _ ?_
    have k1 : (enc1 tSl S.cl).take S.cl.length = enc1 tSl S.cl := enc1_take_len
    have k2 : (ints S.ins).take S.cl.length = ints S.ins := by rw [← hil]; exact enc1_take_len
    have k3 : (ints S.outs).take S.outs.length = ints S.outs := enc1_take_len
    have k4 : (ints J.muxes).take J.muxes.length = ints J.muxes := enc1_take_len
    have k5 : (encN tNd J.nodes).take J.nodes.length = encN tNd J.nodes := encN_take_len
    have k6 : (enc1 tS J.names).take J.names.length = enc1 tS J.names := enc1_take_len
    simp [St.freeze, Reg.closed, frzRef, frz1, frz0, frzReg, del, reify, k1, k2, k3, k4, k5, k6]
    refine callK_pure (clip_node (encN tNd J.nodes) none none tNd_wid) rfl ?_
    simp
    refine callK_pure (clip_string (enc1 tS J.names) none none enc1_wid) rfl ?_
    simp
    refine callK_pure (clip_int (ints S.outs) none none enc1_wid) rfl ?_
    simp
    refine callK_pure (clip_ints (enc1 tSl S.cl) none none enc1_wid) rfl ?_
    simp
    refine callK_pure (clip_int (ints S.ins) none none enc1_wid) rfl ?_
    simp
    refine callK_pure (clip_int (ints J.muxes) none none enc1_wid) rfl ?_
    simp [scans_Insert_rv, tC, tNodes, tNames, tMems, tSl, encN_len, enc1_len, hne, show encN tMm [] = [] from rfl]
  · have hse : states c = [] := h.both he
    have hS := hSe he
    have hJe : J = ⟨S.nodes, S.names, []⟩ := by rw [hJ, hse]; rfl
    have hl0 : chs.l.length = 0 := by rw [he]; rfl
    subst hJe
    subst hS
    have k5 : (encN tNd (scS0 c).nodes).take (c.nodes.l.length + 1) = encN tNd (scS0 c).nodes := List.take_of_length_le (by simp [scS0, encN])
    have k6 : (enc1 tS (scS0 c).names).take (c.names.l.length + 1) = enc1 tS (scS0 c).names := List.take_of_length_le (by simp [scS0, enc1])
    simp [scS0, inpN, seN] at k5 k6
    simp [enc1_len, hse]
    refine scans_Insert_l7_run fun K hK => ?_
    simp [enc1_len, hse, St.freeze, Reg.closed, frzRef, frz1, frz0, frzReg, del, reify, k5, k6]
    refine callK_pure (clip_node _ none none tNd_wid) rfl ?_
    simp
    refine callK_pure (clip_string _ none none enc1_wid) rfl ?_
    simp
    refine callK_pure (clip_int (ints c.outs.l) (some c.outs.l.length) (if c.outs.nl = some true then some true else none) enc1_wid) rfl ?_
    simp
    refine callK_pure (clip_ints [] none none wid_nil) rfl ?_
    simp
    refine callK_pure (clip_int [] none none wid_nil) rfl ?_
    simp
    refine callK_pure (clip_int [] none none wid_nil) rfl ?_
    simp [scans_Insert_rv, tC, tNodes, tNames, tMems, tSl, encN_len, enc1_len, he, enc1_nil, show encN tMm [] = [] from rfl]
    simp [scS0, inpN, seN, enc1_nil]
end Go.Lg
namespace Go.Lg
open Go Go.Proofs
theorem itoaL_inj : ∀ i, i < 100 → ∀ j, j < 100 → itoaL i = itoaL j → i = j := by decide +kernel
theorem siN_inj {i j : Nat} (hi : i < 100) (hj : j < 100) (h : siN i = siN j) : i = j := itoaL_inj i hi j hj (by simpa [siN] using h)
theorem smN_inj {i j : Nat} (hi : i < 100) (hj : j < 100) (h : smN i = smN j) : i = j := itoaL_inj i hi j hj (by simpa [smN] using h)
def befL : Int → List (Sl Int) → List (Int × Int)
  | _, [] => []
  | n, s :: l => prevs n s.l ++ befL (n + 1) l
def lastL : Int → List (Sl Int) → List Int
  | _, [] => []
  | n, s :: l => lastC n s.l :: lastL (n + 1) l
def insOf (n : Nat) (k : Nat) : List Int := (List.range' n k).map fun q : Nat => (q : Int)
theorem insOf_succ (n k : Nat) : insOf n (k + 1) = (n : Int) :: insOf (n + 1) k := by simp [insOf, List.range'_succ]
theorem goCh_eq : ∀ (l : List (Sl Int)) (i : Nat) (S : IS), goCh i l S = ⟨S.nodes ++ List.replicate l.length inpN, S.names ++ (List.range' i l.length).map siN, S.cl ++ l.map (fun s => ⟨s.l, some s.l.length, none⟩), S.ins ++ insOf S.nodes.length l.length, S.bef ++ befL S.nodes.length l, S.outs ++ lastL S.nodes.length l⟩
  | [], i, S => by simp [goCh, insOf, befL, lastL]
  | s :: l, i, S => by
    simp only [goCh]
    rw [goCh_eq l (i + 1)]
    simp [stepCh, List.replicate_succ, List.range'_succ, insOf_succ, befL, lastL]
theorem okCh_ind : ∀ (l : List (Sl Int)) (i : Nat) (S : IS) (base : List (List UInt8)), S.names = base ++ (List.range' 0 i).map siN → (∀ j, j < 100 → siN j ∉ base) → i + l.length ≤ 100 → S.nodes.length ≤ 2000 + i → S.names.length ≤ 2000 + i → S.cl.length = i → S.ins.length = i → S.outs.length ≤ 2000 + i →
    (S.bef.map (·.1) ++ elems l).Nodup → (∀ s ∈ l, s.l ≠ [] ∧ s.nl ≠ some true ∧ s.l.length ≤ 1000000) → okCh i l S
  | [], _, _, _, _, _, _, _, _, _, _, _, _, _ => trivial
  | s :: l, i, S, base, hn, hb, hi, h1, h2, h3, h4, h5, hnd, hs => by
    simp only [List.length_cons] at hi
    rw [elems_cons, ← List.append_assoc] at hnd
    have hnd2 := hnd
    rw [List.append_assoc] at hnd2
    obtain ⟨d1, d2, d3⟩ := List.nodup_append.1 hnd2
    obtain ⟨e1, e2, e3⟩ := List.nodup_append.1 d2
    obtain ⟨s1, s2, s3⟩ := hs s List.mem_cons_self
    refine ⟨⟨⟨by omega, by omega, by omega, by omega, by omega⟩, ?_, by omega, s1, s2, s3, e1, fun n hnl hm => d3 n hm n (List.mem_append_left _ hnl) rfl⟩, ?_⟩
    · rw [hn, List.mem_append]
      rintro (h | h)
      · exact hb i (by omega) h
      · obtain ⟨j, hj, e⟩ := List.mem_map.1 h
        simp at hj
        have := siN_inj (by omega) (by omega) e
        omega
    · refine okCh_ind l (i + 1) (stepCh i s S) base ?_ hb (by omega) (by simp [stepCh]; omega) (by simp [stepCh]; omega) (by simp [stepCh]; omega) (by simp [stepCh]; omega) (by simp [stepCh]; omega) ?_ fun x hx => hs x (List.mem_cons_of_mem _ hx)
      · simp only [stepCh, hn, List.append_assoc]
        rw [List.range'_concat]
        simp
      · simp only [stepCh, List.map_append, prevs_keys]
        exact hnd
theorem okSt_ind (c : Cir) (en : Int) (bef : List (Int × Int)) : ∀ (l : List Int) (i : Nat) (J : JS) (base : List (List UInt8)), J.names = base ++ (List.range' 0 i).map smN → (∀ j, j < 100 → smN j ∉ base) → i + l.length ≤ 100 → J.nodes.length ≤ 3000 + i → J.names.length ≤ 3000 + i → J.muxes.length = i →
    (∀ n ∈ l, 0 ≤ n ∧ n < c.nodes.l.length ∧ n < J.nodes.length ∧ innAt c n.toNat ≠ []) → okSt c en bef i l J
  | [], _, _, _, _, _, _, _, _, _, _ => trivial
  | n :: l, i, J, base, hn, hb, hi, h1, h2, h3, hs => by
    simp only [List.length_cons] at hi
    obtain ⟨s1, s2, s3, s4⟩ := hs n List.mem_cons_self
    have hlen : (stepSt c en bef i n J).nodes.length = J.nodes.length + 1 := by simp [stepSt, setIn]
    refine ⟨⟨by omega, by omega, by omega, ?_, by omega, s1, s2, s3, s4⟩, ?_⟩
    · rw [hn, List.mem_append]
      rintro (h | h)
      · exact hb i (by omega) h
      · obtain ⟨j, hj, e⟩ := List.mem_map.1 h
        simp at hj
        have := smN_inj (by omega) (by omega) e
        omega
    · refine okSt_ind c en bef l (i + 1) (stepSt c en bef i n J) base ?_ hb (by omega) (by omega) (by simp [stepSt]; omega) (by simp [stepSt]; omega) fun x hx => ?_
      · simp only [stepSt, hn, List.append_assoc]
        rw [List.range'_concat]
        simp
      · obtain ⟨a1, a2, a3, a4⟩ := hs x (List.mem_cons_of_mem _ hx)
        exact ⟨a1, a2, by omega, a4⟩
end Go.Lg
namespace Go.Lg
open Go Go.Proofs
theorem nodes5_16 {x : CD} (hx : CDOk x) : (nodes5 x).length ≤ 16 := by
  have m4 : 0 ≤ x.i.tmod 4 ∧ x.i.tmod 4 < 4 := tmod_lt (n := 4) hx.i.1 (by omega)
  have m3 : 0 ≤ x.f.tmod 3 ∧ x.f.tmod 3 < 3 := tmod_lt (n := 3) hx.f.1 (by omega)
  have l2 : (nodes2 x).length = (x.i.tmod 4 + 1).toNat + (x.f.tmod 3).toNat := by simp [nodes2, nodes1]
  have l3 : (nodes2 x).length ≤ (nodes3 x).length ∧ (nodes3 x).length ≤ 8 := by unfold nodes3; split <;> simp <;> omega
  have l4 : (nodes4 x).length = (nodes3 x).length + min 8 x.gates.l.length := by unfold nodes4; rw [gatesN_len]; simp
  have l5 : (nodes5 x).length = (nodes4 x).length := dataN_len
  omega
end Go.Lg
namespace Go.Lg
open Go Go.Proofs
theorem getN_app {a b : List Nd} {q : Nat} (h : q < a.length) : (a ++ b).getD q Nd.d = a.getD q Nd.d := by
  rw [List.getD_eq_getElem?_getD, List.getElem?_append_left h, ← List.getD_eq_getElem?_getD]
theorem getN_app2 {a b : List Nd} {q : Nat} (h : a.length ≤ q) : (a ++ b).getD q Nd.d = b.getD (q - a.length) Nd.d := by
  rw [List.getD_eq_getElem?_getD, List.getElem?_append_right h, ← List.getD_eq_getElem?_getD]
theorem getN_set {a : List Nd} {j q : Nat} {v : Int} (h : j < a.length) : (setIn a j v).getD q Nd.d = if q = j then ⟨(a.getD j Nd.d).k, ⟨[v], some 1, some false⟩, (a.getD j Nd.d).mem, (a.getD j Nd.d).bit⟩ else a.getD q Nd.d := by
  unfold setIn
  rw [List.getD_eq_getElem?_getD, List.getElem?_set]
  by_cases e : j = q
  · subst e; simp [h]
  · rw [if_neg e, if_neg (fun h => e h.symm), ← List.getD_eq_getElem?_getD]
theorem goSt_eq (c : Cir) (en : Int) (bef : List (Int × Int)) : ∀ (l : List Int) (i : Nat) (J : JS), l.Nodup → (∀ n ∈ l, 0 ≤ n ∧ n < J.nodes.length) →
    (goSt c en bef i l J).nodes.length = J.nodes.length + l.length ∧ (goSt c en bef i l J).names = J.names ++ (List.range' i l.length).map smN ∧ (goSt c en bef i l J).muxes = J.muxes ++ insOf J.nodes.length l.length ∧
    (∀ q, q < J.nodes.length → (q : Int) ∉ l → (goSt c en bef i l J).nodes.getD q Nd.d = J.nodes.getD q Nd.d) ∧
    (∀ k, k < l.length → (goSt c en bef i l J).nodes.getD (l.getD k 0).toNat Nd.d = ⟨(J.nodes.getD (l.getD k 0).toNat Nd.d).k, ⟨[((J.nodes.length + k : Nat) : Int)], some 1, some false⟩, (J.nodes.getD (l.getD k 0).toNat Nd.d).mem, (J.nodes.getD (l.getD k 0).toNat Nd.d).bit⟩) ∧
    (∀ k, k < l.length → (goSt c en bef i l J).nodes.getD (J.nodes.length + k) Nd.d = muxN en (in0 c (l.getD k 0)) (befOf bef (l.getD k 0)))
  | [], i, J, _, _ => ⟨rfl, by simp [goSt], by simp [goSt, insOf], fun q _ _ => rfl, fun k h => by simp at h, fun k h => by simp at h⟩
  | n :: l, i, J, hnd, hs => by
    obtain ⟨hn1, hn2⟩ := List.nodup_cons.1 hnd
    obtain ⟨n0, n1⟩ := hs n List.mem_cons_self
    have hlen : (stepSt c en bef i n J).nodes.length = J.nodes.length + 1 := by simp [stepSt, setIn]
    obtain ⟨a1, a2, a3, a4, a5, a6⟩ := goSt_eq c en bef l (i + 1) (stepSt c en bef i n J) hn2 fun x hx => by
      have := hs x (List.mem_cons_of_mem _ hx)
      exact ⟨this.1, by omega⟩
    have hlt : n.toNat < (J.nodes ++ [muxN en (in0 c n) (befOf bef n)]).length := by simp; omega
    have hst : ∀ q, (stepSt c en bef i n J).nodes.getD q Nd.d = if q = n.toNat then ⟨(J.nodes.getD n.toNat Nd.d).k, ⟨[(J.nodes.length : Int)], some 1, some false⟩, (J.nodes.getD n.toNat Nd.d).mem, (J.nodes.getD n.toNat Nd.d).bit⟩ else (J.nodes ++ [muxN en (in0 c n) (befOf bef n)]).getD q Nd.d := fun q => by
      simp only [stepSt]
      rw [getN_set hlt, getN_app (by omega)]
    simp only [goSt]
    refine ⟨by rw [a1, hlen]; simp; omega, ?_, ?_, ?_, ?_, ?_⟩
    · rw [a2]; simp [stepSt, List.range'_succ]
    · rw [a3, hlen]; simp only [stepSt, List.append_assoc, List.length_cons, insOf_succ]; rfl
    · intro q hq hm
      rw [a4 q (by omega) fun h => hm (List.mem_cons_of_mem _ h), hst, if_neg (fun e => hm (by have : (q : Int) = n := by omega
                                                                                               rw [this]; exact List.mem_cons_self)), getN_app hq]
    · intro k hk
      cases k with
      | zero =>
        simp only [List.getD_cons_zero]
        rw [a4 n.toNat (by omega) fun h => hn1 (by have : ((n.toNat : Nat) : Int) = n := by omega
                                                   rw [this] at h; exact h), hst, if_pos rfl]
        rfl
      | succ k =>
        simp only [List.getD_cons_succ]
        have hk' : k < l.length := by simpa using hk
        have hin : l.getD k 0 ∈ l := by rw [getD_eq hk']; exact List.getElem_mem _
        have hb := hs _ (List.mem_cons_of_mem _ hin)
        have hne : ¬ (l.getD k 0).toNat = n.toNat := fun e => hn1 (by have : l.getD k 0 = n := by omega
                                                                      rw [← this]; exact hin)
        rw [a5 k hk', hst, if_neg hne, getN_app (by omega), hlen]
        congr 4
        omega
    · intro k hk
      cases k with
      | zero =>
        simp only [List.getD_cons_zero, Nat.add_zero]
        rw [a4 J.nodes.length (by omega) fun h => by have := (hs _ (List.mem_cons_of_mem _ h)).2; omega, hst, if_neg (by omega), getN_app2 (Nat.le_refl _)]
        simp
      | succ k =>
        simp only [List.getD_cons_succ]
        have hk' : k < l.length := by simpa using hk
        rw [← a6 k hk', hlen]
        congr 1
        omega
end Go.Lg
namespace Go.Lg
open Go Go.Proofs
theorem valid_of {c : Cir} (hg : GNs false c.nodes.l) (hm : c.mems.l = []) (hn : c.nodes.l.length ≤ 16384) (ho : c.outs.l.length ≤ 16384 ∧ ∀ p ∈ c.outs.l, 0 ≤ p ∧ p < c.nodes.l.length) (hnm : c.names.l.length = c.nodes.l.length) (hne : namesErr [] c.names.l = 0) : levErr c = 0 := by
  have hout : ∀ n, 0 ≤ n ∧ n < (c.nodes.l.length : Int) → outP c n = false := fun n h => by simp [outP]; omega
  have hnode : ∀ y ∈ c.nodes.l, nodeErr c y = 0 := by
    intro y hy
    obtain ⟨i, hi, rfl⟩ := List.getElem_of_mem hy
    have hn := hg i hi
    unfold nodeErr
    rw [if_neg (by have := hn.k; omega), if_neg (by have := hn.f; omega)]
    have h1 : c.nodes.l[i].inn.l.any (outP c) = false := List.any_eq_false.2 fun p hp => by rw [hout p (hn.inn p hp)]; simp
    rw [h1]
    have h2 : ¬ (c.nodes.l[i].k = 13 ∧ c.nodes.l[i].inn.l.any (notTri c) = true) := by
      rintro ⟨hk, ha⟩
      obtain ⟨p, hp, hq⟩ := List.any_eq_true.1 ha
      have := hn.bus hk p hp
      simp only [notTri, decide_eq_true_eq] at hq
      exact hq this
    rw [if_neg (by simp), if_neg h2]
    have h3 : bitOk c c.nodes.l[i] = true := by
      unfold bitOk
      by_cases hk : c.nodes.l[i].k = 15
      · have := (hn.mm.2 hk).1
        cases this
      · have := hn.mm.1 hk
        simp [hk, this]
    rw [h3]; simp
  have hs : shapeErr c = 0 := by
    unfold shapeErr
    rw [if_neg (by rw [hm]; simp; omega), if_neg (by simp [hnm]), if_neg (by rw [firstErr_all hnode]; simp), if_neg (by rw [hne]; simp), if_neg (by rw [hm]; simp [firstErr])]
    have : c.outs.l.any (outP c) = false := List.any_eq_false.2 fun p hp => by rw [hout p (ho.2 p hp)]; simp
    rw [this]; rfl
  have hd := levels_done c (shape_facts hs).2.1 (shape_in hs) (by
    intro i hi hc p hp
    have e : c.nodes.l.getD i Nd.d = c.nodes.l[i] := by simp [List.getD_eq_getElem?_getD, hi]
    simp only [kindAt, innAt, e] at hc hp
    exact (hg i hi).top (by simpa [combB] using hc) p hp)
  unfold levErr
  rw [if_neg (by simp [hs]), if_neg hd]
structure ScOk (c : Cir) (ch : List (Sl Int)) : Prop where
  ok : COk c
  cp : CpOk c
  good : GNs false c.nodes.l
  n1 : 1 ≤ c.nodes.l.length
  n2 : c.nodes.l.length ≤ 16
  nms : c.names.l = (List.range' 0 c.nodes.l.length).map nameL
  outs : c.outs.l.length ≤ 4 ∧ ∀ p ∈ c.outs.l, 0 ≤ p ∧ p < c.nodes.l.length
  perm : (elems ch).Perm (states c)
  ne : ∀ s ∈ ch, s.l ≠ [] ∧ s.nl ≠ some true
theorem nd_cases {B : Bool} {ns : List Nd} (h : GNs B ns) {i : Nat} (hi : i < ns.length) : NG B ns i (ns.getD i Nd.d) := by
  have := h i hi
  rwa [show ns.getD i Nd.d = ns[i] by simp [List.getD_eq_getElem?_getD, hi]]
/-! The nodes are lists that tell whether they are nil. -/
def SNs (ns : List Nd) : Prop := ∀ x ∈ ns, SlOk x.inn
theorem slok_none {l : List Int} (h : l ≠ []) (h2 : l.length ≤ 1000000) : SlOk (⟨l, none, none⟩ : Sl Int) := ⟨(fun h => nomatch h), (fun _ => h), h2⟩
theorem slok_some {l : List Int} {c : Option Nat} (h2 : l.length ≤ 1000000) : SlOk (⟨l, c, some false⟩ : Sl Int) := ⟨(fun h => nomatch h), (fun h => nomatch h), h2⟩
theorem slok_nil {c : Option Nat} : SlOk (⟨[], c, some true⟩ : Sl Int) := ⟨(fun _ => rfl), (fun h => nomatch h), by simp⟩
theorem sns_gate {bus : Bool} {g : Gd} {ns : List Nd} : SlOk (gateN bus g ns).inn := by
  unfold gateN gateT
  generalize (if bus = true then g.k.tmod 13 else g.k.tmod 9) = kk
  by_cases h1 : kk < 6
  · simp only [h1, if_true]
    split
    · exact slok_none (by simp) (by simp)
    · exact slok_none (by simp) (by simp)
  · simp only [h1, if_false]
    split
    · exact slok_none (by simp) (by simp)
    split
    · exact slok_none (by simp) (by simp)
    split
    · exact slok_none (by simp) (by simp)
    split
    · by_cases h2 : 1 < (triL ns).length
      · simp only [h2, if_true]
        exact slok_none (by simp) (by simp)
      · simp only [h2, if_false]
        exact slok_none (by simp) (by simp)
    split
    · exact slok_nil
    · exact slok_none (by simp) (by simp)
theorem sns_gates {bus : Bool} : ∀ {l : List Gd} {ns : List Nd}, SNs ns → SNs (gatesN bus l ns)
  | [], ns, h => h
  | g :: l, ns, h => by
    simp only [gatesN]
    refine sns_gates fun x hx => ?_
    rcases List.mem_append.1 hx with hx | hx
    · exact h x hx
    · simp at hx; subst hx; exact sns_gate
theorem sns_data {x : CD} {first : Nat} : ∀ {k i : Nat} {ns : List Nd}, SNs ns → SNs (dataN x first k i ns)
  | 0, _, _, h => h
  | k + 1, i, ns, h => by
    simp only [dataN]
    refine sns_data fun y hy => ?_
    rcases List.mem_or_eq_of_mem_set hy with hy | rfl
    · exact h y hy
    · exact slok_some (by simp)
theorem sns_nodes {x : CD} (hm : x.mem = false) : SNs (nodes5 x) := by
  unfold nodes5 nodes4 nodes3
  rw [hm]
  refine sns_data (sns_gates fun y hy => ?_)
  simp only [Bool.false_eq_true, if_false, nodes2, nodes1, List.mem_append, List.mem_replicate] at hy
  rcases hy with ⟨_, rfl⟩ | ⟨_, rfl⟩
  · exact slok_nil
  · exact slok_some (by simp)
theorem case_scok {y : CaseD} (hy : CaseOk y) : ScOk (caseC y) (caseCh y) := by
  have hx := noMemX_ok hy.x
  have hN : (caseC y).nodes.l = nodes5 (noMemX y.x) := rfl
  have hl4 := nodes4_len hx
  have h54 : (nodes5 (noMemX y.x)).length = (nodes4 (noMemX y.x)).length := dataN_len
  have h16 : (nodes5 (noMemX y.x)).length ≤ 16 := nodes5_16 hx
  have hpe := permS_perm (min (states (caseC y)).length y.keys.l.length) 0 y.keys.l (states (caseC y)) (by omega)
  have hmods : ∀ b, Byt b → 0 ≤ b.tmod (nodes4 (noMemX y.x)).length ∧ b.tmod (nodes4 (noMemX y.x)).length < ((nodes5 (noMemX y.x)).length : Int) := fun b hb => by
    have := tmod_lt (n := (nodes4 (noMemX y.x)).length) hb.1 (by omega); omega
  have hout : ∀ p ∈ (caseC y).outs.l, 0 ≤ p ∧ p < ((caseC y).nodes.l.length : Int) := fun p hp => by
    rw [hN]
    simp only [caseC, ofC, List.mem_append, List.mem_map, List.mem_singleton] at hp
    rcases hp with ⟨b, hb, rfl⟩ | rfl
    · exact hmods b (hx.outs b (List.mem_of_mem_take hb))
    · omega
  have hol : (caseC y).outs.l.length ≤ 4 := by simp [caseC, ofC]; omega
  have hne : (nodes5 (noMemX y.x)) ≠ [] := List.length_pos_iff.1 (by omega)
  have hnl : (caseC y).names.l.length = (nodes4 (noMemX y.x)).length := by simp [caseC, ofC]
  refine ⟨ofC_ok hx, ⟨hne, by rw [hN]; omega, (fun h => nomatch h), List.length_pos_iff.1 (by omega), by omega, (fun h => nomatch h), rfl, ?_, slok_none (by simp) (by simp; omega)⟩, nodes5_good hx, by rw [hN]; omega, by rw [hN]; omega, ?_, ⟨hol, hout⟩, ?_, cutS_ne _ _⟩
  · exact sns_nodes (x := noMemX y.x) rfl
  · show (List.range' 0 (nodes4 (noMemX y.x)).length).map nameL = (List.range' 0 (nodes5 (noMemX y.x)).length).map nameL
    rw [h54]
  · unfold caseCh; rw [cutS_elems]; exact hpe
end Go.Lg
namespace Go.Lg
open Go Go.Proofs
theorem prevs_val : ∀ (l : List Int) (a : Int), ∀ p ∈ prevs a l, p.2 = a ∨ p.2 ∈ l
  | [], a, p, h => by cases h
  | n :: l, a, p, h => by
    simp only [prevs, List.mem_cons] at h
    rcases h with rfl | h
    · exact .inl rfl
    · rcases prevs_val l n p h with e | e
      · exact .inr (by rw [e]; exact List.mem_cons_self)
      · exact .inr (List.mem_cons_of_mem _ e)
theorem befL_val : ∀ (l : List (Sl Int)) (b : Int), ∀ p ∈ befL b l, (b ≤ p.2 ∧ p.2 < b + l.length) ∨ p.2 ∈ elems l
  | [], b, p, h => by cases h
  | s :: l, b, p, h => by
    simp only [befL, List.mem_append] at h
    rw [elems_cons]
    rcases h with h | h
    · rcases prevs_val s.l b p h with e | e
      · exact .inl ⟨by omega, by simp; omega⟩
      · exact .inr (List.mem_append_left _ e)
    · rcases befL_val l (b + 1) p h with e | e
      · exact .inl ⟨by omega, by simp; omega⟩
      · exact .inr (List.mem_append_right _ e)
theorem befOf_val (l : List (Int × Int)) (n : Int) : befOf l n = 0 ∨ ∃ p ∈ l, befOf l n = p.2 := by
  unfold befOf
  cases h : l.find? (fun p => p.1 == n) with
  | none => exact .inl rfl
  | some p => exact .inr ⟨p, List.mem_of_find?_eq_some h, rfl⟩
def m0 (c : Cir) (ch : List (Sl Int)) : Nat := c.nodes.l.length + 1 + ch.length
theorem getN_map {l : List Nd} {q : Nat} (h : q < l.length) : (l.map cpNd).getD q Nd.d = cpNd (l.getD q Nd.d) := by
  simp [List.getD_eq_getElem?_getD, h]
structure ScF (c : Cir) (ch : List (Sl Int)) : Prop where
  chl : ch.length ≤ 16
  stl : (states c).length ≤ 16
  sn : (scS c ch).nodes = c.nodes.l.map cpNd ++ [inpN] ++ List.replicate ch.length inpN
  snl : (scS c ch).nodes.length = m0 c ch
  snm : (scS c ch).names = c.names.l ++ [seN] ++ (List.range' 0 ch.length).map siN
  cl : (scS c ch).cl = ch.map (fun s => ⟨s.l, some s.l.length, none⟩)
  ins : (scS c ch).ins = insOf (c.nodes.l.length + 1) ch.length
  bef : (scS c ch).bef = befL (c.nodes.l.length + 1 : Nat) ch
  outs : (scS c ch).outs = c.outs.l ++ lastL (c.nodes.l.length + 1 : Nat) ch
  len : (scJ c ch).nodes.length = m0 c ch + (states c).length
  nm : (scJ c ch).names = c.names.l ++ [seN] ++ (List.range' 0 ch.length).map siN ++ (List.range' 0 (states c).length).map smN
  mux : (scJ c ch).muxes = insOf (m0 c ch) (states c).length
  old : ∀ q, q < c.nodes.l.length → kindAt c q ≠ 14 → (scJ c ch).nodes.getD q Nd.d = cpNd (c.nodes.l.getD q Nd.d)
  dff : ∀ q, q < c.nodes.l.length → kindAt c q = 14 → (scJ c ch).nodes.getD q Nd.d = ⟨14, ⟨[((m0 c ch + rankK 14 c q : Nat) : Int)], some 1, some false⟩, (c.nodes.l.getD q Nd.d).mem, (c.nodes.l.getD q Nd.d).bit⟩
  inp : ∀ q, c.nodes.l.length ≤ q → q < m0 c ch → (scJ c ch).nodes.getD q Nd.d = inpN
  mx : ∀ k, k < (states c).length → (scJ c ch).nodes.getD (m0 c ch + k) Nd.d = muxN c.nodes.l.length (in0 c ((states c).getD k 0)) (befOf (befL (c.nodes.l.length + 1 : Nat) ch) ((states c).getD k 0))
theorem scF {c : Cir} {ch : List (Sl Int)} (h : ScOk c ch) : ScF c ch := by
  have hsl : (states c).length ≤ c.nodes.l.length := ofL_len _ _ _
  have hn2 := h.n2
  have hle := elems_le ch fun s hs => (h.ne s hs).1
  have hpl := h.perm.length_eq
  have hS : scS c ch = _ := goCh_eq ch 0 (scS0 c)
  have s1 : (scS c ch).nodes = c.nodes.l.map cpNd ++ [inpN] ++ List.replicate ch.length inpN := by rw [hS]; rfl
  have s2 : (scS c ch).nodes.length = m0 c ch := by rw [s1]; simp [m0]; omega
  have s3 : (scS c ch).names = c.names.l ++ [seN] ++ (List.range' 0 ch.length).map siN := by rw [hS]; rfl
  have l0 : (scS0 c).nodes.length = c.nodes.l.length + 1 := by simp [scS0]
  have s4 : (scS c ch).bef = befL (c.nodes.l.length + 1 : Nat) ch := by
    rw [hS]; show ([] : List (Int × Int)) ++ befL ((scS0 c).nodes.length) ch = _
    rw [l0]; rfl
  have hnd : (states c).Nodup := (ofL_nodup [14] c.nodes.l 0).2
  have hin : ∀ n ∈ states c, 0 ≤ n ∧ n < (scS c ch).nodes.length := fun n hn => by
    have := ofL_in (k := 14) (c := c) n hn
    rw [s2]; unfold m0; omega
  obtain ⟨a1, a2, a3, a4, a5, a6⟩ := goSt_eq c c.nodes.l.length (scS c ch).bef (states c) 0 ⟨(scS c ch).nodes, (scS c ch).names, []⟩ hnd hin
  have hJ : scJ c ch = goSt c c.nodes.l.length (scS c ch).bef 0 (states c) ⟨(scS c ch).nodes, (scS c ch).names, []⟩ := rfl
  rw [← hJ] at a1 a2 a3 a4 a5 a6
  simp only [s2] at a1 a3 a4 a5 a6
  have hg : ∀ q, q < c.nodes.l.length → (scS c ch).nodes.getD q Nd.d = cpNd (c.nodes.l.getD q Nd.d) := fun q hq => by
    rw [s1, List.append_assoc, getN_app (by simpa using hq), getN_map hq]
  refine ⟨by omega, by omega, s1, s2, s3, by rw [hS]; rfl, ?_, s4, ?_, a1, by rw [a2, s3], by rw [a3]; rfl, ?_, ?_, ?_, ?_⟩
  · rw [hS]; show ([] : List Int) ++ insOf (scS0 c).nodes.length ch.length = _
    rw [l0]; rfl
  · rw [hS]; show c.outs.l ++ lastL ((scS0 c).nodes.length) ch = _
    rw [l0]
  · intro q hq hk
    rw [a4 q (by unfold m0; omega) fun hm => hk ((mem_ofL hq).1 hm), hg q hq]
  · intro q hq hk
    obtain ⟨r1, r2⟩ := rank_at hq hk
    have := a5 (rankK 14 c q) r1
    have e : (states c).getD (rankK 14 c q) 0 = (q : Int) := r2
    rw [e] at this
    simp only [Int.toNat_natCast] at this
    rw [this, hg q hq]
    have hk' : (c.nodes.l.getD q Nd.d).k = 14 := hk
    simp only [cpNd, hk']
  · intro q h1 h2
    rw [a4 q h2 fun hm => by have := (ofL_in (k := 14) (c := c) _ hm).2.1; omega]
    rw [s1, List.append_assoc, getN_app2 (by simpa using h1)]
    simp only [List.length_map]
    have h3 : q - c.nodes.l.length < ([inpN] ++ List.replicate ch.length inpN).length := by simp; unfold m0 at h2; omega
    have : ∀ x ∈ [inpN] ++ List.replicate ch.length inpN, x = inpN := fun x hx => by
      rcases List.mem_append.1 hx with hx | hx
      · simpa using hx
      · exact (List.mem_replicate.1 hx).2
    rw [List.getD_eq_getElem?_getD, List.getElem?_eq_getElem h3]
    exact this _ (List.getElem_mem h3)
  · intro k hk
    rw [← s4]
    exact a6 k hk
end Go.Lg
namespace Go.Lg
open Go Go.Proofs
variable {c : Cir} {ch : List (Sl Int)}
theorem bef_rng (h : ScOk c ch) (n : Int) : 0 ≤ befOf (befL (c.nodes.l.length + 1 : Nat) ch) n ∧ befOf (befL (c.nodes.l.length + 1 : Nat) ch) n < m0 c ch := by
  have hf := scF h
  unfold m0
  rcases befOf_val (befL (c.nodes.l.length + 1 : Nat) ch) n with e | ⟨p, hp, e⟩
  · rw [e]; omega
  · rw [e]
    rcases befL_val ch _ p hp with e2 | e2
    · omega
    · have := ofL_in (k := 14) (c := c) _ (h.perm.mem_iff.1 e2)
      omega
theorem st_inn (h : ScOk c ch) {n : Int} (hn : n ∈ states c) : ∃ v, innAt c n.toNat = [v] ∧ 0 ≤ v ∧ v < c.nodes.l.length ∧ in0 c n = v := by
  obtain ⟨n0, n1, nk⟩ := ofL_in (k := 14) (c := c) n hn
  have hg := nd_cases h.good (i := n.toNat) (by omega)
  have hk : (c.nodes.l.getD n.toNat Nd.d).k = 14 := nk
  have hf := hg.f
  rw [hk, show fan 14 = (1, 1) by rfl] at hf
  have hi : innAt c n.toNat = (c.nodes.l.getD n.toNat Nd.d).inn.l := rfl
  rw [← hi] at hf
  have hr := hg.inn
  rw [← hi] at hr
  match hl : innAt c n.toNat with
  | [] => rw [hl] at hf; simp at hf
  | [v] =>
    rw [hl] at hr
    have := hr v (by simp)
    exact ⟨v, rfl, this.1, this.2, by simp [in0, hl]⟩
  | _ :: _ :: _ => rw [hl] at hf; simp at hf; omega
theorem sc_kind (h : ScOk c ch) {q : Nat} (hq : q < c.nodes.l.length) : ((scJ c ch).nodes.getD q Nd.d).k = kindAt c q := by
  have hf := scF h
  by_cases hk : kindAt c q = 14
  · rw [hf.dff q hq hk]; exact hk.symm
  · rw [hf.old q hq hk]; rfl
theorem sc_good (h : ScOk c ch) : GNs false (scJ c ch).nodes := by
  have hf := scF h
  intro q hq
  have hql := hf.len
  have e : (scJ c ch).nodes[q] = (scJ c ch).nodes.getD q Nd.d := by simp [List.getD_eq_getElem?_getD, hq]
  rw [e]
  by_cases h1 : q < c.nodes.l.length
  · have hg := nd_cases h.good h1
    by_cases hk : kindAt c q = 14
    · obtain ⟨r1, r2⟩ := rank_at h1 hk
      have hk' : (c.nodes.l.getD q Nd.d).k = 14 := hk
      have hmm := hg.mm
      rw [hk'] at hmm
      have r1' : rankK 14 c q < (states c).length := r1
      rw [hf.dff q h1 hk]
      refine ⟨by simp, by simp [show fan 14 = (1, 1) by rfl], ?_, fun h => by simp at h, fun h => by simp at h, hmm⟩
      intro p hp
      simp at hp
      subst hp
      rw [hql]; omega
    · rw [hf.old q h1 hk]
      refine ⟨hg.k, hg.f, fun p hp => ?_, hg.top, fun hb p hp => ?_, hg.mm⟩
      · have := hg.inn p hp; rw [hql]; unfold m0; omega
      · have hr := hg.inn p hp
        rw [sc_kind h (by omega)]
        exact hg.bus hb p hp
  · by_cases h2 : q < m0 c ch
    · rw [hf.inp q (by omega) h2]
      exact ng_inp
    · obtain ⟨k, rfl⟩ : ∃ k, q = m0 c ch + k := ⟨q - m0 c ch, by omega⟩
      have hkl : k < (states c).length := by omega
      rw [hf.mx k hkl]
      have hm : (states c).getD k 0 ∈ states c := by rw [getD_eq hkl]; exact List.getElem_mem _
      obtain ⟨v, hv, v0, v1, v2⟩ := st_inn h hm
      have hb := bef_rng h ((states c).getD k 0)
      rw [v2]
      have hm0 : c.nodes.l.length < m0 c ch := by unfold m0; omega
      refine ⟨by simp [muxN], by simp [muxN, show fan 11 = (3, 3) by rfl], ?_, ?_, fun h => by simp [muxN] at h, by simp [muxN]⟩
      · intro p hp
        simp only [muxN, List.mem_cons, List.not_mem_nil, or_false] at hp
        rw [hql]
        rcases hp with rfl | rfl | rfl <;> omega
      · intro _ p hp
        simp only [muxN, List.mem_cons, List.not_mem_nil, or_false] at hp
        rcases hp with rfl | rfl | rfl <;> omega
theorem namesErr_zero : ∀ (l done : List (List UInt8)), (∀ s ∈ l, isName s = true) → (done ++ l).Nodup → namesErr done l = 0
  | [], _, _, _ => rfl
  | s :: l, done, h, hn => by
    have h1 := h s List.mem_cons_self
    have h2 : s ∉ done := fun hm => (List.nodup_append.1 hn).2.2 s hm s List.mem_cons_self rfl
    simp only [namesErr]
    rw [if_neg (by simp [h1, h2])]
    exact namesErr_zero l (done ++ [s]) (fun x hx => h x (List.mem_cons_of_mem _ hx)) (by rw [List.append_assoc]; exact hn)
theorem isName_n : ∀ i, i < 100 → isName (nameL i) = true ∧ isName (siN i) = true ∧ isName (smN i) = true := by decide +kernel
theorem asc_n : ∀ i, i < 100 → (∀ b ∈ nameL i, b < 128) ∧ (∀ b ∈ siN i, b < 128) ∧ ∀ b ∈ smN i, b < 128 := by decide +kernel
theorem nameL_inj : ∀ i, i < 100 → ∀ j, j < 100 → nameL i = nameL j → i = j := by decide +kernel
theorem map_nodup {α : Type} {f : Nat → α} {n : Nat} (hf : ∀ i, i < n → ∀ j, j < n → f i = f j → i = j) : ((List.range' 0 n).map f).Nodup := by
  rw [List.nodup_iff_pairwise_ne, List.pairwise_map]
  refine (List.Pairwise.imp_of_mem ?_ (List.nodup_iff_pairwise_ne.1 (List.nodup_range' (s := 0) (n := n) (step := 1))))
  intro a b ha hb hab e
  simp at ha hb
  exact hab (hf a (by omega) b (by omega) e)
theorem sc_names (h : ScOk c ch) : (scJ c ch).names.Nodup ∧ ∀ s ∈ (scJ c ch).names, isName s = true ∧ ∀ b ∈ s, b < 128 := by
  have hf := scF h
  have hn2 := h.n2
  have hc := hf.chl
  have hs := hf.stl
  rw [hf.nm, h.nms]
  constructor
  · have n1 : ((List.range' 0 c.nodes.l.length).map nameL).Nodup := map_nodup fun i hi j hj e => nameL_inj i (by omega) j (by omega) e
    have n2 : ((List.range' 0 ch.length).map siN).Nodup := map_nodup fun i hi j hj e => siN_inj (by omega) (by omega) e
    have n3 : ((List.range' 0 (states c).length).map smN).Nodup := map_nodup fun i hi j hj e => smN_inj (by omega) (by omega) e
    refine List.nodup_append.2 ⟨List.nodup_append.2 ⟨List.nodup_append.2 ⟨n1, by simp, ?_⟩, n2, ?_⟩, n3, ?_⟩
    · intro a ha b hb e
      obtain ⟨i, _, rfl⟩ := List.mem_map.1 ha
      simp at hb
      rw [hb] at e
      simp [nameL, seN] at e
    · intro a ha b hb e
      obtain ⟨j, _, rfl⟩ := List.mem_map.1 hb
      rcases List.mem_append.1 ha with ha | ha
      · obtain ⟨i, _, rfl⟩ := List.mem_map.1 ha
        simp [nameL, siN] at e
      · simp at ha
        rw [ha] at e
        simp [siN, seN] at e
    · intro a ha b hb e
      obtain ⟨j, _, rfl⟩ := List.mem_map.1 hb
      rcases List.mem_append.1 ha with ha | ha
      · rcases List.mem_append.1 ha with ha | ha
        · obtain ⟨i, _, rfl⟩ := List.mem_map.1 ha
          simp [nameL, smN] at e
        · simp at ha
          rw [ha] at e
          simp [smN, seN] at e
      · obtain ⟨i, _, rfl⟩ := List.mem_map.1 ha
        simp [siN, smN] at e
  · intro s hs'
    rcases List.mem_append.1 hs' with hs' | hs'
    · rcases List.mem_append.1 hs' with hs' | hs'
      · rcases List.mem_append.1 hs' with hs' | hs'
        · obtain ⟨i, hi, rfl⟩ := List.mem_map.1 hs'
          simp at hi
          exact ⟨(isName_n i (by omega)).1, (asc_n i (by omega)).1⟩
        · simp at hs'
          subst hs'
          exact ⟨by decide +kernel, by decide⟩
      · obtain ⟨i, hi, rfl⟩ := List.mem_map.1 hs'
        simp at hi
        exact ⟨(isName_n i (by omega)).2.1, (asc_n i (by omega)).2.1⟩
    · obtain ⟨i, hi, rfl⟩ := List.mem_map.1 hs'
      simp at hi
      exact ⟨(isName_n i (by omega)).2.2, (asc_n i (by omega)).2.2⟩
end Go.Lg
namespace Go.Lg
open Go Go.Proofs
variable {c : Cir} {ch : List (Sl Int)}
theorem lastC_mem : ∀ (l : List Int) (a : Int), l ≠ [] → lastC a l = l.getLastD 0 ∧ lastC a l ∈ l
  | [], _, h => absurd rfl h
  | [n], a, _ => ⟨rfl, by simp [lastC]⟩
  | n :: m :: l, a, _ => by
    have := lastC_mem (m :: l) n (by simp)
    simp only [lastC] at this ⊢
    refine ⟨?_, List.mem_cons_of_mem _ this.2⟩
    rw [this.1]; simp [List.getLastD]
theorem lastL_eq : ∀ (l : List (Sl Int)) (b : Int), (∀ s ∈ l, s.l ≠ []) → lastL b l = l.map fun s => s.l.getLastD 0
  | [], _, _ => rfl
  | s :: l, b, h => by
    simp only [lastL, List.map_cons]
    rw [(lastC_mem s.l b (h s List.mem_cons_self)).1, lastL_eq l (b + 1) fun x hx => h x (List.mem_cons_of_mem _ hx)]
theorem last_in (h : ScOk c ch) {s : Sl Int} (hs : s ∈ ch) : s.l.getLastD 0 ∈ s.l ∧ 0 ≤ s.l.getLastD 0 ∧ s.l.getLastD 0 < c.nodes.l.length ∧ kindAt c (s.l.getLastD 0).toNat = 14 := by
  have h1 := lastC_mem s.l 0 (h.ne s hs).1
  rw [← h1.1]
  have hm : lastC 0 s.l ∈ elems ch := by
    unfold elems
    exact List.mem_flatten.2 ⟨s.l, List.mem_map.2 ⟨s, hs, rfl⟩, h1.2⟩
  have := ofL_in (k := 14) (c := c) _ (h.perm.mem_iff.1 hm)
  exact ⟨h1.2, this⟩
theorem sc_outs (h : ScOk c ch) : (scC c ch).outs.l = c.outs.l ++ ch.map fun s => s.l.getLastD 0 := by
  show (scS c ch).outs = _
  rw [(scF h).outs, lastL_eq _ _ fun s hs => (h.ne s hs).1]
theorem sc_valid (h : ScOk c ch) : levErr (scC c ch) = 0 := by
  have hf := scF h
  have hn2 := h.n2
  have ho := h.outs
  have hc := hf.chl
  have hs := hf.stl
  have hN : (scC c ch).nodes.l = (scJ c ch).nodes := rfl
  have hnl : (scC c ch).nodes.l.length = m0 c ch + (states c).length := hf.len
  refine valid_of (sc_good h) rfl (by rw [hnl]; unfold m0; omega) ⟨?_, ?_⟩ ?_ ?_
  · rw [sc_outs h]; simp; omega
  · intro p hp
    rw [sc_outs h] at hp
    rw [hnl]
    rcases List.mem_append.1 hp with hp | hp
    · have := ho.2 p hp; unfold m0; omega
    · obtain ⟨s, hs', rfl⟩ := List.mem_map.1 hp
      have := last_in h hs'
      unfold m0; omega
  · rw [hnl]
    show (scJ c ch).names.length = _
    rw [hf.nm, h.nms]; simp [m0]; omega
  · have := sc_names h
    exact namesErr_zero _ [] (fun s hs => (this.2 s hs).1) (by rw [List.nil_append]; exact this.1)
theorem sc_cok (h : ScOk c ch) : COk (scC c ch) := by
  have hf := scF h
  have hn2 := h.n2
  have ho := h.outs
  have hc := hf.chl
  have hs := hf.stl
  have hg := sc_good h
  have hN : (scC c ch).nodes.l = (scJ c ch).nodes := rfl
  have hnl : (scC c ch).nodes.l.length = m0 c ch + (states c).length := hf.len
  have hfl := fun k : Int => fan_le k
  refine ⟨⟨by rw [hnl]; unfold m0; omega, ?_, by show ([] : List Mm).length ≤ _; simp, by rw [sc_outs h]; simp; omega, ?_, ?_, fun m hm => by cases hm⟩, fun s hs => ((sc_names h).2 s hs).2⟩
  · show (scJ c ch).names.length ≤ _
    rw [hf.nm, h.nms]; simp; omega
  · intro x hx
    obtain ⟨i, hi, rfl⟩ := List.getElem_of_mem hx
    have := (hg i hi).k
    show 0 ≤ (scJ c ch).nodes[i].k ∧ (scJ c ch).nodes[i].k ≤ 255
    omega
  · intro x hx
    obtain ⟨i, hi, rfl⟩ := List.getElem_of_mem hx
    have := (hg i hi).f
    have h3 := hfl ((scJ c ch).nodes[i]'hi).k
    show (scJ c ch).nodes[i].inn.l.length ≤ _
    omega
theorem scOk_ins (h : ScOk c ch) (hp : plainErr c = 0) (cap : Option Nat) (nl : Option Bool) : InsOk c ⟨ch, cap, nl⟩ := by
  have hf := scF h
  have hn2 := h.n2
  have hc := hf.chl
  have hs := hf.stl
  have ho := h.outs
  have hle := elems_le ch fun s hs => (h.ne s hs).1
  have hpl := h.perm.length_eq
  have hnd : (elems ch).Nodup := h.perm.nodup_iff.2 (ofL_nodup [14] c.nodes.l 0).2
  have n1 : ((List.range' 0 c.nodes.l.length).map nameL).Nodup := map_nodup fun i hi j hj e => nameL_inj i (by omega) j (by omega) e
  have hnn : c.names.l.length = c.nodes.l.length := by rw [h.nms]; simp
  refine ⟨h.ok, h.cp, by rw [h.nms]; exact n1, ?_, by show ch.length ≤ _; omega, fun s hs => by have := hle.2 s hs; omega, by omega, by omega, by omega, ?_, ?_, ?_, ?_⟩
  · rw [h.nms]
    intro hm
    obtain ⟨i, _, e⟩ := List.mem_map.1 hm
    simp [nameL, seN] at e
  · refine okCh_ind ch 0 (scS0 c) (c.names.l ++ [seN]) (by simp [scS0]) ?_ (by omega) (by simp [scS0]; omega) (by simp [scS0]; omega) rfl rfl (by simp [scS0]; omega) (by simpa [scS0] using hnd) fun s hs => ⟨(h.ne s hs).1, (h.ne s hs).2, by have := hle.2 s hs; omega⟩
    intro j hj hm
    rw [h.nms] at hm
    rcases List.mem_append.1 hm with hm | hm
    · obtain ⟨i, _, e⟩ := List.mem_map.1 hm
      simp [nameL, siN] at e
    · simp [siN, seN] at hm
  · refine okSt_ind c c.nodes.l.length (scS c ch).bef (states c) 0 ⟨(scS c ch).nodes, (scS c ch).names, []⟩ (scS c ch).names (by simp) ?_ (by omega) ?_ ?_ rfl ?_
    · intro j hj hm
      rw [hf.snm, h.nms] at hm
      rcases List.mem_append.1 hm with hm | hm
      · rcases List.mem_append.1 hm with hm | hm
        · obtain ⟨i, _, e⟩ := List.mem_map.1 hm
          simp [nameL, smN] at e
        · simp [smN, seN] at hm
      · obtain ⟨i, _, e⟩ := List.mem_map.1 hm
        simp [siN, smN] at e
    · show (scS c ch).nodes.length ≤ _
      rw [hf.snl]; unfold m0; omega
    · show (scS c ch).names.length ≤ _
      rw [hf.snm]; simp; omega
    · intro n hn
      have := ofL_in (k := 14) (c := c) n hn
      obtain ⟨v, hv, _⟩ := st_inn h hn
      refine ⟨this.1, this.2.1, ?_, by rw [hv]; simp⟩
      show n < (scS c ch).nodes.length
      rw [hf.snl]; unfold m0; omega
  · intro he
    have he : ch = [] := he
    have : (elems ch).length = 0 := by rw [he]; rfl
    exact List.eq_nil_of_length_eq_zero (by omega)
  · exact check_perm hp (by show ch.length ≤ 64; omega) (fun s hs => (h.ne s hs).1) h.perm
end Go.Lg
namespace Go.Lg
open Go Go.Proofs
variable {c : Cir} {ch : List (Sl Int)}
theorem ofL_congr (ks : List Int) : ∀ (a b : List Nd) (i : Nat), a.map (·.k) = b.map (·.k) → ofL ks a i = ofL ks b i
  | [], [], _, _ => rfl
  | [], _ :: _, _, h => by cases h
  | _ :: _, [], _, h => by cases h
  | x :: a, y :: b, i, h => by
    simp only [List.map_cons, List.cons.injEq] at h
    simp only [ofL, h.1, ofL_congr ks a b (i + 1) h.2]
theorem ofL_rep0 (ks : List Int) (x : Nd) (h : ks.contains x.k = false) : ∀ (m i : Nat), ofL ks (List.replicate m x) i = []
  | 0, _ => rfl
  | m + 1, i => by simp only [List.replicate_succ, ofL, h, ofL_rep0 ks x h m (i + 1)]; rfl
theorem ofL_rep1 (ks : List Int) (x : Nd) (h : ks.contains x.k = true) : ∀ (m i : Nat), ofL ks (List.replicate m x) i = insOf i m
  | 0, _ => rfl
  | m + 1, i => by simp only [List.replicate_succ, ofL, h, if_true, insOf_succ, ofL_rep1 ks x h m (i + 1)]
theorem mapk_getD (l : List Nd) (j : Nat) : (l.map (·.k)).getD j 0 = (l.getD j Nd.d).k := by
  rw [List.getD_eq_getElem?_getD, List.getD_eq_getElem?_getD, List.getElem?_map]
  cases l[j]? <;> rfl
theorem ext_getD0 {a b : List Int} (hl : a.length = b.length) (h : ∀ j, j < a.length → a.getD j 0 = b.getD j 0) : a = b := by
  refine List.ext_getElem hl fun i h1 h2 => ?_
  have := h i h1
  rwa [getD_eq h1, getD_eq h2] at this
def likeL (c : Cir) (ch : List (Sl Int)) : List Nd := c.nodes.l ++ (List.replicate (1 + ch.length) inpN ++ List.replicate (states c).length (muxN 0 0 0))
theorem sc_kinds (h : ScOk c ch) : (scC c ch).nodes.l.map (·.k) = (likeL c ch).map (·.k) := by
  have hf := scF h
  have hlen : (scC c ch).nodes.l.length = m0 c ch + (states c).length := hf.len
  have hll : (likeL c ch).length = m0 c ch + (states c).length := by simp [likeL, m0]; omega
  refine ext_getD0 (by simp [hlen, hll]) fun j hj => ?_
  rw [List.length_map, hlen] at hj
  rw [mapk_getD, mapk_getD]
  show ((scJ c ch).nodes.getD j Nd.d).k = _
  by_cases h1 : j < c.nodes.l.length
  · rw [sc_kind h h1]
    unfold likeL
    rw [List.getD_eq_getElem?_getD (l := c.nodes.l ++ _), List.getElem?_append_left h1, ← List.getD_eq_getElem?_getD]; rfl
  · unfold likeL
    rw [List.getD_eq_getElem?_getD (l := c.nodes.l ++ _), List.getElem?_append_right (by omega)]
    by_cases h2 : j < m0 c ch
    · rw [hf.inp j (by omega) h2, List.getElem?_append_left (by rw [List.length_replicate]; unfold m0 at h2; omega), List.getElem?_replicate, if_pos (by unfold m0 at h2; omega)]; rfl
    · obtain ⟨k, rfl⟩ : ∃ k, j = m0 c ch + k := ⟨j - m0 c ch, by omega⟩
      rw [hf.mx k (by omega), List.getElem?_append_right (by rw [List.length_replicate]; unfold m0 at h2 ⊢; omega), List.getElem?_replicate, if_pos (by rw [List.length_replicate]; unfold m0 at h2 hj ⊢; omega)]; rfl
theorem sc_inputs (h : ScOk c ch) : inputs (scC c ch) = inputs c ++ insOf c.nodes.l.length (1 + ch.length) := by
  show ofL [0] (scC c ch).nodes.l 0 = _
  rw [ofL_congr _ _ _ _ (sc_kinds h), likeL, ofL_app, ofL_app, ofL_rep1 [0] inpN rfl, ofL_rep0 [0] (muxN 0 0 0) rfl, List.append_nil, Nat.zero_add]
  rfl
theorem sc_states (h : ScOk c ch) : states (scC c ch) = states c := by
  show ofL [14] (scC c ch).nodes.l 0 = _
  rw [ofL_congr _ _ _ _ (sc_kinds h), likeL, ofL_app, ofL_app, ofL_rep0 [14] inpN rfl, ofL_rep0 [14] (muxN 0 0 0) rfl, List.append_nil, List.append_nil]
  rfl
theorem sc_take (h : ScOk c ch) (i : Nat) : ((scC c ch).nodes.l.take i).map (·.k) = ((likeL c ch).take i).map (·.k) := by
  rw [List.map_take, List.map_take, sc_kinds h]
theorem sc_rank (h : ScOk c ch) (k : Int) {i : Nat} (hi : i ≤ c.nodes.l.length) : rankK k (scC c ch) i = rankK k c i := by
  unfold rankK
  rw [ofL_congr _ _ _ _ (sc_take h i), likeL, List.take_append_of_le_length hi]
theorem insOf_len (n m : Nat) : (insOf n m).length = m := by simp [insOf]
theorem sc_rank_in (h : ScOk c ch) {q : Nat} (hq : q < 1 + ch.length) : rankK 0 (scC c ch) (c.nodes.l.length + q) = (inputs c).length + q := by
  unfold rankK
  rw [ofL_congr _ _ _ _ (sc_take h _), likeL, List.take_append, ofL_app, List.take_append, List.take_replicate]
  have e1 : c.nodes.l.length + q - c.nodes.l.length = q := by omega
  have e2 : min q (1 + ch.length) = q := by omega
  have e3 : q - (1 + ch.length) = 0 := by omega
  rw [List.length_replicate, e1, e2, e3, List.take_zero, List.append_nil, ofL_rep1 [0] inpN rfl, List.length_append, insOf_len, List.take_of_length_le (by omega)]
  rfl
theorem kind_in (h : ScOk c ch) {q : Nat} (h1 : c.nodes.l.length ≤ q) (h2 : q < m0 c ch) : kindAt (scC c ch) q = 0 := by
  show ((scJ c ch).nodes.getD q Nd.d).k = 0
  rw [(scF h).inp q h1 h2]; rfl
theorem inn_old (h : ScOk c ch) {q : Nat} (hq : q < c.nodes.l.length) (hk : kindAt c q ≠ 14) : innAt (scC c ch) q = innAt c q := by
  show ((scJ c ch).nodes.getD q Nd.d).inn.l = _
  rw [(scF h).old q hq hk]; rfl
theorem sc_len (h : ScOk c ch) : (scC c ch).nodes.l.length = c.nodes.l.length + 1 + ch.length + (states c).length := (scF h).len
theorem sc_inLen (h : ScOk c ch) {pin v : List Int} {e : Int} (h1 : pin.length = (inputs c).length) (hv : v.length = ch.length) : (pin ++ ([e] ++ v)).length = (inputs (scC c ch)).length := by
  rw [sc_inputs h, List.length_append, List.length_append, List.length_append, insOf_len, h1, hv]; simp
theorem sc_nets (h : ScOk c ch) (hp : levErr c = 0) {pin pst v : List Int} {e : Int} (h1 : pin.length = (inputs c).length) (h2 : pst.length = (states c).length) (hv : v.length = ch.length) :
    ∀ i, i < c.nodes.l.length → (netsL (scC c ch) (pin ++ ([e] ++ v)) pst).getD i 0 = (netsL c pin pst).getD i 0 := by
  have f1 := nets_fix (sc_valid h) (pin ++ ([e] ++ v)) pst
  have f2 := nets_fix hp pin pst
  have hl := sc_len h
  have hin := sc_inLen h (e := e) h1 hv
  have hst : pst.length = (states (scC c ch)).length := by rw [sc_states h]; exact h2
  refine lev_ind hp fun i hi hq => ?_
  have hi' : i < (scC c ch).nodes.l.length := by omega
  have hk : kindAt (scC c ch) i = kindAt c i := sc_kind h hi
  rw [f1.2 i hi', f2.2 i hi, hk]
  by_cases hc : combB (kindAt c i) = true
  · rw [if_pos hc, if_pos hc]
    have h14 : kindAt c i ≠ 14 := fun h => by rw [h] at hc; exact absurd hc (by decide)
    congr 1
    unfold inVals
    rw [inn_old h hi h14]
    exact List.map_congr_left fun p hp => (hq hc p hp).2
  · rw [if_neg hc, if_neg hc, load_at hin hst hi', load_at h1 h2 hi, hk]
    by_cases h0 : kindAt c i = 0
    · have hr := (rank_at hi h0).1
      have hr' : rankK 0 c i < pin.length := by rw [h1]; exact hr
      rw [if_pos h0, if_pos h0, sc_rank h 0 (by omega), List.getD_eq_getElem?_getD, List.getElem?_append_left hr', ← List.getD_eq_getElem?_getD]
    · rw [if_neg h0, if_neg h0, sc_rank h 14 (by omega)]
theorem sc_net_in (h : ScOk c ch) {pin pst v : List Int} {e : Int} (h1 : pin.length = (inputs c).length) (h2 : pst.length = (states c).length) (hv : v.length = ch.length) {q : Nat} (hq : q < 1 + ch.length) :
    (netsL (scC c ch) (pin ++ ([e] ++ v)) pst).getD (c.nodes.l.length + q) 0 = ([e] ++ v).getD q 0 := by
  have f1 := nets_fix (sc_valid h) (pin ++ ([e] ++ v)) pst
  have hl := sc_len h
  have hin := sc_inLen h (e := e) h1 hv
  have hst : pst.length = (states (scC c ch)).length := by rw [sc_states h]; exact h2
  have hi' : c.nodes.l.length + q < (scC c ch).nodes.l.length := by omega
  have hk : kindAt (scC c ch) (c.nodes.l.length + q) = 0 := kind_in h (by omega) (by unfold m0; omega)
  rw [f1.2 _ hi', hk, if_neg (by decide), load_at hin hst hi', if_pos hk, sc_rank_in h hq, List.getD_eq_getElem?_getD, List.getElem?_append_right (by omega), ← List.getD_eq_getElem?_getD]
  congr 1; omega
theorem sc_net_mx (h : ScOk c ch) {pin pst : List Int} {k : Nat} (hk : k < (states c).length) :
    (netsL (scC c ch) pin pst).getD (m0 c ch + k) 0 = evalL 11 [(netsL (scC c ch) pin pst).getD c.nodes.l.length 0, (netsL (scC c ch) pin pst).getD (in0 c ((states c).getD k 0)).toNat 0, (netsL (scC c ch) pin pst).getD (befOf (befL (c.nodes.l.length + 1 : Nat) ch) ((states c).getD k 0)).toNat 0] := by
  have f1 := nets_fix (sc_valid h) pin pst
  have hl := sc_len h
  have hi' : m0 c ch + k < (scC c ch).nodes.l.length := by unfold m0; omega
  have hm : (scC c ch).nodes.l.getD (m0 c ch + k) Nd.d = _ := (scF h).mx k hk
  have hkd : kindAt (scC c ch) (m0 c ch + k) = 11 := by unfold kindAt; rw [hm]; rfl
  have hin : innAt (scC c ch) (m0 c ch + k) = [(c.nodes.l.length : Int), in0 c ((states c).getD k 0), befOf (befL (c.nodes.l.length + 1 : Nat) ch) ((states c).getD k 0)] := by unfold innAt; rw [hm]; rfl
  have h2 := f1.2 _ hi'
  rw [hkd, if_pos (by decide)] at h2
  rw [h2]
  unfold inVals
  rw [hin]
  rfl
end Go.Lg
namespace Go.Lg
open Go Go.Proofs
variable {Γ : Tables}
structure NOk (c : Cir) : Prop where
  ok : COk c
  lev : levErr c = 0
  mm : c.mems.l = []
  m0 : mems c = []
  n1 : 1 ≤ c.nodes.l.length
  n2 : c.nodes.l.length ≤ 16
  k : ∀ i, i < c.nodes.l.length → 0 ≤ kindAt c i ∧ kindAt c i ≤ 14
theorem NOk_of {x : CD} (hx : CDOk x) (hm : x.mem = false) : NOk (ofC x) := by
  have hl := nodes4_len hx
  have h5 := nodes5_len hx
  have hN : (ofC x).nodes.l = nodes5 x := rfl
  have hp := ofC_plain hx hm
  have hv := ofC_valid hx
  have h1 : (ofC x).mems.l = [] := by simp [ofC, memM, hm]
  have h2 : mems (ofC x) = [] := by
    unfold plainErr at hp
    rw [if_neg (by simp [hv])] at hp
    split at hp
    · cases hp
    · rename_i h; exact List.eq_nil_of_length_eq_zero (by omega)
  refine ⟨ofC_ok hx, hv, h1, h2, by rw [hN]; omega, by rw [hN]; omega, fun i hi => ?_⟩
  have hs := (levErr_zero hv).1
  have hn := (shape_facts hs).2.2.1 _ (List.getElem_mem hi)
  have hk : kindAt (ofC x) i = (ofC x).nodes.l[i].k := by simp [kindAt, hi]
  have hkk := (ofC_ok hx).kind _ (List.getElem_mem hi)
  have h15 : ¬ kindAt (ofC x) i = 15 := fun e => by
    have : (i : Int) ∈ mems (ofC x) := (mem_ofL hi).2 e
    rw [h2] at this; cases this
  have hle : ¬ 15 < (ofC x).nodes.l[i].k := fun h => by
    unfold nodeErr at hn
    rw [if_pos h] at hn; cases hn
  rw [hk] at h15 ⊢
  omega
theorem taken_4 {l : List Int} {n : Nat} {most : Int} (hl : ∀ v ∈ l, 0 ≤ v) (hm : 0 < most ∧ most ≤ 4) : ∀ v ∈ takenL l n most, V4 v := by
  intro v hv
  obtain ⟨i, _, rfl⟩ := List.mem_map.1 hv
  split
  · simp [V4]
  · rename_i h
    have hpos : 0 < l.length := List.length_pos_iff.2 h
    have h0 : 0 ≤ l.getD (i % l.length) 0 := by
      rw [getD_eq (Nat.mod_lt _ hpos)]; exact hl _ (List.getElem_mem _)
    generalize l.getD (i % l.length) 0 = u at *
    rw [Int.tmod_eq_emod_of_nonneg h0]
    have := Int.emod_nonneg u (show most ≠ 0 by omega)
    have := Int.emod_lt_of_pos u hm.1
    unfold V4; omega
structure POk (c : Cir) (p : Pat) : Prop where
  i : p.inn.l.length = (inputs c).length
  s : p.st.l.length = (states c).length
  vi : ∀ v ∈ p.inn.l, V4 v
  vs : ∀ v ∈ p.st.l, V4 v
theorem patOf_ok {q : PD} (hq : PDOk q) (c : Cir) : POk c (patOf q c) :=
  ⟨takenL_len, takenL_len, taken_4 (fun v hv => (hq.1 v hv).1) (by omega), taken_4 (fun v hv => (hq.2 v hv).1) (by omega)⟩
theorem nets_len {c : Cir} {a b : List Int} : (netsL c a b).length = c.nodes.l.length := by unfold netsL; rw [runL_len, loadL_len]
end Go.Lg
namespace Go.Lg
open Go Go.Proofs
variable {c : Cir} {ch : List (Sl Int)}
theorem befOf_hit {x a : Int} {rest : List (Int × Int)} : befOf ((x, a) :: rest) x = a := by simp [befOf]
theorem befOf_miss {x y a : Int} {rest : List (Int × Int)} (h : y ≠ x) : befOf ((y, a) :: rest) x = befOf rest x := by simp [befOf, h]
theorem befOf_skip {x : Int} {rest : List (Int × Int)} : ∀ {A : List (Int × Int)}, (∀ p ∈ A, p.1 ≠ x) → befOf (A ++ rest) x = befOf rest x
  | [], _ => rfl
  | (y, a) :: A, h => by
    rw [List.cons_append, befOf_miss (h (y, a) List.mem_cons_self), befOf_skip fun p hp => h p (List.mem_cons_of_mem _ hp)]
theorem befOf_prevs {rest : List (Int × Int)} : ∀ (l : List Int) (a : Int), l.Nodup → ∀ m, m < l.length → befOf (prevs a l ++ rest) (l.getD m 0) = if m = 0 then a else l.getD (m - 1) 0
  | [], _, _, _, h => absurd h (by simp)
  | n :: l, a, hn, 0, _ => by simp only [prevs, List.cons_append, List.getD_cons_zero, befOf_hit, if_true]
  | n :: l, a, hn, m + 1, hm => by
    obtain ⟨h1, h2⟩ := List.nodup_cons.1 hn
    have hm' : m < l.length := by simpa using hm
    have hne : n ≠ l.getD m 0 := fun e => h1 (by rw [e, getD_eq hm']; exact List.getElem_mem _)
    rw [List.getD_cons_succ]
    simp only [prevs, List.cons_append]
    rw [befOf_miss hne, befOf_prevs l n h2 m hm', if_neg (show ¬ (m + 1 = 0) by omega)]
    by_cases h0 : m = 0
    · subst h0; rfl
    · obtain ⟨q, rfl⟩ : ∃ q, m = q + 1 := ⟨m - 1, by omega⟩
      rw [if_neg (show ¬ (q + 1 = 0) by omega)]; rfl
def slD : Sl Int := ⟨[], none, none⟩
theorem bef_at : ∀ (l : List (Sl Int)) (b : Int), (elems l).Nodup → ∀ k, k < l.length → ∀ m, m < (l.getD k slD).l.length → befOf (befL b l) ((l.getD k slD).l.getD m 0) = if m = 0 then b + k else (l.getD k slD).l.getD (m - 1) 0
  | [], _, _, _, h, _, _ => absurd h (by simp)
  | s :: l, b, hn, 0, _, m, hm => by
    rw [elems_cons, List.nodup_append] at hn
    simp only [List.getD_cons_zero] at hm ⊢
    simp only [befL]
    rw [befOf_prevs s.l b hn.1 m hm]
    simp
  | s :: l, b, hn, k + 1, hk, m, hm => by
    rw [elems_cons, List.nodup_append] at hn
    simp only [List.getD_cons_succ] at hm ⊢
    simp only [befL]
    have hk' : k < l.length := by simpa using hk
    have hmem : (l.getD k slD).l.getD m 0 ∈ elems l := by
      rw [getD_eq hm]
      unfold elems
      refine List.mem_flatten.2 ⟨(l.getD k slD).l, List.mem_map.2 ⟨l.getD k slD, ?_, rfl⟩, List.getElem_mem _⟩
      rw [List.getD_eq_getElem?_getD, List.getElem?_eq_getElem hk']
      exact List.getElem_mem _
    rw [befOf_skip fun p hp e => by
      have h1 : p.1 ∈ (prevs b s.l).map (·.1) := List.mem_map.2 ⟨p, hp, rfl⟩
      rw [prevs_keys] at h1
      exact hn.2.2 p.1 h1 _ hmem e]
    rw [bef_at l (b + 1) hn.2.1 k hk' m hm]
    split
    · push_cast; omega
    · rfl
theorem mux1 {a b : Int} : evalL 11 [1, a, b] = readV b := by
  have h : widBad 11 ([1, a, b] : List Int).length = false := rfl
  unfold evalL; rw [h]; rfl
theorem read_clean {v : Int} : readV (cleanV v) = readV v := by unfold readV cleanV; split <;> split <;> (try split) <;> omega
theorem read_read {v : Int} : readV (readV v) = readV v := by unfold readV; split <;> (try split) <;> omega
theorem getD_nodup {l : List Int} (h : l.Nodup) {a b : Nat} (ha : a < l.length) (hb : b < l.length) (e : l.getD a 0 = l.getD b 0) : a = b := by
  rw [getD_eq ha, getD_eq hb] at e
  exact (List.getElem_inj h).1 e
theorem st_rank {q : Nat} (hq : q < (states c).length) : rankK 14 c ((states c).getD q 0).toNat = q := by
  have hm := ofL_in (k := 14) (c := c) ((states c).getD q 0) (by rw [getD_eq hq]; exact List.getElem_mem _)
  obtain ⟨r1, r2⟩ := rank_at (c := c) (i := ((states c).getD q 0).toNat) (by omega) hm.2.2
  refine getD_nodup (ofL_nodup [14] c.nodes.l 0).2 r1 hq ?_
  rw [r2]
  have : (((states c).getD q 0).toNat : Int) = (states c).getD q 0 := by omega
  exact this
theorem st_net (hp : levErr c = 0) {pin pst : List Int} (h1 : pin.length = (inputs c).length) (h2 : pst.length = (states c).length) {q : Nat} (hq : q < (states c).length) : (netsL c pin pst).getD ((states c).getD q 0).toNat 0 = pst.getD q 0 := by
  have f := nets_fix hp pin pst
  have hm := ofL_in (k := 14) (c := c) ((states c).getD q 0) (by rw [getD_eq hq]; exact List.getElem_mem _)
  have hi : ((states c).getD q 0).toNat < c.nodes.l.length := by omega
  rw [f.2 _ hi, hm.2.2, if_neg (by decide), load_at h1 h2 hi, hm.2.2, if_neg (by decide), if_pos rfl, st_rank hq]
theorem nexts_getD {c : Cir} {N : List Int} {q : Nat} (hq : q < (states c).length) : (nextsL c N).getD q 0 = nextL c N ((states c).getD q 0) := by
  unfold nextsL
  rw [List.getD_eq_getElem?_getD, List.getElem?_map, List.getElem?_eq_getElem hq, getD_eq hq]; rfl
theorem sc_next (h : ScOk c ch) {pin pst : List Int} {q : Nat} (hq : q < (states c).length) :
    (nextsL (scC c ch) (netsL (scC c ch) pin pst)).getD q 0 = readV (evalL 11 [(netsL (scC c ch) pin pst).getD c.nodes.l.length 0, (netsL (scC c ch) pin pst).getD (in0 c ((states c).getD q 0)).toNat 0, (netsL (scC c ch) pin pst).getD (befOf (befL (c.nodes.l.length + 1 : Nat) ch) ((states c).getD q 0)).toNat 0]) := by
  have hm := ofL_in (k := 14) (c := c) ((states c).getD q 0) (by rw [getD_eq hq]; exact List.getElem_mem _)
  have hi : ((states c).getD q 0).toNat < c.nodes.l.length := by omega
  have hl := sc_len h
  rw [nexts_getD (by rw [sc_states h]; exact hq), sc_states h]
  have hin : innAt (scC c ch) ((states c).getD q 0).toNat = [((m0 c ch + q : Nat) : Int)] := by
    show ((scJ c ch).nodes.getD _ Nd.d).inn.l = _
    rw [(scF h).dff _ hi hm.2.2, st_rank hq]
  unfold nextL
  rw [hin, if_pos (show ([((m0 c ch + q : Nat) : Int)] : List Int).length = 1 from rfl)]
  have hN : (netsL (scC c ch) pin pst).length = (scC c ch).nodes.l.length := nets_len
  have hv : valueL (netsL (scC c ch) pin pst) (([((m0 c ch + q : Nat) : Int)] : List Int).getD 0 0) = cleanV ((netsL (scC c ch) pin pst).getD (m0 c ch + q) 0) := by
    unfold valueL
    rw [if_neg (by rw [hN, hl]; show ¬ ((((m0 c ch + q : Nat) : Int)) < 0 ∨ ((_ : Nat) : Int) ≤ ((m0 c ch + q : Nat) : Int)); unfold m0; omega)]
    rfl
  rw [hv, read_clean, sc_net_mx h hq]
theorem sc_next1 (h : ScOk c ch) {pin pst v : List Int} (h1 : pin.length = (inputs c).length) (h2 : pst.length = (states c).length) (hv : v.length = ch.length) {q : Nat} (hq : q < (states c).length) :
    (nextsL (scC c ch) (netsL (scC c ch) (pin ++ ([1] ++ v)) pst)).getD q 0 = readV ((netsL (scC c ch) (pin ++ ([1] ++ v)) pst).getD (befOf (befL (c.nodes.l.length + 1 : Nat) ch) ((states c).getD q 0)).toNat 0) := by
  have e0 : (netsL (scC c ch) (pin ++ ([1] ++ v)) pst).getD c.nodes.l.length 0 = 1 := sc_net_in h h1 h2 hv (q := 0) (by omega)
  rw [sc_next h hq, e0, mux1, read_read]
def befV (ch : List (Sl Int)) (st pst v : List Int) (k m : Nat) : Int := readV (if m = 0 then v.getD k 0 else pst.getD (st.idxOf ((ch.getD k slD).l.getD (m - 1) 0)) 0)
theorem sc_shift (h : ScOk c ch) (hp : levErr c = 0) {pin pst v : List Int} (h1 : pin.length = (inputs c).length) (h2 : pst.length = (states c).length) (hv : v.length = ch.length) {k m q : Nat} (hk : k < ch.length) (hm : m < (ch.getD k slD).l.length) (hq : q < (states c).length) (he : (states c).getD q 0 = (ch.getD k slD).l.getD m 0) :
    (nextsL (scC c ch) (netsL (scC c ch) (pin ++ ([1] ++ v)) pst)).getD q 0 = befV ch (states c) pst v k m := by
  have hnd : (elems ch).Nodup := h.perm.nodup_iff.2 (ofL_nodup [14] c.nodes.l 0).2
  rw [sc_next1 h h1 h2 hv hq, he, bef_at ch _ hnd k hk m hm]
  unfold befV
  congr 1
  by_cases h0 : m = 0
  · rw [if_pos h0, if_pos h0]
    have := sc_net_in (e := 1) h h1 h2 hv (q := 1 + k) (by omega)
    have e : ((c.nodes.l.length + 1 : Nat) + k : Int).toNat = c.nodes.l.length + (1 + k) := by omega
    rw [e, this, Nat.add_comm 1 k]; rfl
  · rw [if_neg h0, if_neg h0]
    have hmem : (ch.getD k slD).l.getD (m - 1) 0 ∈ states c := by
      refine h.perm.mem_iff.1 ?_
      rw [getD_eq (by omega)]
      unfold elems
      refine List.mem_flatten.2 ⟨(ch.getD k slD).l, List.mem_map.2 ⟨ch.getD k slD, ?_, rfl⟩, List.getElem_mem _⟩
      rw [List.getD_eq_getElem?_getD, List.getElem?_eq_getElem hk]
      exact List.getElem_mem _
    have hx := List.idxOf_lt_length_iff.2 hmem
    have hy : (states c).getD ((states c).idxOf ((ch.getD k slD).l.getD (m - 1) 0)) 0 = (ch.getD k slD).l.getD (m - 1) 0 := by rw [getD_eq hx]; exact List.getElem_idxOf hx
    have hb := ofL_in (k := 14) (c := c) _ hmem
    rw [sc_nets h hp h1 h2 hv _ (by omega), ← st_net hp h1 h2 hx, hy]
end Go.Lg
namespace Go.Lg
open Go Go.Proofs
theorem dataN_kind {x : CD} {first : Nat} : ∀ {k i : Nat} {ns : List Nd} {q : Nat}, ((dataN x first k i ns).getD q Nd.d).k = (ns.getD q Nd.d).k
  | 0, _, _, _ => rfl
  | k + 1, i, ns, q => by
    simp only [dataN]
    rw [dataN_kind, setIn_kind]
end Go.Lg
namespace Go.Lg
open Go Go.Proofs
theorem gate_k {bus : Bool} {g : Gd} {ns : List Nd} (hg : GdOk g) : (gateN bus g ns).k ≠ 14 := by
  have hk : 0 ≤ g.k := hg.1.1
  have t2 : 0 ≤ g.a.tmod 2 ∧ g.a.tmod 2 < 2 := tmod_lt (n := 2) hg.2.1.1 (by omega)
  have t9 : 0 ≤ g.k.tmod 9 ∧ g.k.tmod 9 < 9 := tmod_lt (n := 9) hk (by omega)
  have t13 : 0 ≤ g.k.tmod 13 ∧ g.k.tmod 13 < 13 := tmod_lt (n := 13) hk (by omega)
  unfold gateN gateT
  obtain ⟨kk, hkk⟩ : ∃ kk, kk = (if bus = true then g.k.tmod 13 else g.k.tmod 9) := ⟨_, rfl⟩
  have hb : 0 ≤ kk ∧ kk < 13 := by rw [hkk]; split <;> omega
  rw [← hkk]
  by_cases h1 : kk < 6
  · simp only [h1, if_true]
    omega
  · simp only [h1, if_false]
    split
    · simp <;> omega
    split
    · simp <;> omega
    split
    · simp <;> omega
    split
    · by_cases h2 : 1 < (triL ns).length
      · simp only [h2, if_true]; simp <;> omega
      · simp only [h2, if_false]; simp <;> omega
    split
    · simp <;> omega
    · simp <;> omega
theorem gates_st {bus : Bool} : ∀ {l : List Gd} {ns : List Nd}, (∀ g ∈ l, GdOk g) → ofL [14] (gatesN bus l ns) 0 = ofL [14] ns 0
  | [], ns, _ => rfl
  | g :: l, ns, h => by
    simp only [gatesN]
    have hk : (gateN bus g ns).k ≠ 14 := gate_k (h g List.mem_cons_self)
    rw [gates_st fun x hx => h x (List.mem_cons_of_mem _ hx), ofL_app]
    simp [ofL, hk]
theorem data_kinds {x : CD} {first k i : Nat} {ns : List Nd} : (dataN x first k i ns).map (·.k) = ns.map (·.k) := by
  refine ext_getD0 (by rw [List.length_map, List.length_map, dataN_len]) fun j hj => ?_
  rw [mapk_getD, mapk_getD, dataN_kind]
theorem ofC_small {x : CD} (hx : CDOk x) (hm : x.mem = false) : (ofC x).nodes.l.length ≤ 14 ∧ (states (ofC x)).length ≤ 2 := by
  have m4 : 0 ≤ x.i.tmod 4 ∧ x.i.tmod 4 < 4 := tmod_lt (n := 4) hx.i.1 (by omega)
  have m3 : 0 ≤ x.f.tmod 3 ∧ x.f.tmod 3 < 3 := tmod_lt (n := 3) hx.f.1 (by omega)
  have l2 : (nodes2 x).length = (x.i.tmod 4 + 1).toNat + (x.f.tmod 3).toNat := by simp [nodes2, nodes1]
  have l3 : nodes3 x = nodes2 x := by unfold nodes3; rw [hm]; rfl
  have l4 : (nodes4 x).length = (nodes3 x).length + min 8 x.gates.l.length := by unfold nodes4; rw [gatesN_len]; simp
  have l5 : (nodes5 x).length = (nodes4 x).length := dataN_len
  refine ⟨?_, ?_⟩
  · show (nodes5 x).length ≤ 14
    rw [l5, l4, l3, l2]; omega
  · have e : states (ofC x) = ofL [14] (nodes2 x) 0 := by
      show ofL [14] (nodes5 x) 0 = _
      rw [ofL_congr [14] (nodes5 x) (nodes4 x) 0 data_kinds]
      unfold nodes4
      rw [gates_st (fun g hg => hx.gates g (List.mem_of_mem_take hg)), l3]
    rw [e]
    unfold nodes2
    rw [ofL_app]
    have e1 : ofL [14] (nodes1 x) 0 = [] := by unfold nodes1; exact ofL_rep0 [14] _ rfl _ _
    rw [e1, ofL_rep1 [14] (dffN 0) rfl]
    simp [insOf]; omega
theorem case_small {y : CaseD} (hy : CaseOk y) : (scC (caseC y) (caseCh y)).nodes.l.length ≤ 19 := by
  have hs := ofC_small (noMemX_ok hy.x) rfl
  have h := case_scok hy
  have hl := sc_len h
  have hle := elems_le (caseCh y) fun s hs => (h.ne s hs).1
  have hpl := h.perm.length_eq
  have e : caseC y = ofC (noMemX y.x) := rfl
  rw [← e] at hs
  omega
end Go.Lg
namespace Go.Lg
open Go Go.Proofs
variable {Γ : Tables}
theorem sc_mem0 {c : Cir} {ch : List (Sl Int)} (h : ScOk c ch) (hm : mems c = []) : mems (scC c ch) = [] := by
  show ofL [15] (scC c ch).nodes.l 0 = _
  rw [ofL_congr _ _ _ _ (sc_kinds h), likeL, ofL_app, ofL_app, ofL_rep0 [15] inpN rfl, ofL_rep0 [15] (muxN 0 0 0) rfl, List.append_nil, List.append_nil]
  exact hm
theorem sc_Run (hΓ : GOk Γ) {c : Cir} {ch : List (Sl Int)} (h : ScOk c ch) (hc : NOk c) (hn : (scC c ch).nodes.l.length ≤ 19) (hmm : (scC c ch).mems.l = []) {p : Pat} (hp : POk (scC c ch) p) :
    PureCalls Tryz.prog Γ 15 [.agg (tC (scC c ch)), .agg (tP p)] (.tup [.agg [tVs (outL (scC c ch) (netsL (scC c ch) p.inn.l p.st.l)), tVs (nextsL (scC c ch) (netsL (scC c ch) p.inn.l p.st.l))], .sl (vals (netsL (scC c ch) p.inn.l p.st.l)) (some (scC c ch).nodes.l.length) none, tI 0]) := by
  have hr := Run_spec hΓ (scC c ch) (sc_cok h) hn p ⟨by rw [hp.i]; have := inputs_len (scC c ch); omega, by rw [hp.s]; have := states_len' (scC c ch); omega⟩ ⟨fun v hv => (hp.vi v hv).1, fun v hv => (hp.vs v hv).1⟩
  unfold runRes at hr
  have a1 : ∀ {l : List Int}, (∀ v ∈ l, V4 v) → l.any aboveV = false := fun h => List.any_eq_false.2 fun v hv => by have := (h v hv).2; simp [aboveV]; omega
  have hz : runErr (scC c ch) p = 0 := by
    unfold runErr
    rw [if_neg (by simp [sc_valid h])]
    unfold fitsErr
    rw [if_neg (by rw [hmm, sc_mem0 h hc.m0]; simp), if_neg (by simp [hp.i, hp.s]), a1 hp.vi, a1 hp.vs]
    simp
  rwa [if_pos hz] at hr
theorem sc_pok {c : Cir} {ch : List (Sl Int)} (h : ScOk c ch) {p : Pat} (hp : POk c p) {e : Int} (he : V4 e) {v : List Int} (hv : v.length = ch.length) (hv4 : ∀ x ∈ v, V4 x) (k1 k2 : Option Nat) (n1 n2 : Option Bool) :
    POk (scC c ch) ⟨⟨p.inn.l ++ ([e] ++ v), k1, n1⟩, ⟨p.st.l, k2, n2⟩⟩ :=
  ⟨sc_inLen h hp.i hv, by rw [sc_states h]; exact hp.s, fun x hx => by
    rcases List.mem_append.1 hx with hx | hx
    · exact hp.vi x hx
    · rcases List.mem_append.1 hx with hx | hx
      · simp at hx; subst hx; exact he
      · exact hv4 x hx, hp.vs⟩
end Go.Lg
namespace Go.Lg
open Go Go.Proofs
variable {Γ : Tables}
theorem gE' {α : Type} {f : α → T} {l : List α} {i : Nat} (d : α) (h0 : i < l.length) : ∀ h : i < (enc1 f l).length, (enc1 f l)[i] = [f (l.getD i d)] := fun h => by
  have := enc1_get (f := f) d h0
  rw [List.getElem?_eq_getElem h] at this
  simpa [List.getD_eq_getElem?_getD] using this
theorem gE {α : Type} {f : α → T} {l : List α} {i : Nat} (d : α) (h0 : i < l.length) : (enc1 f l)[i]?.getD [] = [f (l.getD i d)] := by
  rw [List.getElem?_eq_getElem (by rw [enc1_len]; exact h0)]
  exact gE' d h0 _
def takS (l : List Int) (n : Nat) (most : Int) : Sl Int := if n = 0 then ⟨[], some 0, some true⟩ else ⟨takenL l n most, none, none⟩
theorem takS_l {l : List Int} {n : Nat} {most : Int} : (takS l n most).l = takenL l n most := by
  unfold takS
  split
  · rename_i h; subst h; rfl
  · rfl
theorem takS_ok {l : List Int} {n : Nat} {most : Int} (hn : n ≤ 1000000) : SlOk (takS l n most) := by
  unfold takS
  split
  · exact ⟨fun _ => rfl, (fun h => nomatch h), Nat.zero_le _⟩
  · rename_i h
    refine ⟨(fun h => nomatch h), fun _ e => h (by have := congrArg List.length (show takenL l n most = [] from e); rwa [takenL_len] at this), by show (takenL l n most).length ≤ _; rw [takenL_len]; exact hn⟩
theorem takS_spec (l : Sl Int) (n : Nat) (hn : n ≤ 1000000000) (most : Int) (hm : 0 < most) : FreshCalls Tryz.prog Γ 51 [tV l, tI n, tK most] (tV (takS l.l n most)) := by
  by_cases h : n = 0
  · subst h
    refine run_freshQ law06_taken0_chk rfl ?_
    simp [law06_taken0_ic]
    refine law06_taken0_l1_run fun K hK => ?_
    simp [law06_taken0_rv, takS, tV, enc1_nil]
  · have := taken_spec (Γ := Γ) l n hn most hm
    simpa [takS, h, tV] using this
def patOf2 (q : PD) (c : Cir) : Pat := ⟨takS q.i.l (inputs c).length 4, takS q.s.l (states c).length 3⟩
theorem pat2_i {q : PD} {c : Cir} : (patOf2 q c).inn.l = patI q c := takS_l
theorem pat2_s {q : PD} {c : Cir} : (patOf2 q c).st.l = patS q c := takS_l
theorem pat2_ok {q : PD} (hq : PDOk q) (c : Cir) : POk c (patOf2 q c) := by
  have h := patOf_ok hq c
  exact ⟨by rw [pat2_i]; exact h.i, by rw [pat2_s]; exact h.s, by rw [pat2_i]; exact h.vi, by rw [pat2_s]; exact h.vs⟩
theorem P_Of2_spec (q : PD) (hq : PDOk q) (c : Cir) (hc : COk c) : PureCalls Tryz.prog Γ 14 [.agg (tPD q), .agg (tC c)] (.agg (tP (patOf2 q c))) := by
  refine run_pureQ law06_P_Of0_chk rfl ?_
  have h1 := takS_spec (Γ := Γ) q.i (inputs c).length (Nat.le_trans (inputs_len c) hc.nodes) 4 (by omega)
  have h2 := takS_spec (Γ := Γ) q.s (states c).length (Nat.le_trans (states_len' c) hc.nodes) 3 (by omega)
  simp only [patOf2, tP]
  generalize takS q.i.l (inputs c).length 4 = A at *
  generalize takS q.s.l (states c).length 3 = B at *
  simp [law06_P_Of0_ic, tC, tNodes, tNames, tMems, tSl, tPD, tV]
  refine callK_fresh (count_spec c hc 0) rfl ?_
  simp
  refine callK_fresh h1 rfl ?_
  simp
  refine callK_fresh (count_spec c hc 14) rfl ?_
  simp
  refine callK_fresh h2 rfl ?_
  simp [law06_P_Of0_rv, tV]
end Go.Lg
namespace Go.Lg
open Go Go.Proofs
variable {Γ : Tables}
def mpE {α : Type} (f : α → T) (l : List (Int × α)) : List (Value × T) := l.map fun p => (.int .i64 p.1, f p.2)
def mpOf {α : Type} (d : α) (n : Int) : List (Int × α) → α
  | [] => d
  | p :: l => if n = p.1 then p.2 else mpOf d n l
theorem mpE_fit {α : Type} {f : α → T} (l : List (Int × α)) : keysFit (.int .i64) (mpE f l) := by
  intro e he; obtain ⟨s, _, rfl⟩ := List.mem_map.1 he; rfl
theorem mpE_find {α : Type} {f : α → T} (d : α) (n : Int) : ∀ l : List (Int × α), (findM (.int .i64 n) (mpE f l)).getD (f d) = f (mpOf d n l)
  | [] => rfl
  | p :: l => by
    have ih := mpE_find (f := f) d n l
    simp only [mpE, List.map_cons, findM, keyEq, mpOf] at ih ⊢
    by_cases h : n = p.1
    · simp [h]
    · simp [h, ih]
theorem mpE_set {α : Type} {f : α → T} (n : Int) (a : α) : ∀ l : List (Int × α), n ∉ l.map (·.1) → setM (.int .i64 n) (f a) (mpE f l) = mpE f (l ++ [(n, a)])
  | [], _ => rfl
  | p :: l, h => by
    simp only [List.map_cons, List.mem_cons, not_or] at h
    have ih := mpE_set (f := f) n a l h.2
    simp only [mpE, List.map_cons, setM, keyEq, List.cons_append] at ih ⊢
    simp [h.1, ih]
def depL (l : List (Sl Int)) : Nat := l.foldl (fun n s => max n s.l.length) 0
theorem dep_loop {Q : AX → St → Prop} (chs : Sl (Sl Int)) (hl : chs.l.length ≤ 1000000) (hs : ∀ s ∈ chs.l, s.l.length ≤ 1000000) (R : Nat)
    (h0 : Q (.exit 0) ⟨[(3, .t (tI R)), (6, .t (.sl (enc1 tSl chs.l) chs.cap chs.nl)), (7, .t (tI chs.l.length)), (8, .t (tI chs.l.length)), (9, .t (tB false))], []⟩) :
    ∀ (k i n : Nat), k + i = chs.l.length → (chs.l.drop i).foldl (fun n s => max n s.l.length) n = R →
    run Tryz.prog Γ shifts_Depth_l1 Q ⟨[(3, .t (tI n)), (6, .t (.sl (enc1 tSl chs.l) chs.cap chs.nl)), (7, .t (tI chs.l.length)), (8, .t (tI i))], []⟩
  | 0, i, n, h, hR => by
    refine shifts_Depth_l1_run fun K hK => ?_
    rw [List.drop_of_length_le (by omega)] at hR
    have h2 : i = chs.l.length := by omega
    subst h2
    have hR : n = R := hR
    subst hR
    simp
    simpa using h0
  | k + 1, i, n, h, hR => by
    refine shifts_Depth_l1_run fun K hK => ?_
    have h2 : i < chs.l.length := by omega
    rw [List.drop_eq_getElem_cons h2, List.foldl_cons] at hR
    have e := gE (f := tSl) ⟨[], none, none⟩ h2
    have e' := gE' (f := tSl) ⟨[], none, none⟩ h2
    rw [show chs.l.getD i ⟨[], none, none⟩ = chs.l[i] by simp [List.getD_eq_getElem?_getD, h2]] at e e'
    have ih := dep_loop chs hl hs R h0 k (i + 1) _ (by omega) hR
    generalize chs.l[i] = s at *
    simp only [tSl] at e e'
    have w1 : IntKind.i64.wrap ((i : Int) + 1) = (i : Int) + 1 := by rw [wrap_i64] <;> omega
    have hm3 : (if n < s.l.length then (s.l.length : Int) else n) = ((max n s.l.length : Nat) : Int) := by split <;> omega
    have hm : (if (s.l.length : Int) > n then (s.l.length : Int) else n) = ((max n s.l.length : Nat) : Int) := by split <;> omega
    have hm2 : (if (n : Int) < s.l.length then (s.l.length : Int) else n) = ((max n s.l.length : Nat) : Int) := by split <;> omega
    simp [h2, enc1_len, enc1_wid, e, e', w1, hm, hm2, hm3]
    rw [hK]
    simpa using ih
theorem Depth_spec (chs : Sl (Sl Int)) (hl : chs.l.length ≤ 1000000) (hs : ∀ s ∈ chs.l, s.l.length ≤ 1000000) : FreshCalls Tryz.prog Γ 39 [tChs chs] (tI (depL chs.l)) := by
  refine run_freshQ shifts_Depth_chk rfl ?_
  have g := fun Q h0 => dep_loop (Γ := Γ) (Q := Q) chs hl hs (depL chs.l) h0 chs.l.length 0 0 (by omega) (by simp [depL])
  simp [shifts_Depth_ic, tChs, enc1_len]
  refine g _ ?_
  simp [shifts_Depth_rv]
def valsErr (l : List Int) (n : Nat) : Int := if l.length ≠ n then 8 else if l.any aboveV = true then 1 else 0
theorem sval1_spec (v : Int) : FreshCalls Tryz.prog Γ 144 [tK v] (tB (aboveV v)) := by
  refine run_freshQ shifts_values_1_chk rfl ?_
  simp [shifts_values_1_ic, shifts_values_1_rv, aboveV]
theorem values_spec (s : Sl Int) (hs : s.l.length ≤ 1000000000) (n : Nat) : FreshCalls Tryz.prog Γ 101 [tV s, tI n] (tI (valsErr s.l n)) := by
  refine run_freshQ shifts_values_chk rfl ?_
  have e := containsfunc_val (Γ := Γ) s.l s.cap s.nl 144 [] aboveV (fun x _ => sval1_spec x) hs
  unfold valsErr
  by_cases h : s.l.length = n
  · subst h
    simp [shifts_values_ic, tV, enc1_len]
    refine callK_fresh e rfl ?_
    cases h3 : s.l.any aboveV
    · simp [h3, shifts_values_rv]
    · simp [h3, shifts_values_rv]
  · have h' : ¬ (s.l.length : Int) = n := by omega
    simp [shifts_values_ic, tV, enc1_len, h, h', shifts_values_rv]
end Go.Lg
namespace Go.Lg
open Go Go.Proofs
variable {Γ : Tables}
def ofZ (st pst : List Int) : List (Int × Int) := st.zip (pst.map readV)
theorem ofZ_len {st pst : List Int} (h : pst.length = st.length) : (ofZ st pst).length = st.length := by simp [ofZ, h]
theorem ofZ_get {st pst : List Int} (h : pst.length = st.length) {i : Nat} (hi : i < st.length) : (ofZ st pst)[i]'(by rw [ofZ_len h]; exact hi) = (st.getD i 0, readV (pst.getD i 0)) := by
  simp [ofZ, List.getD_eq_getElem?_getD, hi, h]
theorem ofZ_take {st pst : List Int} (h : pst.length = st.length) {i : Nat} (hi : i < st.length) : (ofZ st pst).take (i + 1) = (ofZ st pst).take i ++ [(st.getD i 0, readV (pst.getD i 0))] := by
  rw [← ofZ_get h hi, List.take_append_getElem]
theorem ofZ_not {st pst : List Int} (hd : st.Nodup) {i : Nat} (hi : i < st.length) : st.getD i 0 ∉ ((ofZ st pst).take i).map (·.1) := by
  intro hm
  obtain ⟨p, hp, e⟩ := List.mem_map.1 hm
  obtain ⟨j, hj, rfl⟩ := List.getElem_of_mem hp
  simp only [List.length_take, List.getElem_take, ofZ, List.getElem_zip] at hj e
  rw [getD_eq hi] at e
  have := (List.getElem_inj hd).1 e
  omega
theorem ofZ_at {st pst : List Int} (h : pst.length = st.length) (hd : st.Nodup) {i : Nat} (hi : i < st.length) : mpOf 0 (st.getD i 0) (ofZ st pst) = readV (pst.getD i 0) := by
  unfold ofZ
  induction st generalizing pst i with
  | nil => simp at hi
  | cons a st ih =>
    cases pst with
    | nil => simp at h
    | cons b pst =>
      simp only [List.map_cons, List.zip_cons_cons, mpOf]
      cases i with
      | zero => simp
      | succ i =>
        simp only [List.length_cons] at hi h
        have hne : ¬ (a :: st).getD (i + 1) 0 = a := by
          rw [List.getD_cons_succ, getD_eq (by omega)]
          intro e
          exact (List.nodup_cons.1 hd).1 (e ▸ List.getElem_mem _)
        rw [if_neg hne, List.getD_cons_succ, List.getD_cons_succ]
        exact ih (by omega) (List.nodup_cons.1 hd).2 (by omega)
theorem ld_l1 {Q : AX → St → Prop} (chT : T) (st : List Int) (sc : Option Nat) (sn : Option Bool) (hd : st.Nodup) (hst : st.length ≤ 1000000) (ps : Sl Int) (hps : ps.l.length = st.length)
    (h0 : Q (.exit 0) ⟨[(1, .t chT), (2, .t (tV ps)), (7, .lm 17), (19, .t (.sl (ints st) sc sn)), (20, .t (tI st.length)), (21, .t (tI st.length)), (22, .t (tB false))], [(17, .mp (mpE tK (ofZ st ps.l)))]⟩) :
    ∀ (k i : Nat), k + i = st.length →
    run Tryz.prog Γ shifts_loads_l1 Q ⟨[(1, .t chT), (2, .t (tV ps)), (7, .lm 17), (19, .t (.sl (ints st) sc sn)), (20, .t (tI st.length)), (21, .t (tI i))], [(17, .mp (mpE tK ((ofZ st ps.l).take i)))]⟩
  | 0, i, h => by
    refine shifts_loads_l1_run fun K hK => ?_
    have h2 : i = st.length := by omega
    subst h2
    rw [List.take_of_length_le (by rw [ofZ_len hps]; exact Nat.le_refl _)]
    simp
    simpa using h0
  | k + 1, i, h => by
    refine shifts_loads_l1_run fun K hK => ?_
    have h2 : i < st.length := by omega
    have h3 : i < ps.l.length := by omega
    have ih := ld_l1 chT st sc sn hd hst ps hps h0 k (i + 1) (by omega)
    rw [ofZ_take hps h2] at ih
    have hn := ofZ_not (pst := ps.l) hd h2
    have e1 := gE (f := tI) 0 h2
    have e1' := gE' (f := tI) 0 h2
    have e2 := gE (f := tK) 0 h3
    have e2' := gE' (f := tK) 0 h3
    have w1 : IntKind.i64.wrap ((i : Int) + 1) = (i : Int) + 1 := by rw [wrap_i64] <;> omega
    generalize (ofZ st ps.l).take i = Z at *
    generalize st.getD i 0 = x at *
    generalize ps.l.getD i 0 = y at *
    have em := mpE_set (f := tK) x (readV y) Z hn
    have ef := mpE_fit (f := tK) Z
    generalize mpE tK Z = M at *
    simp [tV] at ih
    simp [tV, enc1_len, enc1_wid, h2, h3, e1, e1', e2, e2', w1]
    refine callK_fresh (read_spec y) rfl ?_
    simp [em, ef, KT.fits, w1]
    rw [hK]
    simpa using ih
def loadV (Z : List (Int × Int)) (p : Int) (s : Sl Int) : Int := if p < s.l.length then mpOf 0 (s.l.getD p.toNat 0) Z else 0
def rwAt (f : Sl Int → Int) (l : List (Sl Int)) (k : Nat) : List Int := (l.take k).map f ++ List.replicate (l.length - k) 0
theorem rwAt_len {f : Sl Int → Int} {l : List (Sl Int)} {k : Nat} (hk : k ≤ l.length) : (rwAt f l k).length = l.length := by simp [rwAt]; omega
theorem rwAt_set {f : Sl Int → Int} {l : List (Sl Int)} {k : Nat} (hk : k < l.length) : (rwAt f l k).set k (f l[k]) = rwAt f l (k + 1) := by
  unfold rwAt
  rw [List.set_append_right _ _ (by simp; omega)]
  rw [show k - ((l.take k).map f).length = 0 by simp; omega, show l.length - k = (l.length - (k + 1)) + 1 by omega, List.replicate_succ, List.set_cons_zero, ← List.take_append_getElem hk, List.map_append]
  simp
theorem rwAt_zero {f : Sl Int → Int} {l : List (Sl Int)} {k : Nat} (hk : k < l.length) (h : f l[k] = 0) : rwAt f l (k + 1) = rwAt f l k := by
  unfold rwAt
  rw [show l.length - k = (l.length - (k + 1)) + 1 by omega, List.replicate_succ, ← List.take_append_getElem hk, List.map_append]
  simp [h]
theorem rwAt_all {f : Sl Int → Int} {l : List (Sl Int)} : rwAt f l l.length = l.map f := by simp [rwAt]
theorem rwAt_none {f : Sl Int → Int} {l : List (Sl Int)} : rwAt f l 0 = List.replicate l.length 0 := by simp [rwAt]
theorem ld_l3 {Q : AX → St → Prop} (ch : List (Sl Int)) (cc : Option Nat) (cn : Option Bool) (hch : ch.length ≤ 1000000) (hs : ∀ s ∈ ch, s.l.length ≤ 1000000) (Z : List (Int × Int)) (d t : Nat) (htd : t < d) (hd : d ≤ 1000000) (es : List (List T)) (p : Int) (hp : p = d - 1 - t)
    (h0 : Q (.exit 4) ⟨[(1, .t (.sl (enc1 tSl ch) cc cn)), (7, .lm 17), (10, .t (tI d)), (11, .ls 71 0 t none), (12, .t (tI t)), (13, .ls 42 0 ch.length none), (36, .t (tI d)), (37, .t (tI t)), (43, .t (.sl (enc1 tSl ch) cc cn)), (44, .t (tI ch.length)), (45, .t (tI ch.length)), (46, .t (tB false))],
      [(17, .mp (mpE tK Z)), (42, .sl 68 1 (vals (ch.map (loadV Z p)))), (71, .sl 37 1 es)]⟩) :
    ∀ (n k : Nat), n + k = ch.length →
    run Tryz.prog Γ shifts_loads_l3 Q ⟨[(1, .t (.sl (enc1 tSl ch) cc cn)), (7, .lm 17), (10, .t (tI d)), (11, .ls 71 0 t none), (12, .t (tI t)), (13, .ls 42 0 ch.length none), (36, .t (tI d)), (37, .t (tI t)), (43, .t (.sl (enc1 tSl ch) cc cn)), (44, .t (tI ch.length)), (45, .t (tI k))],
      [(17, .mp (mpE tK Z)), (42, .sl 68 1 (vals (rwAt (loadV Z p) ch k))), (71, .sl 37 1 es)]⟩
  | 0, k, h => by
    refine shifts_loads_l3_run fun K hK => ?_
    have h2 : k = ch.length := by omega
    subst h2
    rw [rwAt_all]
    simp
    simpa using h0
  | n + 1, k, h => by
    refine shifts_loads_l3_run fun K hK => ?_
    have h2 : k < ch.length := by omega
    have ih := ld_l3 ch cc cn hch hs Z d t htd hd es p hp h0 n (k + 1) (by omega)
    have e1 := gE (f := tSl) slD h2
    have e1' := gE' (f := tSl) slD h2
    have hx : ch.getD k slD = ch[k] := by simp [List.getD_eq_getElem?_getD, h2]
    rw [hx] at e1 e1'
    have hsl := hs _ (List.getElem_mem h2)
    have q1 := rwAt_set (f := loadV Z p) h2
    have q2 := rwAt_zero (f := loadV Z p) h2
    have hrl := rwAt_len (f := loadV Z p) (Nat.le_of_lt h2)
    have w1 : IntKind.i64.wrap ((k : Int) + 1) = (k : Int) + 1 := by rw [wrap_i64] <;> omega
    have w2 : IntKind.i64.wrap ((d : Int) - 1) = (d : Int) - 1 := by rw [wrap_i64] <;> omega
    have w3 : IntKind.i64.wrap ((d : Int) - 1 - t) = p := by rw [hp, wrap_i64] <;> omega
    have hp0 : 0 ≤ p := by omega
    generalize rwAt (loadV Z p) ch k = row at *
    generalize rwAt (loadV Z p) ch (k + 1) = row2 at *
    generalize ch[k] = s at *
    have hv : loadV Z p s = if p < s.l.length then mpOf 0 (s.l.getD p.toNat 0) Z else 0 := rfl
    simp only [tSl] at e1 e1'
    by_cases hlt : p < s.l.length
    · have h3 : p.toNat < s.l.length := by omega
      have e2 := gE (f := tI) 0 h3
      have e2' := gE' (f := tI) 0 h3
      rw [if_pos hlt] at hv
      rw [hv] at q1
      have es1 : (vals row).set k [tK (mpOf 0 (s.l.getD p.toNat 0) Z)] = vals row2 := by rw [← q1]; exact enc1_set
      generalize s.l.getD p.toNat 0 = x at *
      have ef := mpE_fit (f := tK) Z
      have em := mpE_find (f := tK) 0 x Z
      generalize mpE tK Z = M at *
      generalize mpOf 0 x Z = y at *
      simp [h2, enc1_len, enc1_wid, e1, e1', e2, e2', w1, w2, w3, hlt, hp0, h3, em, ef, KT.fits, hrl, es1]
      rw [hK]
      simpa using ih
    · rw [if_neg hlt] at hv
      have := q2 hv
      subst this
      simp [h2, enc1_len, enc1_wid, e1, e1', w1, w2, w3, hlt]
      rw [hK]
      simpa using ih
def tRow (l : List Int) : T := .sl (vals l) none none
theorem ld_l5 {Q : AX → St → Prop} (ch : List (Sl Int)) (cc : Option Nat) (cn : Option Bool) (hch : ch.length ≤ 1000000) (hs : ∀ s ∈ ch, s.l.length ≤ 1000000) (Z : List (Int × Int)) (d : Nat) (hd : d ≤ 1000000)
    (h0 : Q (.exit 2) ⟨[(1, .t (.sl (enc1 tSl ch) cc cn)), (7, .lm 17), (10, .t (tI d)), (11, .ls 71 0 d none), (36, .t (tI d)), (37, .t (tI d)), (38, .t (tB false))],
      [(17, .mp (mpE tK Z)), (71, .sl 37 1 (enc1 tRow ((List.range d).map fun t : Nat => ch.map (loadV Z ((d : Int) - 1 - t)))))]⟩) :
    ∀ (k t : Nat), k + t = d →
    run Tryz.prog Γ shifts_loads_l5 Q ⟨[(1, .t (.sl (enc1 tSl ch) cc cn)), (7, .lm 17), (10, .t (tI d)), (11, .ls 71 0 t none), (36, .t (tI d)), (37, .t (tI t))],
      [(17, .mp (mpE tK Z)), (71, .sl 37 1 (enc1 tRow ((List.range t).map fun t : Nat => ch.map (loadV Z ((d : Int) - 1 - t)))))]⟩
  | 0, t, h => by
    refine shifts_loads_l5_run fun K hK => ?_
    have h2 : t = d := by omega
    subst h2
    simp
    simpa using h0
  | k + 1, t, h => by
    refine shifts_loads_l5_run fun K hK => ?_
    have h2 : t < d := by omega
    have ih := ld_l5 ch cc cn hch hs Z d hd h0 k (t + 1) (by omega)
    rw [List.range_succ, List.map_append] at ih
    simp only [List.map_cons, List.map_nil] at ih
    have hel : (enc1 tRow ((List.range t).map fun t : Nat => ch.map (loadV Z ((d : Int) - 1 - t)))).length = t := by rw [enc1_len]; simp
    have g := fun es Q h0 => ld_l3 (Γ := Γ) (Q := Q) ch cc cn hch hs Z d t h2 hd es _ rfl h0 ch.length 0 (by omega)
    rw [rwAt_none] at g
    have hre : vals (List.replicate ch.length 0) = List.replicate ch.length [tK 0] := by simp [enc1]
    rw [hre] at g
    have hel2 := enc1_snoc (f := tRow) (l := (List.range t).map fun t : Nat => ch.map (loadV Z ((d : Int) - 1 - t))) (x := ch.map (loadV Z ((d : Int) - 1 - t)))
    generalize (List.range t).map (fun t : Nat => ch.map (loadV Z ((d : Int) - 1 - t))) = L at *
    have hrl : (ch.map (loadV Z ((d : Int) - 1 - t))).length = ch.length := by simp
    generalize ch.map (loadV Z ((d : Int) - 1 - t)) = row at *
    have w1 : IntKind.i64.wrap ((t : Int) + 1) = (t : Int) + 1 := by rw [wrap_i64] <;> omega
    have htk : (vals row).take ch.length = vals row := by rw [← hrl]; exact vals_take
    have htk2 : (enc1 tRow L).take t = enc1 tRow L := List.take_of_length_le (by omega)
    simp only [tRow] at hel2
    simp [h2, enc1_len]
    refine ⟨by omega, ?_⟩
    refine g _ _ ?_
    simp [St.freeze, Reg.closed, frzRef, frz1, frz0, frzReg, del, reify, htk, htk2, hel, w1, hel2]
    refine ⟨by omega, ?_⟩
    rw [hK]
    simpa [tRow] using ih
def loadsL (ch : List (Sl Int)) (st pst : List Int) : List (List Int) := (List.range (depL ch)).map fun t : Nat => ch.map (loadV (ofZ st pst) ((depL ch : Int) - 1 - t))
theorem clip_vals (es : List (List T)) (cap : Option Nat) (nl : Option Bool) (hw : wid 1 es) : PureCalls Tryz.prog Γ 104 [.sl es cap nl] (.sl es (some es.length) nl) := by
  refine run_pureQ slices_Clip_api_Values_chk rfl ?_
  simp [slices_Clip_api_Values_ic, slices_Clip_api_Values_rv, hw]
theorem depL_le {l : List (Sl Int)} {m : Nat} (h : ∀ s ∈ l, s.l.length ≤ m) : depL l ≤ m := by
  have key : ∀ (l : List (Sl Int)) (n : Nat), n ≤ m → (∀ s ∈ l, s.l.length ≤ m) → l.foldl (fun n s => max n s.l.length) n ≤ m := by
    intro l
    induction l with
    | nil => intro n hn _; exact hn
    | cons s l ih => intro n hn h; exact ih _ (Nat.max_le.2 ⟨hn, h s List.mem_cons_self⟩) fun s hs => h s (List.mem_cons_of_mem _ hs)
  exact key l 0 (by omega) h
theorem depL_ge {l : List (Sl Int)} : ∀ s ∈ l, s.l.length ≤ depL l := by
  have key : ∀ (l : List (Sl Int)) (n : Nat), n ≤ l.foldl (fun n s => max n s.l.length) n ∧ ∀ s ∈ l, s.l.length ≤ l.foldl (fun n s => max n s.l.length) n := by
    intro l
    induction l with
    | nil => intro n; exact ⟨Nat.le_refl _, by simp⟩
    | cons a l ih =>
      intro n
      obtain ⟨h1, h2⟩ := ih (max n a.l.length)
      have hm1 := Nat.le_max_left n a.l.length
      have hm2 := Nat.le_max_right n a.l.length
      refine ⟨Nat.le_trans hm1 h1, fun s hs => ?_⟩
      rcases List.mem_cons.1 hs with rfl | hs
      · exact Nat.le_trans hm2 h1
      · exact h2 s hs
  exact (key l 0).2
theorem loads_spec (c : Cir) (hc : COk c) (hsl : (states c).length ≤ 1000000) (chs : Sl (Sl Int)) (hl : chs.l.length ≤ 1000000) (hs : ∀ s ∈ chs.l, s.l.length ≤ 1000000) (ps : Sl Int) (hps : ps.l.length = (states c).length) :
    PureCalls Tryz.prog Γ 102 [.agg (tC c), tChs chs, tV ps] (.sl (enc1 tRow (loadsL chs.l (states c) ps.l)) (some (loadsL chs.l (states c) ps.l).length) none) := by
  refine run_pureQ shifts_loads_chk rfl ?_
  have e1 := states_spec (Γ := Γ) c hc
  have e2 := Depth_spec (Γ := Γ) chs hl hs
  have hd : (states c).Nodup := (ofL_nodup [14] c.nodes.l 0).2
  have g1 := fun Q sc sn h0 => ld_l1 (Γ := Γ) (Q := Q) (.sl (enc1 tSl chs.l) chs.cap chs.nl) (states c) sc sn hd hsl ps hps h0 (states c).length 0 (by omega)
  have g5 := fun Q h0 => ld_l5 (Γ := Γ) (Q := Q) chs.l chs.cap chs.nl hl hs (ofZ (states c) ps.l) (depL chs.l) (depL_le hs) h0 (depL chs.l) 0 (by omega)
  have hll : (loadsL chs.l (states c) ps.l).length = depL chs.l := by simp [loadsL]
  have hL : (List.range (depL chs.l)).map (fun t : Nat => chs.l.map (loadV (ofZ (states c) ps.l) ((depL chs.l : Int) - 1 - t))) = loadsL chs.l (states c) ps.l := rfl
  rw [hL] at g5
  generalize loadsL chs.l (states c) ps.l = L at *
  generalize states c = st at *
  have e3 := clip_vals (Γ := Γ) (enc1 tRow L) none none enc1_wid
  have htk : (enc1 tRow L).take (depL chs.l) = enc1 tRow L := List.take_of_length_le (by rw [enc1_len]; omega)
  simp [tV, mpE, enc1_nil] at g1 g5
  simp [shifts_loads_ic, tC, tNodes, tNames, tMems, tSl, tChs, tV]
  simp [tC, tNodes, tNames, tMems, tSl, tChs] at e1 e2
  refine callK_pure e1 rfl ?_
  simp [enc1_len]
  refine g1 _ _ _ ?_
  simp
  refine callK_fresh e2 rfl ?_
  simp
  refine g5 _ ?_
  simp [St.freeze, Reg.closed, frzRef, frz1, frz0, frzReg, del, reify, htk]
  refine callK_pure e3 rfl ?_
  simp [shifts_loads_rv, enc1_len]
end Go.Lg
namespace Go.Lg
open Go Go.Proofs
variable {Γ : Tables}
theorem cycle_spec (a b : Sl Int) (e : Int) (ha : a.l.length ≤ 1000000) (hb : b.l.length ≤ 1000000) : PureCalls Tryz.prog Γ 103 [tV a, tK e, tV b] (tVs (a.l ++ ([e] ++ b.l))) := by
  refine run_pureQ shifts_Test_1_chk rfl ?_
  have e1 := concat_spec (Γ := Γ) [a, ⟨[e], some 1, some false⟩, b] (some 3) (some false) (by simp) (by simp; omega) (by simp; omega)
  have hfl : ([a, ⟨[e], some 1, some false⟩, b] : List (Sl Int)).flatMap (·.l) = a.l ++ ([e] ++ b.l) := by simp
  rw [hfl] at e1
  generalize a.l ++ ([e] ++ b.l) = A at *
  have e6 := clip_val (Γ := Γ) (vals A) none none enc1_wid
  have e1' : FreshCalls Tryz.prog Γ 91 [.sl [[.sl (vals a.l) a.cap a.nl], [.sl [[tK e]] (some 1) (some false)], [.sl (vals b.l) b.cap b.nl]] (some 3) (some false)] (.sl (vals A) none none) := e1
  simp [shifts_Test_1_ic, tV]
  refine callK_fresh e1' (by simp) ?_
  simp
  refine callK_pure e6 rfl ?_
  simp [shifts_Test_1_rv, tVs, enc1_len]
structure InsH (Γ : Tables) (c : Cir) (chs : Sl (Sl Int)) (s : Nat → List (List T)) (k : Nat → Option Nat) (n : Nat → Option Bool) (en ce : Int) : Prop where
  ok : COk c
  st : (states c).length ≤ 1000000
  inp : (inputs c).length ≤ 1000000
  chl : chs.l.length ≤ 1000000
  cs : ∀ s ∈ chs.l, s.l.length ≤ 1000000
  call : PureCalls Tryz.prog Γ 29 [.agg (tC c), tChs chs] (.tup [.agg [.sl (s 0) (k 0) (n 0), .sl (s 1) (k 1) (n 1), .sl (s 2) (k 2) (n 2), .sl (s 3) (k 3) (n 3), .sl (s 4) (k 4) (n 4), tI en, .sl (s 6) (k 6) (n 6), .sl (s 7) (k 7) (n 7)], tI ce])
theorem Loads_spec {c : Cir} {chs : Sl (Sl Int)} {s : Nat → List (List T)} {k : Nat → Option Nat} {n : Nat → Option Bool} {en ce : Int} (h : InsH Γ c chs s k n en ce) (ps : Sl Int) (hp : ps.l.length ≤ 1000000) :
    PureCalls Tryz.prog Γ 38 [.agg (tC c), tChs chs, tV ps] (if ce ≠ 0 then .tup [.sl [] (some 0) (some true), tI ce] else if valsErr ps.l (states c).length ≠ 0 then .tup [.sl [] (some 0) (some true), tI (valsErr ps.l (states c).length)] else .tup [.sl (enc1 tRow (loadsL chs.l (states c) ps.l)) (some (loadsL chs.l (states c) ps.l).length) none, tI 0]) := by
  refine run_pureQ shifts_Loads_chk rfl ?_
  have e1 := h.call
  have e2 := states_spec (Γ := Γ) c h.ok
  have e3 := values_spec (Γ := Γ) ps (by omega) (states c).length
  have e4 := fun hq => loads_spec (Γ := Γ) c h.ok h.st chs h.chl h.cs ps hq
  have hv : valsErr ps.l (states c).length = 0 → ps.l.length = (states c).length := fun h => by
    unfold valsErr at h
    split at h
    · cases h
    · rename_i h2; exact Decidable.not_not.1 h2
  generalize loadsL chs.l (states c) ps.l = L at *
  generalize valsErr ps.l (states c).length = ve at *
  generalize states c = st at *
  simp [tC, tNodes, tNames, tMems, tSl, tChs, tV] at e1 e2 e3 e4
  simp [shifts_Loads_ic, tC, tNodes, tNames, tMems, tSl, tChs, tV]
  refine callK_pure e1 rfl ?_
  by_cases hc : ce = 0
  · subst hc
    simp
    refine callK_pure e2 rfl ?_
    simp [enc1_len]
    refine callK_fresh e3 rfl ?_
    by_cases hv0 : ve = 0
    · subst hv0
      simp
      refine callK_pure (e4 (hv rfl)) rfl ?_
      simp [shifts_Loads_rv]
    · simp [hv0, shifts_Loads_rv]
  · simp [hc, shifts_Loads_rv]
def zerosL (n : Nat) : List Int := List.replicate n 0
def testL (ch : List (Sl Int)) (st pin pst : List Int) : List (List Int) :=
  (loadsL ch st pst).map (fun s => zerosL pin.length ++ ([1] ++ s)) ++ ([pin ++ ([0] ++ zerosL ch.length)] ++ List.replicate (depL ch) (zerosL pin.length ++ ([1] ++ zerosL ch.length)))
def stE (chT : T) (p : Sl Int) (s : Sl Int) (i m : Nat) : List (Nat × AV) := [(1, .t chT), (5, .t (.ip [tV p, tV s] 0)), (12, .t (tRow (zerosL i))), (13, .t (tRow (zerosL m))), (14, .t (.fn 103 []))]
theorem st_l1 {Q : AX → St → Prop} (chT : T) (p s : Sl Int) (i m : Nat) (hi : i ≤ 1000000) (L : List (List Int)) (hL : L.length ≤ 1000000) (hLs : ∀ r ∈ L, r.length ≤ 1000000) (R : List (List Int))
    (h0 : Q (.exit 0) ⟨stE chT p s i m ++ [(15, .ls 76 0 L.length none), (64, .t (.sl (enc1 tRow L) (some L.length) none)), (65, .t (tI L.length)), (66, .t (tI L.length)), (67, .t (tB false))], [(76, .sl 37 1 (enc1 tVs R))]⟩) :
    ∀ (k j : Nat) (out : List (List Int)), k + j = L.length → out.length = j → out ++ (L.drop j).map (fun s => zerosL i ++ ([1] ++ s)) = R →
    run Tryz.prog Γ shifts_Test_l1 Q ⟨stE chT p s i m ++ [(15, .ls 76 0 j none), (64, .t (.sl (enc1 tRow L) (some L.length) none)), (65, .t (tI L.length)), (66, .t (tI j))], [(76, .sl 37 1 (enc1 tVs out))]⟩
  | 0, j, out, h, ho, hR => by
    refine shifts_Test_l1_run fun K hK => ?_
    have h2 : j = L.length := by omega
    subst h2
    simp only [List.drop_length, List.map_nil, List.append_nil] at hR
    subst hR
    simp [stE]
    simpa [stE] using h0
  | k + 1, j, out, h, ho, hR => by
    refine shifts_Test_l1_run fun K hK => ?_
    have h2 : j < L.length := by omega
    rw [List.drop_eq_getElem_cons h2, List.map_cons] at hR
    have hr := hLs _ (List.getElem_mem h2)
    have e := gE (f := tRow) [] h2
    have e' := gE' (f := tRow) [] h2
    rw [show L.getD j [] = L[j] by simp [List.getD_eq_getElem?_getD, h2]] at e e'
    generalize L[j] = r at *
    have ih := st_l1 chT p s i m hi L hL hLs R h0 k (j + 1) (out ++ [zerosL i ++ ([1] ++ r)]) (by omega) (by simp [ho]) (by rw [← hR]; simp)
    have e2 := cycle_spec (Γ := Γ) ⟨zerosL i, none, none⟩ ⟨r, none, none⟩ 1 (by simp [zerosL]; exact hi) hr
    have hs := enc1_snoc (f := tVs) (l := out) (x := zerosL i ++ ([1] ++ r))
    generalize zerosL i ++ ([1] ++ r) = row at *
    have htk : (enc1 tVs out).take j = enc1 tVs out := List.take_of_length_le (by rw [enc1_len]; omega)
    have w1 : IntKind.i64.wrap ((j : Int) + 1) = (j : Int) + 1 := by rw [wrap_i64] <;> omega
    simp [stE] at ih
    simp only [tRow] at e e'
    simp only [tV] at e2
    simp [stE, h2, enc1_len, enc1_wid, e, e', tRow]
    refine callK_pure e2 rfl ?_
    simp only [tVs] at hs
    simp [tVs, htk, hs, w1, ho, enc1_len]
    refine ⟨by omega, ?_⟩
    rw [hK]
    simpa [tRow, tVs] using ih
theorem st_l3 {Q : AX → St → Prop} (i m d : Nat) (hi : i ≤ 1000000) (hm : m ≤ 1000000) (hd : d ≤ 1000000) (n0 : Nat) (hn0 : n0 ≤ 1000001) (R : List (List Int)) (row : List Int) (hrow : row = zerosL i ++ ([1] ++ zerosL m))
    (h0 : Q (.exit 2) ⟨[(12, .t (tRow (zerosL i))), (13, .t (tRow (zerosL m))), (14, .t (.fn 103 [])), (15, .ls 76 0 (n0 + d) none), (87, .t (tI d)), (88, .t (tI d)), (89, .t (tB false))], [(76, .sl 37 1 (enc1 tVs R))]⟩) :
    ∀ (k j : Nat) (out : List (List Int)), k + j = d → out.length = n0 + j → out ++ List.replicate k row = R →
    run Tryz.prog Γ shifts_Test_l3 Q ⟨[(12, .t (tRow (zerosL i))), (13, .t (tRow (zerosL m))), (14, .t (.fn 103 [])), (15, .ls 76 0 (n0 + j) none), (87, .t (tI d)), (88, .t (tI j))], [(76, .sl 37 1 (enc1 tVs out))]⟩
  | 0, j, out, h, ho, hR => by
    refine shifts_Test_l3_run fun K hK => ?_
    have h2 : j = d := by omega
    subst h2
    simp only [List.replicate_zero, List.append_nil] at hR
    subst hR
    simp
    simpa using h0
  | k + 1, j, out, h, ho, hR => by
    refine shifts_Test_l3_run fun K hK => ?_
    have h2 : j < d := by omega
    have ih := st_l3 i m d hi hm hd n0 hn0 R row hrow h0 k (j + 1) (out ++ [row]) (by omega) (by simp [ho]; omega) (by rw [← hR, List.replicate_succ]; simp)
    have e2 := cycle_spec (Γ := Γ) ⟨zerosL i, none, none⟩ ⟨zerosL m, none, none⟩ 1 (by simp [zerosL]; exact hi) (by simp [zerosL]; exact hm)
    rw [show (⟨zerosL i, none, none⟩ : Sl Int).l ++ ([1] ++ (⟨zerosL m, none, none⟩ : Sl Int).l) = row from hrow.symm] at e2
    have hs := enc1_snoc (f := tVs) (l := out) (x := row)
    have htk : (enc1 tVs out).take (n0 + j) = enc1 tVs out := List.take_of_length_le (by rw [enc1_len]; omega)
    have w1 : IntKind.i64.wrap ((j : Int) + 1) = (j : Int) + 1 := by rw [wrap_i64] <;> omega
    simp only [tV] at e2
    rw [← Nat.add_assoc] at ih
    simp [h2, tRow]
    refine callK_pure e2 rfl ?_
    simp only [tVs] at hs
    simp [tVs, htk, hs, w1, ho, enc1_len]
    refine ⟨by omega, ?_⟩
    rw [hK]
    simpa [tRow, tVs] using ih
end Go.Lg
namespace Go.Lg
open Go Go.Proofs
variable {Γ : Tables}
def testErr (c : Cir) (p : Pat) : Int := if p.inn.l.length ≠ (inputs c).length ∨ p.st.l.length ≠ (states c).length then 8 else if p.inn.l.any aboveV = true ∨ p.st.l.any aboveV = true then 1 else 0
def testRes (c : Cir) (ch : List (Sl Int)) (p : Pat) (ce : Int) : T :=
  if ce ≠ 0 then .tup [.sl [] (some 0) (some true), tI ce] else if testErr c p ≠ 0 then .tup [.sl [] (some 0) (some true), tI (testErr c p)]
  else .tup [.sl (enc1 tVs (testL ch (states c) p.inn.l p.st.l)) (some (testL ch (states c) p.inn.l p.st.l).length) none, tI 0]
theorem loadsL_row {ch : List (Sl Int)} {st pst : List Int} : ∀ r ∈ loadsL ch st pst, r.length = ch.length := by
  intro r hr
  obtain ⟨t, _, rfl⟩ := List.mem_map.1 hr
  simp
theorem loadsL_len {ch : List (Sl Int)} {st pst : List Int} : (loadsL ch st pst).length = depL ch := by simp [loadsL]
set_option maxHeartbeats 1000000 in
theorem Test_spec {c : Cir} {chs : Sl (Sl Int)} {s : Nat → List (List T)} {k : Nat → Option Nat} {n : Nat → Option Bool} {en ce : Int} (h : InsH Γ c chs s k n en ce) (p : Pat) (hp : p.inn.l.length ≤ 1000000 ∧ p.st.l.length ≤ 1000000) :
    PureCalls Tryz.prog Γ 42 [.agg (tC c), tChs chs, .agg (tP p)] (testRes c chs.l p ce) := by
  refine run_pureQ shifts_Test_chk rfl ?_
  have e1 := h.call
  have e2 := inputs_spec (Γ := Γ) c h.ok
  have e3 := states_spec (Γ := Γ) c h.ok
  have e4 := values_spec (Γ := Γ) p.inn (by omega) p.inn.l.length
  have e5 := values_spec (Γ := Γ) p.st (by omega) p.st.l.length
  have e6 := fun hq => loads_spec (Γ := Γ) c h.ok h.st chs h.chl h.cs p.st hq
  have e7 := Depth_spec (Γ := Γ) chs h.chl h.cs
  have e8 := cycle_spec (Γ := Γ) p.inn ⟨zerosL chs.l.length, none, none⟩ 0 hp.1 (by simp [zerosL]; exact h.chl)
  have hdl : depL chs.l ≤ 1000000 := depL_le h.cs
  have hi := h.inp
  have hs := h.st
  have hc := h.chl
  have v4 : valsErr p.inn.l p.inn.l.length = if p.inn.l.any aboveV = true then 1 else 0 := by unfold valsErr; rw [if_neg (by simp)]
  have v5 : valsErr p.st.l p.st.l.length = if p.st.l.any aboveV = true then 1 else 0 := by unfold valsErr; rw [if_neg (by simp)]
  rw [v4] at e4
  rw [v5] at e5
  unfold testRes testErr testL
  generalize p.inn.l.any aboveV = A at *
  generalize p.st.l.any aboveV = B at *
  have hLs := loadsL_row (ch := chs.l) (st := states c) (pst := p.st.l)
  have hLl := loadsL_len (ch := chs.l) (st := states c) (pst := p.st.l)
  generalize loadsL chs.l (states c) p.st.l = L at *
  have g1 := fun Q h0 => st_l1 (Γ := Γ) (Q := Q) (.sl (enc1 tSl chs.l) chs.cap chs.nl) p.inn p.st p.inn.l.length chs.l.length hp.1 L (by omega) (fun r hr => by rw [hLs r hr]; exact hc) (L.map fun s => zerosL p.inn.l.length ++ ([1] ++ s)) h0 L.length 0 [] (by omega) rfl (by simp)
  have g3 := fun Q R h0 out ho hR => st_l3 (Γ := Γ) (Q := Q) p.inn.l.length chs.l.length (depL chs.l) hp.1 hc hdl (L.length + 1) (by omega) R _ rfl h0 (depL chs.l) 0 out (by omega) ho hR
  have hz1 : vals (zerosL p.inn.l.length) = List.replicate p.inn.l.length [tK 0] := by simp [zerosL, enc1]
  have hz2 : vals (zerosL chs.l.length) = List.replicate chs.l.length [tK 0] := by simp [zerosL, enc1]
  have hcyc : [p.inn.l ++ ([0] ++ zerosL chs.l.length)] = [p.inn.l ++ ([0] ++ (⟨zerosL chs.l.length, none, none⟩ : Sl Int).l)] := rfl
  rw [hcyc]
  have hsn := enc1_snoc (f := tVs) (l := L.map fun s => zerosL p.inn.l.length ++ ([1] ++ s)) (x := p.inn.l ++ ([0] ++ (⟨zerosL chs.l.length, none, none⟩ : Sl Int).l))
  have hml : (L.map fun s => zerosL p.inn.l.length ++ ([1] ++ s)).length = L.length := by simp
  generalize (p.inn.l ++ ([0] ++ (⟨zerosL chs.l.length, none, none⟩ : Sl Int).l)) = row at *
  generalize (L.map fun s => zerosL p.inn.l.length ++ ([1] ++ s)) = M at *
  have htk : (enc1 tVs M).take L.length = enc1 tVs M := List.take_of_length_le (by rw [enc1_len]; omega)
  have g3' := fun Q h0 => g3 Q (M ++ ([row] ++ List.replicate (depL chs.l) (zerosL p.inn.l.length ++ ([1] ++ zerosL chs.l.length)))) h0 (M ++ [row]) (by simp [hml]) (by simp)
  have hRl : (M ++ ([row] ++ List.replicate (depL chs.l) (zerosL p.inn.l.length ++ ([1] ++ zerosL chs.l.length)))).length = L.length + 1 + depL chs.l := by simp [hml]; omega
  generalize (M ++ ([row] ++ List.replicate (depL chs.l) (zerosL p.inn.l.length ++ ([1] ++ zerosL chs.l.length)))) = R at *
  have e9 := clip_vals (Γ := Γ) (enc1 tVs R) none none enc1_wid
  have htR : (enc1 tVs R).take (L.length + 1 + depL chs.l) = enc1 tVs R := List.take_of_length_le (by rw [enc1_len]; omega)
  simp [tC, tNodes, tNames, tMems, tSl, tChs, tV] at e1 e2 e3 e4 e5 e6 e7 e8
  simp [stE, tRow, hz1, hz2, tV, enc1_nil] at g1
  simp [tRow, hz1, hz2] at g3'
  simp [hz2] at e8
  simp only [tVs] at hsn
  simp [shifts_Test_ic, tC, tNodes, tNames, tMems, tSl, tChs, tP, tV]
  refine callK_pure e1 rfl ?_
  by_cases hce : ce = 0
  case neg => simp [hce, shifts_Test_rv]
  subst hce
  simp
  refine callK_pure e2 rfl ?_
  simp
  refine callK_pure e3 rfl ?_
  by_cases hl : p.inn.l.length = (inputs c).length
  case neg =>
    have hl' : ¬ (p.inn.l.length : Int) = (inputs c).length := by omega
    simp [enc1_len, hl, hl', shifts_Test_rv]
  by_cases hm : p.st.l.length = (states c).length
  case neg =>
    have hm' : ¬ (p.st.l.length : Int) = (states c).length := by omega
    simp [enc1_len, hl, hm, hm', shifts_Test_rv]
  simp [enc1_len, ← hl, ← hm]
  refine callK_fresh e4 rfl ?_
  simp
  refine callK_fresh e5 rfl ?_
  cases A
  case true => cases B <;> simp [shifts_Test_rv, hl, hm]
  cases B
  case true => simp [shifts_Test_rv, hl, hm]
  simp [St.freeze, Reg.closed, frzRef, frz1, frz0, frzReg, del, reify, enc1_len]
  refine ⟨by omega, by omega, ?_⟩
  refine callK_pure (e6 hm) rfl ?_
  simp [enc1_len]
  refine g1 _ ?_
  simp
  refine callK_pure e8 rfl ?_
  simp [tVs, htk, hsn, enc1_len, hml]
  refine ⟨by omega, ?_⟩
  refine callK_fresh e7 rfl ?_
  simp
  refine g3' _ ?_
  simp [St.freeze, Reg.closed, frzRef, frz1, frz0, frzReg, del, reify, htR]
  refine callK_pure e9 rfl ?_
  simp [shifts_Test_rv, enc1_len, hl, hm]
end Go.Lg
namespace Go.Lg
open Go Go.Proofs
variable {Γ : Tables}
theorem insH_ok (hΓ : GOk Γ) {c : Cir} {chs : Sl (Sl Int)} (h : InsOk c chs) (hi : (inputs c).length ≤ 1000000) (hs : ∀ s ∈ chs.l, s.l.length ≤ 1000000) : ∃ s k n en, InsH Γ c chs s k n en 0 ∧ (s 3).length = (scC c chs.l).outs.l.length := by
  have e := Insert_spec (Γ := Γ) hΓ c chs h
  simp only [tScan] at e
  generalize hD : scC c chs.l = D at e
  refine ⟨fun j => match j with | 0 => encN tNd D.nodes.l | 1 => enc1 tS D.names.l | 2 => encN tMm D.mems.l | 3 => ints D.outs.l | 4 => enc1 tSl (scS c chs.l).cl | 6 => ints (scS c chs.l).ins | _ => ints (scJ c chs.l).muxes,
    fun j => match j with | 0 => D.nodes.cap | 1 => D.names.cap | 2 => D.mems.cap | 3 => D.outs.cap | 4 => some (scS c chs.l).cl.length | 6 => some (scS c chs.l).ins.length | _ => some (scJ c chs.l).muxes.length,
    fun j => match j with | 0 => D.nodes.nl | 1 => D.names.nl | 2 => D.mems.nl | 3 => D.outs.nl | _ => none, c.nodes.l.length, ⟨h.ok, by have := h.s100; omega, hi, by have := h.len; omega, hs, ?_⟩, enc1_len⟩
  have e2 := e
  simp only [tC, tNodes, tNames, tMems, tSl, List.cons_append, List.nil_append] at e2
  simpa only [tC, tNodes, tNames, tMems, tSl] using e2
def rw35N (i : Nat) : Nd := if i = 0 then ⟨0, ⟨[], some 0, some true⟩, 0, 0⟩ else ⟨14, ⟨[0], some 1, some false⟩, 0, 0⟩
def rw35 : Cir := ⟨⟨[rw35N 0, rw35N 1, rw35N 2, rw35N 3], some 4, some false⟩, ⟨[[97], [102], [103], [104]], some 4, some false⟩, ⟨[], some 0, some true⟩, ⟨[0], some 1, some false⟩⟩
def rw35C : Sl (Sl Int) := ⟨[⟨[1, 2], some 2, some false⟩, ⟨[3], some 1, some false⟩], some 2, some false⟩
theorem row35_spec : PureCalls Tryz.prog Γ 98 [] (.agg (tC rw35)) := by
  refine run_pureQ law35_row_chk rfl ?_
  simp [law35_row_ic, law35_row_rv, tC, tNodes, tNames, tMems, tSl, rw35, rw35N, encN, enc1, tNd, sV, tS]
theorem rw35_ok : COk rw35 := ⟨⟨by decide, by decide, by decide, by decide, by decide, by decide, by decide⟩, by decide⟩
theorem rw35_ins : InsOk rw35 rw35C := by
  refine ⟨rw35_ok, ⟨by decide, by decide, by decide, by decide, by decide, by decide, rfl, ?_, ?_⟩, by decide, by decide, by decide, by decide, by decide, by decide, by decide, ?_, ?_, by decide, by decide +kernel⟩
  · intro x hx
    simp [rw35] at hx
    rcases hx with rfl | rfl | rfl | rfl <;> exact ⟨by decide, by decide, by decide⟩
  · exact ⟨by decide, by decide, by decide⟩
  · refine ⟨⟨⟨by decide, by decide, by decide, by decide, by decide⟩, by decide, by decide, by decide, by decide, by decide, by decide, by decide⟩, ⟨⟨by decide, by decide, by decide, by decide, by decide⟩, by decide, by decide, by decide, by decide, by decide, by decide, by decide⟩, trivial⟩
  · refine ⟨⟨by decide, by decide, by decide, by decide, by decide, by decide, by decide, by decide, by decide⟩, ⟨by decide, by decide, by decide, by decide, by decide, by decide, by decide, by decide, by decide⟩, ⟨by decide, by decide, by decide, by decide, by decide, by decide, by decide, by decide, by decide⟩, trivial⟩
theorem lives35_spec (hΓ : GOk Γ) : PureCalls Tryz.prog Γ 34 [] (tB true) := by
  refine run_pureQ law35_lives_chk rfl ?_
  obtain ⟨s, k, n, en, hI, _⟩ := insH_ok (Γ := Γ) hΓ rw35_ins (by decide) (by decide)
  have e1 := Loads_spec hI ⟨[0, 1, 1], some 3, some false⟩ (by decide)
  have e2 := Test_spec hI ⟨⟨[1], some 1, some false⟩, ⟨[0, 1, 1], some 3, some false⟩⟩ (by decide)
  have q1 : valsErr [0, 1, 1] (states rw35).length = 0 := by decide
  have q2 : loadsL rw35C.l (states rw35) [0, 1, 1] = [[1, 0], [0, 1]] := by decide
  have q3 : testErr rw35 ⟨⟨[1], some 1, some false⟩, ⟨[0, 1, 1], some 3, some false⟩⟩ = 0 := by decide
  have q4 : (testL rw35C.l (states rw35) [1] [0, 1, 1]).length = 5 := by decide
  unfold testRes at e2
  simp only [q1, q2, q3] at e1 e2
  generalize testL rw35C.l (states rw35) [1] [0, 1, 1] = L at *
  have r := row35_spec (Γ := Γ)
  generalize tC rw35 = R at *
  simp [tChs, rw35C, enc1, tSl, tV, tP, tRow, q4] at e1 e2
  simp [law35_lives_ic]
  refine callK_pure r rfl ?_
  simp
  refine callK_pure e1 rfl ?_
  simp
  refine callK_pure r rfl ?_
  simp
  refine callK_pure e2 rfl ?_
  simp [wid, q4]
  simp [law35_lives_rv, wid]
end Go.Lg
namespace Go.Lg
open Go Go.Proofs
variable {Γ : Tables}
structure Rsp where
  out : Sl Int
  next : Sl Int
def tRsp (r : Rsp) : List T := [tV r.out, tV r.next]
theorem tRsp_wid {l : List Rsp} : wid 2 (encN tRsp l) := encN_wid fun _ => rfl
end Go.Lg
namespace Go.Lg
open Go Go.Proofs
variable {Γ : Tables}
structure RunH (Γ : Tables) (c : Cir) : Prop where
  st : (states c).length ≤ 1000000
  run : ∀ p : Pat, POk c p → PureCalls Tryz.prog Γ 15 [.agg (tC c), .agg (tP p)] (.tup [.agg [tVs (outL c (netsL c p.inn.l p.st.l)), tVs (nextsL c (netsL c p.inn.l p.st.l))], .sl (vals (netsL c p.inn.l p.st.l)) (some c.nodes.l.length) none, tI 0])
theorem next_4 {c : Cir} {N : List Int} {n : Int} (h : ∀ v ∈ N, 0 ≤ v) : V4 (nextL c N n) := by
  unfold nextL
  split
  · have hv : 0 ≤ valueL N ((innAt c n.toNat).getD 0 0) := by
      unfold valueL
      split
      · decide
      · rename_i hh
        unfold cleanV
        split
        · decide
        · have : ((innAt c n.toNat).getD 0 0).toNat < N.length := by omega
          rw [getD_eq this]
          exact h _ (List.getElem_mem _)
    unfold readV V4
    split <;> omega
  · simp [V4]
theorem nexts_4 {c : Cir} {N : List Int} (h : ∀ v ∈ N, 0 ≤ v) : ∀ v ∈ nextsL c N, V4 v := by
  intro v hv
  obtain ⟨n, _, rfl⟩ := List.mem_map.1 hv
  exact next_4 h
theorem nexts_len {c : Cir} {N : List Int} : (nextsL c N).length = (states c).length := by simp [nextsL]
def rspOf (c : Cir) (i st : List Int) : Rsp := ⟨⟨outL c (netsL c i st), some (outL c (netsL c i st)).length, none⟩, ⟨nextsL c (netsL c i st), some (nextsL c (netsL c i st)).length, none⟩⟩
def playR (c : Cir) : List Int → List (List Int) → List Rsp
  | _, [] => []
  | st, i :: l => rspOf c i st :: playR c (nextsL c (netsL c i st)) l
def playE (c : Cir) : List Int → List (List Int) → List Int
  | st, [] => st
  | st, i :: l => playE c (nextsL c (netsL c i st)) l
theorem playR_len {c : Cir} : ∀ {l : List (List Int)} {st : List Int}, (playR c st l).length = l.length
  | [], _ => rfl
  | i :: l, st => by simp [playR, playR_len]
theorem nets_4' {c : Cir} (h : levErr c = 0) {p : Pat} (hp : POk c p) : ∀ v ∈ netsL c p.inn.l p.st.l, V4 v := by
  have hf := nets_fix h p.inn.l p.st.l
  have key := lev_ind h (Q := fun i => V4 ((netsL c p.inn.l p.st.l).getD i 0)) fun i hi hcb => by
    rw [hf.2 i hi]
    split
    · rename_i h
      refine evalL_4 fun v hv => ?_
      obtain ⟨q, hq, rfl⟩ := List.mem_map.1 hv
      exact (hcb h q hq).2
    · rw [load_at hp.i hp.s hi]
      split
      · exact getD_4 hp.vi _
      split
      · exact getD_4 hp.vs _
      · simp [V4]
  intro v hv
  obtain ⟨i, hi, rfl⟩ := List.getElem_of_mem hv
  have := key i (by rw [nets_len] at hi; exact hi)
  rwa [getD_eq hi] at this
def playS (c : Cir) : Sl Int → List (List Int) → Sl Int
  | st, [] => st
  | st, i :: l => playS c ⟨nextsL c (netsL c i st.l), none, none⟩ l
def plE (c : Cir) (st : Sl Int) (ins : List (Sl Int)) (ic : Option Nat) (nn : Option Bool) (i : Nat) : List (Nat × AV) :=
  [(1, .t (tV st)), (3, .t (.ip (tC c) 0)), (13, .ls 59 0 i none), (38, .t (.sl (enc1 tV ins) ic nn)), (39, .t (tI ins.length)), (40, .t (tI i))]
theorem play_l1 {Q : AX → St → Prop} (c : Cir) (H : RunH Γ c) (hl : levErr c = 0) (ins : List (Sl Int)) (ic : Option Nat) (nn : Option Bool) (hn : ins.length ≤ 1000000) (hin : ∀ x ∈ ins, x.l.length = (inputs c).length ∧ ∀ v ∈ x.l, V4 v) (E : Sl Int) (R : List Rsp)
    (h0 : Q (.exit 0) ⟨plE c E ins ic nn ins.length ++ [(41, .t (tB false))], [(59, .sl 42 2 (encN tRsp R))]⟩) :
    ∀ (rest : List (Sl Int)) (i : Nat) (st : Sl Int) (out : List Rsp), i + rest.length = ins.length → ins.drop i = rest → out.length = i → st.l.length = (states c).length → (∀ v ∈ st.l, V4 v) →
    playS c st (rest.map (·.l)) = E → out ++ playR c st.l (rest.map (·.l)) = R →
    run Tryz.prog Γ shifts_Play_l1 Q ⟨plE c st ins ic nn i, [(59, .sl 42 2 (encN tRsp out))]⟩
  | [], i, st, out, h, hdr, ho, hs, hv, hE, hR => by
    refine shifts_Play_l1_run fun K hK => ?_
    have h2 : i = ins.length := by simpa using h
    subst h2
    have hE : st = E := hE
    have hR : out = R := by simpa [playR] using hR
    subst hE
    subst hR
    simp [plE]
    simpa [plE] using h0
  | x :: rest, i, st, out, h, hdr, ho, hs, hv, hE, hR => by
    refine shifts_Play_l1_run fun K hK => ?_
    simp only [List.length_cons] at h
    have h2 : i < ins.length := by omega
    rw [List.drop_eq_getElem_cons h2, List.cons.injEq] at hdr
    have hx := hin x (by rw [← hdr.1]; exact List.getElem_mem _)
    have hP : POk c ⟨x, st⟩ := ⟨hx.1, hs, hx.2, hv⟩
    have hrun := H.run _ hP
    have hnp := nets_4' hl hP
    have hst := H.st
    have e1 := gE (f := tV) ⟨[], none, none⟩ h2
    have e1' := gE' (f := tV) ⟨[], none, none⟩ h2
    rw [show ins.getD i ⟨[], none, none⟩ = x by rw [← hdr.1]; simp [List.getD_eq_getElem?_getD, h2]] at e1 e1'
    simp only [List.map_cons, playS, playR] at hE hR
    have hrl : (rspOf c x.l st.l).out.l = outL c (netsL c x.l st.l) := rfl
    have ih := play_l1 c H hl ins ic nn hn hin E R h0 rest (i + 1) ⟨nextsL c (netsL c x.l st.l), none, none⟩ (out ++ [rspOf c x.l st.l]) (by omega) hdr.2 (by simp [ho]) nexts_len (nexts_4 fun v hv => (hnp v hv).1) hE (by rw [← hR]; simp)
    have hcl := clone_any (Γ := Γ) ⟨nextsL c (netsL c x.l st.l), some (nextsL c (netsL c x.l st.l)).length, none⟩ (fun h => nomatch h) (by show (nextsL c _).length ≤ _; rw [nexts_len]; omega)
    have hsn := encN_snoc (f := tRsp) (l := out) (x := rspOf c x.l st.l)
    simp only [rspOf, tRsp, tV] at hsn ih
    simp only [cloneS, tV] at hcl
    simp only at hrun
    generalize outL c (netsL c x.l st.l) = O at *
    generalize nextsL c (netsL c x.l st.l) = N at *
    generalize netsL c x.l st.l = M at *
    have htk : (encN tRsp out).take i = encN tRsp out := List.take_of_length_le (by rw [encN_len]; omega)
    have w1 : IntKind.i64.wrap ((i : Int) + 1) = (i : Int) + 1 := by rw [wrap_i64] <;> omega
    simp only [tV] at e1 e1'
    simp [tC, tNodes, tNames, tMems, tSl, tP, tV, tVs] at hrun
    simp [plE, tC, tNodes, tNames, tMems, tSl, tV] at ih
    simp [plE, tC, tNodes, tNames, tMems, tSl, tV, h2, enc1_len, enc1_wid, e1, e1']
    refine callK_pure hrun rfl ?_
    simp [htk, hsn, ho, encN_len]
    refine ⟨by omega, ?_⟩
    refine callK_pure hcl rfl ?_
    simp [w1]
    rw [hK]
    simpa using ih
theorem clip_rsp (es : List (List T)) (cap : Option Nat) (nl : Option Bool) (hw : wid 2 es) : PureCalls Tryz.prog Γ 100 [.sl es cap nl] (.sl es (some es.length) nl) := by
  refine run_pureQ slices_Clip_api_Response_chk rfl ?_
  simp [slices_Clip_api_Response_ic, slices_Clip_api_Response_rv, hw]
theorem Play_spec (c : Cir) (H : RunH Γ c) (hl : levErr c = 0) (st : Sl Int) (hs : st.l.length = (states c).length) (hv : ∀ v ∈ st.l, V4 v) (hnl : st.nl = some true → st.l = []) (ins : List (Sl Int)) (ic : Option Nat) (nn : Option Bool) (hne : ins ≠ []) (hn : ins.length ≤ 1000000) (hin : ∀ x ∈ ins, x.l.length = (inputs c).length ∧ ∀ v ∈ x.l, V4 v) :
    PureCalls Tryz.prog Γ 36 [.agg (tC c), tV st, .sl (enc1 tV ins) ic nn] (.tup [.sl (encN tRsp (playR c st.l (ins.map (·.l)))) (some ins.length) none, tVs (playE c st.l (ins.map (·.l))), tI 0]) := by
  refine run_pureQ shifts_Play_chk rfl ?_
  have hst := H.st
  have hcl := clone_any (Γ := Γ) st hnl (by omega)
  have hcn := cloneS_l st hnl
  have hne' : 0 < ins.length := List.length_pos_iff.2 hne
  have hE : playS c (cloneS st) (ins.map (·.l)) = ⟨playE c st.l (ins.map (·.l)), none, none⟩ := by
    cases ins with
    | nil => exact absurd rfl hne
    | cons x l =>
      simp only [List.map_cons, playS, playE]
      rw [hcn]
      have key : ∀ (l : List (List Int)) (s : List Int), playS c ⟨s, none, none⟩ l = ⟨playE c s l, none, none⟩ := by
        intro l
        induction l with
        | nil => intro s; rfl
        | cons i l ih => intro s; simp only [playS, playE]; exact ih _
      exact key _ _
  have g1 := fun Q h0 => play_l1 (Γ := Γ) (Q := Q) c H hl ins ic nn hn hin _ _ h0 ins 0 (cloneS st) [] (by omega) (List.drop_zero) rfl (by rw [hcn]; exact hs) (by rw [hcn]; exact hv) hE (by rw [List.nil_append, hcn])
  generalize hRR : playR c st.l (ins.map (·.l)) = R at *
  have hRl : R.length = ins.length := by rw [← hRR, playR_len]; simp
  generalize playE c st.l (ins.map (·.l)) = E at *
  have e1 := clip_rsp (Γ := Γ) (encN tRsp R) none none tRsp_wid
  have e2 := clip_val (Γ := Γ) (vals E) none none enc1_wid
  have htk : (encN tRsp R).take ins.length = encN tRsp R := List.take_of_length_le (by rw [encN_len]; omega)
  generalize cloneS st = s0 at *
  have hni : ¬ ins.length = 0 := by omega
  have hni' : ¬ (ins.length : Int) = 0 := by omega
  simp [plE, tC, tNodes, tNames, tMems, tSl, tV, show encN tRsp [] = [] from rfl] at g1
  simp only [tV] at hcl
  simp [shifts_Play_ic, tC, tNodes, tNames, tMems, tSl, tV]
  refine callK_pure hcl rfl ?_
  simp [enc1_len, hni, hni', hne]
  refine g1 _ ?_
  simp [St.freeze, Reg.closed, frzRef, frz1, frz0, frzReg, del, reify, htk]
  refine callK_pure e1 rfl ?_
  simp
  refine callK_pure e2 rfl ?_
  simp [shifts_Play_rv, encN_len, hRl, tVs, enc1_len]
end Go.Lg
namespace Go.Lg
open Go Go.Proofs
variable {Γ : Tables}
theorem wrap_u64 {n : Int} (h1 : 0 ≤ n) (h2 : n < 18446744073709551616) : IntKind.u64.wrap n = n := by
  simp [IntKind.wrap, IntKind.signed, IntKind.bits]
  omega
theorem and32 {n : Nat} (h : n < 4294967296) : IntKind.u64.wrap ((BitVec.ofInt 64 (n : Int) &&& BitVec.ofInt 64 4294967295).toNat : Int) = n := by
  have e : (BitVec.ofInt 64 (n : Int) &&& BitVec.ofInt 64 4294967295).toNat = n := by
    rw [BitVec.toNat_and]
    have h1 : (BitVec.ofInt 64 (n : Int)).toNat = n := by
      simp [BitVec.toNat_ofInt]; omega
    have h2 : (BitVec.ofInt 64 4294967295).toNat = 2 ^ 32 - 1 := by decide
    rw [h1, h2, Nat.and_two_pow_sub_one_eq_mod]
    omega
  rw [e, wrap_u64] <;> omega
theorem and32' {n : Nat} (h : n < 4294967296) : IntKind.u64.wrap ((BitVec.ofNat 64 n &&& 4294967295#64).toNat : Int) = n := by
  have := and32 h
  rwa [show BitVec.ofInt 64 (n : Int) = BitVec.ofNat 64 n from by simp, show BitVec.ofInt 64 4294967295 = 4294967295#64 from rfl] at this
abbrev tU (n : Int) : T := .v (.int .u64 n)
theorem fdiv32 {n : Nat} (h : n < 4294967296) : (n : Int).fdiv 4294967296 = 0 := by
  rw [Int.fdiv_eq_ediv_of_nonneg _ (by omega)]; omega
theorem Mul64_spec (a b : Nat) (ha : a < 65536) (hb : b < 65536) : FreshCalls Tryz.prog Γ 188 [tU a, tU b] (.tup [tU 0, tU (a * b : Nat)]) := by
  refine run_freshQ bits_Mul64_chk rfl ?_
  have hab : a * b ≤ 65535 * 65535 := Nat.mul_le_mul (by omega) (by omega)
  have a1 := and32' (n := a) (by omega)
  have b1 := and32' (n := b) (by omega)
  have z1 := and32' (n := 0) (by omega)
  have a2 := fdiv32 (n := a) (by omega)
  have b2 := fdiv32 (n := b) (by omega)
  have c2 := fdiv32 (n := a * b) (by omega)
  have m32 : min (32 : Int).toNat 64 = 32 := by decide
  have c1 : IntKind.u64.wrap ((a : Int) * b) = ((a * b : Nat) : Int) := by rw [← Int.natCast_mul, wrap_u64] <;> omega
  have z2 : IntKind.u64.wrap 0 = 0 := by decide
  simp [bits_Mul64_ic, bits_Mul64_rv, IntKind.bits, a1, b1, a2, b2, c1, c2, z1, z2, m32, -Int.natCast_mul]
  erw [a1, b1, c1, c2, z2]
theorem Mul_spec (a b : Nat) (ha : a < 65536) (hb : b < 65536) : FreshCalls Tryz.prog Γ 169 [tU a, tU b] (.tup [tU 0, tU (a * b : Nat)]) := by
  refine run_freshQ bits_Mul_chk rfl ?_
  simp [bits_Mul_ic]
  refine callK_fresh (Mul64_spec a b ha hb) rfl ?_
  simp [bits_Mul_rv]
theorem rep_set1 {j n : Nat} (h1 : 0 < j) (h2 : j < n) : (List.replicate j [tK 2] ++ List.replicate (n - j) [tK 0]).take j ++ ((List.replicate j [tK 2] ++ List.replicate (n - j) [tK 0]).take j).take (min (n - j) j) ++ (List.replicate j [tK 2] ++ List.replicate (n - j) [tK 0]).drop (j + min (n - j) j) = List.replicate (j + min (n - j) j) [tK 2] ++ List.replicate (n - (j + min (n - j) j)) [tK 0] := by
  have e1 : (List.replicate j [tK 2] ++ List.replicate (n - j) [tK 0]).take j = List.replicate j [tK 2] := by
    rw [List.take_append_of_le_length (by simp), List.take_of_length_le (by simp)]
  have e2 : (List.replicate j [tK 2]).take (min (n - j) j) = List.replicate (min (n - j) j) [tK 2] := by
    rw [List.take_replicate, Nat.min_eq_left (Nat.min_le_right _ _)]
  rw [e1, e2, ← List.replicate_append_replicate (n := j), List.drop_append, List.drop_of_length_le (by simp), List.nil_append, List.drop_replicate]
  congr 2
  simp; omega
theorem rep_loop {Q : AX → St → Prop} (n : Nat) (hn : n ≤ 1000000)
    (h0 : Q (.exit 0) ⟨[(7, .ls 30 0 n none), (8, .t (tI n)), (37, .t (tB false))], [(30, .sl 68 1 (List.replicate n [tK 2]))]⟩) :
    ∀ (f j : Nat), n - j ≤ f → 0 < j → j ≤ n →
    run Tryz.prog Γ slices_Repeat_api_Value_l1 Q ⟨[(7, .ls 30 0 n none), (8, .t (tI j))], [(30, .sl 68 1 (List.replicate j [tK 2] ++ List.replicate (n - j) [tK 0]))]⟩
  | 0, j, hf, h1, h2 => by
    refine slices_Repeat_api_Value_l1_run fun K hK => ?_
    have h3 : j = n := by omega
    subst h3
    simp
    simpa using h0
  | f + 1, j, hf, h1, h2 => by
    refine slices_Repeat_api_Value_l1_run fun K hK => ?_
    by_cases h3 : j = n
    · subst h3
      simp
      simpa using h0
    · have h4 : j < n := by omega
      have ih := rep_loop n hn h0 f (j + min (n - j) j) (by omega) (by omega) (by omega)
      rw [← rep_set1 h1 h4] at ih
      have hw : wid 1 (List.replicate j [tK 2] ++ List.replicate (n - j) [tK 0]) := by
        intro e he
        rcases List.mem_append.1 he with he | he <;> rw [List.eq_of_mem_replicate he] <;> rfl
      have hl : (List.replicate j [tK 2] ++ List.replicate (n - j) [tK 0]).length = n := by simp; omega
      generalize List.replicate j [tK 2] ++ List.replicate (n - j) [tK 0] = es at *
      have hwt : wid 1 (es.take j) := fun e he => hw e (List.mem_of_mem_take he)
      have hjn : min j n = j := by omega
      have w1 : IntKind.i64.wrap ((j : Int) + ((min (n - j) j : Nat) : Int)) = ((j + min (n - j) j : Nat) : Int) := by rw [wrap_i64] <;> omega
      simp [h4, h2, hl, hwt, hjn, w1, -Int.natCast_add]
      rw [hK]
      simpa using ih
theorem Repeat_spec (n : Nat) (hn : n ≤ 60000) : PureCalls Tryz.prog Γ 143 [.sl [[tK 2]] (some 1) (some false), tI n] (.sl (List.replicate n [tK 2]) none none) := by
  refine run_pureQ slices_Repeat_api_Value_chk rfl ?_
  have em : FreshCalls Tryz.prog Γ 169 [tU 1, tU n] (.tup [tU 0, tU n]) := by
    have := Mul_spec (Γ := Γ) 1 n (by omega) (by omega)
    rwa [Nat.one_mul] at this
  have u1 : IntKind.u64.wrap (n : Int) = n := by rw [wrap_u64] <;> omega
  have u2 : IntKind.u64.wrap 1 = 1 := by decide
  have u3 : IntKind.i64.wrap (n : Int) = n := by rw [wrap_i64] <;> omega
  have u4 : ¬ (9223372036854775807 : Int) < n := by omega
  have u5 : ¬ (n : Int) < 0 := by omega
  have hw2 : wid 1 [[tK 2]] := by intro e he; simp at he; subst he; rfl
  simp [slices_Repeat_api_Value_ic, u1, u2, u5]
  refine callK_fresh em rfl ?_
  simp [u3, u4]
  refine ⟨by omega, ?_⟩
  by_cases h0 : n = 0
  · subst h0
    simp
    refine slices_Repeat_api_Value_l1_run fun K hK => ?_
    simp [slices_Repeat_api_Value_rv, reify]
  · have hm1 : min n 1 = 1 := by omega
    have hdr : (List.replicate n [tK 0]).drop 1 = List.replicate (n - 1) [tK 0] := by rw [List.drop_replicate]
    have g := fun Q h0 => rep_loop (Γ := Γ) (Q := Q) n (by omega) h0 n 1 (by omega) (by omega) (by omega)
    simp at g
    simp [hm1]
    refine g _ ?_
    simp [slices_Repeat_api_Value_rv, reify]
theorem Blank1_spec (n : Nat) (hn : n ≤ 60000) : PureCalls Tryz.prog Γ 142 [tI n] (.sl (List.replicate n [tK 2]) none none) := by
  refine run_pureQ sims_Blank_1_chk rfl ?_
  simp [sims_Blank_1_ic]
  refine callK_pure (Repeat_spec n hn) rfl ?_
  simp [sims_Blank_1_rv]
theorem Blank_spec (c : Cir) (hc : COk c) (hi : (inputs c).length ≤ 60000) (hs : (states c).length ≤ 60000) : PureCalls Tryz.prog Γ 99 [.agg (tC c)] (.agg [.sl (vals (List.replicate (inputs c).length 2)) none none, .sl (vals (List.replicate (states c).length 2)) none none]) := by
  refine run_pureQ sims_Blank_chk rfl ?_
  have e1 := inputs_spec (Γ := Γ) c hc
  have e2 := states_spec (Γ := Γ) c hc
  have b1 := Blank1_spec (Γ := Γ) (inputs c).length hi
  have b2 := Blank1_spec (Γ := Γ) (states c).length hs
  have v1 : ∀ n, vals (List.replicate n 2) = List.replicate n [tK 2] := fun n => by simp [enc1]
  simp [tC, tNodes, tNames, tMems, tSl] at e1 e2
  simp [sims_Blank_ic, tC, tNodes, tNames, tMems, tSl]
  refine callK_pure e1 rfl ?_
  simp [enc1_len]
  refine callK_pure b1 rfl ?_
  simp
  refine callK_pure e2 rfl ?_
  simp [enc1_len]
  refine callK_pure b2 rfl ?_
  simp [sims_Blank_rv, v1]
theorem Play_spec0 (c : Cir) (H : RunH Γ c) (hc : COk c) (hi : (inputs c).length ≤ 60000) (st : Sl Int) (hs : st.l.length = (states c).length) (hv : ∀ v ∈ st.l, V4 v) (hnl : st.nl = some true → st.l = []) (hs2 : (states c).length ≤ 60000) (ic : Option Nat) (nn : Option Bool) :
    PureCalls Tryz.prog Γ 36 [.agg (tC c), tV st, .sl [] ic nn] (.tup [.sl [] (some 0) none, .sl (vals st.l) (some st.l.length) (cloneS st).nl, tI 0]) := by
  refine run_pureQ shifts_Play_chk rfl ?_
  have hcl := clone_any (Γ := Γ) st hnl (by omega)
  have hcn := cloneS_l st hnl
  have eb := Blank_spec (Γ := Γ) c hc hi hs2
  have er := H.run ⟨⟨List.replicate (inputs c).length 2, none, none⟩, cloneS st⟩ ⟨by simp, by show (cloneS st).l.length = _; rw [hcn]; exact hs, fun v hv => by rw [List.eq_of_mem_replicate hv]; simp [V4], fun v h => hv v (by rw [← hcn]; exact h)⟩
  have e1 := clip_rsp (Γ := Γ) [] none none (fun e he => by cases he)
  have e2 := clip_val (Γ := Γ) (vals (cloneS st).l) (cloneS st).cap (cloneS st).nl enc1_wid
  rw [hcn] at e2 er
  simp only at er
  generalize outL c (netsL c (List.replicate (inputs c).length 2) st.l) = O at *
  generalize nextsL c (netsL c (List.replicate (inputs c).length 2) st.l) = N at *
  generalize netsL c (List.replicate (inputs c).length 2) st.l = M at *
  simp only [tV, tVs, tP] at hcl er
  rw [hcn] at hcl er
  generalize (cloneS st).cap = kc at *
  generalize (cloneS st).nl = kn at *
  simp [tC, tNodes, tNames, tMems, tSl] at eb er
  simp [shifts_Play_ic, tC, tNodes, tNames, tMems, tSl, tV]
  refine callK_pure hcl rfl ?_
  simp
  refine callK_pure eb rfl ?_
  simp
  refine callK_pure er rfl ?_
  simp
  refine shifts_Play_l1_run fun K hK => ?_
  simp [St.freeze, Reg.closed, frzRef, frz1, frz0, frzReg, del, reify]
  refine callK_pure e1 rfl ?_
  simp
  refine callK_pure e2 rfl ?_
  simp [shifts_Play_rv, enc1_len]
end Go.Lg
namespace Go.Lg
open Go Go.Proofs
variable {Γ : Tables}
theorem pat_good {c : Cir} {ch : List (Sl Int)} (h : ScOk c ch) {p : Pat} (hp : POk c p) {e : Int} (he : V4 e) {v : List Int} (hv : v.length = ch.length) (hv4 : ∀ x ∈ v, V4 x) (k : Option Nat) (n : Option Bool) :
    patRes (scC c ch) p e ⟨v, k, n⟩ = .tup [.agg [tVs (p.inn.l ++ ([e] ++ v)), tV (cpS p.st)], tI 0] := by
  have hk := sc_pok h hp he hv hv4 none none none none
  have a1 : ∀ {l : List Int}, (∀ v ∈ l, V4 v) → l.any aboveV = false := fun h => List.any_eq_false.2 fun v hv => by have := (h v hv).2; simp [aboveV]; omega
  have hE : patErr (scC c ch) p e ⟨v, k, n⟩ = 0 := by
    unfold patErr
    rw [if_neg (fun hh => hh hk.i), if_neg (by rw [show patAll p e ⟨v, k, n⟩ = p.inn.l ++ ([e] ++ v) from rfl, a1 hk.vi, a1 hk.vs]; simp)]
  unfold patRes
  rw [if_pos hE]; rfl
end Go.Lg
namespace Go.Lg
open Go
section
variable {P : Program} {Γ : Tables} {Q : AX → St → Prop} {s : St}
/- probecard/probecardlaw35.ShiftsLoads (function 7) -/
abbrev law35_ShiftsLoads_g0 : IC := .gh (.seq (.seq (.reg [om 46 15, om 47 8, od 48 (le 0 47), od 49 (.bin .lss (tm 46) (tm 48))] [kp [2, 7, 8, 9, 10, 11, 12, 13, 14, 15, 49] [7, 9, 12]]) (.cond (tm 49) .skip (.exit 0))) (.seq (.block 1 (.reg [om 52 14, om 53 8, om
 54 15, od 55 (ia 1 53 54), od 56 (ld 1 55), od 57 (le 0 56), od 58 (.mmx true [(tm 52), (tm 57)]), om 14 58] [kp [2, 7, 8, 9, 10, 11, 12, 13, 14, 15] [7, 9, 12]])) (.reg [om 50 15, od 51 (.bin .add (tm 50) (ki 1)), om 15 51] [kp
 [2, 7, 8, 9, 10, 11, 12, 13, 14, 15] [7, 9, 12]]))) [kp [2, 7, 8, 9, 10, 11, 12, 13, 14, 15] [7, 9, 12]]
def law35_ShiftsLoads_l1 : IC := .loop law35_ShiftsLoads_g0
abbrev law35_ShiftsLoads_g2 : IC := .gh (.seq (.seq (.reg [om 90 18, om 91 8, od 92 (le 0 91), od 93 (.bin .lss (tm 90) (tm 92))] [kp [2, 7, 8, 9, 10, 12, 14, 16, 17, 18, 93] [7, 9, 12, 131]]) (.cond (tm 93) .skip (.exit 4))) (.seq (.block 5 (.seq (.reg [om 96 14, om
 97 17, od 98 (.bin .sub (tm 96) (tm 97)), om 99 8, om 100 18, od 101 (ia 1 99 100), od 102 (ld 1 101), od 103 (le 0 102), od 104 (.bin .gtr (tm 98) (tm 103)), om 105 104, oT 106 (.mv (tm 10)) 105, oT 107 (.mv (tm 17)) 105, oT 108
 (ia 1 106 107) 105, oT 109 (ld 1 108) 105, oT 110 (.mv (tm 18)) 105, oT 111 (ia 1 109 110) 105, oT 112 (ld 1 111) 105, oT 113 (.bin .neq (tm 112) (ku 0)) 105, od 114 (.pick (tm 105) (tm 113) kF)] [kp [2, 7, 8, 9, 10, 12, 14, 16,
 17, 18, 114] [7, 9, 12, 131]]) (.cond (tm 114) (.seq (.reg [od 6 (.mv kF)] [kp [6] []]) .ret) .skip))) (.reg [om 94 18, od 95 (.bin .add (tm 94) (ki 1)), om 18 95] [kp [2, 7, 8, 9, 10, 12, 14, 16, 17, 18] [7, 9, 12, 131]]))) [kp
 [2, 7, 8, 9, 10, 12, 14, 16, 17, 18] [7, 9, 12, 131]]
def law35_ShiftsLoads_l3 : IC := .loop law35_ShiftsLoads_g2
abbrev law35_ShiftsLoads_g4 : IC := .gh (.seq (.seq (.reg [om 77 17, om 78 14, od 79 (.bin .lss (tm 77) (tm 78))] [kp [2, 7, 8, 9, 10, 12, 14, 16, 17, 79] [7, 9, 12, 131]]) (.cond (tm 79) .skip (.exit 2))) (.seq (.block 3 (.seq (.seq (.reg [om 82 10, om 83 17, od 84
 (ia 1 82 83), od 85 (ld 1 84), od 86 (le 0 85), om 87 8, od 88 (le 0 87), od 89 (.bin .neq (tm 86) (tm 88))] [kp [2, 7, 8, 9, 10, 12, 14, 16, 17, 89] [7, 9, 12, 131]]) (.cond (tm 89) (.seq (.reg [od 6 (.mv kF)] [kp [6] []]) .ret)
 .skip)) (.seq (.seq (.reg [od 18 (.mv (ki 0))] [kp [2, 7, 8, 9, 10, 12, 14, 16, 17, 18] [7, 9, 12, 131]]) (.block 4 law35_ShiftsLoads_l3)) (.seq (.reg [od 116 (.ldR 12 8 true (tm 12)), od 117 (.ldR 9 2 true (tm 9)), om 118 10, om
 119 17, od 120 (ia 1 118 119), od 121 (.ldT 1 false (tm 120)), od 122 (.call 30 [(tm 116), (tm 117), (ku 1), (tm 121)]), om 115 122, od 123 (ex 115 0), od 124 (ex 115 1), od 19 (.alloc false [(.slice none 0 0), (.slice none 0 0)]),
 on (.stR 19 2 (tm 19) (tm 123)), om 20 124] [kp [2, 7, 8, 9, 10, 12, 14, 16, 17, 19, 20] [7, 9, 12, 19, 131]]) (.seq (.seq (.reg [om 125 20, od 126 (.bin .neq (tm 125) (ki 0))] [kp [2, 7, 8, 9, 10, 12, 14, 16, 17, 19, 126] [7, 9,
 12, 19, 131]]) (.cond (tm 126) (.seq (.reg [od 6 (.mv kF)] [kp [6] []]) .ret) .skip)) (.reg [om 127 16, od 128 (fa 0 19), od 129 (ld 1 128), od 130 (.bsl true 37 1 [(tm 129)]), od 131 (.app false 37 1 (tm 127) (tm 130)), om 16 131]
 [kp [2, 7, 8, 9, 10, 12, 14, 16, 17] [7, 9, 12, 131]])))))) (.reg [om 80 17, od 81 (.bin .add (tm 80) (ki 1)), om 17 81] [kp [2, 7, 8, 9, 10, 12, 14, 16, 17] [7, 9, 12, 131]]))) [kp [2, 7, 8, 9, 10, 12, 14, 16, 17] [7, 9, 12, 131]]
def law35_ShiftsLoads_l5 : IC := .loop law35_ShiftsLoads_g4
abbrev law35_ShiftsLoads_ic : IC := (.seq (.reg [od 3 (.box true (tm 0)), od 4 (.box true (tm 1)), od 6 (.mv kF)] [kp [2, 3, 4] []]) (.seq (.reg [od 25 (lG 14 3), od 26 (.call 22 [(tm 25)]), om 24 26, od 27 (ex 24 0), od 28 (ex 24 1), od 7 (.alloc false [(.slice none
 0 0), (.slice none 0 0), (.slice none 0 0), (.slice none 0 0)]), on (.store 4 (tm 7) (tm 27)), om 8 28] [kp [2, 4, 7, 8] [7]]) (.seq (.reg [od 29 (lG 2 4), od 30 (lG 4 7), od 31 (.call 14 [(tm 29), (tm 30)]), od 9 (.alloc false
 [(.slice none 0 0), (.slice none 0 0)]), on (.store 2 (tm 9) (tm 31))] [kp [2, 7, 8, 9] [7, 9]]) (.seq (.reg [od 33 (lG 4 7), om 34 8, od 35 (fa 1 9), od 36 (ld 1 35), od 37 (.call 38 [(tm 33), (tm 34), (tm 36)]), om 32 37, od 38
 (ex 32 0), od 39 (ex 32 1), om 10 38, om 11 39] [kp [2, 7, 8, 9, 10, 11] [7, 9]]) (.seq (.reg [od 41 (lG 4 7), om 42 8, od 43 (.call 29 [(tm 41), (tm 42)]), om 40 43, od 44 (ex 40 0), od 45 (ex 40 1), od 12 (.alloc false [(.slice
 none 0 0), (.slice none 0 0), (.slice none 0 0), (.slice none 0 0), (.slice none 0 0), (.int .i64 0), (.slice none 0 0), (.slice none 0 0)]), on (.store 8 (tm 12) (tm 44)), om 13 45] [kp [2, 7, 8, 9, 10, 11, 12, 13] [7, 9, 12]])
 (.seq (.reg [od 14 (.mv (ki 0))] [kp [2, 7, 8, 9, 10, 11, 12, 13, 14] [7, 9, 12]]) (.seq (.seq (.reg [od 15 (.mv (ki 0))] [kp [2, 7, 8, 9, 10, 11, 12, 13, 14, 15] [7, 9, 12]]) (.block 0 law35_ShiftsLoads_l1)) (.seq (.seq (.reg [om
 59 11, od 60 (.bin .neq (tm 59) (ki 0)), om 61 60, oF 62 (.mv (tm 13)) 61, oF 63 (.bin .neq (tm 62) (ki 0)) 61, od 64 (.pick (tm 61) kT (tm 63)), om 65 64, oF 66 (.mv (tm 10)) 65, oF 67 (le 0 66) 65, oF 68 (.mv (tm 14)) 65, oF 69
 (.bin .neq (tm 67) (tm 68)) 65, od 70 (.pick (tm 65) kT (tm 69)), om 71 70, oF 72 (.mv (tm 8)) 71, oF 73 (.call 39 [(tm 72)]) 71, oF 74 (.mv (tm 14)) 71, oF 75 (.bin .neq (tm 73) (tm 74)) 71, od 76 (.pick (tm 71) kT (tm 75))] [kp
 [2, 7, 8, 9, 10, 12, 14, 76] [7, 9, 12]]) (.cond (tm 76) (.seq (.reg [od 6 (.mv kF)] [kp [6] []]) .ret) .skip)) (.seq (.reg [od 16 (.mv kN)] [.nl 16 131 37 1, kp [2, 7, 8, 9, 10, 12, 14, 16] [7, 9, 12, 131]]) (.seq (.seq (.reg [od
 17 (.mv (ki 0))] [kp [2, 7, 8, 9, 10, 12, 14, 16, 17] [7, 9, 12, 131]]) (.gh (.block 2 law35_ShiftsLoads_l5) [.frz 131])) (.seq (.reg [od 133 (fa 0 12), od 134 (lG 4 133), od 135 (lG 4 7), om 136 2, od 137 (.call 35 [(tm 135), (tm
 136)]), om 138 16, od 139 (.call 36 [(tm 134), (tm 137), (tm 138)]), om 132 139, od 140 (ex 132 0), od 141 (ex 132 1), od 142 (ex 132 2), om 21 140, om 22 141, om 23 142] [kp [9, 14, 22, 23] [9]]) (.seq (.reg [om 143 23, od 144
 (.bin .eql (tm 143) (ki 0)), om 145 144, oT 146 (.mv (tm 14)) 145, oT 147 (.bin .eql (tm 146) (ki 0)) 145, oT 148 (.mv (tm 147)) 145, oF 149 (.mv (tm 22)) 148, oF 150 (lG 2 9) 148, oF 151 (.call 26 [(tm 150)]) 148, oF 152 (.fld 1 1
 false (tm 151)) 148, oF 153 (.call 37 [(tm 149), (tm 152)]) 148, oT 154 (.pick (tm 148) kT (tm 153)) 145, od 155 (.pick (tm 145) (tm 154) kF), om 156 155, oT 157 (.call 34 []) 156, od 158 (.pick (tm 156) (tm 157) kF), om 6 158] [kp
 [6] []]) .ret))))))))))))
theorem law35_ShiftsLoads_l1_run (h : ∀ K : St → Prop, K = run P Γ law35_ShiftsLoads_l1 Q → run P Γ law35_ShiftsLoads_g0 (thenX K Q) s) : run P Γ law35_ShiftsLoads_l1 Q s := run_loop h
theorem law35_ShiftsLoads_l3_run (h : ∀ K : St → Prop, K = run P Γ law35_ShiftsLoads_l3 Q → run P Γ law35_ShiftsLoads_g2 (thenX K Q) s) : run P Γ law35_ShiftsLoads_l3 Q s := run_loop h
theorem law35_ShiftsLoads_l5_run (h : ∀ K : St → Prop, K = run P Γ law35_ShiftsLoads_l5 Q → run P Γ law35_ShiftsLoads_g4 (thenX K Q) s) : run P Γ law35_ShiftsLoads_l5 Q s := run_loop h
def law35_ShiftsLoads_rv : List RV := [.tmp 6]
/- probecard/probecardlaw35.ShiftsPlay (function 6) -/
end
end Go.Lg
namespace Go.Lg
open Go Go.Proofs
theorem law35_ShiftsLoads_chk : chkF Tryz.prog 7 law35_ShiftsLoads_ic 159 3 law35_ShiftsLoads_rv = true := by kernel_rfl
end Go.Lg
namespace Go.Lg
open Go Go.Proofs
theorem playE_app {c : Cir} : ∀ (a b : List (List Int)) (s : List Int), playE c s (a ++ b) = playE c (playE c s a) b
  | [], _, _ => rfl
  | x :: a, b, s => by simp only [List.cons_append, playE]; exact playE_app a b _
theorem playE_len {c : Cir} : ∀ (l : List (List Int)) (s : List Int), s.length = (states c).length → (playE c s l).length = (states c).length
  | [], _, h => h
  | x :: l, s, h => by simp only [playE]; exact playE_len l _ nexts_len
section
variable {c : Cir} {ch : List (Sl Int)}
def cellK (ch : List (Sl Int)) (k m : Nat) : Int := (ch.getD k slD).l.getD m 0
def posK (c : Cir) (ch : List (Sl Int)) (k m : Nat) : Nat := (states c).idxOf (cellK ch k m)
theorem cell_mem (h : ScOk c ch) {k m : Nat} (hk : k < ch.length) (hm : m < (ch.getD k slD).l.length) : cellK ch k m ∈ states c := by
  refine h.perm.mem_iff.1 ?_
  unfold cellK elems
  rw [getD_eq hm]
  refine List.mem_flatten.2 ⟨(ch.getD k slD).l, List.mem_map.2 ⟨ch.getD k slD, ?_, rfl⟩, List.getElem_mem _⟩
  rw [List.getD_eq_getElem?_getD, List.getElem?_eq_getElem hk]
  exact List.getElem_mem _
theorem pos_lt (h : ScOk c ch) {k m : Nat} (hk : k < ch.length) (hm : m < (ch.getD k slD).l.length) : posK c ch k m < (states c).length := List.idxOf_lt_length_iff.2 (cell_mem h hk hm)
theorem pos_at (h : ScOk c ch) {k m : Nat} (hk : k < ch.length) (hm : m < (ch.getD k slD).l.length) : (states c).getD (posK c ch k m) 0 = cellK ch k m := by
  rw [getD_eq (pos_lt h hk hm)]; exact List.getElem_idxOf _
theorem pos_all (h : ScOk c ch) {q : Nat} (hq : q < (states c).length) : ∃ k m, k < ch.length ∧ m < (ch.getD k slD).l.length ∧ posK c ch k m = q := by
  have hm : (states c).getD q 0 ∈ elems ch := h.perm.mem_iff.2 (by rw [getD_eq hq]; exact List.getElem_mem _)
  unfold elems at hm
  obtain ⟨l, hl, hx⟩ := List.mem_flatten.1 hm
  obtain ⟨s, hs, rfl⟩ := List.mem_map.1 hl
  obtain ⟨k, hk, rfl⟩ := List.getElem_of_mem hs
  obtain ⟨m, hm, e⟩ := List.getElem_of_mem hx
  have hg : ch.getD k slD = ch[k] := by simp [List.getD_eq_getElem?_getD, hk]
  refine ⟨k, m, hk, by rw [hg]; exact hm, ?_⟩
  unfold posK cellK
  rw [hg, getD_eq hm, e, getD_eq hq]
  exact (ofL_nodup [14] c.nodes.l 0).2.idxOf_getElem _ _
theorem shift_at (h : ScOk c ch) (hp : levErr c = 0) {pin S v : List Int} (h1 : pin.length = (inputs c).length) (h2 : S.length = (states c).length) (hv : v.length = ch.length) {k m : Nat} (hk : k < ch.length) (hm : m < (ch.getD k slD).l.length) :
    (nextsL (scC c ch) (netsL (scC c ch) (pin ++ ([1] ++ v)) S)).getD (posK c ch k m) 0 = readV (if m = 0 then v.getD k 0 else S.getD (posK c ch k (m - 1)) 0) :=
  sc_shift h hp h1 h2 hv hk hm (pos_lt h hk hm) (pos_at h hk hm)
theorem load_at' (h : ScOk c ch) (hp : levErr c = 0) {pin : List Int} (h1 : pin.length = (inputs c).length) (L : List (List Int)) (hL : ∀ r ∈ L, r.length = ch.length) {S0 : List Int} (h2 : S0.length = (states c).length) {k : Nat} (hk : k < ch.length) :
    ∀ t, t ≤ L.length → ∀ m, m < t → m < (ch.getD k slD).l.length → (playE (scC c ch) S0 ((L.take t).map fun s => pin ++ ([1] ++ s))).getD (posK c ch k m) 0 = readV ((L.getD (t - 1 - m) []).getD k 0)
  | 0, _, m, hm, _ => absurd hm (by omega)
  | t + 1, ht, m, hm, hl => by
    have htl : t < L.length := by omega
    rw [← List.take_append_getElem htl, List.map_append, playE_app]
    simp only [List.map_cons, List.map_nil, playE]
    have hS : (playE (scC c ch) S0 ((L.take t).map fun s => pin ++ ([1] ++ s))).length = (states c).length := by
      have := playE_len (c := scC c ch) ((L.take t).map fun s => pin ++ ([1] ++ s)) S0 (by rw [sc_states h]; exact h2)
      rwa [sc_states h] at this
    rw [shift_at h hp h1 hS (hL _ (List.getElem_mem htl)) hk hl]
    by_cases h0 : m = 0
    · subst h0
      rw [if_pos rfl]
      congr 1
      rw [show t + 1 - 1 - 0 = t by omega, List.getD_eq_getElem?_getD (l := L), List.getElem?_eq_getElem htl]; rfl
    · rw [if_neg h0, load_at' h hp h1 L hL h2 hk t (by omega) (m - 1) (by omega) (by omega), read_read, show t - 1 - (m - 1) = t + 1 - 1 - m by omega]
theorem loads_end (h : ScOk c ch) (hp : levErr c = 0) {pin pst S0 : List Int} (h1 : pin.length = (inputs c).length) (h2 : S0.length = (states c).length) (h3 : pst.length = (states c).length) :
    playE (scC c ch) S0 ((loadsL ch (states c) pst).map fun s => pin ++ ([1] ++ s)) = if depL ch = 0 then S0 else pst.map readV := by
  have hLl := loadsL_len (ch := ch) (st := states c) (pst := pst)
  by_cases hd : depL ch = 0
  · rw [if_pos hd]
    have : loadsL ch (states c) pst = [] := List.eq_nil_of_length_eq_zero (by omega)
    rw [this]; rfl
  · rw [if_neg hd]
    have hE : (playE (scC c ch) S0 ((loadsL ch (states c) pst).map fun s => pin ++ ([1] ++ s))).length = (states c).length := by
      have := playE_len (c := scC c ch) ((loadsL ch (states c) pst).map fun s => pin ++ ([1] ++ s)) S0 (by rw [sc_states h]; exact h2)
      rwa [sc_states h] at this
    refine ext_getD0 (by rw [hE]; simp [h3]) fun q hq => ?_
    rw [hE] at hq
    obtain ⟨k, m, hk, hm, rfl⟩ := pos_all h hq
    have hkm : ch.getD k slD ∈ ch := by rw [List.getD_eq_getElem?_getD, List.getElem?_eq_getElem hk]; exact List.getElem_mem _
    have hle : (ch.getD k slD).l.length ≤ depL ch := depL_ge _ hkm
    have := load_at' h hp h1 (loadsL ch (states c) pst) loadsL_row h2 hk (loadsL ch (states c) pst).length (Nat.le_refl _) m (by omega) hm
    rw [List.take_length] at this
    rw [this, hLl]
    have hr : (pst.map readV).getD (posK c ch k m) 0 = readV (pst.getD (posK c ch k m) 0) := by
      rw [List.getD_eq_getElem?_getD, List.getElem?_map, List.getElem?_eq_getElem (by omega), List.getD_eq_getElem?_getD, List.getElem?_eq_getElem (by omega)]; rfl
    rw [hr]
    have hg : (loadsL ch (states c) pst).getD (depL ch - 1 - m) [] = ch.map (loadV (ofZ (states c) pst) m) := by
      rw [List.getD_eq_getElem?_getD, List.getElem?_eq_getElem (by omega)]
      simp only [loadsL, List.getElem_map, List.getElem_range, Option.getD_some]
      rw [show (depL ch : Int) - 1 - ((depL ch - 1 - m : Nat) : Int) = (m : Int) by omega]
    rw [hg]
    have hgk : (ch.map (loadV (ofZ (states c) pst) m)).getD k 0 = loadV (ofZ (states c) pst) m (ch.getD k slD) := by
      rw [List.getD_eq_getElem?_getD, List.getElem?_map, List.getElem?_eq_getElem hk, List.getD_eq_getElem?_getD, List.getElem?_eq_getElem hk]; rfl
    rw [hgk]
    unfold loadV
    rw [if_pos (by omega), Int.toNat_natCast]
    have hz := ofZ_at (pst := pst) h3 (ofL_nodup [14] c.nodes.l 0).2 (pos_lt h hk hm)
    rw [pos_at h hk hm] at hz
    rw [show (ch.getD k slD).l.getD m 0 = cellK ch k m from rfl, hz, read_read]
end
end Go.Lg
namespace Go.Lg
open Go Go.Proofs
variable {Γ : Tables}
def sT10 (L : List (List Int)) : T := .sl (enc1 tRow L) (some L.length) none
end Go.Lg
namespace Go.Lg
open Go Go.Proofs
variable {Γ : Tables}
theorem state_loop {Q : AX → St → Prop} (l : Sl Int) (n : Nat) (hn : n ≤ 1000000000) (R : List Int)
    (h0 : Q (.exit 0) ⟨[(1, .t (tV l)), (5, .ls 31 0 n none), (6, .t (tI n)), (7, .t (tI n)), (14, .t (tB false))], [(31, .sl 68 1 (vals R))]⟩) : ∀ (k i : Nat) (out : List Int), k + i = n → out.length = i → out ++ (List.range' i k).map (fun i => if l.l = [] then 2 else (l.l.getD (i % l.l.length) 0).tmod 3) = R →
    run Tryz.prog Γ law35_state_l1 Q ⟨[(1, .t (tV l)), (5, .ls 31 0 i none), (6, .t (tI n)), (7, .t (tI i))], [(31, .sl 68 1 (vals out))]⟩
  | 0, i, out, h, hi, hR => by
    refine law35_state_l1_run fun K hK => ?_
    have h2 : i = n := by omega
    subst h2
    simp only [List.range'_zero, List.map_nil, List.append_nil] at hR
    subst hR
    simp
    simpa using h0
  | k + 1, i, out, h, hi, hR => by
    refine law35_state_l1_run fun K hK => ?_
    have h2 : i < n := by omega
    rw [List.range'_succ, List.map_cons] at hR
    have vt : (vals out).take i = vals out := by rw [← hi]; exact vals_take
    have w1 : IntKind.i64.wrap ((i : Int) + 1) = (i : Int) + 1 := by rw [wrap_i64] <;> omega
    by_cases h1 : l.l = []
    · have ih := state_loop l n hn R h0 k (i + 1) (out ++ [2]) (by omega) (by simp [hi]) (by rw [← hR]; simp [h1])
      have vs := vals_snoc (l := out) (v := 2)
      simp [tV, h1] at ih
      simp [h2, tV, enc1_len, h1, w1, vt, vs, hi]
      refine ⟨by omega, ?_⟩
      rw [hK]
      simpa using ih
    · have hpos : 0 < l.l.length := List.length_pos_iff.2 h1
      have hlt : i % l.l.length < l.l.length := Nat.mod_lt _ hpos
      have hmod : (i : Int).tmod (l.l.length : Int) = ((i % l.l.length : Nat) : Int) := by rw [Int.natCast_emod]; exact Int.tmod_eq_emod_of_nonneg (by omega)
      rw [if_neg h1] at hR
      have e := gE (f := tK) 0 hlt
      have e' := gE' (f := tK) 0 hlt
      generalize hj : i % l.l.length = j at *
      generalize l.l.getD j 0 = v at *
      have ih := state_loop l n hn R h0 k (i + 1) (out ++ [v.tmod 3]) (by omega) (by simp [hi]) (by rw [← hR]; simp)
      have vs := vals_snoc (l := out) (v := v.tmod 3)
      have hne : ¬ (l.l.length : Int) = 0 := by omega
      have hp' : (0 : Int) < l.l.length := by omega
      simp [tV] at ih
      simp [h2, tV, enc1_len, enc1_wid, h1, hne, hpos, hp', hmod, hlt, e, e', w1, vt, vs, hi, -Int.natCast_emod]
      refine ⟨by omega, ?_⟩
      rw [hK]
      simpa using ih
theorem state_spec (c : Cir) (hc : COk c) (hs : (states c).length ≤ 1000000) (l : Sl Int) : PureCalls Tryz.prog Γ 35 [.agg (tC c), tV l] (tV (takS l.l (states c).length 3)) := by
  have e := states_spec (Γ := Γ) c hc
  by_cases h : (states c).length = 0
  · refine run_pureQ law35_state0_chk rfl ?_
    have h' : states c = [] := List.eq_nil_of_length_eq_zero h
    rw [h'] at e
    simp [tC, tNodes, tNames, tMems, tSl] at e
    simp [law35_state0_ic, tC, tNodes, tNames, tMems, tSl, tV]
    refine callK_pure e rfl ?_
    simp [enc1_nil]
    refine law35_state0_l1_run fun K hK => ?_
    simp [law35_state0_rv, takS, h', enc1_nil]
  · refine run_pureQ law35_state_chk rfl ?_
    have g := fun Q h0 => state_loop (Γ := Γ) (Q := Q) l (states c).length (by omega) (takenL l.l (states c).length 3) h0 (states c).length 0 [] (by omega) rfl (by simp [takenL])
    have ht : (vals (takenL l.l (states c).length 3)).take (states c).length = vals (takenL l.l (states c).length 3) := List.take_of_length_le (by rw [enc1_len, takenL_len]; exact Nat.le_refl _)
    generalize states c = st at *
    simp [tC, tNodes, tNames, tMems, tSl] at e
    simp [tV] at g
    simp [law35_state_ic, tC, tNodes, tNames, tMems, tSl, tV]
    refine callK_pure e rfl ?_
    simp [enc1_len]
    refine g _ ?_
    simp [law35_state_rv, reify, ht, takS, h]
theorem known_loop {Q : AX → St → Prop} (p : Pat) (hn : p.st.l.length ≤ 1000000)
    (h0 : Q (.exit 0) ⟨[(1, .t (.ip (tP p) 0)), (2, .lp 2 0 0), (3, .lp 3 0 0), (4, .t (tI p.st.l.length)), (13, .t (tB false))], [(2, .bx [.t (.sl [] (some 0) (some true)), .t (.sl [] (some 0) (some true))]), (3, .bx [.t (tV p.inn), .ls 27 0 p.st.l.length none]), (27, .sl 68 1 (vals (p.st.l.map readV)))]⟩) :
    ∀ (k i : Nat), k + i = p.st.l.length →
    run Tryz.prog Γ law35_Known_l1 Q ⟨[(1, .t (.ip (tP p) 0)), (2, .lp 2 0 0), (3, .lp 3 0 0), (4, .t (tI i))], [(2, .bx [.t (.sl [] (some 0) (some true)), .t (.sl [] (some 0) (some true))]), (3, .bx [.t (tV p.inn), .ls 27 0 i none]), (27, .sl 68 1 (vals ((p.st.l.take i).map readV)))]⟩
  | 0, i, h => by
    refine law35_Known_l1_run fun K hK => ?_
    have h2 : i = p.st.l.length := by omega
    subst h2
    rw [List.take_length]
    simp [tP, tV, enc1_len]
    simpa [tP, tV] using h0
  | k + 1, i, h => by
    refine law35_Known_l1_run fun K hK => ?_
    have h2 : i < p.st.l.length := by omega
    have ih := known_loop p hn h0 k (i + 1) (by omega)
    rw [← List.take_append_getElem h2, List.map_append, List.map_cons, List.map_nil] at ih
    have e1 := gE (f := tK) 0 h2
    have e1' := gE' (f := tK) 0 h2
    rw [getD_eq h2] at e1 e1'
    generalize p.st.l[i] = v at *
    have hl : ((p.st.l.take i).map readV).length = i := by simp; omega
    generalize (p.st.l.take i).map readV = out at *
    have vt : (vals out).take i = vals out := by rw [← hl]; exact vals_take
    have w1 : IntKind.i64.wrap ((i : Int) + 1) = (i : Int) + 1 := by rw [wrap_i64] <;> omega
    by_cases hv : 1 < v
    · have hr : readV v = 2 := by unfold readV; rw [if_neg (by omega)]
      rw [hr] at ih
      have vs := vals_snoc (l := out) (v := 2)
      simp [tP, tV] at ih
      simp [tP, tV, enc1_len, enc1_wid, h2, e1, e1', hv, vt, vs, hl, w1]
      refine ⟨by omega, ?_⟩
      rw [hK]
      simpa using ih
    · have hr : readV v = v := by unfold readV; rw [if_pos (by omega)]
      rw [hr] at ih
      have vs := vals_snoc (l := out) (v := v)
      simp [tP, tV] at ih
      simp [tP, tV, enc1_len, enc1_wid, h2, e1, e1', hv, vt, vs, hl, w1]
      refine ⟨by omega, ?_⟩
      rw [hK]
      simpa using ih
def knownP (p : Pat) : Pat := ⟨p.inn, ⟨p.st.l.map readV, none, none⟩⟩
theorem Known_spec (p : Pat) (hn : p.st.l.length ≤ 1000000) : PureCalls Tryz.prog Γ 26 [.agg (tP p)] (.agg (tP (knownP p))) := by
  refine run_pureQ law35_Known_chk rfl ?_
  have g := fun Q h0 => known_loop (Γ := Γ) (Q := Q) p hn h0 p.st.l.length 0 (by omega)
  have ht : (vals (p.st.l.map readV)).take p.st.l.length = vals (p.st.l.map readV) := List.take_of_length_le (by rw [enc1_len]; simp)
  simp only [knownP]
  generalize p.st.l.map readV = R at *
  simp [tP, tV, enc1_nil] at g
  simp [law35_Known_ic, tP, tV]
  refine g _ ?_
  simp [St.freeze, Reg.closed, frzRef, frz1, frz0, frzReg, del, reify, ht, law35_Known_rv]
theorem same35_loop {Q : AX → St → Prop} (a b : Sl Int) (hab : a.l = b.l) (ha : a.l.length ≤ 1000000)
    (h0 : Q (.exit 0) ⟨[(0, .t (tV a)), (1, .t (tV b)), (5, .t (tI a.l.length)), (14, .t (tB false))], []⟩) :
    ∀ (k i : Nat), k + i = a.l.length → run Tryz.prog Γ law35_same_l1 Q ⟨[(0, .t (tV a)), (1, .t (tV b)), (5, .t (tI i))], []⟩
  | 0, i, h => by
    refine law35_same_l1_run fun K hK => ?_
    have h2 : i = a.l.length := by omega
    subst h2
    simp [tV, enc1_len]
    simpa [tV] using h0
  | k + 1, i, h => by
    refine law35_same_l1_run fun K hK => ?_
    have h2 : i < a.l.length := by omega
    have ih := same35_loop a b hab ha h0 k (i + 1) (by omega)
    have e1 := gE (f := tK) 0 h2
    have e1' := gE' (f := tK) 0 h2
    generalize a.l.getD i 0 = v at *
    have w1 : IntKind.i64.wrap ((i : Int) + 1) = (i : Int) + 1 := by rw [wrap_i64] <;> omega
    simp [tV] at ih
    simp [tV, ← hab, enc1_len, enc1_wid, h2, e1, e1', w1]
    rw [hK]
    simpa [← hab] using ih
theorem same35_spec (a b : Sl Int) (hab : a.l = b.l) (ha : a.l.length ≤ 1000000) : FreshCalls Tryz.prog Γ 37 [tV a, tV b] (tB true) := by
  refine run_freshQ law35_same_chk rfl ?_
  have g := fun Q h0 => same35_loop (Γ := Γ) (Q := Q) a b hab ha h0 a.l.length 0 (by omega)
  simp [tV, ← hab] at g
  simp [law35_same_ic, tV, ← hab, enc1_len]
  refine g _ ?_
  simp [law35_same_rv]
end Go.Lg
namespace Go.Lg
open Go Go.Proofs
variable {Γ : Tables}
theorem runH_sc (hΓ : GOk Γ) {c : Cir} {ch : List (Sl Int)} (h : ScOk c ch) (hc : NOk c) (hn : (scC c ch).nodes.l.length ≤ 19) : RunH Γ (scC c ch) :=
  ⟨by have := states_len' (scC c ch); omega, fun p hp => sc_Run hΓ h hc hn rfl hp⟩
end Go.Lg
namespace Go.Lg
open Go Go.Proofs
variable {Γ : Tables}
def slH (c0 c1 c2 c3 p0 p1 s0 s1 s2 s3 s4 s5 s6 s7 : T) : List (Nat × Reg) := [(7, .bx [.t c0, .t c1, .t c2, .t c3]), (9, .bx [.t p0, .t p1]), (12, .bx [.t s0, .t s1, .t s2, .t s3, .t s4, .t s5, .t s6, .t s7])]
def slE (inT : T) (ch : List (Sl Int)) (loT : T) : List (Nat × AV) := [(2, .t inT), (7, .lp 7 0 0), (8, .t (.sl (enc1 tSl ch) none none)), (9, .lp 9 0 0), (10, .t loT)]
theorem sl_l1 {Q : AX → St → Prop} (inT loT : T) (ch : List (Sl Int)) (hl : ch.length ≤ 1000000) (hs : ∀ s ∈ ch, s.l.length ≤ 1000000) (c0 c1 c2 c3 p0 p1 s0 s1 s2 s3 s4 s5 s6 s7 : T) (R : Nat)
    (h0 : Q (.exit 0) ⟨slE inT ch loT ++ [(11, .t (tI 0)), (12, .lp 12 0 0), (13, .t (tI 0)), (14, .t (tI R)), (15, .t (tI ch.length)), (49, .t (tB false))], slH c0 c1 c2 c3 p0 p1 s0 s1 s2 s3 s4 s5 s6 s7⟩) :
    ∀ (k i n : Nat), k + i = ch.length → (ch.drop i).foldl (fun n s => max n s.l.length) n = R →
    run Tryz.prog Γ law35_ShiftsLoads_l1 Q ⟨slE inT ch loT ++ [(11, .t (tI 0)), (12, .lp 12 0 0), (13, .t (tI 0)), (14, .t (tI n)), (15, .t (tI i))], slH c0 c1 c2 c3 p0 p1 s0 s1 s2 s3 s4 s5 s6 s7⟩
  | 0, i, n, h, hR => by
    refine law35_ShiftsLoads_l1_run fun K hK => ?_
    rw [List.drop_of_length_le (by omega)] at hR
    have h2 : i = ch.length := by omega
    subst h2
    have hR : n = R := hR
    subst hR
    simp [slE, slH, enc1_len]
    simpa [slE, slH] using h0
  | k + 1, i, n, h, hR => by
    refine law35_ShiftsLoads_l1_run fun K hK => ?_
    have h2 : i < ch.length := by omega
    rw [List.drop_eq_getElem_cons h2, List.foldl_cons] at hR
    have e := gE (f := tSl) ⟨[], none, none⟩ h2
    have e' := gE' (f := tSl) ⟨[], none, none⟩ h2
    rw [show ch.getD i ⟨[], none, none⟩ = ch[i] by simp [List.getD_eq_getElem?_getD, h2]] at e e'
    have ih := sl_l1 inT loT ch hl hs c0 c1 c2 c3 p0 p1 s0 s1 s2 s3 s4 s5 s6 s7 R h0 k (i + 1) _ (by omega) hR
    generalize ch[i] = s at *
    simp only [tSl] at e e'
    have w1 : IntKind.i64.wrap ((i : Int) + 1) = (i : Int) + 1 := by rw [wrap_i64] <;> omega
    have hm3 : (if n < s.l.length then (s.l.length : Int) else n) = ((max n s.l.length : Nat) : Int) := by split <;> omega
    have hm : (if (s.l.length : Int) > n then (s.l.length : Int) else n) = ((max n s.l.length : Nat) : Int) := by split <;> omega
    have hm2 : (if (n : Int) < s.l.length then (s.l.length : Int) else n) = ((max n s.l.length : Nat) : Int) := by split <;> omega
    simp [slE, slH] at ih
    simp [slE, slH, h2, enc1_len, enc1_wid, e, e', w1, hm, hm2, hm3]
    rw [hK]
    simpa using ih
def slG (inT : T) (ch : List (Sl Int)) (Lo : List (List Int)) (d t : Nat) : List (Nat × AV) := slE inT ch (sT10 Lo) ++ [(12, .lp 12 0 0), (14, .t (tI d)), (16, .ls 131 0 t none), (17, .t (tI t))]
def slJ (c0 c1 c2 c3 p0 p1 s0 s1 s2 s3 s4 s5 s6 s7 : T) (rows : List (List Int)) : List (Nat × Reg) := slH c0 c1 c2 c3 p0 p1 s0 s1 s2 s3 s4 s5 s6 s7 ++ [(131, .sl 37 1 (enc1 tVs rows))]
theorem sl_l3 {Q : AX → St → Prop} (inT : T) (ch : List (Sl Int)) (hl : ch.length ≤ 1000000) (hs : ∀ s ∈ ch, s.l.length ≤ 1000000) (Lo : List (List Int)) (d t : Nat) (hd : d ≤ 1000000) (htl : t < Lo.length) (hdl : Lo.length = d) (hr : (Lo.getD t []).length = ch.length)
    (hz : ∀ k, k < ch.length → (ch.getD k slD).l.length < d - t → (Lo.getD t []).getD k 0 = 0) (c0 c1 c2 c3 p0 p1 s0 s1 s2 s3 s4 s5 s6 s7 : T) (rows : List (List Int))
    (h0 : Q (.exit 4) ⟨slG inT ch Lo d t ++ [(18, .t (tI ch.length)), (93, .t (tB false))], slJ c0 c1 c2 c3 p0 p1 s0 s1 s2 s3 s4 s5 s6 s7 rows⟩) :
    ∀ (n k : Nat), n + k = ch.length →
    run Tryz.prog Γ law35_ShiftsLoads_l3 Q ⟨slG inT ch Lo d t ++ [(18, .t (tI k))], slJ c0 c1 c2 c3 p0 p1 s0 s1 s2 s3 s4 s5 s6 s7 rows⟩
  | 0, k, h => by
    refine law35_ShiftsLoads_l3_run fun K hK => ?_
    have h2 : k = ch.length := by omega
    subst h2
    simp [slG, slE, slH, slJ, sT10, enc1_len]
    simpa [slG, slE, slH, slJ, sT10] using h0
  | n + 1, k, h => by
    refine law35_ShiftsLoads_l3_run fun K hK => ?_
    have h2 : k < ch.length := by omega
    have ih := sl_l3 inT ch hl hs Lo d t hd htl hdl hr hz c0 c1 c2 c3 p0 p1 s0 s1 s2 s3 s4 s5 s6 s7 rows h0 n (k + 1) (by omega)
    have e := gE (f := tSl) slD h2
    have e' := gE' (f := tSl) slD h2
    have hsl : (ch.getD k slD).l.length ≤ 1000000 := hs _ (by rw [List.getD_eq_getElem?_getD, List.getElem?_eq_getElem h2]; exact List.getElem_mem _)
    have hzk := hz k h2
    have h3 : k < (Lo.getD t []).length := by omega
    have e2 := gE (f := tRow) [] htl
    have e2' := gE' (f := tRow) [] htl
    have e3 := gE (f := tK) 0 h3
    have e3' := gE' (f := tK) 0 h3
    generalize ch.getD k slD = s at *
    generalize Lo.getD t [] = row at *
    have w1 : IntKind.i64.wrap ((k : Int) + 1) = (k : Int) + 1 := by rw [wrap_i64] <;> omega
    have w2 : IntKind.i64.wrap ((d : Int) - t) = ((d - t : Nat) : Int) := by rw [wrap_i64] <;> omega
    simp only [tSl] at e e'
    simp only [tRow] at e2 e2'
    simp [slG, slE, slH, slJ, sT10] at ih
    by_cases hlt : s.l.length < d - t
    · rw [hzk hlt] at e3 e3'
      have hlt' : ((s.l.length : Int)) < ((d - t : Nat) : Int) := by omega
      simp [slG, slE, slH, slJ, sT10, h2, h3, htl, enc1_len, enc1_wid, e, e', e2, e2', e3, e3', w1, w2, hlt, hlt']
      rw [hK]
      simpa using ih
    · have hlt' : ¬ ((s.l.length : Int)) < ((d - t : Nat) : Int) := by omega
      simp [slG, slE, slH, slJ, sT10, h2, htl, enc1_len, enc1_wid, e, e', w1, w2, hlt, hlt']
      rw [hK]
      simpa using ih
theorem sl_l5 {Q : AX → St → Prop} (inT : T) (ch : List (Sl Int)) (hl : ch.length ≤ 1000000) (hs : ∀ s ∈ ch, s.l.length ≤ 1000000) (Lo : List (List Int)) (d : Nat) (hd : d ≤ 1000000) (hdl : Lo.length = d) (hr : ∀ r ∈ Lo, r.length = ch.length)
    (hz : ∀ t k, t < d → k < ch.length → (ch.getD k slD).l.length < d - t → (Lo.getD t []).getD k 0 = 0) (c0 c1 c2 c3 p0 p1 s0 s1 s2 s3 s4 s5 s6 s7 : T) (f : List Int → List Int) (ql : List (List T)) (kc : Option Nat) (kn : Option Bool)
    (hp : ∀ t, t < d → PureCalls Tryz.prog Γ 30 [.agg [s0, s1, s2, s3, s4, s5, s6, s7], .agg [p0, p1], tK 1, tRow (Lo.getD t [])] (.tup [.agg [tVs (f (Lo.getD t [])), .sl ql kc kn], tI 0]))
    (h0 : Q (.exit 2) ⟨slG inT ch Lo d d ++ [(79, .t (tB false))], slJ c0 c1 c2 c3 p0 p1 s0 s1 s2 s3 s4 s5 s6 s7 (Lo.map f)⟩) :
    ∀ (n t : Nat), n + t = d →
    run Tryz.prog Γ law35_ShiftsLoads_l5 Q ⟨slG inT ch Lo d t, slJ c0 c1 c2 c3 p0 p1 s0 s1 s2 s3 s4 s5 s6 s7 ((Lo.take t).map f)⟩
  | 0, t, h => by
    refine law35_ShiftsLoads_l5_run fun K hK => ?_
    have h2 : t = d := by omega
    subst h2
    rw [List.take_of_length_le (by omega)]
    simp [slG, slE, slH, slJ, sT10]
    simpa [slG, slE, slH, slJ, sT10] using h0
  | n + 1, t, h => by
    refine law35_ShiftsLoads_l5_run fun K hK => ?_
    have h2 : t < d := by omega
    have htl : t < Lo.length := by omega
    have ih := sl_l5 inT ch hl hs Lo d hd hdl hr hz c0 c1 c2 c3 p0 p1 s0 s1 s2 s3 s4 s5 s6 s7 f ql kc kn hp h0 n (t + 1) (by omega)
    rw [← List.take_append_getElem htl, List.map_append, List.map_cons, List.map_nil] at ih
    have hx : Lo.getD t [] = Lo[t] := by simp [List.getD_eq_getElem?_getD, htl]
    have hrt := hr _ (List.getElem_mem htl)
    have g3 := fun rows Q h0 => sl_l3 (Γ := Γ) (Q := Q) inT ch hl hs Lo d t hd htl hdl (by rw [hx]; exact hrt) (fun k hk h => hz t k h2 hk h) c0 c1 c2 c3 p0 p1 s0 s1 s2 s3 s4 s5 s6 s7 rows h0 ch.length 0 (by omega)
    have hpt := hp t h2
    have e2 := gE (f := tRow) [] htl
    have e2' := gE' (f := tRow) [] htl
    rw [hx] at hpt e2 e2'
    have hml : ((Lo.take t).map f).length = t := by simp; omega
    have hsn := enc1_snoc (f := tVs) (l := (Lo.take t).map f) (x := f Lo[t])
    generalize (Lo.take t).map f = rows at *
    generalize Lo[t] = r at *
    generalize f r = fr at *
    have htk : (enc1 tVs rows).take t = enc1 tVs rows := List.take_of_length_le (by rw [enc1_len]; omega)
    have w1 : IntKind.i64.wrap ((t : Int) + 1) = (t : Int) + 1 := by rw [wrap_i64] <;> omega
    have h2' : (t : Int) < d := by omega
    simp only [tRow] at e2 e2' hpt
    simp only [tVs] at hpt hsn
    simp [slG, slE, slH, slJ, sT10] at ih g3
    simp [slG, slE, slH, slJ, sT10, h2, h2', htl, enc1_len, enc1_wid, e2, e2', hrt]
    refine g3 _ _ ?_
    simp [enc1_len, enc1_wid, htl, e2, e2']
    refine callK_pure hpt rfl ?_
    simp [htk, hsn, hml, enc1_len, w1]
    refine ⟨by omega, ?_⟩
    rw [hK]
    simpa using ih
end Go.Lg
namespace Go.Lg
open Go Go.Proofs
variable {Γ : Tables}
theorem loads_4 {c : Cir} {ch : List (Sl Int)} {p : Pat} (hP : POk c p) : ∀ r ∈ loadsL ch (states c) p.st.l, ∀ v ∈ r, V4 v := by
  have z0 : V4 0 := by simp [V4]
  intro r hr v hv
  obtain ⟨t, _, rfl⟩ := List.mem_map.1 hr
  obtain ⟨s, _, rfl⟩ := List.mem_map.1 hv
  unfold loadV
  split
  · have key : ∀ (Z : List (Int × Int)) (x : Int), (∀ q ∈ Z, V4 q.2) → V4 (mpOf 0 x Z) := by
      intro Z x
      induction Z with
      | nil => intro _; exact z0
      | cons a Z ih =>
        intro h
        simp only [mpOf]
        split
        · exact h a List.mem_cons_self
        · exact ih fun q hq => h q (List.mem_cons_of_mem _ hq)
    refine key _ _ fun q hq => ?_
    have := (List.of_mem_zip (show (q.1, q.2) ∈ (states c).zip (p.st.l.map readV) from hq)).2
    obtain ⟨y, hy, e⟩ := List.mem_map.1 this
    have h4 := hP.vs y hy
    rw [← e]
    unfold readV V4 at *
    split <;> omega
  · exact z0
theorem loadsL_get {ch : List (Sl Int)} {st pst : List Int} {t k : Nat} (ht : t < depL ch) (hk : k < ch.length) (h : (ch.getD k slD).l.length < depL ch - t) : ((loadsL ch st pst).getD t []).getD k 0 = 0 := by
  have hg : (loadsL ch st pst).getD t [] = ch.map (loadV (ofZ st pst) ((depL ch : Int) - 1 - t)) := by
    rw [List.getD_eq_getElem?_getD, List.getElem?_eq_getElem (by rw [loadsL_len]; exact ht)]
    simp [loadsL]
  rw [hg]
  have hgk : (ch.map (loadV (ofZ st pst) ((depL ch : Int) - 1 - t))).getD k 0 = loadV (ofZ st pst) ((depL ch : Int) - 1 - t) (ch.getD k slD) := by
    rw [List.getD_eq_getElem?_getD, List.getElem?_map, List.getElem?_eq_getElem hk, List.getD_eq_getElem?_getD, List.getElem?_eq_getElem hk]; rfl
  rw [hgk]
  unfold loadV
  rw [if_neg (by omega)]
set_option maxHeartbeats 4000000 in
theorem lawLoads_spec (hΓ : GOk Γ) (y : CaseD) (hy : CaseOk y) (q : PD) (hq : PDOk q) (fr : Sl Int) (hfr : ∀ b ∈ fr.l, Byt b) : PureCalls Tryz.prog Γ 7 [.agg (tCase y), .agg (tPD q), tV fr] (tB true) := by
  refine run_pureQ law35_ShiftsLoads_chk rfl ?_
  have hx := noMemX_ok hy.x
  have hpl : plainErr (caseC y) = 0 := ofC_plain hx rfl
  have hc : NOk (caseC y) := NOk_of hx rfl
  have e1 := CaseOf_spec (Γ := Γ) y hy
  have hsc := case_scok hy
  have hsm := case_small hy
  generalize caseC y = c at *
  generalize caseCh y = ch at *
  have hn2 := hsc.n2
  have hP := pat2_ok hq c
  have hps : SlOk (patOf2 q c).st := takS_ok (by have := states_len' c; omega)
  have ep := P_Of2_spec (Γ := Γ) q hq c hsc.ok
  generalize patOf2 q c = p at *
  have hle := elems_le ch fun s hs => (hsc.ne s hs).1
  have hpe := hsc.perm.length_eq
  have hsl := states_len' c
  have hil := inputs_len c
  have hs6 : ∀ s ∈ ch, s.l.length ≤ 1000000 := fun s hs => by have := hle.2 s hs; omega
  have hins := scOk_ins hsc hpl none none
  obtain ⟨s, k, n, en, hI, h3⟩ := insH_ok (Γ := Γ) hΓ hins (by omega) hs6
  have e2 := Loads_spec hI p.st (by rw [hP.s]; omega)
  have a1 : ∀ {l : List Int}, (∀ v ∈ l, V4 v) → l.any aboveV = false := fun h => List.any_eq_false.2 fun v hv => by have := (h v hv).2; simp [aboveV]; omega
  have q1 : valsErr p.st.l (states c).length = 0 := by unfold valsErr; rw [if_neg (by simp [hP.s]), a1 hP.vs]; rfl
  simp only [q1] at e2
  have e3 := Insert_spec (Γ := Γ) hΓ c ⟨ch, none, none⟩ hins
  simp only [tScan] at e3
  have e4 := Depth_spec (Γ := Γ) ⟨ch, none, none⟩ (by show ch.length ≤ _; omega) hs6
  have hd : depL ch ≤ 16 := depL_le fun s hs => by have := hle.2 s hs; omega
  have z1 : V4 1 := by simp [V4]
  have hrow := loadsL_row (ch := ch) (st := states c) (pst := p.st.l)
  have hLl := loadsL_len (ch := ch) (st := states c) (pst := p.st.l)
  have hL4 := loads_4 (ch := ch) hP
  have hz := fun t k ht hk h => loadsL_get (ch := ch) (st := states c) (pst := p.st.l) (t := t) (k := k) ht hk h
  have hend := fun S0 h2 => loads_end hsc hc.lev (pin := p.inn.l) (pst := p.st.l) (S0 := S0) hP.i h2 hP.s
  have hcok := sc_cok hsc
  have hpat : ∀ t, t < depL ch → PureCalls Tryz.prog Γ 30 [.agg (tC (scC c ch) ++ [.sl (enc1 tSl (scS c ch).cl) (some (scS c ch).cl.length) none, tI c.nodes.l.length, .sl (ints (scS c ch).ins) (some (scS c ch).ins.length) none, .sl (ints (scJ c ch).muxes) (some (scJ c ch).muxes.length) none]), .agg (tP p), tK 1, tRow ((loadsL ch (states c) p.st.l).getD t [])] (.tup [.agg [tVs (p.inn.l ++ ([1] ++ (loadsL ch (states c) p.st.l).getD t [])), tV (cpS p.st)], tI 0]) := fun t ht => by
    have hm : (loadsL ch (states c) p.st.l).getD t [] ∈ loadsL ch (states c) p.st.l := by
      rw [List.getD_eq_getElem?_getD, List.getElem?_eq_getElem (by rw [hLl]; exact ht)]; exact List.getElem_mem _
    have := Pattern_spec (Γ := Γ) (scC c ch) hcok (enc1 tSl (scS c ch).cl) (ints (scS c ch).ins) (ints (scJ c ch).muxes) (some (scS c ch).cl.length) (some (scS c ch).ins.length) (some (scJ c ch).muxes.length) none none none c.nodes.l.length p 1 ⟨(loadsL ch (states c) p.st.l).getD t [], none, none⟩ ⟨by rw [hP.i]; omega, by show ((loadsL ch (states c) p.st.l).getD t []).length ≤ _; rw [hrow _ hm]; omega⟩ hps
    rw [pat_good hsc hP z1 (hrow _ hm) (hL4 _ hm)] at this
    exact this
  have es := state_spec (Γ := Γ) c hsc.ok (by omega) fr
  have hf4 : ∀ v ∈ (takS fr.l (states c).length 3).l, V4 v := by rw [takS_l]; exact taken_4 (fun v hv => (hfr v hv).1) (by omega)
  have hfl : (takS fr.l (states c).length 3).l.length = (states c).length := by rw [takS_l, takenL_len]
  have hfo : SlOk (takS fr.l (states c).length 3) := takS_ok (by omega)
  generalize takS fr.l (states c).length 3 = S0 at *
  have ek := Known_spec (Γ := Γ) p (by rw [hP.s]; omega)
  have hrows4 : ∀ x ∈ (loadsL ch (states c) p.st.l).map (fun r => p.inn.l ++ ([1] ++ r)), x.length = (inputs (scC c ch)).length ∧ ∀ v ∈ x, V4 v := by
    intro x hx
    obtain ⟨r, hr, rfl⟩ := List.mem_map.1 hx
    exact ⟨sc_inLen hsc hP.i (hrow r hr), fun v hv => by
      rcases List.mem_append.1 hv with hv | hv
      · exact hP.vi v hv
      · rcases List.mem_append.1 hv with hv | hv
        · simp at hv; subst hv; exact z1
        · exact hL4 r hr v hv⟩
  have hRH := runH_sc hΓ hsc hc hsm
  have hil2 : (inputs (scC c ch)).length ≤ 60000 := by have := inputs_len (scC c ch); omega
  have hss := sc_states hsc
  have ey : ∃ (A : T) (B : Sl Int) (oA : A.one = true), (depL ch ≠ 0 → B.l = p.st.l.map readV) ∧ PureCalls Tryz.prog Γ 36 [.agg (tC (scC c ch)), tV S0, .sl (enc1 tVs ((loadsL ch (states c) p.st.l).map fun r => p.inn.l ++ ([1] ++ r))) none none] (.tup [A, tV B, tI 0]) := by
    have hE := hend S0.l hfl
    by_cases h0 : depL ch = 0
    · have hnil : loadsL ch (states c) p.st.l = [] := List.eq_nil_of_length_eq_zero (by omega)
      rw [hnil]
      have := Play_spec0 (Γ := Γ) (scC c ch) hRH hcok hil2 S0 (by rw [hss]; exact hfl) hf4 hfo.1 (by rw [hss]; omega) none none
      exact ⟨_, ⟨S0.l, some S0.l.length, (cloneS S0).nl⟩, rfl, fun h => absurd h0 h, this⟩
    · rw [if_neg h0] at hE
      have hmm : (((loadsL ch (states c) p.st.l).map fun r => p.inn.l ++ ([1] ++ r)).map fun l => (⟨l, some l.length, none⟩ : Sl Int)).map (·.l) = (loadsL ch (states c) p.st.l).map fun r => p.inn.l ++ ([1] ++ r) := by
        rw [List.map_map]; exact List.map_id _
      have := Play_spec (Γ := Γ) (scC c ch) hRH (sc_valid hsc) S0 (by rw [hss]; exact hfl) hf4 hfo.1 (((loadsL ch (states c) p.st.l).map fun r => p.inn.l ++ ([1] ++ r)).map fun l => ⟨l, some l.length, none⟩) none none (by
        intro e
        have := congrArg List.length e
        rw [List.length_map, List.length_map, hLl] at this
        exact h0 (by simpa using this)) (by rw [List.length_map, List.length_map, hLl]; omega) (fun x hx => by
        obtain ⟨l, hl, rfl⟩ := List.mem_map.1 hx
        exact hrows4 l hl)
      rw [hmm, hE] at this
      have henc : ∀ L : List (List Int), enc1 tV (L.map fun l => (⟨l, some l.length, none⟩ : Sl Int)) = enc1 tVs L := fun L => by
        unfold enc1
        rw [List.map_map]; rfl
      rw [henc] at this
      exact ⟨_, ⟨p.st.l.map readV, some (p.st.l.map readV).length, none⟩, rfl, fun _ => rfl, this⟩
  obtain ⟨A, B, oA, hB, ey⟩ := ey
  have hBk : ∀ h : depL ch ≠ 0, FreshCalls Tryz.prog Γ 37 [tV B, tV (knownP p).st] (tB true) := fun h => same35_spec B (knownP p).st (hB h) (by rw [hB h, List.length_map, hP.s]; omega)
  have g1 := fun Q c0 c1 c2 c3 p0 p1 s0 s1 s2 s3 s4 s5 s6 s7 inT loT h0 => sl_l1 (Γ := Γ) (Q := Q) inT loT ch (by omega) hs6 c0 c1 c2 c3 p0 p1 s0 s1 s2 s3 s4 s5 s6 s7 (depL ch) h0 ch.length 0 0 (by omega) (by simp [depL])
  simp only [tC, tNodes, tNames, tMems, List.cons_append, List.nil_append] at hpat
  have g5 := fun Q c0 c1 c2 c3 inT h0 => sl_l5 (Γ := Γ) (Q := Q) inT ch (by omega) hs6 (loadsL ch (states c) p.st.l) (depL ch) (by omega) hLl hrow hz c0 c1 c2 c3 (tV p.inn) (tV p.st) _ _ _ _ _ _ _ _ (fun r => p.inn.l ++ ([1] ++ r)) _ _ _ hpat h0 (depL ch) 0 (by omega)
  clear hpat hz hend
  have hrl : ((loadsL ch (states c) p.st.l).map (fun r => p.inn.l ++ ([1] ++ r))).length = depL ch := by rw [List.length_map]; exact hLl
  have htk : (enc1 tVs ((loadsL ch (states c) p.st.l).map (fun r => p.inn.l ++ ([1] ++ r)))).take (depL ch) = enc1 tVs ((loadsL ch (states c) p.st.l).map (fun r => p.inn.l ++ ([1] ++ r))) := List.take_of_length_le (by rw [enc1_len]; omega)
  have hks : (knownP p).st = ⟨p.st.l.map readV, none, none⟩ := rfl
  generalize knownP p = pk at *
  generalize (loadsL ch (states c) p.st.l).map (fun r => p.inn.l ++ ([1] ++ r)) = rows at *
  generalize loadsL ch (states c) p.st.l = Lo at *
  generalize depL ch = d at *
  generalize enc1 tSl (scS c ch).cl = s4 at *
  generalize ints (scS c ch).ins = s6 at *
  generalize ints (scJ c ch).muxes = s7 at *
  generalize scC c ch = D at *
  simp [slE, slH, tV] at g1
  simp [slG, slE, slH, slJ, tVs, tV, tSl, sT10, hLl] at g5
  simp [tCase, tCD] at e1
  simp [tPD, tV] at ep
  simp [tC, tNodes, tNames, tMems, tSl, tChs, tP, tV] at ep e2 e3 e4 es ey ek
  simp [tV] at hBk
  simp [law35_ShiftsLoads_ic, tCase, tCD, tPD, tV]
  refine callK_pure e1 rfl ?_
  simp [tC, tNodes, tNames, tMems, tSl, tChs]
  refine callK_pure ep rfl ?_
  simp [tP, tV]
  refine callK_pure e2 rfl ?_
  simp
  refine callK_pure e3 rfl ?_
  simp
  refine g1 _ _ _ _ _ _ _ _ _ _ _ _ _ _ _ _ _ ?_
  simp [enc1_len, hLl]
  refine callK_fresh e4 rfl ?_
  simp
  refine g5 _ _ _ _ _ _ ?_
  simp [St.freeze, Reg.closed, frzRef, frz1, frz0, frzReg, del, reify, htk]
  refine callK_pure es rfl ?_
  simp
  refine callK_pure ey rfl ?_
  by_cases h0 : d = 0
  · subst h0
    simp
    refine callK_pure (lives35_spec hΓ) rfl ?_
    simp [law35_ShiftsLoads_rv, reify]
  · have hd0 : ¬ (d : Int) = 0 := by omega
    have hb := hBk h0
    simp [h0, hd0]
    refine callK_pure ek rfl ?_
    simp
    refine callK_fresh hb rfl ?_
    simp
    refine callK_pure (lives35_spec hΓ) rfl ?_
    simp [law35_ShiftsLoads_rv, reify]
end Go.Lg
