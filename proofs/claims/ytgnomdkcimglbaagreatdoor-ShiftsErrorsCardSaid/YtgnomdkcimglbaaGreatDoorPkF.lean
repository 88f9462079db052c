/- scans.Insert. Conditions: none. -/
import Derived.Test.YtgnomdkcimglbaaGreatDoorPkE
import Derived.Test.YtgnomdkcimglbaaGreatDoorPkD
import Derived.Test.YtgnomdkcimglbaaGreatDoorPkC
import Derived.Test.YtgnomdkcimglbaaGreatDoorProg
import Derived.KernelRfl
set_option linter.unusedSimpArgs false
set_option linter.unusedVariables false
set_option maxRecDepth 100000
namespace Go.Lg
open Go Go.Proofs
variable {Γ : Tables}
def seN : List UInt8 := [115, 101]
def scS0 (c : Cir) : IS := ⟨c.nodes.l.map cpNd ++ [inpN], c.names.l ++ [seN], [], [], [], c.outs.l⟩
def scS (c : Cir) (chs : List (Sl Int)) : IS := goCh 0 chs (scS0 c)
def scJ (c : Cir) (chs : List (Sl Int)) : JS := goSt c c.nodes.l.length (scS c chs).bef 0 (states c) ⟨(scS c chs).nodes, (scS c chs).names, []⟩
def scC (c : Cir) (chs : List (Sl Int)) : Cir :=
  ⟨⟨(scJ c chs).nodes, some (scJ c chs).nodes.length, none⟩, ⟨(scJ c chs).names, some (scJ c chs).names.length, none⟩, ⟨[], some 0, some true⟩, ⟨(scS c chs).outs, some (scS c chs).outs.length, if chs = [] then (if c.outs.nl = some true then some true else none) else none⟩⟩
structure InsOk (c : Cir) (chs : Sl (Sl Int)) : Prop where
  ok : COk c
  cp : CpOk c
  names : c.names.l.Nodup
  se : seN ∉ c.names.l
  len : chs.l.length ≤ 100
  lens : ∀ s ∈ chs.l, s.l.length ≤ 1000000000
  n16 : c.nodes.l.length ≤ 1000
  n1 : c.names.l.length ≤ 1000
  s100 : (states c).length ≤ 100
  ch : okCh 0 chs.l (scS0 c)
  st : okSt c c.nodes.l.length (scS c chs.l).bef 0 (states c) ⟨(scS c chs.l).nodes, (scS c chs.l).names, []⟩
  both : chs.l = [] → states c = []
  err : checkErr c chs.l = 0
def tScan (c : Cir) (chs : List (Sl Int)) : T :=
  .agg (tC (scC c chs) ++ [.sl (enc1 tSl (scS c chs).cl) (some (scS c chs).cl.length) none, tI c.nodes.l.length, .sl (ints (scS c chs).ins) (some (scS c chs).ins.length) none, .sl (ints (scJ c chs).muxes) (some (scJ c chs).muxes.length) none])
theorem clip_node (es : List (List T)) (cap : Option Nat) (nl : Option Bool) (hw : wid 4 es) : PureCalls Tryz.prog Γ 88 [.sl es cap nl] (.sl es (some es.length) nl) := by
  refine run_pureQ slices_Clip_api_Node_chk rfl ?_
  simp [slices_Clip_api_Node_ic, slices_Clip_api_Node_rv, hw]
theorem clip_string (es : List (List T)) (cap : Option Nat) (nl : Option Bool) (hw : wid 1 es) : PureCalls Tryz.prog Γ 89 [.sl es cap nl] (.sl es (some es.length) nl) := by
  refine run_pureQ slices_Clip_string_chk rfl ?_
  simp [slices_Clip_string_ic, slices_Clip_string_rv, hw]
theorem goCh_len : ∀ {l : List (Sl Int)} {i : Nat} {S : IS}, S.ins.length = S.cl.length → (goCh i l S).ins.length = (goCh i l S).cl.length
  | [], _, _, h => h
  | s :: l, i, S, h => goCh_len (l := l) (by simp [stepCh, h])
set_option maxHeartbeats 4000000 in
theorem Insert_spec (hΓ : GOk Γ) (c : Cir) (chs : Sl (Sl Int)) (h : InsOk c chs) : PureCalls Tryz.prog Γ 29 [.agg (tC c), tChs chs] (.tup [tScan c chs.l, tI 0]) := by
  refine run_pureQ scans_Insert_chk rfl ?_
  have e1 := scheck_spec hΓ c h.ok chs (by have := h.len; omega) h.lens
  rw [h.err] at e1
  have e2 := states_spec (Γ := Γ) c h.ok
  have e3 := copy_spec (Γ := Γ) c h.cp
  have hn := h.n16
  have hn1 := h.n1
  have hm := h.len
  have hs := h.s100
  simp [scans_Insert_ic]
  simp [tC, tNodes, tNames, tMems, tSl, tChs] at e1 e2 e3
  simp [tC, tNodes, tNames, tMems, tSl, tChs]
  refine callK_fresh e1 rfl ?_
  simp
  refine callK_pure e2 rfl ?_
  have hlim : ¬ (16384 : Int) < (c.nodes.l.length : Int) + 1 + (chs.l.length : Int) + ((states c).length : Int) := by omega
  simp (disch := omega) [encN_len, enc1_len, wrap_i64, hlim]
  refine callK_pure e3 rfl ?_
  have g1 := fun Q N M O h0 => ins_l1 (Γ := Γ) (Q := Q) (.sl (enc1 tSl chs.l) chs.cap chs.nl) (.sl (ints (states c)) (some (states c).length) none) c c.names (by omega) h.names N M O h0 c.names.l.length 0 (by omega)
  simp [tC, tNodes, tNames, tMems, tSl, Z8, nilT, show seenM [] = [] from rfl] at g1
  simp [copyC, enc1_len, cpS, show encN tMm [] = [] from rfl, enc1_nil]
  refine g1 _ _ _ _ ?_
  simp [List.idxOf_cons, sV]
  have c4 := add_tt (Γ := Γ) c.names.l (c.nodes.l.map cpNd) c.names.l c.outs.l (some c.outs.l.length) (if c.outs.nl = some true then some true else none) inpN seN (by simp; omega) (by omega) h.se (by simp [seN])
  simp [tNd, inpN, tSl, enc1_nil, tS, sV, seN] at c4
  refine ⟨_, _, c4, ?_⟩
  simp [List.idxOf_cons, renSt]
  have g5 := fun Q h0 h0t => ins_l5t (Γ := Γ) (Q := Q) c (.sl (ints (states c)) (some (states c).length) none) chs h.len c.nodes.l.length (scS c chs.l) (if c.outs.nl = some true then some true else none) (scS0 c) h0 h0t rfl h.ch rfl
  have hst := h.st
  have hJ : scJ c chs.l = goSt c c.nodes.l.length (scS c chs.l).bef 0 (states c) ⟨(scS c chs.l).nodes, (scS c chs.l).names, []⟩ := rfl
  have hC : scC c chs.l = ⟨⟨(scJ c chs.l).nodes, some (scJ c chs.l).nodes.length, none⟩, ⟨(scJ c chs.l).names, some (scJ c chs.l).names.length, none⟩, ⟨[], some 0, some true⟩, ⟨(scS c chs.l).outs, some (scS c chs.l).outs.length, if chs.l = [] then (if c.outs.nl = some true then some true else none) else none⟩⟩ := rfl
  unfold tScan
  rw [hC]
  have hS0 : scS0 c = scS c [] := rfl
  have hSe : chs.l = [] → scS c chs.l = scS0 c := fun e => by rw [e]; rfl
  have hil : (scS c chs.l).ins.length = (scS c chs.l).cl.length := goCh_len rfl
  generalize scS c chs.l = S at *
  generalize scJ c chs.l = J at *
  have g7 := fun Q h0 => ins_l7 (Γ := Γ) (Q := Q) c (by omega) (states c) hs (some (states c).length) none c.nodes.l.length S J h0 (states c).length 0 ⟨S.nodes, S.names, []⟩ (by omega) hst hJ.symm
  simp [i6E, i6T, i6R, i3H, i3G, r11, r46, scS0, Z8, nilT, tC, tNodes, tNames, tMems, tSl, enc1_nil, inpN, seN, show befM [] = [] from rfl] at g5
  simp [i8E, i8R, i3G, r11, r46, Z8, nilT, tC, tNodes, tNames, tMems, tSl, enc1_nil] at g7
  simp [enc1_len]
  refine g5 _ (fun hne => ?_) (fun he => ?_)
  · simp [enc1_len]
    refine g7 _ ?_
    have k1 : (enc1 tSl S.cl).take S.cl.length = enc1 tSl S.cl := enc1_take_len
    have k2 : (ints S.ins).take S.cl.length = ints S.ins := by rw [← hil]; exact enc1_take_len
    have k3 : (ints S.outs).take S.outs.length = ints S.outs := enc1_take_len
    have k4 : (ints J.muxes).take J.muxes.length = ints J.muxes := enc1_take_len
    have k5 : (encN tNd J.nodes).take J.nodes.length = encN tNd J.nodes := encN_take_len
    have k6 : (enc1 tS J.names).take J.names.length = enc1 tS J.names := enc1_take_len
    simp [St.freeze, Reg.closed, frzRef, frz1, frz0, frzReg, del, reify, k1, k2, k3, k4, k5, k6]
    refine callK_pure (clip_node (encN tNd J.nodes) none none tNd_wid) rfl ?_
    simp
    refine callK_pure (clip_string (enc1 tS J.names) none none enc1_wid) rfl ?_
    simp
    refine callK_pure (clip_int (ints S.outs) none none enc1_wid) rfl ?_
    simp
    refine callK_pure (clip_ints (enc1 tSl S.cl) none none enc1_wid) rfl ?_
    simp
    refine callK_pure (clip_int (ints S.ins) none none enc1_wid) rfl ?_
    simp
    refine callK_pure (clip_int (ints J.muxes) none none enc1_wid) rfl ?_
    simp [scans_Insert_rv, tC, tNodes, tNames, tMems, tSl, encN_len, enc1_len, hne, show encN tMm [] = [] from rfl]
  · have hse : states c = [] := h.both he
    have hS := hSe he
    have hJe : J = ⟨S.nodes, S.names, []⟩ := by rw [hJ, hse]; rfl
    have hl0 : chs.l.length = 0 := by rw [he]; rfl
    subst hJe
    subst hS
    have k5 : (encN tNd (scS0 c).nodes).take (c.nodes.l.length + 1) = encN tNd (scS0 c).nodes := List.take_of_length_le (by simp [scS0, encN])
    have k6 : (enc1 tS (scS0 c).names).take (c.names.l.length + 1) = enc1 tS (scS0 c).names := List.take_of_length_le (by simp [scS0, enc1])
    simp [scS0, inpN, seN] at k5 k6
    simp [enc1_len, hse]
    refine scans_Insert_l7_run fun K hK => ?_
    simp [enc1_len, hse, St.freeze, Reg.closed, frzRef, frz1, frz0, frzReg, del, reify, k5, k6]
    refine callK_pure (clip_node _ none none tNd_wid) rfl ?_
    simp
    refine callK_pure (clip_string _ none none enc1_wid) rfl ?_
    simp
    refine callK_pure (clip_int (ints c.outs.l) (some c.outs.l.length) (if c.outs.nl = some true then some true else none) enc1_wid) rfl ?_
    simp
    refine callK_pure (clip_ints [] none none wid_nil) rfl ?_
    simp
    refine callK_pure (clip_int [] none none wid_nil) rfl ?_
    simp
    refine callK_pure (clip_int [] none none wid_nil) rfl ?_
    simp [scans_Insert_rv, tC, tNodes, tNames, tMems, tSl, encN_len, enc1_len, he, enc1_nil, show encN tMm [] = [] from rfl]
    simp [scS0, inpN, seN, enc1_nil]
theorem Insert_err (hΓ : GOk Γ) (c : Cir) (hc : COk c) (chs : Sl (Sl Int)) (hl : chs.l.length ≤ 1000000000) (hs : ∀ s ∈ chs.l, s.l.length ≤ 1000000000) (he : checkErr c chs.l ≠ 0) : PureCalls Tryz.prog Γ 29 [.agg (tC c), tChs chs] (.tup [.agg [nilT, nilT, nilT, nilT, nilT, tI 0, nilT, nilT], tI (checkErr c chs.l)]) := by
  refine run_pureQ scans_Insert_chk rfl ?_
  have e1 := scheck_spec hΓ c hc chs hl hs
  generalize checkErr c chs.l = e at *
  simp [scans_Insert_ic]
  simp [tC, tNodes, tNames, tMems, tSl, tChs] at e1
  simp [tC, tNodes, tNames, tMems, tSl, tChs]
  refine callK_fresh e1 rfl ?_
  simp [he, scans_Insert_rv, nilT]
end Go.Lg
namespace Go.Lg
open Go Go.Proofs
variable {Γ : Tables}
def elems (l : List (Sl Int)) : List Int := (l.map fun s => s.l).flatten
theorem elems_nil : elems [] = [] := rfl
theorem elems_cons {s : Sl Int} {l : List (Sl Int)} : elems (s :: l) = s.l ++ elems l := rfl
theorem goElems_ok {c : Cir} : ∀ {l done : List Int}, (∀ n ∈ l, 0 ≤ n ∧ n < c.nodes.l.length ∧ kindAt c n.toNat = 14) → l.Nodup → (∀ n ∈ l, n ∉ done) → goElems c done l = some (done ++ l)
  | [], done, _, _, _ => by simp [goElems]
  | n :: l, done, h, hn, hd => by
    have h0 := h n List.mem_cons_self
    have hb : ¬ elemBad c done n = true := by
      simp [elemBad, h0.2.2, hd n List.mem_cons_self]; omega
    simp only [goElems, if_neg hb]
    rw [goElems_ok (fun m hm => h m (List.mem_cons_of_mem _ hm)) (List.nodup_cons.1 hn).2 (fun m hm he => by
      rcases List.mem_append.1 he with he | he
      · exact hd m (List.mem_cons_of_mem _ hm) he
      · simp at he; subst he; exact (List.nodup_cons.1 hn).1 hm)]
    simp
theorem goChains_ok {c : Cir} : ∀ {l : List (Sl Int)} {done : List Int}, (∀ s ∈ l, s.l ≠ []) → (∀ n ∈ elems l, 0 ≤ n ∧ n < c.nodes.l.length ∧ kindAt c n.toNat = 14) → (elems l).Nodup → (∀ n ∈ elems l, n ∉ done) → goChains c done l = some (done ++ elems l)
  | [], done, _, _, _, _ => by simp [goChains, elems_nil]
  | s :: l, done, hne, h, hn, hd => by
    simp only [elems_cons] at h hn hd ⊢
    have hn' := List.nodup_append.1 hn
    simp only [goChains, if_neg (hne s List.mem_cons_self)]
    rw [goElems_ok (fun n hm => h n (List.mem_append_left _ hm)) hn'.1 (fun n hm => hd n (List.mem_append_left _ hm)), Option.bind_some]
    rw [goChains_ok (fun t ht => hne t (List.mem_cons_of_mem _ ht)) (fun n hm => h n (List.mem_append_right _ hm)) hn'.2.1 (fun n hm he => by
      rcases List.mem_append.1 he with he | he
      · exact hd n (List.mem_append_right _ hm) he
      · exact hn'.2.2 n he n hm rfl)]
    simp
theorem states_good {c : Cir} : ∀ n ∈ states c, 0 ≤ n ∧ n < c.nodes.l.length ∧ kindAt c n.toNat = 14 := by
  intro n hn
  obtain ⟨h1, h2, h3⟩ := ofL_kind [14] c.nodes.l 0 n hn
  refine ⟨by omega, by omega, ?_⟩
  simpa [kindAt] using h3
end Go.Lg
namespace Go.Lg
open Go Go.Proofs
theorem check_perm {c : Cir} {chs : List (Sl Int)} (hp : plainErr c = 0) (h64 : chs.length ≤ 64) (hne : ∀ s ∈ chs, s.l ≠ []) (hperm : (elems chs).Perm (states c)) : checkErr c chs = 0 := by
  have hg := goChains_ok (c := c) (l := chs) (done := []) hne (fun n hn => states_good n (hperm.mem_iff.1 hn)) (hperm.nodup_iff.2 (states_nodup c)) (by simp)
  unfold checkErr
  rw [if_neg (by simp [hp]), if_neg (by omega), hg]
  simp [hperm.length_eq]
end Go.Lg
namespace Go.Lg
open Go Go.Proofs
variable {Γ : Tables}
def permS : Nat → Nat → List Int → List Int → List Int
  | 0, _, _, l => l
  | f + 1, i, keys, l => permS f (i + 1) keys (swapL l i (i + (keys.getD i 0).toNat % (l.length - i)))
def cutS : List Int → List Int → List (Sl Int)
  | [], l => if l = [] then [] else [⟨l, none, none⟩]
  | b :: cuts, l => if l = [] then [] else ⟨l.take (1 + b.toNat % l.length), none, none⟩ :: cutS cuts (l.drop (1 + b.toNat % l.length))
theorem permS_perm : ∀ (f i : Nat) (keys l : List Int), i + f ≤ l.length → (permS f i keys l).Perm l
  | 0, _, _, l, _ => List.Perm.refl l
  | f + 1, i, keys, l, h => by
    simp only [permS]
    have hm := Nat.mod_lt (keys.getD i 0).toNat (show 0 < l.length - i by omega)
    exact (permS_perm f (i + 1) keys _ (by rw [swapL_len]; omega)).trans (swapL_perm (by omega) (by omega))
theorem cutS_elems : ∀ (cuts l : List Int), elems (cutS cuts l) = l
  | [], l => by
    simp only [cutS]
    split
    · rename_i h; rw [h]; rfl
    · simp [elems]
  | b :: cuts, l => by
    simp only [cutS]
    split
    · rename_i h; rw [h]; rfl
    · rw [elems_cons, cutS_elems cuts]; exact List.take_append_drop _ _
theorem cutS_ne : ∀ (cuts l : List Int), ∀ s ∈ cutS cuts l, s.l ≠ [] ∧ s.nl ≠ some true
  | [], l, s, hs => by
    simp only [cutS] at hs
    split at hs
    · cases hs
    · rename_i h; simp at hs; subst hs; exact ⟨h, by simp⟩
  | b :: cuts, l, s, hs => by
    simp only [cutS] at hs
    split at hs
    · cases hs
    · rename_i h
      rcases List.mem_cons.1 hs with rfl | hs
      · refine ⟨fun e => ?_, by simp⟩
        have := congrArg List.length e
        have hp : 0 < l.length := List.length_pos_iff.2 h
        rw [List.length_take, List.length_nil] at this; omega
      · exact cutS_ne cuts _ s hs
theorem elems_le : ∀ (l : List (Sl Int)), (∀ s ∈ l, s.l ≠ []) → l.length ≤ (elems l).length ∧ ∀ s ∈ l, s.l.length ≤ (elems l).length
  | [], _ => by simp [elems_nil]
  | x :: l, h => by
    obtain ⟨h1, h2⟩ := elems_le l fun s hs => h s (List.mem_cons_of_mem _ hs)
    have h3 : 0 < x.l.length := List.length_pos_iff.2 (h x List.mem_cons_self)
    rw [elems_cons, List.length_append]
    refine ⟨by simp only [List.length_cons]; omega, fun s hs => ?_⟩
    rcases List.mem_cons.1 hs with rfl | hs
    · omega
    · have := h2 s hs; omega
end Go.Lg
namespace Go.Lg
open Go Go.Proofs
theorem itoaL_inj : ∀ i, i < 100 → ∀ j, j < 100 → itoaL i = itoaL j → i = j := by decide +kernel
theorem siN_inj {i j : Nat} (hi : i < 100) (hj : j < 100) (h : siN i = siN j) : i = j := itoaL_inj i hi j hj (by simpa [siN] using h)
theorem smN_inj {i j : Nat} (hi : i < 100) (hj : j < 100) (h : smN i = smN j) : i = j := itoaL_inj i hi j hj (by simpa [smN] using h)
def befL : Int → List (Sl Int) → List (Int × Int)
  | _, [] => []
  | n, s :: l => prevs n s.l ++ befL (n + 1) l
def lastL : Int → List (Sl Int) → List Int
  | _, [] => []
  | n, s :: l => lastC n s.l :: lastL (n + 1) l
def insOf (n : Nat) (k : Nat) : List Int := (List.range' n k).map fun q : Nat => (q : Int)
theorem insOf_succ (n k : Nat) : insOf n (k + 1) = (n : Int) :: insOf (n + 1) k := by simp [insOf, List.range'_succ]
theorem goCh_eq : ∀ (l : List (Sl Int)) (i : Nat) (S : IS), goCh i l S = ⟨S.nodes ++ List.replicate l.length inpN, S.names ++ (List.range' i l.length).map siN, S.cl ++ l.map (fun s => ⟨s.l, some s.l.length, none⟩), S.ins ++ insOf S.nodes.length l.length, S.bef ++ befL S.nodes.length l, S.outs ++ lastL S.nodes.length l⟩
  | [], i, S => by simp [goCh, insOf, befL, lastL]
  | s :: l, i, S => by
    simp only [goCh]
    rw [goCh_eq l (i + 1)]
    simp [stepCh, List.replicate_succ, List.range'_succ, insOf_succ, befL, lastL]
theorem okCh_ind : ∀ (l : List (Sl Int)) (i : Nat) (S : IS) (base : List (List UInt8)), S.names = base ++ (List.range' 0 i).map siN → (∀ j, j < 100 → siN j ∉ base) → i + l.length ≤ 100 → S.nodes.length ≤ 2000 + i → S.names.length ≤ 2000 + i → S.cl.length = i → S.ins.length = i → S.outs.length ≤ 2000 + i →
    (S.bef.map (·.1) ++ elems l).Nodup → (∀ s ∈ l, s.l ≠ [] ∧ s.nl ≠ some true ∧ s.l.length ≤ 1000000) → okCh i l S
  | [], _, _, _, _, _, _, _, _, _, _, _, _, _ => trivial
  | s :: l, i, S, base, hn, hb, hi, h1, h2, h3, h4, h5, hnd, hs => by
    simp only [List.length_cons] at hi
    rw [elems_cons, ← List.append_assoc] at hnd
    have hnd2 := hnd
    rw [List.append_assoc] at hnd2
    obtain ⟨d1, d2, d3⟩ := List.nodup_append.1 hnd2
    obtain ⟨e1, e2, e3⟩ := List.nodup_append.1 d2
    obtain ⟨s1, s2, s3⟩ := hs s List.mem_cons_self
    refine ⟨⟨⟨by omega, by omega, by omega, by omega, by omega⟩, ?_, by omega, s1, s2, s3, e1, fun n hnl hm => d3 n hm n (List.mem_append_left _ hnl) rfl⟩, ?_⟩
    · rw [hn, List.mem_append]
      rintro (h | h)
      · exact hb i (by omega) h
      · obtain ⟨j, hj, e⟩ := List.mem_map.1 h
        simp at hj
        have := siN_inj (by omega) (by omega) e
        omega
    · refine okCh_ind l (i + 1) (stepCh i s S) base ?_ hb (by omega) (by simp [stepCh]; omega) (by simp [stepCh]; omega) (by simp [stepCh]; omega) (by simp [stepCh]; omega) (by simp [stepCh]; omega) ?_ fun x hx => hs x (List.mem_cons_of_mem _ hx)
      · simp only [stepCh, hn, List.append_assoc]
        rw [List.range'_concat]
        simp
      · simp only [stepCh, List.map_append, prevs_keys]
        exact hnd
theorem okSt_ind (c : Cir) (en : Int) (bef : List (Int × Int)) : ∀ (l : List Int) (i : Nat) (J : JS) (base : List (List UInt8)), J.names = base ++ (List.range' 0 i).map smN → (∀ j, j < 100 → smN j ∉ base) → i + l.length ≤ 100 → J.nodes.length ≤ 3000 + i → J.names.length ≤ 3000 + i → J.muxes.length = i →
    (∀ n ∈ l, 0 ≤ n ∧ n < c.nodes.l.length ∧ n < J.nodes.length ∧ innAt c n.toNat ≠ []) → okSt c en bef i l J
  | [], _, _, _, _, _, _, _, _, _, _ => trivial
  | n :: l, i, J, base, hn, hb, hi, h1, h2, h3, hs => by
    simp only [List.length_cons] at hi
    obtain ⟨s1, s2, s3, s4⟩ := hs n List.mem_cons_self
    have hlen : (stepSt c en bef i n J).nodes.length = J.nodes.length + 1 := by simp [stepSt, setIn]
    refine ⟨⟨by omega, by omega, by omega, ?_, by omega, s1, s2, s3, s4⟩, ?_⟩
    · rw [hn, List.mem_append]
      rintro (h | h)
      · exact hb i (by omega) h
      · obtain ⟨j, hj, e⟩ := List.mem_map.1 h
        simp at hj
        have := smN_inj (by omega) (by omega) e
        omega
    · refine okSt_ind c en bef l (i + 1) (stepSt c en bef i n J) base ?_ hb (by omega) (by omega) (by simp [stepSt]; omega) (by simp [stepSt]; omega) fun x hx => ?_
      · simp only [stepSt, hn, List.append_assoc]
        rw [List.range'_concat]
        simp
      · obtain ⟨a1, a2, a3, a4⟩ := hs x (List.mem_cons_of_mem _ hx)
        exact ⟨a1, a2, by omega, a4⟩
end Go.Lg
namespace Go.Lg
open Go Go.Proofs
theorem nodes5_16 {x : CD} (hx : CDOk x) : (nodes5 x).length ≤ 16 := by
  have m4 : 0 ≤ x.i.tmod 4 ∧ x.i.tmod 4 < 4 := tmod_lt (n := 4) hx.i.1 (by omega)
  have m3 : 0 ≤ x.f.tmod 3 ∧ x.f.tmod 3 < 3 := tmod_lt (n := 3) hx.f.1 (by omega)
  have l2 : (nodes2 x).length = (x.i.tmod 4 + 1).toNat + (x.f.tmod 3).toNat := by simp [nodes2, nodes1]
  have l3 : (nodes2 x).length ≤ (nodes3 x).length ∧ (nodes3 x).length ≤ 8 := by unfold nodes3; split <;> simp <;> omega
  have l4 : (nodes4 x).length = (nodes3 x).length + min 8 x.gates.l.length := by unfold nodes4; rw [gatesN_len]; simp
  have l5 : (nodes5 x).length = (nodes4 x).length := dataN_len
  omega
end Go.Lg
namespace Go.Lg
open Go Go.Proofs
variable {Γ : Tables}
structure CaseD where
  x : CD
  keys : Sl Int
  cuts : Sl Int
structure CaseOk (y : CaseD) : Prop where
  x : CDOk y.x
  keys : ∀ b ∈ y.keys.l, Byt b
  cuts : ∀ b ∈ y.cuts.l, Byt b
def noMemX (x : CD) : CD := { x with mem := false }
def caseC (y : CaseD) : Cir := ofC (noMemX y.x)
def caseCh (y : CaseD) : List (Sl Int) := cutS y.cuts.l (permS (min (states (caseC y)).length y.keys.l.length) 0 y.keys.l (states (caseC y)))
theorem noMemX_ok {x : CD} (h : CDOk x) : CDOk (noMemX x) := ⟨h.i, h.f, h.d0, h.d1, h.p0, h.p1, h.p2, h.p3, h.gates, h.outs⟩
end Go.Lg
namespace Go.Lg
open Go Go.Proofs
theorem getN_app {a b : List Nd} {q : Nat} (h : q < a.length) : (a ++ b).getD q Nd.d = a.getD q Nd.d := by
  rw [List.getD_eq_getElem?_getD, List.getElem?_append_left h, ← List.getD_eq_getElem?_getD]
theorem getN_app2 {a b : List Nd} {q : Nat} (h : a.length ≤ q) : (a ++ b).getD q Nd.d = b.getD (q - a.length) Nd.d := by
  rw [List.getD_eq_getElem?_getD, List.getElem?_append_right h, ← List.getD_eq_getElem?_getD]
theorem getN_set {a : List Nd} {j q : Nat} {v : Int} (h : j < a.length) : (setIn a j v).getD q Nd.d = if q = j then ⟨(a.getD j Nd.d).k, ⟨[v], some 1, some false⟩, (a.getD j Nd.d).mem, (a.getD j Nd.d).bit⟩ else a.getD q Nd.d := by
  unfold setIn
  rw [List.getD_eq_getElem?_getD, List.getElem?_set]
  by_cases e : j = q
  · subst e; simp [h]
  · rw [if_neg e, if_neg (fun h => e h.symm), ← List.getD_eq_getElem?_getD]
theorem goSt_eq (c : Cir) (en : Int) (bef : List (Int × Int)) : ∀ (l : List Int) (i : Nat) (J : JS), l.Nodup → (∀ n ∈ l, 0 ≤ n ∧ n < J.nodes.length) →
    (goSt c en bef i l J).nodes.length = J.nodes.length + l.length ∧ (goSt c en bef i l J).names = J.names ++ (List.range' i l.length).map smN ∧ (goSt c en bef i l J).muxes = J.muxes ++ insOf J.nodes.length l.length ∧
    (∀ q, q < J.nodes.length → (q : Int) ∉ l → (goSt c en bef i l J).nodes.getD q Nd.d = J.nodes.getD q Nd.d) ∧
    (∀ k, k < l.length → (goSt c en bef i l J).nodes.getD (l.getD k 0).toNat Nd.d = ⟨(J.nodes.getD (l.getD k 0).toNat Nd.d).k, ⟨[((J.nodes.length + k : Nat) : Int)], some 1, some false⟩, (J.nodes.getD (l.getD k 0).toNat Nd.d).mem, (J.nodes.getD (l.getD k 0).toNat Nd.d).bit⟩) ∧
    (∀ k, k < l.length → (goSt c en bef i l J).nodes.getD (J.nodes.length + k) Nd.d = muxN en (in0 c (l.getD k 0)) (befOf bef (l.getD k 0)))
  | [], i, J, _, _ => ⟨rfl, by simp [goSt], by simp [goSt, insOf], fun q _ _ => rfl, fun k h => by simp at h, fun k h => by simp at h⟩
  | n :: l, i, J, hnd, hs => by
    obtain ⟨hn1, hn2⟩ := List.nodup_cons.1 hnd
    obtain ⟨n0, n1⟩ := hs n List.mem_cons_self
    have hlen : (stepSt c en bef i n J).nodes.length = J.nodes.length + 1 := by simp [stepSt, setIn]
    obtain ⟨a1, a2, a3, a4, a5, a6⟩ := goSt_eq c en bef l (i + 1) (stepSt c en bef i n J) hn2 fun x hx => by
      have := hs x (List.mem_cons_of_mem _ hx)
      exact ⟨this.1, by omega⟩
    have hlt : n.toNat < (J.nodes ++ [muxN en (in0 c n) (befOf bef n)]).length := by simp; omega
    have hst : ∀ q, (stepSt c en bef i n J).nodes.getD q Nd.d = if q = n.toNat then ⟨(J.nodes.getD n.toNat Nd.d).k, ⟨[(J.nodes.length : Int)], some 1, some false⟩, (J.nodes.getD n.toNat Nd.d).mem, (J.nodes.getD n.toNat Nd.d).bit⟩ else (J.nodes ++ [muxN en (in0 c n) (befOf bef n)]).getD q Nd.d := fun q => by
      simp only [stepSt]
      rw [getN_set hlt, getN_app (by omega)]
    simp only [goSt]
    refine ⟨by rw [a1, hlen]; simp; omega, ?_, ?_, ?_, ?_, ?_⟩
    · rw [a2]; simp [stepSt, List.range'_succ]
    · rw [a3, hlen]; simp only [stepSt, List.append_assoc, List.length_cons, insOf_succ]; rfl
    · intro q hq hm
      rw [a4 q (by omega) fun h => hm (List.mem_cons_of_mem _ h), hst, if_neg (fun e => hm (by have : (q : Int) = n := by omega
                                                                                               rw [this]; exact List.mem_cons_self)), getN_app hq]
    · intro k hk
      cases k with
      | zero =>
        simp only [List.getD_cons_zero]
        rw [a4 n.toNat (by omega) fun h => hn1 (by have : ((n.toNat : Nat) : Int) = n := by omega
                                                   rw [this] at h; exact h), hst, if_pos rfl]
        rfl
      | succ k =>
        simp only [List.getD_cons_succ]
        have hk' : k < l.length := by simpa using hk
        have hin : l.getD k 0 ∈ l := by rw [getD_eq hk']; exact List.getElem_mem _
        have hb := hs _ (List.mem_cons_of_mem _ hin)
        have hne : ¬ (l.getD k 0).toNat = n.toNat := fun e => hn1 (by have : l.getD k 0 = n := by omega
                                                                      rw [← this]; exact hin)
        rw [a5 k hk', hst, if_neg hne, getN_app (by omega), hlen]
        congr 4
        omega
    · intro k hk
      cases k with
      | zero =>
        simp only [List.getD_cons_zero, Nat.add_zero]
        rw [a4 J.nodes.length (by omega) fun h => by have := (hs _ (List.mem_cons_of_mem _ h)).2; omega, hst, if_neg (by omega), getN_app2 (Nat.le_refl _)]
        simp
      | succ k =>
        simp only [List.getD_cons_succ]
        have hk' : k < l.length := by simpa using hk
        rw [← a6 k hk', hlen]
        congr 1
        omega
end Go.Lg
namespace Go.Lg
open Go Go.Proofs
theorem valid_of {c : Cir} (hg : GNs false c.nodes.l) (hm : c.mems.l = []) (hn : c.nodes.l.length ≤ 16384) (ho : c.outs.l.length ≤ 16384 ∧ ∀ p ∈ c.outs.l, 0 ≤ p ∧ p < c.nodes.l.length) (hnm : c.names.l.length = c.nodes.l.length) (hne : namesErr [] c.names.l = 0) : levErr c = 0 := by
  have hout : ∀ n, 0 ≤ n ∧ n < (c.nodes.l.length : Int) → outP c n = false := fun n h => by simp [outP]; omega
  have hnode : ∀ y ∈ c.nodes.l, nodeErr c y = 0 := by
    intro y hy
    obtain ⟨i, hi, rfl⟩ := List.getElem_of_mem hy
    have hn := hg i hi
    unfold nodeErr
    rw [if_neg (by have := hn.k; omega), if_neg (by have := hn.f; omega)]
    have h1 : c.nodes.l[i].inn.l.any (outP c) = false := List.any_eq_false.2 fun p hp => by rw [hout p (hn.inn p hp)]; simp
    rw [h1]
    have h2 : ¬ (c.nodes.l[i].k = 13 ∧ c.nodes.l[i].inn.l.any (notTri c) = true) := by
      rintro ⟨hk, ha⟩
      obtain ⟨p, hp, hq⟩ := List.any_eq_true.1 ha
      have := hn.bus hk p hp
      simp only [notTri, decide_eq_true_eq] at hq
      exact hq this
    rw [if_neg (by simp), if_neg h2]
    have h3 : bitOk c c.nodes.l[i] = true := by
      unfold bitOk
      by_cases hk : c.nodes.l[i].k = 15
      · have := (hn.mm.2 hk).1
        cases this
      · have := hn.mm.1 hk
        simp [hk, this]
    rw [h3]; simp
  have hs : shapeErr c = 0 := by
    unfold shapeErr
    rw [if_neg (by rw [hm]; simp; omega), if_neg (by simp [hnm]), if_neg (by rw [firstErr_all hnode]; simp), if_neg (by rw [hne]; simp), if_neg (by rw [hm]; simp [firstErr])]
    have : c.outs.l.any (outP c) = false := List.any_eq_false.2 fun p hp => by rw [hout p (ho.2 p hp)]; simp
    rw [this]; rfl
  have hd := levels_done c (shape_facts hs).2.1 (shape_in hs) (by
    intro i hi hc p hp
    have e : c.nodes.l.getD i Nd.d = c.nodes.l[i] := by simp [List.getD_eq_getElem?_getD, hi]
    simp only [kindAt, innAt, e] at hc hp
    exact (hg i hi).top (by simpa [combB] using hc) p hp)
  unfold levErr
  rw [if_neg (by simp [hs]), if_neg hd]
structure ScOk (c : Cir) (ch : List (Sl Int)) : Prop where
  ok : COk c
  cp : CpOk c
  good : GNs false c.nodes.l
  n1 : 1 ≤ c.nodes.l.length
  n2 : c.nodes.l.length ≤ 16
  nms : c.names.l = (List.range' 0 c.nodes.l.length).map nameL
  outs : c.outs.l.length ≤ 4 ∧ ∀ p ∈ c.outs.l, 0 ≤ p ∧ p < c.nodes.l.length
  perm : (elems ch).Perm (states c)
  ne : ∀ s ∈ ch, s.l ≠ [] ∧ s.nl ≠ some true
theorem nd_cases {B : Bool} {ns : List Nd} (h : GNs B ns) {i : Nat} (hi : i < ns.length) : NG B ns i (ns.getD i Nd.d) := by
  have := h i hi
  rwa [show ns.getD i Nd.d = ns[i] by simp [List.getD_eq_getElem?_getD, hi]]
/-! The nodes are lists that tell whether they are nil. -/
def SNs (ns : List Nd) : Prop := ∀ x ∈ ns, SlOk x.inn
theorem slok_none {l : List Int} (h : l ≠ []) (h2 : l.length ≤ 1000000) : SlOk (⟨l, none, none⟩ : Sl Int) := ⟨(fun h => nomatch h), (fun _ => h), h2⟩
theorem slok_some {l : List Int} {c : Option Nat} (h2 : l.length ≤ 1000000) : SlOk (⟨l, c, some false⟩ : Sl Int) := ⟨(fun h => nomatch h), (fun h => nomatch h), h2⟩
theorem slok_nil {c : Option Nat} : SlOk (⟨[], c, some true⟩ : Sl Int) := ⟨(fun _ => rfl), (fun h => nomatch h), by simp⟩
theorem sns_gate {bus : Bool} {g : Gd} {ns : List Nd} : SlOk (gateN bus g ns).inn := by
  unfold gateN gateT
  generalize (if bus = true then g.k.tmod 13 else g.k.tmod 9) = kk
  by_cases h1 : kk < 6
  · simp only [h1, if_true]
    split
    · exact slok_none (by simp) (by simp)
    · exact slok_none (by simp) (by simp)
  · simp only [h1, if_false]
    split
    · exact slok_none (by simp) (by simp)
    split
    · exact slok_none (by simp) (by simp)
    split
    · exact slok_none (by simp) (by simp)
    split
    · by_cases h2 : 1 < (triL ns).length
      · simp only [h2, if_true]
        exact slok_none (by simp) (by simp)
      · simp only [h2, if_false]
        exact slok_none (by simp) (by simp)
    split
    · exact slok_nil
    · exact slok_none (by simp) (by simp)
theorem sns_gates {bus : Bool} : ∀ {l : List Gd} {ns : List Nd}, SNs ns → SNs (gatesN bus l ns)
  | [], ns, h => h
  | g :: l, ns, h => by
    simp only [gatesN]
    refine sns_gates fun x hx => ?_
    rcases List.mem_append.1 hx with hx | hx
    · exact h x hx
    · simp at hx; subst hx; exact sns_gate
theorem sns_data {x : CD} {first : Nat} : ∀ {k i : Nat} {ns : List Nd}, SNs ns → SNs (dataN x first k i ns)
  | 0, _, _, h => h
  | k + 1, i, ns, h => by
    simp only [dataN]
    refine sns_data fun y hy => ?_
    rcases List.mem_or_eq_of_mem_set hy with hy | rfl
    · exact h y hy
    · exact slok_some (by simp)
theorem sns_nodes {x : CD} (hm : x.mem = false) : SNs (nodes5 x) := by
  unfold nodes5 nodes4 nodes3
  rw [hm]
  refine sns_data (sns_gates fun y hy => ?_)
  simp only [Bool.false_eq_true, if_false, nodes2, nodes1, List.mem_append, List.mem_replicate] at hy
  rcases hy with ⟨_, rfl⟩ | ⟨_, rfl⟩
  · exact slok_nil
  · exact slok_some (by simp)
theorem case_scok {y : CaseD} (hy : CaseOk y) : ScOk (caseC y) (caseCh y) := by
  have hx := noMemX_ok hy.x
  have hN : (caseC y).nodes.l = nodes5 (noMemX y.x) := rfl
  have hl4 := nodes4_len hx
  have h54 : (nodes5 (noMemX y.x)).length = (nodes4 (noMemX y.x)).length := dataN_len
  have h16 : (nodes5 (noMemX y.x)).length ≤ 16 := nodes5_16 hx
  have hpe := permS_perm (min (states (caseC y)).length y.keys.l.length) 0 y.keys.l (states (caseC y)) (by omega)
  have hmods : ∀ b, Byt b → 0 ≤ b.tmod (nodes4 (noMemX y.x)).length ∧ b.tmod (nodes4 (noMemX y.x)).length < ((nodes5 (noMemX y.x)).length : Int) := fun b hb => by
    have := tmod_lt (n := (nodes4 (noMemX y.x)).length) hb.1 (by omega); omega
  have hout : ∀ p ∈ (caseC y).outs.l, 0 ≤ p ∧ p < ((caseC y).nodes.l.length : Int) := fun p hp => by
    rw [hN]
    simp only [caseC, ofC, List.mem_append, List.mem_map, List.mem_singleton] at hp
    rcases hp with ⟨b, hb, rfl⟩ | rfl
    · exact hmods b (hx.outs b (List.mem_of_mem_take hb))
    · omega
  have hol : (caseC y).outs.l.length ≤ 4 := by simp [caseC, ofC]; omega
  have hne : (nodes5 (noMemX y.x)) ≠ [] := List.length_pos_iff.1 (by omega)
  have hnl : (caseC y).names.l.length = (nodes4 (noMemX y.x)).length := by simp [caseC, ofC]
  refine ⟨ofC_ok hx, ⟨hne, by rw [hN]; omega, (fun h => nomatch h), List.length_pos_iff.1 (by omega), by omega, (fun h => nomatch h), rfl, ?_, slok_none (by simp) (by simp; omega)⟩, nodes5_good hx, by rw [hN]; omega, by rw [hN]; omega, ?_, ⟨hol, hout⟩, ?_, cutS_ne _ _⟩
  · exact sns_nodes (x := noMemX y.x) rfl
  · show (List.range' 0 (nodes4 (noMemX y.x)).length).map nameL = (List.range' 0 (nodes5 (noMemX y.x)).length).map nameL
    rw [h54]
  · unfold caseCh; rw [cutS_elems]; exact hpe
end Go.Lg
namespace Go.Lg
open Go Go.Proofs
theorem prevs_val : ∀ (l : List Int) (a : Int), ∀ p ∈ prevs a l, p.2 = a ∨ p.2 ∈ l
  | [], a, p, h => by cases h
  | n :: l, a, p, h => by
    simp only [prevs, List.mem_cons] at h
    rcases h with rfl | h
    · exact .inl rfl
    · rcases prevs_val l n p h with e | e
      · exact .inr (by rw [e]; exact List.mem_cons_self)
      · exact .inr (List.mem_cons_of_mem _ e)
theorem befL_val : ∀ (l : List (Sl Int)) (b : Int), ∀ p ∈ befL b l, (b ≤ p.2 ∧ p.2 < b + l.length) ∨ p.2 ∈ elems l
  | [], b, p, h => by cases h
  | s :: l, b, p, h => by
    simp only [befL, List.mem_append] at h
    rw [elems_cons]
    rcases h with h | h
    · rcases prevs_val s.l b p h with e | e
      · exact .inl ⟨by omega, by simp; omega⟩
      · exact .inr (List.mem_append_left _ e)
    · rcases befL_val l (b + 1) p h with e | e
      · exact .inl ⟨by omega, by simp; omega⟩
      · exact .inr (List.mem_append_right _ e)
theorem befOf_val (l : List (Int × Int)) (n : Int) : befOf l n = 0 ∨ ∃ p ∈ l, befOf l n = p.2 := by
  unfold befOf
  cases h : l.find? (fun p => p.1 == n) with
  | none => exact .inl rfl
  | some p => exact .inr ⟨p, List.mem_of_find?_eq_some h, rfl⟩
def m0 (c : Cir) (ch : List (Sl Int)) : Nat := c.nodes.l.length + 1 + ch.length
theorem getN_map {l : List Nd} {q : Nat} (h : q < l.length) : (l.map cpNd).getD q Nd.d = cpNd (l.getD q Nd.d) := by
  simp [List.getD_eq_getElem?_getD, h]
structure ScF (c : Cir) (ch : List (Sl Int)) : Prop where
  chl : ch.length ≤ 16
  stl : (states c).length ≤ 16
  sn : (scS c ch).nodes = c.nodes.l.map cpNd ++ [inpN] ++ List.replicate ch.length inpN
  snl : (scS c ch).nodes.length = m0 c ch
  snm : (scS c ch).names = c.names.l ++ [seN] ++ (List.range' 0 ch.length).map siN
  cl : (scS c ch).cl = ch.map (fun s => ⟨s.l, some s.l.length, none⟩)
  ins : (scS c ch).ins = insOf (c.nodes.l.length + 1) ch.length
  bef : (scS c ch).bef = befL (c.nodes.l.length + 1 : Nat) ch
  outs : (scS c ch).outs = c.outs.l ++ lastL (c.nodes.l.length + 1 : Nat) ch
  len : (scJ c ch).nodes.length = m0 c ch + (states c).length
  nm : (scJ c ch).names = c.names.l ++ [seN] ++ (List.range' 0 ch.length).map siN ++ (List.range' 0 (states c).length).map smN
  mux : (scJ c ch).muxes = insOf (m0 c ch) (states c).length
  old : ∀ q, q < c.nodes.l.length → kindAt c q ≠ 14 → (scJ c ch).nodes.getD q Nd.d = cpNd (c.nodes.l.getD q Nd.d)
  dff : ∀ q, q < c.nodes.l.length → kindAt c q = 14 → (scJ c ch).nodes.getD q Nd.d = ⟨14, ⟨[((m0 c ch + rankK 14 c q : Nat) : Int)], some 1, some false⟩, (c.nodes.l.getD q Nd.d).mem, (c.nodes.l.getD q Nd.d).bit⟩
  inp : ∀ q, c.nodes.l.length ≤ q → q < m0 c ch → (scJ c ch).nodes.getD q Nd.d = inpN
  mx : ∀ k, k < (states c).length → (scJ c ch).nodes.getD (m0 c ch + k) Nd.d = muxN c.nodes.l.length (in0 c ((states c).getD k 0)) (befOf (befL (c.nodes.l.length + 1 : Nat) ch) ((states c).getD k 0))
theorem scF {c : Cir} {ch : List (Sl Int)} (h : ScOk c ch) : ScF c ch := by
  have hsl : (states c).length ≤ c.nodes.l.length := ofL_len _ _ _
  have hn2 := h.n2
  have hle := elems_le ch fun s hs => (h.ne s hs).1
  have hpl := h.perm.length_eq
  have hS : scS c ch = _ := goCh_eq ch 0 (scS0 c)
  have s1 : (scS c ch).nodes = c.nodes.l.map cpNd ++ [inpN] ++ List.replicate ch.length inpN := by rw [hS]; rfl
  have s2 : (scS c ch).nodes.length = m0 c ch := by rw [s1]; simp [m0]; omega
  have s3 : (scS c ch).names = c.names.l ++ [seN] ++ (List.range' 0 ch.length).map siN := by rw [hS]; rfl
  have l0 : (scS0 c).nodes.length = c.nodes.l.length + 1 := by simp [scS0]
  have s4 : (scS c ch).bef = befL (c.nodes.l.length + 1 : Nat) ch := by
    rw [hS]; show ([] : List (Int × Int)) ++ befL ((scS0 c).nodes.length) ch = _
    rw [l0]; rfl
  have hnd : (states c).Nodup := (ofL_nodup [14] c.nodes.l 0).2
  have hin : ∀ n ∈ states c, 0 ≤ n ∧ n < (scS c ch).nodes.length := fun n hn => by
    have := ofL_in (k := 14) (c := c) n hn
    rw [s2]; unfold m0; omega
  obtain ⟨a1, a2, a3, a4, a5, a6⟩ := goSt_eq c c.nodes.l.length (scS c ch).bef (states c) 0 ⟨(scS c ch).nodes, (scS c ch).names, []⟩ hnd hin
  have hJ : scJ c ch = goSt c c.nodes.l.length (scS c ch).bef 0 (states c) ⟨(scS c ch).nodes, (scS c ch).names, []⟩ := rfl
  rw [← hJ] at a1 a2 a3 a4 a5 a6
  simp only [s2] at a1 a3 a4 a5 a6
  have hg : ∀ q, q < c.nodes.l.length → (scS c ch).nodes.getD q Nd.d = cpNd (c.nodes.l.getD q Nd.d) := fun q hq => by
    rw [s1, List.append_assoc, getN_app (by simpa using hq), getN_map hq]
  refine ⟨by omega, by omega, s1, s2, s3, by rw [hS]; rfl, ?_, s4, ?_, a1, by rw [a2, s3], by rw [a3]; rfl, ?_, ?_, ?_, ?_⟩
  · rw [hS]; show ([] : List Int) ++ insOf (scS0 c).nodes.length ch.length = _
    rw [l0]; rfl
  · rw [hS]; show c.outs.l ++ lastL ((scS0 c).nodes.length) ch = _
    rw [l0]
  · intro q hq hk
    rw [a4 q (by unfold m0; omega) fun hm => hk ((mem_ofL hq).1 hm), hg q hq]
  · intro q hq hk
    obtain ⟨r1, r2⟩ := rank_at hq hk
    have := a5 (rankK 14 c q) r1
    have e : (states c).getD (rankK 14 c q) 0 = (q : Int) := r2
    rw [e] at this
    simp only [Int.toNat_natCast] at this
    rw [this, hg q hq]
    have hk' : (c.nodes.l.getD q Nd.d).k = 14 := hk
    simp only [cpNd, hk']
  · intro q h1 h2
    rw [a4 q h2 fun hm => by have := (ofL_in (k := 14) (c := c) _ hm).2.1; omega]
    rw [s1, List.append_assoc, getN_app2 (by simpa using h1)]
    simp only [List.length_map]
    have h3 : q - c.nodes.l.length < ([inpN] ++ List.replicate ch.length inpN).length := by simp; unfold m0 at h2; omega
    have : ∀ x ∈ [inpN] ++ List.replicate ch.length inpN, x = inpN := fun x hx => by
      rcases List.mem_append.1 hx with hx | hx
      · simpa using hx
      · exact (List.mem_replicate.1 hx).2
    rw [List.getD_eq_getElem?_getD, List.getElem?_eq_getElem h3]
    exact this _ (List.getElem_mem h3)
  · intro k hk
    rw [← s4]
    exact a6 k hk
end Go.Lg
namespace Go.Lg
open Go Go.Proofs
variable {c : Cir} {ch : List (Sl Int)}
theorem bef_rng (h : ScOk c ch) (n : Int) : 0 ≤ befOf (befL (c.nodes.l.length + 1 : Nat) ch) n ∧ befOf (befL (c.nodes.l.length + 1 : Nat) ch) n < m0 c ch := by
  have hf := scF h
  unfold m0
  rcases befOf_val (befL (c.nodes.l.length + 1 : Nat) ch) n with e | ⟨p, hp, e⟩
  · rw [e]; omega
  · rw [e]
    rcases befL_val ch _ p hp with e2 | e2
    · omega
    · have := ofL_in (k := 14) (c := c) _ (h.perm.mem_iff.1 e2)
      omega
theorem st_inn (h : ScOk c ch) {n : Int} (hn : n ∈ states c) : ∃ v, innAt c n.toNat = [v] ∧ 0 ≤ v ∧ v < c.nodes.l.length ∧ in0 c n = v := by
  obtain ⟨n0, n1, nk⟩ := ofL_in (k := 14) (c := c) n hn
  have hg := nd_cases h.good (i := n.toNat) (by omega)
  have hk : (c.nodes.l.getD n.toNat Nd.d).k = 14 := nk
  have hf := hg.f
  rw [hk, show fan 14 = (1, 1) by rfl] at hf
  have hi : innAt c n.toNat = (c.nodes.l.getD n.toNat Nd.d).inn.l := rfl
  rw [← hi] at hf
  have hr := hg.inn
  rw [← hi] at hr
  match hl : innAt c n.toNat with
  | [] => rw [hl] at hf; simp at hf
  | [v] =>
    rw [hl] at hr
    have := hr v (by simp)
    exact ⟨v, rfl, this.1, this.2, by simp [in0, hl]⟩
  | _ :: _ :: _ => rw [hl] at hf; simp at hf; omega
theorem sc_kind (h : ScOk c ch) {q : Nat} (hq : q < c.nodes.l.length) : ((scJ c ch).nodes.getD q Nd.d).k = kindAt c q := by
  have hf := scF h
  by_cases hk : kindAt c q = 14
  · rw [hf.dff q hq hk]; exact hk.symm
  · rw [hf.old q hq hk]; rfl
theorem sc_good (h : ScOk c ch) : GNs false (scJ c ch).nodes := by
  have hf := scF h
  intro q hq
  have hql := hf.len
  have e : (scJ c ch).nodes[q] = (scJ c ch).nodes.getD q Nd.d := by simp [List.getD_eq_getElem?_getD, hq]
  rw [e]
  by_cases h1 : q < c.nodes.l.length
  · have hg := nd_cases h.good h1
    by_cases hk : kindAt c q = 14
    · obtain ⟨r1, r2⟩ := rank_at h1 hk
      have hk' : (c.nodes.l.getD q Nd.d).k = 14 := hk
      have hmm := hg.mm
      rw [hk'] at hmm
      have r1' : rankK 14 c q < (states c).length := r1
      rw [hf.dff q h1 hk]
      refine ⟨by simp, by simp [show fan 14 = (1, 1) by rfl], ?_, fun h => by simp at h, fun h => by simp at h, hmm⟩
      intro p hp
      simp at hp
      subst hp
      rw [hql]; omega
    · rw [hf.old q h1 hk]
      refine ⟨hg.k, hg.f, fun p hp => ?_, hg.top, fun hb p hp => ?_, hg.mm⟩
      · have := hg.inn p hp; rw [hql]; unfold m0; omega
      · have hr := hg.inn p hp
        rw [sc_kind h (by omega)]
        exact hg.bus hb p hp
  · by_cases h2 : q < m0 c ch
    · rw [hf.inp q (by omega) h2]
      exact ng_inp
    · obtain ⟨k, rfl⟩ : ∃ k, q = m0 c ch + k := ⟨q - m0 c ch, by omega⟩
      have hkl : k < (states c).length := by omega
      rw [hf.mx k hkl]
      have hm : (states c).getD k 0 ∈ states c := by rw [getD_eq hkl]; exact List.getElem_mem _
      obtain ⟨v, hv, v0, v1, v2⟩ := st_inn h hm
      have hb := bef_rng h ((states c).getD k 0)
      rw [v2]
      have hm0 : c.nodes.l.length < m0 c ch := by unfold m0; omega
      refine ⟨by simp [muxN], by simp [muxN, show fan 11 = (3, 3) by rfl], ?_, ?_, fun h => by simp [muxN] at h, by simp [muxN]⟩
      · intro p hp
        simp only [muxN, List.mem_cons, List.not_mem_nil, or_false] at hp
        rw [hql]
        rcases hp with rfl | rfl | rfl <;> omega
      · intro _ p hp
        simp only [muxN, List.mem_cons, List.not_mem_nil, or_false] at hp
        rcases hp with rfl | rfl | rfl <;> omega
theorem namesErr_zero : ∀ (l done : List (List UInt8)), (∀ s ∈ l, isName s = true) → (done ++ l).Nodup → namesErr done l = 0
  | [], _, _, _ => rfl
  | s :: l, done, h, hn => by
    have h1 := h s List.mem_cons_self
    have h2 : s ∉ done := fun hm => (List.nodup_append.1 hn).2.2 s hm s List.mem_cons_self rfl
    simp only [namesErr]
    rw [if_neg (by simp [h1, h2])]
    exact namesErr_zero l (done ++ [s]) (fun x hx => h x (List.mem_cons_of_mem _ hx)) (by rw [List.append_assoc]; exact hn)
theorem isName_n : ∀ i, i < 100 → isName (nameL i) = true ∧ isName (siN i) = true ∧ isName (smN i) = true := by decide +kernel
theorem asc_n : ∀ i, i < 100 → (∀ b ∈ nameL i, b < 128) ∧ (∀ b ∈ siN i, b < 128) ∧ ∀ b ∈ smN i, b < 128 := by decide +kernel
theorem nameL_inj : ∀ i, i < 100 → ∀ j, j < 100 → nameL i = nameL j → i = j := by decide +kernel
theorem map_nodup {α : Type} {f : Nat → α} {n : Nat} (hf : ∀ i, i < n → ∀ j, j < n → f i = f j → i = j) : ((List.range' 0 n).map f).Nodup := by
  rw [List.nodup_iff_pairwise_ne, List.pairwise_map]
  refine (List.Pairwise.imp_of_mem ?_ (List.nodup_iff_pairwise_ne.1 (List.nodup_range' (s := 0) (n := n) (step := 1))))
  intro a b ha hb hab e
  simp at ha hb
  exact hab (hf a (by omega) b (by omega) e)
theorem sc_names (h : ScOk c ch) : (scJ c ch).names.Nodup ∧ ∀ s ∈ (scJ c ch).names, isName s = true ∧ ∀ b ∈ s, b < 128 := by
  have hf := scF h
  have hn2 := h.n2
  have hc := hf.chl
  have hs := hf.stl
  rw [hf.nm, h.nms]
  constructor
  · have n1 : ((List.range' 0 c.nodes.l.length).map nameL).Nodup := map_nodup fun i hi j hj e => nameL_inj i (by omega) j (by omega) e
    have n2 : ((List.range' 0 ch.length).map siN).Nodup := map_nodup fun i hi j hj e => siN_inj (by omega) (by omega) e
    have n3 : ((List.range' 0 (states c).length).map smN).Nodup := map_nodup fun i hi j hj e => smN_inj (by omega) (by omega) e
    refine List.nodup_append.2 ⟨List.nodup_append.2 ⟨List.nodup_append.2 ⟨n1, by simp, ?_⟩, n2, ?_⟩, n3, ?_⟩
    · intro a ha b hb e
      obtain ⟨i, _, rfl⟩ := List.mem_map.1 ha
      simp at hb
      rw [hb] at e
      simp [nameL, seN] at e
    · intro a ha b hb e
      obtain ⟨j, _, rfl⟩ := List.mem_map.1 hb
      rcases List.mem_append.1 ha with ha | ha
      · obtain ⟨i, _, rfl⟩ := List.mem_map.1 ha
        simp [nameL, siN] at e
      · simp at ha
        rw [ha] at e
        simp [siN, seN] at e
    · intro a ha b hb e
      obtain ⟨j, _, rfl⟩ := List.mem_map.1 hb
      rcases List.mem_append.1 ha with ha | ha
      · rcases List.mem_append.1 ha with ha | ha
        · obtain ⟨i, _, rfl⟩ := List.mem_map.1 ha
          simp [nameL, smN] at e
        · simp at ha
          rw [ha] at e
          simp [smN, seN] at e
      · obtain ⟨i, _, rfl⟩ := List.mem_map.1 ha
        simp [siN, smN] at e
  · intro s hs'
    rcases List.mem_append.1 hs' with hs' | hs'
    · rcases List.mem_append.1 hs' with hs' | hs'
      · rcases List.mem_append.1 hs' with hs' | hs'
        · obtain ⟨i, hi, rfl⟩ := List.mem_map.1 hs'
          simp at hi
          exact ⟨(isName_n i (by omega)).1, (asc_n i (by omega)).1⟩
        · simp at hs'
          subst hs'
          exact ⟨by decide +kernel, by decide⟩
      · obtain ⟨i, hi, rfl⟩ := List.mem_map.1 hs'
        simp at hi
        exact ⟨(isName_n i (by omega)).2.1, (asc_n i (by omega)).2.1⟩
    · obtain ⟨i, hi, rfl⟩ := List.mem_map.1 hs'
      simp at hi
      exact ⟨(isName_n i (by omega)).2.2, (asc_n i (by omega)).2.2⟩
end Go.Lg
namespace Go.Lg
open Go Go.Proofs
variable {c : Cir} {ch : List (Sl Int)}
theorem lastC_mem : ∀ (l : List Int) (a : Int), l ≠ [] → lastC a l = l.getLastD 0 ∧ lastC a l ∈ l
  | [], _, h => absurd rfl h
  | [n], a, _ => ⟨rfl, by simp [lastC]⟩
  | n :: m :: l, a, _ => by
    have := lastC_mem (m :: l) n (by simp)
    simp only [lastC] at this ⊢
    refine ⟨?_, List.mem_cons_of_mem _ this.2⟩
    rw [this.1]; simp [List.getLastD]
theorem lastL_eq : ∀ (l : List (Sl Int)) (b : Int), (∀ s ∈ l, s.l ≠ []) → lastL b l = l.map fun s => s.l.getLastD 0
  | [], _, _ => rfl
  | s :: l, b, h => by
    simp only [lastL, List.map_cons]
    rw [(lastC_mem s.l b (h s List.mem_cons_self)).1, lastL_eq l (b + 1) fun x hx => h x (List.mem_cons_of_mem _ hx)]
theorem last_in (h : ScOk c ch) {s : Sl Int} (hs : s ∈ ch) : s.l.getLastD 0 ∈ s.l ∧ 0 ≤ s.l.getLastD 0 ∧ s.l.getLastD 0 < c.nodes.l.length ∧ kindAt c (s.l.getLastD 0).toNat = 14 := by
  have h1 := lastC_mem s.l 0 (h.ne s hs).1
  rw [← h1.1]
  have hm : lastC 0 s.l ∈ elems ch := by
    unfold elems
    exact List.mem_flatten.2 ⟨s.l, List.mem_map.2 ⟨s, hs, rfl⟩, h1.2⟩
  have := ofL_in (k := 14) (c := c) _ (h.perm.mem_iff.1 hm)
  exact ⟨h1.2, this⟩
theorem sc_outs (h : ScOk c ch) : (scC c ch).outs.l = c.outs.l ++ ch.map fun s => s.l.getLastD 0 := by
  show (scS c ch).outs = _
  rw [(scF h).outs, lastL_eq _ _ fun s hs => (h.ne s hs).1]
theorem sc_valid (h : ScOk c ch) : levErr (scC c ch) = 0 := by
  have hf := scF h
  have hn2 := h.n2
  have ho := h.outs
  have hc := hf.chl
  have hs := hf.stl
  have hN : (scC c ch).nodes.l = (scJ c ch).nodes := rfl
  have hnl : (scC c ch).nodes.l.length = m0 c ch + (states c).length := hf.len
  refine valid_of (sc_good h) rfl (by rw [hnl]; unfold m0; omega) ⟨?_, ?_⟩ ?_ ?_
  · rw [sc_outs h]; simp; omega
  · intro p hp
    rw [sc_outs h] at hp
    rw [hnl]
    rcases List.mem_append.1 hp with hp | hp
    · have := ho.2 p hp; unfold m0; omega
    · obtain ⟨s, hs', rfl⟩ := List.mem_map.1 hp
      have := last_in h hs'
      unfold m0; omega
  · rw [hnl]
    show (scJ c ch).names.length = _
    rw [hf.nm, h.nms]; simp [m0]; omega
  · have := sc_names h
    exact namesErr_zero _ [] (fun s hs => (this.2 s hs).1) (by rw [List.nil_append]; exact this.1)
theorem sc_cok (h : ScOk c ch) : COk (scC c ch) := by
  have hf := scF h
  have hn2 := h.n2
  have ho := h.outs
  have hc := hf.chl
  have hs := hf.stl
  have hg := sc_good h
  have hN : (scC c ch).nodes.l = (scJ c ch).nodes := rfl
  have hnl : (scC c ch).nodes.l.length = m0 c ch + (states c).length := hf.len
  have hfl := fun k : Int => fan_le k
  refine ⟨⟨by rw [hnl]; unfold m0; omega, ?_, by show ([] : List Mm).length ≤ _; simp, by rw [sc_outs h]; simp; omega, ?_, ?_, fun m hm => by cases hm⟩, fun s hs => ((sc_names h).2 s hs).2⟩
  · show (scJ c ch).names.length ≤ _
    rw [hf.nm, h.nms]; simp; omega
  · intro x hx
    obtain ⟨i, hi, rfl⟩ := List.getElem_of_mem hx
    have := (hg i hi).k
    show 0 ≤ (scJ c ch).nodes[i].k ∧ (scJ c ch).nodes[i].k ≤ 255
    omega
  · intro x hx
    obtain ⟨i, hi, rfl⟩ := List.getElem_of_mem hx
    have := (hg i hi).f
    have h3 := hfl ((scJ c ch).nodes[i]'hi).k
    show (scJ c ch).nodes[i].inn.l.length ≤ _
    omega
theorem scOk_ins (h : ScOk c ch) (hp : plainErr c = 0) (cap : Option Nat) (nl : Option Bool) : InsOk c ⟨ch, cap, nl⟩ := by
  have hf := scF h
  have hn2 := h.n2
  have hc := hf.chl
  have hs := hf.stl
  have ho := h.outs
  have hle := elems_le ch fun s hs => (h.ne s hs).1
  have hpl := h.perm.length_eq
  have hnd : (elems ch).Nodup := h.perm.nodup_iff.2 (ofL_nodup [14] c.nodes.l 0).2
  have n1 : ((List.range' 0 c.nodes.l.length).map nameL).Nodup := map_nodup fun i hi j hj e => nameL_inj i (by omega) j (by omega) e
  have hnn : c.names.l.length = c.nodes.l.length := by rw [h.nms]; simp
  refine ⟨h.ok, h.cp, by rw [h.nms]; exact n1, ?_, by show ch.length ≤ _; omega, fun s hs => by have := hle.2 s hs; omega, by omega, by omega, by omega, ?_, ?_, ?_, ?_⟩
  · rw [h.nms]
    intro hm
    obtain ⟨i, _, e⟩ := List.mem_map.1 hm
    simp [nameL, seN] at e
  · refine okCh_ind ch 0 (scS0 c) (c.names.l ++ [seN]) (by simp [scS0]) ?_ (by omega) (by simp [scS0]; omega) (by simp [scS0]; omega) rfl rfl (by simp [scS0]; omega) (by simpa [scS0] using hnd) fun s hs => ⟨(h.ne s hs).1, (h.ne s hs).2, by have := hle.2 s hs; omega⟩
    intro j hj hm
    rw [h.nms] at hm
    rcases List.mem_append.1 hm with hm | hm
    · obtain ⟨i, _, e⟩ := List.mem_map.1 hm
      simp [nameL, siN] at e
    · simp [siN, seN] at hm
  · refine okSt_ind c c.nodes.l.length (scS c ch).bef (states c) 0 ⟨(scS c ch).nodes, (scS c ch).names, []⟩ (scS c ch).names (by simp) ?_ (by omega) ?_ ?_ rfl ?_
    · intro j hj hm
      rw [hf.snm, h.nms] at hm
      rcases List.mem_append.1 hm with hm | hm
      · rcases List.mem_append.1 hm with hm | hm
        · obtain ⟨i, _, e⟩ := List.mem_map.1 hm
          simp [nameL, smN] at e
        · simp [smN, seN] at hm
      · obtain ⟨i, _, e⟩ := List.mem_map.1 hm
        simp [siN, smN] at e
    · show (scS c ch).nodes.length ≤ _
      rw [hf.snl]; unfold m0; omega
    · show (scS c ch).names.length ≤ _
      rw [hf.snm]; simp; omega
    · intro n hn
      have := ofL_in (k := 14) (c := c) n hn
      obtain ⟨v, hv, _⟩ := st_inn h hn
      refine ⟨this.1, this.2.1, ?_, by rw [hv]; simp⟩
      show n < (scS c ch).nodes.length
      rw [hf.snl]; unfold m0; omega
  · intro he
    have he : ch = [] := he
    have : (elems ch).length = 0 := by rw [he]; rfl
    exact List.eq_nil_of_length_eq_zero (by omega)
  · exact check_perm hp (by show ch.length ≤ 64; omega) (fun s hs => (h.ne s hs).1) h.perm
end Go.Lg
namespace Go.Lg
open Go Go.Proofs
variable {c : Cir} {ch : List (Sl Int)}
theorem ofL_congr (ks : List Int) : ∀ (a b : List Nd) (i : Nat), a.map (·.k) = b.map (·.k) → ofL ks a i = ofL ks b i
  | [], [], _, _ => rfl
  | [], _ :: _, _, h => by cases h
  | _ :: _, [], _, h => by cases h
  | x :: a, y :: b, i, h => by
    simp only [List.map_cons, List.cons.injEq] at h
    simp only [ofL, h.1, ofL_congr ks a b (i + 1) h.2]
theorem ofL_rep0 (ks : List Int) (x : Nd) (h : ks.contains x.k = false) : ∀ (m i : Nat), ofL ks (List.replicate m x) i = []
  | 0, _ => rfl
  | m + 1, i => by simp only [List.replicate_succ, ofL, h, ofL_rep0 ks x h m (i + 1)]; rfl
theorem ofL_rep1 (ks : List Int) (x : Nd) (h : ks.contains x.k = true) : ∀ (m i : Nat), ofL ks (List.replicate m x) i = insOf i m
  | 0, _ => rfl
  | m + 1, i => by simp only [List.replicate_succ, ofL, h, if_true, insOf_succ, ofL_rep1 ks x h m (i + 1)]
theorem mapk_getD (l : List Nd) (j : Nat) : (l.map (·.k)).getD j 0 = (l.getD j Nd.d).k := by
  rw [List.getD_eq_getElem?_getD, List.getD_eq_getElem?_getD, List.getElem?_map]
  cases l[j]? <;> rfl
theorem ext_getD0 {a b : List Int} (hl : a.length = b.length) (h : ∀ j, j < a.length → a.getD j 0 = b.getD j 0) : a = b := by
  refine List.ext_getElem hl fun i h1 h2 => ?_
  have := h i h1
  rwa [getD_eq h1, getD_eq h2] at this
def likeL (c : Cir) (ch : List (Sl Int)) : List Nd := c.nodes.l ++ (List.replicate (1 + ch.length) inpN ++ List.replicate (states c).length (muxN 0 0 0))
theorem sc_kinds (h : ScOk c ch) : (scC c ch).nodes.l.map (·.k) = (likeL c ch).map (·.k) := by
  have hf := scF h
  have hlen : (scC c ch).nodes.l.length = m0 c ch + (states c).length := hf.len
  have hll : (likeL c ch).length = m0 c ch + (states c).length := by simp [likeL, m0]; omega
  refine ext_getD0 (by simp [hlen, hll]) fun j hj => ?_
  rw [List.length_map, hlen] at hj
  rw [mapk_getD, mapk_getD]
  show ((scJ c ch).nodes.getD j Nd.d).k = _
  by_cases h1 : j < c.nodes.l.length
  · rw [sc_kind h h1]
    unfold likeL
    rw [List.getD_eq_getElem?_getD (l := c.nodes.l ++ _), List.getElem?_append_left h1, ← List.getD_eq_getElem?_getD]; rfl
  · unfold likeL
    rw [List.getD_eq_getElem?_getD (l := c.nodes.l ++ _), List.getElem?_append_right (by omega)]
    by_cases h2 : j < m0 c ch
    · rw [hf.inp j (by omega) h2, List.getElem?_append_left (by rw [List.length_replicate]; unfold m0 at h2; omega), List.getElem?_replicate, if_pos (by unfold m0 at h2; omega)]; rfl
    · obtain ⟨k, rfl⟩ : ∃ k, j = m0 c ch + k := ⟨j - m0 c ch, by omega⟩
      rw [hf.mx k (by omega), List.getElem?_append_right (by rw [List.length_replicate]; unfold m0 at h2 ⊢; omega), List.getElem?_replicate, if_pos (by rw [List.length_replicate]; unfold m0 at h2 hj ⊢; omega)]; rfl
theorem sc_inputs (h : ScOk c ch) : inputs (scC c ch) = inputs c ++ insOf c.nodes.l.length (1 + ch.length) := by
  show ofL [0] (scC c ch).nodes.l 0 = _
  rw [ofL_congr _ _ _ _ (sc_kinds h), likeL, ofL_app, ofL_app, ofL_rep1 [0] inpN rfl, ofL_rep0 [0] (muxN 0 0 0) rfl, List.append_nil, Nat.zero_add]
  rfl
theorem sc_states (h : ScOk c ch) : states (scC c ch) = states c := by
  show ofL [14] (scC c ch).nodes.l 0 = _
  rw [ofL_congr _ _ _ _ (sc_kinds h), likeL, ofL_app, ofL_app, ofL_rep0 [14] inpN rfl, ofL_rep0 [14] (muxN 0 0 0) rfl, List.append_nil, List.append_nil]
  rfl
theorem insOf_len (n m : Nat) : (insOf n m).length = m := by simp [insOf]
theorem sc_len (h : ScOk c ch) : (scC c ch).nodes.l.length = c.nodes.l.length + 1 + ch.length + (states c).length := (scF h).len
theorem sc_inLen (h : ScOk c ch) {pin v : List Int} {e : Int} (h1 : pin.length = (inputs c).length) (hv : v.length = ch.length) : (pin ++ ([e] ++ v)).length = (inputs (scC c ch)).length := by
  rw [sc_inputs h, List.length_append, List.length_append, List.length_append, insOf_len, h1, hv]; simp
end Go.Lg
namespace Go.Lg
open Go Go.Proofs
variable {Γ : Tables}
structure NOk (c : Cir) : Prop where
  ok : COk c
  lev : levErr c = 0
  mm : c.mems.l = []
  m0 : mems c = []
  n1 : 1 ≤ c.nodes.l.length
  n2 : c.nodes.l.length ≤ 16
  k : ∀ i, i < c.nodes.l.length → 0 ≤ kindAt c i ∧ kindAt c i ≤ 14
theorem NOk_of {x : CD} (hx : CDOk x) (hm : x.mem = false) : NOk (ofC x) := by
  have hl := nodes4_len hx
  have h5 := nodes5_len hx
  have hN : (ofC x).nodes.l = nodes5 x := rfl
  have hp := ofC_plain hx hm
  have hv := ofC_valid hx
  have h1 : (ofC x).mems.l = [] := by simp [ofC, memM, hm]
  have h2 : mems (ofC x) = [] := by
    unfold plainErr at hp
    rw [if_neg (by simp [hv])] at hp
    split at hp
    · cases hp
    · rename_i h; exact List.eq_nil_of_length_eq_zero (by omega)
  refine ⟨ofC_ok hx, hv, h1, h2, by rw [hN]; omega, by rw [hN]; omega, fun i hi => ?_⟩
  have hs := (levErr_zero hv).1
  have hn := (shape_facts hs).2.2.1 _ (List.getElem_mem hi)
  have hk : kindAt (ofC x) i = (ofC x).nodes.l[i].k := by simp [kindAt, hi]
  have hkk := (ofC_ok hx).kind _ (List.getElem_mem hi)
  have h15 : ¬ kindAt (ofC x) i = 15 := fun e => by
    have : (i : Int) ∈ mems (ofC x) := (mem_ofL hi).2 e
    rw [h2] at this; cases this
  have hle : ¬ 15 < (ofC x).nodes.l[i].k := fun h => by
    unfold nodeErr at hn
    rw [if_pos h] at hn; cases hn
  rw [hk] at h15 ⊢
  omega
structure POk (c : Cir) (p : Pat) : Prop where
  i : p.inn.l.length = (inputs c).length
  s : p.st.l.length = (states c).length
  vi : ∀ v ∈ p.inn.l, V4 v
  vs : ∀ v ∈ p.st.l, V4 v
theorem nets_len {c : Cir} {a b : List Int} : (netsL c a b).length = c.nodes.l.length := by unfold netsL; rw [runL_len, loadL_len]
end Go.Lg
namespace Go.Lg
open Go Go.Proofs
variable {c : Cir} {ch : List (Sl Int)}
def slD : Sl Int := ⟨[], none, none⟩
end Go.Lg
namespace Go.Lg
open Go Go.Proofs
theorem dataN_kind {x : CD} {first : Nat} : ∀ {k i : Nat} {ns : List Nd} {q : Nat}, ((dataN x first k i ns).getD q Nd.d).k = (ns.getD q Nd.d).k
  | 0, _, _, _ => rfl
  | k + 1, i, ns, q => by
    simp only [dataN]
    rw [dataN_kind, setIn_kind]
end Go.Lg
namespace Go.Lg
open Go Go.Proofs
theorem gate_k {bus : Bool} {g : Gd} {ns : List Nd} (hg : GdOk g) : (gateN bus g ns).k ≠ 14 := by
  have hk : 0 ≤ g.k := hg.1.1
  have t2 : 0 ≤ g.a.tmod 2 ∧ g.a.tmod 2 < 2 := tmod_lt (n := 2) hg.2.1.1 (by omega)
  have t9 : 0 ≤ g.k.tmod 9 ∧ g.k.tmod 9 < 9 := tmod_lt (n := 9) hk (by omega)
  have t13 : 0 ≤ g.k.tmod 13 ∧ g.k.tmod 13 < 13 := tmod_lt (n := 13) hk (by omega)
  unfold gateN gateT
  obtain ⟨kk, hkk⟩ : ∃ kk, kk = (if bus = true then g.k.tmod 13 else g.k.tmod 9) := ⟨_, rfl⟩
  have hb : 0 ≤ kk ∧ kk < 13 := by rw [hkk]; split <;> omega
  rw [← hkk]
  by_cases h1 : kk < 6
  · simp only [h1, if_true]
    omega
  · simp only [h1, if_false]
    split
    · simp <;> omega
    split
    · simp <;> omega
    split
    · simp <;> omega
    split
    · by_cases h2 : 1 < (triL ns).length
      · simp only [h2, if_true]; simp <;> omega
      · simp only [h2, if_false]; simp <;> omega
    split
    · simp <;> omega
    · simp <;> omega
theorem gates_st {bus : Bool} : ∀ {l : List Gd} {ns : List Nd}, (∀ g ∈ l, GdOk g) → ofL [14] (gatesN bus l ns) 0 = ofL [14] ns 0
  | [], ns, _ => rfl
  | g :: l, ns, h => by
    simp only [gatesN]
    have hk : (gateN bus g ns).k ≠ 14 := gate_k (h g List.mem_cons_self)
    rw [gates_st fun x hx => h x (List.mem_cons_of_mem _ hx), ofL_app]
    simp [ofL, hk]
theorem data_kinds {x : CD} {first k i : Nat} {ns : List Nd} : (dataN x first k i ns).map (·.k) = ns.map (·.k) := by
  refine ext_getD0 (by rw [List.length_map, List.length_map, dataN_len]) fun j hj => ?_
  rw [mapk_getD, mapk_getD, dataN_kind]
theorem ofC_small {x : CD} (hx : CDOk x) (hm : x.mem = false) : (ofC x).nodes.l.length ≤ 14 ∧ (states (ofC x)).length ≤ 2 := by
  have m4 : 0 ≤ x.i.tmod 4 ∧ x.i.tmod 4 < 4 := tmod_lt (n := 4) hx.i.1 (by omega)
  have m3 : 0 ≤ x.f.tmod 3 ∧ x.f.tmod 3 < 3 := tmod_lt (n := 3) hx.f.1 (by omega)
  have l2 : (nodes2 x).length = (x.i.tmod 4 + 1).toNat + (x.f.tmod 3).toNat := by simp [nodes2, nodes1]
  have l3 : nodes3 x = nodes2 x := by unfold nodes3; rw [hm]; rfl
  have l4 : (nodes4 x).length = (nodes3 x).length + min 8 x.gates.l.length := by unfold nodes4; rw [gatesN_len]; simp
  have l5 : (nodes5 x).length = (nodes4 x).length := dataN_len
  refine ⟨?_, ?_⟩
  · show (nodes5 x).length ≤ 14
    rw [l5, l4, l3, l2]; omega
  · have e : states (ofC x) = ofL [14] (nodes2 x) 0 := by
      show ofL [14] (nodes5 x) 0 = _
      rw [ofL_congr [14] (nodes5 x) (nodes4 x) 0 data_kinds]
      unfold nodes4
      rw [gates_st (fun g hg => hx.gates g (List.mem_of_mem_take hg)), l3]
    rw [e]
    unfold nodes2
    rw [ofL_app]
    have e1 : ofL [14] (nodes1 x) 0 = [] := by unfold nodes1; exact ofL_rep0 [14] _ rfl _ _
    rw [e1, ofL_rep1 [14] (dffN 0) rfl]
    simp [insOf]; omega
end Go.Lg
namespace Go.Lg
open Go Go.Proofs
variable {Γ : Tables}
theorem sc_mem0 {c : Cir} {ch : List (Sl Int)} (h : ScOk c ch) (hm : mems c = []) : mems (scC c ch) = [] := by
  show ofL [15] (scC c ch).nodes.l 0 = _
  rw [ofL_congr _ _ _ _ (sc_kinds h), likeL, ofL_app, ofL_app, ofL_rep0 [15] inpN rfl, ofL_rep0 [15] (muxN 0 0 0) rfl, List.append_nil, List.append_nil]
  exact hm
theorem sc_Run (hΓ : GOk Γ) {c : Cir} {ch : List (Sl Int)} (h : ScOk c ch) (hc : NOk c) (hn : (scC c ch).nodes.l.length ≤ 19) (hmm : (scC c ch).mems.l = []) {p : Pat} (hp : POk (scC c ch) p) :
    PureCalls Tryz.prog Γ 15 [.agg (tC (scC c ch)), .agg (tP p)] (.tup [.agg [tVs (outL (scC c ch) (netsL (scC c ch) p.inn.l p.st.l)), tVs (nextsL (scC c ch) (netsL (scC c ch) p.inn.l p.st.l))], .sl (vals (netsL (scC c ch) p.inn.l p.st.l)) (some (scC c ch).nodes.l.length) none, tI 0]) := by
  have hr := Run_spec hΓ (scC c ch) (sc_cok h) hn p ⟨by rw [hp.i]; have := inputs_len (scC c ch); omega, by rw [hp.s]; have := states_len' (scC c ch); omega⟩ ⟨fun v hv => (hp.vi v hv).1, fun v hv => (hp.vs v hv).1⟩
  unfold runRes at hr
  have a1 : ∀ {l : List Int}, (∀ v ∈ l, V4 v) → l.any aboveV = false := fun h => List.any_eq_false.2 fun v hv => by have := (h v hv).2; simp [aboveV]; omega
  have hz : runErr (scC c ch) p = 0 := by
    unfold runErr
    rw [if_neg (by simp [sc_valid h])]
    unfold fitsErr
    rw [if_neg (by rw [hmm, sc_mem0 h hc.m0]; simp), if_neg (by simp [hp.i, hp.s]), a1 hp.vi, a1 hp.vs]
    simp
  rwa [if_pos hz] at hr
end Go.Lg
namespace Go.Lg
open Go Go.Proofs
variable {Γ : Tables}
theorem gE' {α : Type} {f : α → T} {l : List α} {i : Nat} (d : α) (h0 : i < l.length) : ∀ h : i < (enc1 f l).length, (enc1 f l)[i] = [f (l.getD i d)] := fun h => by
  have := enc1_get (f := f) d h0
  rw [List.getElem?_eq_getElem h] at this
  simpa [List.getD_eq_getElem?_getD] using this
theorem gE {α : Type} {f : α → T} {l : List α} {i : Nat} (d : α) (h0 : i < l.length) : (enc1 f l)[i]?.getD [] = [f (l.getD i d)] := by
  rw [List.getElem?_eq_getElem (by rw [enc1_len]; exact h0)]
  exact gE' d h0 _
end Go.Lg
namespace Go.Lg
open Go Go.Proofs
variable {Γ : Tables}
def mpE {α : Type} (f : α → T) (l : List (Int × α)) : List (Value × T) := l.map fun p => (.int .i64 p.1, f p.2)
def mpOf {α : Type} (d : α) (n : Int) : List (Int × α) → α
  | [] => d
  | p :: l => if n = p.1 then p.2 else mpOf d n l
theorem mpE_fit {α : Type} {f : α → T} (l : List (Int × α)) : keysFit (.int .i64) (mpE f l) := by
  intro e he; obtain ⟨s, _, rfl⟩ := List.mem_map.1 he; rfl
theorem mpE_find {α : Type} {f : α → T} (d : α) (n : Int) : ∀ l : List (Int × α), (findM (.int .i64 n) (mpE f l)).getD (f d) = f (mpOf d n l)
  | [] => rfl
  | p :: l => by
    have ih := mpE_find (f := f) d n l
    simp only [mpE, List.map_cons, findM, keyEq, mpOf] at ih ⊢
    by_cases h : n = p.1
    · simp [h]
    · simp [h, ih]
theorem mpE_set {α : Type} {f : α → T} (n : Int) (a : α) : ∀ l : List (Int × α), n ∉ l.map (·.1) → setM (.int .i64 n) (f a) (mpE f l) = mpE f (l ++ [(n, a)])
  | [], _ => rfl
  | p :: l, h => by
    simp only [List.map_cons, List.mem_cons, not_or] at h
    have ih := mpE_set (f := f) n a l h.2
    simp only [mpE, List.map_cons, setM, keyEq, List.cons_append] at ih ⊢
    simp [h.1, ih]
def depL (l : List (Sl Int)) : Nat := l.foldl (fun n s => max n s.l.length) 0
theorem dep_loop {Q : AX → St → Prop} (chs : Sl (Sl Int)) (hl : chs.l.length ≤ 1000000) (hs : ∀ s ∈ chs.l, s.l.length ≤ 1000000) (R : Nat)
    (h0 : Q (.exit 0) ⟨[(3, .t (tI R)), (6, .t (.sl (enc1 tSl chs.l) chs.cap chs.nl)), (7, .t (tI chs.l.length)), (8, .t (tI chs.l.length)), (9, .t (tB false))], []⟩) :
    ∀ (k i n : Nat), k + i = chs.l.length → (chs.l.drop i).foldl (fun n s => max n s.l.length) n = R →
    run Tryz.prog Γ shifts_Depth_l1 Q ⟨[(3, .t (tI n)), (6, .t (.sl (enc1 tSl chs.l) chs.cap chs.nl)), (7, .t (tI chs.l.length)), (8, .t (tI i))], []⟩
  | 0, i, n, h, hR => by
    refine shifts_Depth_l1_run fun K hK => ?_
    rw [List.drop_of_length_le (by omega)] at hR
    have h2 : i = chs.l.length := by omega
    subst h2
    have hR : n = R := hR
    subst hR
    simp
    simpa using h0
  | k + 1, i, n, h, hR => by
    refine shifts_Depth_l1_run fun K hK => ?_
    have h2 : i < chs.l.length := by omega
    rw [List.drop_eq_getElem_cons h2, List.foldl_cons] at hR
    have e := gE (f := tSl) ⟨[], none, none⟩ h2
    have e' := gE' (f := tSl) ⟨[], none, none⟩ h2
    rw [show chs.l.getD i ⟨[], none, none⟩ = chs.l[i] by simp [List.getD_eq_getElem?_getD, h2]] at e e'
    have ih := dep_loop chs hl hs R h0 k (i + 1) _ (by omega) hR
    generalize chs.l[i] = s at *
    simp only [tSl] at e e'
    have w1 : IntKind.i64.wrap ((i : Int) + 1) = (i : Int) + 1 := by rw [wrap_i64] <;> omega
    have hm3 : (if n < s.l.length then (s.l.length : Int) else n) = ((max n s.l.length : Nat) : Int) := by split <;> omega
    have hm : (if (s.l.length : Int) > n then (s.l.length : Int) else n) = ((max n s.l.length : Nat) : Int) := by split <;> omega
    have hm2 : (if (n : Int) < s.l.length then (s.l.length : Int) else n) = ((max n s.l.length : Nat) : Int) := by split <;> omega
    simp [h2, enc1_len, enc1_wid, e, e', w1, hm, hm2, hm3]
    rw [hK]
    simpa using ih
theorem Depth_spec (chs : Sl (Sl Int)) (hl : chs.l.length ≤ 1000000) (hs : ∀ s ∈ chs.l, s.l.length ≤ 1000000) : FreshCalls Tryz.prog Γ 39 [tChs chs] (tI (depL chs.l)) := by
  refine run_freshQ shifts_Depth_chk rfl ?_
  have g := fun Q h0 => dep_loop (Γ := Γ) (Q := Q) chs hl hs (depL chs.l) h0 chs.l.length 0 0 (by omega) (by simp [depL])
  simp [shifts_Depth_ic, tChs, enc1_len]
  refine g _ ?_
  simp [shifts_Depth_rv]
def valsErr (l : List Int) (n : Nat) : Int := if l.length ≠ n then 8 else if l.any aboveV = true then 1 else 0
theorem sval1_spec (v : Int) : FreshCalls Tryz.prog Γ 144 [tK v] (tB (aboveV v)) := by
  refine run_freshQ shifts_values_1_chk rfl ?_
  simp [shifts_values_1_ic, shifts_values_1_rv, aboveV]
theorem values_spec (s : Sl Int) (hs : s.l.length ≤ 1000000000) (n : Nat) : FreshCalls Tryz.prog Γ 101 [tV s, tI n] (tI (valsErr s.l n)) := by
  refine run_freshQ shifts_values_chk rfl ?_
  have e := containsfunc_val (Γ := Γ) s.l s.cap s.nl 144 [] aboveV (fun x _ => sval1_spec x) hs
  unfold valsErr
  by_cases h : s.l.length = n
  · subst h
    simp [shifts_values_ic, tV, enc1_len]
    refine callK_fresh e rfl ?_
    cases h3 : s.l.any aboveV
    · simp [h3, shifts_values_rv]
    · simp [h3, shifts_values_rv]
  · have h' : ¬ (s.l.length : Int) = n := by omega
    simp [shifts_values_ic, tV, enc1_len, h, h', shifts_values_rv]
end Go.Lg
namespace Go.Lg
open Go Go.Proofs
variable {Γ : Tables}
def ofZ (st pst : List Int) : List (Int × Int) := st.zip (pst.map readV)
theorem ofZ_len {st pst : List Int} (h : pst.length = st.length) : (ofZ st pst).length = st.length := by simp [ofZ, h]
theorem ofZ_get {st pst : List Int} (h : pst.length = st.length) {i : Nat} (hi : i < st.length) : (ofZ st pst)[i]'(by rw [ofZ_len h]; exact hi) = (st.getD i 0, readV (pst.getD i 0)) := by
  simp [ofZ, List.getD_eq_getElem?_getD, hi, h]
theorem ofZ_take {st pst : List Int} (h : pst.length = st.length) {i : Nat} (hi : i < st.length) : (ofZ st pst).take (i + 1) = (ofZ st pst).take i ++ [(st.getD i 0, readV (pst.getD i 0))] := by
  rw [← ofZ_get h hi, List.take_append_getElem]
theorem ofZ_not {st pst : List Int} (hd : st.Nodup) {i : Nat} (hi : i < st.length) : st.getD i 0 ∉ ((ofZ st pst).take i).map (·.1) := by
  intro hm
  obtain ⟨p, hp, e⟩ := List.mem_map.1 hm
  obtain ⟨j, hj, rfl⟩ := List.getElem_of_mem hp
  simp only [List.length_take, List.getElem_take, ofZ, List.getElem_zip] at hj e
  rw [getD_eq hi] at e
  have := (List.getElem_inj hd).1 e
  omega
theorem ld_l1 {Q : AX → St → Prop} (chT : T) (st : List Int) (sc : Option Nat) (sn : Option Bool) (hd : st.Nodup) (hst : st.length ≤ 1000000) (ps : Sl Int) (hps : ps.l.length = st.length)
    (h0 : Q (.exit 0) ⟨[(1, .t chT), (2, .t (tV ps)), (7, .lm 17), (19, .t (.sl (ints st) sc sn)), (20, .t (tI st.length)), (21, .t (tI st.length)), (22, .t (tB false))], [(17, .mp (mpE tK (ofZ st ps.l)))]⟩) :
    ∀ (k i : Nat), k + i = st.length →
    run Tryz.prog Γ shifts_loads_l1 Q ⟨[(1, .t chT), (2, .t (tV ps)), (7, .lm 17), (19, .t (.sl (ints st) sc sn)), (20, .t (tI st.length)), (21, .t (tI i))], [(17, .mp (mpE tK ((ofZ st ps.l).take i)))]⟩
  | 0, i, h => by
    refine shifts_loads_l1_run fun K hK => ?_
    have h2 : i = st.length := by omega
    subst h2
    rw [List.take_of_length_le (by rw [ofZ_len hps]; exact Nat.le_refl _)]
    simp
    simpa using h0
  | k + 1, i, h => by
    refine shifts_loads_l1_run fun K hK => ?_
    have h2 : i < st.length := by omega
    have h3 : i < ps.l.length := by omega
    have ih := ld_l1 chT st sc sn hd hst ps hps h0 k (i + 1) (by omega)
    rw [ofZ_take hps h2] at ih
    have hn := ofZ_not (pst := ps.l) hd h2
    have e1 := gE (f := tI) 0 h2
    have e1' := gE' (f := tI) 0 h2
    have e2 := gE (f := tK) 0 h3
    have e2' := gE' (f := tK) 0 h3
    have w1 : IntKind.i64.wrap ((i : Int) + 1) = (i : Int) + 1 := by rw [wrap_i64] <;> omega
    generalize (ofZ st ps.l).take i = Z at *
    generalize st.getD i 0 = x at *
    generalize ps.l.getD i 0 = y at *
    have em := mpE_set (f := tK) x (readV y) Z hn
    have ef := mpE_fit (f := tK) Z
    generalize mpE tK Z = M at *
    simp [tV] at ih
    simp [tV, enc1_len, enc1_wid, h2, h3, e1, e1', e2, e2', w1]
    refine callK_fresh (read_spec y) rfl ?_
    simp [em, ef, KT.fits, w1]
    rw [hK]
    simpa using ih
def loadV (Z : List (Int × Int)) (p : Int) (s : Sl Int) : Int := if p < s.l.length then mpOf 0 (s.l.getD p.toNat 0) Z else 0
def rwAt (f : Sl Int → Int) (l : List (Sl Int)) (k : Nat) : List Int := (l.take k).map f ++ List.replicate (l.length - k) 0
theorem rwAt_len {f : Sl Int → Int} {l : List (Sl Int)} {k : Nat} (hk : k ≤ l.length) : (rwAt f l k).length = l.length := by simp [rwAt]; omega
theorem rwAt_set {f : Sl Int → Int} {l : List (Sl Int)} {k : Nat} (hk : k < l.length) : (rwAt f l k).set k (f l[k]) = rwAt f l (k + 1) := by
  unfold rwAt
  rw [List.set_append_right _ _ (by simp; omega)]
  rw [show k - ((l.take k).map f).length = 0 by simp; omega, show l.length - k = (l.length - (k + 1)) + 1 by omega, List.replicate_succ, List.set_cons_zero, ← List.take_append_getElem hk, List.map_append]
  simp
theorem rwAt_zero {f : Sl Int → Int} {l : List (Sl Int)} {k : Nat} (hk : k < l.length) (h : f l[k] = 0) : rwAt f l (k + 1) = rwAt f l k := by
  unfold rwAt
  rw [show l.length - k = (l.length - (k + 1)) + 1 by omega, List.replicate_succ, ← List.take_append_getElem hk, List.map_append]
  simp [h]
theorem rwAt_all {f : Sl Int → Int} {l : List (Sl Int)} : rwAt f l l.length = l.map f := by simp [rwAt]
theorem rwAt_none {f : Sl Int → Int} {l : List (Sl Int)} : rwAt f l 0 = List.replicate l.length 0 := by simp [rwAt]
theorem ld_l3 {Q : AX → St → Prop} (ch : List (Sl Int)) (cc : Option Nat) (cn : Option Bool) (hch : ch.length ≤ 1000000) (hs : ∀ s ∈ ch, s.l.length ≤ 1000000) (Z : List (Int × Int)) (d t : Nat) (htd : t < d) (hd : d ≤ 1000000) (es : List (List T)) (p : Int) (hp : p = d - 1 - t)
    (h0 : Q (.exit 4) ⟨[(1, .t (.sl (enc1 tSl ch) cc cn)), (7, .lm 17), (10, .t (tI d)), (11, .ls 71 0 t none), (12, .t (tI t)), (13, .ls 42 0 ch.length none), (36, .t (tI d)), (37, .t (tI t)), (43, .t (.sl (enc1 tSl ch) cc cn)), (44, .t (tI ch.length)), (45, .t (tI ch.length)), (46, .t (tB false))],
      [(17, .mp (mpE tK Z)), (42, .sl 68 1 (vals (ch.map (loadV Z p)))), (71, .sl 37 1 es)]⟩) :
    ∀ (n k : Nat), n + k = ch.length →
    run Tryz.prog Γ shifts_loads_l3 Q ⟨[(1, .t (.sl (enc1 tSl ch) cc cn)), (7, .lm 17), (10, .t (tI d)), (11, .ls 71 0 t none), (12, .t (tI t)), (13, .ls 42 0 ch.length none), (36, .t (tI d)), (37, .t (tI t)), (43, .t (.sl (enc1 tSl ch) cc cn)), (44, .t (tI ch.length)), (45, .t (tI k))],
      [(17, .mp (mpE tK Z)), (42, .sl 68 1 (vals (rwAt (loadV Z p) ch k))), (71, .sl 37 1 es)]⟩
  | 0, k, h => by
    refine shifts_loads_l3_run fun K hK => ?_
    have h2 : k = ch.length := by omega
    subst h2
    rw [rwAt_all]
    simp
    simpa using h0
  | n + 1, k, h => by
    refine shifts_loads_l3_run fun K hK => ?_
    have h2 : k < ch.length := by omega
    have ih := ld_l3 ch cc cn hch hs Z d t htd hd es p hp h0 n (k + 1) (by omega)
    have e1 := gE (f := tSl) slD h2
    have e1' := gE' (f := tSl) slD h2
    have hx : ch.getD k slD = ch[k] := by simp [List.getD_eq_getElem?_getD, h2]
    rw [hx] at e1 e1'
    have hsl := hs _ (List.getElem_mem h2)
    have q1 := rwAt_set (f := loadV Z p) h2
    have q2 := rwAt_zero (f := loadV Z p) h2
    have hrl := rwAt_len (f := loadV Z p) (Nat.le_of_lt h2)
    have w1 : IntKind.i64.wrap ((k : Int) + 1) = (k : Int) + 1 := by rw [wrap_i64] <;> omega
    have w2 : IntKind.i64.wrap ((d : Int) - 1) = (d : Int) - 1 := by rw [wrap_i64] <;> omega
    have w3 : IntKind.i64.wrap ((d : Int) - 1 - t) = p := by rw [hp, wrap_i64] <;> omega
    have hp0 : 0 ≤ p := by omega
    generalize rwAt (loadV Z p) ch k = row at *
    generalize rwAt (loadV Z p) ch (k + 1) = row2 at *
    generalize ch[k] = s at *
    have hv : loadV Z p s = if p < s.l.length then mpOf 0 (s.l.getD p.toNat 0) Z else 0 := rfl
    simp only [tSl] at e1 e1'
    by_cases hlt : p < s.l.length
    · have h3 : p.toNat < s.l.length := by omega
      have e2 := gE (f := tI) 0 h3
      have e2' := gE' (f := tI) 0 h3
      rw [if_pos hlt] at hv
      rw [hv] at q1
      have es1 : (vals row).set k [tK (mpOf 0 (s.l.getD p.toNat 0) Z)] = vals row2 := by rw [← q1]; exact enc1_set
      generalize s.l.getD p.toNat 0 = x at *
      have ef := mpE_fit (f := tK) Z
      have em := mpE_find (f := tK) 0 x Z
      generalize mpE tK Z = M at *
      generalize mpOf 0 x Z = y at *
      simp [h2, enc1_len, enc1_wid, e1, e1', e2, e2', w1, w2, w3, hlt, hp0, h3, em, ef, KT.fits, hrl, es1]
      rw [hK]
      simpa using ih
    · rw [if_neg hlt] at hv
      have := q2 hv
      subst this
      simp [h2, enc1_len, enc1_wid, e1, e1', w1, w2, w3, hlt]
      rw [hK]
      simpa using ih
def tRow (l : List Int) : T := .sl (vals l) none none
theorem ld_l5 {Q : AX → St → Prop} (ch : List (Sl Int)) (cc : Option Nat) (cn : Option Bool) (hch : ch.length ≤ 1000000) (hs : ∀ s ∈ ch, s.l.length ≤ 1000000) (Z : List (Int × Int)) (d : Nat) (hd : d ≤ 1000000)
    (h0 : Q (.exit 2) ⟨[(1, .t (.sl (enc1 tSl ch) cc cn)), (7, .lm 17), (10, .t (tI d)), (11, .ls 71 0 d none), (36, .t (tI d)), (37, .t (tI d)), (38, .t (tB false))],
      [(17, .mp (mpE tK Z)), (71, .sl 37 1 (enc1 tRow ((List.range d).map fun t : Nat => ch.map (loadV Z ((d : Int) - 1 - t)))))]⟩) :
    ∀ (k t : Nat), k + t = d →
    run Tryz.prog Γ shifts_loads_l5 Q ⟨[(1, .t (.sl (enc1 tSl ch) cc cn)), (7, .lm 17), (10, .t (tI d)), (11, .ls 71 0 t none), (36, .t (tI d)), (37, .t (tI t))],
      [(17, .mp (mpE tK Z)), (71, .sl 37 1 (enc1 tRow ((List.range t).map fun t : Nat => ch.map (loadV Z ((d : Int) - 1 - t)))))]⟩
  | 0, t, h => by
    refine shifts_loads_l5_run fun K hK => ?_
    have h2 : t = d := by omega
    subst h2
    simp
    simpa using h0
  | k + 1, t, h => by
    refine shifts_loads_l5_run fun K hK => ?_
    have h2 : t < d := by omega
    have ih := ld_l5 ch cc cn hch hs Z d hd h0 k (t + 1) (by omega)
    rw [List.range_succ, List.map_append] at ih
    simp only [List.map_cons, List.map_nil] at ih
    have hel : (enc1 tRow ((List.range t).map fun t : Nat => ch.map (loadV Z ((d : Int) - 1 - t)))).length = t := by rw [enc1_len]; simp
    have g := fun es Q h0 => ld_l3 (Γ := Γ) (Q := Q) ch cc cn hch hs Z d t h2 hd es _ rfl h0 ch.length 0 (by omega)
    rw [rwAt_none] at g
    have hre : vals (List.replicate ch.length 0) = List.replicate ch.length [tK 0] := by simp [enc1]
    rw [hre] at g
    have hel2 := enc1_snoc (f := tRow) (l := (List.range t).map fun t : Nat => ch.map (loadV Z ((d : Int) - 1 - t))) (x := ch.map (loadV Z ((d : Int) - 1 - t)))
    generalize (List.range t).map (fun t : Nat => ch.map (loadV Z ((d : Int) - 1 - t))) = L at *
    have hrl : (ch.map (loadV Z ((d : Int) - 1 - t))).length = ch.length := by simp
    generalize ch.map (loadV Z ((d : Int) - 1 - t)) = row at *
    have w1 : IntKind.i64.wrap ((t : Int) + 1) = (t : Int) + 1 := by rw [wrap_i64] <;> omega
    have htk : (vals row).take ch.length = vals row := by rw [← hrl]; exact vals_take
    have htk2 : (enc1 tRow L).take t = enc1 tRow L := List.take_of_length_le (by omega)
    simp only [tRow] at hel2
    simp [h2, enc1_len]
    refine ⟨by omega, ?_⟩
    refine g _ _ ?_
    simp [St.freeze, Reg.closed, frzRef, frz1, frz0, frzReg, del, reify, htk, htk2, hel, w1, hel2]
    refine ⟨by omega, ?_⟩
    rw [hK]
    simpa [tRow] using ih
def loadsL (ch : List (Sl Int)) (st pst : List Int) : List (List Int) := (List.range (depL ch)).map fun t : Nat => ch.map (loadV (ofZ st pst) ((depL ch : Int) - 1 - t))
theorem clip_vals (es : List (List T)) (cap : Option Nat) (nl : Option Bool) (hw : wid 1 es) : PureCalls Tryz.prog Γ 104 [.sl es cap nl] (.sl es (some es.length) nl) := by
  refine run_pureQ slices_Clip_api_Values_chk rfl ?_
  simp [slices_Clip_api_Values_ic, slices_Clip_api_Values_rv, hw]
theorem depL_le {l : List (Sl Int)} {m : Nat} (h : ∀ s ∈ l, s.l.length ≤ m) : depL l ≤ m := by
  have key : ∀ (l : List (Sl Int)) (n : Nat), n ≤ m → (∀ s ∈ l, s.l.length ≤ m) → l.foldl (fun n s => max n s.l.length) n ≤ m := by
    intro l
    induction l with
    | nil => intro n hn _; exact hn
    | cons s l ih => intro n hn h; exact ih _ (Nat.max_le.2 ⟨hn, h s List.mem_cons_self⟩) fun s hs => h s (List.mem_cons_of_mem _ hs)
  exact key l 0 (by omega) h
theorem loads_spec (c : Cir) (hc : COk c) (hsl : (states c).length ≤ 1000000) (chs : Sl (Sl Int)) (hl : chs.l.length ≤ 1000000) (hs : ∀ s ∈ chs.l, s.l.length ≤ 1000000) (ps : Sl Int) (hps : ps.l.length = (states c).length) :
    PureCalls Tryz.prog Γ 102 [.agg (tC c), tChs chs, tV ps] (.sl (enc1 tRow (loadsL chs.l (states c) ps.l)) (some (loadsL chs.l (states c) ps.l).length) none) := by
  refine run_pureQ shifts_loads_chk rfl ?_
  have e1 := states_spec (Γ := Γ) c hc
  have e2 := Depth_spec (Γ := Γ) chs hl hs
  have hd : (states c).Nodup := (ofL_nodup [14] c.nodes.l 0).2
  have g1 := fun Q sc sn h0 => ld_l1 (Γ := Γ) (Q := Q) (.sl (enc1 tSl chs.l) chs.cap chs.nl) (states c) sc sn hd hsl ps hps h0 (states c).length 0 (by omega)
  have g5 := fun Q h0 => ld_l5 (Γ := Γ) (Q := Q) chs.l chs.cap chs.nl hl hs (ofZ (states c) ps.l) (depL chs.l) (depL_le hs) h0 (depL chs.l) 0 (by omega)
  have hll : (loadsL chs.l (states c) ps.l).length = depL chs.l := by simp [loadsL]
  have hL : (List.range (depL chs.l)).map (fun t : Nat => chs.l.map (loadV (ofZ (states c) ps.l) ((depL chs.l : Int) - 1 - t))) = loadsL chs.l (states c) ps.l := rfl
  rw [hL] at g5
  generalize loadsL chs.l (states c) ps.l = L at *
  generalize states c = st at *
  have e3 := clip_vals (Γ := Γ) (enc1 tRow L) none none enc1_wid
  have htk : (enc1 tRow L).take (depL chs.l) = enc1 tRow L := List.take_of_length_le (by rw [enc1_len]; omega)
  simp [tV, mpE, enc1_nil] at g1 g5
  simp [shifts_loads_ic, tC, tNodes, tNames, tMems, tSl, tChs, tV]
  simp [tC, tNodes, tNames, tMems, tSl, tChs] at e1 e2
  refine callK_pure e1 rfl ?_
  simp [enc1_len]
  refine g1 _ _ _ ?_
  simp
  refine callK_fresh e2 rfl ?_
  simp
  refine g5 _ ?_
  simp [St.freeze, Reg.closed, frzRef, frz1, frz0, frzReg, del, reify, htk]
  refine callK_pure e3 rfl ?_
  simp [shifts_loads_rv, enc1_len]
end Go.Lg
namespace Go.Lg
open Go Go.Proofs
variable {Γ : Tables}
theorem cycle_spec (a b : Sl Int) (e : Int) (ha : a.l.length ≤ 1000000) (hb : b.l.length ≤ 1000000) : PureCalls Tryz.prog Γ 103 [tV a, tK e, tV b] (tVs (a.l ++ ([e] ++ b.l))) := by
  refine run_pureQ shifts_Test_1_chk rfl ?_
  have e1 := concat_spec (Γ := Γ) [a, ⟨[e], some 1, some false⟩, b] (some 3) (some false) (by simp) (by simp; omega) (by simp; omega)
  have hfl : ([a, ⟨[e], some 1, some false⟩, b] : List (Sl Int)).flatMap (·.l) = a.l ++ ([e] ++ b.l) := by simp
  rw [hfl] at e1
  generalize a.l ++ ([e] ++ b.l) = A at *
  have e6 := clip_val (Γ := Γ) (vals A) none none enc1_wid
  have e1' : FreshCalls Tryz.prog Γ 91 [.sl [[.sl (vals a.l) a.cap a.nl], [.sl [[tK e]] (some 1) (some false)], [.sl (vals b.l) b.cap b.nl]] (some 3) (some false)] (.sl (vals A) none none) := e1
  simp [shifts_Test_1_ic, tV]
  refine callK_fresh e1' (by simp) ?_
  simp
  refine callK_pure e6 rfl ?_
  simp [shifts_Test_1_rv, tVs, enc1_len]
structure InsH (Γ : Tables) (c : Cir) (chs : Sl (Sl Int)) (s : Nat → List (List T)) (k : Nat → Option Nat) (n : Nat → Option Bool) (en ce : Int) : Prop where
  ok : COk c
  st : (states c).length ≤ 1000000
  inp : (inputs c).length ≤ 1000000
  chl : chs.l.length ≤ 1000000
  cs : ∀ s ∈ chs.l, s.l.length ≤ 1000000
  call : PureCalls Tryz.prog Γ 29 [.agg (tC c), tChs chs] (.tup [.agg [.sl (s 0) (k 0) (n 0), .sl (s 1) (k 1) (n 1), .sl (s 2) (k 2) (n 2), .sl (s 3) (k 3) (n 3), .sl (s 4) (k 4) (n 4), tI en, .sl (s 6) (k 6) (n 6), .sl (s 7) (k 7) (n 7)], tI ce])
theorem Loads_spec {c : Cir} {chs : Sl (Sl Int)} {s : Nat → List (List T)} {k : Nat → Option Nat} {n : Nat → Option Bool} {en ce : Int} (h : InsH Γ c chs s k n en ce) (ps : Sl Int) (hp : ps.l.length ≤ 1000000) :
    PureCalls Tryz.prog Γ 38 [.agg (tC c), tChs chs, tV ps] (if ce ≠ 0 then .tup [.sl [] (some 0) (some true), tI ce] else if valsErr ps.l (states c).length ≠ 0 then .tup [.sl [] (some 0) (some true), tI (valsErr ps.l (states c).length)] else .tup [.sl (enc1 tRow (loadsL chs.l (states c) ps.l)) (some (loadsL chs.l (states c) ps.l).length) none, tI 0]) := by
  refine run_pureQ shifts_Loads_chk rfl ?_
  have e1 := h.call
  have e2 := states_spec (Γ := Γ) c h.ok
  have e3 := values_spec (Γ := Γ) ps (by omega) (states c).length
  have e4 := fun hq => loads_spec (Γ := Γ) c h.ok h.st chs h.chl h.cs ps hq
  have hv : valsErr ps.l (states c).length = 0 → ps.l.length = (states c).length := fun h => by
    unfold valsErr at h
    split at h
    · cases h
    · rename_i h2; exact Decidable.not_not.1 h2
  generalize loadsL chs.l (states c) ps.l = L at *
  generalize valsErr ps.l (states c).length = ve at *
  generalize states c = st at *
  simp [tC, tNodes, tNames, tMems, tSl, tChs, tV] at e1 e2 e3 e4
  simp [shifts_Loads_ic, tC, tNodes, tNames, tMems, tSl, tChs, tV]
  refine callK_pure e1 rfl ?_
  by_cases hc : ce = 0
  · subst hc
    simp
    refine callK_pure e2 rfl ?_
    simp [enc1_len]
    refine callK_fresh e3 rfl ?_
    by_cases hv0 : ve = 0
    · subst hv0
      simp
      refine callK_pure (e4 (hv rfl)) rfl ?_
      simp [shifts_Loads_rv]
    · simp [hv0, shifts_Loads_rv]
  · simp [hc, shifts_Loads_rv]
def zerosL (n : Nat) : List Int := List.replicate n 0
def testL (ch : List (Sl Int)) (st pin pst : List Int) : List (List Int) :=
  (loadsL ch st pst).map (fun s => zerosL pin.length ++ ([1] ++ s)) ++ ([pin ++ ([0] ++ zerosL ch.length)] ++ List.replicate (depL ch) (zerosL pin.length ++ ([1] ++ zerosL ch.length)))
def stE (chT : T) (p : Sl Int) (s : Sl Int) (i m : Nat) : List (Nat × AV) := [(1, .t chT), (5, .t (.ip [tV p, tV s] 0)), (12, .t (tRow (zerosL i))), (13, .t (tRow (zerosL m))), (14, .t (.fn 103 []))]
theorem st_l1 {Q : AX → St → Prop} (chT : T) (p s : Sl Int) (i m : Nat) (hi : i ≤ 1000000) (L : List (List Int)) (hL : L.length ≤ 1000000) (hLs : ∀ r ∈ L, r.length ≤ 1000000) (R : List (List Int))
    (h0 : Q (.exit 0) ⟨stE chT p s i m ++ [(15, .ls 76 0 L.length none), (64, .t (.sl (enc1 tRow L) (some L.length) none)), (65, .t (tI L.length)), (66, .t (tI L.length)), (67, .t (tB false))], [(76, .sl 37 1 (enc1 tVs R))]⟩) :
    ∀ (k j : Nat) (out : List (List Int)), k + j = L.length → out.length = j → out ++ (L.drop j).map (fun s => zerosL i ++ ([1] ++ s)) = R →
    run Tryz.prog Γ shifts_Test_l1 Q ⟨stE chT p s i m ++ [(15, .ls 76 0 j none), (64, .t (.sl (enc1 tRow L) (some L.length) none)), (65, .t (tI L.length)), (66, .t (tI j))], [(76, .sl 37 1 (enc1 tVs out))]⟩
  | 0, j, out, h, ho, hR => by
    refine shifts_Test_l1_run fun K hK => ?_
    have h2 : j = L.length := by omega
    subst h2
    simp only [List.drop_length, List.map_nil, List.append_nil] at hR
    subst hR
    simp [stE]
    simpa [stE] using h0
  | k + 1, j, out, h, ho, hR => by
    refine shifts_Test_l1_run fun K hK => ?_
    have h2 : j < L.length := by omega
    rw [List.drop_eq_getElem_cons h2, List.map_cons] at hR
    have hr := hLs _ (List.getElem_mem h2)
    have e := gE (f := tRow) [] h2
    have e' := gE' (f := tRow) [] h2
    rw [show L.getD j [] = L[j] by simp [List.getD_eq_getElem?_getD, h2]] at e e'
    generalize L[j] = r at *
    have ih := st_l1 chT p s i m hi L hL hLs R h0 k (j + 1) (out ++ [zerosL i ++ ([1] ++ r)]) (by omega) (by simp [ho]) (by rw [← hR]; simp)
    have e2 := cycle_spec (Γ := Γ) ⟨zerosL i, none, none⟩ ⟨r, none, none⟩ 1 (by simp [zerosL]; exact hi) hr
    have hs := enc1_snoc (f := tVs) (l := out) (x := zerosL i ++ ([1] ++ r))
    generalize zerosL i ++ ([1] ++ r) = row at *
    have htk : (enc1 tVs out).take j = enc1 tVs out := List.take_of_length_le (by rw [enc1_len]; omega)
    have w1 : IntKind.i64.wrap ((j : Int) + 1) = (j : Int) + 1 := by rw [wrap_i64] <;> omega
    simp [stE] at ih
    simp only [tRow] at e e'
    simp only [tV] at e2
    simp [stE, h2, enc1_len, enc1_wid, e, e', tRow]
    refine callK_pure e2 rfl ?_
    simp only [tVs] at hs
    simp [tVs, htk, hs, w1, ho, enc1_len]
    refine ⟨by omega, ?_⟩
    rw [hK]
    simpa [tRow, tVs] using ih
theorem st_l3 {Q : AX → St → Prop} (i m d : Nat) (hi : i ≤ 1000000) (hm : m ≤ 1000000) (hd : d ≤ 1000000) (n0 : Nat) (hn0 : n0 ≤ 1000001) (R : List (List Int)) (row : List Int) (hrow : row = zerosL i ++ ([1] ++ zerosL m))
    (h0 : Q (.exit 2) ⟨[(12, .t (tRow (zerosL i))), (13, .t (tRow (zerosL m))), (14, .t (.fn 103 [])), (15, .ls 76 0 (n0 + d) none), (87, .t (tI d)), (88, .t (tI d)), (89, .t (tB false))], [(76, .sl 37 1 (enc1 tVs R))]⟩) :
    ∀ (k j : Nat) (out : List (List Int)), k + j = d → out.length = n0 + j → out ++ List.replicate k row = R →
    run Tryz.prog Γ shifts_Test_l3 Q ⟨[(12, .t (tRow (zerosL i))), (13, .t (tRow (zerosL m))), (14, .t (.fn 103 [])), (15, .ls 76 0 (n0 + j) none), (87, .t (tI d)), (88, .t (tI j))], [(76, .sl 37 1 (enc1 tVs out))]⟩
  | 0, j, out, h, ho, hR => by
    refine shifts_Test_l3_run fun K hK => ?_
    have h2 : j = d := by omega
    subst h2
    simp only [List.replicate_zero, List.append_nil] at hR
    subst hR
    simp
    simpa using h0
  | k + 1, j, out, h, ho, hR => by
    refine shifts_Test_l3_run fun K hK => ?_
    have h2 : j < d := by omega
    have ih := st_l3 i m d hi hm hd n0 hn0 R row hrow h0 k (j + 1) (out ++ [row]) (by omega) (by simp [ho]; omega) (by rw [← hR, List.replicate_succ]; simp)
    have e2 := cycle_spec (Γ := Γ) ⟨zerosL i, none, none⟩ ⟨zerosL m, none, none⟩ 1 (by simp [zerosL]; exact hi) (by simp [zerosL]; exact hm)
    rw [show (⟨zerosL i, none, none⟩ : Sl Int).l ++ ([1] ++ (⟨zerosL m, none, none⟩ : Sl Int).l) = row from hrow.symm] at e2
    have hs := enc1_snoc (f := tVs) (l := out) (x := row)
    have htk : (enc1 tVs out).take (n0 + j) = enc1 tVs out := List.take_of_length_le (by rw [enc1_len]; omega)
    have w1 : IntKind.i64.wrap ((j : Int) + 1) = (j : Int) + 1 := by rw [wrap_i64] <;> omega
    simp only [tV] at e2
    rw [← Nat.add_assoc] at ih
    simp [h2, tRow]
    refine callK_pure e2 rfl ?_
    simp only [tVs] at hs
    simp [tVs, htk, hs, w1, ho, enc1_len]
    refine ⟨by omega, ?_⟩
    rw [hK]
    simpa [tRow, tVs] using ih
end Go.Lg
namespace Go.Lg
open Go Go.Proofs
variable {Γ : Tables}
def testErr (c : Cir) (p : Pat) : Int := if p.inn.l.length ≠ (inputs c).length ∨ p.st.l.length ≠ (states c).length then 8 else if p.inn.l.any aboveV = true ∨ p.st.l.any aboveV = true then 1 else 0
def testRes (c : Cir) (ch : List (Sl Int)) (p : Pat) (ce : Int) : T :=
  if ce ≠ 0 then .tup [.sl [] (some 0) (some true), tI ce] else if testErr c p ≠ 0 then .tup [.sl [] (some 0) (some true), tI (testErr c p)]
  else .tup [.sl (enc1 tVs (testL ch (states c) p.inn.l p.st.l)) (some (testL ch (states c) p.inn.l p.st.l).length) none, tI 0]
theorem loadsL_row {ch : List (Sl Int)} {st pst : List Int} : ∀ r ∈ loadsL ch st pst, r.length = ch.length := by
  intro r hr
  obtain ⟨t, _, rfl⟩ := List.mem_map.1 hr
  simp
theorem loadsL_len {ch : List (Sl Int)} {st pst : List Int} : (loadsL ch st pst).length = depL ch := by simp [loadsL]
set_option maxHeartbeats 1000000 in
theorem Test_spec {c : Cir} {chs : Sl (Sl Int)} {s : Nat → List (List T)} {k : Nat → Option Nat} {n : Nat → Option Bool} {en ce : Int} (h : InsH Γ c chs s k n en ce) (p : Pat) (hp : p.inn.l.length ≤ 1000000 ∧ p.st.l.length ≤ 1000000) :
    PureCalls Tryz.prog Γ 42 [.agg (tC c), tChs chs, .agg (tP p)] (testRes c chs.l p ce) := by
  refine run_pureQ shifts_Test_chk rfl ?_
  have e1 := h.call
  have e2 := inputs_spec (Γ := Γ) c h.ok
  have e3 := states_spec (Γ := Γ) c h.ok
  have e4 := values_spec (Γ := Γ) p.inn (by omega) p.inn.l.length
  have e5 := values_spec (Γ := Γ) p.st (by omega) p.st.l.length
  have e6 := fun hq => loads_spec (Γ := Γ) c h.ok h.st chs h.chl h.cs p.st hq
  have e7 := Depth_spec (Γ := Γ) chs h.chl h.cs
  have e8 := cycle_spec (Γ := Γ) p.inn ⟨zerosL chs.l.length, none, none⟩ 0 hp.1 (by simp [zerosL]; exact h.chl)
  have hdl : depL chs.l ≤ 1000000 := depL_le h.cs
  have hi := h.inp
  have hs := h.st
  have hc := h.chl
  have v4 : valsErr p.inn.l p.inn.l.length = if p.inn.l.any aboveV = true then 1 else 0 := by unfold valsErr; rw [if_neg (by simp)]
  have v5 : valsErr p.st.l p.st.l.length = if p.st.l.any aboveV = true then 1 else 0 := by unfold valsErr; rw [if_neg (by simp)]
  rw [v4] at e4
  rw [v5] at e5
  unfold testRes testErr testL
  generalize p.inn.l.any aboveV = A at *
  generalize p.st.l.any aboveV = B at *
  have hLs := loadsL_row (ch := chs.l) (st := states c) (pst := p.st.l)
  have hLl := loadsL_len (ch := chs.l) (st := states c) (pst := p.st.l)
  generalize loadsL chs.l (states c) p.st.l = L at *
  have g1 := fun Q h0 => st_l1 (Γ := Γ) (Q := Q) (.sl (enc1 tSl chs.l) chs.cap chs.nl) p.inn p.st p.inn.l.length chs.l.length hp.1 L (by omega) (fun r hr => by rw [hLs r hr]; exact hc) (L.map fun s => zerosL p.inn.l.length ++ ([1] ++ s)) h0 L.length 0 [] (by omega) rfl (by simp)
  have g3 := fun Q R h0 out ho hR => st_l3 (Γ := Γ) (Q := Q) p.inn.l.length chs.l.length (depL chs.l) hp.1 hc hdl (L.length + 1) (by omega) R _ rfl h0 (depL chs.l) 0 out (by omega) ho hR
  have hz1 : vals (zerosL p.inn.l.length) = List.replicate p.inn.l.length [tK 0] := by simp [zerosL, enc1]
  have hz2 : vals (zerosL chs.l.length) = List.replicate chs.l.length [tK 0] := by simp [zerosL, enc1]
  have hcyc : [p.inn.l ++ ([0] ++ zerosL chs.l.length)] = [p.inn.l ++ ([0] ++ (⟨zerosL chs.l.length, none, none⟩ : Sl Int).l)] := rfl
  rw [hcyc]
  have hsn := enc1_snoc (f := tVs) (l := L.map fun s => zerosL p.inn.l.length ++ ([1] ++ s)) (x := p.inn.l ++ ([0] ++ (⟨zerosL chs.l.length, none, none⟩ : Sl Int).l))
  have hml : (L.map fun s => zerosL p.inn.l.length ++ ([1] ++ s)).length = L.length := by simp
  generalize (p.inn.l ++ ([0] ++ (⟨zerosL chs.l.length, none, none⟩ : Sl Int).l)) = row at *
  generalize (L.map fun s => zerosL p.inn.l.length ++ ([1] ++ s)) = M at *
  have htk : (enc1 tVs M).take L.length = enc1 tVs M := List.take_of_length_le (by rw [enc1_len]; omega)
  have g3' := fun Q h0 => g3 Q (M ++ ([row] ++ List.replicate (depL chs.l) (zerosL p.inn.l.length ++ ([1] ++ zerosL chs.l.length)))) h0 (M ++ [row]) (by simp [hml]) (by simp)
  have hRl : (M ++ ([row] ++ List.replicate (depL chs.l) (zerosL p.inn.l.length ++ ([1] ++ zerosL chs.l.length)))).length = L.length + 1 + depL chs.l := by simp [hml]; omega
  generalize (M ++ ([row] ++ List.replicate (depL chs.l) (zerosL p.inn.l.length ++ ([1] ++ zerosL chs.l.length)))) = R at *
  have e9 := clip_vals (Γ := Γ) (enc1 tVs R) none none enc1_wid
  have htR : (enc1 tVs R).take (L.length + 1 + depL chs.l) = enc1 tVs R := List.take_of_length_le (by rw [enc1_len]; omega)
  simp [tC, tNodes, tNames, tMems, tSl, tChs, tV] at e1 e2 e3 e4 e5 e6 e7 e8
  simp [stE, tRow, hz1, hz2, tV, enc1_nil] at g1
  simp [tRow, hz1, hz2] at g3'
  simp [hz2] at e8
  simp only [tVs] at hsn
  simp [shifts_Test_ic, tC, tNodes, tNames, tMems, tSl, tChs, tP, tV]
  refine callK_pure e1 rfl ?_
  by_cases hce : ce = 0
  case neg => simp [hce, shifts_Test_rv]
  subst hce
  simp
  refine callK_pure e2 rfl ?_
  simp
  refine callK_pure e3 rfl ?_
  by_cases hl : p.inn.l.length = (inputs c).length
  case neg =>
    have hl' : ¬ (p.inn.l.length : Int) = (inputs c).length := by omega
    simp [enc1_len, hl, hl', shifts_Test_rv]
  by_cases hm : p.st.l.length = (states c).length
  case neg =>
    have hm' : ¬ (p.st.l.length : Int) = (states c).length := by omega
    simp [enc1_len, hl, hm, hm', shifts_Test_rv]
  simp [enc1_len, ← hl, ← hm]
  refine callK_fresh e4 rfl ?_
  simp
  refine callK_fresh e5 rfl ?_
  cases A
  case true => cases B <;> simp [shifts_Test_rv, hl, hm]
  cases B
  case true => simp [shifts_Test_rv, hl, hm]
  simp [St.freeze, Reg.closed, frzRef, frz1, frz0, frzReg, del, reify, enc1_len]
  refine ⟨by omega, by omega, ?_⟩
  refine callK_pure (e6 hm) rfl ?_
  simp [enc1_len]
  refine g1 _ ?_
  simp
  refine callK_pure e8 rfl ?_
  simp [tVs, htk, hsn, enc1_len, hml]
  refine ⟨by omega, ?_⟩
  refine callK_fresh e7 rfl ?_
  simp
  refine g3' _ ?_
  simp [St.freeze, Reg.closed, frzRef, frz1, frz0, frzReg, del, reify, htR]
  refine callK_pure e9 rfl ?_
  simp [shifts_Test_rv, enc1_len, hl, hm]
end Go.Lg
namespace Go.Lg
open Go Go.Proofs
variable {Γ : Tables}
theorem insH_ok (hΓ : GOk Γ) {c : Cir} {chs : Sl (Sl Int)} (h : InsOk c chs) (hi : (inputs c).length ≤ 1000000) (hs : ∀ s ∈ chs.l, s.l.length ≤ 1000000) : ∃ s k n en, InsH Γ c chs s k n en 0 ∧ (s 3).length = (scC c chs.l).outs.l.length := by
  have e := Insert_spec (Γ := Γ) hΓ c chs h
  simp only [tScan] at e
  generalize hD : scC c chs.l = D at e
  refine ⟨fun j => match j with | 0 => encN tNd D.nodes.l | 1 => enc1 tS D.names.l | 2 => encN tMm D.mems.l | 3 => ints D.outs.l | 4 => enc1 tSl (scS c chs.l).cl | 6 => ints (scS c chs.l).ins | _ => ints (scJ c chs.l).muxes,
    fun j => match j with | 0 => D.nodes.cap | 1 => D.names.cap | 2 => D.mems.cap | 3 => D.outs.cap | 4 => some (scS c chs.l).cl.length | 6 => some (scS c chs.l).ins.length | _ => some (scJ c chs.l).muxes.length,
    fun j => match j with | 0 => D.nodes.nl | 1 => D.names.nl | 2 => D.mems.nl | 3 => D.outs.nl | _ => none, c.nodes.l.length, ⟨h.ok, by have := h.s100; omega, hi, by have := h.len; omega, hs, ?_⟩, enc1_len⟩
  have e2 := e
  simp only [tC, tNodes, tNames, tMems, tSl, List.cons_append, List.nil_append] at e2
  simpa only [tC, tNodes, tNames, tMems, tSl] using e2
def rw35N (i : Nat) : Nd := if i = 0 then ⟨0, ⟨[], some 0, some true⟩, 0, 0⟩ else ⟨14, ⟨[0], some 1, some false⟩, 0, 0⟩
def rw35 : Cir := ⟨⟨[rw35N 0, rw35N 1, rw35N 2, rw35N 3], some 4, some false⟩, ⟨[[97], [102], [103], [104]], some 4, some false⟩, ⟨[], some 0, some true⟩, ⟨[0], some 1, some false⟩⟩
def rw35C : Sl (Sl Int) := ⟨[⟨[1, 2], some 2, some false⟩, ⟨[3], some 1, some false⟩], some 2, some false⟩
theorem row35_spec : PureCalls Tryz.prog Γ 98 [] (.agg (tC rw35)) := by
  refine run_pureQ law35_row_chk rfl ?_
  simp [law35_row_ic, law35_row_rv, tC, tNodes, tNames, tMems, tSl, rw35, rw35N, encN, enc1, tNd, sV, tS]
theorem rw35_ok : COk rw35 := ⟨⟨by decide, by decide, by decide, by decide, by decide, by decide, by decide⟩, by decide⟩
theorem rw35_ins : InsOk rw35 rw35C := by
  refine ⟨rw35_ok, ⟨by decide, by decide, by decide, by decide, by decide, by decide, rfl, ?_, ?_⟩, by decide, by decide, by decide, by decide, by decide, by decide, by decide, ?_, ?_, by decide, by decide +kernel⟩
  · intro x hx
    simp [rw35] at hx
    rcases hx with rfl | rfl | rfl | rfl <;> exact ⟨by decide, by decide, by decide⟩
  · exact ⟨by decide, by decide, by decide⟩
  · refine ⟨⟨⟨by decide, by decide, by decide, by decide, by decide⟩, by decide, by decide, by decide, by decide, by decide, by decide, by decide⟩, ⟨⟨by decide, by decide, by decide, by decide, by decide⟩, by decide, by decide, by decide, by decide, by decide, by decide, by decide⟩, trivial⟩
  · refine ⟨⟨by decide, by decide, by decide, by decide, by decide, by decide, by decide, by decide, by decide⟩, ⟨by decide, by decide, by decide, by decide, by decide, by decide, by decide, by decide, by decide⟩, ⟨by decide, by decide, by decide, by decide, by decide, by decide, by decide, by decide, by decide⟩, trivial⟩
theorem lives35_spec (hΓ : GOk Γ) : PureCalls Tryz.prog Γ 34 [] (tB true) := by
  refine run_pureQ law35_lives_chk rfl ?_
  obtain ⟨s, k, n, en, hI, _⟩ := insH_ok (Γ := Γ) hΓ rw35_ins (by decide) (by decide)
  have e1 := Loads_spec hI ⟨[0, 1, 1], some 3, some false⟩ (by decide)
  have e2 := Test_spec hI ⟨⟨[1], some 1, some false⟩, ⟨[0, 1, 1], some 3, some false⟩⟩ (by decide)
  have q1 : valsErr [0, 1, 1] (states rw35).length = 0 := by decide
  have q2 : loadsL rw35C.l (states rw35) [0, 1, 1] = [[1, 0], [0, 1]] := by decide
  have q3 : testErr rw35 ⟨⟨[1], some 1, some false⟩, ⟨[0, 1, 1], some 3, some false⟩⟩ = 0 := by decide
  have q4 : (testL rw35C.l (states rw35) [1] [0, 1, 1]).length = 5 := by decide
  unfold testRes at e2
  simp only [q1, q2, q3] at e1 e2
  generalize testL rw35C.l (states rw35) [1] [0, 1, 1] = L at *
  have r := row35_spec (Γ := Γ)
  generalize tC rw35 = R at *
  simp [tChs, rw35C, enc1, tSl, tV, tP, tRow, q4] at e1 e2
  simp [law35_lives_ic]
  refine callK_pure r rfl ?_
  simp
  refine callK_pure e1 rfl ?_
  simp
  refine callK_pure r rfl ?_
  simp
  refine callK_pure e2 rfl ?_
  simp [wid, q4]
  simp [law35_lives_rv, wid]
end Go.Lg
namespace Go.Lg
open Go Go.Proofs
variable {Γ : Tables}
structure Rsp where
  out : Sl Int
  next : Sl Int
def tRsp (r : Rsp) : List T := [tV r.out, tV r.next]
def rspD : Rsp := ⟨⟨[], none, none⟩, ⟨[], none, none⟩⟩
theorem tRsp_wid {l : List Rsp} : wid 2 (encN tRsp l) := encN_wid fun _ => rfl
theorem gR {l : List Rsp} {i : Nat} (h : i < l.length) : (encN tRsp l)[i]?.getD [] = tRsp (l.getD i rspD) := by
  rw [encN_get rspD h]; rfl
theorem gR' {l : List Rsp} {i : Nat} (h0 : i < l.length) : ∀ h : i < (encN tRsp l).length, (encN tRsp l)[i] = tRsp (l.getD i rspD) := fun h => by rw [← gR h0]; simp [h]
theorem indexfunc_rsp_loop {Q : AX → St → Prop} (l : List Rsp) (c : Option Nat) (nl : Option Bool) (f : FuncId) (cs : List T) (p : Rsp → Bool) (hp : ∀ x ∈ l, FreshCalls Tryz.prog Γ f (.agg (tRsp x) :: cs) (tB (p x))) (hl : l.length ≤ 1000000000)
    (h0 : (∀ x ∈ l, p x = false) → Q (.exit 0) ⟨[(0, .t (.sl (encN tRsp l) c nl)), (1, .t (.fn f cs)), (7, .t (tI l.length)), (8, .t (tI l.length)), (9, .t (tB false))], []⟩)
    (h1 : ∀ i : Nat, l.findIdx? p = some i → Q .ret ⟨[(4, .t (tI i))], []⟩) : ∀ (k i : Nat), k + i = l.length → (∀ j, j < i → ∀ y, l[j]? = some y → p y = false) →
    run Tryz.prog Γ slices_IndexFunc_api_Response_l1 Q ⟨[(0, .t (.sl (encN tRsp l) c nl)), (1, .t (.fn f cs)), (7, .t (tI l.length)), (8, .t (tI i))], []⟩
  | 0, i, h, hq => by
    refine slices_IndexFunc_api_Response_l1_run fun K hK => ?_
    have h3 : i = l.length := by omega
    subst h3
    simp
    refine h0 fun y hy => ?_
    obtain ⟨j, hj, rfl⟩ := List.getElem_of_mem hy
    exact hq j (by omega) _ (List.getElem?_eq_getElem hj)
  | k + 1, i, h, hq => by
    refine slices_IndexFunc_api_Response_l1_run fun K hK => ?_
    have h2 : i < l.length := by omega
    have e := gR h2
    have e' := gR' h2
    have hx : l.getD i rspD = l[i] := by simp [List.getD_eq_getElem?_getD, h2]
    rw [hx] at e e'
    have hc := hp l[i] (List.getElem_mem h2)
    have w1 : IntKind.i64.wrap ((i : Int) + 1) = (i : Int) + 1 := by rw [wrap_i64] <;> omega
    cases hpx : p l[i] with
    | true =>
      have hf := findIdx_at hq l[i] (List.getElem?_eq_getElem h2) hpx
      have := h1 i hf
      rw [hpx] at hc
      generalize l[i] = x at *
      simp only [tRsp] at e e' hc
      simp [encN_len, tRsp_wid, h2, e, e']
      refine callK_clos hc ?_
      simpa using this
    | false =>
      have ih := indexfunc_rsp_loop l c nl f cs p hp hl h0 h1 k (i + 1) (by omega) (fun j hj y hy => by
        rcases Nat.lt_succ_iff_lt_or_eq.1 hj with hj | rfl
        · exact hq j hj y hy
        · rw [List.getElem?_eq_getElem h2] at hy; simp at hy; subst hy; exact hpx)
      rw [hpx] at hc
      generalize l[i] = x at *
      simp only [tRsp] at e e' hc
      simp [encN_len, tRsp_wid, h2, e, e']
      refine callK_clos hc ?_
      simp [w1]
      rw [hK]
      simpa using ih
theorem containsfunc_rsp (l : List Rsp) (c : Option Nat) (nl : Option Bool) (f : FuncId) (cs : List T) (p : Rsp → Bool) (hp : ∀ x ∈ l, FreshCalls Tryz.prog Γ f (.agg (tRsp x) :: cs) (tB (p x))) (hl : l.length ≤ 1000000000) : FreshCalls Tryz.prog Γ 105 [.sl (encN tRsp l) c nl, .fn f cs] (tB (l.any p)) := by
  have hi : FreshCalls Tryz.prog Γ 145 [.sl (encN tRsp l) c nl, .fn f cs] (tI (idxP p l)) := by
    refine run_freshQ slices_IndexFunc_api_Response_chk rfl ?_
    simp [slices_IndexFunc_api_Response_ic, encN_len]
    refine indexfunc_rsp_loop l c nl f cs p hp hl (fun h => ?_) (fun i h => ?_) l.length 0 (by omega) (by simp)
    · have : l.findIdx? p = none := List.findIdx?_eq_none_iff.2 h
      simp [slices_IndexFunc_api_Response_rv, idxP, this]
    · simp [slices_IndexFunc_api_Response_rv, idxP, h]
  refine run_freshQ slices_ContainsFunc_api_Response_chk rfl ?_
  simp [slices_ContainsFunc_api_Response_ic]
  refine callK_fresh hi rfl ?_
  simp [slices_ContainsFunc_api_Response_rv]
  unfold idxP
  cases h : l.findIdx? p with
  | none =>
    rw [List.findIdx?_eq_none_iff] at h
    have : l.any p = false := by rw [List.any_eq_false]; intro x hx; simp [h x hx]
    simp [this]
  | some i =>
    rw [List.findIdx?_eq_some_iff_getElem] at h
    obtain ⟨hi, h1, _⟩ := h
    have : l.any p = true := List.any_eq_true.2 ⟨_, List.getElem_mem hi, h1⟩
    simp [this]
theorem col1_spec (r : Rsp) (a0 a1 a2 a4 a5 a6 a7 : T) (s : List (List T)) (k : Option Nat) (n : Option Bool) : FreshCalls Tryz.prog Γ 106 [.agg (tRsp r), .ip [a0, a1, a2, .sl s k n, a4, a5, a6, a7] 0] (tB (decide (r.out.l.length ≠ s.length))) := by
  refine run_freshQ shifts_Collect_1_chk rfl ?_
  by_cases h : r.out.l.length = s.length
  · have h' : (r.out.l.length : Int) = s.length := by omega
    simp [shifts_Collect_1_ic, shifts_Collect_1_rv, tRsp, tV, enc1_len, h, h']
  · have h' : ¬ (r.out.l.length : Int) = s.length := by omega
    simp [shifts_Collect_1_ic, shifts_Collect_1_rv, tRsp, tV, enc1_len, h, h']
def colC (R : List Rsp) (d o k : Nat) (s : List Int) : List (Int × Int) := (List.range s.length).map fun t => (s.getD (s.length - 1 - t) 0, (R.getD (d + 1 + t) rspD).out.l.getD (o + k) 0)
def colM (R : List Rsp) (d o : Nat) : Nat → List (Sl Int) → List (Int × Int)
  | _, [] => []
  | k, s :: l => colC R d o k s.l ++ colM R d o (k + 1) l
theorem colC_len {R : List Rsp} {d o k : Nat} {s : List Int} : (colC R d o k s).length = s.length := by simp [colC]
theorem colC_key {R : List Rsp} {d o k : Nat} {s : List Int} : (colC R d o k s).map (·.1) = s.reverse := by
  refine List.ext_getElem (by simp [colC]) fun i h1 h2 => ?_
  simp [colC] at h1 h2 ⊢
  rw [List.getElem?_eq_getElem (by omega)]; rfl
theorem colC_take {R : List Rsp} {d o k t : Nat} {s : List Int} (h : t < s.length) : (colC R d o k s).take (t + 1) = (colC R d o k s).take t ++ [(s.getD (s.length - 1 - t) 0, (R.getD (d + 1 + t) rspD).out.l.getD (o + k) 0)] := by
  rw [← List.take_append_getElem (by rw [colC_len]; exact h)]
  simp [colC]
theorem colC_not {R : List Rsp} {d o k t : Nat} {s : List Int} (hd : s.Nodup) (h : t < s.length) : s.getD (s.length - 1 - t) 0 ∉ ((colC R d o k s).take t).map (·.1) := by
  rw [List.map_take, colC_key]
  intro hm
  obtain ⟨j, hj, e⟩ := List.getElem_of_mem hm
  simp only [List.length_take, List.length_reverse] at hj
  rw [List.getElem_take, List.getElem_reverse, getD_eq (by omega)] at e
  have := (List.getElem_inj hd).1 e
  omega
theorem col_l1 {Q : AX → St → Prop} (R : List Rsp) (rc : Option Nat) (rn : Option Bool) (d o k n i : Nat) (t3 chT : T) (s : Sl Int) (Z : List (Int × Int)) (hd : d ≤ 1000000) (ho : o + k ≤ 1000000) (hR : R.length = 2 * d + 1) (hs : s.l.length ≤ d) (hnd : s.l.Nodup) (hZ : ∀ x ∈ s.l, x ∉ Z.map (·.1))
    (hO : ∀ j, j < R.length → o + k < (R.getD j rspD).out.l.length)
    (h0 : Q (.exit 2) ⟨[(2, .t (.sl (encN tRsp R) rc rn)), (3, .t t3), (6, .lp 6 0 0), (10, .t (tI d)), (11, .t (tI o)), (12, .lm 46), (13, .t (tI k)), (14, .t (tSl s)), (47, .t chT), (48, .t (tI n)), (49, .t (tI i)), (55, .t (tI s.l.length)), (56, .t (tI s.l.length)), (57, .t (tB false))],
      [(6, .bx [.t (.sl [] (some 0) (some true)), .t (.sl [] (some 0) (some true))]), (46, .mp (mpE tK (Z ++ colC R d o k s.l)))]⟩) :
    ∀ (m t : Nat), m + t = s.l.length →
    run Tryz.prog Γ shifts_Collect_l1 Q ⟨[(2, .t (.sl (encN tRsp R) rc rn)), (3, .t t3), (6, .lp 6 0 0), (10, .t (tI d)), (11, .t (tI o)), (12, .lm 46), (13, .t (tI k)), (14, .t (tSl s)), (47, .t chT), (48, .t (tI n)), (49, .t (tI i)), (55, .t (tI s.l.length)), (56, .t (tI t))],
      [(6, .bx [.t (.sl [] (some 0) (some true)), .t (.sl [] (some 0) (some true))]), (46, .mp (mpE tK (Z ++ (colC R d o k s.l).take t)))]⟩
  | 0, t, h => by
    refine shifts_Collect_l1_run fun K hK => ?_
    have h2 : t = s.l.length := by omega
    subst h2
    rw [List.take_of_length_le (by rw [colC_len]; exact Nat.le_refl _)]
    simp
    simpa using h0
  | m + 1, t, h => by
    refine shifts_Collect_l1_run fun K hK => ?_
    have h2 : t < s.l.length := by omega
    have h3 : s.l.length - 1 - t < s.l.length := by omega
    have h4 : d + 1 + t < R.length := by omega
    have h5 := hO _ h4
    have ih := col_l1 R rc rn d o k n i t3 chT s Z hd ho hR hs hnd hZ hO h0 m (t + 1) (by omega)
    rw [colC_take h2, ← List.append_assoc] at ih
    have hk : s.l.getD (s.l.length - 1 - t) 0 ∉ (Z ++ (colC R d o k s.l).take t).map (·.1) := by
      rw [List.map_append, List.mem_append, not_or]
      refine ⟨hZ _ ?_, colC_not hnd h2⟩
      rw [getD_eq h3]; exact List.getElem_mem _
    have e1 := gE (f := tI) 0 h3
    have e1' := gE' (f := tI) 0 h3
    have e2 := gR h4
    have e2' := gR' h4
    have e3 := gE (f := tK) 0 h5
    have e3' := gE' (f := tK) 0 h5
    have w1 : IntKind.i64.wrap ((t : Int) + 1) = (t : Int) + 1 := by rw [wrap_i64] <;> omega
    have w2 : IntKind.i64.wrap ((s.l.length : Int) - 1) = (s.l.length : Int) - 1 := by rw [wrap_i64] <;> omega
    have w3 : IntKind.i64.wrap ((s.l.length : Int) - 1 - t) = ((s.l.length - 1 - t : Nat) : Int) := by rw [wrap_i64] <;> omega
    have w4 : IntKind.i64.wrap ((d : Int) + 1) = (d : Int) + 1 := by rw [wrap_i64] <;> omega
    have w5 : IntKind.i64.wrap ((d : Int) + 1 + t) = ((d + 1 + t : Nat) : Int) := by rw [wrap_i64] <;> omega
    have w6 : IntKind.i64.wrap ((o : Int) + k) = ((o + k : Nat) : Int) := by rw [wrap_i64] <;> omega
    generalize Z ++ (colC R d o k s.l).take t = Y at *
    generalize R.getD (d + 1 + t) rspD = r at *
    generalize s.l.getD (s.l.length - 1 - t) 0 = x at *
    generalize r.out.l.getD (o + k) 0 = v at *
    have em := mpE_set (f := tK) x v Y hk
    have ef := mpE_fit (f := tK) Y
    generalize mpE tK Y = M at *
    simp [tSl] at ih
    simp only [tRsp, tV] at e2 e2'
    simp [tSl, h2, h3, h4, h5, enc1_len, enc1_wid, encN_len, tRsp_wid, e1, e1', e2, e2', e3, e3', w1, w2, w3, w4, w5, w6, em, ef, KT.fits, -Int.natCast_add]
    rw [hK]
    simpa using ih
end Go.Lg
namespace Go.Lg
open Go Go.Proofs
variable {Γ : Tables}
structure RunH (Γ : Tables) (c : Cir) : Prop where
  st : (states c).length ≤ 1000000
  run : ∀ p : Pat, POk c p → PureCalls Tryz.prog Γ 15 [.agg (tC c), .agg (tP p)] (.tup [.agg [tVs (outL c (netsL c p.inn.l p.st.l)), tVs (nextsL c (netsL c p.inn.l p.st.l))], .sl (vals (netsL c p.inn.l p.st.l)) (some c.nodes.l.length) none, tI 0])
theorem next_4 {c : Cir} {N : List Int} {n : Int} (h : ∀ v ∈ N, 0 ≤ v) : V4 (nextL c N n) := by
  unfold nextL
  split
  · have hv : 0 ≤ valueL N ((innAt c n.toNat).getD 0 0) := by
      unfold valueL
      split
      · decide
      · rename_i hh
        unfold cleanV
        split
        · decide
        · have : ((innAt c n.toNat).getD 0 0).toNat < N.length := by omega
          rw [getD_eq this]
          exact h _ (List.getElem_mem _)
    unfold readV V4
    split <;> omega
  · simp [V4]
theorem nexts_4 {c : Cir} {N : List Int} (h : ∀ v ∈ N, 0 ≤ v) : ∀ v ∈ nextsL c N, V4 v := by
  intro v hv
  obtain ⟨n, _, rfl⟩ := List.mem_map.1 hv
  exact next_4 h
theorem nexts_len {c : Cir} {N : List Int} : (nextsL c N).length = (states c).length := by simp [nextsL]
def rspOf (c : Cir) (i st : List Int) : Rsp := ⟨⟨outL c (netsL c i st), some (outL c (netsL c i st)).length, none⟩, ⟨nextsL c (netsL c i st), some (nextsL c (netsL c i st)).length, none⟩⟩
def playR (c : Cir) : List Int → List (List Int) → List Rsp
  | _, [] => []
  | st, i :: l => rspOf c i st :: playR c (nextsL c (netsL c i st)) l
def playE (c : Cir) : List Int → List (List Int) → List Int
  | st, [] => st
  | st, i :: l => playE c (nextsL c (netsL c i st)) l
theorem playR_len {c : Cir} : ∀ {l : List (List Int)} {st : List Int}, (playR c st l).length = l.length
  | [], _ => rfl
  | i :: l, st => by simp [playR, playR_len]
theorem nets_4' {c : Cir} (h : levErr c = 0) {p : Pat} (hp : POk c p) : ∀ v ∈ netsL c p.inn.l p.st.l, V4 v := by
  have hf := nets_fix h p.inn.l p.st.l
  have key := lev_ind h (Q := fun i => V4 ((netsL c p.inn.l p.st.l).getD i 0)) fun i hi hcb => by
    rw [hf.2 i hi]
    split
    · rename_i h
      refine evalL_4 fun v hv => ?_
      obtain ⟨q, hq, rfl⟩ := List.mem_map.1 hv
      exact (hcb h q hq).2
    · rw [load_at hp.i hp.s hi]
      split
      · exact getD_4 hp.vi _
      split
      · exact getD_4 hp.vs _
      · simp [V4]
  intro v hv
  obtain ⟨i, hi, rfl⟩ := List.getElem_of_mem hv
  have := key i (by rw [nets_len] at hi; exact hi)
  rwa [getD_eq hi] at this
def playS (c : Cir) : Sl Int → List (List Int) → Sl Int
  | st, [] => st
  | st, i :: l => playS c ⟨nextsL c (netsL c i st.l), none, none⟩ l
def plE (c : Cir) (st : Sl Int) (ins : List (Sl Int)) (ic : Option Nat) (nn : Option Bool) (i : Nat) : List (Nat × AV) :=
  [(1, .t (tV st)), (3, .t (.ip (tC c) 0)), (13, .ls 59 0 i none), (38, .t (.sl (enc1 tV ins) ic nn)), (39, .t (tI ins.length)), (40, .t (tI i))]
theorem play_l1 {Q : AX → St → Prop} (c : Cir) (H : RunH Γ c) (hl : levErr c = 0) (ins : List (Sl Int)) (ic : Option Nat) (nn : Option Bool) (hn : ins.length ≤ 1000000) (hin : ∀ x ∈ ins, x.l.length = (inputs c).length ∧ ∀ v ∈ x.l, V4 v) (E : Sl Int) (R : List Rsp)
    (h0 : Q (.exit 0) ⟨plE c E ins ic nn ins.length ++ [(41, .t (tB false))], [(59, .sl 42 2 (encN tRsp R))]⟩) :
    ∀ (rest : List (Sl Int)) (i : Nat) (st : Sl Int) (out : List Rsp), i + rest.length = ins.length → ins.drop i = rest → out.length = i → st.l.length = (states c).length → (∀ v ∈ st.l, V4 v) →
    playS c st (rest.map (·.l)) = E → out ++ playR c st.l (rest.map (·.l)) = R →
    run Tryz.prog Γ shifts_Play_l1 Q ⟨plE c st ins ic nn i, [(59, .sl 42 2 (encN tRsp out))]⟩
  | [], i, st, out, h, hdr, ho, hs, hv, hE, hR => by
    refine shifts_Play_l1_run fun K hK => ?_
    have h2 : i = ins.length := by simpa using h
    subst h2
    have hE : st = E := hE
    have hR : out = R := by simpa [playR] using hR
    subst hE
    subst hR
    simp [plE]
    simpa [plE] using h0
  | x :: rest, i, st, out, h, hdr, ho, hs, hv, hE, hR => by
    refine shifts_Play_l1_run fun K hK => ?_
    simp only [List.length_cons] at h
    have h2 : i < ins.length := by omega
    rw [List.drop_eq_getElem_cons h2, List.cons.injEq] at hdr
    have hx := hin x (by rw [← hdr.1]; exact List.getElem_mem _)
    have hP : POk c ⟨x, st⟩ := ⟨hx.1, hs, hx.2, hv⟩
    have hrun := H.run _ hP
    have hnp := nets_4' hl hP
    have hst := H.st
    have e1 := gE (f := tV) ⟨[], none, none⟩ h2
    have e1' := gE' (f := tV) ⟨[], none, none⟩ h2
    rw [show ins.getD i ⟨[], none, none⟩ = x by rw [← hdr.1]; simp [List.getD_eq_getElem?_getD, h2]] at e1 e1'
    simp only [List.map_cons, playS, playR] at hE hR
    have hrl : (rspOf c x.l st.l).out.l = outL c (netsL c x.l st.l) := rfl
    have ih := play_l1 c H hl ins ic nn hn hin E R h0 rest (i + 1) ⟨nextsL c (netsL c x.l st.l), none, none⟩ (out ++ [rspOf c x.l st.l]) (by omega) hdr.2 (by simp [ho]) nexts_len (nexts_4 fun v hv => (hnp v hv).1) hE (by rw [← hR]; simp)
    have hcl := clone_any (Γ := Γ) ⟨nextsL c (netsL c x.l st.l), some (nextsL c (netsL c x.l st.l)).length, none⟩ (fun h => nomatch h) (by show (nextsL c _).length ≤ _; rw [nexts_len]; omega)
    have hsn := encN_snoc (f := tRsp) (l := out) (x := rspOf c x.l st.l)
    simp only [rspOf, tRsp, tV] at hsn ih
    simp only [cloneS, tV] at hcl
    simp only at hrun
    generalize outL c (netsL c x.l st.l) = O at *
    generalize nextsL c (netsL c x.l st.l) = N at *
    generalize netsL c x.l st.l = M at *
    have htk : (encN tRsp out).take i = encN tRsp out := List.take_of_length_le (by rw [encN_len]; omega)
    have w1 : IntKind.i64.wrap ((i : Int) + 1) = (i : Int) + 1 := by rw [wrap_i64] <;> omega
    simp only [tV] at e1 e1'
    simp [tC, tNodes, tNames, tMems, tSl, tP, tV, tVs] at hrun
    simp [plE, tC, tNodes, tNames, tMems, tSl, tV] at ih
    simp [plE, tC, tNodes, tNames, tMems, tSl, tV, h2, enc1_len, enc1_wid, e1, e1']
    refine callK_pure hrun rfl ?_
    simp [htk, hsn, ho, encN_len]
    refine ⟨by omega, ?_⟩
    refine callK_pure hcl rfl ?_
    simp [w1]
    rw [hK]
    simpa using ih
theorem clip_rsp (es : List (List T)) (cap : Option Nat) (nl : Option Bool) (hw : wid 2 es) : PureCalls Tryz.prog Γ 100 [.sl es cap nl] (.sl es (some es.length) nl) := by
  refine run_pureQ slices_Clip_api_Response_chk rfl ?_
  simp [slices_Clip_api_Response_ic, slices_Clip_api_Response_rv, hw]
theorem Play_spec (c : Cir) (H : RunH Γ c) (hl : levErr c = 0) (st : Sl Int) (hs : st.l.length = (states c).length) (hv : ∀ v ∈ st.l, V4 v) (hnl : st.nl = some true → st.l = []) (ins : List (Sl Int)) (ic : Option Nat) (nn : Option Bool) (hne : ins ≠ []) (hn : ins.length ≤ 1000000) (hin : ∀ x ∈ ins, x.l.length = (inputs c).length ∧ ∀ v ∈ x.l, V4 v) :
    PureCalls Tryz.prog Γ 36 [.agg (tC c), tV st, .sl (enc1 tV ins) ic nn] (.tup [.sl (encN tRsp (playR c st.l (ins.map (·.l)))) (some ins.length) none, tVs (playE c st.l (ins.map (·.l))), tI 0]) := by
  refine run_pureQ shifts_Play_chk rfl ?_
  have hst := H.st
  have hcl := clone_any (Γ := Γ) st hnl (by omega)
  have hcn := cloneS_l st hnl
  have hne' : 0 < ins.length := List.length_pos_iff.2 hne
  have hE : playS c (cloneS st) (ins.map (·.l)) = ⟨playE c st.l (ins.map (·.l)), none, none⟩ := by
    cases ins with
    | nil => exact absurd rfl hne
    | cons x l =>
      simp only [List.map_cons, playS, playE]
      rw [hcn]
      have key : ∀ (l : List (List Int)) (s : List Int), playS c ⟨s, none, none⟩ l = ⟨playE c s l, none, none⟩ := by
        intro l
        induction l with
        | nil => intro s; rfl
        | cons i l ih => intro s; simp only [playS, playE]; exact ih _
      exact key _ _
  have g1 := fun Q h0 => play_l1 (Γ := Γ) (Q := Q) c H hl ins ic nn hn hin _ _ h0 ins 0 (cloneS st) [] (by omega) (List.drop_zero) rfl (by rw [hcn]; exact hs) (by rw [hcn]; exact hv) hE (by rw [List.nil_append, hcn])
  generalize hRR : playR c st.l (ins.map (·.l)) = R at *
  have hRl : R.length = ins.length := by rw [← hRR, playR_len]; simp
  generalize playE c st.l (ins.map (·.l)) = E at *
  have e1 := clip_rsp (Γ := Γ) (encN tRsp R) none none tRsp_wid
  have e2 := clip_val (Γ := Γ) (vals E) none none enc1_wid
  have htk : (encN tRsp R).take ins.length = encN tRsp R := List.take_of_length_le (by rw [encN_len]; omega)
  generalize cloneS st = s0 at *
  have hni : ¬ ins.length = 0 := by omega
  have hni' : ¬ (ins.length : Int) = 0 := by omega
  simp [plE, tC, tNodes, tNames, tMems, tSl, tV, show encN tRsp [] = [] from rfl] at g1
  simp only [tV] at hcl
  simp [shifts_Play_ic, tC, tNodes, tNames, tMems, tSl, tV]
  refine callK_pure hcl rfl ?_
  simp [enc1_len, hni, hni', hne]
  refine g1 _ ?_
  simp [St.freeze, Reg.closed, frzRef, frz1, frz0, frzReg, del, reify, htk]
  refine callK_pure e1 rfl ?_
  simp
  refine callK_pure e2 rfl ?_
  simp [shifts_Play_rv, encN_len, hRl, tVs, enc1_len]
end Go.Lg
namespace Go.Lg
open Go Go.Proofs
variable {Γ : Tables}
abbrev nil2 : Reg := .bx [.t (.sl [] (some 0) (some true)), .t (.sl [] (some 0) (some true))]
theorem col_l3 {Q : AX → St → Prop} (R : List Rsp) (rc : Option Nat) (rn : Option Bool) (d o : Nat) (t3 : T) (ch : List (Sl Int)) (cc : Option Nat) (cn : Option Bool) (hd : d ≤ 1000000) (ho : o + ch.length ≤ 1000000) (hR : R.length = 2 * d + 1) (hs : ∀ s ∈ ch, s.l.length ≤ d)
    (hO : ∀ j, j < R.length → o + ch.length ≤ (R.getD j rspD).out.l.length) (ZF : List (Int × Int))
    (h0 : Q (.exit 0) ⟨[(2, .t (.sl (encN tRsp R) rc rn)), (3, .t t3), (6, .lp 6 0 0), (10, .t (tI d)), (11, .t (tI o)), (12, .lm 46), (47, .t (.sl (enc1 tSl ch) cc cn)), (48, .t (tI ch.length)), (49, .t (tI ch.length)), (50, .t (tB false))], [(6, nil2), (46, .mp (mpE tK ZF))]⟩) :
    ∀ (rest : List (Sl Int)) (k : Nat) (Z : List (Int × Int)), k + rest.length = ch.length → ch.drop k = rest → (elems rest).Nodup → (∀ x ∈ elems rest, x ∉ Z.map (·.1)) → Z ++ colM R d o k rest = ZF →
    run Tryz.prog Γ shifts_Collect_l3 Q ⟨[(2, .t (.sl (encN tRsp R) rc rn)), (3, .t t3), (6, .lp 6 0 0), (10, .t (tI d)), (11, .t (tI o)), (12, .lm 46), (47, .t (.sl (enc1 tSl ch) cc cn)), (48, .t (tI ch.length)), (49, .t (tI k))], [(6, nil2), (46, .mp (mpE tK Z))]⟩
  | [], k, Z, h, hdr, hnd, hZ, hF => by
    refine shifts_Collect_l3_run fun K hK => ?_
    have h2 : k = ch.length := by simpa using h
    subst h2
    have hF : Z = ZF := by simpa [colM] using hF
    subst hF
    simp
    simpa using h0
  | s :: rest, k, Z, h, hdr, hnd, hZ, hF => by
    refine shifts_Collect_l3_run fun K hK => ?_
    simp only [List.length_cons] at h
    have h2 : k < ch.length := by omega
    rw [List.drop_eq_getElem_cons h2, List.cons.injEq] at hdr
    rw [elems_cons, List.nodup_append] at hnd
    have hsm : s ∈ ch := by rw [← hdr.1]; exact List.getElem_mem _
    have e1 := gE (f := tSl) slD h2
    have e1' := gE' (f := tSl) slD h2
    rw [show ch.getD k slD = s by rw [← hdr.1]; simp [List.getD_eq_getElem?_getD, h2]] at e1 e1'
    have g1 := fun Q h0 => col_l1 (Γ := Γ) (Q := Q) R rc rn d o k ch.length k t3 (.sl (enc1 tSl ch) cc cn) s Z hd (by omega) hR (hs s hsm) hnd.1 (fun x hx => hZ x (by rw [elems_cons]; exact List.mem_append_left _ hx)) (fun j hj => by have := hO j hj; omega) h0 s.l.length 0 (by omega)
    have ih := col_l3 R rc rn d o t3 ch cc cn hd ho hR hs hO ZF h0 rest (k + 1) (Z ++ colC R d o k s.l) (by omega) hdr.2 hnd.2.1 (fun x hx hm => by
      rw [List.map_append, List.mem_append, colC_key, List.mem_reverse] at hm
      rcases hm with hm | hm
      · exact hZ x (by rw [elems_cons]; exact List.mem_append_right _ hx) hm
      · exact hnd.2.2 x hm x hx rfl) (by rw [← hF, List.append_assoc]; rfl)
    have w1 : IntKind.i64.wrap ((k : Int) + 1) = (k : Int) + 1 := by rw [wrap_i64] <;> omega
    simp only [tSl] at e1 e1'
    simp [tSl] at g1
    simp [h2, enc1_len, enc1_wid, e1, e1']
    refine g1 _ ?_
    simp [w1]
    rw [hK]
    simpa using ih
theorem col_l5 {Q : AX → St → Prop} (st : List Int) (sc : Option Nat) (sn : Option Bool) (hst : st.length ≤ 1000000) (ZF : List (Int × Int)) (oT : T) (ho : oT.one = true)
    (h0 : Q (.exit 4) ⟨[(6, .lp 6 0 0), (12, .lm 46), (16, .lp 16 0 0), (94, .t (.sl (ints st) sc sn)), (95, .t (tI st.length)), (96, .t (tI st.length)), (97, .t (tB false))], [(6, nil2), (16, .bx [.t oT, .ls 106 0 st.length none]), (46, .mp (mpE tK ZF)), (106, .sl 68 1 (vals (st.map fun n => mpOf 0 n ZF)))]⟩) :
    ∀ (k i : Nat), k + i = st.length →
    run Tryz.prog Γ shifts_Collect_l5 Q ⟨[(6, .lp 6 0 0), (12, .lm 46), (16, .lp 16 0 0), (94, .t (.sl (ints st) sc sn)), (95, .t (tI st.length)), (96, .t (tI i))], [(6, nil2), (16, .bx [.t oT, .ls 106 0 i none]), (46, .mp (mpE tK ZF)), (106, .sl 68 1 (vals ((st.take i).map fun n => mpOf 0 n ZF)))]⟩
  | 0, i, h => by
    refine shifts_Collect_l5_run fun K hK => ?_
    have h2 : i = st.length := by omega
    subst h2
    rw [List.take_length]
    simp
    simpa using h0
  | k + 1, i, h => by
    refine shifts_Collect_l5_run fun K hK => ?_
    have h2 : i < st.length := by omega
    have ih := col_l5 st sc sn hst ZF oT ho h0 k (i + 1) (by omega)
    rw [← List.take_append_getElem h2, List.map_append, List.map_cons, List.map_nil] at ih
    have e1 := gE (f := tI) 0 h2
    have e1' := gE' (f := tI) 0 h2
    rw [getD_eq h2] at e1 e1'
    generalize st[i] = x at *
    have hln : ((st.take i).map fun n => mpOf 0 n ZF).length = i := by simp; omega
    have hsn := vals_snoc (l := (st.take i).map fun n => mpOf 0 n ZF) (v := mpOf 0 x ZF)
    generalize (st.take i).map (fun n => mpOf 0 n ZF) = row at *
    have em := mpE_find (f := tK) 0 x ZF
    have ef := mpE_fit (f := tK) ZF
    generalize mpE tK ZF = M at *
    generalize mpOf 0 x ZF = v at *
    have htk : (vals row).take i = vals row := by rw [← hln]; exact vals_take
    have w1 : IntKind.i64.wrap ((i : Int) + 1) = (i : Int) + 1 := by rw [wrap_i64] <;> omega
    simp [h2, enc1_len, enc1_wid, e1, e1', em, ef, KT.fits, htk, hsn, hln, w1, ho]
    refine ⟨by omega, ?_⟩
    rw [hK]
    simpa using ih
end Go.Lg
namespace Go.Lg
open Go Go.Proofs
variable {Γ : Tables}
def nilR : T := .agg [.sl [] (some 0) (some true), .sl [] (some 0) (some true)]
def colOut (c : Cir) (ch : List (Sl Int)) (R : List Rsp) : List Int := (R.getD (depL ch) rspD).out.l.take c.outs.l.length
def colNext (c : Cir) (ch : List (Sl Int)) (R : List Rsp) : List Int := (states c).map fun n => mpOf 0 n (colM R (depL ch) c.outs.l.length 0 ch)
def colBad (ch : List (Sl Int)) (R : List Rsp) (m : Nat) : Prop := R.length ≠ 2 * depL ch + 1 ∨ ∃ r ∈ R, r.out.l.length ≠ m
theorem Collect_err {c : Cir} {chs : Sl (Sl Int)} {s : Nat → List (List T)} {k : Nat → Option Nat} {n : Nat → Option Bool} {en ce : Int} (h : InsH Γ c chs s k n en ce) (R : List Rsp) (rc : Option Nat) (rn : Option Bool) (hR : R.length ≤ 10000000)
    (hb : ce ≠ 0 ∨ colBad chs.l R (s 3).length) : PureCalls Tryz.prog Γ 43 [.agg (tC c), tChs chs, .sl (encN tRsp R) rc rn] (.tup [nilR, tI (if ce ≠ 0 then ce else 8)]) := by
  refine run_pureQ shifts_Collect_chk rfl ?_
  have e1 := h.call
  have e2 := Depth_spec (Γ := Γ) chs h.chl h.cs
  have hdl : depL chs.l ≤ 1000000 := depL_le h.cs
  have e3 := fun a0 a1 a2 a4 a5 a6 a7 k3 n3 => containsfunc_rsp (Γ := Γ) R rc rn 106 [.ip [a0, a1, a2, .sl (s 3) k3 n3, a4, a5, a6, a7] 0] (fun r => decide (r.out.l.length ≠ (s 3).length)) (fun r _ => col1_spec r a0 a1 a2 a4 a5 a6 a7 (s 3) k3 n3) (by omega)
  unfold colBad at hb
  generalize depL chs.l = d at *
  have w1 : IntKind.i64.wrap (2 * (d : Int)) = 2 * (d : Int) := by rw [wrap_i64] <;> omega
  have w2 : IntKind.i64.wrap (2 * (d : Int) + 1) = 2 * (d : Int) + 1 := by rw [wrap_i64] <;> omega
  simp [tC, tNodes, tNames, tMems, tSl, tChs] at e1 e2
  simp [shifts_Collect_ic, tC, tNodes, tNames, tMems, tSl, tChs]
  refine callK_pure e1 rfl ?_
  by_cases hce : ce = 0
  case' pos => subst hce
  all_goals simp [St.freeze, Reg.closed, frzRef, frz1, frz0, frzReg, del, reify]
  case neg => simp [hce, Later, shifts_Collect_rv, nilR]
  refine callK_fresh e2 rfl ?_
  by_cases hl : R.length = 2 * d + 1
  case neg =>
    have hl' : ¬ (R.length : Int) = 2 * (d : Int) + 1 := by omega
    simp [encN_len, w1, w2, hl, hl', shifts_Collect_rv, nilR]
  have hl' : (R.length : Int) = 2 * (d : Int) + 1 := by omega
  have ha : R.any (fun r => decide (r.out.l.length ≠ (s 3).length)) = true := by
    rcases hb with hb | hb | ⟨r, h1, h2⟩
    · exact absurd rfl hb
    · exact absurd hl hb
    · exact List.any_eq_true.2 ⟨r, h1, decide_eq_true h2⟩
  simp only [ha] at e3
  simp [encN_len, w1, w2, hl']
  refine callK_fresh (e3 _ _ _ _ _ _ _ _ _) rfl ?_
  simp [shifts_Collect_rv, nilR]
theorem Collect_spec {c : Cir} {chs : Sl (Sl Int)} {s : Nat → List (List T)} {k : Nat → Option Nat} {n : Nat → Option Bool} {en : Int} (h : InsH Γ c chs s k n en 0) (h3 : (s 3).length = c.outs.l.length + chs.l.length) (ho : c.outs.l.length ≤ 100000 ∧ chs.l.length ≤ 100000) (o1 : 1 ≤ c.outs.l.length) (hnd : (elems chs.l).Nodup)
    (R : List Rsp) (rc : Option Nat) (rn : Option Bool) (hR : R.length = 2 * depL chs.l + 1) (hO : ∀ r ∈ R, r.out.l.length = c.outs.l.length + chs.l.length ∧ r.out.nl ≠ some true) :
    PureCalls Tryz.prog Γ 43 [.agg (tC c), tChs chs, .sl (encN tRsp R) rc rn] (.tup [.agg [tVs (colOut c chs.l R), tVs (colNext c chs.l R)], tI 0]) := by
  refine run_pureQ shifts_Collect_chk rfl ?_
  have e1 := h.call
  have e2 := Depth_spec (Γ := Γ) chs h.chl h.cs
  have hdl : depL chs.l ≤ 1000000 := depL_le h.cs
  have e3 := fun a0 a1 a2 a4 a5 a6 a7 k3 n3 => containsfunc_rsp (Γ := Γ) R rc rn 106 [.ip [a0, a1, a2, .sl (s 3) k3 n3, a4, a5, a6, a7] 0] (fun r => decide (r.out.l.length ≠ (s 3).length)) (fun r _ => col1_spec r a0 a1 a2 a4 a5 a6 a7 (s 3) k3 n3) (by omega)
  have ha : R.any (fun r => decide (r.out.l.length ≠ (s 3).length)) = false := List.any_eq_false.2 fun r hr => by simp [(hO r hr).1, h3]
  simp only [ha] at e3
  have hsl : ∀ s ∈ chs.l, s.l.length ≤ depL chs.l := by
    have key : ∀ (l : List (Sl Int)) (n : Nat), n ≤ l.foldl (fun n s => max n s.l.length) n ∧ ∀ s ∈ l, s.l.length ≤ l.foldl (fun n s => max n s.l.length) n := by
      intro l
      induction l with
      | nil => intro n; exact ⟨Nat.le_refl _, by simp⟩
      | cons a l ih =>
        intro n
        obtain ⟨h1, h2⟩ := ih (max n a.l.length)
        have hm1 := Nat.le_max_left n a.l.length
        have hm2 := Nat.le_max_right n a.l.length
        refine ⟨Nat.le_trans hm1 h1, fun s hs => ?_⟩
        rcases List.mem_cons.1 hs with rfl | hs
        · exact Nat.le_trans hm2 h1
        · exact h2 s hs
    exact (key chs.l 0).2
  have hg : ∀ j, j < R.length → R.getD j rspD ∈ R := fun j hj => by
    rw [List.getD_eq_getElem?_getD, List.getElem?_eq_getElem hj]; exact List.getElem_mem _
  have hdR : depL chs.l < R.length := by omega
  have hrd := hO _ (hg _ hdR)
  have g3 := fun Q t3 h0 => col_l3 (Γ := Γ) (Q := Q) R rc rn (depL chs.l) c.outs.l.length t3 chs.l chs.cap chs.nl hdl (by omega) hR hsl (fun j hj => by have := (hO _ (hg j hj)).1; omega) _ h0 chs.l 0 [] (by omega) (List.drop_zero) hnd (by simp) (by rw [List.nil_append])
  have e4 := states_spec (Γ := Γ) c h.ok
  have g5 := fun Q sc sn oT ho' h0 => col_l5 (Γ := Γ) (Q := Q) (states c) sc sn h.st (colM R (depL chs.l) c.outs.l.length 0 chs.l) oT ho' h0 (states c).length 0 (by omega)
  have hn : (colNext c chs.l R).length = (states c).length := by simp [colNext]
  have hNx : (states c).map (fun n => mpOf 0 n (colM R (depL chs.l) c.outs.l.length 0 chs.l)) = colNext c chs.l R := rfl
  simp only [hNx] at g5
  have q1 := gR hdR
  have q1' := gR' hdR
  have hcl : ∀ cap, PureCalls Tryz.prog Γ 93 [.sl (vals (colOut c chs.l R)) cap (R.getD (depL chs.l) rspD).out.nl] (.sl (vals (colOut c chs.l R)) none none) := fun cap => by
    have hlen : (colOut c chs.l R).length = c.outs.l.length := by unfold colOut; rw [List.length_take]; omega
    have hne : colOut c chs.l R ≠ [] := fun e => by rw [e] at hlen; simp at hlen; omega
    have := clone_val (Γ := Γ) ⟨colOut c chs.l R, cap, (R.getD (depL chs.l) rspD).out.nl⟩ ⟨fun e => absurd e hrd.2, fun _ => hne, by show (colOut c chs.l R).length ≤ _; omega⟩
    rwa [if_neg hrd.2] at this
  have htk : (vals (R.getD (depL chs.l) rspD).out.l).take c.outs.l.length = vals (colOut c chs.l R) := by unfold colOut; simp [enc1, List.map_take]
  generalize colOut c chs.l R = CO at *
  generalize colNext c chs.l R = CN at *
  generalize colM R (depL chs.l) c.outs.l.length 0 chs.l = ZF at *
  generalize R.getD (depL chs.l) rspD = rd at *
  generalize depL chs.l = d at *
  generalize states c = st at *
  have e5 := clip_val (Γ := Γ) (vals CO) none none enc1_wid
  have e6 := clip_val (Γ := Γ) (vals CN) none none enc1_wid
  have htn : (vals CN).take st.length = vals CN := by rw [← hn]; exact vals_take
  have w1 : IntKind.i64.wrap (2 * (d : Int)) = 2 * (d : Int) := by rw [wrap_i64] <;> omega
  have w2 : IntKind.i64.wrap (2 * (d : Int) + 1) = 2 * (d : Int) + 1 := by rw [wrap_i64] <;> omega
  have hl' : (R.length : Int) = 2 * (d : Int) + 1 := by omega
  have ho2 : c.outs.l.length ≤ rd.out.l.length := by omega
  simp only [tRsp, tV] at q1 q1'
  simp [tC, tNodes, tNames, tMems, tSl, tChs] at e1 e2 e4
  simp [mpE] at g3
  simp [mpE, enc1_nil] at g5
  simp [shifts_Collect_ic, tC, tNodes, tNames, tMems, tSl, tChs]
  refine callK_pure e1 rfl ?_
  simp [St.freeze, Reg.closed, frzRef, frz1, frz0, frzReg, del, reify]
  refine callK_fresh e2 rfl ?_
  simp [encN_len, w1, w2, hl']
  refine callK_fresh (e3 _ _ _ _ _ _ _ _ _) rfl ?_
  simp [enc1_len]
  refine g3 _ _ ?_
  simp [encN_len, tRsp_wid, hdR, q1, q1', enc1_len, enc1_wid, ho2, htk]
  refine callK_pure (hcl _) rfl ?_
  simp
  refine callK_pure e5 rfl ?_
  simp
  refine callK_pure e4 rfl ?_
  simp [enc1_len]
  refine g5 _ _ _ _ rfl ?_
  simp [St.freeze, Reg.closed, frzRef, frz1, frz0, frzReg, del, reify, htn]
  refine callK_pure e6 rfl ?_
  simp [shifts_Collect_rv, tVs, enc1_len]
end Go.Lg
namespace Go.Lg
open Go Go.Proofs
variable {Γ : Tables}
theorem zerosL_len {n : Nat} : (zerosL n).length = n := by simp [zerosL]
theorem testL_len {ch : List (Sl Int)} {st pin pst : List Int} : (testL ch st pin pst).length = 2 * depL ch + 1 := by
  simp [testL, loadsL_len]; omega
end Go.Lg
namespace Go.Lg
open Go Go.Proofs
variable {Γ : Tables}
theorem runH_sc (hΓ : GOk Γ) {c : Cir} {ch : List (Sl Int)} (h : ScOk c ch) (hc : NOk c) (hn : (scC c ch).nodes.l.length ≤ 19) : RunH Γ (scC c ch) :=
  ⟨by have := states_len' (scC c ch); omega, fun p hp => sc_Run hΓ h hc hn rfl hp⟩
theorem playR_mem {c : Cir} : ∀ (l : List (List Int)) (s : List Int) (r : Rsp), r ∈ playR c s l → r.out.l.length = c.outs.l.length ∧ r.out.nl ≠ some true
  | [], _, r, h => by simp [playR] at h
  | x :: l, s, r, h => by
    simp only [playR, List.mem_cons] at h
    rcases h with rfl | h
    · exact ⟨by simp [rspOf, outL], fun h => nomatch h⟩
    · exact playR_mem l _ r h
end Go.Lg
namespace Go.Lg
open Go Go.Proofs Go.Proofs.YtgnomdkcimglbaaGreatDoor
theorem cells80 : Tryz.prog.cellsOf 80 = 2 := by kernel_rfl
theorem rdZ2 : Rd Tryz.prog 80 fun ts => ∃ a b : Sl Int, ts = [tV a, tV b] ∧ (∀ x ∈ a.l, Byt x) ∧ ∀ x ∈ b.l, Byt x := by
  refine (rd_array Tryz.underlying80 cells25 cells80 rdBytes).mono fun ts h => ?_
  obtain ⟨_, _, rfl, ⟨a, rfl, ha⟩, _, _, rfl, ⟨b, rfl, hb⟩, rfl⟩ := h
  exact ⟨a, b, rfl, ha, hb⟩
end Go.Lg
namespace Go.Proofs.YtgnomdkcimglbaaGreatDoor
open Go Go.Lg Go.ChangeShapes Go.WideShapes Go.ChangeAt Go.RowKit
theorem open_z2 {H : Type} {enc : TypeId × Value → H} {W : World} {base : Nat} {v : Value} {d : DataW H} {p : List MemPlace} (hval : Value.okWide Tryz.prog W .any base 80 v) (h : DataW.Trod enc Tryz.prog W 0 (fun _ => true) true 80 v d p) : ∃ a b : Sl Int, (∀ x ∈ a.l, Byt x) ∧ (∀ x ∈ b.l, Byt x) ∧ TR W (Old W) (.agg [tV a, tV b]) v := by
  simp only [Value.okWide, Tryz.underlying80] at hval
  obtain ⟨cs, rfl, _, _⟩ := hval
  obtain ⟨fuel, hf⟩ := h
  obtain ⟨ts, ⟨a, b, rfl, ha, hb⟩, htr, ho⟩ := rdZ2 H enc W true fuel _ _ hf
  exact ⟨a, b, ha, hb, tr_agg htr ho⟩
end Go.Proofs.YtgnomdkcimglbaaGreatDoor
namespace Go.Lg
open Go Go.Proofs
variable {Γ : Tables}
set_option maxHeartbeats 1000000 in
theorem Apply_any (hΓ : GOk Γ) {c : Cir} {chs : Sl (Sl Int)} (hsc : ScOk c chs.l) (hc : NOk c) (hpl : plainErr c = 0) (hsm : (scC c chs.l).nodes.l.length ≤ 19) (ho1 : 1 ≤ c.outs.l.length) (p : Pat) (hP : POk c p) (from' : Sl Int) (hf : from'.l.length = (states c).length ∧ ∀ v ∈ from'.l, V4 v) (hfn : from'.nl = some true → from'.l = []) :
    ∃ A B : List Int, PureCalls Tryz.prog Γ 40 [.agg (tC c), tChs chs, tV from', .agg (tP p)] (.tup [.agg [tVs A, tVs B], tI 0]) := by
  have hn2 := hsc.n2
  have hle := elems_le chs.l fun s hs => (hsc.ne s hs).1
  have hpe := hsc.perm.length_eq
  have hsl := states_len' c
  have hil := inputs_len c
  have hos := hsc.outs.1
  have hs6 : ∀ s ∈ chs.l, s.l.length ≤ 1000000 := fun s hs => by have := hle.2 s hs; omega
  have hins := scOk_ins hsc hpl chs.cap chs.nl
  obtain ⟨s, k, n, en, hI, h3⟩ := insH_ok (Γ := Γ) hΓ hins (by omega) hs6
  have h3' : (s 3).length = c.outs.l.length + chs.l.length := by rw [h3, sc_outs hsc]; simp
  have hnd : (elems chs.l).Nodup := hsc.perm.nodup_iff.2 (ofL_nodup [14] c.nodes.l 0).2
  have hd : depL chs.l ≤ 16 := depL_le fun s hs => by have := hle.2 s hs; omega
  have e1 := Test_spec hI p (by rw [hP.i, hP.s]; omega)
  have a1 : ∀ {l : List Int}, (∀ v ∈ l, V4 v) → l.any aboveV = false := fun h => List.any_eq_false.2 fun v hv => by have := (h v hv).2; simp [aboveV]; omega
  have q2 : testErr c p = 0 := by unfold testErr; rw [if_neg (by simp [hP.i, hP.s]), a1 hP.vi, a1 hP.vs]; rfl
  unfold testRes at e1
  simp only [q2] at e1
  have e2 := Insert_spec (Γ := Γ) hΓ c chs hins
  simp only [tScan] at e2
  have hTl := testL_len (ch := chs.l) (st := states c) (pin := p.inn.l) (pst := p.st.l)
  have z0 : V4 0 := by simp [V4]
  have z1 : V4 1 := by simp [V4]
  have hload4 : ∀ r ∈ loadsL chs.l (states c) p.st.l, ∀ v ∈ r, V4 v := by
    intro r hr v hv
    obtain ⟨t, _, rfl⟩ := List.mem_map.1 hr
    obtain ⟨s, _, rfl⟩ := List.mem_map.1 hv
    unfold loadV
    split
    · have key : ∀ (Z : List (Int × Int)) (x : Int), (∀ q ∈ Z, V4 q.2) → V4 (mpOf 0 x Z) := by
        intro Z x
        induction Z with
        | nil => intro _; exact z0
        | cons a Z ih =>
          intro h
          simp only [mpOf]
          split
          · exact h a List.mem_cons_self
          · exact ih fun q hq => h q (List.mem_cons_of_mem _ hq)
      refine key _ _ fun q hq => ?_
      have := (List.of_mem_zip (show (q.1, q.2) ∈ (states c).zip (p.st.l.map readV) from hq)).2
      obtain ⟨y, hy, e⟩ := List.mem_map.1 this
      have h4 := hP.vs y hy
      rw [← e]
      unfold readV V4 at *
      split <;> omega
    · exact z0
  have hz4 : ∀ n, ∀ v ∈ zerosL n, V4 v := fun n v hv => by rw [List.eq_of_mem_replicate hv]; exact z0
  have hrow : ∀ x ∈ testL chs.l (states c) p.inn.l p.st.l, x.length = (inputs (scC c chs.l)).length ∧ ∀ v ∈ x, V4 v := by
    intro x hx
    unfold testL at hx
    have hcyc : ∀ (a : List Int) (e : Int) (b : List Int), a.length = (inputs c).length → b.length = chs.l.length → (∀ v ∈ a, V4 v) → V4 e → (∀ v ∈ b, V4 v) → (a ++ ([e] ++ b)).length = (inputs (scC c chs.l)).length ∧ ∀ v ∈ a ++ ([e] ++ b), V4 v := fun a e b h1 h2 h3 h4 h5 =>
      ⟨sc_inLen hsc h1 h2, fun v hv => by
        rcases List.mem_append.1 hv with hv | hv
        · exact h3 v hv
        · rcases List.mem_append.1 hv with hv | hv
          · simp at hv; subst hv; exact h4
          · exact h5 v hv⟩
    rcases List.mem_append.1 hx with hx | hx
    · obtain ⟨r, hr, rfl⟩ := List.mem_map.1 hx
      exact hcyc _ _ _ (by rw [zerosL_len, hP.i]) (loadsL_row r hr) (hz4 _) z1 (hload4 r hr)
    · rcases List.mem_append.1 hx with hx | hx
      · simp only [List.mem_singleton] at hx
        subst hx
        exact hcyc _ _ _ hP.i zerosL_len hP.vi z0 (hz4 _)
      · rw [List.eq_of_mem_replicate hx]
        exact hcyc _ _ _ (by rw [zerosL_len, hP.i]) zerosL_len (hz4 _) z1 (hz4 _)
  have hins4 : ∀ x ∈ (testL chs.l (states c) p.inn.l p.st.l).map (fun l => (⟨l, some l.length, none⟩ : Sl Int)), x.l.length = (inputs (scC c chs.l)).length ∧ ∀ v ∈ x.l, V4 v := by
    intro x hx
    obtain ⟨l, hl, rfl⟩ := List.mem_map.1 hx
    exact hrow l hl
  have hmm : ((testL chs.l (states c) p.inn.l p.st.l).map fun l => (⟨l, some l.length, none⟩ : Sl Int)).map (·.l) = testL chs.l (states c) p.inn.l p.st.l := by
    rw [List.map_map]; exact List.map_id _
  have e3 := Play_spec (Γ := Γ) (scC c chs.l) (runH_sc hΓ hsc hc hsm) (sc_valid hsc) from' (by rw [sc_states hsc]; exact hf.1) hf.2 hfn ((testL chs.l (states c) p.inn.l p.st.l).map fun l => ⟨l, some l.length, none⟩) (some (testL chs.l (states c) p.inn.l p.st.l).length) none (by
    intro e
    have := congrArg List.length e
    rw [List.length_map, hTl] at this
    simp at this) (by rw [List.length_map, hTl]; omega) hins4
  rw [hmm] at e3
  have henc : enc1 tV ((testL chs.l (states c) p.inn.l p.st.l).map fun l => (⟨l, some l.length, none⟩ : Sl Int)) = enc1 tVs (testL chs.l (states c) p.inn.l p.st.l) := by
    unfold enc1
    rw [List.map_map]; rfl
  rw [henc] at e3
  have hRl : (playR (scC c chs.l) from'.l (testL chs.l (states c) p.inn.l p.st.l)).length = 2 * depL chs.l + 1 := by rw [playR_len, hTl]
  have hso : (scC c chs.l).outs.l.length = c.outs.l.length + chs.l.length := by rw [← h3]; exact h3'
  have e4 := Collect_spec hI h3' ⟨by omega, by show chs.l.length ≤ _; omega⟩ ho1 hnd (playR (scC c chs.l) from'.l (testL chs.l (states c) p.inn.l p.st.l)) (some (2 * depL chs.l + 1)) none hRl (fun r hr => by
    have := playR_mem _ _ r hr
    exact ⟨by rw [this.1]; exact hso, this.2⟩)
  refine ⟨colOut c chs.l (playR (scC c chs.l) from'.l (testL chs.l (states c) p.inn.l p.st.l)), colNext c chs.l (playR (scC c chs.l) from'.l (testL chs.l (states c) p.inn.l p.st.l)), run_pureQ shifts_Apply_chk rfl ?_⟩
  generalize playR (scC c chs.l) from'.l (testL chs.l (states c) p.inn.l p.st.l) = R at *
  generalize playE (scC c chs.l) from'.l (testL chs.l (states c) p.inn.l p.st.l) = E at *
  generalize testL chs.l (states c) p.inn.l p.st.l = L at *
  generalize colOut c chs.l R = O at *
  generalize colNext c chs.l R = N at *
  generalize enc1 tSl (scS c chs.l).cl = s4 at *
  generalize ints (scS c chs.l).ins = s6 at *
  generalize ints (scJ c chs.l).muxes = s7 at *
  generalize scC c chs.l = D at *
  simp [tC, tNodes, tNames, tMems, tSl, tChs, tP, tV, tVs, hTl] at e1 e2 e3 e4
  simp [shifts_Apply_ic, tC, tNodes, tNames, tMems, tSl, tChs, tP, tV]
  refine callK_pure e1 rfl ?_
  simp
  refine callK_pure e2 rfl ?_
  simp
  refine callK_pure e3 rfl ?_
  simp
  refine callK_pure e4 rfl ?_
  simp [shifts_Apply_rv, tVs]
theorem Apply_err {c : Cir} {chs : Sl (Sl Int)} {s : Nat → List (List T)} {k : Nat → Option Nat} {n : Nat → Option Bool} {en ce : Int} (hI : InsH Γ c chs s k n en ce) (p : Pat) (hp : p.inn.l.length ≤ 1000000 ∧ p.st.l.length ≤ 1000000) (from' : Sl Int) (er : Int) (her : er ≠ 0) (h : testRes c chs.l p ce = .tup [.sl [] (some 0) (some true), tI er]) :
    PureCalls Tryz.prog Γ 40 [.agg (tC c), tChs chs, tV from', .agg (tP p)] (.tup [nilR, tI er]) := by
  refine run_pureQ shifts_Apply_chk rfl ?_
  have e1 := Test_spec hI p hp
  rw [h] at e1
  simp [tC, tNodes, tNames, tMems, tSl, tChs, tP, tV] at e1
  simp [shifts_Apply_ic, tC, tNodes, tNames, tMems, tSl, tChs, tP, tV]
  refine callK_pure e1 rfl ?_
  simp [her, shifts_Apply_rv, nilR]
end Go.Lg
namespace Go.Lg
open Go
section
variable {P : Program} {Γ : Tables} {Q : AX → St → Prop} {s : St}
/- probecard/probecardlaw35.ShiftsErrors (function 9) -/
abbrev law35_ShiftsErrors_g0 : IC := .gh (.seq (.seq (.reg [om 42 7, om 43 1, od 44 (le 0 43), od 45 (.bin .lss (tm 42) (tm 44))] [kp [1, 3, 5, 7, 45] []]) (.cond (tm 45) .skip (.exit 0))) (.seq (.block 1 (.seq (.reg [om 48 1, om 49 7, od 50 (ia 1 48 49), od 51 (ld 1
 50), od 52 (le 0 51), od 53 (.bin .gtr (tm 52) (ki 20))] [kp [1, 3, 5, 7, 53] []]) (.cond (tm 53) (.seq (.reg [od 54 (.call 34 []), om 6 54] [kp [6] []]) .ret) .skip))) (.reg [om 46 7, od 47 (.bin .add (tm 46) (ki 1)), om 7 47] [kp
 [1, 3, 5, 7] []]))) [kp [1, 3, 5, 7] []]
def law35_ShiftsErrors_l1 : IC := .loop law35_ShiftsErrors_g0
abbrev law35_ShiftsErrors_g2 : IC := .gh (.seq (.seq (.reg [om 57 12, od 58 (.iadrA 2 1 (tm 5) (ki 0)), od 59 (ld 1 58), od 60 (le 0 59), od 61 (.bin .lss (tm 57) (tm 60))] [kp [1, 5, 8, 9, 10, 11, 12, 61] [8, 9, 72, 98]]) (.cond (tm 61) .skip (.exit 2))) (.seq
 (.block 3 (.seq (.reg [od 64 (fa 0 9), od 65 (.ldR 9 1 false (tm 64)), od 66 (.iadrA 2 1 (tm 5) (ki 0)), od 67 (.ldT 1 false (tm 66)), om 68 12, od 69 (ia 1 67 68), od 70 (.ldT 1 false (tm 69)), od 71 (.bsl true 68 1 [(tm 70)]), od
 72 (.app false 68 1 (tm 65) (tm 71)), od 73 (fa 0 9), on (.stR 9 1 (tm 73) (tm 72))] [kp [1, 5, 8, 9, 10, 11, 12] [8, 9, 72, 98]]) (.reg [om 74 10, om 75 74, oF 76 (.iadrA 2 1 (tm 5) (ki 0)) 75, oF 77 (ld 1 76) 75, oF 78 (.mv (tm
 12)) 75, oF 79 (ia 1 77 78) 75, oF 80 (ld 1 79) 75, oF 81 (.bin .gtr (tm 80) (ku 3)) 75, od 82 (.pick (tm 75) kT (tm 81)), om 10 82] [kp [1, 5, 8, 9, 10, 11, 12] [8, 9, 72, 98]]))) (.reg [om 62 12, od 63 (.bin .add (tm 62) (ki 1)),
 om 12 63] [kp [1, 5, 8, 9, 10, 11, 12] [8, 9, 72, 98]]))) [kp [1, 5, 8, 9, 10, 11, 12] [8, 9, 72, 98]]
def law35_ShiftsErrors_l3 : IC := .loop law35_ShiftsErrors_g2
abbrev law35_ShiftsErrors_g4 : IC := .gh (.seq (.seq (.reg [om 83 13, od 84 (.iadrA 2 1 (tm 5) (ki 1)), od 85 (ld 1 84), od 86 (le 0 85), od 87 (.bin .lss (tm 83) (tm 86))] [kp [1, 5, 8, 9, 10, 11, 13, 87] [8, 9, 72, 98]]) (.cond (tm 87) .skip (.exit 4))) (.seq
 (.block 5 (.seq (.reg [od 90 (fa 1 9), od 91 (.ldR 9 1 false (tm 90)), od 92 (.iadrA 2 1 (tm 5) (ki 1)), od 93 (.ldT 1 false (tm 92)), om 94 13, od 95 (ia 1 93 94), od 96 (.ldT 1 false (tm 95)), od 97 (.bsl true 68 1 [(tm 96)]), od
 98 (.app false 68 1 (tm 91) (tm 97)), od 99 (fa 1 9), on (.stR 9 1 (tm 99) (tm 98))] [kp [1, 5, 8, 9, 10, 11, 13] [8, 9, 72, 98]]) (.reg [om 100 11, om 101 100, oF 102 (.iadrA 2 1 (tm 5) (ki 1)) 101, oF 103 (ld 1 102) 101, oF 104
 (.mv (tm 13)) 101, oF 105 (ia 1 103 104) 101, oF 106 (ld 1 105) 101, oF 107 (.bin .gtr (tm 106) (ku 3)) 101, od 108 (.pick (tm 101) kT (tm 107)), om 11 108] [kp [1, 5, 8, 9, 10, 11, 13] [8, 9, 72, 98]]))) (.reg [om 88 13, od 89
 (.bin .add (tm 88) (ki 1)), om 13 89] [kp [1, 5, 8, 9, 10, 11, 13] [8, 9, 72, 98]]))) [kp [1, 5, 8, 9, 10, 11, 13] [8, 9, 72, 98]]
def law35_ShiftsErrors_l5 : IC := .loop law35_ShiftsErrors_g4
abbrev law35_ShiftsErrors_ic : IC := (.seq (.reg [od 3 (.box true (tm 0)), od 5 (.box true (tm 2)), od 6 (.mv kF)] [kp [1, 3, 5] []]) (.seq (.seq (.reg [om 26 1, od 27 (le 0 26), od 28 (.bin .gtr (tm 27) (ki 10)), om 29 28, oF 30 (.iadrA 2 1 (tm 5) (ki 0)) 29, oF 31
 (ld 1 30) 29, oF 32 (le 0 31) 29, oF 33 (.bin .gtr (tm 32) (ki 20)) 29, od 34 (.pick (tm 29) kT (tm 33)), om 35 34, oF 36 (.iadrA 2 1 (tm 5) (ki 1)) 35, oF 37 (ld 1 36) 35, oF 38 (le 0 37) 35, oF 39 (.bin .gtr (tm 38) (ki 20)) 35,
 od 40 (.pick (tm 35) kT (tm 39))] [kp [1, 3, 5, 40] []]) (.cond (tm 40) (.seq (.reg [od 41 (.call 34 []), om 6 41] [kp [6] []]) .ret) .skip)) (.seq (.seq (.reg [od 7 (.mv (ki 0))] [kp [1, 3, 5, 7] []]) (.block 0
 law35_ShiftsErrors_l1)) (.seq (.reg [od 55 (lG 12 3), od 56 (.call 13 [(tm 55)]), od 8 (.alloc false [(.slice none 0 0), (.slice none 0 0), (.slice none 0 0), (.slice none 0 0)]), on (.store 4 (tm 8) (tm 56))] [kp [1, 5, 8] [8]])
 (.seq (.reg [od 9 (.alloc false [(.slice none 0 0), (.slice none 0 0)])] [.nlb 9 0 72 68 1, .nlb 9 1 98 68 1, kp [1, 5, 8, 9] [8, 9, 72, 98]]) (.seq (.reg [od 10 (.mv kF)] [kp [1, 5, 8, 9, 10] [8, 9, 72, 98]]) (.seq (.reg [od 11
 (.mv kF)] [kp [1, 5, 8, 9, 10, 11] [8, 9, 72, 98]]) (.seq (.seq (.reg [od 12 (.mv (ki 0))] [kp [1, 5, 8, 9, 10, 11, 12] [8, 9, 72, 98]]) (.gh (.block 2 law35_ShiftsErrors_l3) [.frz 72])) (.seq (.seq (.reg [od 13 (.mv (ki 0))] [kp
 [1, 5, 8, 9, 10, 11, 13] [8, 9, 72, 98]]) (.gh (.block 4 law35_ShiftsErrors_l5) [.frz 98])) (.seq (.reg [od 110 (lG 4 8), om 111 1, od 112 (.call 29 [(tm 110), (tm 111)]), om 109 112, od 113 (ex 109 0), od 114 (ex 109 1), od 14
 (.alloc false [(.slice none 0 0), (.slice none 0 0), (.slice none 0 0), (.slice none 0 0), (.slice none 0 0), (.int .i64 0), (.slice none 0 0), (.slice none 0 0)]), on (.store 8 (tm 14) (tm 113)), om 15 114] [kp [1, 8, 9, 10, 11,
 15] [8, 9, 72, 98]]) (.seq (.reg [om 115 15, om 16 115] [kp [1, 8, 9, 10, 11, 15, 16] [8, 9, 72, 98]]) (.seq (.seq (.reg [om 116 15, od 117 (.bin .eql (tm 116) (ki 0)), om 118 117, oT 119 (fa 1 9) 118, oT 120 (ld 1 119) 118, oT 121
 (le 0 120) 118, oT 122 (lG 4 8) 118, oT 123 (.call 27 [(tm 122)]) 118, oT 124 (le 0 123) 118, oT 125 (.bin .neq (tm 121) (tm 124)) 118, od 126 (.pick (tm 118) (tm 125) kF)] [kp [1, 8, 9, 10, 11, 15, 16, 126] [8, 9, 72, 98]]) (.cond
 (tm 126) (.reg [od 16 (.mv (ki 8))] [kp [1, 8, 9, 10, 11, 15, 16] [8, 9, 72, 98]]) (.seq (.reg [om 127 15, od 128 (.bin .eql (tm 127) (ki 0)), om 129 128, oT 130 (.mv (tm 11)) 129, od 131 (.pick (tm 129) (tm 130) kF)] [kp [1, 8, 9,
 10, 11, 15, 16, 131] [8, 9, 72, 98]]) (.cond (tm 131) (.reg [od 16 (.mv (ki 1))] [kp [1, 8, 9, 10, 11, 15, 16] [8, 9, 72, 98]]) .skip)))) (.seq (.reg [om 132 15, om 17 132] [kp [1, 8, 9, 10, 11, 15, 16, 17] [8, 9, 72, 98]]) (.seq
 (.seq (.reg [om 133 15, od 134 (.bin .eql (tm 133) (ki 0)), om 135 134, oT 136 (fa 1 9) 135, oT 137 (ld 1 136) 135, oT 138 (le 0 137) 135, oT 139 (lG 4 8) 135, oT 140 (.call 27 [(tm 139)]) 135, oT 141 (le 0 140) 135, oT 142 (.bin
 .neq (tm 138) (tm 141)) 135, oT 143 (.mv (tm 142)) 135, oF 144 (fa 0 9) 143, oF 145 (ld 1 144) 143, oF 146 (le 0 145) 143, oF 147 (lG 4 8) 143, oF 148 (.call 41 [(tm 147)]) 143, oF 149 (le 0 148) 143, oF 150 (.bin .neq (tm 146) (tm
 149)) 143, oT 151 (.pick (tm 143) kT (tm 150)) 135, od 152 (.pick (tm 135) (tm 151) kF)] [kp [1, 8, 9, 10, 11, 15, 16, 17, 152] [8, 9, 72, 98]]) (.cond (tm 152) (.reg [od 17 (.mv (ki 8))] [kp [1, 8, 9, 15, 16, 17] [8, 9, 72, 98]])
 (.seq (.reg [om 153 15, od 154 (.bin .eql (tm 153) (ki 0)), om 155 154, oT 156 (.mv (tm 11)) 155, oT 157 (.mv (tm 156)) 155, oF 158 (.mv (tm 10)) 157, oT 159 (.pick (tm 157) kT (tm 158)) 155, od 160 (.pick (tm 155) (tm 159) kF)]
 [kp [1, 8, 9, 15, 16, 17, 160] [8, 9, 72, 98]]) (.cond (tm 160) (.reg [od 17 (.mv (ki 1))] [kp [1, 8, 9, 15, 16, 17] [8, 9, 72, 98]]) .skip)))) (.seq (.reg [od 162 (lG 4 8), om 163 1, od 164 (fa 1 9), od 165 (ld 1 164), od 166
 (.call 38 [(tm 162), (tm 163), (tm 165)]), om 161 166, od 167 (ex 161 0), od 168 (ex 161 1), om 18 167, om 19 168] [kp [1, 8, 9, 15, 16, 17, 18, 19] [8, 9, 72, 98]]) (.seq (.reg [od 170 (lG 4 8), om 171 1, od 172 (lG 2 9), od 173
 (.call 42 [(tm 170), (tm 171), (tm 172)]), om 169 173, od 174 (ex 169 0), od 175 (ex 169 1), om 20 174, om 21 175] [kp [1, 8, 9, 15, 16, 17, 18, 19, 20, 21] [8, 9, 72, 98]]) (.seq (.reg [od 177 (lG 4 8), om 178 1, od 179 (fa 1 9),
 od 180 (ld 1 179), od 181 (lG 2 9), od 182 (.call 40 [(tm 177), (tm 178), (tm 180), (tm 181)]), om 176 182, od 183 (ex 176 0), od 184 (ex 176 1), od 22 (.alloc false [(.slice none 0 0), (.slice none 0 0)]), on (.store 2 (tm 22) (tm
 183)), om 23 184] [kp [1, 8, 15, 16, 17, 18, 19, 20, 21, 23] [8]]) (.seq (.reg [od 186 (lG 4 8), om 187 1, od 188 (.call 43 [(tm 186), (tm 187), kN]), om 185 188, od 189 (ex 185 0), od 190 (ex 185 1), od 24 (.alloc false [(.slice
 none 0 0), (.slice none 0 0)]), on (.store 2 (tm 24) (tm 189)), om 25 190] [kp [15, 16, 17, 18, 19, 20, 21, 23, 25] []]) (.seq (.seq (.reg [om 191 15, od 192 (.bin .eql (tm 191) (ki 0))] [kp [15, 16, 17, 18, 19, 20, 21, 23, 25,
 192] []]) (.cond (tm 192) (.reg [od 15 (.mv (ki 8))] [kp [15, 16, 17, 18, 19, 20, 21, 23, 25] []]) .skip)) (.seq (.reg [om 193 19, om 194 16, od 195 (.bin .eql (tm 193) (tm 194)), om 196 195, oT 197 (.mv (tm 21)) 196, oT 198 (.mv
 (tm 17)) 196, oT 199 (.bin .eql (tm 197) (tm 198)) 196, od 200 (.pick (tm 196) (tm 199) kF), om 201 200, oT 202 (.mv (tm 23)) 201, oT 203 (.mv (tm 17)) 201, oT 204 (.bin .eql (tm 202) (tm 203)) 201, od 205 (.pick (tm 201) (tm 204)
 kF), om 206 205, oT 207 (.mv (tm 25)) 206, oT 208 (.mv (tm 15)) 206, oT 209 (.bin .eql (tm 207) (tm 208)) 206, od 210 (.pick (tm 206) (tm 209) kF), om 211 210, oT 212 (.mv (tm 19)) 211, oT 213 (.bin .eql (tm 212) (ki 0)) 211, oT
 214 (.mv (tm 213)) 211, oF 215 (.mv (tm 18)) 214, oF 216 (le 0 215) 214, oF 217 (.bin .eql (tm 216) (ki 0)) 214, oT 218 (.pick (tm 214) kT (tm 217)) 211, od 219 (.pick (tm 211) (tm 218) kF), om 220 219, oT 221 (.mv (tm 21)) 220, oT
 222 (.bin .eql (tm 221) (ki 0)) 220, oT 223 (.mv (tm 222)) 220, oF 224 (.mv (tm 20)) 223, oF 225 (le 0 224) 223, oF 226 (.bin .eql (tm 225) (ki 0)) 223, oT 227 (.pick (tm 223) kT (tm 226)) 220, od 228 (.pick (tm 220) (tm 227) kF),
 om 229 228, oT 230 (.call 34 []) 229, od 231 (.pick (tm 229) (tm 230) kF), om 6 231] [kp [6] []]) .ret))))))))))))))))))))
theorem law35_ShiftsErrors_l1_run (h : ∀ K : St → Prop, K = run P Γ law35_ShiftsErrors_l1 Q → run P Γ law35_ShiftsErrors_g0 (thenX K Q) s) : run P Γ law35_ShiftsErrors_l1 Q s := run_loop h
theorem law35_ShiftsErrors_l3_run (h : ∀ K : St → Prop, K = run P Γ law35_ShiftsErrors_l3 Q → run P Γ law35_ShiftsErrors_g2 (thenX K Q) s) : run P Γ law35_ShiftsErrors_l3 Q s := run_loop h
theorem law35_ShiftsErrors_l5_run (h : ∀ K : St → Prop, K = run P Γ law35_ShiftsErrors_l5 Q → run P Γ law35_ShiftsErrors_g4 (thenX K Q) s) : run P Γ law35_ShiftsErrors_l5 Q s := run_loop h
def law35_ShiftsErrors_rv : List RV := [.tmp 6]
end
end Go.Lg
namespace Go.Lg
open Go Go.Proofs
theorem law35_ShiftsErrors_chk : chkF Tryz.prog 9 law35_ShiftsErrors_ic 232 3 law35_ShiftsErrors_rv = true := by kernel_rfl
end Go.Lg
namespace Go.Lg
open Go Go.Proofs
theorem nodup_perm : ∀ {l m : List Int}, l.Nodup → (∀ a ∈ l, a ∈ m) → m.length ≤ l.length → l.Perm m
  | [], m, _, _, h => by
    have : m = [] := List.eq_nil_of_length_eq_zero (by simpa using h)
    rw [this]
  | a :: l, m, hn, hs, h => by
    obtain ⟨h1, h2⟩ := List.nodup_cons.1 hn
    have ha := hs a List.mem_cons_self
    have hp := List.perm_cons_erase ha
    have hl := List.length_erase_of_mem ha
    simp only [List.length_cons] at h
    have ih := nodup_perm (m := m.erase a) h2 (fun b hb => by
      have hne : b ≠ a := fun e => h1 (e ▸ hb)
      exact (List.mem_erase_of_ne hne).2 (hs b (List.mem_cons_of_mem _ hb))) (by omega)
    exact (ih.cons a).trans hp.symm
theorem goElems_some {c : Cir} : ∀ {l done d : List Int}, goElems c done l = some d → d = done ++ l ∧ (∀ n ∈ l, n ∈ states c) ∧ (done.Nodup → d.Nodup)
  | [], done, d, h => by
    simp only [goElems, Option.some.injEq] at h
    subst h
    exact ⟨by simp, by simp, id⟩
  | n :: l, done, d, h => by
    simp only [goElems] at h
    split at h
    · cases h
    rename_i hb
    obtain ⟨a1, a2, a3⟩ := goElems_some h
    have hb' : ¬ (n < 0 ∨ (c.nodes.l.length : Int) ≤ n ∨ kindAt c n.toNat ≠ 14 ∨ n ∈ done) := by simpa [elemBad] using hb
    have hb0 : ¬ n < 0 := fun h => hb' (.inl h)
    have hb1 : ¬ (c.nodes.l.length : Int) ≤ n := fun h => hb' (.inr (.inl h))
    have hb2 : kindAt c n.toNat = 14 := Decidable.byContradiction fun h => hb' (.inr (.inr (.inl h)))
    have hb3 : n ∉ done := fun h => hb' (.inr (.inr (.inr h)))
    refine ⟨by rw [a1]; simp, fun x hx => ?_, fun hd => a3 ?_⟩
    · rcases List.mem_cons.1 hx with rfl | hx
      · have := (mem_ofL (c := c) (k := 14) (i := x.toNat) (by omega)).2 hb2
        have e : ((x.toNat : Nat) : Int) = x := by omega
        rw [e] at this
        exact this
      · exact a2 x hx
    · rw [List.nodup_append]
      refine ⟨hd, by simp, fun a ha b hb e => ?_⟩
      simp at hb
      subst hb; subst e
      exact hb3 ha
theorem goChains_some {c : Cir} : ∀ {l : List (Sl Int)} {done d : List Int}, goChains c done l = some d → d = done ++ elems l ∧ (∀ n ∈ elems l, n ∈ states c) ∧ (done.Nodup → d.Nodup) ∧ ∀ s ∈ l, s.l ≠ []
  | [], done, d, h => by
    simp only [goChains, Option.some.injEq] at h
    subst h
    exact ⟨by simp [elems_nil], by simp [elems_nil], id, by simp⟩
  | s :: l, done, d, h => by
    simp only [goChains] at h
    split at h
    · cases h
    rename_i hs
    rw [Option.bind_eq_some_iff] at h
    obtain ⟨e, h1, h2⟩ := h
    obtain ⟨a1, a2, a3⟩ := goElems_some h1
    obtain ⟨b1, b2, b3, b4⟩ := goChains_some h2
    rw [elems_cons]
    refine ⟨by rw [b1, a1, List.append_assoc], fun n hn => ?_, fun hd => b3 (a3 hd), fun x hx => ?_⟩
    · rcases List.mem_append.1 hn with hn | hn
      · exact a2 n hn
      · exact b2 n hn
    · rcases List.mem_cons.1 hx with rfl | hx
      · exact hs
      · exact b4 x hx
theorem check_complete {c : Cir} {chs : List (Sl Int)} (h : checkErr c chs = 0) : plainErr c = 0 ∧ (elems chs).Perm (states c) ∧ ∀ s ∈ chs, s.l ≠ [] := by
  unfold checkErr at h
  split at h
  · rename_i h1; exact absurd h h1
  rename_i h1
  split at h
  · cases h
  split at h
  · cases h
  rename_i d hd
  obtain ⟨a1, a2, a3, a4⟩ := goChains_some hd
  split at h
  · cases h
  rename_i hl
  have a3 := a3 (by simp)
  rw [List.nil_append] at a1
  rw [a1] at a3 hl
  refine ⟨by simpa using h1, nodup_perm a3 a2 (by omega), a4⟩
end Go.Lg
namespace Go.Lg
open Go Go.Proofs
variable {Γ : Tables}
theorem noMem_of {x : CD} (hx : CDOk x) (h : plainErr (ofC x) = 0) : x.mem = false := by
  cases hm : x.mem
  · rfl
  · have hv := ofC_valid hx
    have h1 : 0 < (ofC x).mems.l.length := by simp [ofC, memM, hm]
    unfold plainErr at h
    rw [if_neg (by simp [hv]), if_pos (.inl h1)] at h
    cases h
theorem x_scok {x : CD} (hx : CDOk x) (hm : x.mem = false) {ch : List (Sl Int)} (hp : (elems ch).Perm (states (ofC x))) (hne : ∀ s ∈ ch, s.l ≠ [] ∧ s.nl ≠ some true) : ScOk (ofC x) ch := by
  have hy : CaseOk ⟨x, ⟨[], none, none⟩, ⟨[], none, none⟩⟩ := ⟨hx, by simp, by simp⟩
  have e : noMemX x = x := by
    cases x
    simp only at hm
    subst hm
    rfl
  have h := case_scok hy
  have e2 : caseC ⟨x, ⟨[], none, none⟩, ⟨[], none, none⟩⟩ = ofC x := by unfold caseC; rw [e]
  rw [e2] at h
  exact ⟨h.ok, h.cp, h.good, h.n1, h.n2, h.nms, h.outs, hp, hne⟩
end Go.Lg
namespace Go.Lg
open Go Go.Proofs
variable {Γ : Tables}
theorem sr_l1 {Q : AX → St → Prop} (hΓ : GOk Γ) (chs : Sl (Sl Int)) (hl : chs.l.length ≤ 10) (t3 t5 : T)
    (h0 : (∀ s ∈ chs.l, s.l.length ≤ 20) → Q (.exit 0) ⟨[(1, .t (.sl (enc1 tSl chs.l) chs.cap chs.nl)), (3, .t t3), (5, .t t5), (7, .t (tI chs.l.length)), (45, .t (tB false))], []⟩)
    (hr : Q .ret ⟨[(6, .t (tB true))], []⟩) :
    ∀ (k i : Nat), k + i = chs.l.length → (∀ j, j < i → ∀ h : j < chs.l.length, chs.l[j].l.length ≤ 20) →
    run Tryz.prog Γ law35_ShiftsErrors_l1 Q ⟨[(1, .t (.sl (enc1 tSl chs.l) chs.cap chs.nl)), (3, .t t3), (5, .t t5), (7, .t (tI i))], []⟩
  | 0, i, h, hd => by
    refine law35_ShiftsErrors_l1_run fun K hK => ?_
    have h3 : i = chs.l.length := by omega
    subst h3
    simp [enc1_len]
    exact h0 fun s hs => by
      obtain ⟨j, hj, rfl⟩ := List.getElem_of_mem hs
      exact hd j hj hj
  | k + 1, i, h, hd => by
    refine law35_ShiftsErrors_l1_run fun K hK => ?_
    have h2 : i < chs.l.length := by omega
    have e := enc1_get (f := tSl) ⟨[], none, none⟩ h2
    have e2 : chs.l[i]?.getD ⟨[], none, none⟩ = chs.l[i] := by simp [h2]
    rw [e2] at e
    have ih := sr_l1 hΓ chs hl t3 t5 h0 hr k (i + 1) (by omega)
    have hdi : chs.l[i].l.length ≤ 20 → ∀ j, j < i + 1 → ∀ h : j < chs.l.length, chs.l[j].l.length ≤ 20 := fun hh j hj hjl => by
      by_cases e : j = i
      · subst e; exact hh
      · exact hd j (by omega) hjl
    generalize chs.l[i] = s at *
    have e' : ∀ h : i < (enc1 tSl chs.l).length, (enc1 tSl chs.l)[i] = [tSl s] := fun h => by rw [← e]; simp [h]
    simp only [tSl] at e e'
    by_cases h20 : s.l.length ≤ 20
    · have h20' : ¬ (20 : Int) < s.l.length := by omega
      have h20'' : ¬ 20 < s.l.length := by omega
      simp [h2, enc1_len, enc1_wid, e, e', h20', h20'']
      rw [wrap_i64 (by omega) (by omega), hK]
      simpa [tSl] using ih (hdi h20)
    · have h20' : (20 : Int) < s.l.length := by omega
      have h20'' : 20 < s.l.length := by omega
      simp [h2, enc1_len, enc1_wid, e, e', h20', h20'']
      refine callK_pure (lives35_spec hΓ) rfl ?_
      simpa using hr
theorem sr_l3 {Q : AX → St → Prop} (t1 a b c d t11 : T) (z z1 : Sl Int) (hz : z.l.length ≤ 20)
    (h0 : Q (.exit 2) ⟨[(1, .t t1), (5, .t (.ip [tV z, tV z1] 0)), (8, .lp 8 0 0), (9, .lp 9 0 0), (10, .t (tB (z.l.any aboveV))), (11, .t t11), (12, .t (tI z.l.length)), (61, .t (tB false))], [(8, .bx [.t a, .t b, .t c, .t d]), (9, .bx [.ls 72 0 z.l.length none, .ls 98 0 0 none]), (72, .sl 68 1 (vals z.l)), (98, .sl 68 1 [])]⟩) :
    ∀ (k i : Nat), k + i = z.l.length →
    run Tryz.prog Γ law35_ShiftsErrors_l3 Q ⟨[(1, .t t1), (5, .t (.ip [tV z, tV z1] 0)), (8, .lp 8 0 0), (9, .lp 9 0 0), (10, .t (tB ((z.l.take i).any aboveV))), (11, .t t11), (12, .t (tI i))], [(8, .bx [.t a, .t b, .t c, .t d]), (9, .bx [.ls 72 0 i none, .ls 98 0 0 none]), (72, .sl 68 1 (vals (z.l.take i))), (98, .sl 68 1 [])]⟩
  | 0, i, h => by
    refine law35_ShiftsErrors_l3_run fun K hK => ?_
    have h3 : i = z.l.length := by omega
    subst h3
    rw [List.take_of_length_le (Nat.le_refl _)]
    simp [tV, enc1_len]
    simpa [tV] using h0
  | k + 1, i, h => by
    refine law35_ShiftsErrors_l3_run fun K hK => ?_
    have h2 : i < z.l.length := by omega
    have e := gi1 (f := tK) h2
    rw [getD_eq h2] at e
    have ht : z.l.take (i + 1) = z.l.take i ++ [z.l[i]] := by rw [List.take_add_one]; simp [h2]
    have ih := sr_l3 t1 a b c d t11 z z1 hz h0 k (i + 1) (by omega)
    rw [ht] at ih
    generalize z.l[i] = v at *
    have e' : ∀ h : i < (vals z.l).length, (vals z.l)[i] = [tK v] := fun h => by rw [← e]; simp [h]
    have tk : (vals (z.l.take i)).take i = vals (z.l.take i) := List.take_of_length_le (by simp [enc1]; omega)
    have q : vals (z.l.take i) ++ [[tK v]] = vals (z.l.take i ++ [v]) := enc1_snoc
    have hml : min i z.l.length = i := by omega
    have hi31 : i ≤ 2147483647 := by omega
    rw [List.any_append] at ih
    cases hb : (z.l.take i).any aboveV
    · rw [hb] at ih
      by_cases hv : 3 < v
      · simp [aboveV, hv, tV] at ih
        simp [tV, h2, enc1_len, enc1_wid, e, e', tk, q, wid1s, hv, hml, hi31]
        rw [wrap_i64 (by omega) (by omega), hK]
        simpa [tV] using ih
      · simp [aboveV, hv, tV] at ih
        simp [tV, h2, enc1_len, enc1_wid, e, e', tk, q, wid1s, hv, hml, hi31]
        rw [wrap_i64 (by omega) (by omega), hK]
        simpa [tV] using ih
    · rw [hb] at ih
      simp [tV] at ih
      simp [tV, h2, enc1_len, enc1_wid, e, e', tk, q, wid1s, hml, hi31]
      rw [wrap_i64 (by omega) (by omega), hK]
      simpa [tV] using ih
theorem sr_l5 {Q : AX → St → Prop} (t1 a b c d t10 t9 : T) (z z0 : Sl Int) (hz : z.l.length ≤ 20)
    (h0 : Q (.exit 4) ⟨[(1, .t t1), (5, .t (.ip [tV z0, tV z] 0)), (8, .lp 8 0 0), (9, .lp 9 0 0), (10, .t t10), (11, .t (tB (z.l.any aboveV))), (13, .t (tI z.l.length)), (87, .t (tB false))], [(8, .bx [.t a, .t b, .t c, .t d]), (9, .bx [.t t9, .ls 98 0 z.l.length none]), (98, .sl 68 1 (vals z.l))]⟩) :
    ∀ (k i : Nat), k + i = z.l.length →
    run Tryz.prog Γ law35_ShiftsErrors_l5 Q ⟨[(1, .t t1), (5, .t (.ip [tV z0, tV z] 0)), (8, .lp 8 0 0), (9, .lp 9 0 0), (10, .t t10), (11, .t (tB ((z.l.take i).any aboveV))), (13, .t (tI i))], [(8, .bx [.t a, .t b, .t c, .t d]), (9, .bx [.t t9, .ls 98 0 i none]), (98, .sl 68 1 (vals (z.l.take i)))]⟩
  | 0, i, h => by
    refine law35_ShiftsErrors_l5_run fun K hK => ?_
    have h3 : i = z.l.length := by omega
    subst h3
    rw [List.take_of_length_le (Nat.le_refl _)]
    simp [tV, enc1_len]
    simpa [tV] using h0
  | k + 1, i, h => by
    refine law35_ShiftsErrors_l5_run fun K hK => ?_
    have h2 : i < z.l.length := by omega
    have e := gi1 (f := tK) h2
    rw [getD_eq h2] at e
    have ht : z.l.take (i + 1) = z.l.take i ++ [z.l[i]] := by rw [List.take_add_one]; simp [h2]
    have ih := sr_l5 t1 a b c d t10 t9 z z0 hz h0 k (i + 1) (by omega)
    rw [ht] at ih
    generalize z.l[i] = v at *
    have e' : ∀ h : i < (vals z.l).length, (vals z.l)[i] = [tK v] := fun h => by rw [← e]; simp [h]
    have tk : (vals (z.l.take i)).take i = vals (z.l.take i) := List.take_of_length_le (by simp [enc1]; omega)
    have q : vals (z.l.take i) ++ [[tK v]] = vals (z.l.take i ++ [v]) := enc1_snoc
    have hml : min i z.l.length = i := by omega
    have hi31 : i ≤ 2147483647 := by omega
    rw [List.any_append] at ih
    cases hb : (z.l.take i).any aboveV
    · rw [hb] at ih
      by_cases hv : 3 < v
      · simp [aboveV, hv, tV] at ih
        simp [tV, h2, enc1_len, enc1_wid, e, e', tk, q, wid1s, hv, hml, hi31]
        rw [wrap_i64 (by omega) (by omega), hK]
        simpa [tV] using ih
      · simp [aboveV, hv, tV] at ih
        simp [tV, h2, enc1_len, enc1_wid, e, e', tk, q, wid1s, hv, hml, hi31]
        rw [wrap_i64 (by omega) (by omega), hK]
        simpa [tV] using ih
    · rw [hb] at ih
      simp [tV] at ih
      simp [tV, h2, enc1_len, enc1_wid, e, e', tk, q, wid1s, hml, hi31]
      rw [wrap_i64 (by omega) (by omega), hK]
      simpa [tV] using ih
end Go.Lg
namespace Go.Lg
open Go Go.Proofs
variable {Γ : Tables}
theorem x_small {x : CD} (hx : CDOk x) (hm : x.mem = false) {ch : List (Sl Int)} (h : ScOk (ofC x) ch) : (scC (ofC x) ch).nodes.l.length ≤ 19 := by
  have hs := ofC_small hx hm
  have hl := sc_len h
  have hle := elems_le ch fun s hs => (h.ne s hs).1
  have hpl := h.perm.length_eq
  omega
def errP (z0 z1 : Sl Int) : Pat := ⟨⟨z0.l, none, none⟩, ⟨z1.l, none, none⟩⟩
theorem err_calls (hΓ : GOk Γ) (x : CD) (hx : CDOk x) (chs : Sl (Sl Int)) (hnl : ∀ s ∈ chs.l, s.nl = some true → s.l = []) (z0 z1 : Sl Int) (hz0 : ∀ b ∈ z0.l, Byt b) (hz1 : ∀ b ∈ z1.l, Byt b) (h10 : chs.l.length ≤ 10) (h20 : z0.l.length ≤ 20) (h30 : z1.l.length ≤ 20) (hcs : ∀ s ∈ chs.l, s.l.length ≤ 20) :
    (∃ s k n en, InsH Γ (ofC x) chs s k n en (checkErr (ofC x) chs.l)) ∧
    (∃ l kl nl, ((if checkErr (ofC x) chs.l ≠ 0 then checkErr (ofC x) chs.l else valsErr z1.l (states (ofC x)).length) ≠ 0 → l = []) ∧ PureCalls Tryz.prog Γ 38 [.agg (tC (ofC x)), tChs chs, tV ⟨z1.l, none, none⟩] (.tup [.sl l kl nl, tI (if checkErr (ofC x) chs.l ≠ 0 then checkErr (ofC x) chs.l else valsErr z1.l (states (ofC x)).length)])) ∧
    (∃ l kl nl, ((if checkErr (ofC x) chs.l ≠ 0 then checkErr (ofC x) chs.l else testErr (ofC x) (errP z0 z1)) ≠ 0 → l = []) ∧ PureCalls Tryz.prog Γ 42 [.agg (tC (ofC x)), tChs chs, .agg (tP (errP z0 z1))] (.tup [.sl l kl nl, tI (if checkErr (ofC x) chs.l ≠ 0 then checkErr (ofC x) chs.l else testErr (ofC x) (errP z0 z1))])) ∧
    (∃ a ka na b kb nb, PureCalls Tryz.prog Γ 40 [.agg (tC (ofC x)), tChs chs, tV ⟨z1.l, none, none⟩, .agg (tP (errP z0 z1))] (.tup [.agg [.sl a ka na, .sl b kb nb], tI (if checkErr (ofC x) chs.l ≠ 0 then checkErr (ofC x) chs.l else testErr (ofC x) (errP z0 z1))])) ∧
    PureCalls Tryz.prog Γ 43 [.agg (tC (ofC x)), tChs chs, .sl [] (some 0) (some true)] (.tup [nilR, tI (if checkErr (ofC x) chs.l ≠ 0 then checkErr (ofC x) chs.l else 8)]) := by
  have hc : COk (ofC x) := ofC_ok hx
  have hin := inputs_len (ofC x)
  have hsl := states_len' (ofC x)
  have hcn : (ofC x).nodes.l.length ≤ 1000 := by
    have h4 := nodes4_len hx
    have h5 := nodes5_len hx
    have hN : (ofC x).nodes.l = nodes5 x := rfl
    rw [hN]
    omega
  have hls : ∀ s ∈ chs.l, s.l.length ≤ 1000000000 := fun s hs => by have := hcs s hs; omega
  have hls6 : ∀ s ∈ chs.l, s.l.length ≤ 1000000 := fun s hs => by have := hcs s hs; omega
  have hne : checkErr (ofC x) chs.l = 0 → ∀ s ∈ chs.l, s.l ≠ [] ∧ s.nl ≠ some true := fun h s hs => by
    have := (check_complete h).2.2 s hs
    exact ⟨this, fun h2 => this (hnl s hs h2)⟩
  have hI : ∃ s k n en, InsH Γ (ofC x) chs s k n en (checkErr (ofC x) chs.l) := by
    by_cases h : checkErr (ofC x) chs.l = 0
    · obtain ⟨p1, p2, p3⟩ := check_complete h
      have hm := noMem_of hx p1
      obtain ⟨s, k, n, en, hI, _⟩ := insH_ok (Γ := Γ) hΓ (scOk_ins (x_scok hx hm p2 (hne h)) p1 chs.cap chs.nl) (by omega) hls6
      rw [h]
      exact ⟨s, k, n, en, hI⟩
    · exact ⟨fun _ => [], fun _ => some 0, fun _ => some true, 0, hc, by omega, by omega, by omega, hls6, Insert_err (Γ := Γ) hΓ (ofC x) hc chs (by omega) hls h⟩
  refine ⟨hI, ?_⟩
  obtain ⟨s, k, n, en, hI⟩ := hI
  have hpl : (errP z0 z1).inn.l.length ≤ 1000000 ∧ (errP z0 z1).st.l.length ≤ 1000000 := ⟨by show z0.l.length ≤ _; omega, by show z1.l.length ≤ _; omega⟩
  have e1 := Loads_spec hI ⟨z1.l, none, none⟩ (by show z1.l.length ≤ _; omega)
  have e2 := Test_spec hI (errP z0 z1) hpl
  have e3 := Collect_err hI [] (some 0) (some true) (by simp) (.inr (.inl (by simp)))
  have e4 := fun er her h => Apply_err hI (errP z0 z1) hpl ⟨z1.l, none, none⟩ er her h
  refine ⟨?_, ?_, ?_, e3⟩
  · simp only at e1
    by_cases h : checkErr (ofC x) chs.l = 0
    · by_cases h2 : valsErr z1.l (states (ofC x)).length = 0
      · rw [if_neg (by simp [h]), if_neg (by simp [h2])] at e1
        exact ⟨_, _, _, by rw [if_neg (by simp [h])]; exact fun h3 => absurd h2 h3, by rw [if_neg (by simp [h]), h2]; exact e1⟩
      · rw [if_neg (by simp [h]), if_pos h2] at e1
        exact ⟨_, _, _, fun _ => rfl, by rw [if_neg (by simp [h])]; exact e1⟩
    · rw [if_pos h] at e1
      exact ⟨_, _, _, fun _ => rfl, by rw [if_pos h]; exact e1⟩
  · unfold testRes at e2
    by_cases h : checkErr (ofC x) chs.l = 0
    · by_cases h2 : testErr (ofC x) (errP z0 z1) = 0
      · rw [if_neg (by simp [h]), if_neg (by simp [h2])] at e2
        exact ⟨_, _, _, by rw [if_neg (by simp [h])]; exact fun h3 => absurd h2 h3, by rw [if_neg (by simp [h]), h2]; exact e2⟩
      · rw [if_neg (by simp [h]), if_pos h2] at e2
        exact ⟨_, _, _, fun _ => rfl, by rw [if_neg (by simp [h])]; exact e2⟩
    · rw [if_pos h] at e2
      exact ⟨_, _, _, fun _ => rfl, by rw [if_pos h]; exact e2⟩
  · by_cases h : checkErr (ofC x) chs.l = 0
    · by_cases h2 : testErr (ofC x) (errP z0 z1) = 0
      · obtain ⟨p1, p2, p3⟩ := check_complete h
        have hm := noMem_of hx p1
        have hsc := x_scok hx hm p2 (hne h)
        have ht : z0.l.length = (inputs (ofC x)).length ∧ z1.l.length = (states (ofC x)).length ∧ z0.l.any aboveV = false ∧ z1.l.any aboveV = false := by
          unfold testErr at h2
          split at h2
          · omega
          · rename_i h3
            split at h2
            · omega
            · rename_i h4
              have h5 : z0.l.length = (inputs (ofC x)).length := Classical.byContradiction fun h => h3 (.inl h)
              have h6 : z1.l.length = (states (ofC x)).length := Classical.byContradiction fun h => h3 (.inr h)
              have h7 : ¬ z0.l.any aboveV = true := fun h => h4 (.inl h)
              have h8 : ¬ z1.l.any aboveV = true := fun h => h4 (.inr h)
              exact ⟨h5, h6, Bool.eq_false_iff.2 h7, Bool.eq_false_iff.2 h8⟩
        have v4 : ∀ {l : List Int}, (∀ b ∈ l, Byt b) → l.any aboveV = false → ∀ v ∈ l, V4 v := fun hb ha v hv => by
          have h1 := hb v hv
          have h2 := List.any_eq_false.1 ha v hv
          simp [aboveV] at h2
          exact ⟨h1.1, by omega⟩
        obtain ⟨A, B, ea⟩ := Apply_any (Γ := Γ) hΓ hsc (NOk_of hx hm) p1 (x_small hx hm hsc) (by simp [ofC]) (errP z0 z1) ⟨ht.1, ht.2.1, v4 hz0 ht.2.2.1, v4 hz1 ht.2.2.2⟩ ⟨z1.l, none, none⟩ ⟨ht.2.1, v4 hz1 ht.2.2.2⟩ (fun h => nomatch h)
        exact ⟨_, _, _, _, _, _, by rw [if_neg (by simp [h]), h2]; exact ea⟩
      · exact ⟨_, _, _, _, _, _, by rw [if_neg (by simp [h])]; exact e4 _ h2 (by unfold testRes; rw [if_neg (by simp [h]), if_pos h2])⟩
    · exact ⟨_, _, _, _, _, _, by rw [if_pos h]; exact e4 _ h (by unfold testRes; rw [if_pos h])⟩
end Go.Lg
namespace Go.Lg
open Go Go.Proofs
variable {Γ : Tables}
set_option maxHeartbeats 4000000 in
theorem lawErrors35_spec (hΓ : GOk Γ) (x : CD) (hx : CDOk x) (chs : Sl (Sl Int)) (hnl : ∀ s ∈ chs.l, s.nl = some true → s.l = []) (z0 z1 : Sl Int) (hz0 : ∀ b ∈ z0.l, Byt b) (hz1 : ∀ b ∈ z1.l, Byt b) : PureCalls Tryz.prog Γ 9 [.agg (tCD x), tChs chs, .agg [tV z0, tV z1]] (tB true) := by
  refine run_pureQ law35_ShiftsErrors_chk rfl ?_
  by_cases h10 : 10 < chs.l.length
  · have h10' : (10 : Int) < chs.l.length := by omega
    simp [law35_ShiftsErrors_ic, tCD, tChs, tV, enc1_len, h10, h10', Later]
    refine callK_pure (lives35_spec hΓ) rfl ?_
    simp [law35_ShiftsErrors_rv, reify]
  have h10' : ¬ (10 : Int) < chs.l.length := by omega
  by_cases h20 : 20 < z0.l.length
  · have h20' : (20 : Int) < z0.l.length := by omega
    simp [law35_ShiftsErrors_ic, tCD, tChs, tV, enc1_len, h10, h10', h20, h20', Later]
    refine callK_pure (lives35_spec hΓ) rfl ?_
    simp [law35_ShiftsErrors_rv, reify]
  have h20' : ¬ (20 : Int) < z0.l.length := by omega
  by_cases h30 : 20 < z1.l.length
  · have h30' : (20 : Int) < z1.l.length := by omega
    simp [law35_ShiftsErrors_ic, tCD, tChs, tV, enc1_len, h10, h10', h20, h20', h30, h30', Later]
    refine callK_pure (lives35_spec hΓ) rfl ?_
    simp [law35_ShiftsErrors_rv, reify]
  have h30' : ¬ (20 : Int) < z1.l.length := by omega
  have g1 := fun Q t3 t5 h0 hr => sr_l1 (Γ := Γ) (Q := Q) hΓ chs (by omega) t3 t5 h0 hr chs.l.length 0 (by omega) (fun j hj => absurd hj (by omega))
  simp [law35_ShiftsErrors_ic, tCD, tChs, tV, enc1_len, h10, h10', h20, h20', h30, h30', Later]
  refine g1 _ _ _ (fun hl20 => ?_) (by simp [law35_ShiftsErrors_rv, reify])
  have hc : COk (ofC x) := ofC_ok hx
  have e1 := Of_spec (Γ := Γ) x hx
  have e5 := states_spec (Γ := Γ) (ofC x) hc
  have e6 := inputs_spec (Γ := Γ) (ofC x) hc
  obtain ⟨⟨s, k, n, en, hI⟩, ⟨L, kL, nL, hL, eL⟩, ⟨M, kM, nM, hM, eM⟩, ⟨a, ka, na, b, kb, nb, eA⟩, eC⟩ := err_calls (Γ := Γ) hΓ x hx chs hnl z0 z1 hz0 hz1 (by omega) (by omega) (by omega) hl20
  have eI := hI.call
  have hvd : valsErr z1.l (states (ofC x)).length = if z1.l.length ≠ (states (ofC x)).length then 8 else if z1.l.any aboveV = true then 1 else 0 := rfl
  have htd : testErr (ofC x) (errP z0 z1) = if z0.l.length ≠ (inputs (ofC x)).length ∨ z1.l.length ≠ (states (ofC x)).length then 8 else if z0.l.any aboveV = true ∨ z1.l.any aboveV = true then 1 else 0 := rfl
  clear hI
  generalize valsErr z1.l (states (ofC x)).length = ve at *
  generalize testErr (ofC x) (errP z0 z1) = te at *
  generalize checkErr (ofC x) chs.l = ce at *
  have g3 := fun Q t1 a b c d t11 h0 => sr_l3 (Γ := Γ) (Q := Q) t1 a b c d t11 z0 z1 (by omega) h0 z0.l.length 0 (by omega)
  have g5 := fun Q t1 a b c d t10 t9 h0 => sr_l5 (Γ := Γ) (Q := Q) t1 a b c d t10 t9 z1 z0 (by omega) h0 z1.l.length 0 (by omega)
  simp only [List.take_zero, List.any_nil, enc1_nil] at g3 g5
  simp only [tV] at g3 g5
  generalize hhp : z0.l.any aboveV = hp at *
  generalize hdp : z1.l.any aboveV = dp at *
  generalize ofC x = c at *
  have htk0 : (vals z0.l).take z0.l.length = vals z0.l := vals_take
  have htk1 : (vals z1.l).take z1.l.length = vals z1.l := vals_take
  simp [tCD] at e1
  simp [errP, nilR, tC, tNodes, tNames, tMems, tSl, tChs, tP, tV] at e5 e6 eI eL eM eA eC
  simp
  refine callK_pure e1 rfl ?_
  simp [tC, tNodes, tNames, tMems, tSl, tChs]
  refine g3 _ _ _ _ _ _ _ ?_
  simp [St.freeze, Reg.closed, frzRef, frz1, frz0, frzReg, del, reify, htk0]
  refine g5 _ _ _ _ _ _ _ _ ?_
  simp [St.freeze, Reg.closed, frzRef, frz1, frz0, frzReg, del, reify, htk1]
  refine callK_pure eI rfl ?_
  simp
  by_cases hc1 : ce = 0
  · subst hc1
    simp at hL hM eL eM eA eC
    by_cases hs : z1.l.length = (states c).length
    · have hs' : ((z1.l.length : Nat) : Int) = ((states c).length : Nat) := by omega
      by_cases hi : z0.l.length = (inputs c).length
      · have hi' : ((z0.l.length : Nat) : Int) = ((inputs c).length : Nat) := by omega
        cases dp
        · cases hp
          · skip
            simp [hs, hi] at hvd htd
            subst hvd
            subst htd
            simp
            refine callK_pure e5 rfl ?_
            simp [enc1_len, hs, hs', hi, hi', Later]
            refine callK_pure e5 rfl ?_
            simp [enc1_len, hs, hs', hi, hi', Later]
            refine callK_pure e6 rfl ?_
            simp [enc1_len, hs, hs', hi, hi', Later]
            refine callK_pure eL rfl ?_
            simp [enc1_len, hs, hs', hi, hi', Later]
            refine callK_pure eM rfl ?_
            simp [enc1_len, hs, hs', hi, hi', Later]
            refine callK_pure eA rfl ?_
            simp [enc1_len, hs, hs', hi, hi', Later]
            refine callK_pure eC rfl ?_
            simp [enc1_len, hs, hs', hi, hi', Later]
            refine callK_pure (lives35_spec hΓ) rfl ?_
            simp [law35_ShiftsErrors_rv, reify]
          · skip
            simp [hs, hi] at hvd htd
            subst hvd
            subst htd
            simp at hM
            subst hM
            simp
            refine callK_pure e5 rfl ?_
            simp [enc1_len, hs, hs', hi, hi', Later]
            refine callK_pure e5 rfl ?_
            simp [enc1_len, hs, hs', hi, hi', Later]
            refine callK_pure e6 rfl ?_
            simp [enc1_len, hs, hs', hi, hi', Later]
            refine callK_pure eL rfl ?_
            simp [enc1_len, hs, hs', hi, hi', Later]
            refine callK_pure eM rfl ?_
            simp [enc1_len, hs, hs', hi, hi', Later]
            refine callK_pure eA rfl ?_
            simp [enc1_len, hs, hs', hi, hi', Later]
            refine callK_pure eC rfl ?_
            simp [enc1_len, hs, hs', hi, hi', Later]
            refine callK_pure (lives35_spec hΓ) rfl ?_
            simp [law35_ShiftsErrors_rv, reify]
        · cases hp
          · skip
            simp [hs, hi] at hvd htd
            subst hvd
            subst htd
            simp at hL
            subst hL
            simp at hM
            subst hM
            simp
            refine callK_pure e5 rfl ?_
            simp [enc1_len, hs, hs', hi, hi', Later]
            refine callK_pure e5 rfl ?_
            simp [enc1_len, hs, hs', hi, hi', Later]
            refine callK_pure e6 rfl ?_
            simp [enc1_len, hs, hs', hi, hi', Later]
            refine callK_pure eL rfl ?_
            simp [enc1_len, hs, hs', hi, hi', Later]
            refine callK_pure eM rfl ?_
            simp [enc1_len, hs, hs', hi, hi', Later]
            refine callK_pure eA rfl ?_
            simp [enc1_len, hs, hs', hi, hi', Later]
            refine callK_pure eC rfl ?_
            simp [enc1_len, hs, hs', hi, hi', Later]
            refine callK_pure (lives35_spec hΓ) rfl ?_
            simp [law35_ShiftsErrors_rv, reify]
          · skip
            simp [hs, hi] at hvd htd
            subst hvd
            subst htd
            simp at hL
            subst hL
            simp at hM
            subst hM
            simp
            refine callK_pure e5 rfl ?_
            simp [enc1_len, hs, hs', hi, hi', Later]
            refine callK_pure e5 rfl ?_
            simp [enc1_len, hs, hs', hi, hi', Later]
            refine callK_pure e6 rfl ?_
            simp [enc1_len, hs, hs', hi, hi', Later]
            refine callK_pure eL rfl ?_
            simp [enc1_len, hs, hs', hi, hi', Later]
            refine callK_pure eM rfl ?_
            simp [enc1_len, hs, hs', hi, hi', Later]
            refine callK_pure eA rfl ?_
            simp [enc1_len, hs, hs', hi, hi', Later]
            refine callK_pure eC rfl ?_
            simp [enc1_len, hs, hs', hi, hi', Later]
            refine callK_pure (lives35_spec hΓ) rfl ?_
            simp [law35_ShiftsErrors_rv, reify]
      · have hi' : ¬ ((z0.l.length : Nat) : Int) = ((inputs c).length : Nat) := by omega
        cases dp
        · skip
          simp [hs, hi] at hvd htd
          subst hvd
          subst htd
          simp at hM
          subst hM
          simp
          refine callK_pure e5 rfl ?_
          simp [enc1_len, hs, hs', hi, hi', Later]
          refine callK_pure e5 rfl ?_
          simp [enc1_len, hs, hs', hi, hi', Later]
          refine callK_pure e6 rfl ?_
          simp [enc1_len, hs, hs', hi, hi', Later]
          refine callK_pure eL rfl ?_
          simp [enc1_len, hs, hs', hi, hi', Later]
          refine callK_pure eM rfl ?_
          simp [enc1_len, hs, hs', hi, hi', Later]
          refine callK_pure eA rfl ?_
          simp [enc1_len, hs, hs', hi, hi', Later]
          refine callK_pure eC rfl ?_
          simp [enc1_len, hs, hs', hi, hi', Later]
          refine callK_pure (lives35_spec hΓ) rfl ?_
          simp [law35_ShiftsErrors_rv, reify]
        · skip
          simp [hs, hi] at hvd htd
          subst hvd
          subst htd
          simp at hL
          subst hL
          simp at hM
          subst hM
          simp
          refine callK_pure e5 rfl ?_
          simp [enc1_len, hs, hs', hi, hi', Later]
          refine callK_pure e5 rfl ?_
          simp [enc1_len, hs, hs', hi, hi', Later]
          refine callK_pure e6 rfl ?_
          simp [enc1_len, hs, hs', hi, hi', Later]
          refine callK_pure eL rfl ?_
          simp [enc1_len, hs, hs', hi, hi', Later]
          refine callK_pure eM rfl ?_
          simp [enc1_len, hs, hs', hi, hi', Later]
          refine callK_pure eA rfl ?_
          simp [enc1_len, hs, hs', hi, hi', Later]
          refine callK_pure eC rfl ?_
          simp [enc1_len, hs, hs', hi, hi', Later]
          refine callK_pure (lives35_spec hΓ) rfl ?_
          simp [law35_ShiftsErrors_rv, reify]
    · have hs' : ¬ ((z1.l.length : Nat) : Int) = ((states c).length : Nat) := by omega
      have hi : True := trivial
      have hi' : True := trivial
      simp [hs, hi] at hvd htd
      subst hvd
      subst htd
      simp at hL
      subst hL
      simp at hM
      subst hM
      simp
      refine callK_pure e5 rfl ?_
      simp [enc1_len, hs, hs', hi, hi', Later]
      refine callK_pure e5 rfl ?_
      simp [enc1_len, hs, hs', hi, hi', Later]
      refine callK_pure eL rfl ?_
      simp [enc1_len, hs, hs', hi, hi', Later]
      refine callK_pure eM rfl ?_
      simp [enc1_len, hs, hs', hi, hi', Later]
      refine callK_pure eA rfl ?_
      simp [enc1_len, hs, hs', hi, hi', Later]
      refine callK_pure eC rfl ?_
      simp [enc1_len, hs, hs', hi, hi', Later]
      refine callK_pure (lives35_spec hΓ) rfl ?_
      simp [law35_ShiftsErrors_rv, reify]
  · simp [hc1] at hL hM eL eM eA eC
    subst hL
    subst hM
    simp [hc1, Later]
    refine callK_pure eL rfl ?_
    simp [hc1, Later]
    refine callK_pure eM rfl ?_
    simp [hc1, Later]
    refine callK_pure eA rfl ?_
    simp [hc1, Later]
    refine callK_pure eC rfl ?_
    simp [hc1, Later]
    refine callK_pure (lives35_spec hΓ) rfl ?_
    simp [law35_ShiftsErrors_rv, reify]
end Go.Lg
