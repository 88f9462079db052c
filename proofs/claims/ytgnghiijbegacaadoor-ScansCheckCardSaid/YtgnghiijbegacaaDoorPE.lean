/- The seat's rows: what their arguments and the listed table give. Conditions: none. -/
import Derived.Test.YtgnghiijbegacaaDoorPD
import Derived.Test.YtgnghiijbegacaaDoorLgE
import Derived.Test.YtgnghiijbegacaaDoorRows
import Derived.Test.YtgnghiijbegacaaDoorCards
import Derived.Test.YtgnghiijbegacaaDoorTie
import Derived.ProofKit
import Derived.Deep.DeepHandedRow
import Derived.SevenTiedAt
set_option linter.unusedSimpArgs false
set_option linter.unusedVariables false
set_option maxRecDepth 100000
namespace Go.Lg
open Go Go.Proofs Go.Proofs.YtgnghiijbegacaaDoor

def G0 (g : Nat) : Option (List T) := if g = 0 then some fanC else none
theorem G0_ok : GOk G0 := rfl

theorem gFan : Tryd.prog.globalNamed "probecard/logic.fanins" = some 0 := by kernel_rfl
theorem gFanTy : (Tryd.prog.globals[0]?).map (·.type) = some 173 := by kernel_rfl
theorem cells3 : Tryd.prog.cellsOf 3 = 1 := by kernel_rfl
theorem cells4 : Tryd.prog.cellsOf 4 = 1 := by kernel_rfl
theorem cells5 : Tryd.prog.cellsOf 5 = 1 := by kernel_rfl
theorem cells22 : Tryd.prog.cellsOf 22 = 2 := by kernel_rfl
theorem cells23 : Tryd.prog.cellsOf 23 = 4 := by kernel_rfl
theorem cells24 : Tryd.prog.cellsOf 24 = 1 := by kernel_rfl
theorem cells25 : Tryd.prog.cellsOf 25 = 1 := by kernel_rfl
theorem cells27 : Tryd.prog.cellsOf 27 = 12 := by kernel_rfl
theorem cells31 : Tryd.prog.cellsOf 31 = 1 := by kernel_rfl
theorem cells98 : Tryd.prog.cellsOf 98 = 3 := by kernel_rfl
theorem cells100 : Tryd.prog.cellsOf 100 = 4 := by kernel_rfl
theorem cells172 : Tryd.prog.cellsOf 172 = 2 := by kernel_rfl
theorem cells173 : Tryd.prog.cellsOf 173 = 32 := by kernel_rfl

theorem fan_cells {W : World} (h : laidMet Tryd.prog [("probecard/logic.fanins", Rows.laid_probecard_logic_fanins)] W) : ∀ j, j < 32 → W.cell? ⟨0, j, none⟩ = (fanL.flatMap fun x => [Value.int .i64 x.1, Value.int .i64 x.2])[j]? := by
  obtain ⟨ps, ⟨g', t', cs, fuel, p, q, hg', ht', hvar, hd, _, _⟩, _⟩ := h
  obtain rfl := Option.some.inj (gFan.symm.trans hg')
  obtain rfl := Option.some.inj (gFanTy.symm.trans ht')
  have hc := pair_cells (l := fanL) Tryd.underlying173 Tryd.underlying172 Tryd.underlying3 cells3 cells172 cells173 hd
  intro j hj
  have := World.var?_cell gFan hvar j
  rw [this, ← hc]
  simp

theorem fan_gl {W : World} (h : laidMet Tryd.prog [("probecard/logic.fanins", Rows.laid_probecard_logic_fanins)] W) : Gl G0 W (Old W) := by
  have hc := fan_cells h
  intro g cs hg
  unfold G0 at hg
  split at hg
  case isFalse => cases hg
  rename_i h0; subst h0
  simp only [Option.some.injEq] at hg
  subst hg
  have hlen : (fanL.flatMap fun x => [Value.int .i64 x.1, Value.int .i64 x.2]).length = 32 := rfl
  have hfc : fanC = (fanL.flatMap fun x => [Value.int .i64 x.1, Value.int .i64 x.2]).map T.v := rfl
  have hfl : fanC.length = 32 := rfl
  refine .ip fanC 0 0 0 (fun j => (fanL.flatMap fun x => [Value.int .i64 x.1, Value.int .i64 x.2])[j]?.getD .nilFunc) ?_ ?_ ?_ ?_
  · intro j hj
    rw [Nat.zero_add, hc j (by omega)]
    rw [List.getElem?_eq_getElem (by omega)]; rfl
  · intro j t ht
    rw [hfc, List.getElem?_map, Option.map_eq_some_iff] at ht
    obtain ⟨v, hv, rfl⟩ := ht
    simp only [hv, Option.getD_some]
    exact .v v
  · intro j t ht
    rw [hfc, List.getElem?_map, Option.map_eq_some_iff] at ht
    obtain ⟨v, hv, rfl⟩ := ht
    have hm := List.mem_of_getElem? hv
    obtain ⟨x, _, hx⟩ := List.mem_flatMap.1 hm
    simp at hx
    rcases hx with rfl | rfl <;> rfl
  · have := hc 0 (by omega)
    rw [List.getElem?_eq_getElem (by omega)] at this
    exact cell_lt this

def U8 (ts : List T) : Prop := ∃ n, ts = [.v (.int .u8 n)] ∧ (Lit.int .u8 n).wf = true
theorem u8_byt {n : Int} (h : (Lit.int .u8 n).wf = true) : Byt n := by
  simp [Lit.wf, IntKind.min, IntKind.max, IntKind.signed, IntKind.bits] at h
  exact ⟨h.1, by omega⟩
theorem rdU8 : Rd Tryd.prog 5 fun ts => ∃ n, ts = [tK n] ∧ Byt n := (rd_int Tryd.underlying5).mono fun ts ⟨n, h, hw⟩ => ⟨n, h, u8_byt hw⟩
theorem rdInt : Rd Tryd.prog 3 fun ts => ∃ n, ts = [tI n] := (rd_int Tryd.underlying3).mono fun ts ⟨n, h, _⟩ => ⟨n, h⟩

theorem list_of {α : Type} {f : α → List T} {Q : α → Prop} : ∀ {es : List (List T)}, (∀ x ∈ es, ∃ a, x = f a ∧ Q a) → ∃ l : List α, es = l.map f ∧ ∀ a ∈ l, Q a
  | [], _ => ⟨[], rfl, by simp⟩
  | e :: es, h => by
    obtain ⟨a, ha, hq⟩ := h e List.mem_cons_self
    obtain ⟨l, hl, hql⟩ := list_of fun x hx => h x (List.mem_cons_of_mem _ hx)
    exact ⟨a :: l, by rw [ha, hl]; rfl, fun b hb => by rcases List.mem_cons.1 hb with rfl | hb; exact hq; exact hql b hb⟩

theorem rdGd : Rd Tryd.prog 100 fun ts => ∃ g, ts = tGd g ∧ GdOk g := by
  refine (rd_struct (l := [(1, fun ts => ∃ n, ts = [tK n] ∧ Byt n), (3, Parts (List.replicate 3 (1, fun ts => ∃ n, ts = [tK n] ∧ Byt n)))]) Tryd.underlying100 cells100 (.cons rfl cells5 rdU8 (.cons rfl cells98 (rd_array Tryd.underlying98 cells5 cells98 rdU8) (.nil _)))).mono fun ts h => ?_
  obtain ⟨_, _, rfl, ⟨k, rfl, hk⟩, _, _, rfl, ⟨_, _, rfl, ⟨a, rfl, ha⟩, _, _, rfl, ⟨b, rfl, hb⟩, _, _, rfl, ⟨d, rfl, hd⟩, rfl⟩, rfl⟩ := h
  exact ⟨⟨k, a, b, d⟩, rfl, hk, ha, hb, hd⟩

theorem rdCD : Rd Tryd.prog 27 fun ts => ∃ x, ts = tCD x ∧ CDOk x := by
  refine (rd_struct (l := [(1, fun ts => ∃ n, ts = [tK n] ∧ Byt n), (1, fun ts => ∃ n, ts = [tK n] ∧ Byt n), (2, Parts (List.replicate 2 (1, fun ts => ∃ n, ts = [tK n] ∧ Byt n))), (1, fun ts => ∃ b, ts = [tB b]), (1, fun ts => ∃ b, ts = [tB b]), (4, Parts (List.replicate 4 (1, fun ts => ∃ n, ts = [tK n] ∧ Byt n))), (1, _), (1, _)]) Tryd.underlying27 cells27
    (.cons rfl cells5 rdU8 (.cons rfl cells5 rdU8 (.cons rfl cells22 (rd_array Tryd.underlying22 cells5 cells22 rdU8) (.cons rfl cells4 (rd_bool Tryd.underlying4) (.cons rfl cells4 (rd_bool Tryd.underlying4) (.cons rfl cells23 (rd_array Tryd.underlying23 cells5 cells23 rdU8)
      (.cons rfl cells24 (rd_slice Tryd.underlying24 cells100 (by decide) rdGd) (.cons rfl cells25 (rd_slice Tryd.underlying25 cells5 (by decide) rdU8) (.nil _)))))))))).mono fun ts h => ?_
  obtain ⟨_, _, rfl, ⟨i, rfl, hi⟩, _, _, rfl, ⟨f, rfl, hf⟩, _, _, rfl, ⟨_, _, rfl, ⟨d0, rfl, hd0⟩, _, _, rfl, ⟨d1, rfl, hd1⟩, rfl⟩, _, _, rfl, ⟨bus, rfl⟩, _, _, rfl, ⟨mem, rfl⟩, _, _, rfl,
    ⟨_, _, rfl, ⟨p0, rfl, h0⟩, _, _, rfl, ⟨p1, rfl, h1⟩, _, _, rfl, ⟨p2, rfl, h2⟩, _, _, rfl, ⟨p3, rfl, h3⟩, rfl⟩, _, _, rfl, ⟨es, cap, nl, rfl, _, hes⟩, _, _, rfl, ⟨os, cap2, nl2, rfl, _, hos⟩, rfl⟩ := h
  obtain ⟨gs, rfl, hgs⟩ := list_of (f := tGd) (Q := GdOk) fun x hx => (hes x hx).1
  obtain ⟨ol, rfl, hol⟩ := list_of (f := fun n => [tK n]) (Q := Byt) fun x hx => (hos x hx).1
  exact ⟨⟨i, f, d0, d1, bus, mem, p0, p1, p2, p3, ⟨gs, cap, nl⟩, ⟨ol, cap2, nl2⟩⟩, rfl, ⟨hi, hf, hd0, hd1, h0, h1, h2, h3, hgs, hol⟩⟩

theorem rdInts : Rd Tryd.prog 31 fun ts => ∃ s : Sl Int, ts = [tSl s] := by
  refine (rd_slice Tryd.underlying31 cells3 (by decide) rdInt).mono fun ts ⟨es, cap, nl, h, _, hes⟩ => ?_
  obtain ⟨l, rfl, _⟩ := list_of (f := fun n : Int => [tI n]) (Q := fun _ => True) fun x hx => by
    obtain ⟨n, hn⟩ := (hes x hx).1
    exact ⟨n, hn, trivial⟩
  exact ⟨⟨l, cap, nl⟩, h⟩
theorem rdChs : Rd Tryd.prog 35 fun ts => ∃ s : Sl (Sl Int), ts = [tChs s] := by
  refine (rd_slice Tryd.underlying35 cells31 (by decide) rdInts).mono fun ts ⟨es, cap, nl, h, _, hes⟩ => ?_
  obtain ⟨l, rfl, _⟩ := list_of (f := fun s : Sl Int => [tSl s]) (Q := fun _ => True) fun x hx => by
    obtain ⟨n, hn⟩ := (hes x hx).1
    exact ⟨n, hn, trivial⟩
  exact ⟨⟨l, cap, nl⟩, h⟩
end Go.Lg

/- The seat's rows: their arguments opened, the witness's world. Conditions: none. -/
set_option linter.unusedSimpArgs false
set_option linter.unusedVariables false
set_option maxRecDepth 100000
namespace Go.Proofs.YtgnghiijbegacaaDoor
open Go Go.Lg Go.ChangeShapes Go.WideShapes Go.ChangeAt Go.RowKit

theorem own : ownKnob Tryd.prog.godebug = none := by kernel_rfl
theorem laidOut : laidOutB Tryd.prog = true := by kernel_rfl

/-- What the rows' list gives. -/
theorem gl_of {W : World} (h : laidMetH Tryd.prog [("probecard/logic.fanins", Rows.laid_probecard_logic_fanins)] W) : Gl G0 W (Old W) := by
  rw [MakeChecks.laidMetH_plain _ _ _ (by kernel_rfl)] at h
  exact fan_gl h

/-- A struct's value, opened. -/
theorem open_cd {H : Type} {enc : TypeId × Value → H} {W : World} {base : Nat} {v : Value} {d : DataW H} {p : List MemPlace} (hval : Value.okWide Tryd.prog W .any base 27 v) (h : DataW.Trod enc Tryd.prog W 0 (fun _ => true) true 27 v d p) : ∃ x, CDOk x ∧ TR W (Old W) (.agg (tCD x)) v := by
  simp only [Value.okWide, Tryd.underlying27] at hval
  obtain ⟨cs, rfl, _, _⟩ := hval
  obtain ⟨fuel, hf⟩ := h
  obtain ⟨ts, ⟨x, rfl, hx⟩, htr, ho⟩ := rdCD H enc W true fuel _ _ hf
  exact ⟨x, hx, tr_agg htr ho⟩

theorem open_chs {H : Type} {enc : TypeId × Value → H} {W : World} {base : Nat} {v : Value} {d : DataW H} {p : List MemPlace} (hval : Value.okWide Tryd.prog W .any base 35 v) (h : DataW.Trod enc Tryd.prog W 0 (fun _ => true) true 35 v d p) : ∃ s : Sl (Sl Int), TR W (Old W) (tChs s) v := by
  obtain ⟨a, len, cap, rfl⟩ := okWide_slice Tryd.underlying35 hval
  obtain ⟨fuel, hf⟩ := h
  obtain ⟨ts, ⟨s, rfl⟩, htr, _⟩ := rdChs H enc W true fuel _ _ hf
  obtain ⟨y, ys, he, hy, _⟩ := htr.cons_inv
  simp [Value.cells] at he
  exact ⟨s, by rw [he.1]; exact hy⟩

/-- A world for the witness: the settled one, the table (block 0) holding what its initialiser lays. -/
noncomputable def laidWorld (os : Os) : World :=
  { World.holding Tryd.prog os ⟨#[], #[], []⟩ with heap := (World.holding Tryd.prog os ⟨#[], #[], []⟩).heap.modify 0 fun
      | .cells _ t frozen => .cells (fanL.flatMap fun x => [Value.int .i64 x.1, Value.int .i64 x.2]).toArray t frozen
      | o => o }
def c0 : Value := .agg #[.int .u8 0, .int .u8 0, .int .u8 0, .int .u8 0, .bool false, .bool false, .int .u8 0, .int .u8 0, .int .u8 0, .int .u8 0, .slice none 0 0, .slice none 0 0]
def d0 {H : Type} : DataW H := .agg [.lit (.int .u8 0), .lit (.int .u8 0), .agg [.lit (.int .u8 0), .lit (.int .u8 0)], .lit (.bool false), .lit (.bool false), .agg [.lit (.int .u8 0), .lit (.int .u8 0), .lit (.int .u8 0), .lit (.int .u8 0)], .nil, .nil]

end Go.Proofs.YtgnghiijbegacaaDoor
