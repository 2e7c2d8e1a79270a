/- The argument of ModelNone, opened. -/
import Derived.Test.YtecedjbhjdgnoaaGreatDoorMdWalk
import Derived.ChangeSame
import Derived.ChangeVars
import Derived.ProofKit
import Derived.Lib.SmallJoins
import Derived.Deep.Strs
set_option linter.unusedVariables false
set_option linter.unusedSimpArgs false
set_option maxRecDepth 100000
namespace Go.Proofs.YtecedjbhjdgnoaaGreatDoor
open Go Go.ChangeShapes Go.WideShapes Go.RowKit Go.Joins
theorem c3 : Tryz.prog.cellsOf 3 = 1 := by kernel_rfl
theorem c4 : Tryz.prog.cellsOf 4 = 1 := by kernel_rfl
theorem c9 : Tryz.prog.cellsOf 9 = 1 := by kernel_rfl
theorem c22 : Tryz.prog.cellsOf 22 = 1 := by kernel_rfl
theorem c24 : Tryz.prog.cellsOf 24 = 4 := by kernel_rfl
theorem c25 : Tryz.prog.cellsOf 25 = 1 := by kernel_rfl
theorem c26 : Tryz.prog.cellsOf 26 = 1 := by kernel_rfl
theorem c28 : Tryz.prog.cellsOf 28 = 3 := by kernel_rfl
theorem c30 : Tryz.prog.cellsOf 30 = 2 := by kernel_rfl
theorem c32 : Tryz.prog.cellsOf 32 = 5 := by kernel_rfl
theorem c34 : Tryz.prog.cellsOf 34 = 16 := by kernel_rfl
theorem array_of {α : Type} {cs : Array α} (h : cs.size = 16) : ∃ v0 v1 v2 v3 v4 v5 v6 v7 v8 v9 v10 v11 v12 v13 v14 v15, cs = #[v0, v1, v2, v3, v4, v5, v6, v7, v8, v9, v10, v11, v12, v13, v14, v15] := by
  obtain ⟨l⟩ := cs
  match l, h with
  | [v0, v1, v2, v3, v4, v5, v6, v7, v8, v9, v10, v11, v12, v13, v14, v15], _ => exact ⟨v0, v1, v2, v3, v4, v5, v6, v7, v8, v9, v10, v11, v12, v13, v14, v15, rfl⟩
section
variable {H : Type} {enc : TypeId × Value → H} {W : World} {b0 : Nat} {sp : Nat → Bool} {held : Bool}
theorem trod_field {t fuel : Nat} {fs : Array Field} {cs : List Value} {x : DataW H × List MemPlace} (ht : Tryz.prog.underlying t = some (.struct fs)) (h : DataW.trod enc Tryz.prog W b0 sp held fuel t cs = some x) (i t' off m : Nat) (hf : (fs[i]?).map (fun f => (f.type, f.offset)) = some (t', off)) (hm : Tryz.prog.cellsOf t' = m) :
    ∃ n y, DataW.trod enc Tryz.prog W b0 sp held n t' ((cs.drop off).take m) = some y := by
  obtain ⟨f, hf2, he⟩ := Option.map_eq_some_iff.1 hf
  simp only [Prod.mk.injEq] at he
  obtain ⟨rfl, rfl⟩ := he
  subst hm
  obtain ⟨xs, n, _, _, _, hl, hg⟩ := DataW.trod_struct ht h
  have hi := (Array.getElem?_eq_some_iff.1 hf2).1
  refine ⟨n, xs[i]'(by omega), ?_⟩
  rw [hg i f hf2, List.getElem?_eq_getElem (by omega)]
theorem slice_len {t e n : Nat} {c : Value} {y : DataW H × List MemPlace} (ht : Tryz.prog.underlying t = some (.slice e)) (h : DataW.trod enc Tryz.prog W b0 sp held n t [c] = some y) : ∃ ca cl cc, c = .slice ca cl cc ∧ cl ≤ 9223372036854775807 := by
  rcases DataW.trod_slice ht h with ⟨hc, _⟩ | ⟨a, len, cap, elems, rest, m, _, hc, _, hb, hl, hcap, he, hel, _⟩
  · exact ⟨none, 0, 0, by simpa using hc, by omega⟩
  · have hcap : cap ≤ 9223372036854775807 := hcap
    exact ⟨some a, len, cap, by simpa using hc, by omega⟩
set_option maxHeartbeats 2000000 in
theorem open_act {r : Reach} {v : Value} {d : DataW H} {p : List MemPlace} (hv : Value.okWide Tryz.prog W r b0 34 v) (h : DataW.Trod enc Tryz.prog W 0 sp held 34 v d p) :
    ∃ (x0 : Int) (x1 : ByteArray) (x2 : Int) (x3 : Int) (x4 : ByteArray) (x5 : Int) (x6 : Int) (a7 : Option Addr) (l7 c7 : Nat) (x8 : Int) (a9 : Option Addr) (l9 c9 : Nat) (a10 : Option Addr) (l10 c10 : Nat) (x11 : Bool) (x12 : Int) (x13 : Int) (x14 : Int) (x15 : Int), v = .agg #[.int .i64 x0, .string x1, .int .i64 x2, .int .i64 x3, .string x4, .int .i64 x5, .int .i64 x6, .slice a7 l7 c7, .int .i64 x8, .slice a9 l9 c9, .slice a10 l10 c10, .bool x11, .int .i64 x12, .int .i64 x13, .int .i64 x14, .int .i64 x15] ∧
      x1.size ≤ 9223372036854775807 ∧ x4.size ≤ 9223372036854775807 ∧ l7 ≤ 9223372036854775807 ∧ l9 ≤ 9223372036854775807 ∧ l10 ≤ 9223372036854775807 := by
  obtain ⟨cs, rfl, hsz⟩ := okWide_struct Tryz.underlying34 hv
  obtain ⟨v0, v1, v2, v3, v4, v5, v6, v7, v8, v9, v10, v11, v12, v13, v14, v15, rfl⟩ := array_of (hsz.trans c34)
  obtain ⟨fuel, hf⟩ := h
  obtain ⟨nq1, yq1, q1⟩ := trod_field Tryz.underlying34 hf 0 3 0 1 rfl c3
  simp only [Value.cells, List.drop_zero, List.drop_succ_cons, List.take_succ_cons, List.take_zero] at q1
  obtain ⟨x0, e0, _, _⟩ := DataW.trod_int Tryz.underlying3 q1
  obtain ⟨nq2, yq2, q2⟩ := trod_field Tryz.underlying34 hf 1 9 1 1 rfl c9
  simp only [Value.cells, List.drop_zero, List.drop_succ_cons, List.take_succ_cons, List.take_zero] at q2
  obtain ⟨x1, e1, _, s1⟩ := DataW.trod_string Tryz.underlying9 q2
  obtain ⟨nq3, yq3, q3⟩ := trod_field Tryz.underlying34 hf 2 3 2 1 rfl c3
  simp only [Value.cells, List.drop_zero, List.drop_succ_cons, List.take_succ_cons, List.take_zero] at q3
  obtain ⟨x2, e2, _, _⟩ := DataW.trod_int Tryz.underlying3 q3
  obtain ⟨nq4, yq4, q4⟩ := trod_field Tryz.underlying34 hf 3 3 3 1 rfl c3
  simp only [Value.cells, List.drop_zero, List.drop_succ_cons, List.take_succ_cons, List.take_zero] at q4
  obtain ⟨x3, e3, _, _⟩ := DataW.trod_int Tryz.underlying3 q4
  obtain ⟨nq5, yq5, q5⟩ := trod_field Tryz.underlying34 hf 4 24 4 4 rfl c24
  simp only [Value.cells, List.drop_zero, List.drop_succ_cons, List.take_succ_cons, List.take_zero] at q5
  obtain ⟨nq6, yq6, q6⟩ := trod_field Tryz.underlying24 q5 0 9 0 1 rfl c9
  simp only [Value.cells, List.drop_zero, List.drop_succ_cons, List.take_succ_cons, List.take_zero] at q6
  obtain ⟨x4, e4, _, s4⟩ := DataW.trod_string Tryz.underlying9 q6
  obtain ⟨nq7, yq7, q7⟩ := trod_field Tryz.underlying24 q5 1 3 1 1 rfl c3
  simp only [Value.cells, List.drop_zero, List.drop_succ_cons, List.take_succ_cons, List.take_zero] at q7
  obtain ⟨x5, e5, _, _⟩ := DataW.trod_int Tryz.underlying3 q7
  obtain ⟨nq8, yq8, q8⟩ := trod_field Tryz.underlying24 q5 2 3 2 1 rfl c3
  simp only [Value.cells, List.drop_zero, List.drop_succ_cons, List.take_succ_cons, List.take_zero] at q8
  obtain ⟨x6, e6, _, _⟩ := DataW.trod_int Tryz.underlying3 q8
  obtain ⟨nq9, yq9, q9⟩ := trod_field Tryz.underlying24 q5 3 22 3 1 rfl c22
  simp only [Value.cells, List.drop_zero, List.drop_succ_cons, List.take_succ_cons, List.take_zero] at q9
  obtain ⟨a7, l7, cc7, e7, s7⟩ := slice_len Tryz.underlying22 q9
  obtain ⟨nq10, yq10, q10⟩ := trod_field Tryz.underlying34 hf 5 28 8 3 rfl c28
  simp only [Value.cells, List.drop_zero, List.drop_succ_cons, List.take_succ_cons, List.take_zero] at q10
  obtain ⟨nq11, yq11, q11⟩ := trod_field Tryz.underlying28 q10 0 3 0 1 rfl c3
  simp only [Value.cells, List.drop_zero, List.drop_succ_cons, List.take_succ_cons, List.take_zero] at q11
  obtain ⟨x8, e8, _, _⟩ := DataW.trod_int Tryz.underlying3 q11
  obtain ⟨nq12, yq12, q12⟩ := trod_field Tryz.underlying28 q10 1 25 1 1 rfl c25
  simp only [Value.cells, List.drop_zero, List.drop_succ_cons, List.take_succ_cons, List.take_zero] at q12
  obtain ⟨a9, l9, cc9, e9, s9⟩ := slice_len Tryz.underlying25 q12
  obtain ⟨nq13, yq13, q13⟩ := trod_field Tryz.underlying28 q10 2 26 2 1 rfl c26
  simp only [Value.cells, List.drop_zero, List.drop_succ_cons, List.take_succ_cons, List.take_zero] at q13
  obtain ⟨a10, l10, cc10, e10, s10⟩ := slice_len Tryz.underlying26 q13
  obtain ⟨nq14, yq14, q14⟩ := trod_field Tryz.underlying34 hf 6 32 11 5 rfl c32
  simp only [Value.cells, List.drop_zero, List.drop_succ_cons, List.take_succ_cons, List.take_zero] at q14
  obtain ⟨nq15, yq15, q15⟩ := trod_field Tryz.underlying32 q14 0 4 0 1 rfl c4
  simp only [Value.cells, List.drop_zero, List.drop_succ_cons, List.take_succ_cons, List.take_zero] at q15
  obtain ⟨x11, e11, _⟩ := DataW.trod_bool Tryz.underlying4 q15
  obtain ⟨nq16, yq16, q16⟩ := trod_field Tryz.underlying32 q14 1 30 1 2 rfl c30
  simp only [Value.cells, List.drop_zero, List.drop_succ_cons, List.take_succ_cons, List.take_zero] at q16
  obtain ⟨nq17, yq17, q17⟩ := trod_field Tryz.underlying30 q16 0 3 0 1 rfl c3
  simp only [Value.cells, List.drop_zero, List.drop_succ_cons, List.take_succ_cons, List.take_zero] at q17
  obtain ⟨x12, e12, _, _⟩ := DataW.trod_int Tryz.underlying3 q17
  obtain ⟨nq18, yq18, q18⟩ := trod_field Tryz.underlying30 q16 1 3 1 1 rfl c3
  simp only [Value.cells, List.drop_zero, List.drop_succ_cons, List.take_succ_cons, List.take_zero] at q18
  obtain ⟨x13, e13, _, _⟩ := DataW.trod_int Tryz.underlying3 q18
  obtain ⟨nq19, yq19, q19⟩ := trod_field Tryz.underlying32 q14 2 30 3 2 rfl c30
  simp only [Value.cells, List.drop_zero, List.drop_succ_cons, List.take_succ_cons, List.take_zero] at q19
  obtain ⟨nq20, yq20, q20⟩ := trod_field Tryz.underlying30 q19 0 3 0 1 rfl c3
  simp only [Value.cells, List.drop_zero, List.drop_succ_cons, List.take_succ_cons, List.take_zero] at q20
  obtain ⟨x14, e14, _, _⟩ := DataW.trod_int Tryz.underlying3 q20
  obtain ⟨nq21, yq21, q21⟩ := trod_field Tryz.underlying30 q19 1 3 1 1 rfl c3
  simp only [Value.cells, List.drop_zero, List.drop_succ_cons, List.take_succ_cons, List.take_zero] at q21
  obtain ⟨x15, e15, _, _⟩ := DataW.trod_int Tryz.underlying3 q21
  simp only [List.cons.injEq, and_true] at e0 e1 e2 e3 e4 e5 e6 e8 e11 e12 e13 e14 e15
  subst e0 e1 e2 e3 e4 e5 e6 e7 e8 e9 e10 e11 e12 e13 e14 e15
  exact ⟨x0, x1, x2, x3, x4, x5, x6, a7, l7, cc7, x8, a9, l9, cc9, a10, l10, cc10, x11, x12, x13, x14, x15, rfl, s1, s4, s7, s9, s10⟩
end
end Go.Proofs.YtecedjbhjdgnoaaGreatDoor
