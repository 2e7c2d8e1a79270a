/- A value of the attributes, opened. -/
import Derived.Test.YtcjidlgmbjebjaaDoorOrdD
import Derived.ChangeSame
import Derived.ChangeVars
import Derived.ProofKit
import Derived.Lib.SmallJoins
import Derived.Deep.Strs
set_option linter.unusedVariables false
set_option linter.unusedSimpArgs false
set_option maxRecDepth 100000
namespace Go.Proofs.YtcjidlgmbjebjaaDoor
open Go Go.ChangeShapes Go.WideShapes Go.RowKit Go.Joins
theorem c3 : Tryd.prog.cellsOf 3 = 1 := by kernel_rfl
theorem c9 : Tryd.prog.cellsOf 9 = 1 := by kernel_rfl
theorem c51 : Tryd.prog.cellsOf 51 = 3 := by kernel_rfl
theorem array_three {α : Type} {cs : Array α} (h : cs.size = 3) : ∃ v0 v1 v2, cs = #[v0, v1, v2] := by
  obtain ⟨l⟩ := cs
  match l, h with
  | [v0, v1, v2], _ => exact ⟨v0, v1, v2, rfl⟩
theorem open_value {H : Type} {enc : TypeId × Value → H} {W : World} {b0 : Nat} {sp : Nat → Bool} {held : Bool} {r : Reach} {v : Value} {d : DataW H} {p : List MemPlace} (hv : Value.okWide Tryd.prog W r b0 51 v) (h : DataW.Trod enc Tryd.prog W 0 sp held 51 v d p) :
    ∃ (k n : Int) (s : ByteArray), v = .agg #[.int .i64 k, .int .i64 n, .string s] ∧ s.size ≤ 9223372036854775807 := by
  obtain ⟨cs, rfl, hsz⟩ := okWide_struct Tryd.underlying51 hv
  obtain ⟨v0, v1, v2, rfl⟩ := array_three (hsz.trans c51)
  obtain ⟨fuel, hf⟩ := h
  obtain ⟨y0, y1, y2, n', _, hl3, f0, f1, f2⟩ := Go.Deep.trod_struct3 Tryd.underlying51 hf
  simp only [Value.cells, c3, c9, List.drop_zero, List.drop_succ_cons, List.take_succ_cons, List.take_zero] at f0 f1 f2
  obtain ⟨k, e0, _, _⟩ := DataW.trod_int Tryd.underlying3 f0
  obtain ⟨n, e1, _, _⟩ := DataW.trod_int Tryd.underlying3 f1
  obtain ⟨s, e2, _, hs⟩ := DataW.trod_string Tryd.underlying9 f2
  simp only [List.cons.injEq, and_true] at e0 e1 e2
  subst e0 e1 e2
  exact ⟨k, n, s, rfl, hs⟩
end Go.Proofs.YtcjidlgmbjebjaaDoor
