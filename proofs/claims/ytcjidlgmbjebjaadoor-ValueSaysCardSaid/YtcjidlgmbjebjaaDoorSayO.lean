/- What ValueSays's call is given: values with their bounds, a kind; the table of powers of ten. -/
import Derived.Test.YtcjidlgmbjebjaaDoorSayP
import Derived.Test.YtcjidlgmbjebjaaDoorOrdO
import Derived.OpenShut
import Derived.Lib.LaidTab
import Derived.Test.YtcjidlgmbjebjaaDoorRows
set_option linter.unusedVariables false
set_option linter.unusedSimpArgs false
set_option maxRecDepth 100000
namespace Go.Proofs.YtcjidlgmbjebjaaDoor
open Go Go.ChangeShapes Go.WideShapes Go.RowKit Go.Joins
theorem open_value_n {H : Type} {enc : TypeId × Value → H} {W : World} {b0 : Nat} {sp : Nat → Bool} {held : Bool} {r : Reach} {v : Value} {d : DataW H} {p : List MemPlace} (hv : Value.okWide Tryd.prog W r b0 51 v) (h : DataW.Trod enc Tryd.prog W 0 sp held 51 v d p) :
    ∃ (k n : Int) (s : ByteArray), v = .agg #[.int .i64 k, .int .i64 n, .string s] ∧ s.size ≤ 9223372036854775807 ∧ -9223372036854775808 ≤ n ∧ n ≤ 9223372036854775807 := by
  obtain ⟨cs, rfl, hsz⟩ := okWide_struct Tryd.underlying51 hv
  obtain ⟨v0, v1, v2, rfl⟩ := array_three (hsz.trans c51)
  obtain ⟨fuel, hf⟩ := h
  obtain ⟨y0, y1, y2, n', _, hl3, f0, f1, f2⟩ := Go.Deep.trod_struct3 Tryd.underlying51 hf
  simp only [Value.cells, c3, c9, List.drop_zero, List.drop_succ_cons, List.take_succ_cons, List.take_zero] at f0 f1 f2
  obtain ⟨k, e0, _, _⟩ := DataW.trod_int Tryd.underlying3 f0
  obtain ⟨n, e1, _, hn⟩ := DataW.trod_int Tryd.underlying3 f1
  obtain ⟨s, e2, _, hs⟩ := DataW.trod_string Tryd.underlying9 f2
  simp only [List.cons.injEq, and_true] at e0 e1 e2
  subst e0 e1 e2
  exact ⟨k, n, s, rfl, hs, bounds_i64 hn⟩
theorem open_int {H : Type} {enc : TypeId × Value → H} {W : World} {b0 : Nat} {sp : Nat → Bool} {held : Bool} {r : Reach} {v : Value} {d : DataW H} {p : List MemPlace} (hv : Value.okWide Tryd.prog W r b0 3 v) (h : DataW.Trod enc Tryd.prog W 0 sp held 3 v d p) :
    ∃ n : Int, v = .int .i64 n := by
  exact okWide_int Tryd.underlying3 hv
abbrev laidSays : List (String × DataW Unit) := [("math/bits.deBruijn32tab", Rows.laid_math_bits_deBruijn32tab), ("math/bits.deBruijn64tab", Rows.laid_math_bits_deBruijn64tab), ("internal/strconv.uint64pow10", Rows.laid_internal_strconv_uint64pow10)]
theorem tabP : Tryd.prog.globalNamed "internal/strconv.uint64pow10" = some 4 := by kernel_rfl
theorem tabPType : (Tryd.prog.globals[4]?).map (·.type) = some 266 := by kernel_rfl
theorem pow_is {W : World} (h : laidMet Tryd.prog laidSays W) : PowIs W := by
  obtain ⟨ps, h0, _⟩ := h
  obtain ⟨_, _, _, _, _, _, _, _, _, _, h1, _⟩ := h0
  obtain ⟨_, _, _, _, _, _, _, _, _, _, h2, _⟩ := h1
  obtain ⟨g, t, cs, fuel, p, q, hg, ht, hvar, hd, _, _⟩ := h2
  obtain rfl := Option.some.inj (tabP.symm.trans hg)
  obtain rfl := Option.some.inj (tabPType.symm.trans ht)
  unfold PowIs Lib.TabIs
  rw [hvar, ← Lib.cells_of_tab (k := .u64) (zs := Lib.pow10Tab) Tryd.underlying266 (by kernel_rfl) (by kernel_rfl) (by kernel_rfl) hd]
end Go.Proofs.YtcjidlgmbjebjaaDoor
