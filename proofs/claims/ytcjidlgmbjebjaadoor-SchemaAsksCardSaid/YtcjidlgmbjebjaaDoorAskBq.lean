/- The tables that SchemaAsks's row lays: types, forms, powers of ten. -/
import Derived.Test.YtcjidlgmbjebjaaDoorAskBp
set_option linter.unusedVariables false
set_option linter.unusedSimpArgs false
set_option maxRecDepth 100000
namespace Go.Proofs.YtcjidlgmbjebjaaDoor.sa
open Go Go.ChangeShapes Go.WideShapes Go.RowKit Go.Joins
section
variable {H : Type} {enc : TypeId × Value → H} {P : Program} {w : World} {base : Nat} {sp : Nat → Bool} {held : Bool} {fuel : Nat}
theorem str_at {t e n : Nat} {cs : List Value} {ds : List (DataW H)} {ps : List MemPlace} (ht : P.underlying t = some (.array n e)) (he : P.underlying e = some .string) (hc : P.cellsOf e = 1) (hC : P.cellsOf t = n)
    (h : DataW.trod enc P w base sp held fuel t cs = some (.agg ds, ps)) (i : Nat) (z : List UInt8) (hd : ds[i]? = some (.lit (.string z))) : cs[i]? = some (.string ⟨z.toArray⟩) := by
  obtain ⟨xs, m, rfl, hx, hl, hn, hi⟩ := DataW.trod_array ht h
  simp only [Prod.mk.injEq, DataW.agg.injEq] at hx
  obtain ⟨rfl, _⟩ := hx
  rw [List.getElem?_map] at hd
  obtain ⟨y, hy, hy2⟩ := Option.map_eq_some_iff.1 hd
  have hin : i < n := by have := (List.getElem?_eq_some_iff.1 hy).1; omega
  have h1 := hi i hin
  rw [hc, Nat.mul_one, hy] at h1
  have hci : i < cs.length := by omega
  have h2 : (cs.drop i).take 1 = [cs[i]] := by rw [List.drop_eq_getElem_cons hci, List.take_succ_cons, List.take_zero]
  rw [h2] at h1
  obtain ⟨s, hs, hy3, _⟩ := DataW.trod_string he h1
  simp only [List.cons.injEq, and_true] at hs
  rw [List.getElem?_eq_getElem hci, hs]
  rw [hy3] at hy2
  simp only [DataW.lit.injEq, Lit.string.injEq] at hy2
  rw [← hy2]
theorem form_at {t e n : Nat} {f0 f1 : Field} {cs : List Value} {ds : List (DataW H)} {ps : List MemPlace} (ht : P.underlying t = some (.array n e)) (he : P.underlying e = some (.struct #[f0, f1])) (h0 : P.underlying f0.type = some .string) (ho : f0.offset = 0) (hc0 : P.cellsOf f0.type = 1)
    (hc : P.cellsOf e = 2) (hC : P.cellsOf t = n * 2) (h : DataW.trod enc P w base sp held fuel t cs = some (.agg ds, ps)) (i : Nat) (z : List UInt8) (d1 : DataW H) (hd : ds[i]? = some (.agg [.lit (.string z), d1])) : cs[i * 2]? = some (.string ⟨z.toArray⟩) := by
  obtain ⟨xs, m, rfl, hx, hl, hn, hi⟩ := DataW.trod_array ht h
  simp only [Prod.mk.injEq, DataW.agg.injEq] at hx
  obtain ⟨rfl, _⟩ := hx
  rw [List.getElem?_map] at hd
  obtain ⟨y, hy, hy2⟩ := Option.map_eq_some_iff.1 hd
  have hin : i < n := by have := (List.getElem?_eq_some_iff.1 hy).1; omega
  have h1 := hi i hin
  rw [hc, hy] at h1
  obtain ⟨y0, y1, k, rfl, _, g0, _⟩ := trod_struct2 he h1
  rw [ho, hc0, List.drop_zero] at g0
  have hci : i * 2 < cs.length := by omega
  have h2 : ((cs.drop (i * 2)).take 2).take 1 = [cs[i * 2]] := by rw [List.drop_eq_getElem_cons hci, List.take_succ_cons, List.take_succ_cons, List.take_zero]
  rw [h2] at g0
  obtain ⟨s, hs, hy3, _⟩ := DataW.trod_string h0 g0
  simp only [List.cons.injEq, and_true] at hs
  rw [List.getElem?_eq_getElem hci, hs]
  rw [hy3] at hy2
  simp only [DataW.agg.injEq, List.cons.injEq, DataW.lit.injEq, Lit.string.injEq] at hy2
  rw [← hy2.1]
end
abbrev laidL : List (String × DataW Unit) := [("math/bits.deBruijn32tab", Rows.laid_math_bits_deBruijn32tab), ("math/bits.deBruijn64tab", Rows.laid_math_bits_deBruijn64tab), ("internal/strconv.uint64pow10", Rows.laid_internal_strconv_uint64pow10), ("hachure/shape.forms", Rows.laid_hachure_shape_forms), ("hachure/schema.types", Rows.laid_hachure_schema_types)]
theorem tabP : Tryd.prog.globalNamed "internal/strconv.uint64pow10" = some 4 := by kernel_rfl
theorem tabPType : (Tryd.prog.globals[4]?).map (·.type) = some 266 := by kernel_rfl
theorem tabF : Tryd.prog.globalNamed "hachure/shape.forms" = some 1 := by kernel_rfl
theorem tabFType : (Tryd.prog.globals[1]?).map (·.type) = some 168 := by kernel_rfl
theorem tabT : Tryd.prog.globalNamed "hachure/schema.types" = some 0 := by kernel_rfl
theorem tabTType : (Tryd.prog.globals[0]?).map (·.type) = some 93 := by kernel_rfl
theorem tabs_are {W : World} (h : laidMet Tryd.prog laidL W) : PowIs W ∧ FormsAt W ∧ TypesAt W := by
  obtain ⟨ps, h0, _⟩ := h
  obtain ⟨_, _, _, _, _, _, _, _, _, _, h1, _⟩ := h0
  obtain ⟨_, _, _, _, _, _, _, _, _, _, h2, _⟩ := h1
  obtain ⟨g, t, cs, fuel, p, q, hg, ht, hvar, hd, h3, _⟩ := h2
  obtain ⟨g', t', cs', fuel', p', q', hg', ht', hvar', hd', h4, _⟩ := h3
  obtain ⟨g2, t2, cs2, fuel2, p2, q2, hg2, ht2, hvar2, hd2, _, _⟩ := h4
  obtain rfl := Option.some.inj (tabP.symm.trans hg)
  obtain rfl := Option.some.inj (tabPType.symm.trans ht)
  obtain rfl := Option.some.inj (tabF.symm.trans hg')
  obtain rfl := Option.some.inj (tabFType.symm.trans ht')
  obtain rfl := Option.some.inj (tabT.symm.trans hg2)
  obtain rfl := Option.some.inj (tabTType.symm.trans ht2)
  refine ⟨?_, ?_, ?_⟩
  · unfold PowIs Lib.TabIs
    rw [hvar, ← Lib.cells_of_tab (k := .u64) (zs := Lib.pow10Tab) Tryd.underlying266 (by kernel_rfl) (by kernel_rfl) (by kernel_rfl) hd]
  · have hc := fun i => World.var?_cell tabF hvar' i
    have hf := fun i z d1 h => form_at (P := Tryd.prog) (i := i) (z := z) (d1 := d1) Tryd.underlying168 Tryd.underlying167 Tryd.underlying9 rfl c9 c167 c168 hd' h
    have hg := fun i z d1 h => (hc (i * 2)).trans ((Array.getElem?_toList).symm.trans (hf i z d1 h))
    exact ⟨hg 1 _ _ rfl, hg 2 _ _ rfl, hg 3 _ _ rfl, hg 4 _ _ rfl, hg 5 _ _ rfl, hg 6 _ _ rfl, hg 7 _ _ rfl⟩
  · have hc := fun i => World.var?_cell tabT hvar2 i
    have hf := fun i z h => str_at (P := Tryd.prog) (i := i) (z := z) Tryd.underlying93 Tryd.underlying9 c9 c93 hd2 h
    have hg := fun i z h => (hc i).trans ((Array.getElem?_toList).symm.trans (hf i z h))
    exact ⟨hg 0 _ rfl, hg 1 _ rfl, hg 2 _ rfl, hg 3 _ rfl⟩
end Go.Proofs.YtcjidlgmbjebjaaDoor.sa
