/- A part of the proof of ValueReads. -/
import Derived.Test.YtcjidlgmbjebjaaGreatDoorVrzf
import Derived.ChangeSame
import Derived.ChangeVars
import Derived.ProofKit
import Derived.Lib.SmallJoins
import Derived.Deep.Strs
import Derived.OpenShut
import Derived.Lib.LaidTab
import Derived.Stop.LaidErr
import Derived.Test.YtcjidlgmbjebjaaGreatDoorRows
set_option linter.unusedVariables false
set_option linter.unusedSimpArgs false
set_option maxRecDepth 100000
namespace Go.Proofs.YtcjidlgmbjebjaaGreatDoor.vr
open Go Go.ChangeShapes Go.WideShapes Go.RowKit Go.Joins Go.Proofs.YtcjidlgmbjebjaaGreatDoorW.PrintWords
theorem c5 : Tryz.prog.cellsOf 5 = 1 := by kernel_rfl
theorem gather {α : Type} {P : Nat → α → Prop} {len : Nat} (h : ∀ i, i < len → ∃ c, P i c) : ∀ n, n ≤ len → ∃ l : List α, l.length = n ∧ ∀ i c, l[i]? = some c → P i c
  | 0, _ => ⟨[], rfl, fun i c hc => by simp at hc⟩
  | n + 1, hn => by
    obtain ⟨l, hl, hp⟩ := gather h n (by omega)
    obtain ⟨c, hc⟩ := h n (by omega)
    refine ⟨l ++ [c], by simp [hl], fun i d hd => ?_⟩
    by_cases hi : i < n
    · rw [List.getElem?_append_left (by omega)] at hd
      exact hp i d hd
    · have hlt : i < (l ++ [c]).length := (List.getElem?_eq_some_iff.1 hd).1
      have : i = n := by simp [hl] at hlt; omega
      subst this
      rw [List.getElem?_append_right (by omega), hl] at hd
      simp at hd
      subst hd
      exact hc
theorem add_add (a : Addr) (i j : Nat) : (a.add i).add j = a.add (i + j) := by
  unfold Addr.add
  by_cases hi : i = 0 <;> by_cases hj : j = 0 <;> simp [hi, hj, Nat.add_assoc]
theorem wf64 {n : Int} (h : (Lit.int .i64 n).wf = true) : -9223372036854775808 ≤ n ∧ n ≤ 9223372036854775807 := by
  simp only [Lit.wf, Bool.and_eq_true, decide_eq_true_eq] at h
  obtain ⟨h1, h2⟩ := h
  have e1 : IntKind.i64.min = -9223372036854775808 := by decide
  have e2 : IntKind.i64.max = 9223372036854775807 := by decide
  omega
theorem wf8 {n : Int} (h : (Lit.int .u8 n).wf = true) : 0 ≤ n ∧ n < 256 := by
  simp only [Lit.wf, Bool.and_eq_true, decide_eq_true_eq] at h
  obtain ⟨h1, h2⟩ := h
  have e1 : IntKind.u8.min = 0 := by decide
  have e2 : IntKind.u8.max = 255 := by decide
  omega
section
variable {H : Type} {enc : TypeId × Value → H} {W : World} {b0 : Nat} {sp : Nat → Bool} {held : Bool}
theorem open_bytes {n : Nat} {c : Value} {y : DataW H × List MemPlace} (h : DataW.trod enc Tryz.prog W b0 sp held n 25 [c] = some y) : ∃ (A : Option Addr) (cb : Nat) (lb : List Int), c = .slice A lb.length cb ∧ lb.length ≤ cb ∧ Kd.C (Kd.int .u8) W A lb.length lb ∧ Byt lb := by
  rcases DataW.trod_slice Tryz.underlying25 h with ⟨hc, _⟩ | ⟨a, len, cap, elems, rest, m, _, hc, _, hb, hl, hcap, he, hel, _⟩
  · exact ⟨none, 0, [], by simpa using hc, Nat.le_refl _, C_nil W, fun x hx => by simp at hx⟩
  · have hcap : cap ≤ 9223372036854775807 := hcap
    rw [c5] at hel
    have hcell : ∀ i, i < len → ∃ d : Int, (0 ≤ d ∧ d < 256) ∧ W.cell? (a.add i) = some (.int .u8 d) := fun i hi => by
      have h1 := hel i hi
      rw [List.getElem?_eq_getElem (by omega)] at h1
      obtain ⟨cs, h2, h3⟩ := Option.bind_eq_some_iff.1 h1
      obtain ⟨_, hlen, hcs⟩ := World.cells?_some h2
      obtain ⟨z, e1, _, hz⟩ := DataW.trod_int Tryz.underlying5 h3
      subst e1
      have := hcs 0 (by simp)
      rw [add_add, Nat.mul_one, Nat.add_zero] at this
      exact ⟨z, wf8 hz, this⟩
    obtain ⟨l, hll, hlp⟩ := gather hcell len (Nat.le_refl _)
    refine ⟨some a, cap, l, by rw [hll]; simpa using hc, by omega, ⟨rfl, by omega, fun _ => ⟨a, rfl, fun j p hp => ⟨[.int .u8 p], rfl, rfl, fun i u hu => ?_⟩⟩⟩, fun x hx => ?_⟩
    · have hi : i = 0 := by have := (List.getElem?_eq_some_iff.1 hu).1; simp at this; exact this
      subst hi
      simp at hu
      subst hu
      have := (hlp j p hp).2
      show W.cell? (a.add (j * 1 + 0)) = _
      rw [Nat.mul_one, Nat.add_zero]
      exact this
    · obtain ⟨i, hi, rfl⟩ := List.getElem_of_mem hx
      exact (hlp i _ (List.getElem?_eq_getElem hi)).1
theorem open_bytesA {r : Reach} {v : Value} {d : DataW H} {p : List MemPlace} (hv : Value.okWide Tryz.prog W r b0 25 v) (h : DataW.Trod enc Tryz.prog W 0 sp held 25 v d p) : ∃ (A : Option Addr) (cb : Nat) (lb : List Int), v = .slice A lb.length cb ∧ lb.length ≤ cb ∧ Kd.C (Kd.int .u8) W A lb.length lb ∧ Byt lb := by
  obtain ⟨A, n, c, rfl⟩ := okWide_slice Tryz.underlying25 hv
  obtain ⟨fuel, hf⟩ := h
  exact open_bytes hf
theorem open_int {r : Reach} {v : Value} {d : DataW H} {p : List MemPlace} (hv : Value.okWide Tryz.prog W r b0 3 v) (h : DataW.Trod enc Tryz.prog W 0 sp held 3 v d p) : ∃ n : Int, v = .int .i64 n ∧ -9223372036854775808 ≤ n ∧ n ≤ 9223372036854775807 := by
  obtain ⟨n, rfl⟩ := okWide_int Tryz.underlying3 hv
  obtain ⟨fuel, hf⟩ := h
  obtain ⟨m, e, _, hw⟩ := DataW.trod_int Tryz.underlying3 hf
  simp [Value.cells] at e
  subst e
  exact ⟨n, rfl, wf64 hw⟩
theorem open_text {r : Reach} {v : Value} {d : DataW H} {p : List MemPlace} (hv : Value.okWide Tryz.prog W r b0 9 v) (h : DataW.Trod enc Tryz.prog W 0 sp held 9 v d p) : ∃ s : ByteArray, v = .string s ∧ s.size ≤ 9223372036854775807 := by
  obtain ⟨s, rfl⟩ := okWide_string Tryz.underlying9 hv
  obtain ⟨fuel, hf⟩ := h
  obtain ⟨s', e, _, hs⟩ := DataW.trod_string Tryz.underlying9 hf
  simp [Value.cells] at e
  subst e
  exact ⟨s, rfl, hs⟩
end
abbrev laidL : List (String × DataW Unit) := [("math/bits.deBruijn32tab", Rows.laid_math_bits_deBruijn32tab), ("math/bits.deBruijn64tab", Rows.laid_math_bits_deBruijn64tab), ("internal/strconv.uint64pow10", Rows.laid_internal_strconv_uint64pow10), ("strconv.ErrRange", Rows.laid_strconv_ErrRange), ("strconv.ErrSyntax", Rows.laid_strconv_ErrSyntax)]
theorem tabP : Tryz.prog.globalNamed "internal/strconv.uint64pow10" = some 5 := by kernel_rfl
theorem tabPType : (Tryz.prog.globals[5]?).map (·.type) = some 272 := by kernel_rfl
theorem tabE : Tryz.prog.globalNamed "strconv.ErrSyntax" = some 2 := by kernel_rfl
theorem tabEType : (Tryz.prog.globals[2]?).map (·.type) = some 101 := by kernel_rfl
theorem tabR : Tryz.prog.globalNamed "strconv.ErrRange" = some 3 := by kernel_rfl
theorem tabRType : (Tryz.prog.globals[3]?).map (·.type) = some 101 := by kernel_rfl
theorem pow_is {W : World} (h : laidMet Tryz.prog laidL W) : PowIs W := by
  obtain ⟨ps, ⟨g, t, cs, fuel, p, q, hg, ht, hvar, hd, _⟩, _⟩ := h.tail.tail
  obtain rfl := Option.some.inj (tabP.symm.trans hg)
  obtain rfl := Option.some.inj (tabPType.symm.trans ht)
  unfold PowIs Lib.TabIs
  rw [hvar, ← Lib.cells_of_tab (k := .u64) (zs := Lib.pow10Tab) Tryz.underlying272 (by kernel_rfl) (by kernel_rfl) (by kernel_rfl) hd]
theorem ran_is {W : World} (h : laidMet Tryz.prog laidL W) : RanIs W := by
  obtain ⟨ps, ⟨g, t, cs, fuel, p, q, hg, ht, hvar, hd, _⟩, _⟩ := h.tail.tail.tail
  obtain rfl := Option.some.inj (tabR.symm.trans hg)
  obtain rfl := Option.some.inj (tabRType.symm.trans ht)
  obtain ⟨l⟩ := cs
  obtain ⟨f1, u, v, rfl, hn, h1⟩ := iface_of_trod Tryz.underlying101 hd
  exact ⟨_, by simpa using World.var?_cell hg hvar 0, .inr ⟨_, _, rfl⟩⟩
theorem err_is {W : World} (h : laidMet Tryz.prog laidL W) : ErrIs W := by
  obtain ⟨ps, ⟨g, t, cs, fuel, p, q, hg, ht, hvar, hd, _⟩, _⟩ := h.tail.tail.tail.tail
  obtain rfl := Option.some.inj (tabE.symm.trans hg)
  obtain rfl := Option.some.inj (tabEType.symm.trans ht)
  obtain ⟨l⟩ := cs
  obtain ⟨f1, u, v, rfl, hn, h1⟩ := iface_of_trod Tryz.underlying101 hd
  exact ⟨_, by simpa using World.var?_cell hg hvar 0, .inr ⟨_, _, rfl⟩⟩
end Go.Proofs.YtcjidlgmbjebjaaGreatDoor.vr
