/- A part of the proof of ValueBack. -/
import Derived.Test.YtcjidlgmbjebjaaDoorVbj
import Derived.ChangeSame
import Derived.ChangeVars
import Derived.ProofKit
import Derived.Lib.SmallJoins
import Derived.Deep.Strs
import Derived.OpenShut
import Derived.Lib.LaidTab
import Derived.Test.YtcjidlgmbjebjaaDoorRows
import Derived.Test.YtcjidlgmbjebjaaDoorVbs
import Derived.Stop.LaidErr
set_option linter.unusedVariables false
set_option linter.unusedSimpArgs false
set_option maxRecDepth 100000
namespace Go.Proofs.YtcjidlgmbjebjaaDoor.vf
open Go Go.ChangeShapes Go.WideShapes Go.RowKit Go.Joins Go.Proofs.YtcjidlgmbjebjaaDoorW.PrintWords
theorem c3 : Tryd.prog.cellsOf 3 = 1 := by kernel_rfl
theorem c5 : Tryd.prog.cellsOf 5 = 1 := by kernel_rfl
theorem c9 : Tryd.prog.cellsOf 9 = 1 := by kernel_rfl
theorem c43 : Tryd.prog.cellsOf 43 = 1 := by kernel_rfl
theorem c44 : Tryd.prog.cellsOf 44 = 1 := by kernel_rfl
theorem c46 : Tryd.prog.cellsOf 46 = 3 := by kernel_rfl
theorem c51 : Tryd.prog.cellsOf 51 = 3 := by kernel_rfl
theorem array3 {α : Type} {cs : Array α} (h : cs.size = 3) : ∃ c0 c1 c2, cs = #[c0, c1, c2] := by
  obtain ⟨l⟩ := cs
  match l, h with
  | [c0, c1, c2], _ => exact ⟨c0, c1, c2, rfl⟩
theorem list3 {α : Type} {cs : List α} (h : cs.length = 3) : ∃ c0 c1 c2, cs = [c0, c1, c2] := by
  match cs, h with
  | [c0, c1, c2], _ => exact ⟨c0, c1, c2, rfl⟩
theorem list1 {α : Type} {cs : List α} (h : cs.length = 1) : ∃ c0, cs = [c0] := by
  match cs, h with
  | [c0], _ => exact ⟨c0, rfl⟩
theorem gather {α : Type} {P : Nat → α → Prop} {len : Nat} (h : ∀ i, i < len → ∃ c, P i c) : ∀ n, n ≤ len → ∃ l : List α, l.length = n ∧ ∀ i c, l[i]? = some c → P i c
  | 0, _ => ⟨[], rfl, fun i c hc => by simp at hc⟩
  | n + 1, hn => by
    obtain ⟨l, hl, hp⟩ := gather h n (by omega)
    obtain ⟨c, hc⟩ := h n (by omega)
    refine ⟨l ++ [c], by simp [hl], fun i d hd => ?_⟩
    by_cases hi : i < n
    · rw [List.getElem?_append_left (by omega)] at hd
      exact hp i d hd
    · have hlt : i < (l ++ [c]).length := (List.getElem?_eq_some_iff.1 hd).1
      have : i = n := by simp [hl] at hlt; omega
      subst this
      rw [List.getElem?_append_right (by omega), hl] at hd
      simp at hd
      subst hd
      exact hc
theorem add_add (a : Addr) (i j : Nat) : (a.add i).add j = a.add (i + j) := by
  unfold Addr.add
  by_cases hi : i = 0 <;> by_cases hj : j = 0 <;> simp [hi, hj, Nat.add_assoc]
section
variable {H : Type} {enc : TypeId × Value → H} {W : World} {b0 : Nat} {sp : Nat → Bool} {held : Bool}
theorem open_bytes {n : Nat} {c : Value} {y : DataW H × List MemPlace} (h : DataW.trod enc Tryd.prog W b0 sp held n 43 [c] = some y) : ∃ (A : Option Addr) (cb : Nat) (lb : List Int), c = .slice A lb.length cb ∧ lb.length ≤ cb ∧ Kd.C (Kd.int .u8) W A lb.length lb := by
  rcases DataW.trod_slice Tryd.underlying43 h with ⟨hc, _⟩ | ⟨a, len, cap, elems, rest, m, _, hc, _, hb, hl, hcap, he, hel, _⟩
  · exact ⟨none, 0, [], by simpa using hc, Nat.le_refl _, C_nil W⟩
  · have hcap : cap ≤ 9223372036854775807 := hcap
    rw [c5] at hel
    have hcell : ∀ i, i < len → ∃ d : Int, W.cell? (a.add i) = some (.int .u8 d) := fun i hi => by
      have h1 := hel i hi
      rw [List.getElem?_eq_getElem (by omega)] at h1
      obtain ⟨cs, h2, h3⟩ := Option.bind_eq_some_iff.1 h1
      obtain ⟨_, hlen, hcs⟩ := World.cells?_some h2
      obtain ⟨z, e1, _, _⟩ := DataW.trod_int Tryd.underlying5 h3
      subst e1
      have := hcs 0 (by simp)
      rw [add_add, Nat.mul_one, Nat.add_zero] at this
      exact ⟨z, this⟩
    obtain ⟨l, hll, hlp⟩ := gather hcell len (Nat.le_refl _)
    refine ⟨some a, cap, l, by rw [hll]; simpa using hc, by omega, rfl, by omega, fun _ => ⟨a, rfl, fun j p hp => ⟨[.int .u8 p], rfl, rfl, fun i u hu => ?_⟩⟩⟩
    have hi : i = 0 := by have := (List.getElem?_eq_some_iff.1 hu).1; simp at this; exact this
    subst hi
    simp at hu
    subst hu
    have := hlp j p hp
    show W.cell? (a.add (j * 1 + 0)) = _
    rw [Nat.mul_one, Nat.add_zero]
    exact this
theorem open_vals {n : Nat} {c : Value} {y : DataW H × List MemPlace} (h : DataW.trod enc Tryd.prog W b0 sp held n 44 [c] = some y) : ∃ (pa : Option Addr) (cap : Nat) (vs : List Va), c = .slice pa vs.length cap ∧ vs.length ≤ cap ∧ VsV W (.slice pa vs.length cap) vs ∧ Kd.C PValueForms.k51 W pa vs.length vs ∧
    (∀ x ∈ vs, x.f2.size ≤ 9223372036854775807) ∧ vs.length ≤ 9223372036854775807 := by
  rcases DataW.trod_slice Tryd.underlying44 h with ⟨hc, _⟩ | ⟨a, len, cap, elems, rest, m, _, hc, _, hb, hl, hcap, he, hel, _⟩
  · exact ⟨none, 0, [], by simpa using hc, Nat.le_refl _, ⟨none, 0, 0, 0, rfl, Nat.le_refl _, fun h => absurd h (by simp), fun i d hd => by simp at hd⟩, ⟨rfl, by decide, fun h => absurd h (by decide)⟩, fun d hd => by simp at hd, by simp⟩
  · have hcap : cap ≤ 9223372036854775807 := hcap
    rw [c51] at hel
    have hcell : ∀ i, i < len → ∃ d : Va, d.f2.size ≤ 9223372036854775807 ∧ W.cell? (a.add (i * 3)) = some (.int .i64 d.f0) ∧ W.cell? (a.add (i * 3 + 1)) = some (.int .i64 d.f1) ∧ W.cell? (a.add (i * 3 + 2)) = some (.string d.f2) := fun i hi => by
      have h1 := hel i hi
      rw [List.getElem?_eq_getElem (by omega)] at h1
      obtain ⟨cs, h2, h3⟩ := Option.bind_eq_some_iff.1 h1
      obtain ⟨_, hlen, hcs⟩ := World.cells?_some h2
      obtain ⟨y0, y1, y2, n', _, hl3, f0, f1, f2⟩ := Go.Deep.trod_struct3 Tryd.underlying51 h3
      rw [c51] at hl3
      obtain ⟨x0, x1, x2, rfl⟩ := list3 hl3
      simp only [c3, c9, List.drop_zero, List.drop_succ_cons, List.take_succ_cons, List.take_zero] at f0 f1 f2
      obtain ⟨kk, e0, _, _⟩ := DataW.trod_int Tryd.underlying3 f0
      obtain ⟨nn, e1, _, _⟩ := DataW.trod_int Tryd.underlying3 f1
      obtain ⟨s, e2, _, hs⟩ := DataW.trod_string Tryd.underlying9 f2
      simp only [List.cons.injEq, and_true] at e0 e1 e2
      subst e0 e1 e2
      have g0 := hcs 0 (by omega)
      have g1 := hcs 1 (by omega)
      have g2 := hcs 2 (by omega)
      rw [add_add] at g0 g1 g2
      exact ⟨⟨kk, nn, s⟩, hs, g0, g1, g2⟩
    obtain ⟨l, hll, hlp⟩ := gather hcell len (Nat.le_refl _)
    obtain ⟨cb, co, spot⟩ := a
    have hsp : 0 < len → spot = none := fun h0 => by
      obtain ⟨d, hd⟩ : ∃ d, l[0]? = some d := ⟨l[0]'(by omega), List.getElem?_eq_getElem (by omega)⟩
      obtain ⟨_, g, _⟩ := hlp 0 d hd
      simpa [Addr.add] using World.cell?_spot g
    refine ⟨some ⟨cb, co, spot⟩, cap, l, by rw [hll]; simpa using hc, by omega, ⟨some ⟨cb, co, spot⟩, cb, co, cap, rfl, by omega, fun h0 => by rw [hsp (by omega)], fun i d hd => ?_⟩, ⟨rfl, by omega, fun _ => ⟨_, rfl, fun j d hd => ⟨_, rfl, PValueForms.k51_mk W d, fun i u hu => ?_⟩⟩⟩, fun d hd => ?_, by omega⟩
    · obtain ⟨_, g0, g1, g2⟩ := hlp i d hd
      have hi : i < len := by have := (List.getElem?_eq_some_iff.1 hd).1; omega
      have hspot := hsp (by omega)
      subst hspot
      have hadd : ∀ j, ((⟨cb, co, none⟩ : Addr).add j) = ⟨cb, co + j, none⟩ := fun j => by
        unfold Addr.add
        split <;> simp_all
      rw [hadd] at g0 g1 g2
      exact ⟨g0, by rw [Nat.add_assoc]; exact g1, by rw [Nat.add_assoc]; exact g2⟩
    · obtain ⟨_, g0, g1, g2⟩ := hlp j d hd
      match i, hu with
      | 0, hu => simp at hu; subst hu; exact g0
      | 1, hu => simp at hu; subst hu; exact g1
      | 2, hu => simp at hu; subst hu; exact g2
    · obtain ⟨i, hi, rfl⟩ := List.getElem_of_mem hd
      exact (hlp i _ (List.getElem?_eq_getElem hi)).1
theorem open_feat {r : Reach} {v : Value} {d : DataW H} {p : List MemPlace} (hv : Value.okWide Tryd.prog W r b0 46 v) (h : DataW.Trod enc Tryd.prog W 0 sp held 46 v d p) :
    ∃ (row : Int) (A : Option Addr) (cb : Nat) (lb : List Int) (pa : Option Addr) (cap : Nat) (vs : List Va), v = featV row A lb.length cb (.slice pa vs.length cap) ∧ FeatOk W A cb lb pa cap vs ∧ (∀ x ∈ vs, x.f2.size ≤ 9223372036854775807) ∧ vs.length ≤ 9223372036854775807 := by
  obtain ⟨cs, rfl, hsz⟩ := okWide_struct Tryd.underlying46 hv
  obtain ⟨v0, v1, v2, rfl⟩ := array3 (hsz.trans c46)
  obtain ⟨fuel, hf⟩ := h
  obtain ⟨z0, z1, z2, m, _, _, k0, k1, k2⟩ := Go.Deep.trod_struct3 Tryd.underlying46 hf
  simp only [Value.cells, c3, c43, c44, List.drop_zero, List.drop_succ_cons, List.take_succ_cons, List.take_zero] at k0 k1 k2
  obtain ⟨row, e0, _, _⟩ := DataW.trod_int Tryd.underlying3 k0
  obtain ⟨A, cb, lb, rfl, hc1, hC1⟩ := open_bytes k1
  obtain ⟨pa, cap, vs, rfl, hc2, hV, hC2, hz, hl⟩ := open_vals k2
  simp only [List.cons.injEq, and_true] at e0
  subst e0
  exact ⟨row, A, cb, lb, pa, cap, vs, rfl, ⟨hC1, hc1, hV, hc2, hC2⟩, hz, hl⟩
end
abbrev laidL : List (String × DataW Unit) := [("math/bits.deBruijn32tab", Rows.laid_math_bits_deBruijn32tab), ("math/bits.deBruijn64tab", Rows.laid_math_bits_deBruijn64tab), ("internal/strconv.uint64pow10", Rows.laid_internal_strconv_uint64pow10)]
theorem tabP : Tryd.prog.globalNamed "internal/strconv.uint64pow10" = some 4 := by kernel_rfl
theorem tabPType : (Tryd.prog.globals[4]?).map (·.type) = some 266 := by kernel_rfl
theorem pow_is {W : World} (h : laidMet Tryd.prog laidL W) : PowIs W := by
  obtain ⟨ps, h0, _⟩ := h
  obtain ⟨_, _, _, _, _, _, _, _, _, _, h1, _⟩ := h0
  obtain ⟨_, _, _, _, _, _, _, _, _, _, h2, _⟩ := h1
  obtain ⟨g, t, cs, fuel, p, q, hg, ht, hvar, hd, _, _⟩ := h2
  obtain rfl := Option.some.inj (tabP.symm.trans hg)
  obtain rfl := Option.some.inj (tabPType.symm.trans ht)
  unfold PowIs Lib.TabIs
  rw [hvar, ← Lib.cells_of_tab (k := .u64) (zs := Lib.pow10Tab) Tryd.underlying266 (by kernel_rfl) (by kernel_rfl) (by kernel_rfl) hd]
end Go.Proofs.YtcjidlgmbjebjaaDoor.vf

namespace Go.Proofs.YtcjidlgmbjebjaaDoor.vb
open Go Go.ChangeShapes Go.WideShapes Go.RowKit Go.Joins Go.Proofs.YtcjidlgmbjebjaaDoorW.PrintWords
open vf (c3 c5 c9 c43 c44 c46 c51 list3 list1 gather)
theorem wf64 {n : Int} (h : (Lit.int .i64 n).wf = true) : -9223372036854775808 ≤ n ∧ n ≤ 9223372036854775807 := by
  simp only [Lit.wf, Bool.and_eq_true, decide_eq_true_eq] at h
  obtain ⟨h1, h2⟩ := h
  have e1 : IntKind.i64.min = -9223372036854775808 := by decide
  have e2 : IntKind.i64.max = 9223372036854775807 := by decide
  omega
theorem wfu64 {n : Int} (h : (Lit.int .u64 n).wf = true) : 0 ≤ n ∧ n < 18446744073709551616 := by
  simp only [Lit.wf, Bool.and_eq_true, decide_eq_true_eq] at h
  obtain ⟨h1, h2⟩ := h
  have e1 : IntKind.u64.min = 0 := by decide
  have e2 : IntKind.u64.max = 18446744073709551615 := by decide
  omega
theorem wf8 {n : Int} (h : (Lit.int .u8 n).wf = true) : 0 ≤ n ∧ n < 256 := by
  simp only [Lit.wf, Bool.and_eq_true, decide_eq_true_eq] at h
  obtain ⟨h1, h2⟩ := h
  have e1 : IntKind.u8.min = 0 := by decide
  have e2 : IntKind.u8.max = 255 := by decide
  omega
section
variable {H : Type} {enc : TypeId × Value → H} {W : World} {b0 : Nat} {sp : Nat → Bool} {held : Bool}
theorem open_uint {r : Reach} {v : Value} {d : DataW H} {p : List MemPlace} (hv : Value.okWide Tryd.prog W r b0 80 v) (h : DataW.Trod enc Tryd.prog W 0 sp held 80 v d p) : ∃ n : Int, v = .int .u64 n ∧ 0 ≤ n ∧ n < 18446744073709551616 := by
  obtain ⟨n, rfl⟩ := okWide_int Tryd.underlying80 hv
  obtain ⟨fuel, hf⟩ := h
  obtain ⟨m, e, _, hw⟩ := DataW.trod_int Tryd.underlying80 hf
  simp [Value.cells] at e
  subst e
  exact ⟨n, rfl, wfu64 hw⟩
theorem open_bytes {n : Nat} {c : Value} {y : DataW H × List MemPlace} (h : DataW.trod enc Tryd.prog W b0 sp held n 43 [c] = some y) : ∃ (A : Option Addr) (cb : Nat) (lb : List Int), c = .slice A lb.length cb ∧ lb.length ≤ cb ∧ Kd.C (Kd.int .u8) W A lb.length lb ∧ Byt lb := by
  rcases DataW.trod_slice Tryd.underlying43 h with ⟨hc, _⟩ | ⟨a, len, cap, elems, rest, m, _, hc, _, hb, hl, hcap, he, hel, _⟩
  · exact ⟨none, 0, [], by simpa using hc, Nat.le_refl _, C_nil W, fun x hx => by simp at hx⟩
  · have hcap : cap ≤ 9223372036854775807 := hcap
    rw [c5] at hel
    have hcell : ∀ i, i < len → ∃ d : Int, (0 ≤ d ∧ d < 256) ∧ W.cell? (a.add i) = some (.int .u8 d) := fun i hi => by
      have h1 := hel i hi
      rw [List.getElem?_eq_getElem (by omega)] at h1
      obtain ⟨cs, h2, h3⟩ := Option.bind_eq_some_iff.1 h1
      obtain ⟨_, hlen, hcs⟩ := World.cells?_some h2
      obtain ⟨z, e1, _, hz⟩ := DataW.trod_int Tryd.underlying5 h3
      subst e1
      have := hcs 0 (by simp)
      rw [vf.add_add, Nat.mul_one, Nat.add_zero] at this
      exact ⟨z, wf8 hz, this⟩
    obtain ⟨l, hll, hlp⟩ := gather hcell len (Nat.le_refl _)
    refine ⟨some a, cap, l, by rw [hll]; simpa using hc, by omega, ⟨rfl, by omega, fun _ => ⟨a, rfl, fun j p hp => ⟨[.int .u8 p], rfl, rfl, fun i u hu => ?_⟩⟩⟩, fun x hx => ?_⟩
    · have hi : i = 0 := by have := (List.getElem?_eq_some_iff.1 hu).1; simp at this; exact this
      subst hi
      simp at hu
      subst hu
      have := (hlp j p hp).2
      show W.cell? (a.add (j * 1 + 0)) = _
      rw [Nat.mul_one, Nat.add_zero]
      exact this
    · obtain ⟨i, hi, rfl⟩ := List.getElem_of_mem hx
      exact (hlp i _ (List.getElem?_eq_getElem hi)).1
theorem open_vals {n : Nat} {c : Value} {y : DataW H × List MemPlace} (h : DataW.trod enc Tryd.prog W b0 sp held n 44 [c] = some y) : ∃ (pa : Option Addr) (cap : Nat) (vs : List Va), c = .slice pa vs.length cap ∧ vs.length ≤ cap ∧ VsV W (.slice pa vs.length cap) vs ∧ Kd.C PValueForms.k51 W pa vs.length vs ∧
    (∀ x ∈ vs, inI x) ∧ vs.length ≤ 9223372036854775807 := by
  rcases DataW.trod_slice Tryd.underlying44 h with ⟨hc, _⟩ | ⟨a, len, cap, elems, rest, m, _, hc, _, hb, hl, hcap, he, hel, _⟩
  · exact ⟨none, 0, [], by simpa using hc, Nat.le_refl _, ⟨none, 0, 0, 0, rfl, Nat.le_refl _, fun h => absurd h (by simp), fun i d hd => by simp at hd⟩, ⟨rfl, by decide, fun h => absurd h (by decide)⟩, fun d hd => by simp at hd, by simp⟩
  · have hcap : cap ≤ 9223372036854775807 := hcap
    rw [c51] at hel
    have hcell : ∀ i, i < len → ∃ d : Va, inI d ∧ W.cell? (a.add (i * 3)) = some (.int .i64 d.f0) ∧ W.cell? (a.add (i * 3 + 1)) = some (.int .i64 d.f1) ∧ W.cell? (a.add (i * 3 + 2)) = some (.string d.f2) := fun i hi => by
      have h1 := hel i hi
      rw [List.getElem?_eq_getElem (by omega)] at h1
      obtain ⟨cs, h2, h3⟩ := Option.bind_eq_some_iff.1 h1
      obtain ⟨_, hlen, hcs⟩ := World.cells?_some h2
      obtain ⟨y0, y1, y2, n', _, hl3, f0, f1, f2⟩ := Go.Deep.trod_struct3 Tryd.underlying51 h3
      rw [c51] at hl3
      obtain ⟨x0, x1, x2, rfl⟩ := list3 hl3
      simp only [c3, c9, List.drop_zero, List.drop_succ_cons, List.take_succ_cons, List.take_zero] at f0 f1 f2
      obtain ⟨kk, e0, _, _⟩ := DataW.trod_int Tryd.underlying3 f0
      obtain ⟨nn, e1, _, hw⟩ := DataW.trod_int Tryd.underlying3 f1
      obtain ⟨s, e2, _, hs⟩ := DataW.trod_string Tryd.underlying9 f2
      simp only [List.cons.injEq, and_true] at e0 e1 e2
      subst e0 e1 e2
      have g0 := hcs 0 (by omega)
      have g1 := hcs 1 (by omega)
      have g2 := hcs 2 (by omega)
      rw [vf.add_add] at g0 g1 g2
      exact ⟨⟨kk, nn, s⟩, ⟨(wf64 hw).1, (wf64 hw).2, hs⟩, g0, g1, g2⟩
    obtain ⟨l, hll, hlp⟩ := gather hcell len (Nat.le_refl _)
    obtain ⟨cb, co, spot⟩ := a
    have hsp : 0 < len → spot = none := fun h0 => by
      obtain ⟨d, hd⟩ : ∃ d, l[0]? = some d := ⟨l[0]'(by omega), List.getElem?_eq_getElem (by omega)⟩
      obtain ⟨_, g, _⟩ := hlp 0 d hd
      simpa [Addr.add] using World.cell?_spot g
    refine ⟨some ⟨cb, co, spot⟩, cap, l, by rw [hll]; simpa using hc, by omega, ⟨some ⟨cb, co, spot⟩, cb, co, cap, rfl, by omega, fun h0 => by rw [hsp (by omega)], fun i d hd => ?_⟩, ⟨rfl, by omega, fun _ => ⟨_, rfl, fun j d hd => ⟨_, rfl, PValueForms.k51_mk W d, fun i u hu => ?_⟩⟩⟩, fun d hd => ?_, by omega⟩
    · obtain ⟨_, g0, g1, g2⟩ := hlp i d hd
      have hi : i < len := by have := (List.getElem?_eq_some_iff.1 hd).1; omega
      have hspot := hsp (by omega)
      subst hspot
      have hadd : ∀ j, ((⟨cb, co, none⟩ : Addr).add j) = ⟨cb, co + j, none⟩ := fun j => by
        unfold Addr.add
        split <;> simp_all
      rw [hadd] at g0 g1 g2
      exact ⟨g0, by rw [Nat.add_assoc]; exact g1, by rw [Nat.add_assoc]; exact g2⟩
    · obtain ⟨_, g0, g1, g2⟩ := hlp j d hd
      match i, hu with
      | 0, hu => simp at hu; subst hu; exact g0
      | 1, hu => simp at hu; subst hu; exact g1
      | 2, hu => simp at hu; subst hu; exact g2
    · obtain ⟨i, hi, rfl⟩ := List.getElem_of_mem hd
      exact (hlp i _ (List.getElem?_eq_getElem hi)).1
theorem open_feat {r : Reach} {v : Value} {d : DataW H} {p : List MemPlace} (hv : Value.okWide Tryd.prog W r b0 46 v) (h : DataW.Trod enc Tryd.prog W 0 sp held 46 v d p) :
    ∃ (row : Int) (A : Option Addr) (cb : Nat) (lb : List Int) (pa : Option Addr) (cap : Nat) (vs : List Va), v = featV row A lb.length cb (.slice pa vs.length cap) ∧ FeatOk W A cb lb pa cap vs ∧ (∀ x ∈ vs, inI x) ∧ vs.length ≤ 9223372036854775807 ∧ Byt lb := by
  obtain ⟨cs, rfl, hsz⟩ := okWide_struct Tryd.underlying46 hv
  obtain ⟨v0, v1, v2, rfl⟩ := vf.array3 (hsz.trans c46)
  obtain ⟨fuel, hf⟩ := h
  obtain ⟨z0, z1, z2, m, _, _, k0, k1, k2⟩ := Go.Deep.trod_struct3 Tryd.underlying46 hf
  simp only [Value.cells, c3, c43, c44, List.drop_zero, List.drop_succ_cons, List.take_succ_cons, List.take_zero] at k0 k1 k2
  obtain ⟨row, e0, _, _⟩ := DataW.trod_int Tryd.underlying3 k0
  obtain ⟨A, cb, lb, rfl, hc1, hC1, hbt⟩ := open_bytes k1
  obtain ⟨pa, cap, vs, rfl, hc2, hV, hC2, hz, hl⟩ := open_vals k2
  simp only [List.cons.injEq, and_true] at e0
  subst e0
  exact ⟨row, A, cb, lb, pa, cap, vs, rfl, ⟨hC1, hc1, hV, hc2, hC2⟩, hz, hl, hbt⟩
end
abbrev laidL : List (String × DataW Unit) := [("math/bits.deBruijn32tab", Rows.laid_math_bits_deBruijn32tab), ("math/bits.deBruijn64tab", Rows.laid_math_bits_deBruijn64tab), ("internal/strconv.uint64pow10", Rows.laid_internal_strconv_uint64pow10), ("strconv.ErrRange", Rows.laid_strconv_ErrRange), ("strconv.ErrSyntax", Rows.laid_strconv_ErrSyntax)]
theorem tabE : Tryd.prog.globalNamed "strconv.ErrSyntax" = some 2 := by kernel_rfl
theorem tabEType : (Tryd.prog.globals[2]?).map (·.type) = some 146 := by kernel_rfl
theorem pow_is {W : World} (h : laidMet Tryd.prog laidL W) : PowIs W := by
  obtain ⟨ps, ⟨g, t, cs, fuel, p, q, hg, ht, hvar, hd, _⟩, _⟩ := h.tail.tail
  obtain rfl := Option.some.inj (vf.tabP.symm.trans hg)
  obtain rfl := Option.some.inj (vf.tabPType.symm.trans ht)
  unfold PowIs Lib.TabIs
  rw [hvar, ← Lib.cells_of_tab (k := .u64) (zs := Lib.pow10Tab) Tryd.underlying266 (by kernel_rfl) (by kernel_rfl) (by kernel_rfl) hd]
theorem err_is {W : World} (h : laidMet Tryd.prog laidL W) : ErrIs W := by
  obtain ⟨ps, ⟨g, t, cs, fuel, p, q, hg, ht, hvar, hd, _⟩, _⟩ := h.tail.tail.tail.tail
  obtain rfl := Option.some.inj (tabE.symm.trans hg)
  obtain rfl := Option.some.inj (tabEType.symm.trans ht)
  obtain ⟨l⟩ := cs
  obtain ⟨f1, u, v, rfl, hn, h1⟩ := iface_of_trod Tryd.underlying146 hd
  exact ⟨_, by simpa using World.var?_cell hg hvar 0, .inr ⟨_, _, rfl⟩⟩
end Go.Proofs.YtcjidlgmbjebjaaDoor.vb
