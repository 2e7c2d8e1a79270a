/- What SchemaAsks's call is given: schemas and a name; the tables of types, of forms, of powers of ten. -/
import Derived.Test.YtcjidlgmbjebjaaDoorAskBo
import Derived.ChangeSame
import Derived.ChangeVars
import Derived.ProofKit
import Derived.Lib.SmallJoins
import Derived.Deep.Strs
import Derived.OpenShut
import Derived.Lib.LaidTab
import Derived.Test.YtcjidlgmbjebjaaDoorRows
set_option linter.unusedVariables false
set_option linter.unusedSimpArgs false
set_option maxRecDepth 100000
namespace Go.Proofs.YtcjidlgmbjebjaaDoor.sa
open Go Go.ChangeShapes Go.WideShapes Go.RowKit Go.Joins
theorem c3 : Tryd.prog.cellsOf 3 = 1 := by kernel_rfl
theorem c9 : Tryd.prog.cellsOf 9 = 1 := by kernel_rfl
theorem c4 : Tryd.prog.cellsOf 4 = 1 := by kernel_rfl
theorem c22 : Tryd.prog.cellsOf 22 = 1 := by kernel_rfl
theorem c24 : Tryd.prog.cellsOf 24 = 4 := by kernel_rfl
theorem c90 : Tryd.prog.cellsOf 90 = 3 := by kernel_rfl
theorem c93 : Tryd.prog.cellsOf 93 = 4 := by kernel_rfl
theorem c167 : Tryd.prog.cellsOf 167 = 2 := by kernel_rfl
theorem c168 : Tryd.prog.cellsOf 168 = 16 := by kernel_rfl
theorem array4 {α : Type} {cs : Array α} (h : cs.size = 4) : ∃ c0 c1 c2 c3, cs = #[c0, c1, c2, c3] := by
  obtain ⟨l⟩ := cs
  match l, h with
  | [c0, c1, c2, c3], _ => exact ⟨c0, c1, c2, c3, rfl⟩
theorem list3 {α : Type} {cs : List α} (h : cs.length = 3) : ∃ c0 c1 c2, cs = [c0, c1, c2] := by
  match cs, h with
  | [c0, c1, c2], _ => exact ⟨c0, c1, c2, rfl⟩
theorem gather {P : Nat → Col → Prop} {len : Nat} (h : ∀ i, i < len → ∃ c, P i c) : ∀ n, n ≤ len → ∃ l : List Col, l.length = n ∧ ∀ i c, l[i]? = some c → P i c
  | 0, _ => ⟨[], rfl, fun i c hc => by simp at hc⟩
  | n + 1, hn => by
    obtain ⟨l, hl, hp⟩ := gather h n (by omega)
    obtain ⟨c, hc⟩ := h n (by omega)
    refine ⟨l ++ [c], by simp [hl], fun i d hd => ?_⟩
    by_cases hi : i < n
    · rw [List.getElem?_append_left (by omega)] at hd
      exact hp i d hd
    · have hlt : i < (l ++ [c]).length := (List.getElem?_eq_some_iff.1 hd).1
      have : i = n := by simp [hl] at hlt; omega
      subst this
      rw [List.getElem?_append_right (by omega), hl] at hd
      simp at hd
      subst hd
      exact hc
section
variable {H : Type} {enc : TypeId × Value → H} {W : World} {b0 : Nat} {sp : Nat → Bool} {held : Bool}
theorem open_cols {n : Nat} {c : Value} {y : DataW H × List MemPlace} (h : DataW.trod enc Tryd.prog W b0 sp held n 22 [c] = some y) : ∃ cs : List Col, ColsV W c cs ∧ cs.length ≤ 9223372036854775807 ∧ ∀ d ∈ cs, d.1.size ≤ 9223372036854775807 := by
  rcases DataW.trod_slice Tryd.underlying22 h with ⟨hc, _⟩ | ⟨a, len, cap, elems, rest, m, _, hc, _, hb, hl, hcap, he, hel, _⟩
  · exact ⟨[], ⟨none, 0, 0, 0, by simpa using hc, Nat.le_refl _, fun h => absurd h (by simp), fun i d hd => by simp at hd⟩, by simp, fun d hd => by simp at hd⟩
  · have hcap : cap ≤ 9223372036854775807 := hcap
    rw [c90] at hel
    have hcell : ∀ i, i < len → ∃ d : Col, d.1.size ≤ 9223372036854775807 ∧ W.cell? ((a.add (i * 3)).add 0) = some (.string d.1) ∧ W.cell? ((a.add (i * 3)).add 1) = some (.int .i64 d.2.1) ∧ W.cell? ((a.add (i * 3)).add 2) = some (.bool d.2.2) := fun i hi => by
      have h1 := hel i hi
      rw [List.getElem?_eq_getElem (by omega)] at h1
      obtain ⟨cs, h2, h3⟩ := Option.bind_eq_some_iff.1 h1
      obtain ⟨_, hlen, hcs⟩ := World.cells?_some h2
      obtain ⟨y0, y1, y2, n', _, hl3, f0, f1, f2⟩ := Go.Deep.trod_struct3 Tryd.underlying90 h3
      rw [c90] at hl3
      obtain ⟨x0, x1, x2, rfl⟩ := list3 hl3
      simp only [c3, c4, c9, List.drop_zero, List.drop_succ_cons, List.take_succ_cons, List.take_zero] at f0 f1 f2
      obtain ⟨s, e0, _, hs⟩ := DataW.trod_string Tryd.underlying9 f0
      obtain ⟨kk, e1, _, _⟩ := DataW.trod_int Tryd.underlying3 f1
      obtain ⟨mm, e2, _⟩ := DataW.trod_bool Tryd.underlying4 f2
      simp only [List.cons.injEq, and_true] at e0 e1 e2
      subst e0 e1 e2
      exact ⟨(s, kk, mm), hs, hcs 0 (by omega), hcs 1 (by omega), hcs 2 (by omega)⟩
    obtain ⟨l, hll, hlp⟩ := gather hcell len (Nat.le_refl _)
    obtain ⟨cb, co, spot⟩ := a
    have hsp : 0 < len → spot = none := fun h0 => by
      obtain ⟨d, hd⟩ : ∃ d, l[0]? = some d := ⟨l[0]'(by omega), List.getElem?_eq_getElem (by omega)⟩
      obtain ⟨_, g, _⟩ := hlp 0 d hd
      simpa [Addr.add] using World.cell?_spot g
    refine ⟨l, ⟨some ⟨cb, co, spot⟩, cb, co, cap, by rw [hll]; simpa using hc, by omega, fun h0 => by rw [hsp (by omega)], fun i d hd => ?_⟩, by omega, fun d hd => ?_⟩
    · obtain ⟨_, g0, g1, g2⟩ := hlp i d hd
      have hi : i < len := by have := (List.getElem?_eq_some_iff.1 hd).1; omega
      have hspot := hsp (by omega)
      subst hspot
      have hadd : ∀ j, ((⟨cb, co, none⟩ : Addr).add (i * 3)).add j = ⟨cb, co + i * 3 + j, none⟩ := fun j => by
        unfold Addr.add
        split <;> split <;> simp_all <;> omega
      rw [hadd] at g0 g1 g2
      exact ⟨g0, g1, g2⟩
    · obtain ⟨i, hi, rfl⟩ := List.getElem_of_mem hd
      exact (hlp i _ (List.getElem?_eq_getElem hi)).1
theorem open_sch {r : Reach} {v : Value} {d : DataW H} {p : List MemPlace} (hv : Value.okWide Tryd.prog W r b0 24 v) (h : DataW.Trod enc Tryd.prog W 0 sp held 24 v d p) :
    ∃ (nm : ByteArray) (k srs : Int) (c : Value) (cs : List Col), v = schV nm k srs c ∧ nm.size ≤ 9223372036854775807 ∧ ColsV W c cs ∧ cs.length ≤ 9223372036854775807 ∧ ∀ d ∈ cs, d.1.size ≤ 9223372036854775807 := by
  obtain ⟨cs, rfl, hsz⟩ := okWide_struct Tryd.underlying24 hv
  obtain ⟨v0, v1, v2, v3, rfl⟩ := array4 (hsz.trans c24)
  obtain ⟨fuel, hf⟩ := h
  obtain ⟨z0, z1, z2, z3, m, _, _, k0, k1, k2, k3⟩ := trod_struct4 Tryd.underlying24 hf
  simp only [Value.cells, c3, c9, c22, List.drop_zero, List.drop_succ_cons, List.take_succ_cons, List.take_zero] at k0 k1 k2 k3
  obtain ⟨sn, e3, _, hs⟩ := DataW.trod_string Tryd.underlying9 k0
  obtain ⟨sk, e4, _, _⟩ := DataW.trod_int Tryd.underlying3 k1
  obtain ⟨sr, e5, _, _⟩ := DataW.trod_int Tryd.underlying3 k2
  obtain ⟨cs, hco, hl, hz⟩ := open_cols k3
  simp only [List.cons.injEq, and_true] at e3 e4 e5
  subst e3 e4 e5
  exact ⟨sn, sk, sr, _, cs, rfl, hs, hco, hl, hz⟩
theorem open_name {r : Reach} {v : Value} {d : DataW H} {p : List MemPlace} (hv : Value.okWide Tryd.prog W r b0 9 v) (h : DataW.Trod enc Tryd.prog W 0 sp held 9 v d p) : ∃ s : ByteArray, v = .string s ∧ s.size ≤ 9223372036854775807 := by
  obtain ⟨s, rfl⟩ := okWide_string Tryd.underlying9 hv
  obtain ⟨fuel, hf⟩ := h
  obtain ⟨s', e, _, hs⟩ := DataW.trod_string Tryd.underlying9 hf
  simp [Value.cells] at e
  subst e
  exact ⟨s, rfl, hs⟩
end
end Go.Proofs.YtcjidlgmbjebjaaDoor.sa
