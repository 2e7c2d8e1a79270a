/- The argument of CatalogNone, opened. -/
import Derived.Test.YtfmbianmccppjaaGreatDoorCatWalk
import Derived.ChangeSame
import Derived.ChangeVars
import Derived.ProofKit
import Derived.Lib.SmallJoins
import Derived.Deep.Strs
set_option linter.unusedVariables false
set_option linter.unusedSimpArgs false
set_option maxRecDepth 100000
namespace Go.Proofs.YtfmbianmccppjaaGreatDoor
open Go Go.ChangeShapes Go.WideShapes Go.RowKit Go.Joins
theorem c3 : Tryz.prog.cellsOf 3 = 1 := by kernel_rfl
theorem c9 : Tryz.prog.cellsOf 9 = 1 := by kernel_rfl
theorem c4 : Tryz.prog.cellsOf 4 = 1 := by kernel_rfl
theorem c22 : Tryz.prog.cellsOf 22 = 1 := by kernel_rfl
theorem c24 : Tryz.prog.cellsOf 24 = 4 := by kernel_rfl
theorem c26 : Tryz.prog.cellsOf 26 = 7 := by kernel_rfl
theorem c84 : Tryz.prog.cellsOf 84 = 3 := by kernel_rfl
theorem array7 {α : Type} {cs : Array α} (h : cs.size = 7) : ∃ c0 c1 c2 c3 c4 c5 c6, cs = #[c0, c1, c2, c3, c4, c5, c6] := by
  obtain ⟨l⟩ := cs
  match l, h with
  | [c0, c1, c2, c3, c4, c5, c6], _ => exact ⟨c0, c1, c2, c3, c4, c5, c6, rfl⟩
theorem list3 {α : Type} {cs : List α} (h : cs.length = 3) : ∃ c0 c1 c2, cs = [c0, c1, c2] := by
  match cs, h with
  | [c0, c1, c2], _ => exact ⟨c0, c1, c2, rfl⟩
section
variable {H : Type} {enc : TypeId × Value → H} {W : World} {b0 : Nat} {sp : Nat → Bool} {held : Bool}
theorem open_cols {n : Nat} {c : Value} {y : DataW H × List MemPlace} (h : DataW.trod enc Tryz.prog W b0 sp held n 22 [c] = some y) : ∃ ca cl cc, c = .slice ca cl cc ∧ cl ≤ 9223372036854775807 ∧ ColsOk W ca cl := by
  rcases DataW.trod_slice Tryz.underlying22 h with ⟨hc, _⟩ | ⟨a, len, cap, elems, rest, m, _, hc, _, hb, hl, hcap, he, hel, _⟩
  · exact ⟨none, 0, 0, by simpa using hc, by omega, .inl rfl⟩
  · have hcap : cap ≤ 9223372036854775807 := hcap
    refine ⟨some a, len, cap, by simpa using hc, by omega, ?_⟩
    rw [c84] at hel
    have hcell : ∀ i, i < len → ∃ (s : ByteArray) (kk : Int) (mm : Bool), s.size ≤ 9223372036854775807 ∧ W.cell? ((a.add (i * 3)).add 0) = some (.string s) ∧ W.cell? ((a.add (i * 3)).add 1) = some (.int .i64 kk) ∧ W.cell? ((a.add (i * 3)).add 2) = some (.bool mm) := fun i hi => by
      have h1 := hel i hi
      rw [List.getElem?_eq_getElem (by omega)] at h1
      obtain ⟨cs, h2, h3⟩ := Option.bind_eq_some_iff.1 h1
      obtain ⟨_, hlen, hcs⟩ := World.cells?_some h2
      obtain ⟨y0, y1, y2, n', _, hl3, f0, f1, f2⟩ := Go.Deep.trod_struct3 Tryz.underlying84 h3
      rw [c84] at hl3
      obtain ⟨x0, x1, x2, rfl⟩ := list3 hl3
      simp only [c3, c4, c9, List.drop_zero, List.drop_succ_cons, List.take_succ_cons, List.take_zero] at f0 f1 f2
      obtain ⟨s, e0, _, hs⟩ := DataW.trod_string Tryz.underlying9 f0
      obtain ⟨kk, e1, _, _⟩ := DataW.trod_int Tryz.underlying3 f1
      obtain ⟨mm, e2, _⟩ := DataW.trod_bool Tryz.underlying4 f2
      simp only [List.cons.injEq, and_true] at e0 e1 e2
      subst e0 e1 e2
      exact ⟨s, kk, mm, hs, hcs 0 (by omega), hcs 1 (by omega), hcs 2 (by omega)⟩
    by_cases h0 : len = 0
    · exact .inl h0
    · obtain ⟨s, _, _, _, g, _⟩ := hcell 0 (by omega)
      obtain ⟨cb, co, spot⟩ := a
      have hspot : spot = none := by simpa [Addr.add] using World.cell?_spot g
      subst hspot
      refine .inr ⟨cb, co, rfl, fun i hi => ?_⟩
      obtain ⟨s, kk, mm, hs, g0, g1, g2⟩ := hcell i hi
      have hadd : ∀ j, ((⟨cb, co, none⟩ : Addr).add (i * 3)).add j = ⟨cb, co + i * 3 + j, none⟩ := fun j => by
        unfold Addr.add
        split <;> split <;> simp_all <;> omega
      rw [hadd] at g0 g1 g2
      exact ⟨s, kk, mm, hs, g0, g1, g2⟩
theorem open_act {r : Reach} {v : Value} {d : DataW H} {p : List MemPlace} (hv : Value.okWide Tryz.prog W r b0 26 v) (h : DataW.Trod enc Tryz.prog W 0 sp held 26 v d p) :
    ∃ (kd id : Int) (nm sn : ByteArray) (sk sr : Int) (ca : Option Addr) (cl cc : Nat), v = .agg #[.int .i64 kd, .int .i64 id, .string nm, .string sn, .int .i64 sk, .int .i64 sr, .slice ca cl cc] ∧
      nm.size ≤ 9223372036854775807 ∧ sn.size ≤ 9223372036854775807 ∧ cl ≤ 9223372036854775807 ∧ ColsOk W ca cl := by
  obtain ⟨cs, rfl, hsz⟩ := okWide_struct Tryz.underlying26 hv
  obtain ⟨v0, v1, v2, v3, v4, v5, v6, rfl⟩ := array7 (hsz.trans c26)
  obtain ⟨fuel, hf⟩ := h
  obtain ⟨y0, y1, y2, y3, n, _, _, h0, h1, h2, h3⟩ := trod_struct4 Tryz.underlying26 hf
  simp only [Value.cells, c3, c9, c24, List.drop_zero, List.drop_succ_cons, List.take_succ_cons, List.take_zero] at h0 h1 h2 h3
  obtain ⟨z0, z1, z2, z3, m, _, _, k0, k1, k2, k3⟩ := trod_struct4 Tryz.underlying24 h3
  simp only [c3, c9, c22, List.drop_zero, List.drop_succ_cons, List.take_succ_cons, List.take_zero] at k0 k1 k2 k3
  obtain ⟨kd, e0, _, _⟩ := DataW.trod_int Tryz.underlying3 h0
  obtain ⟨id, e1, _, _⟩ := DataW.trod_int Tryz.underlying3 h1
  obtain ⟨nm, e2, _, hn⟩ := DataW.trod_string Tryz.underlying9 h2
  obtain ⟨sn, e3, _, hs⟩ := DataW.trod_string Tryz.underlying9 k0
  obtain ⟨sk, e4, _, _⟩ := DataW.trod_int Tryz.underlying3 k1
  obtain ⟨sr, e5, _, _⟩ := DataW.trod_int Tryz.underlying3 k2
  obtain ⟨ca, cl, cc, e6, hcl, hco⟩ := open_cols k3
  simp only [List.cons.injEq, and_true] at e0 e1 e2 e3 e4 e5
  subst e0 e1 e2 e3 e4 e5 e6
  exact ⟨kd, id, nm, sn, sk, sr, ca, cl, cc, rfl, hn, hs, hcl, hco⟩
end
end Go.Proofs.YtfmbianmccppjaaGreatDoor
