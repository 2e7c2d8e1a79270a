import Derived.Test.YtcjidlgmbjebjaaDoorAskBa
set_option linter.unusedVariables false
set_option linter.unusedSimpArgs false
set_option maxRecDepth 100000
namespace Go.Proofs.YtcjidlgmbjebjaaDoor
open Go Go.RowKit
set_option maxHeartbeats 4000000 in
theorem refgood_bad (nm : ByteArray) (k srs : Int) (v0 : Value) (cs : List Col) (W : World) (hs : nm.size ≤ 9223372036854775807) (hv0 : ColsV W v0 cs) (hh : headOk nm k srs cs.length = false) :
    Calls Tryd.prog 16 #[schV nm k srs v0] W (RetS (.int .i64 2) W) := by
  obtain ⟨pa, b, o, cap, rfl, _⟩ := hv0
  have hc := fun w => refname_val nm w hs
  unfold headOk at hh
  unfold schV
  cases hg : Utf.nmOk nm with
  | false =>
    rw [hg] at hc
    have HC := Lib.hid hc; clear hc hg hh
    go_enter Tryd.func16, Tryd.ntmps16
    go_wp2_with fail
    refine (HC.out _).mono ?_
    rintro e w1 ⟨rfl, hb⟩
    have hB := below_step (show Below W.heap.size W _ from by go_grown) hb
    clear hb
    dsimp only
    go_wp2_with fail
    go_ret
    exact ⟨rfl, hB⟩
  | true =>
    rw [hg, Bool.true_and] at hh
    rw [hg] at hc
    have HC := Lib.hid hc; clear hc hg
    have h5 : k < 0 ∨ (0 ≤ k ∧ 7 < k) ∨ (0 ≤ k ∧ k ≤ 7 ∧ srs < -2147483648) ∨ (0 ≤ k ∧ k ≤ 7 ∧ -2147483648 ≤ srs ∧ 2147483647 < srs) ∨ (0 ≤ k ∧ k ≤ 7 ∧ -2147483648 ≤ srs ∧ srs ≤ 2147483647 ∧ 4 < cs.length) := by
      simp only [Bool.and_eq_false_iff, decide_eq_false_iff_not] at hh
      omega
    clear hh
    rcases h5 with k1 | ⟨k1, k2⟩ | ⟨k1, k2, k3⟩ | ⟨k1, k2, k3, k4⟩ | ⟨k1, k2, k3, k4, k5⟩
    all_goals
      go_enter Tryd.func16, Tryd.ntmps16
      go_wp2_with fail
      refine (HC.out _).mono ?_
      rintro e w1 ⟨rfl, hb⟩
      have c1 := cell_later (v := .int .i64 k) hb (show World.cell? _ ⟨W.heap.size, 1, none⟩ = some (.int .i64 k) from by go_cell)
      have c2 := cell_later (v := .int .i64 srs) hb (show World.cell? _ ⟨W.heap.size, 2, none⟩ = some (.int .i64 srs) from by go_cell)
      have c3 := cell_later (v := .slice pa cs.length cap) hb (show World.cell? _ ⟨W.heap.size, 3, none⟩ = some (.slice pa cs.length cap) from by go_cell)
      have hB := below_step (show Below W.heap.size W _ from by go_grown) hb
      clear hb
      dsimp only
      go_wp2_with fail
      go_ret
      exact ⟨rfl, hB⟩
end Go.Proofs.YtcjidlgmbjebjaaDoor
