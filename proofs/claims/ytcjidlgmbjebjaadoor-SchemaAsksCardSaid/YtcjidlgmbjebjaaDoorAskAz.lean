import Derived.Test.YtcjidlgmbjebjaaDoorAskAx
import Derived.Test.YtcjidlgmbjebjaaDoorAskAy
set_option linter.unusedVariables false
set_option linter.unusedSimpArgs false
set_option maxRecDepth 100000
namespace Go.Proofs.YtcjidlgmbjebjaaDoor
open Go Go.RowKit
def okAt (cs : List Col) (i : Nat) : Bool := match cs[i]? with | none => true | some c => colOk c.1 c.2.1 && !decide (c.1.toList ∈ (cs.take i).map (fun d => d.1.toList))
def allOk (cs : List Col) : Bool := (List.range cs.length).all (okAt cs)
theorem allOk_true {cs : List Col} (h : ∀ j, j < cs.length → okAt cs j = true) : allOk cs = true := by
  unfold allOk; rw [List.all_eq_true]; intro j hj; exact h j (List.mem_range.1 hj)
theorem allOk_false {cs : List Col} {i : Nat} (hi : i < cs.length) (h : okAt cs i = false) : allOk cs = false := by
  unfold allOk; rw [List.all_eq_false]; exact ⟨i, List.mem_range.2 hi, by rw [h]; simp⟩
theorem okAt_bad {cs : List Col} {i : Nat} {c : Col} (hc : cs[i]? = some c) (h : colOk c.1 c.2.1 = false) : okAt cs i = false := by unfold okAt; rw [hc]; simp [h]
theorem okAt_dup {cs : List Col} {i : Nat} {c : Col} (hc : cs[i]? = some c) (h : c.1.toList ∈ (cs.take i).map (fun d => d.1.toList)) : okAt cs i = false := by
  unfold okAt; rw [hc]; simp only [decide_eq_true h]; simp
theorem okAt_ok {cs : List Col} {i : Nat} {c : Col} (hc : cs[i]? = some c) (h1 : colOk c.1 c.2.1 = true) (h : ¬ c.1.toList ∈ (cs.take i).map (fun d => d.1.toList)) : okAt cs i = true := by
  unfold okAt; rw [hc]; simp only [decide_eq_false h, h1]; rfl
def headOk (nm : ByteArray) (k srs : Int) (n : Nat) : Bool := Utf.nmOk nm && (decide (0 ≤ k) && (decide (k ≤ 7) && (decide (-2147483648 ≤ srs) && (decide (srs ≤ 2147483647) && decide (n ≤ 4)))))
def goodSch (nm : ByteArray) (k srs : Int) (cs : List Col) : Int := bif headOk nm k srs cs.length then (bif allOk cs then 0 else 2) else 2
theorem good_head {nm : ByteArray} {k srs : Int} {cs : List Col} (h : headOk nm k srs cs.length = false) : goodSch nm k srs cs = 2 := by unfold goodSch; rw [h]; rfl
theorem good_tail {nm : ByteArray} {k srs : Int} {cs : List Col} (h : headOk nm k srs cs.length = true) : goodSch nm k srs cs = (bif allOk cs then 0 else 2) := by unfold goodSch; rw [h]; rfl
set_option maxHeartbeats 4000000 in
theorem good_bad (nm : ByteArray) (k srs : Int) (v0 : Value) (cs : List Col) (W : World) (hs : nm.size ≤ 9223372036854775807) (hv0 : ColsV W v0 cs) (hh : headOk nm k srs cs.length = false) :
    Calls Tryd.prog 15 #[schV nm k srs v0] W (RetS (.int .i64 2) W) := by
  obtain ⟨pa, b, o, cap, rfl, _⟩ := hv0
  have hc := fun w => name_val nm w hs
  unfold headOk at hh
  unfold schV
  cases hg : Utf.nmOk nm with
  | false =>
    rw [hg] at hc
    have HC := Lib.hid hc; clear hc hg hh
    go_enter Tryd.func15, Tryd.ntmps15
    go_wp2_with fail
    refine (HC.out _).mono ?_
    rintro e w1 ⟨rfl, hb⟩
    have hB := below_step (show Below W.heap.size W _ from by go_grown) hb
    clear hb
    dsimp only
    go_wp2_with fail
    go_ret
    exact ⟨rfl, hB⟩
  | true =>
    rw [hg, Bool.true_and] at hh
    rw [hg] at hc
    have HC := Lib.hid hc; clear hc hg
    have h5 : k < 0 ∨ (0 ≤ k ∧ 7 < k) ∨ (0 ≤ k ∧ k ≤ 7 ∧ srs < -2147483648) ∨ (0 ≤ k ∧ k ≤ 7 ∧ -2147483648 ≤ srs ∧ 2147483647 < srs) ∨ (0 ≤ k ∧ k ≤ 7 ∧ -2147483648 ≤ srs ∧ srs ≤ 2147483647 ∧ 4 < cs.length) := by
      simp only [Bool.and_eq_false_iff, decide_eq_false_iff_not] at hh
      omega
    clear hh
    rcases h5 with k1 | ⟨k1, k2⟩ | ⟨k1, k2, k3⟩ | ⟨k1, k2, k3, k4⟩ | ⟨k1, k2, k3, k4, k5⟩
    all_goals
      go_enter Tryd.func15, Tryd.ntmps15
      go_wp2_with fail
      refine (HC.out _).mono ?_
      rintro e w1 ⟨rfl, hb⟩
      have c1 := cell_later (v := .int .i64 k) hb (show World.cell? _ ⟨W.heap.size, 1, none⟩ = some (.int .i64 k) from by go_cell)
      have c2 := cell_later (v := .int .i64 srs) hb (show World.cell? _ ⟨W.heap.size, 2, none⟩ = some (.int .i64 srs) from by go_cell)
      have c3 := cell_later (v := .slice pa cs.length cap) hb (show World.cell? _ ⟨W.heap.size, 3, none⟩ = some (.slice pa cs.length cap) from by go_cell)
      have hB := below_step (show Below W.heap.size W _ from by go_grown) hb
      clear hb
      dsimp only
      go_wp2_with fail
      go_ret
      exact ⟨rfl, hB⟩
end Go.Proofs.YtcjidlgmbjebjaaDoor
