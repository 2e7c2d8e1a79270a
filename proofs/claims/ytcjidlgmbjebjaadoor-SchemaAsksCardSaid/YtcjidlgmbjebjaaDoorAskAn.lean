import Derived.Test.YtcjidlgmbjebjaaDoorAskAm
set_option linter.unusedVariables false
set_option linter.unusedSimpArgs false
set_option maxRecDepth 100000
namespace Go.Proofs.YtcjidlgmbjebjaaDoor
open Go Go.RowKit
def colOk (nm : ByteArray) (k : Int) : Bool := Utf.nmOk nm && (decide (1 ≤ k) && decide (k ≤ 3))
def colV (nm : ByteArray) (k : Int) (m : Bool) : Value := .agg #[.string nm, .int .i64 k, .bool m]
set_option maxHeartbeats 1000000 in
theorem colgood_val (nm : ByteArray) (k : Int) (m : Bool) (W : World) (hs : nm.size ≤ 9223372036854775807) :
    Calls Tryd.prog 50 #[colV nm k m] W (RetBool (colOk nm k) W) := by
  have hc := fun w => name_val nm w hs
  unfold colOk colV
  cases hg : Utf.nmOk nm with
  | false =>
    rw [hg] at hc
    have HC := Lib.hid hc; clear hc hg
    rw [Bool.false_and]
    go_enter Tryd.func50, Tryd.ntmps50
    go_wp2_with fail
    refine (HC.out _).mono ?_
    rintro e w1 ⟨rfl, hb⟩
    have hB := below_step (show Below W.heap.size W _ from by go_grown) hb
    clear hb
    dsimp only
    go_wp2_with fail
    go_ret
    exact ⟨rfl, hB⟩
  | true =>
    rw [hg] at hc
    have HC := Lib.hid hc; clear hc hg
    rw [Bool.true_and]
    by_cases k1 : 1 ≤ k
    · by_cases k3 : k ≤ 3
      all_goals
        have HR := Lib.hid (show (decide (1 ≤ k) && decide (k ≤ 3)) = decide (k ≤ 3) by simp [k1])
        rw [HR.out]
        go_enter Tryd.func50, Tryd.ntmps50
        go_wp2_with fail
        refine (HC.out _).mono ?_
        rintro e w1 ⟨rfl, hb⟩
        have c1 := cell_later (v := .int .i64 k) hb (show World.cell? _ ⟨W.heap.size, 1, none⟩ = some (.int .i64 k) from by go_cell)
        have hB := below_step (show Below W.heap.size W _ from by go_grown) hb
        clear hb
        dsimp only
        go_wp2_with fail
        go_ret
        exact ⟨by simp [k1, k3], hB⟩
    · have HR := Lib.hid (show (decide (1 ≤ k) && decide (k ≤ 3)) = false by simp [k1])
      rw [HR.out]
      go_enter Tryd.func50, Tryd.ntmps50
      go_wp2_with fail
      refine (HC.out _).mono ?_
      rintro e w1 ⟨rfl, hb⟩
      have c1 := cell_later (v := .int .i64 k) hb (show World.cell? _ ⟨W.heap.size, 1, none⟩ = some (.int .i64 k) from by go_cell)
      have hB := below_step (show Below W.heap.size W _ from by go_grown) hb
      clear hb
      dsimp only
      go_wp2_with fail
      go_ret
      exact ⟨rfl, hB⟩
end Go.Proofs.YtcjidlgmbjebjaaDoor
