import Derived.Test.YtcjidlgmbjebjaaDoorAskAn
import Derived.Laws.PanicsMore
set_option linter.unusedVariables false
set_option linter.unusedSimpArgs false
set_option maxRecDepth 100000
namespace Go.Proofs.YtcjidlgmbjebjaaDoor
open Go Go.RowKit
def FormsAt (w : World) : Prop := w.cell? ⟨1, 2, none⟩ = some (.string ⟨#[80, 79, 73, 78, 84]⟩) ∧ w.cell? ⟨1, 4, none⟩ = some (.string ⟨#[76, 73, 78, 69, 83, 84, 82, 73, 78, 71]⟩) ∧ w.cell? ⟨1, 6, none⟩ = some (.string ⟨#[80, 79, 76, 89, 71, 79, 78]⟩) ∧ w.cell? ⟨1, 8, none⟩ = some (.string ⟨#[77, 85, 76, 84, 73, 80, 79, 73, 78, 84]⟩) ∧ w.cell? ⟨1, 10, none⟩ = some (.string ⟨#[77, 85, 76, 84, 73, 76, 73, 78, 69, 83, 84, 82, 73, 78, 71]⟩) ∧ w.cell? ⟨1, 12, none⟩ = some (.string ⟨#[77, 85, 76, 84, 73, 80, 79, 76, 89, 71, 79, 78]⟩) ∧ w.cell? ⟨1, 14, none⟩ = some (.string ⟨#[71, 69, 79, 77, 69, 84, 82, 89, 67, 79, 76, 76, 69, 67, 84, 73, 79, 78]⟩)
def formName (k : Int) : ByteArray := if k = 1 then ⟨#[80, 79, 73, 78, 84]⟩ else if k = 2 then ⟨#[76, 73, 78, 69, 83, 84, 82, 73, 78, 71]⟩ else if k = 3 then ⟨#[80, 79, 76, 89, 71, 79, 78]⟩ else if k = 4 then ⟨#[77, 85, 76, 84, 73, 80, 79, 73, 78, 84]⟩ else if k = 5 then ⟨#[77, 85, 76, 84, 73, 76, 73, 78, 69, 83, 84, 82, 73, 78, 71]⟩ else if k = 6 then ⟨#[77, 85, 76, 84, 73, 80, 79, 76, 89, 71, 79, 78]⟩ else if k = 7 then ⟨#[71, 69, 79, 77, 69, 84, 82, 89, 67, 79, 76, 76, 69, 67, 84, 73, 79, 78]⟩ else ⟨#[]⟩
theorem index_arr (t n : Nat) (cs : Array Value) (i : Nat) (z : Int) (hz : z = (i : Int)) (v : Value) (h : Tryd.prog.underlying t = some (.array n 9)) (hi : i < n) (hv : cs[i]? = some v) (w : World) :
    (Instr.index t (.agg cs) (.int .i64 z)).run Tryd.prog w = .ok v w := by
  subst hz
  have hn : (0 : Int) ≤ i ∧ (i : Int) < (n : Int) := by omega
  simp [Instr.index, run_underlying h, asIntOf, hn, go_sem, hi, hv]
theorem iskind_val (k : Int) (w : World) : Calls Tryd.prog 108 #[.int .i64 k] w (Same1 (.bool (decide (1 ≤ k) && decide (k ≤ 7))) w) := by
  by_cases h1 : 1 ≤ k
  · by_cases h7 : k ≤ 7
    all_goals
      go_enter Tryd.func108, Tryd.ntmps108
      go_wp2
      go_ret
      exact ⟨by simp [h1, h7], rfl⟩
  · go_enter Tryd.func108, Tryd.ntmps108
    go_wp2
    go_ret
    exact ⟨by simp; omega, rfl⟩
set_option maxHeartbeats 1000000 in
theorem form_val (k : Int) (w : World) (ht : FormsAt w) : Calls Tryd.prog 52 #[.int .i64 k] w (Same1 (.string (formName k)) w) := by
  obtain ⟨c1, c2, c3, c4, c5, c6, c7⟩ := ht
  have hc := fun w => iskind_val k w
  by_cases h : 1 ≤ k ∧ k ≤ 7
  · rw [show (decide (1 ≤ k) && decide (k ≤ 7)) = true by simp [h]] at hc
    have HC := Lib.hid hc; clear hc
    have h7 : k = 1 ∨ k = 2 ∨ k = 3 ∨ k = 4 ∨ k = 5 ∨ k = 6 ∨ k = 7 := by omega
    clear h
    rcases h7 with rfl | rfl | rfl | rfl | rfl | rfl | rfl
    all_goals
      go_enter Tryd.func52, Tryd.ntmps52
      go_wp2_with fail
      refine (HC.out _).mono ?_
      rintro e w1 ⟨rfl, rfl⟩
      dsimp only
      go_wp2_with fail
      go_ret
      exact ⟨rfl, rfl⟩
  · rw [show (decide (1 ≤ k) && decide (k ≤ 7)) = false by simp; omega] at hc
    have HC := Lib.hid hc; clear hc
    have hn : formName k = ⟨#[]⟩ := by unfold formName; repeat' (rw [if_neg (by omega)])
    rw [hn]; clear hn
    go_enter Tryd.func52, Tryd.ntmps52
    go_wp2_with fail
    refine (HC.out _).mono ?_
    rintro e w1 ⟨rfl, rfl⟩
    dsimp only
    go_wp2_with fail
    go_ret
    exact ⟨rfl, rfl⟩
set_option maxHeartbeats 1000000 in
theorem refform_val (k : Int) (w : World) : Calls Tryd.prog 56 #[.int .i64 k] w (Same1 (.string (formName k)) w) := by
  by_cases h : 1 ≤ k ∧ k ≤ 7
  · have h7 : k = 1 ∨ k = 2 ∨ k = 3 ∨ k = 4 ∨ k = 5 ∨ k = 6 ∨ k = 7 := by omega
    clear h
    rcases h7 with rfl | rfl | rfl | rfl | rfl | rfl | rfl
    · have hx := index_arr 173 8 #[.string ⟨#[]⟩, .string ⟨#[80, 79, 73, 78, 84]⟩, .string ⟨#[76, 73, 78, 69, 83, 84, 82, 73, 78, 71]⟩, .string ⟨#[80, 79, 76, 89, 71, 79, 78]⟩, .string ⟨#[77, 85, 76, 84, 73, 80, 79, 73, 78, 84]⟩, .string ⟨#[77, 85, 76, 84, 73, 76, 73, 78, 69, 83, 84, 82, 73, 78, 71]⟩, .string ⟨#[77, 85, 76, 84, 73, 80, 79, 76, 89, 71, 79, 78]⟩, .string ⟨#[71, 69, 79, 77, 69, 84, 82, 89, 67, 79, 76, 76, 69, 67, 84, 73, 79, 78]⟩] 1 1 rfl _ Tryd.underlying173 (by omega) rfl
      go_enter Tryd.func56, Tryd.ntmps56
      go_wp2
      go_ret
      exact ⟨rfl, rfl⟩
    · have hx := index_arr 173 8 #[.string ⟨#[]⟩, .string ⟨#[80, 79, 73, 78, 84]⟩, .string ⟨#[76, 73, 78, 69, 83, 84, 82, 73, 78, 71]⟩, .string ⟨#[80, 79, 76, 89, 71, 79, 78]⟩, .string ⟨#[77, 85, 76, 84, 73, 80, 79, 73, 78, 84]⟩, .string ⟨#[77, 85, 76, 84, 73, 76, 73, 78, 69, 83, 84, 82, 73, 78, 71]⟩, .string ⟨#[77, 85, 76, 84, 73, 80, 79, 76, 89, 71, 79, 78]⟩, .string ⟨#[71, 69, 79, 77, 69, 84, 82, 89, 67, 79, 76, 76, 69, 67, 84, 73, 79, 78]⟩] 2 2 rfl _ Tryd.underlying173 (by omega) rfl
      go_enter Tryd.func56, Tryd.ntmps56
      go_wp2
      go_ret
      exact ⟨rfl, rfl⟩
    · have hx := index_arr 173 8 #[.string ⟨#[]⟩, .string ⟨#[80, 79, 73, 78, 84]⟩, .string ⟨#[76, 73, 78, 69, 83, 84, 82, 73, 78, 71]⟩, .string ⟨#[80, 79, 76, 89, 71, 79, 78]⟩, .string ⟨#[77, 85, 76, 84, 73, 80, 79, 73, 78, 84]⟩, .string ⟨#[77, 85, 76, 84, 73, 76, 73, 78, 69, 83, 84, 82, 73, 78, 71]⟩, .string ⟨#[77, 85, 76, 84, 73, 80, 79, 76, 89, 71, 79, 78]⟩, .string ⟨#[71, 69, 79, 77, 69, 84, 82, 89, 67, 79, 76, 76, 69, 67, 84, 73, 79, 78]⟩] 3 3 rfl _ Tryd.underlying173 (by omega) rfl
      go_enter Tryd.func56, Tryd.ntmps56
      go_wp2
      go_ret
      exact ⟨rfl, rfl⟩
    · have hx := index_arr 173 8 #[.string ⟨#[]⟩, .string ⟨#[80, 79, 73, 78, 84]⟩, .string ⟨#[76, 73, 78, 69, 83, 84, 82, 73, 78, 71]⟩, .string ⟨#[80, 79, 76, 89, 71, 79, 78]⟩, .string ⟨#[77, 85, 76, 84, 73, 80, 79, 73, 78, 84]⟩, .string ⟨#[77, 85, 76, 84, 73, 76, 73, 78, 69, 83, 84, 82, 73, 78, 71]⟩, .string ⟨#[77, 85, 76, 84, 73, 80, 79, 76, 89, 71, 79, 78]⟩, .string ⟨#[71, 69, 79, 77, 69, 84, 82, 89, 67, 79, 76, 76, 69, 67, 84, 73, 79, 78]⟩] 4 4 rfl _ Tryd.underlying173 (by omega) rfl
      go_enter Tryd.func56, Tryd.ntmps56
      go_wp2
      go_ret
      exact ⟨rfl, rfl⟩
    · have hx := index_arr 173 8 #[.string ⟨#[]⟩, .string ⟨#[80, 79, 73, 78, 84]⟩, .string ⟨#[76, 73, 78, 69, 83, 84, 82, 73, 78, 71]⟩, .string ⟨#[80, 79, 76, 89, 71, 79, 78]⟩, .string ⟨#[77, 85, 76, 84, 73, 80, 79, 73, 78, 84]⟩, .string ⟨#[77, 85, 76, 84, 73, 76, 73, 78, 69, 83, 84, 82, 73, 78, 71]⟩, .string ⟨#[77, 85, 76, 84, 73, 80, 79, 76, 89, 71, 79, 78]⟩, .string ⟨#[71, 69, 79, 77, 69, 84, 82, 89, 67, 79, 76, 76, 69, 67, 84, 73, 79, 78]⟩] 5 5 rfl _ Tryd.underlying173 (by omega) rfl
      go_enter Tryd.func56, Tryd.ntmps56
      go_wp2
      go_ret
      exact ⟨rfl, rfl⟩
    · have hx := index_arr 173 8 #[.string ⟨#[]⟩, .string ⟨#[80, 79, 73, 78, 84]⟩, .string ⟨#[76, 73, 78, 69, 83, 84, 82, 73, 78, 71]⟩, .string ⟨#[80, 79, 76, 89, 71, 79, 78]⟩, .string ⟨#[77, 85, 76, 84, 73, 80, 79, 73, 78, 84]⟩, .string ⟨#[77, 85, 76, 84, 73, 76, 73, 78, 69, 83, 84, 82, 73, 78, 71]⟩, .string ⟨#[77, 85, 76, 84, 73, 80, 79, 76, 89, 71, 79, 78]⟩, .string ⟨#[71, 69, 79, 77, 69, 84, 82, 89, 67, 79, 76, 76, 69, 67, 84, 73, 79, 78]⟩] 6 6 rfl _ Tryd.underlying173 (by omega) rfl
      go_enter Tryd.func56, Tryd.ntmps56
      go_wp2
      go_ret
      exact ⟨rfl, rfl⟩
    · have hx := index_arr 173 8 #[.string ⟨#[]⟩, .string ⟨#[80, 79, 73, 78, 84]⟩, .string ⟨#[76, 73, 78, 69, 83, 84, 82, 73, 78, 71]⟩, .string ⟨#[80, 79, 76, 89, 71, 79, 78]⟩, .string ⟨#[77, 85, 76, 84, 73, 80, 79, 73, 78, 84]⟩, .string ⟨#[77, 85, 76, 84, 73, 76, 73, 78, 69, 83, 84, 82, 73, 78, 71]⟩, .string ⟨#[77, 85, 76, 84, 73, 80, 79, 76, 89, 71, 79, 78]⟩, .string ⟨#[71, 69, 79, 77, 69, 84, 82, 89, 67, 79, 76, 76, 69, 67, 84, 73, 79, 78]⟩] 7 7 rfl _ Tryd.underlying173 (by omega) rfl
      go_enter Tryd.func56, Tryd.ntmps56
      go_wp2
      go_ret
      exact ⟨rfl, rfl⟩
  · have hn : formName k = ⟨#[]⟩ := by unfold formName; repeat' (rw [if_neg (by omega)])
    have hk : k < 1 ∨ 7 < k := by omega
    rw [hn]; clear hn h
    rcases hk with hk | hk
    all_goals
      go_enter Tryd.func56, Tryd.ntmps56
      go_wp2
      go_ret
      exact ⟨rfl, rfl⟩
end Go.Proofs.YtcjidlgmbjebjaaDoor
