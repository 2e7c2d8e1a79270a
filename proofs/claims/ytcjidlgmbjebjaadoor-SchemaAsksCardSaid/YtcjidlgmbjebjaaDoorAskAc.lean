import Derived.Test.YtcjidlgmbjebjaaDoorAskAb
set_option linter.unusedVariables false
set_option linter.unusedSimpArgs false
set_option maxRecDepth 100000
namespace Go.Proofs.YtcjidlgmbjebjaaDoor
open Go Go.RowKit
theorem cmp_str (x y : ByteArray) (w : World) : Calls Tryd.prog 67 #[.string x, .string y] w (RetI (Ord.cmpS x.toList y.toList) w) := by
  unfold Ord.cmpS
  go_enter Tryd.func67, Tryd.ntmps67
  go_wp2_with (first
    | (go_at_call 118; refine (nan_str _ _).mono ?_; rintro e w' ⟨rfl, rfl⟩))
  all_goals (go_ret; simp_all [RetI])
def OrR (a b c : Int) (w : World) (i : Value) (wr : World) : Prop := ∃ j : Nat, j ≤ 3 ∧ i = .int .i64 j ∧ w = wr ∧ (0 < j → a = 0) ∧ (1 < j → b = 0) ∧ (2 < j → c = 0)
theorem or_three (a b c : Int) (k : Nat) (w : World) (h0 : w.cell? ⟨k, 0, none⟩ = some (.int .i64 a)) (h1 : w.cell? ⟨k, 1, none⟩ = some (.int .i64 b)) (h2 : w.cell? ⟨k, 2, none⟩ = some (.int .i64 c)) :
    Calls Tryd.prog 65 #[.slice (some ⟨k, 0, none⟩) 3 3] w (RetI (Ord.or3 a b c) w) := by
  go_enter Tryd.func65, Tryd.ntmps65
  go_wp2
  go_loopw [8] (fun i wr => OrR a b c w i wr) (fun i _ => 3 - (intOf i).toNat)
  case atStart => exact ⟨0, by omega, rfl, rfl, by omega, by omega, by omega⟩
  case round =>
    obtain ⟨j, hj, rfl, rfl, q0, q1, q2⟩ := hrel
    match j, hj with
    | 0, _ =>
      by_cases ha : a = 0
      · subst ha
        go_wp2
        exact ⟨⟨1, by omega, rfl, rfl, by omega, by omega, by omega⟩, by simp [intOf]⟩
      · go_wp2
        go_ret
        exact ⟨by simp [Ord.or3, ha], rfl⟩
    | 1, _ =>
      have ha := q0 (by omega)
      subst ha
      by_cases hb : b = 0
      · subst hb
        go_wp2
        exact ⟨⟨2, by omega, rfl, rfl, by omega, by omega, by omega⟩, by simp [intOf]⟩
      · go_wp2
        go_ret
        exact ⟨by simp [Ord.or3, hb], rfl⟩
    | 2, _ =>
      have ha := q0 (by omega)
      have hb := q1 (by omega)
      subst ha hb
      by_cases hc : c = 0
      · subst hc
        go_wp2
        exact ⟨⟨3, by omega, rfl, rfl, by omega, by omega, by omega⟩, by simp [intOf]⟩
      · go_wp2
        go_ret
        exact ⟨by simp [Ord.or3], rfl⟩
    | 3, _ =>
      have ha := q0 (by omega)
      have hb := q1 (by omega)
      have hc := q2 (by omega)
      subst ha hb hc
      go_wp2
      go_ret
      exact ⟨by simp [Ord.or3], rfl⟩
end Go.Proofs.YtcjidlgmbjebjaaDoor
