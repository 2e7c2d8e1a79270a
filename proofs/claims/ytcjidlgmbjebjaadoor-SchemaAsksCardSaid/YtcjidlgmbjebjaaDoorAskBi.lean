import Derived.Test.YtcjidlgmbjebjaaDoorAskBf
import Derived.Test.YtcjidlgmbjebjaaDoorAskBh
set_option linter.unusedVariables false
set_option linter.unusedSimpArgs false
set_option maxRecDepth 100000
namespace Go.Proofs.YtcjidlgmbjebjaaDoor
open Go Go.RowKit
theorem isEmpty_of {l : List UInt8} (h : ¬ l = []) : l.isEmpty = false := by cases l with | nil => exact absurd rfl h | cons a b => rfl
set_option maxHeartbeats 2000000 in
theorem refgood_val (k n : Int) (s : ByteArray) (W : World) (hsz : s.size ≤ 9223372036854775807) : Calls Tryd.prog 32 #[.agg #[.int .i64 k, .int .i64 n, .string s]] W (RetBool (goodV k n s) W) := by
  have hk : k = 0 ∨ k = 1 ∨ k = 2 ∨ k = 3 ∨ (k ≠ 0 ∧ k ≠ 1 ∧ k ≠ 2 ∧ k ≠ 3) := by omega
  have hn : n = 0 ∨ n = 1 ∨ (n ≠ 0 ∧ n ≠ 1) := by omega
  rcases hk with rfl | rfl | rfl | rfl | ⟨k0, k1, k2, k3⟩
  case inr.inr.inl =>
    by_cases hn0 : n = 0
    · subst hn0
      by_cases h2 : s.size ≤ 200
      · have hg : goodV 2 0 s = Utf.ok s := by simp [goodV, h2]
        rw [hg]
        clear hg hn
        go_enter Tryd.func32, Tryd.ntmps32
        go_wp2_with fail
        refine (utf_val s _ hsz).mono ?_
        rintro e w1 ⟨rfl, hb⟩
        have hb := below_step (show Below W.heap.size W _ from by go_grown) hb
        dsimp only
        go_wp2_with fail
        go_ret
        exact ⟨rfl, hb⟩
      · have hg : goodV 2 0 s = false := by simp [goodV, h2]
        rw [hg]
        clear hg hn
        go_enter Tryd.func32, Tryd.ntmps32
        go_wp2
        go_ret
        refine ⟨rfl, ?_⟩
        go_grown
    · have hg : goodV 2 n s = false := by simp [goodV, hn0]
      rw [hg]
      clear hg hn
      go_enter Tryd.func32, Tryd.ntmps32
      go_wp2
      go_ret
      refine ⟨rfl, ?_⟩
      go_grown
  all_goals (by_cases hs : s.toList = []
             · have hs2 : s.toList.isEmpty = true := by rw [hs]; rfl
               rcases hn with rfl | rfl | ⟨n0, n1⟩
               all_goals
                 (go_enter Tryd.func32, Tryd.ntmps32
                  go_wp2
                  all_goals (go_ret; refine ⟨?_, ?_⟩; focus (simp_all [goodV]; done))
                  all_goals go_grown)
             · have hs2 := isEmpty_of hs
               rcases hn with rfl | rfl | ⟨n0, n1⟩
               all_goals
                 (go_enter Tryd.func32, Tryd.ntmps32
                  go_wp2
                  all_goals (go_ret; refine ⟨?_, ?_⟩; focus (simp_all [goodV]; done))
                  all_goals go_grown))
def fitsV (k n : Int) (s : ByteArray) (kind : Int) (must : Bool) : Int :=
  if goodV k n s = false then 9 else if kind < 1 ∨ 3 < kind then 2 else if (k = 0 ∧ must = true) ∨ (k ≠ 0 ∧ k ≠ kind) then 13 else 0
end Go.Proofs.YtcjidlgmbjebjaaDoor
