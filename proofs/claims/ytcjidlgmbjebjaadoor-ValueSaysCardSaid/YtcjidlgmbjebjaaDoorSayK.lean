import Derived.Test.YtcjidlgmbjebjaaDoorSayJ
set_option linter.unusedVariables false
set_option linter.unusedSimpArgs false
set_option maxRecDepth 100000
namespace Go.Proofs.YtcjidlgmbjebjaaDoor
open Go Go.RowKit
theorem cmpI_lt {x y : Int} (h : x < y) : Ord.cmpI x y = -1 := by rcases Ord.cmpI_cases x y with a | a | a <;> omega
theorem cmpI_gt {x y : Int} (h : y < x) : Ord.cmpI x y = 1 := by rcases Ord.cmpI_cases x y with a | a | a <;> omega
theorem cmpI_eq (x : Int) : Ord.cmpI x x = 0 := by rcases Ord.cmpI_cases x x with a | a | a <;> omega
set_option maxHeartbeats 2000000 in
theorem refcmp_val (k1 n1 : Int) (s1 : ByteArray) (k2 n2 : Int) (s2 : ByteArray) (W : World) :
    Calls Tryd.prog 35 #[.agg #[.int .i64 k1, .int .i64 n1, .string s1], .agg #[.int .i64 k2, .int .i64 n2, .string s2]] W (RetB (Ord.cmpV k1 n1 s1.toList k2 n2 s2.toList) W) := by
  rcases Int.lt_trichotomy k1 k2 with hk | rfl | hk
  · have hr : Ord.cmpV k1 n1 s1.toList k2 n2 s2.toList = -1 := by unfold Ord.cmpV Ord.or3; rw [cmpI_lt hk]; rfl
    rw [hr]; clear hr
    go_enter Tryd.func35, Tryd.ntmps35
    go_wp2
    all_goals (go_ret; refine ⟨rfl, ?_⟩)
    all_goals go_grown
  · rcases Int.lt_trichotomy n1 n2 with hn | rfl | hn
    · have hr : Ord.cmpV k1 n1 s1.toList k1 n2 s2.toList = -1 := by unfold Ord.cmpV Ord.or3; rw [cmpI_eq, cmpI_lt hn]; rfl
      rw [hr]; clear hr
      go_enter Tryd.func35, Tryd.ntmps35
      go_wp2
      all_goals (go_ret; refine ⟨rfl, ?_⟩)
      all_goals go_grown
    · rcases Ord.cmpS_cases s1.toList s2.toList with ⟨a, _, b, c⟩ | ⟨a, _, b⟩ | ⟨a, _, b, c⟩
      · have hr : Ord.cmpV k1 n1 s1.toList k1 n1 s2.toList = -1 := by unfold Ord.cmpV Ord.or3; rw [cmpI_eq, cmpI_eq, a]; rfl
        rw [hr]; clear hr a
        go_enter Tryd.func35, Tryd.ntmps35
        go_wp2
        all_goals (go_ret; refine ⟨rfl, ?_⟩)
        all_goals go_grown
      · have hr : Ord.cmpV k1 n1 s1.toList k1 n1 s2.toList = 0 := by unfold Ord.cmpV Ord.or3; rw [cmpI_eq, cmpI_eq, a]; rfl
        rw [hr]; clear hr a
        go_enter Tryd.func35, Tryd.ntmps35
        go_wp2
        all_goals (go_ret; refine ⟨rfl, ?_⟩)
        all_goals go_grown
      · have hr : Ord.cmpV k1 n1 s1.toList k1 n1 s2.toList = 1 := by unfold Ord.cmpV Ord.or3; rw [cmpI_eq, cmpI_eq, a]; rfl
        have c2 := Ord.less_asymm c
        rw [hr]; clear hr a c
        go_enter Tryd.func35, Tryd.ntmps35
        go_wp2
        all_goals (go_ret; refine ⟨rfl, ?_⟩)
        all_goals go_grown
    · have hr : Ord.cmpV k1 n1 s1.toList k1 n2 s2.toList = 1 := by unfold Ord.cmpV Ord.or3; rw [cmpI_eq, cmpI_gt hn]; rfl
      rw [hr]; clear hr
      go_enter Tryd.func35, Tryd.ntmps35
      go_wp2
      all_goals (go_ret; refine ⟨rfl, ?_⟩)
      all_goals go_grown
  · have hr : Ord.cmpV k1 n1 s1.toList k2 n2 s2.toList = 1 := by unfold Ord.cmpV Ord.or3; rw [cmpI_gt hk]; rfl
    rw [hr]; clear hr
    go_enter Tryd.func35, Tryd.ntmps35
    go_wp2
    all_goals (go_ret; refine ⟨rfl, ?_⟩)
    all_goals go_grown
end Go.Proofs.YtcjidlgmbjebjaaDoor
