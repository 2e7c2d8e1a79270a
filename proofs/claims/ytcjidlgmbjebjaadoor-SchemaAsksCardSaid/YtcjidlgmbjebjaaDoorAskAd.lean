import Derived.Test.YtcjidlgmbjebjaaDoorAskAc
import Derived.Tactics
import Derived.Tactics2
import Derived.StillTactics
import Derived.OwnWalk
import Derived.Deep.RegionHeld3
import Derived.KernelRfl
import Derived.Handy
set_option linter.unusedVariables false
set_option linter.unusedSimpArgs false
set_option maxRecDepth 100000
namespace Go.Proofs.YtcjidlgmbjebjaaDoor
open Go Go.RowKit
def RetB (n : Int) (W : World) (e : Ending) (w' : World) : Prop := e = .returned (.int .i64 n) ∧ Below W.heap.size W w'
set_option maxHeartbeats 4000000 in
theorem cmp_val (k1 n1 : Int) (s1 : ByteArray) (k2 n2 : Int) (s2 : ByteArray) (W : World) :
    Calls Tryd.prog 29 #[.agg #[.int .i64 k1, .int .i64 n1, .string s1], .agg #[.int .i64 k2, .int .i64 n2, .string s2]] W (RetB (Ord.cmpV k1 n1 s1.toList k2 n2 s2.toList) W) := by
  unfold Ord.cmpV
  go_enter Tryd.func29, Tryd.ntmps29
  go_wp2_with fail
  go_region_held3 (fun w' => w'.cell? ⟨W.heap.size, 0, none⟩ = some (.int .i64 k1) ∧ w'.cell? ⟨W.heap.size, 1, none⟩ = some (.int .i64 n1) ∧ w'.cell? ⟨W.heap.size, 2, none⟩ = some (.string s1) ∧
      w'.cell? ⟨W.heap.size + 1, 0, none⟩ = some (.int .i64 k2) ∧ w'.cell? ⟨W.heap.size + 1, 1, none⟩ = some (.int .i64 n2) ∧ w'.cell? ⟨W.heap.size + 1, 2, none⟩ = some (.string s2))
    (first | go_keep | ((refine ⟨?_, ?_, ?_, ?_, ?_, ?_⟩) <;> (first | go_cell | (simp [World.cell?_drew]; done))))
    (first
      | (go_at_call 66; refine (cmp_int _ _ _).mono ?_; rintro e w' ⟨rfl, rfl⟩)
      | (go_at_call 67; refine (cmp_str _ _ _).mono ?_; rintro e w' ⟨rfl, rfl⟩)
      | (go_at_call 65; refine (or_three (Ord.cmpI k1 k2) (Ord.cmpI n1 n2) (Ord.cmpS s1.toList s2.toList) _ _ ?_ ?_ ?_).mono ?_; (iterate 3 (· go_cell)); rintro e w' ⟨rfl, rfl⟩))
  go_wp2
  go_ret
  refine ⟨?_, ?_⟩
  · first | rfl | simp
  · go_grown
end Go.Proofs.YtcjidlgmbjebjaaDoor
