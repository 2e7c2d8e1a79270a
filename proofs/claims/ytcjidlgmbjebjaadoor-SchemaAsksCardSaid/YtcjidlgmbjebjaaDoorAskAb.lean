import Derived.Test.YtcjidlgmbjebjaaDoorProg
import Derived.Test.YtcjidlgmbjebjaaDoorAskAa
import Derived.WalkKit
import Derived.WalkSpells
import Derived.WalkLawsBesides
import Derived.Below
import Derived.Outline
import Derived.Lib.Hide
import Derived.LoopTactic
set_option linter.unusedVariables false
set_option linter.unusedSimpArgs false
set_option maxRecDepth 100000
namespace Go.Proofs.YtcjidlgmbjebjaaDoor
open Go Go.RowKit
theorem nan_int (x : Int) (w : World) : Calls Tryd.prog 117 #[.int .i64 x] w fun e w' => e = .returned (.bool false) ∧ w = w' := by
  go_enter Tryd.func117, Tryd.ntmps117
  go_wp2
  go_ret
  exact ⟨rfl, rfl⟩
theorem nan_str (x : ByteArray) (w : World) : Calls Tryd.prog 118 #[.string x] w fun e w' => e = .returned (.bool false) ∧ w = w' := by
  go_enter Tryd.func118, Tryd.ntmps118
  go_wp2
  go_ret
  exact ⟨rfl, rfl⟩
def RetI (n : Int) (w : World) (e : Ending) (w' : World) : Prop := e = .returned (.int .i64 n) ∧ w = w'
theorem cmp_int (x y : Int) (w : World) : Calls Tryd.prog 66 #[.int .i64 x, .int .i64 y] w (RetI (Ord.cmpI x y) w) := by
  unfold Ord.cmpI
  go_enter Tryd.func66, Tryd.ntmps66
  go_wp2_with (first
    | (go_at_call 117; refine (nan_int _ _).mono ?_; rintro e w' ⟨rfl, rfl⟩))
  all_goals (go_ret; simp_all [RetI])
end Go.Proofs.YtcjidlgmbjebjaaDoor
