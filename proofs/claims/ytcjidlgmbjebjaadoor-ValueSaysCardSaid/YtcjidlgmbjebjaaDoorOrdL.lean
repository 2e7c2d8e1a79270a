/- The example of layer 21, run by the kernel; from it a contract of the call. -/
import Derived.Test.YtcjidlgmbjebjaaDoorOrdI
import Derived.Test.YtcjidlgmbjebjaaDoorOrdD
set_option linter.unusedVariables false
set_option linter.unusedSimpArgs false
set_option maxRecDepth 1000000
namespace Go.Proofs.YtcjidlgmbjebjaaDoor.Ev.Tryd
open Go Go.Proofs.YtcjidlgmbjebjaaDoor.Ev Go.Proofs.Tryd Go.RowKit
def outB : Option Out → Nat
  | some (.call (.bool true) _) => 1
  | some (.call (.bool false) _) => 2
  | some (.call _ _) => 3
  | some (.code _ _ _) => 4
  | none => 0
theorem outB_one {x : Option Out} (h : outB x = 1) : ∃ H', x = some (.call (.bool true) H') := by
  unfold outB at h
  split at h <;> first | exact ⟨_, rfl⟩ | (exact absurd h (by decide))
def H0 : Heap := { objs := .e, next := 10 }
theorem runLives : outB (R_evalM [] (E fun _ => none) 1000000 (.call 24 [] false) H0) = 1 := by kernel_rfl
theorem begin_ok (w' : World) : St (E fun _ => none) (phi0 (fun _ => none) 10 fun _ => none) H0 w' ∧ ∀ b, ¬ Wr (phi0 (fun _ => none) 10 fun _ => none) H0.look b :=
  St.begin (E := E fun _ => none) (W := w') (gs := fun _ => none) (n := 10) (base := fun _ => none) (H := H0) (by decide) (fun _ _ h => by cases h)
    (fun r o ho => by
      have ho : (T.e : T Go.Proofs.YtcjidlgmbjebjaaDoor.Ev.Obj).get r = some o := ho
      rw [T.get_e] at ho; cases ho)
    (fun g x hx _ => by cases hx)
theorem lives (w' : World) : Calls prog 24 #[] w' (Go.Proofs.YtcjidlgmbjebjaaDoor.TrueBelow w') := by
  obtain ⟨H', hrun⟩ := outB_one runLives
  rw [← R_evalM_eq] at hrun
  obtain ⟨hs, hro⟩ := begin_ok w'
  exact (calls_of_runM (E_ok _) MemOk.nil hrun hs (GR.begin (E := E fun _ => none) (fun _ _ h => by cases h)) .nil hro).mono
    fun e W' ⟨φ', v', he, hvr, hb⟩ => ⟨by rw [he, hvr.bool_inv], hb⟩
end Go.Proofs.YtcjidlgmbjebjaaDoor.Ev.Tryd
