import Derived.Test.YtcjidlgmbjebjaaDoorAskAg
set_option linter.unusedVariables false
set_option linter.unusedSimpArgs false
set_option maxRecDepth 100000
namespace Go.Proofs.YtcjidlgmbjebjaaDoor
open Go Go.RowKit
def RightR (s : ByteArray) (w w' : World) : Prop := ∃ pos b : Nat, w' = w.iter s pos ∧ s.size ≤ pos + b ∧ Utf.okFrom s b pos = Utf.ok s
theorem below_iter (w : World) (s : ByteArray) (p : Nat) : Below w.heap.size w (w.iter s p) := (Below.refl w.heap.size w).alloc (Nat.le_refl _) _
set_option maxHeartbeats 1000000 in
theorem right_val (s : ByteArray) (w : World) (hs : s.size ≤ 9223372036854775807) :
    Calls Tryd.prog 249 #[.string s] w (RetBool (Utf.ok s) w) := by
  go_enter Tryd.func249, Tryd.ntmps249
  go_wp2
  go_loopw [] (fun w' => RightR s w w') (fun w' => s.size - w'.iterPos w.heap.size)
  case atStart => exact ⟨0, s.size, rfl, by omega, rfl⟩
  case round =>
    obtain ⟨pos, b, rfl, hb, hc⟩ := hrel
    by_cases hp : pos < s.size
    · have hstep := Utf.step_eq s pos
      have hP0 := isP_eq s pos (by omega)
      have hnx : ∀ ty, (Instr.next (.pointer (some ⟨w.heap.size, 0, none⟩)) true ty).run Tryd.prog (w.iter s pos) = _ := fun ty => run_next_any w s pos ty hp
      by_cases hr : (Utf8.decode s pos).1 = 65533
      · have hr1 : (((Utf8.decode s pos).1 : Int) == 65533) = true := by simp [hr]
        cases hf : Utf.fffd s pos with
        | true =>
          have hok : Utf.okStep s pos = true := by rw [hstep.1]; unfold Utf.bad; rw [hf]; simp
          obtain ⟨g, rfl, hg, hgb⟩ := Utf.okFrom_on s b pos hp hb hok
          have hw := hstep.2 hok
          have H1 := Lib.hid hc; clear hc
          have H2 := Lib.hid hg; clear hg
          have H3 := Lib.hid hw; clear hw
          rw [hf] at hP0
          clear hstep hok hf hr
          go_wp2_with (first | (go_at_call 144; refine (pfx144 _ _).mono ?_; rintro e w' ⟨rfl, rfl⟩))
          go_roundw
          case rel => exact ⟨pos + (Utf8.decode s pos).2, g, rfl, by rw [H3.out]; omega, by rw [H3.out, ← H2.out]; exact H1.out⟩
          case measure =>
            have := H3.out
            simp
            omega
        | false =>
          have hok : Utf.okStep s pos = false := by rw [hstep.1]; unfold Utf.bad; rw [hf, hr]; rfl
          have hno : Utf.ok s = false := by rw [← hc]; exact Utf.okFrom_bad s b pos hp hb hok
          have HN := Lib.hid hno; clear hno
          rw [hf] at hP0
          clear hstep hok hf hr hc
          go_wp2_with (first | (go_at_call 144; refine (pfx144 _ _).mono ?_; rintro e w' ⟨rfl, rfl⟩))
          go_ret
          exact ⟨by rw [HN.out]; rfl, below_iter w s _⟩
      · have hr1 : (((Utf8.decode s pos).1 : Int) == 65533) = false := by
          rw [beq_eq_false_iff_ne]; omega
        have hok : Utf.okStep s pos = true := by
          rw [hstep.1]; unfold Utf.bad
          have : ((Utf8.decode s pos).1 == 65533) = false := by rw [beq_eq_false_iff_ne]; exact hr
          rw [this]; rfl
        obtain ⟨g, rfl, hg, hgb⟩ := Utf.okFrom_on s b pos hp hb hok
        have hw := hstep.2 hok
        have H1 := Lib.hid hc; clear hc
        have H2 := Lib.hid hg; clear hg
        have H3 := Lib.hid hw; clear hw
        clear hstep hok hr hP0
        go_wp2_with (first | (go_at_call 144; refine (pfx144 _ _).mono ?_; rintro e w' ⟨rfl, rfl⟩))
        go_roundw
        case rel => exact ⟨pos + (Utf8.decode s pos).2, g, rfl, by rw [H3.out]; omega, by rw [H3.out, ← H2.out]; exact H1.out⟩
        case measure =>
          have := H3.out
          simp
          omega
    · have hnx : ∀ ty, (Instr.next (.pointer (some ⟨w.heap.size, 0, none⟩)) true ty).run Tryd.prog (w.iter s pos) = _ := fun ty => run_next_end w s pos ty hp
      have hok : Utf.ok s = true := by rw [← hc]; exact Utf.okFrom_end s b pos hp
      clear hc
      go_wp2
      go_ret
      exact ⟨by first | rfl | (rw [hok]; rfl), below_iter w s pos⟩
end Go.Proofs.YtcjidlgmbjebjaaDoor
