import Derived.Test.YtcjidlgmbjebjaaDoorAskAk
import Derived.Test.YtcjidlgmbjebjaaDoorAskAl
set_option linter.unusedVariables false
set_option linter.unusedSimpArgs false
set_option maxRecDepth 100000
namespace Go.Proofs.YtcjidlgmbjebjaaDoor
open Go Go.RowKit
def TypesAt (w : World) : Prop := w.cell? ⟨0, 0, none⟩ = some (.string ⟨#[]⟩) ∧ w.cell? ⟨0, 1, none⟩ = some (.string ⟨#[105, 110, 116]⟩) ∧ w.cell? ⟨0, 2, none⟩ = some (.string ⟨#[116, 101, 120, 116]⟩) ∧ w.cell? ⟨0, 3, none⟩ = some (.string ⟨#[102, 108, 97, 103]⟩)
def typeOf (l : List UInt8) : Int := if l = [105, 110, 116] then 1 else if l = [116, 101, 120, 116] then 2 else if l = [102, 108, 97, 103] then 3 else 0
def IxR (t : Nat) (w : World) (n : Value) (w' : World) : Prop := ∃ i : Nat, i ≤ t ∧ n = .int .i64 i ∧ w' = w
theorem beq_no {l m : List UInt8} (h : ¬ l = m) : (l == m) = false := by rw [beq_eq_false_iff_ne]; exact h
theorem beq_yes {l m : List UInt8} (h : l = m) : (l == m) = true := by rw [beq_iff_eq]; exact h
set_option maxHeartbeats 1000000 in
theorem index_0 (s : ByteArray) (w : World) (ht : TypesAt w) (h0 : (s.toList == [105, 110, 116]) = true) :
    Calls Tryd.prog 49 #[.slice (some ⟨0, 1, none⟩) 3 3, .string s] w (Same1 (.int .i64 0) w) := by
  obtain ⟨c0, c1, c2, c3⟩ := ht
  go_enter Tryd.func49, Tryd.ntmps49
  go_wp2
  go_loopw [8] (fun n w' => IxR 0 w n w') (fun n _ => 3 - (intOf n).toNat)
  case atStart => exact ⟨0, by omega, rfl, rfl⟩
  case round =>
    obtain ⟨i, hi, rfl, rfl⟩ := hrel
    obtain rfl : i = 0 := by omega
    · go_wp2
      go_ret
      exact ⟨rfl, rfl⟩
set_option maxHeartbeats 1000000 in
theorem index_1 (s : ByteArray) (w : World) (ht : TypesAt w) (h0 : (s.toList == [105, 110, 116]) = false) (h1 : (s.toList == [116, 101, 120, 116]) = true) :
    Calls Tryd.prog 49 #[.slice (some ⟨0, 1, none⟩) 3 3, .string s] w (Same1 (.int .i64 1) w) := by
  obtain ⟨c0, c1, c2, c3⟩ := ht
  go_enter Tryd.func49, Tryd.ntmps49
  go_wp2
  go_loopw [8] (fun n w' => IxR 1 w n w') (fun n _ => 3 - (intOf n).toNat)
  case atStart => exact ⟨0, by omega, rfl, rfl⟩
  case round =>
    obtain ⟨i, hi, rfl, rfl⟩ := hrel
    have hi4 : i = 0 ∨ i = 1 := by omega
    rcases hi4 with rfl | rfl
    · go_wp2
      exact ⟨⟨1, by omega, rfl, rfl⟩, by simp [intOf]⟩
    · go_wp2
      go_ret
      exact ⟨rfl, rfl⟩
set_option maxHeartbeats 1000000 in
theorem index_2 (s : ByteArray) (w : World) (ht : TypesAt w) (h0 : (s.toList == [105, 110, 116]) = false) (h1 : (s.toList == [116, 101, 120, 116]) = false) (h2 : (s.toList == [102, 108, 97, 103]) = true) :
    Calls Tryd.prog 49 #[.slice (some ⟨0, 1, none⟩) 3 3, .string s] w (Same1 (.int .i64 2) w) := by
  obtain ⟨c0, c1, c2, c3⟩ := ht
  go_enter Tryd.func49, Tryd.ntmps49
  go_wp2
  go_loopw [8] (fun n w' => IxR 2 w n w') (fun n _ => 3 - (intOf n).toNat)
  case atStart => exact ⟨0, by omega, rfl, rfl⟩
  case round =>
    obtain ⟨i, hi, rfl, rfl⟩ := hrel
    have hi4 : i = 0 ∨ i = 1 ∨ i = 2 := by omega
    rcases hi4 with rfl | rfl | rfl
    · go_wp2
      exact ⟨⟨1, by omega, rfl, rfl⟩, by simp [intOf]⟩
    · go_wp2
      exact ⟨⟨2, by omega, rfl, rfl⟩, by simp [intOf]⟩
    · go_wp2
      go_ret
      exact ⟨rfl, rfl⟩
set_option maxHeartbeats 1000000 in
theorem index_3 (s : ByteArray) (w : World) (ht : TypesAt w) (h0 : (s.toList == [105, 110, 116]) = false) (h1 : (s.toList == [116, 101, 120, 116]) = false) (h2 : (s.toList == [102, 108, 97, 103]) = false) :
    Calls Tryd.prog 49 #[.slice (some ⟨0, 1, none⟩) 3 3, .string s] w (Same1 (.int .i64 (-1)) w) := by
  obtain ⟨c0, c1, c2, c3⟩ := ht
  go_enter Tryd.func49, Tryd.ntmps49
  go_wp2
  go_loopw [8] (fun n w' => IxR 3 w n w') (fun n _ => 3 - (intOf n).toNat)
  case atStart => exact ⟨0, by omega, rfl, rfl⟩
  case round =>
    obtain ⟨i, hi, rfl, rfl⟩ := hrel
    have hi4 : i = 0 ∨ i = 1 ∨ i = 2 ∨ i = 3 := by omega
    rcases hi4 with rfl | rfl | rfl | rfl
    · go_wp2
      exact ⟨⟨1, by omega, rfl, rfl⟩, by simp [intOf]⟩
    · go_wp2
      exact ⟨⟨2, by omega, rfl, rfl⟩, by simp [intOf]⟩
    · go_wp2
      exact ⟨⟨3, by omega, rfl, rfl⟩, by simp [intOf]⟩
    · go_wp2
      go_ret
      exact ⟨rfl, rfl⟩
set_option maxHeartbeats 1000000 in
theorem type_val (s : ByteArray) (w : World) (ht : TypesAt w) : Calls Tryd.prog 13 #[.string s] w (Same1 (.tuple #[.int .i64 (typeOf s.toList), .bool (decide (0 < typeOf s.toList))]) w) := by
  by_cases h0 : s.toList = [105, 110, 116]
  · have e : typeOf s.toList = 1 := by unfold typeOf; simp [h0]
    rw [e]
    have HI := Lib.hid (index_0 s w ht (beq_yes h0))
    clear e
    go_enter Tryd.func13, Tryd.ntmps13
    go_wp2_with fail
    refine HI.out.mono ?_
    rintro e w' ⟨rfl, rfl⟩
    dsimp only
    go_wp2_with fail
    go_ret2
    exact ⟨rfl, rfl⟩
  ·
    by_cases h1 : s.toList = [116, 101, 120, 116]
    · have e : typeOf s.toList = 2 := by unfold typeOf; simp [h1]
      rw [e]
      have HI := Lib.hid (index_1 s w ht (beq_no h0) (beq_yes h1))
      clear e
      go_enter Tryd.func13, Tryd.ntmps13
      go_wp2_with fail
      refine HI.out.mono ?_
      rintro e w' ⟨rfl, rfl⟩
      dsimp only
      go_wp2_with fail
      go_ret2
      exact ⟨rfl, rfl⟩
    ·
      by_cases h2 : s.toList = [102, 108, 97, 103]
      · have e : typeOf s.toList = 3 := by unfold typeOf; simp [h2]
        rw [e]
        have HI := Lib.hid (index_2 s w ht (beq_no h0) (beq_no h1) (beq_yes h2))
        clear e
        go_enter Tryd.func13, Tryd.ntmps13
        go_wp2_with fail
        refine HI.out.mono ?_
        rintro e w' ⟨rfl, rfl⟩
        dsimp only
        go_wp2_with fail
        go_ret2
        exact ⟨rfl, rfl⟩
      ·
        have e : typeOf s.toList = 0 := by unfold typeOf; simp [h0, h1, h2]
        rw [e]
        have HI := Lib.hid (index_3 s w ht (beq_no h0) (beq_no h1) (beq_no h2))
        clear e
        go_enter Tryd.func13, Tryd.ntmps13
        go_wp2_with fail
        refine HI.out.mono ?_
        rintro e w' ⟨rfl, rfl⟩
        dsimp only
        go_wp2_with fail
        go_ret2
        exact ⟨rfl, rfl⟩
end Go.Proofs.YtcjidlgmbjebjaaDoor
