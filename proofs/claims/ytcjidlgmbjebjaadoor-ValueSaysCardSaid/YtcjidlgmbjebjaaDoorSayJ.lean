import Derived.Test.YtcjidlgmbjebjaaDoorSayI
set_option linter.unusedVariables false
set_option linter.unusedSimpArgs false
set_option maxRecDepth 100000
namespace Go.Proofs.YtcjidlgmbjebjaaDoor
open Go Go.RowKit
set_option maxHeartbeats 2000000 in
theorem fits_any (F : Nat) (hF : F = 33 ∨ F = 34) (k n : Int) (s : ByteArray) (kind : Int) (must : Bool) (W : World) (hsz : s.size ≤ 9223372036854775807) : Calls Tryd.prog F #[.agg #[.int .i64 k, .int .i64 n, .string s], .int .i64 kind, .bool must] W (RetB (fitsV k n s kind must) W) := by
  have hkind : kind < 1 ∨ 3 < kind ∨ (1 ≤ kind ∧ kind ≤ 3) := by omega
  have hk : k = 0 ∨ (k ≠ 0 ∧ k = kind) ∨ (k ≠ 0 ∧ k ≠ kind) := by omega
  rcases hF with rfl | rfl
  · cases hg : goodV k n s with
    | false =>
      have hr : fitsV k n s kind must = 9 := by simp [fitsV, hg]
      rw [hr]
      have hc := fun w => good_val k n s w hsz
      rw [hg] at hc
      have HC := Lib.hid hc; clear hc hr hg hkind hk
      go_enter Tryd.func33, Tryd.ntmps33
      go_wp2_with fail
      refine (HC.out _).mono ?_
      rintro e w1 ⟨rfl, hb⟩
      have hb := below_step (show Below W.heap.size W _ from by go_grown) hb
      dsimp only
      go_wp2_with fail
      go_ret
      exact ⟨rfl, hb⟩
    | true =>
      have hc := fun w => good_val k n s w hsz
      rw [hg] at hc
      have HC := Lib.hid hc; clear hc
      have HR := Lib.hid (show fitsV k n s kind must = if kind < 1 ∨ 3 < kind then 2 else if (k = 0 ∧ must = true) ∨ (k ≠ 0 ∧ k ≠ kind) then 13 else 0 by simp only [fitsV, hg]; rfl)
      clear hg
      rcases hk with rfl | ⟨k0, rfl⟩ | ⟨k0, k1⟩
      · have b0 : (0 : Int) = 0 := rfl
        clear b0
        rcases hkind with q | q | ⟨q1, q2⟩
        all_goals cases must
        all_goals
          (go_enter Tryd.func33, Tryd.ntmps33
           go_wp2_with fail
           refine (HC.out _).mono ?_
           rintro e w1 ⟨rfl, hb⟩
           have c0 := cell_later (v := .int .i64 0) hb (show World.cell? _ ⟨W.heap.size, 0, none⟩ = some (.int .i64 0) from by go_cell)
           have hb := below_step (show Below W.heap.size W _ from by go_grown) hb
           dsimp only
           go_wp2_with fail
           go_ret
           refine ⟨?_, hb⟩
           rw [HR.out]
           first | rfl | (simp; done) | (simp; omega) | (simp_all; done) | (simp_all; omega))
      · have b0 : (k != 0) = true := by simp [k0]
        rcases hkind with q | q | ⟨q1, q2⟩
        all_goals cases must
        all_goals
          (go_enter Tryd.func33, Tryd.ntmps33
           go_wp2_with fail
           refine (HC.out _).mono ?_
           rintro e w1 ⟨rfl, hb⟩
           have c0 := cell_later (v := .int .i64 k) hb (show World.cell? _ ⟨W.heap.size, 0, none⟩ = some (.int .i64 k) from by go_cell)
           have hb := below_step (show Below W.heap.size W _ from by go_grown) hb
           dsimp only
           go_wp2_with fail
           go_ret
           refine ⟨?_, hb⟩
           rw [HR.out]
           first | rfl | (simp; done) | (simp; omega) | (simp_all; done) | (simp_all; omega))
      · have b0 : (k != 0) = true := by simp [k0]
        have b1 : (k != kind) = true := by simp [k1]
        rcases hkind with q | q | ⟨q1, q2⟩
        all_goals cases must
        all_goals
          (go_enter Tryd.func33, Tryd.ntmps33
           go_wp2_with fail
           refine (HC.out _).mono ?_
           rintro e w1 ⟨rfl, hb⟩
           have c0 := cell_later (v := .int .i64 k) hb (show World.cell? _ ⟨W.heap.size, 0, none⟩ = some (.int .i64 k) from by go_cell)
           have hb := below_step (show Below W.heap.size W _ from by go_grown) hb
           dsimp only
           go_wp2_with fail
           go_ret
           refine ⟨?_, hb⟩
           rw [HR.out]
           first | rfl | (simp; done) | (simp; omega) | (simp_all; done) | (simp_all; omega))
  · cases hg : goodV k n s with
    | false =>
      have hr : fitsV k n s kind must = 9 := by simp [fitsV, hg]
      rw [hr]
      have hc := fun w => refgood_val k n s w hsz
      rw [hg] at hc
      have HC := Lib.hid hc; clear hc hr hg hkind hk
      go_enter Tryd.func34, Tryd.ntmps34
      go_wp2_with fail
      refine (HC.out _).mono ?_
      rintro e w1 ⟨rfl, hb⟩
      have hb := below_step (show Below W.heap.size W _ from by go_grown) hb
      dsimp only
      go_wp2_with fail
      go_ret
      exact ⟨rfl, hb⟩
    | true =>
      have hc := fun w => refgood_val k n s w hsz
      rw [hg] at hc
      have HC := Lib.hid hc; clear hc
      have HR := Lib.hid (show fitsV k n s kind must = if kind < 1 ∨ 3 < kind then 2 else if (k = 0 ∧ must = true) ∨ (k ≠ 0 ∧ k ≠ kind) then 13 else 0 by simp only [fitsV, hg]; rfl)
      clear hg
      rcases hk with rfl | ⟨k0, rfl⟩ | ⟨k0, k1⟩
      · have b0 : (0 : Int) = 0 := rfl
        clear b0
        rcases hkind with q | q | ⟨q1, q2⟩
        all_goals cases must
        all_goals
          (go_enter Tryd.func34, Tryd.ntmps34
           go_wp2_with fail
           refine (HC.out _).mono ?_
           rintro e w1 ⟨rfl, hb⟩
           have c0 := cell_later (v := .int .i64 0) hb (show World.cell? _ ⟨W.heap.size, 0, none⟩ = some (.int .i64 0) from by go_cell)
           have hb := below_step (show Below W.heap.size W _ from by go_grown) hb
           dsimp only
           go_wp2_with fail
           go_ret
           refine ⟨?_, hb⟩
           rw [HR.out]
           first | rfl | (simp; done) | (simp; omega) | (simp_all; done) | (simp_all; omega))
      · have b0 : (k != 0) = true := by simp [k0]
        rcases hkind with q | q | ⟨q1, q2⟩
        all_goals cases must
        all_goals
          (go_enter Tryd.func34, Tryd.ntmps34
           go_wp2_with fail
           refine (HC.out _).mono ?_
           rintro e w1 ⟨rfl, hb⟩
           have c0 := cell_later (v := .int .i64 k) hb (show World.cell? _ ⟨W.heap.size, 0, none⟩ = some (.int .i64 k) from by go_cell)
           have hb := below_step (show Below W.heap.size W _ from by go_grown) hb
           dsimp only
           go_wp2_with fail
           go_ret
           refine ⟨?_, hb⟩
           rw [HR.out]
           first | rfl | (simp; done) | (simp; omega) | (simp_all; done) | (simp_all; omega))
      · have b0 : (k != 0) = true := by simp [k0]
        have b1 : (k != kind) = true := by simp [k1]
        rcases hkind with q | q | ⟨q1, q2⟩
        all_goals cases must
        all_goals
          (go_enter Tryd.func34, Tryd.ntmps34
           go_wp2_with fail
           refine (HC.out _).mono ?_
           rintro e w1 ⟨rfl, hb⟩
           have c0 := cell_later (v := .int .i64 k) hb (show World.cell? _ ⟨W.heap.size, 0, none⟩ = some (.int .i64 k) from by go_cell)
           have hb := below_step (show Below W.heap.size W _ from by go_grown) hb
           dsimp only
           go_wp2_with fail
           go_ret
           refine ⟨?_, hb⟩
           rw [HR.out]
           first | rfl | (simp; done) | (simp; omega) | (simp_all; done) | (simp_all; omega))
end Go.Proofs.YtcjidlgmbjebjaaDoor
