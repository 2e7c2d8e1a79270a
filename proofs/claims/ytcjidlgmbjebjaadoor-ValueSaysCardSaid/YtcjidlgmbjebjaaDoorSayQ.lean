import Derived.Test.YtcjidlgmbjebjaaDoorSayP
set_option linter.unusedVariables false
set_option linter.unusedSimpArgs false
set_option maxRecDepth 100000
namespace Go.Proofs.YtcjidlgmbjebjaaDoor
open Go Go.RowKit
def qP (s : ByteArray) (m : Nat) : ByteArray := ⟨(34 :: qB (s.data.toList.take m)).toArray⟩
theorem qP_size (s : ByteArray) (m : Nat) (h : m ≤ s.size) : (qP s m).size ≤ 2 * m + 1 := by
  have := qB_len (s.data.toList.take m)
  have h2 : (s.data.toList.take m).length = m := by simp; omega
  show (34 :: qB (s.data.toList.take m)).toArray.size ≤ _
  simp
  omega
theorem ext_one (s : ByteArray) (m : Nat) (h : m < s.size) : s.extract m (m + 1) = ⟨[s[m]].toArray⟩ := by
  apply ByteArray.ext
  apply Array.ext
  · simp; omega
  · intro i h1 h2
    have : i = 0 := by simp at h2; omega
    subst this
    simp
    rfl
def RqR (s : ByteArray) (w : World) (a n : Value) (w' : World) : Prop := ∃ m : Nat, m ≤ s.size ∧ n = .int .i64 m ∧ a = .string (qP s m) ∧ w' = w
theorem qP_one (s : ByteArray) (m : Nat) (h : m < s.size) (h1 : (s[m]).toNat ≠ 34) (h2 : (s[m]).toNat ≠ 92) : qP s m ++ s.extract m (m + 1) = qP s (m + 1) := by
  rw [ext_one s m h]
  unfold qP
  rw [dec_cat _ _ _ _ rfl rfl, take_one s m h, qB_append]
  simp [qB, q1, h1, h2]
theorem qP_two (s : ByteArray) (m : Nat) (h : m < s.size) (h1 : (s[m]).toNat = 34 ∨ (s[m]).toNat = 92) : qP s m ++ ⟨#[92]⟩ ++ s.extract m (m + 1) = qP s (m + 1) := by
  rw [ext_one s m h]
  unfold qP
  rw [dec_cat _ ⟨#[92]⟩ (34 :: qB (s.data.toList.take m)) [92] rfl rfl, dec_cat _ _ _ _ rfl rfl, take_one s m h, qB_append]
  simp [qB, q1, h1]
theorem qP_end (s : ByteArray) : qP s s.size ++ ⟨#[34]⟩ = qS s := by
  unfold qP qS
  rw [dec_cat _ ⟨#[34]⟩ _ [34] rfl rfl, List.take_of_length_le (by simp)]
set_option maxHeartbeats 2000000 in
theorem refprint_val (k n : Int) (s : ByteArray) (W : World) (hsz : s.size ≤ 9223372036854775807) (h0 : -9223372036854775808 ≤ n) (h1 : n ≤ 9223372036854775807) :
    Calls Tryd.prog 37 #[.agg #[.int .i64 k, .int .i64 n, .string s]] W (RetS (.string (prV k n s)) W) := by
  have hc := fun w => refgood_val k n s w hsz
  cases hg : goodV k n s with
  | false =>
    rw [hg] at hc
    have HC := Lib.hid hc; clear hc
    have hp : prV k n s = ⟨#[]⟩ := by simp [prV, hg]
    rw [hp]; clear hp hg
    go_enter Tryd.func37, Tryd.ntmps37
    go_wp2_with fail
    refine (HC.out _).mono ?_
    rintro e w1 ⟨rfl, hb⟩
    have hb := below_step (show Below W.heap.size W _ from by go_grown) hb
    dsimp only
    go_wp2_with fail
    go_ret
    exact ⟨rfl, hb⟩
  | true =>
    rw [hg] at hc
    have HC := Lib.hid hc; clear hc
    have HG := Lib.hid hg
    have hk := Lib.hid (good_kind hg)
    clear hg
    go_enter Tryd.func37, Tryd.ntmps37
    go_wp2_with fail
    refine (HC.out _).mono ?_
    rintro e w1 ⟨rfl, hb⟩
    have c0 := cell_later (v := .int .i64 k) hb (show World.cell? _ ⟨W.heap.size, 0, none⟩ = some (.int .i64 k) from by go_cell)
    have c1 := cell_later (v := .int .i64 n) hb (show World.cell? _ ⟨W.heap.size, 1, none⟩ = some (.int .i64 n) from by go_cell)
    have c2 := cell_later (v := .string s) hb (show World.cell? _ ⟨W.heap.size, 2, none⟩ = some (.string s) from by go_cell)
    have hB := below_step (show Below W.heap.size W _ from by go_grown) hb
    clear hb
    dsimp only
    rcases hk.out with rfl | rfl | ⟨rfl, h2⟩ | ⟨rfl, rfl | rfl⟩
    all_goals clear hk
    · go_wp2_with fail
      go_ret
      exact ⟨by simp [prV, HG.out, sTrue, sFalse, sNull], hB⟩
    · go_wp2_with fail
      refine (digits_val n.natAbs n (Nat.le_refl _) h0 h1 w1).mono ?_
      rintro e w2 ⟨rfl, rfl⟩
      dsimp only
      go_wp2_with fail
      go_ret
      exact ⟨by simp [prV, HG.out, sTrue, sFalse, sNull], hB⟩
    · have hq0 := Lib.hid (show (ByteArray.mk #[34]) = qP s 0 from rfl)
      have hpr := Lib.hid (show prV 2 n s = qS s from by simp [prV, HG.out])
      go_wp2_with fail
      go_loopw [3, 4] (fun a n w' => RqR s w1 a n w') (fun _ n _ => s.size - (intOf n).toNat)
      case atStart => exact ⟨0, by omega, rfl, rfl, rfl⟩
      case round =>
        obtain ⟨m, hm, rfl, rfl, rfl⟩ := hrel
        have z := qP_size s m hm
        by_cases hp : m < s.size
        · have ze : (s.extract m (m + 1)).size = 1 := by simp; omega
          by_cases hc : (s[m]).toNat = 34 ∨ (s[m]).toNat = 92
          · have hq := Lib.hid (qP_two s m hp hc)
            rcases hc with hc | hc
            all_goals
              go_wp2_with fail
              exact ⟨⟨m + 1, by omega, rfl, by rw [hq.out], rfl⟩, by simp [intOf]; omega⟩
          · have hq := Lib.hid (qP_one s m hp (by omega) (by omega))
            have hc1 : (((s[m]).toNat : Int) == 34) = false := by rw [beq_eq_false_iff_ne]; omega
            have hc2 : (((s[m]).toNat : Int) == 92) = false := by rw [beq_eq_false_iff_ne]; omega
            clear hc
            go_wp2_with fail
            exact ⟨⟨m + 1, by omega, rfl, by rw [hq.out], rfl⟩, by simp [intOf]; omega⟩
        · obtain rfl : m = s.size := by omega
          have hq := Lib.hid (qP_end s)
          go_wp2_with fail
          go_ret
          refine ⟨?_, hB⟩
          exact congrArg (fun b => Ending.returned (Value.string b)) (hq.out.trans hpr.out.symm)
    · go_wp2_with fail
      go_ret
      exact ⟨by simp [prV, HG.out, sTrue, sFalse, sNull], hB⟩
    · go_wp2_with fail
      go_ret
      exact ⟨by simp [prV, HG.out, sTrue, sFalse, sNull], hB⟩
end Go.Proofs.YtcjidlgmbjebjaaDoor
