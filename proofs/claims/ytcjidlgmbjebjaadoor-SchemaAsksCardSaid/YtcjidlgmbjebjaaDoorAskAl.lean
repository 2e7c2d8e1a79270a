import Derived.Test.YtcjidlgmbjebjaaDoorAskAe
import Derived.Lib.ItoaLen
set_option linter.unusedVariables false
set_option linter.unusedSimpArgs false
set_option maxRecDepth 100000
namespace Go.Proofs.YtcjidlgmbjebjaaDoor
open Go Go.RowKit
def Same1 (v : Value) (w : World) (e : Ending) (w' : World) : Prop := e = .returned v ∧ w' = w
def numS (n : Int) : ByteArray := ⟨(Lib.itoa n).toArray⟩
def DigIH (n : Int) : Prop := ∀ m : Int, m.natAbs < n.natAbs ∨ (0 ≤ m ∧ m < 10) → ∀ w, Calls Tryd.prog 57 #[.int .i64 m] w (Same1 (.string (numS m)) w)
theorem small_str (k : Fin 10) : (ByteArray.mk #[48, 49, 50, 51, 52, 53, 54, 55, 56, 57]).extract k.val (k.val + 1) = ⟨#[UInt8.ofNat (48 + k.val)]⟩ := by
  revert k; decide
theorem dec_cat (a b : ByteArray) (l1 l2 : List UInt8) (ha : a = ⟨l1.toArray⟩) (hb : b = ⟨l2.toArray⟩) : a ++ b = ⟨(l1 ++ l2).toArray⟩ := by
  subst ha hb
  apply ByteArray.ext
  show (ByteArray.append _ _).data = _
  simp
theorem numS_pos (n : Int) (b : 10 ≤ n) : numS (n / 10) ++ numS (n % 10) = numS n := by
  unfold numS Lib.itoa
  rw [if_neg (by omega), if_neg (by omega), if_neg (by omega), dec_cat _ _ _ _ rfl rfl]
  congr 2
  have h3 := Lib.decDigits.eq_def n.toNat
  rw [dif_neg (by omega)] at h3
  have h4 := Lib.decDigits.eq_def (n % 10).toNat
  rw [dif_pos (by omega)] at h4
  rw [h3, h4, show (n / 10).toNat = n.toNat / 10 by omega, show (n % 10).toNat = n.toNat % 10 by omega]
theorem numS_small (n : Int) (a : 0 ≤ n) (b : n < 10) : (ByteArray.mk #[48, 49, 50, 51, 52, 53, 54, 55, 56, 57]).extract n.toNat (n + 1).toNat = numS n := by
  obtain ⟨k, rfl⟩ : ∃ k : Fin 10, n = (k.val : Int) := ⟨⟨n.toNat, by omega⟩, by simp; omega⟩
  have := small_str k
  rw [show ((k.val : Int) + 1).toNat = k.val + 1 by omega, Int.toNat_natCast, this]
  unfold numS Lib.itoa
  rw [if_neg (by omega), Int.toNat_natCast, Lib.decDigits, dif_pos k.isLt]
set_option maxHeartbeats 1000000 in
theorem dig_small (n : Int) (a : 0 ≤ n) (b : n < 10) (w : World) :
    Calls Tryd.prog 57 #[.int .i64 n] w (Same1 (.string (numS n)) w) := by
  have hs := Lib.hid (numS_small n a b)
  go_enter Tryd.func57, Tryd.ntmps57
  go_wp2
  go_ret
  refine ⟨?_, rfl⟩
  exact congrArg (fun b => Ending.returned (Value.string b)) hs.out
theorem numS_size (n : Int) (h0 : -9223372036854775808 ≤ n) (h1 : n ≤ 9223372036854775807) : (numS n).size ≤ 21 := by
  have := Lib.itoa_length_le n h0 h1
  show ((Lib.itoa n).toArray).size ≤ 21
  simpa using this
theorem numS_neg1 (n : Int) (b : n < 0) (c : -10 < n) : (ByteArray.mk #[45]) ++ numS (-n) = numS n := by
  unfold numS
  rw [dec_cat _ _ [45] _ rfl rfl]
  unfold Lib.itoa
  rw [if_neg (by omega), if_pos b, show (-n).toNat = n.natAbs by omega]
  rfl
theorem numS_neg (n : Int) (b : n ≤ -10) : numS (-(-n / 10)) ++ numS ((-n % 10)) = numS n := by
  unfold numS Lib.itoa
  rw [if_pos (by omega), if_neg (by omega), if_pos (by omega), dec_cat _ _ _ _ rfl rfl, List.cons_append]
  congr 3
  have h3 := Lib.decDigits.eq_def n.natAbs
  rw [dif_neg (by omega)] at h3
  have h4 := Lib.decDigits.eq_def ((-n % 10)).toNat
  rw [dif_pos (by omega)] at h4
  rw [h3, h4, show (-(-n / 10)).natAbs = n.natAbs / 10 by omega, show ((-n % 10)).toNat = n.natAbs % 10 by omega]
set_option maxHeartbeats 1000000 in
theorem dig_pos (n : Int) (b : 10 ≤ n) (h1 : n ≤ 9223372036854775807) (ih : DigIH n) (w : World) :
    Calls Tryd.prog 57 #[.int .i64 n] w (Same1 (.string (numS n)) w) := by
  have hs := Lib.hid (numS_pos n b)
  have z1 := numS_size (n / 10) (by omega) (by omega)
  have z2 := numS_size (n % 10) (by omega) (by omega)
  go_enter Tryd.func57, Tryd.ntmps57
  go_wp2_with (first | (go_at_call 57; refine (ih _ ?_ _).mono ?_; (· omega); rintro e w' ⟨rfl, rfl⟩))
  go_ret
  refine ⟨?_, rfl⟩
  exact congrArg (fun b => Ending.returned (Value.string b)) hs.out
set_option maxHeartbeats 1000000 in
theorem dig_neg (n : Int) (b : n < 0) (h1 : -9223372036854775808 ≤ n) (ih : DigIH n) (w : World) :
    Calls Tryd.prog 57 #[.int .i64 n] w (Same1 (.string (numS n)) w) := by
  have hq : n.tdiv 10 = -((-n) / 10) := by
    have := Int.neg_tdiv (-n) 10
    rw [Int.neg_neg] at this
    rw [this, Int.tdiv_eq_ediv_of_nonneg (a := -n) (by omega)]
  have hm : n.tmod 10 = -((-n) % 10) := by
    have := Int.neg_tmod (-n) 10
    rw [Int.neg_neg] at this
    rw [this, Int.tmod_eq_emod_of_nonneg (a := -n) (by omega)]
  by_cases c : -10 < n
  · have hs := Lib.hid (numS_neg1 n b c)
    have z1 := numS_size (-n) (by omega) (by omega)
    clear hq hm
    go_enter Tryd.func57, Tryd.ntmps57
    go_wp2_with (first | (go_at_call 57; refine (ih _ ?_ _).mono ?_; (· omega); rintro e w' ⟨rfl, rfl⟩))
    go_ret
    refine ⟨?_, rfl⟩
    exact congrArg (fun b => Ending.returned (Value.string b)) hs.out
  · have hs := Lib.hid (numS_neg n (by omega))
    have z1 := numS_size (-(-n / 10)) (by omega) (by omega)
    have z2 := numS_size ((-n % 10)) (by omega) (by omega)
    go_enter Tryd.func57, Tryd.ntmps57
    go_wp2_with (first | (go_at_call 57; refine (ih _ ?_ _).mono ?_; (· omega); rintro e w' ⟨rfl, rfl⟩))
    go_ret
    refine ⟨?_, rfl⟩
    exact congrArg (fun b => Ending.returned (Value.string b)) hs.out
theorem digits_val : ∀ (k : Nat) (n : Int) (hk : n.natAbs ≤ k) (h0 : -9223372036854775808 ≤ n) (h1 : n ≤ 9223372036854775807) (w : World),
    Calls Tryd.prog 57 #[.int .i64 n] w (Same1 (.string (numS n)) w)
  | 0, n, hk, h0, h1, w => dig_small n (by omega) (by omega) w
  | k + 1, n, hk, h0, h1, w => by
    have ih : DigIH n := by
      intro m hm w
      by_cases s : 0 ≤ m ∧ m < 10
      · exact dig_small m s.1 s.2 w
      · exact digits_val k m (by omega) (by omega) (by omega) w
    by_cases a : n < 0
    · exact dig_neg n a h0 ih w
    · by_cases b : n < 10
      · exact dig_small n (by omega) b w
      · exact dig_pos n (by omega) h1 ih w
end Go.Proofs.YtcjidlgmbjebjaaDoor
