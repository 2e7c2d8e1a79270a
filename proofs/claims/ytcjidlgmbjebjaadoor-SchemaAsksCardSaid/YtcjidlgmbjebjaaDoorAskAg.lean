import Derived.Test.YtcjidlgmbjebjaaDoorAskAe
import Derived.Test.YtcjidlgmbjebjaaDoorAskAf
import Derived.Laws.RangeAny
import Derived.Laws.Strings3
import Derived.Laws.RangeString
import Derived.Laws.Runes
import Derived.Lib.Strings
set_option linter.unusedVariables false
set_option linter.unusedSimpArgs false
set_option maxRecDepth 100000
namespace Go.Proofs.YtcjidlgmbjebjaaDoor
open Go Go.RowKit
def isP (t : ByteArray) : Bool := decide (3 ≤ t.size) && (t.extract 0 3).toList == [239, 191, 189]
theorem pfx176 (t : ByteArray) (w : World) : Calls Tryd.prog 176 #[.string t, .string ⟨#[239, 191, 189]⟩] w fun e w' => e = .returned (.bool (isP t)) ∧ w = w' := by
  unfold isP
  go_enter Tryd.func176, Tryd.ntmps176
  go_wp2
  · rename_i h
    have h2 : decide (3 ≤ t.size) = true := by simp; omega
    go_ret
    refine ⟨?_, rfl⟩
    rw [h2]; rfl
  · rename_i h
    have h2 : decide (3 ≤ t.size) = false := by simp; omega
    go_ret
    refine ⟨?_, rfl⟩
    rw [h2]; rfl
theorem pfx144 (t : ByteArray) (w : World) : Calls Tryd.prog 144 #[.string t, .string ⟨#[239, 191, 189]⟩] w fun e w' => e = .returned (.bool (isP t)) ∧ w = w' := by
  go_enter Tryd.func144, Tryd.ntmps144
  go_wp2_with (first | (go_at_call 176; refine (pfx176 _ _).mono ?_; rintro e w' ⟨rfl, rfl⟩))
  go_ret
  exact ⟨rfl, rfl⟩
theorem get_list (s : ByteArray) (i : Nat) (h : i < s.size) : s.data.toList[i]? = some (s.get! i) := by
  have hd : i < s.data.size := h
  rw [Array.getElem?_toList, Array.getElem?_eq_getElem hd]
  congr 1
  show _ = s.get! i
  have : s.data[i]! = s.data[i] := getElem!_pos s.data i hd
  simp only [ByteArray.get!]
  exact this.symm
theorem isP_eq (s : ByteArray) (i : Nat) (hi : i ≤ s.size) : isP (s.extract i s.size) = Utf.fffd s i := by
  have hsz : (s.extract i s.size).size = s.size - i := by simp
  have hl : ((s.extract i s.size).extract 0 3).toList = (s.data.toList.drop i).take 3 := by
    rw [Lib.toList_data]
    simp only [ByteArray.data_extract, Array.toList_extract, List.extract_eq_take_drop]
    have : s.data.toList.length = s.size := rfl
    have ht : (s.data.toList.drop i).take (s.size - i) = s.data.toList.drop i := List.take_of_length_le (by rw [List.length_drop]; omega)
    simp only [List.drop_zero, Nat.sub_zero]
    rw [ht]
  unfold isP Utf.fffd Utf.byt
  rw [hsz, hl]
  by_cases h : i + 2 < s.size
  · have h3 : decide (3 ≤ s.size - i) = true := by simp; omega
    rw [h3, decide_eq_true h, Bool.true_and, Bool.true_and]
    have e0 := get_list s i (by omega)
    have e1 := get_list s (i + 1) (by omega)
    have e2 := get_list s (i + 2) (by omega)
    have hlen : s.data.toList.length = s.size := rfl
    have hd : (s.data.toList.drop i).take 3 = [s.get! i, s.get! (i + 1), s.get! (i + 2)] := by
      apply List.ext_getElem?
      intro j
      match j with
      | 0 => simpa [List.getElem?_take, List.getElem?_drop] using e0
      | 1 => simpa [List.getElem?_take, List.getElem?_drop] using e1
      | 2 => simpa [List.getElem?_take, List.getElem?_drop] using e2
      | j + 3 =>
        rw [List.getElem?_eq_none (by simp; omega), List.getElem?_eq_none (by simp)]
    rw [hd]
    have hu : ∀ (a : UInt8) (n : Nat) (hn : n < 256), (a.toNat == n) = (a == UInt8.ofNat n) := fun a n hn => by
      rw [Bool.eq_iff_iff, beq_iff_eq, beq_iff_eq]
      constructor
      · intro h; apply UInt8.toNat_inj.1; simp [h, Nat.mod_eq_of_lt hn]
      · intro h; rw [h]; simp [Nat.mod_eq_of_lt hn]
    rw [hu _ 239 (by omega), hu _ 191 (by omega), hu _ 189 (by omega)]
    rw [Bool.eq_iff_iff]
    simp [and_assoc]
  · have h3 : decide (3 ≤ s.size - i) = false := by simp; omega
    rw [h3, decide_eq_false h]; rfl
end Go.Proofs.YtcjidlgmbjebjaaDoor
