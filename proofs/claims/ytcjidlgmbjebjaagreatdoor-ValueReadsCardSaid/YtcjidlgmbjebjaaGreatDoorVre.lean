/- A part of the proof of ValueReads. -/
import Derived.Test.YtcjidlgmbjebjaaGreatDoorVra
import Derived.Lib.ItoaLen
import GoSem.Step
import Derived.Laws.RangeAny
import Derived.Laws.Strings3
import Derived.Laws.RangeString
import Derived.Laws.Runes
import Derived.Lib.Strings
set_option linter.unusedVariables false
set_option linter.unusedSimpArgs false
set_option maxRecDepth 100000
namespace Go.Proofs.YtcjidlgmbjebjaaGreatDoor
open Go Go.RowKit
def Same1 (v : Value) (w : World) (e : Ending) (w' : World) : Prop := e = .returned v ∧ w' = w
def numS (n : Int) : ByteArray := ⟨(Lib.itoa n).toArray⟩
end Go.Proofs.YtcjidlgmbjebjaaGreatDoor

namespace Go.Proofs.YtcjidlgmbjebjaaGreatDoor.Utf
open Go
def byt (s : ByteArray) (i : Nat) : Nat := (s.get! i).toNat
theorem byt_lt (s : ByteArray) (i : Nat) : byt s i < 256 := (s.get! i).toNat_lt
def kOf (c : Nat) : Nat := if c < 128 then 0 else if c < 224 then 1 else if c < 240 then 2 else 3
def leastOf (c : Nat) : Nat := if c < 128 then 0 else if c < 224 then 128 else if c < 240 then 2048 else 65536
def startOf (c : Nat) : Nat := if c < 128 then c else if c < 224 then c % 32 else if c < 240 then c % 16 else c % 8
def okHead (c : Nat) : Bool := decide (c < 128) || (decide (194 ≤ c) && decide (c < 245))
def cont (s : ByteArray) (i : Nat) : Bool := decide (i < s.size) && byt s i / 64 == 2
def val (s : ByteArray) (i r : Nat) : Nat → Nat
  | 0 => r
  | n + 1 => val s i r n * 64 + byt s (i + (n + 1)) % 64
def conts (s : ByteArray) (i : Nat) : Nat → Bool
  | 0 => true
  | n + 1 => conts s i n && cont s (i + (n + 1))
def okRune (c r : Nat) : Bool := decide (leastOf c ≤ r) && decide (r ≤ 1114111) && !(decide (55296 ≤ r) && decide (r ≤ 57343))
def okStep (s : ByteArray) (i : Nat) : Bool :=
  okHead (byt s i) && conts s i (kOf (byt s i)) && okRune (byt s i) (val s i (startOf (byt s i)) (kOf (byt s i)))
def fffd (s : ByteArray) (i : Nat) : Bool := decide (i + 2 < s.size) && byt s i == 239 && byt s (i + 1) == 191 && byt s (i + 2) == 189
def bad (s : ByteArray) (i : Nat) : Bool := (Utf8.decode s i).1 == 65533 && !fffd s i
theorem valid_iff (c : Nat) : Utf8.valid (c : Int) = true ↔ c < 55296 ∨ (57344 ≤ c ∧ c ≤ 1114111) := by
  unfold Utf8.valid
  simp only [Bool.or_eq_true, Bool.and_eq_true, decide_eq_true_eq]
  omega
theorem decode_eq (s : ByteArray) (i : Nat) : Utf8.decode s i =
    if byt s i < 128 then (byt s i, 1)
    else if (byt s i / 32 == 6 && cont s (i + 1)) = true then
      if byt s i % 32 * 64 + byt s (i + 1) % 64 ≥ 128 then (byt s i % 32 * 64 + byt s (i + 1) % 64, 2) else (65533, 1)
    else if (byt s i / 16 == 14 && cont s (i + 1) && cont s (i + 2)) = true then
      if (decide (byt s i % 16 * 4096 + byt s (i + 1) % 64 * 64 + byt s (i + 2) % 64 ≥ 2048) && Utf8.valid (byt s i % 16 * 4096 + byt s (i + 1) % 64 * 64 + byt s (i + 2) % 64 : Nat)) = true
      then (byt s i % 16 * 4096 + byt s (i + 1) % 64 * 64 + byt s (i + 2) % 64, 3) else (65533, 1)
    else if (byt s i / 8 == 30 && cont s (i + 1) && cont s (i + 2) && cont s (i + 3)) = true then
      if (decide (byt s i % 8 * 262144 + byt s (i + 1) % 64 * 4096 + byt s (i + 2) % 64 * 64 + byt s (i + 3) % 64 ≥ 65536) && Utf8.valid (byt s i % 8 * 262144 + byt s (i + 1) % 64 * 4096 + byt s (i + 2) % 64 * 64 + byt s (i + 3) % 64 : Nat)) = true
      then (byt s i % 8 * 262144 + byt s (i + 1) % 64 * 4096 + byt s (i + 2) % 64 * 64 + byt s (i + 3) % 64, 4) else (65533, 1)
    else (65533, 1) := rfl
theorem step_eq (s : ByteArray) (i : Nat) : okStep s i = !bad s i ∧ (okStep s i = true → (Utf8.decode s i).2 = kOf (byt s i) + 1) := by
  have l0 := byt_lt s i
  have l1 := byt_lt s (i + 1)
  have l2 := byt_lt s (i + 2)
  have l3 := byt_lt s (i + 3)
  have hc1 : cont s (i + 1) = true ↔ i + 1 < s.size ∧ byt s (i + 1) / 64 = 2 := by unfold cont; simp
  have hc2 : cont s (i + 2) = true ↔ i + 2 < s.size ∧ byt s (i + 2) / 64 = 2 := by unfold cont; simp
  have hc3 : cont s (i + 3) = true ↔ i + 3 < s.size ∧ byt s (i + 3) / 64 = 2 := by unfold cont; simp
  have hf : fffd s i = true ↔ i + 2 < s.size ∧ byt s i = 239 ∧ byt s (i + 1) = 191 ∧ byt s (i + 2) = 189 := by unfold fffd; simp [and_assoc]
  have hb : bad s i = true ↔ (Utf8.decode s i).1 = 65533 ∧ ¬ fffd s i = true := by unfold bad; simp
  have hor : ∀ c r, okRune c r = true ↔ leastOf c ≤ r ∧ r ≤ 1114111 ∧ ¬ (55296 ≤ r ∧ r ≤ 57343) := fun c r => by unfold okRune; simp [and_assoc]; omega
  have hoh : okHead (byt s i) = true ↔ byt s i < 128 ∨ (194 ≤ byt s i ∧ byt s i < 245) := by unfold okHead; simp
  have hos : okStep s i = true ↔ okHead (byt s i) = true ∧ conts s i (kOf (byt s i)) = true ∧ okRune (byt s i) (val s i (startOf (byt s i)) (kOf (byt s i))) = true := by unfold okStep; simp [and_assoc]
  have key : (okStep s i = true ↔ ¬ bad s i = true) ∧ (okStep s i = true → (Utf8.decode s i).2 = kOf (byt s i) + 1) := by
    rw [hb, hf, hos, hor, hoh, decode_eq]
    have v1 : ∀ r, val s i r 1 = r * 64 + byt s (i + 1) % 64 := fun r => rfl
    have v2 : ∀ r, val s i r 2 = (r * 64 + byt s (i + 1) % 64) * 64 + byt s (i + 2) % 64 := fun r => rfl
    have v3 : ∀ r, val s i r 3 = ((r * 64 + byt s (i + 1) % 64) * 64 + byt s (i + 2) % 64) * 64 + byt s (i + 3) % 64 := fun r => rfl
    have w1 : conts s i 1 = cont s (i + 1) := by simp [conts]
    have w2 : conts s i 2 = (cont s (i + 1) && cont s (i + 2)) := by simp [conts]
    have w3 : conts s i 3 = (cont s (i + 1) && cont s (i + 2) && cont s (i + 3)) := by simp [conts]
    by_cases a0 : byt s i < 128
    · have e1 : kOf (byt s i) = 0 := by unfold kOf; rw [if_pos a0]
      have e2 : leastOf (byt s i) = 0 := by unfold leastOf; rw [if_pos a0]
      have e3 : startOf (byt s i) = byt s i := by unfold startOf; rw [if_pos a0]
      rw [e1, e2, e3, if_pos a0]
      refine ⟨⟨fun _ h => ?_, fun _ => ⟨.inl a0, rfl, ?_⟩⟩, fun _ => rfl⟩
      · have := h.1; simp only at this; omega
      · have v0 : val s i (byt s i) 0 = byt s i := rfl
        rw [v0]; omega
    · rw [if_neg a0]
      by_cases a1 : byt s i < 224
      · have e1 : kOf (byt s i) = 1 := by unfold kOf; rw [if_neg a0, if_pos a1]
        have e2 : leastOf (byt s i) = 128 := by unfold leastOf; rw [if_neg a0, if_pos a1]
        have e3 : startOf (byt s i) = byt s i % 32 := by unfold startOf; rw [if_neg a0, if_pos a1]
        have g2 : (byt s i / 16 == 14) = false := by rw [beq_eq_false_iff_ne]; omega
        have g3 : (byt s i / 8 == 30) = false := by rw [beq_eq_false_iff_ne]; omega
        rw [e1, e2, e3, v1, w1, g2, g3]
        simp only [Bool.false_and, Bool.false_eq_true, if_false]
        generalize hx : byt s i % 32 * 64 + byt s (i + 1) % 64 = x
        have hx2 : x < 2048 := by omega
        by_cases t : cont s (i + 1) = true
        · by_cases h6 : byt s i / 32 = 6
          · have : (byt s i / 32 == 6 && cont s (i + 1)) = true := by simp [t, h6]
            rw [if_pos this]
            by_cases hx3 : x ≥ 128
            · rw [if_pos hx3]
              simp only [t, true_and]
              refine ⟨⟨fun _ h => by omega, fun _ => ⟨by omega, by omega⟩⟩, fun _ => by first | rfl | trivial⟩
            · rw [if_neg hx3]
              refine ⟨⟨fun h => by omega, fun h => absurd ⟨rfl, fun hh => by omega⟩ h⟩, fun h => by omega⟩
          · have : ¬ ((byt s i / 32 == 6 && cont s (i + 1)) = true) := by simp [h6]
            rw [if_neg this]
            refine ⟨⟨fun h => by omega, fun h => absurd ⟨rfl, fun hh => by omega⟩ h⟩, fun h => by omega⟩
        · have : ¬ ((byt s i / 32 == 6 && cont s (i + 1)) = true) := by simp [t]
          rw [if_neg this]
          refine ⟨⟨fun h => absurd h.2.1 t, fun h => absurd ⟨rfl, fun hh => by omega⟩ h⟩, fun h => absurd h.2.1 t⟩
      · have g1 : (byt s i / 32 == 6) = false := by rw [beq_eq_false_iff_ne]; omega
        by_cases a2 : byt s i < 240
        · have e1 : kOf (byt s i) = 2 := by unfold kOf; rw [if_neg a0, if_neg a1, if_pos a2]
          have e2 : leastOf (byt s i) = 2048 := by unfold leastOf; rw [if_neg a0, if_neg a1, if_pos a2]
          have e3 : startOf (byt s i) = byt s i % 16 := by unfold startOf; rw [if_neg a0, if_neg a1, if_pos a2]
          have g2 : (byt s i / 16 == 14) = true := by rw [beq_iff_eq]; omega
          have g3 : (byt s i / 8 == 30) = false := by rw [beq_eq_false_iff_ne]; omega
          rw [e1, e2, e3, v2, w2, g1, g2, g3]
          simp only [Bool.false_and, Bool.true_and, Bool.false_eq_true, if_false]
          have hx : (byt s i % 16 * 64 + byt s (i + 1) % 64) * 64 + byt s (i + 2) % 64 = byt s i % 16 * 4096 + byt s (i + 1) % 64 * 64 + byt s (i + 2) % 64 := by omega
          rw [hx]
          by_cases t : (cont s (i + 1) && cont s (i + 2)) = true
          · rw [if_pos t]
            have t' := t
            simp only [Bool.and_eq_true] at t'
            obtain ⟨q1, q2⟩ := t'
            have q1 := hc1.1 q1
            have q2 := hc2.1 q2
            by_cases hv : (decide (byt s i % 16 * 4096 + byt s (i + 1) % 64 * 64 + byt s (i + 2) % 64 ≥ 2048) && Utf8.valid (byt s i % 16 * 4096 + byt s (i + 1) % 64 * 64 + byt s (i + 2) % 64 : Nat)) = true
            · rw [if_pos hv]
              simp only [Bool.and_eq_true, decide_eq_true_eq, valid_iff] at hv
              refine ⟨⟨fun _ h => h.2 ?_, fun _ => ⟨by omega, t, by omega⟩⟩, fun _ => rfl⟩
              have := h.1
              simp only at this
              omega
            · rw [if_neg hv]
              simp only [Bool.and_eq_true, decide_eq_true_eq, valid_iff] at hv
              refine ⟨⟨fun h => by omega, fun h => absurd ⟨rfl, fun hh => by omega⟩ h⟩, fun h => by omega⟩
          · rw [if_neg t]
            have t' : ¬ (cont s (i + 1) = true ∧ cont s (i + 2) = true) := by simpa using t
            rw [hc1, hc2] at t'
            refine ⟨⟨fun h => absurd h.2.1 t, fun h => absurd ⟨rfl, fun hh => by omega⟩ h⟩, fun h => absurd h.2.1 t⟩
        · have e1 : kOf (byt s i) = 3 := by unfold kOf; rw [if_neg a0, if_neg a1, if_neg a2]
          have e2 : leastOf (byt s i) = 65536 := by unfold leastOf; rw [if_neg a0, if_neg a1, if_neg a2]
          have e3 : startOf (byt s i) = byt s i % 8 := by unfold startOf; rw [if_neg a0, if_neg a1, if_neg a2]
          have g2 : (byt s i / 16 == 14) = false := by rw [beq_eq_false_iff_ne]; omega
          rw [e1, e2, e3, v3, w3, g1, g2]
          simp only [Bool.false_and, Bool.false_eq_true, if_false]
          have hx : ((byt s i % 8 * 64 + byt s (i + 1) % 64) * 64 + byt s (i + 2) % 64) * 64 + byt s (i + 3) % 64 = byt s i % 8 * 262144 + byt s (i + 1) % 64 * 4096 + byt s (i + 2) % 64 * 64 + byt s (i + 3) % 64 := by omega
          rw [hx]
          by_cases t : (cont s (i + 1) && cont s (i + 2) && cont s (i + 3)) = true
          · by_cases h30 : byt s i / 8 = 30
            · have : (byt s i / 8 == 30 && cont s (i + 1) && cont s (i + 2) && cont s (i + 3)) = true := by
                have : (byt s i / 8 == 30) = true := by simp [h30]
                rw [this, Bool.true_and]; exact t
              rw [if_pos this]
              by_cases hv : (decide (byt s i % 8 * 262144 + byt s (i + 1) % 64 * 4096 + byt s (i + 2) % 64 * 64 + byt s (i + 3) % 64 ≥ 65536) && Utf8.valid (byt s i % 8 * 262144 + byt s (i + 1) % 64 * 4096 + byt s (i + 2) % 64 * 64 + byt s (i + 3) % 64 : Nat)) = true
              · rw [if_pos hv]
                simp only [Bool.and_eq_true, decide_eq_true_eq, valid_iff] at hv
                refine ⟨⟨fun _ h => ?_, fun _ => ⟨by omega, t, by omega⟩⟩, fun _ => rfl⟩
                have := h.1
                simp only at this
                omega
              · rw [if_neg hv]
                simp only [Bool.and_eq_true, decide_eq_true_eq, valid_iff] at hv
                refine ⟨⟨fun h => by omega, fun h => absurd ⟨rfl, fun hh => by omega⟩ h⟩, fun h => by omega⟩
            · have : ¬ ((byt s i / 8 == 30 && cont s (i + 1) && cont s (i + 2) && cont s (i + 3)) = true) := by
                have : (byt s i / 8 == 30) = false := by simp [h30]
                rw [this]; simp
              rw [if_neg this]
              refine ⟨⟨fun h => by omega, fun h => absurd ⟨rfl, fun hh => by omega⟩ h⟩, fun h => by omega⟩
          · have : ¬ ((byt s i / 8 == 30 && cont s (i + 1) && cont s (i + 2) && cont s (i + 3)) = true) := by
              intro hh
              apply t
              simp only [Bool.and_eq_true] at hh ⊢
              exact ⟨⟨hh.1.1.2, hh.1.2⟩, hh.2⟩
            rw [if_neg this]
            refine ⟨⟨fun h => absurd h.2.1 t, fun h => absurd ⟨rfl, fun hh => by omega⟩ h⟩, fun h => absurd h.2.1 t⟩
  refine ⟨?_, key.2⟩
  cases h1 : okStep s i <;> cases h2 : bad s i <;> simp_all
end Go.Proofs.YtcjidlgmbjebjaaGreatDoor.Utf
namespace Go.Proofs.YtcjidlgmbjebjaaGreatDoor.Utf
open Go
def okFrom (s : ByteArray) : Nat → Nat → Bool
  | 0, _ => true
  | f + 1, i => if i < s.size then okStep s i && okFrom s f (i + (kOf (byt s i) + 1)) else true
def ok (s : ByteArray) : Bool := okFrom s s.size 0
theorem okFrom_end (s : ByteArray) (f i : Nat) (h : ¬ i < s.size) : okFrom s f i = true := by
  cases f with
  | zero => rfl
  | succ f => rw [okFrom, if_neg h]
theorem okFrom_bad (s : ByteArray) (f i : Nat) (h : i < s.size) (hf : s.size ≤ i + f) (hb : okStep s i = false) : okFrom s f i = false := by
  cases f with
  | zero => omega
  | succ f => rw [okFrom, if_pos h, hb, Bool.false_and]
theorem okFrom_on (s : ByteArray) (f i : Nat) (h : i < s.size) (hf : s.size ≤ i + f) (hb : okStep s i = true) : ∃ g, f = g + 1 ∧ okFrom s f i = okFrom s g (i + (kOf (byt s i) + 1)) ∧ s.size ≤ i + (kOf (byt s i) + 1) + g := by
  cases f with
  | zero => omega
  | succ f => exact ⟨f, rfl, by rw [okFrom, if_pos h, hb, Bool.true_and], by omega⟩
end Go.Proofs.YtcjidlgmbjebjaaGreatDoor.Utf

namespace Go.Proofs.YtcjidlgmbjebjaaGreatDoor
open Go Go.RowKit
def isP (t : ByteArray) : Bool := decide (3 ≤ t.size) && (t.extract 0 3).toList == [239, 191, 189]
theorem pfx176 (t : ByteArray) (w : World) : Calls Tryz.prog 162 #[.string t, .string ⟨#[239, 191, 189]⟩] w fun e w' => e = .returned (.bool (isP t)) ∧ w = w' := by
  unfold isP
  go_enter Tryz.func162, Tryz.ntmps162
  go_wp2
  · rename_i h
    have h2 : decide (3 ≤ t.size) = true := by simp; omega
    go_ret
    refine ⟨?_, rfl⟩
    rw [h2]; rfl
  · rename_i h
    have h2 : decide (3 ≤ t.size) = false := by simp; omega
    go_ret
    refine ⟨?_, rfl⟩
    rw [h2]; rfl
theorem pfx144 (t : ByteArray) (w : World) : Calls Tryz.prog 112 #[.string t, .string ⟨#[239, 191, 189]⟩] w fun e w' => e = .returned (.bool (isP t)) ∧ w = w' := by
  go_enter Tryz.func112, Tryz.ntmps112
  go_wp2_with (first | (go_at_call 162; refine (pfx176 _ _).mono ?_; rintro e w' ⟨rfl, rfl⟩))
  go_ret
  exact ⟨rfl, rfl⟩
theorem get_list (s : ByteArray) (i : Nat) (h : i < s.size) : s.data.toList[i]? = some (s.get! i) := by
  have hd : i < s.data.size := h
  rw [Array.getElem?_toList, Array.getElem?_eq_getElem hd]
  congr 1
  show _ = s.get! i
  have : s.data[i]! = s.data[i] := getElem!_pos s.data i hd
  simp only [ByteArray.get!]
  exact this.symm
theorem isP_eq (s : ByteArray) (i : Nat) (hi : i ≤ s.size) : isP (s.extract i s.size) = Utf.fffd s i := by
  have hsz : (s.extract i s.size).size = s.size - i := by simp
  have hl : ((s.extract i s.size).extract 0 3).toList = (s.data.toList.drop i).take 3 := by
    rw [Lib.toList_data]
    simp only [ByteArray.data_extract, Array.toList_extract, List.extract_eq_take_drop]
    have : s.data.toList.length = s.size := rfl
    have ht : (s.data.toList.drop i).take (s.size - i) = s.data.toList.drop i := List.take_of_length_le (by rw [List.length_drop]; omega)
    simp only [List.drop_zero, Nat.sub_zero]
    rw [ht]
  unfold isP Utf.fffd Utf.byt
  rw [hsz, hl]
  by_cases h : i + 2 < s.size
  · have h3 : decide (3 ≤ s.size - i) = true := by simp; omega
    rw [h3, decide_eq_true h, Bool.true_and, Bool.true_and]
    have e0 := get_list s i (by omega)
    have e1 := get_list s (i + 1) (by omega)
    have e2 := get_list s (i + 2) (by omega)
    have hlen : s.data.toList.length = s.size := rfl
    have hd : (s.data.toList.drop i).take 3 = [s.get! i, s.get! (i + 1), s.get! (i + 2)] := by
      apply List.ext_getElem?
      intro j
      match j with
      | 0 => simpa [List.getElem?_take, List.getElem?_drop] using e0
      | 1 => simpa [List.getElem?_take, List.getElem?_drop] using e1
      | 2 => simpa [List.getElem?_take, List.getElem?_drop] using e2
      | j + 3 =>
        rw [List.getElem?_eq_none (by simp; omega), List.getElem?_eq_none (by simp)]
    rw [hd]
    have hu : ∀ (a : UInt8) (n : Nat) (hn : n < 256), (a.toNat == n) = (a == UInt8.ofNat n) := fun a n hn => by
      rw [Bool.eq_iff_iff, beq_iff_eq, beq_iff_eq]
      constructor
      · intro h; apply UInt8.toNat_inj.1; simp [h, Nat.mod_eq_of_lt hn]
      · intro h; rw [h]; simp [Nat.mod_eq_of_lt hn]
    rw [hu _ 239 (by omega), hu _ 191 (by omega), hu _ 189 (by omega)]
    rw [Bool.eq_iff_iff]
    simp [and_assoc]
  · have h3 : decide (3 ≤ s.size - i) = false := by simp; omega
    rw [h3, decide_eq_false h]; rfl
end Go.Proofs.YtcjidlgmbjebjaaGreatDoor

namespace Go.Proofs.YtcjidlgmbjebjaaGreatDoor
open Go Go.RowKit
def RightR (s : ByteArray) (w w' : World) : Prop := ∃ pos b : Nat, w' = w.iter s pos ∧ s.size ≤ pos + b ∧ Utf.okFrom s b pos = Utf.ok s
theorem below_iter (w : World) (s : ByteArray) (p : Nat) : Below w.heap.size w (w.iter s p) := (Below.refl w.heap.size w).alloc (Nat.le_refl _) _
set_option maxHeartbeats 1000000 in
theorem right_val (s : ByteArray) (w : World) (hs : s.size ≤ 9223372036854775807) :
    Calls Tryz.prog 269 #[.string s] w (RetBool (Utf.ok s) w) := by
  go_enter Tryz.func269, Tryz.ntmps269
  go_wp2
  go_loopw [] (fun w' => RightR s w w') (fun w' => s.size - w'.iterPos w.heap.size)
  case atStart => exact ⟨0, s.size, rfl, by omega, rfl⟩
  case round =>
    obtain ⟨pos, b, rfl, hb, hc⟩ := hrel
    by_cases hp : pos < s.size
    · have hstep := Utf.step_eq s pos
      have hP0 := isP_eq s pos (by omega)
      have hnx : ∀ ty, (Instr.next (.pointer (some ⟨w.heap.size, 0, none⟩)) true ty).run Tryz.prog (w.iter s pos) = _ := fun ty => run_next_any w s pos ty hp
      by_cases hr : (Utf8.decode s pos).1 = 65533
      · have hr1 : (((Utf8.decode s pos).1 : Int) == 65533) = true := by simp [hr]
        cases hf : Utf.fffd s pos with
        | true =>
          have hok : Utf.okStep s pos = true := by rw [hstep.1]; unfold Utf.bad; rw [hf]; simp
          obtain ⟨g, rfl, hg, hgb⟩ := Utf.okFrom_on s b pos hp hb hok
          have hw := hstep.2 hok
          have H1 := Lib.hid hc; clear hc
          have H2 := Lib.hid hg; clear hg
          have H3 := Lib.hid hw; clear hw
          rw [hf] at hP0
          clear hstep hok hf hr
          go_wp2_with (first | (go_at_call 112; refine (pfx144 _ _).mono ?_; rintro e w' ⟨rfl, rfl⟩))
          go_roundw
          case rel => exact ⟨pos + (Utf8.decode s pos).2, g, rfl, by rw [H3.out]; omega, by rw [H3.out, ← H2.out]; exact H1.out⟩
          case measure =>
            have := H3.out
            simp
            omega
        | false =>
          have hok : Utf.okStep s pos = false := by rw [hstep.1]; unfold Utf.bad; rw [hf, hr]; rfl
          have hno : Utf.ok s = false := by rw [← hc]; exact Utf.okFrom_bad s b pos hp hb hok
          have HN := Lib.hid hno; clear hno
          rw [hf] at hP0
          clear hstep hok hf hr hc
          go_wp2_with (first | (go_at_call 112; refine (pfx144 _ _).mono ?_; rintro e w' ⟨rfl, rfl⟩))
          go_ret
          exact ⟨by rw [HN.out]; rfl, below_iter w s _⟩
      · have hr1 : (((Utf8.decode s pos).1 : Int) == 65533) = false := by
          rw [beq_eq_false_iff_ne]; omega
        have hok : Utf.okStep s pos = true := by
          rw [hstep.1]; unfold Utf.bad
          have : ((Utf8.decode s pos).1 == 65533) = false := by rw [beq_eq_false_iff_ne]; exact hr
          rw [this]; rfl
        obtain ⟨g, rfl, hg, hgb⟩ := Utf.okFrom_on s b pos hp hb hok
        have hw := hstep.2 hok
        have H1 := Lib.hid hc; clear hc
        have H2 := Lib.hid hg; clear hg
        have H3 := Lib.hid hw; clear hw
        clear hstep hok hr hP0
        go_wp2_with (first | (go_at_call 112; refine (pfx144 _ _).mono ?_; rintro e w' ⟨rfl, rfl⟩))
        go_roundw
        case rel => exact ⟨pos + (Utf8.decode s pos).2, g, rfl, by rw [H3.out]; omega, by rw [H3.out, ← H2.out]; exact H1.out⟩
        case measure =>
          have := H3.out
          simp
          omega
    · have hnx : ∀ ty, (Instr.next (.pointer (some ⟨w.heap.size, 0, none⟩)) true ty).run Tryz.prog (w.iter s pos) = _ := fun ty => run_next_end w s pos ty hp
      have hok : Utf.ok s = true := by rw [← hc]; exact Utf.okFrom_end s b pos hp
      clear hc
      go_wp2
      go_ret
      exact ⟨by first | rfl | (rw [hok]; rfl), below_iter w s pos⟩
end Go.Proofs.YtcjidlgmbjebjaaGreatDoor
