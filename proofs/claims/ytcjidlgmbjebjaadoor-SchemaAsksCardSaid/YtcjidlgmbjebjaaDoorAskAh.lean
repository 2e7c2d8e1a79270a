import Derived.Test.YtcjidlgmbjebjaaDoorAskAf
set_option linter.unusedVariables false
set_option linter.unusedSimpArgs false
namespace Go.Proofs.YtcjidlgmbjebjaaDoor.Utf
open Go
def okCh (i c : Nat) : Bool := (decide (97 ≤ c) && decide (c ≤ 122)) || (decide (0 < i) && (decide (c = 95) || (decide (48 ≤ c) && decide (c ≤ 57))))
theorem okCh_iff (i c : Nat) : okCh i c = true ↔ (97 ≤ c ∧ c ≤ 122) ∨ (0 < i ∧ (c = 95 ∨ (48 ≤ c ∧ c ≤ 57))) := by
  unfold okCh; simp
def nmFrom (s : ByteArray) : Nat → Nat → Bool
  | 0, _ => true
  | f + 1, i => if i < s.size then okCh i (byt s i) && nmFrom s f (i + 1) else true
def nmAll (s : ByteArray) : Bool := nmFrom s s.size 0
def nmOk (s : ByteArray) : Bool := nmAll s && (decide (1 ≤ s.size) && decide (s.size ≤ 12))
theorem nmFrom_end (s : ByteArray) (f i : Nat) (h : ¬ i < s.size) : nmFrom s f i = true := by
  cases f with
  | zero => rfl
  | succ f => rw [nmFrom, if_neg h]
theorem nmFrom_bad (s : ByteArray) (f i : Nat) (h : i < s.size) (hf : s.size ≤ i + f) (hb : okCh i (byt s i) = false) : nmFrom s f i = false := by
  cases f with
  | zero => omega
  | succ f => rw [nmFrom, if_pos h, hb, Bool.false_and]
theorem nmFrom_on (s : ByteArray) (f i : Nat) (h : i < s.size) (hf : s.size ≤ i + f) (hb : okCh i (byt s i) = true) : ∃ g, f = g + 1 ∧ nmFrom s f i = nmFrom s g (i + 1) ∧ s.size ≤ i + 1 + g := by
  cases f with
  | zero => omega
  | succ f => exact ⟨f, rfl, by rw [nmFrom, if_pos h, hb, Bool.true_and], by omega⟩
theorem decode_ascii (s : ByteArray) (i : Nat) (h : byt s i < 128) : Utf8.decode s i = (byt s i, 1) := by
  rw [decode_eq, if_pos h]
theorem decode_high (s : ByteArray) (i : Nat) (h : ¬ byt s i < 128) : 128 ≤ (Utf8.decode s i).1 := by
  rw [decode_eq, if_neg h]
  repeat' split
  all_goals first | omega | (simp at *; omega)
end Go.Proofs.YtcjidlgmbjebjaaDoor.Utf
