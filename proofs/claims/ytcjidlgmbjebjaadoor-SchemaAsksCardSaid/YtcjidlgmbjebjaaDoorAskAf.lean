/- Right UTF-8: what the machine's decoding says of it, and what a hand-written check says: plain law, no program in sight. -/
import GoSem.Step
set_option linter.unusedVariables false
set_option linter.unusedSimpArgs false
namespace Go.Proofs.YtcjidlgmbjebjaaDoor.Utf
open Go
def byt (s : ByteArray) (i : Nat) : Nat := (s.get! i).toNat
theorem byt_lt (s : ByteArray) (i : Nat) : byt s i < 256 := (s.get! i).toNat_lt
def kOf (c : Nat) : Nat := if c < 128 then 0 else if c < 224 then 1 else if c < 240 then 2 else 3
def leastOf (c : Nat) : Nat := if c < 128 then 0 else if c < 224 then 128 else if c < 240 then 2048 else 65536
def startOf (c : Nat) : Nat := if c < 128 then c else if c < 224 then c % 32 else if c < 240 then c % 16 else c % 8
def okHead (c : Nat) : Bool := decide (c < 128) || (decide (194 ≤ c) && decide (c < 245))
def cont (s : ByteArray) (i : Nat) : Bool := decide (i < s.size) && byt s i / 64 == 2
/-- Behind n bytes that go on. -/
def val (s : ByteArray) (i r : Nat) : Nat → Nat
  | 0 => r
  | n + 1 => val s i r n * 64 + byt s (i + (n + 1)) % 64
def conts (s : ByteArray) (i : Nat) : Nat → Bool
  | 0 => true
  | n + 1 => conts s i n && cont s (i + (n + 1))
def okRune (c r : Nat) : Bool := decide (leastOf c ≤ r) && decide (r ≤ 1114111) && !(decide (55296 ≤ r) && decide (r ≤ 57343))
def okStep (s : ByteArray) (i : Nat) : Bool :=
  okHead (byt s i) && conts s i (kOf (byt s i)) && okRune (byt s i) (val s i (startOf (byt s i)) (kOf (byt s i)))
/-- Does the sign of what is wrong stand there, as a text of its own? -/
def fffd (s : ByteArray) (i : Nat) : Bool := decide (i + 2 < s.size) && byt s i == 239 && byt s (i + 1) == 191 && byt s (i + 2) == 189
def bad (s : ByteArray) (i : Nat) : Bool := (Utf8.decode s i).1 == 65533 && !fffd s i
theorem valid_iff (c : Nat) : Utf8.valid (c : Int) = true ↔ c < 55296 ∨ (57344 ≤ c ∧ c ≤ 1114111) := by
  unfold Utf8.valid
  simp only [Bool.or_eq_true, Bool.and_eq_true, decide_eq_true_eq]
  omega
theorem decode_eq (s : ByteArray) (i : Nat) : Utf8.decode s i =
    if byt s i < 128 then (byt s i, 1)
    else if (byt s i / 32 == 6 && cont s (i + 1)) = true then
      if byt s i % 32 * 64 + byt s (i + 1) % 64 ≥ 128 then (byt s i % 32 * 64 + byt s (i + 1) % 64, 2) else (65533, 1)
    else if (byt s i / 16 == 14 && cont s (i + 1) && cont s (i + 2)) = true then
      if (decide (byt s i % 16 * 4096 + byt s (i + 1) % 64 * 64 + byt s (i + 2) % 64 ≥ 2048) && Utf8.valid (byt s i % 16 * 4096 + byt s (i + 1) % 64 * 64 + byt s (i + 2) % 64 : Nat)) = true
      then (byt s i % 16 * 4096 + byt s (i + 1) % 64 * 64 + byt s (i + 2) % 64, 3) else (65533, 1)
    else if (byt s i / 8 == 30 && cont s (i + 1) && cont s (i + 2) && cont s (i + 3)) = true then
      if (decide (byt s i % 8 * 262144 + byt s (i + 1) % 64 * 4096 + byt s (i + 2) % 64 * 64 + byt s (i + 3) % 64 ≥ 65536) && Utf8.valid (byt s i % 8 * 262144 + byt s (i + 1) % 64 * 4096 + byt s (i + 2) % 64 * 64 + byt s (i + 3) % 64 : Nat)) = true
      then (byt s i % 8 * 262144 + byt s (i + 1) % 64 * 4096 + byt s (i + 2) % 64 * 64 + byt s (i + 3) % 64, 4) else (65533, 1)
    else (65533, 1) := rfl
theorem step_eq (s : ByteArray) (i : Nat) : okStep s i = !bad s i ∧ (okStep s i = true → (Utf8.decode s i).2 = kOf (byt s i) + 1) := by
  have l0 := byt_lt s i
  have l1 := byt_lt s (i + 1)
  have l2 := byt_lt s (i + 2)
  have l3 := byt_lt s (i + 3)
  have hc1 : cont s (i + 1) = true ↔ i + 1 < s.size ∧ byt s (i + 1) / 64 = 2 := by unfold cont; simp
  have hc2 : cont s (i + 2) = true ↔ i + 2 < s.size ∧ byt s (i + 2) / 64 = 2 := by unfold cont; simp
  have hc3 : cont s (i + 3) = true ↔ i + 3 < s.size ∧ byt s (i + 3) / 64 = 2 := by unfold cont; simp
  have hf : fffd s i = true ↔ i + 2 < s.size ∧ byt s i = 239 ∧ byt s (i + 1) = 191 ∧ byt s (i + 2) = 189 := by unfold fffd; simp [and_assoc]
  have hb : bad s i = true ↔ (Utf8.decode s i).1 = 65533 ∧ ¬ fffd s i = true := by unfold bad; simp
  have hor : ∀ c r, okRune c r = true ↔ leastOf c ≤ r ∧ r ≤ 1114111 ∧ ¬ (55296 ≤ r ∧ r ≤ 57343) := fun c r => by unfold okRune; simp [and_assoc]; omega
  have hoh : okHead (byt s i) = true ↔ byt s i < 128 ∨ (194 ≤ byt s i ∧ byt s i < 245) := by unfold okHead; simp
  have hos : okStep s i = true ↔ okHead (byt s i) = true ∧ conts s i (kOf (byt s i)) = true ∧ okRune (byt s i) (val s i (startOf (byt s i)) (kOf (byt s i))) = true := by unfold okStep; simp [and_assoc]
  have key : (okStep s i = true ↔ ¬ bad s i = true) ∧ (okStep s i = true → (Utf8.decode s i).2 = kOf (byt s i) + 1) := by
    rw [hb, hf, hos, hor, hoh, decode_eq]
    have v1 : ∀ r, val s i r 1 = r * 64 + byt s (i + 1) % 64 := fun r => rfl
    have v2 : ∀ r, val s i r 2 = (r * 64 + byt s (i + 1) % 64) * 64 + byt s (i + 2) % 64 := fun r => rfl
    have v3 : ∀ r, val s i r 3 = ((r * 64 + byt s (i + 1) % 64) * 64 + byt s (i + 2) % 64) * 64 + byt s (i + 3) % 64 := fun r => rfl
    have w1 : conts s i 1 = cont s (i + 1) := by simp [conts]
    have w2 : conts s i 2 = (cont s (i + 1) && cont s (i + 2)) := by simp [conts]
    have w3 : conts s i 3 = (cont s (i + 1) && cont s (i + 2) && cont s (i + 3)) := by simp [conts]
    by_cases a0 : byt s i < 128
    · have e1 : kOf (byt s i) = 0 := by unfold kOf; rw [if_pos a0]
      have e2 : leastOf (byt s i) = 0 := by unfold leastOf; rw [if_pos a0]
      have e3 : startOf (byt s i) = byt s i := by unfold startOf; rw [if_pos a0]
      rw [e1, e2, e3, if_pos a0]
      refine ⟨⟨fun _ h => ?_, fun _ => ⟨.inl a0, rfl, ?_⟩⟩, fun _ => rfl⟩
      · have := h.1; simp only at this; omega
      · have v0 : val s i (byt s i) 0 = byt s i := rfl
        rw [v0]; omega
    · rw [if_neg a0]
      by_cases a1 : byt s i < 224
      · have e1 : kOf (byt s i) = 1 := by unfold kOf; rw [if_neg a0, if_pos a1]
        have e2 : leastOf (byt s i) = 128 := by unfold leastOf; rw [if_neg a0, if_pos a1]
        have e3 : startOf (byt s i) = byt s i % 32 := by unfold startOf; rw [if_neg a0, if_pos a1]
        have g2 : (byt s i / 16 == 14) = false := by rw [beq_eq_false_iff_ne]; omega
        have g3 : (byt s i / 8 == 30) = false := by rw [beq_eq_false_iff_ne]; omega
        rw [e1, e2, e3, v1, w1, g2, g3]
        simp only [Bool.false_and, Bool.false_eq_true, if_false]
        generalize hx : byt s i % 32 * 64 + byt s (i + 1) % 64 = x
        have hx2 : x < 2048 := by omega
        by_cases t : cont s (i + 1) = true
        · by_cases h6 : byt s i / 32 = 6
          · have : (byt s i / 32 == 6 && cont s (i + 1)) = true := by simp [t, h6]
            rw [if_pos this]
            by_cases hx3 : x ≥ 128
            · rw [if_pos hx3]
              simp only [t, true_and]
              refine ⟨⟨fun _ h => by omega, fun _ => ⟨by omega, by omega⟩⟩, fun _ => by first | rfl | trivial⟩
            · rw [if_neg hx3]
              refine ⟨⟨fun h => by omega, fun h => absurd ⟨rfl, fun hh => by omega⟩ h⟩, fun h => by omega⟩
          · have : ¬ ((byt s i / 32 == 6 && cont s (i + 1)) = true) := by simp [h6]
            rw [if_neg this]
            refine ⟨⟨fun h => by omega, fun h => absurd ⟨rfl, fun hh => by omega⟩ h⟩, fun h => by omega⟩
        · have : ¬ ((byt s i / 32 == 6 && cont s (i + 1)) = true) := by simp [t]
          rw [if_neg this]
          refine ⟨⟨fun h => absurd h.2.1 t, fun h => absurd ⟨rfl, fun hh => by omega⟩ h⟩, fun h => absurd h.2.1 t⟩
      · have g1 : (byt s i / 32 == 6) = false := by rw [beq_eq_false_iff_ne]; omega
        by_cases a2 : byt s i < 240
        · have e1 : kOf (byt s i) = 2 := by unfold kOf; rw [if_neg a0, if_neg a1, if_pos a2]
          have e2 : leastOf (byt s i) = 2048 := by unfold leastOf; rw [if_neg a0, if_neg a1, if_pos a2]
          have e3 : startOf (byt s i) = byt s i % 16 := by unfold startOf; rw [if_neg a0, if_neg a1, if_pos a2]
          have g2 : (byt s i / 16 == 14) = true := by rw [beq_iff_eq]; omega
          have g3 : (byt s i / 8 == 30) = false := by rw [beq_eq_false_iff_ne]; omega
          rw [e1, e2, e3, v2, w2, g1, g2, g3]
          simp only [Bool.false_and, Bool.true_and, Bool.false_eq_true, if_false]
          have hx : (byt s i % 16 * 64 + byt s (i + 1) % 64) * 64 + byt s (i + 2) % 64 = byt s i % 16 * 4096 + byt s (i + 1) % 64 * 64 + byt s (i + 2) % 64 := by omega
          rw [hx]
          by_cases t : (cont s (i + 1) && cont s (i + 2)) = true
          · rw [if_pos t]
            have t' := t
            simp only [Bool.and_eq_true] at t'
            obtain ⟨q1, q2⟩ := t'
            have q1 := hc1.1 q1
            have q2 := hc2.1 q2
            by_cases hv : (decide (byt s i % 16 * 4096 + byt s (i + 1) % 64 * 64 + byt s (i + 2) % 64 ≥ 2048) && Utf8.valid (byt s i % 16 * 4096 + byt s (i + 1) % 64 * 64 + byt s (i + 2) % 64 : Nat)) = true
            · rw [if_pos hv]
              simp only [Bool.and_eq_true, decide_eq_true_eq, valid_iff] at hv
              refine ⟨⟨fun _ h => h.2 ?_, fun _ => ⟨by omega, t, by omega⟩⟩, fun _ => rfl⟩
              have := h.1
              simp only at this
              omega
            · rw [if_neg hv]
              simp only [Bool.and_eq_true, decide_eq_true_eq, valid_iff] at hv
              refine ⟨⟨fun h => by omega, fun h => absurd ⟨rfl, fun hh => by omega⟩ h⟩, fun h => by omega⟩
          · rw [if_neg t]
            have t' : ¬ (cont s (i + 1) = true ∧ cont s (i + 2) = true) := by simpa using t
            rw [hc1, hc2] at t'
            refine ⟨⟨fun h => absurd h.2.1 t, fun h => absurd ⟨rfl, fun hh => by omega⟩ h⟩, fun h => absurd h.2.1 t⟩
        · have e1 : kOf (byt s i) = 3 := by unfold kOf; rw [if_neg a0, if_neg a1, if_neg a2]
          have e2 : leastOf (byt s i) = 65536 := by unfold leastOf; rw [if_neg a0, if_neg a1, if_neg a2]
          have e3 : startOf (byt s i) = byt s i % 8 := by unfold startOf; rw [if_neg a0, if_neg a1, if_neg a2]
          have g2 : (byt s i / 16 == 14) = false := by rw [beq_eq_false_iff_ne]; omega
          rw [e1, e2, e3, v3, w3, g1, g2]
          simp only [Bool.false_and, Bool.false_eq_true, if_false]
          have hx : ((byt s i % 8 * 64 + byt s (i + 1) % 64) * 64 + byt s (i + 2) % 64) * 64 + byt s (i + 3) % 64 = byt s i % 8 * 262144 + byt s (i + 1) % 64 * 4096 + byt s (i + 2) % 64 * 64 + byt s (i + 3) % 64 := by omega
          rw [hx]
          by_cases t : (cont s (i + 1) && cont s (i + 2) && cont s (i + 3)) = true
          · by_cases h30 : byt s i / 8 = 30
            · have : (byt s i / 8 == 30 && cont s (i + 1) && cont s (i + 2) && cont s (i + 3)) = true := by
                have : (byt s i / 8 == 30) = true := by simp [h30]
                rw [this, Bool.true_and]; exact t
              rw [if_pos this]
              by_cases hv : (decide (byt s i % 8 * 262144 + byt s (i + 1) % 64 * 4096 + byt s (i + 2) % 64 * 64 + byt s (i + 3) % 64 ≥ 65536) && Utf8.valid (byt s i % 8 * 262144 + byt s (i + 1) % 64 * 4096 + byt s (i + 2) % 64 * 64 + byt s (i + 3) % 64 : Nat)) = true
              · rw [if_pos hv]
                simp only [Bool.and_eq_true, decide_eq_true_eq, valid_iff] at hv
                refine ⟨⟨fun _ h => ?_, fun _ => ⟨by omega, t, by omega⟩⟩, fun _ => rfl⟩
                have := h.1
                simp only at this
                omega
              · rw [if_neg hv]
                simp only [Bool.and_eq_true, decide_eq_true_eq, valid_iff] at hv
                refine ⟨⟨fun h => by omega, fun h => absurd ⟨rfl, fun hh => by omega⟩ h⟩, fun h => by omega⟩
            · have : ¬ ((byt s i / 8 == 30 && cont s (i + 1) && cont s (i + 2) && cont s (i + 3)) = true) := by
                have : (byt s i / 8 == 30) = false := by simp [h30]
                rw [this]; simp
              rw [if_neg this]
              refine ⟨⟨fun h => by omega, fun h => absurd ⟨rfl, fun hh => by omega⟩ h⟩, fun h => by omega⟩
          · have : ¬ ((byt s i / 8 == 30 && cont s (i + 1) && cont s (i + 2) && cont s (i + 3)) = true) := by
              intro hh
              apply t
              simp only [Bool.and_eq_true] at hh ⊢
              exact ⟨⟨hh.1.1.2, hh.1.2⟩, hh.2⟩
            rw [if_neg this]
            refine ⟨⟨fun h => absurd h.2.1 t, fun h => absurd ⟨rfl, fun hh => by omega⟩ h⟩, fun h => absurd h.2.1 t⟩
  refine ⟨?_, key.2⟩
  cases h1 : okStep s i <;> cases h2 : bad s i <;> simp_all
end Go.Proofs.YtcjidlgmbjebjaaDoor.Utf
namespace Go.Proofs.YtcjidlgmbjebjaaDoor.Utf
open Go
/-- Is a text right from a place on? -/
def okFrom (s : ByteArray) : Nat → Nat → Bool
  | 0, _ => true
  | f + 1, i => if i < s.size then okStep s i && okFrom s f (i + (kOf (byt s i) + 1)) else true
def ok (s : ByteArray) : Bool := okFrom s s.size 0
theorem okFrom_end (s : ByteArray) (f i : Nat) (h : ¬ i < s.size) : okFrom s f i = true := by
  cases f with
  | zero => rfl
  | succ f => rw [okFrom, if_neg h]
theorem okFrom_bad (s : ByteArray) (f i : Nat) (h : i < s.size) (hf : s.size ≤ i + f) (hb : okStep s i = false) : okFrom s f i = false := by
  cases f with
  | zero => omega
  | succ f => rw [okFrom, if_pos h, hb, Bool.false_and]
theorem okFrom_on (s : ByteArray) (f i : Nat) (h : i < s.size) (hf : s.size ≤ i + f) (hb : okStep s i = true) : ∃ g, f = g + 1 ∧ okFrom s f i = okFrom s g (i + (kOf (byt s i) + 1)) ∧ s.size ≤ i + (kOf (byt s i) + 1) + g := by
  cases f with
  | zero => omega
  | succ f => exact ⟨f, rfl, by rw [okFrom, if_pos h, hb, Bool.true_and], by omega⟩
end Go.Proofs.YtcjidlgmbjebjaaDoor.Utf
