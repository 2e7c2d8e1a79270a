/- Of three values, as Cmp stands them: plain law, no program in sight. -/
import GoSem.Step
set_option linter.unusedVariables false
set_option linter.unusedSimpArgs false
namespace Go.Proofs.YtcjidlgmbjebjaaDoor.Ord
open Go
theorem less_irrefl : ∀ a : List UInt8, Op.bytesLess a a = false
  | [] => rfl
  | a :: x => by simp [Op.bytesLess, less_irrefl x]
theorem less_trans : ∀ {a b c : List UInt8}, Op.bytesLess a b = true → Op.bytesLess b c = true → Op.bytesLess a c = true
  | [], [], _, h, _ => by simp [Op.bytesLess] at h
  | [], _ :: _, [], _, h => by simp [Op.bytesLess] at h
  | [], _ :: _, _ :: _, _, _ => rfl
  | _ :: _, [], _, h, _ => by simp [Op.bytesLess] at h
  | _ :: _, _ :: _, [], _, h => by simp [Op.bytesLess] at h
  | a :: x, b :: y, c :: z, h1, h2 => by
    simp only [Op.bytesLess, Bool.or_eq_true, Bool.and_eq_true, decide_eq_true_eq, beq_iff_eq] at h1 h2 ⊢
    rcases h1 with h1 | ⟨rfl, h1⟩ <;> rcases h2 with h2 | ⟨rfl, h2⟩
    · exact .inl (UInt8.lt_trans h1 h2)
    · exact .inl h1
    · exact .inl h2
    · exact .inr ⟨rfl, less_trans h1 h2⟩
theorem less_total : ∀ a b : List UInt8, Op.bytesLess a b = true ∨ a = b ∨ Op.bytesLess b a = true
  | [], [] => .inr (.inl rfl)
  | [], _ :: _ => .inl rfl
  | _ :: _, [] => .inr (.inr rfl)
  | a :: x, b :: y => by
    simp only [Op.bytesLess, Bool.or_eq_true, Bool.and_eq_true, decide_eq_true_eq, beq_iff_eq, List.cons.injEq]
    rcases UInt8.lt_or_lt_of_ne (a := a) (b := b) |> fun f => (Classical.em (a = b)) with h | h
    · subst h
      rcases less_total x y with h | h | h
      · exact .inl (.inr ⟨rfl, h⟩)
      · exact .inr (.inl ⟨rfl, h⟩)
      · exact .inr (.inr (.inr ⟨rfl, h⟩))
    · rcases UInt8.lt_or_lt_of_ne h with h | h
      · exact .inl (.inl h)
      · exact .inr (.inr (.inl h))
theorem less_asymm {a b : List UInt8} (h : Op.bytesLess a b = true) : Op.bytesLess b a = false := by
  cases h2 : Op.bytesLess b a
  · rfl
  · have := less_trans h h2
    rw [less_irrefl] at this; cases this
/-- cmp.Compare of whole numbers; of texts; cmp.Or. -/
def cmpI (x y : Int) : Int := if x < y then -1 else if y < x then 1 else 0
def cmpS (x y : List UInt8) : Int := if Op.bytesLess x y then -1 else if Op.bytesLess x y || x == y then 0 else 1
def or3 (a b c : Int) : Int := if a ≠ 0 then a else if b ≠ 0 then b else c
def cmpV (k1 n1 : Int) (s1 : List UInt8) (k2 n2 : Int) (s2 : List UInt8) : Int := or3 (cmpI k1 k2) (cmpI n1 n2) (cmpS s1 s2)
theorem cmpS_cases (x y : List UInt8) : (cmpS x y = -1 ∧ cmpS y x = 1 ∧ x ≠ y ∧ Op.bytesLess x y = true) ∨ (cmpS x y = 0 ∧ cmpS y x = 0 ∧ x = y) ∨ (cmpS x y = 1 ∧ cmpS y x = -1 ∧ x ≠ y ∧ Op.bytesLess y x = true) := by
  rcases less_total x y with h | rfl | h
  · have hn : x ≠ y := fun e => by subst e; rw [less_irrefl] at h; cases h
    have hn' : (y == x) = false := by simpa using fun e => hn e.symm
    exact .inl ⟨by simp [cmpS, h], by simp [cmpS, less_asymm h, hn'], hn, h⟩
  · exact .inr (.inl ⟨by simp [cmpS, less_irrefl], by simp [cmpS, less_irrefl], rfl⟩)
  · have hn : x ≠ y := fun e => by subst e; rw [less_irrefl] at h; cases h
    have hn' : (x == y) = false := by simpa using hn
    exact .inr (.inr ⟨by simp [cmpS, less_asymm h, hn'], by simp [cmpS, h], hn, h⟩)
theorem cmpI_cases (x y : Int) : (cmpI x y = -1 ∧ cmpI y x = 1 ∧ x < y) ∨ (cmpI x y = 0 ∧ cmpI y x = 0 ∧ x = y) ∨ (cmpI x y = 1 ∧ cmpI y x = -1 ∧ y < x) := by
  unfold cmpI
  rcases Int.lt_trichotomy x y with h | h | h
  · exact .inl ⟨by simp [h], by rw [if_neg (by omega), if_pos h], h⟩
  · subst h; exact .inr (.inl ⟨by simp, by simp, rfl⟩)
  · exact .inr (.inr ⟨by rw [if_neg (by omega), if_pos h], by simp [h], h⟩)
theorem cmpS_trans {x y z : List UInt8} (h1 : cmpS x y ≤ 0) (h2 : cmpS y z ≤ 0) : cmpS x z ≤ 0 := by
  rcases cmpS_cases x y with ⟨a, _, _, l1⟩ | ⟨a, _, rfl⟩ | ⟨a, _⟩
  · rcases cmpS_cases y z with ⟨b, _, _, l2⟩ | ⟨b, _, rfl⟩ | ⟨b, _⟩
    · have := less_trans l1 l2
      simp [cmpS, this]
    · omega
    · omega
  · exact h2
  · omega
theorem cmpV_range (k1 n1 : Int) (s1 : List UInt8) (k2 n2 : Int) (s2 : List UInt8) : -1 ≤ cmpV k1 n1 s1 k2 n2 s2 ∧ cmpV k1 n1 s1 k2 n2 s2 ≤ 1 := by
  unfold cmpV or3
  rcases cmpI_cases k1 k2 with h | h | h <;> rcases cmpI_cases n1 n2 with h' | h' | h' <;> rcases cmpS_cases s1 s2 with h'' | h'' | h'' <;> simp [h.1, h'.1, h''.1]
theorem cmpV_anti (k1 n1 : Int) (s1 : List UInt8) (k2 n2 : Int) (s2 : List UInt8) : cmpV k1 n1 s1 k2 n2 s2 = - cmpV k2 n2 s2 k1 n1 s1 := by
  unfold cmpV or3
  rcases cmpI_cases k1 k2 with h | h | h <;> rcases cmpI_cases n1 n2 with h' | h' | h' <;> rcases cmpS_cases s1 s2 with h'' | h'' | h'' <;> simp [h.1, h'.1, h''.1, h.2.1, h'.2.1, h''.2.1]
theorem cmpV_eq (k1 n1 : Int) (s1 : List UInt8) (k2 n2 : Int) (s2 : List UInt8) : cmpV k1 n1 s1 k2 n2 s2 = 0 ↔ k1 = k2 ∧ n1 = n2 ∧ s1 = s2 := by
  have hk : cmpI k1 k2 = 0 ↔ k1 = k2 := by rcases cmpI_cases k1 k2 with ⟨a, _, l⟩ | ⟨a, _, l⟩ | ⟨a, _, l⟩ <;> rw [a] <;> constructor <;> intro h <;> omega
  have hn : cmpI n1 n2 = 0 ↔ n1 = n2 := by rcases cmpI_cases n1 n2 with ⟨a, _, l⟩ | ⟨a, _, l⟩ | ⟨a, _, l⟩ <;> rw [a] <;> constructor <;> intro h <;> omega
  have hs : cmpS s1 s2 = 0 ↔ s1 = s2 := by
    rcases cmpS_cases s1 s2 with ⟨a, _, l, _⟩ | ⟨a, _, l⟩ | ⟨a, _, l, _⟩ <;> rw [a]
    · exact ⟨fun h => by omega, fun h => absurd h l⟩
    · exact ⟨fun _ => l, fun _ => rfl⟩
    · exact ⟨fun h => by omega, fun h => absurd h l⟩
  rw [← hk, ← hn, ← hs]
  unfold cmpV or3
  by_cases h1 : cmpI k1 k2 = 0
  · by_cases h2 : cmpI n1 n2 = 0
    · simp [h1, h2]
    · simp [h1, h2]
  · simp [h1]
theorem cmpV_trans {k1 n1 : Int} {s1 : List UInt8} {k2 n2 : Int} {s2 : List UInt8} {k3 n3 : Int} {s3 : List UInt8} (h1 : cmpV k1 n1 s1 k2 n2 s2 ≤ 0) (h2 : cmpV k2 n2 s2 k3 n3 s3 ≤ 0) : cmpV k1 n1 s1 k3 n3 s3 ≤ 0 := by
  have key : ∀ {k1 n1 : Int} {s1 : List UInt8} {k2 n2 : Int} {s2 : List UInt8}, cmpV k1 n1 s1 k2 n2 s2 ≤ 0 ↔ (k1 < k2 ∨ k1 = k2 ∧ (n1 < n2 ∨ n1 = n2 ∧ cmpS s1 s2 ≤ 0)) := by
    intro k1 n1 s1 k2 n2 s2
    unfold cmpV or3
    rcases cmpI_cases k1 k2 with h | h | h <;> rcases cmpI_cases n1 n2 with h' | h' | h' <;> simp [h.1, h'.1] <;> omega
  rw [key] at h1 h2 ⊢
  rcases h1 with h1 | ⟨rfl, h1⟩ <;> rcases h2 with h2 | ⟨rfl, h2⟩
  · left; omega
  · left; omega
  · left; omega
  · right; refine ⟨rfl, ?_⟩
    rcases h1 with h1 | ⟨rfl, h1⟩ <;> rcases h2 with h2 | ⟨rfl, h2⟩
    · left; omega
    · left; omega
    · left; omega
    · right; exact ⟨rfl, cmpS_trans h1 h2⟩
end Go.Proofs.YtcjidlgmbjebjaaDoor.Ord
