/- Of three values, as Cmp stands them: plain law, no program in sight. -/
import GoSem.Step
import Derived.Test.YtcjidlgmbjebjaaDoorProg
import Derived.WalkKit
import Derived.WalkSpells
import Derived.WalkLawsBesides
import Derived.Below
import Derived.Outline
import Derived.Lib.Hide
import Derived.LoopTactic
import Derived.Tactics
import Derived.Tactics2
import Derived.StillTactics
import Derived.OwnWalk
import Derived.Deep.RegionHeld3
import Derived.KernelRfl
import Derived.Handy
set_option linter.unusedVariables false
set_option linter.unusedSimpArgs false
set_option maxRecDepth 100000
namespace Go.Proofs.YtcjidlgmbjebjaaDoor.Ord
open Go
theorem less_irrefl : ∀ a : List UInt8, Op.bytesLess a a = false
  | [] => rfl
  | a :: x => by simp [Op.bytesLess, less_irrefl x]
theorem less_trans : ∀ {a b c : List UInt8}, Op.bytesLess a b = true → Op.bytesLess b c = true → Op.bytesLess a c = true
  | [], [], _, h, _ => by simp [Op.bytesLess] at h
  | [], _ :: _, [], _, h => by simp [Op.bytesLess] at h
  | [], _ :: _, _ :: _, _, _ => rfl
  | _ :: _, [], _, h, _ => by simp [Op.bytesLess] at h
  | _ :: _, _ :: _, [], _, h => by simp [Op.bytesLess] at h
  | a :: x, b :: y, c :: z, h1, h2 => by
    simp only [Op.bytesLess, Bool.or_eq_true, Bool.and_eq_true, decide_eq_true_eq, beq_iff_eq] at h1 h2 ⊢
    rcases h1 with h1 | ⟨rfl, h1⟩ <;> rcases h2 with h2 | ⟨rfl, h2⟩
    · exact .inl (UInt8.lt_trans h1 h2)
    · exact .inl h1
    · exact .inl h2
    · exact .inr ⟨rfl, less_trans h1 h2⟩
theorem less_total : ∀ a b : List UInt8, Op.bytesLess a b = true ∨ a = b ∨ Op.bytesLess b a = true
  | [], [] => .inr (.inl rfl)
  | [], _ :: _ => .inl rfl
  | _ :: _, [] => .inr (.inr rfl)
  | a :: x, b :: y => by
    simp only [Op.bytesLess, Bool.or_eq_true, Bool.and_eq_true, decide_eq_true_eq, beq_iff_eq, List.cons.injEq]
    rcases UInt8.lt_or_lt_of_ne (a := a) (b := b) |> fun f => (Classical.em (a = b)) with h | h
    · subst h
      rcases less_total x y with h | h | h
      · exact .inl (.inr ⟨rfl, h⟩)
      · exact .inr (.inl ⟨rfl, h⟩)
      · exact .inr (.inr (.inr ⟨rfl, h⟩))
    · rcases UInt8.lt_or_lt_of_ne h with h | h
      · exact .inl (.inl h)
      · exact .inr (.inr (.inl h))
theorem less_asymm {a b : List UInt8} (h : Op.bytesLess a b = true) : Op.bytesLess b a = false := by
  cases h2 : Op.bytesLess b a
  · rfl
  · have := less_trans h h2
    rw [less_irrefl] at this; cases this
/-- cmp.Compare of whole numbers; of texts; cmp.Or. -/
def cmpI (x y : Int) : Int := if x < y then -1 else if y < x then 1 else 0
def cmpS (x y : List UInt8) : Int := if Op.bytesLess x y then -1 else if Op.bytesLess x y || x == y then 0 else 1
def or3 (a b c : Int) : Int := if a ≠ 0 then a else if b ≠ 0 then b else c
def cmpV (k1 n1 : Int) (s1 : List UInt8) (k2 n2 : Int) (s2 : List UInt8) : Int := or3 (cmpI k1 k2) (cmpI n1 n2) (cmpS s1 s2)
theorem cmpS_cases (x y : List UInt8) : (cmpS x y = -1 ∧ cmpS y x = 1 ∧ x ≠ y ∧ Op.bytesLess x y = true) ∨ (cmpS x y = 0 ∧ cmpS y x = 0 ∧ x = y) ∨ (cmpS x y = 1 ∧ cmpS y x = -1 ∧ x ≠ y ∧ Op.bytesLess y x = true) := by
  rcases less_total x y with h | rfl | h
  · have hn : x ≠ y := fun e => by subst e; rw [less_irrefl] at h; cases h
    have hn' : (y == x) = false := by simpa using fun e => hn e.symm
    exact .inl ⟨by simp [cmpS, h], by simp [cmpS, less_asymm h, hn'], hn, h⟩
  · exact .inr (.inl ⟨by simp [cmpS, less_irrefl], by simp [cmpS, less_irrefl], rfl⟩)
  · have hn : x ≠ y := fun e => by subst e; rw [less_irrefl] at h; cases h
    have hn' : (x == y) = false := by simpa using hn
    exact .inr (.inr ⟨by simp [cmpS, less_asymm h, hn'], by simp [cmpS, h], hn, h⟩)
theorem cmpI_cases (x y : Int) : (cmpI x y = -1 ∧ cmpI y x = 1 ∧ x < y) ∨ (cmpI x y = 0 ∧ cmpI y x = 0 ∧ x = y) ∨ (cmpI x y = 1 ∧ cmpI y x = -1 ∧ y < x) := by
  unfold cmpI
  rcases Int.lt_trichotomy x y with h | h | h
  · exact .inl ⟨by simp [h], by rw [if_neg (by omega), if_pos h], h⟩
  · subst h; exact .inr (.inl ⟨by simp, by simp, rfl⟩)
  · exact .inr (.inr ⟨by rw [if_neg (by omega), if_pos h], by simp [h], h⟩)
theorem cmpS_trans {x y z : List UInt8} (h1 : cmpS x y ≤ 0) (h2 : cmpS y z ≤ 0) : cmpS x z ≤ 0 := by
  rcases cmpS_cases x y with ⟨a, _, _, l1⟩ | ⟨a, _, rfl⟩ | ⟨a, _⟩
  · rcases cmpS_cases y z with ⟨b, _, _, l2⟩ | ⟨b, _, rfl⟩ | ⟨b, _⟩
    · have := less_trans l1 l2
      simp [cmpS, this]
    · omega
    · omega
  · exact h2
  · omega
theorem cmpV_range (k1 n1 : Int) (s1 : List UInt8) (k2 n2 : Int) (s2 : List UInt8) : -1 ≤ cmpV k1 n1 s1 k2 n2 s2 ∧ cmpV k1 n1 s1 k2 n2 s2 ≤ 1 := by
  unfold cmpV or3
  rcases cmpI_cases k1 k2 with h | h | h <;> rcases cmpI_cases n1 n2 with h' | h' | h' <;> rcases cmpS_cases s1 s2 with h'' | h'' | h'' <;> simp [h.1, h'.1, h''.1]
theorem cmpV_anti (k1 n1 : Int) (s1 : List UInt8) (k2 n2 : Int) (s2 : List UInt8) : cmpV k1 n1 s1 k2 n2 s2 = - cmpV k2 n2 s2 k1 n1 s1 := by
  unfold cmpV or3
  rcases cmpI_cases k1 k2 with h | h | h <;> rcases cmpI_cases n1 n2 with h' | h' | h' <;> rcases cmpS_cases s1 s2 with h'' | h'' | h'' <;> simp [h.1, h'.1, h''.1, h.2.1, h'.2.1, h''.2.1]
theorem cmpV_eq (k1 n1 : Int) (s1 : List UInt8) (k2 n2 : Int) (s2 : List UInt8) : cmpV k1 n1 s1 k2 n2 s2 = 0 ↔ k1 = k2 ∧ n1 = n2 ∧ s1 = s2 := by
  have hk : cmpI k1 k2 = 0 ↔ k1 = k2 := by rcases cmpI_cases k1 k2 with ⟨a, _, l⟩ | ⟨a, _, l⟩ | ⟨a, _, l⟩ <;> rw [a] <;> constructor <;> intro h <;> omega
  have hn : cmpI n1 n2 = 0 ↔ n1 = n2 := by rcases cmpI_cases n1 n2 with ⟨a, _, l⟩ | ⟨a, _, l⟩ | ⟨a, _, l⟩ <;> rw [a] <;> constructor <;> intro h <;> omega
  have hs : cmpS s1 s2 = 0 ↔ s1 = s2 := by
    rcases cmpS_cases s1 s2 with ⟨a, _, l, _⟩ | ⟨a, _, l⟩ | ⟨a, _, l, _⟩ <;> rw [a]
    · exact ⟨fun h => by omega, fun h => absurd h l⟩
    · exact ⟨fun _ => l, fun _ => rfl⟩
    · exact ⟨fun h => by omega, fun h => absurd h l⟩
  rw [← hk, ← hn, ← hs]
  unfold cmpV or3
  by_cases h1 : cmpI k1 k2 = 0
  · by_cases h2 : cmpI n1 n2 = 0
    · simp [h1, h2]
    · simp [h1, h2]
  · simp [h1]
theorem cmpV_trans {k1 n1 : Int} {s1 : List UInt8} {k2 n2 : Int} {s2 : List UInt8} {k3 n3 : Int} {s3 : List UInt8} (h1 : cmpV k1 n1 s1 k2 n2 s2 ≤ 0) (h2 : cmpV k2 n2 s2 k3 n3 s3 ≤ 0) : cmpV k1 n1 s1 k3 n3 s3 ≤ 0 := by
  have key : ∀ {k1 n1 : Int} {s1 : List UInt8} {k2 n2 : Int} {s2 : List UInt8}, cmpV k1 n1 s1 k2 n2 s2 ≤ 0 ↔ (k1 < k2 ∨ k1 = k2 ∧ (n1 < n2 ∨ n1 = n2 ∧ cmpS s1 s2 ≤ 0)) := by
    intro k1 n1 s1 k2 n2 s2
    unfold cmpV or3
    rcases cmpI_cases k1 k2 with h | h | h <;> rcases cmpI_cases n1 n2 with h' | h' | h' <;> simp [h.1, h'.1] <;> omega
  rw [key] at h1 h2 ⊢
  rcases h1 with h1 | ⟨rfl, h1⟩ <;> rcases h2 with h2 | ⟨rfl, h2⟩
  · left; omega
  · left; omega
  · left; omega
  · right; refine ⟨rfl, ?_⟩
    rcases h1 with h1 | ⟨rfl, h1⟩ <;> rcases h2 with h2 | ⟨rfl, h2⟩
    · left; omega
    · left; omega
    · left; omega
    · right; exact ⟨rfl, cmpS_trans h1 h2⟩
end Go.Proofs.YtcjidlgmbjebjaaDoor.Ord

namespace Go.Proofs.YtcjidlgmbjebjaaDoor
open Go Go.RowKit
theorem nan_int (x : Int) (w : World) : Calls Tryd.prog 117 #[.int .i64 x] w fun e w' => e = .returned (.bool false) ∧ w = w' := by
  go_enter Tryd.func117, Tryd.ntmps117
  go_wp2
  go_ret
  exact ⟨rfl, rfl⟩
theorem nan_str (x : ByteArray) (w : World) : Calls Tryd.prog 118 #[.string x] w fun e w' => e = .returned (.bool false) ∧ w = w' := by
  go_enter Tryd.func118, Tryd.ntmps118
  go_wp2
  go_ret
  exact ⟨rfl, rfl⟩
def RetI (n : Int) (w : World) (e : Ending) (w' : World) : Prop := e = .returned (.int .i64 n) ∧ w = w'
theorem cmp_int (x y : Int) (w : World) : Calls Tryd.prog 66 #[.int .i64 x, .int .i64 y] w (RetI (Ord.cmpI x y) w) := by
  unfold Ord.cmpI
  go_enter Tryd.func66, Tryd.ntmps66
  go_wp2_with (first
    | (go_at_call 117; refine (nan_int _ _).mono ?_; rintro e w' ⟨rfl, rfl⟩))
  all_goals (go_ret; simp_all [RetI])
end Go.Proofs.YtcjidlgmbjebjaaDoor

namespace Go.Proofs.YtcjidlgmbjebjaaDoor
open Go Go.RowKit
theorem cmp_str (x y : ByteArray) (w : World) : Calls Tryd.prog 67 #[.string x, .string y] w (RetI (Ord.cmpS x.toList y.toList) w) := by
  unfold Ord.cmpS
  go_enter Tryd.func67, Tryd.ntmps67
  go_wp2_with (first
    | (go_at_call 118; refine (nan_str _ _).mono ?_; rintro e w' ⟨rfl, rfl⟩))
  all_goals (go_ret; simp_all [RetI])
def OrR (a b c : Int) (w : World) (i : Value) (wr : World) : Prop := ∃ j : Nat, j ≤ 3 ∧ i = .int .i64 j ∧ w = wr ∧ (0 < j → a = 0) ∧ (1 < j → b = 0) ∧ (2 < j → c = 0)
theorem or_three (a b c : Int) (k : Nat) (w : World) (h0 : w.cell? ⟨k, 0, none⟩ = some (.int .i64 a)) (h1 : w.cell? ⟨k, 1, none⟩ = some (.int .i64 b)) (h2 : w.cell? ⟨k, 2, none⟩ = some (.int .i64 c)) :
    Calls Tryd.prog 65 #[.slice (some ⟨k, 0, none⟩) 3 3] w (RetI (Ord.or3 a b c) w) := by
  go_enter Tryd.func65, Tryd.ntmps65
  go_wp2
  go_loopw [8] (fun i wr => OrR a b c w i wr) (fun i _ => 3 - (intOf i).toNat)
  case atStart => exact ⟨0, by omega, rfl, rfl, by omega, by omega, by omega⟩
  case round =>
    obtain ⟨j, hj, rfl, rfl, q0, q1, q2⟩ := hrel
    match j, hj with
    | 0, _ =>
      by_cases ha : a = 0
      · subst ha
        go_wp2
        exact ⟨⟨1, by omega, rfl, rfl, by omega, by omega, by omega⟩, by simp [intOf]⟩
      · go_wp2
        go_ret
        exact ⟨by simp [Ord.or3, ha], rfl⟩
    | 1, _ =>
      have ha := q0 (by omega)
      subst ha
      by_cases hb : b = 0
      · subst hb
        go_wp2
        exact ⟨⟨2, by omega, rfl, rfl, by omega, by omega, by omega⟩, by simp [intOf]⟩
      · go_wp2
        go_ret
        exact ⟨by simp [Ord.or3, hb], rfl⟩
    | 2, _ =>
      have ha := q0 (by omega)
      have hb := q1 (by omega)
      subst ha hb
      by_cases hc : c = 0
      · subst hc
        go_wp2
        exact ⟨⟨3, by omega, rfl, rfl, by omega, by omega, by omega⟩, by simp [intOf]⟩
      · go_wp2
        go_ret
        exact ⟨by simp [Ord.or3], rfl⟩
    | 3, _ =>
      have ha := q0 (by omega)
      have hb := q1 (by omega)
      have hc := q2 (by omega)
      subst ha hb hc
      go_wp2
      go_ret
      exact ⟨by simp [Ord.or3], rfl⟩
end Go.Proofs.YtcjidlgmbjebjaaDoor

namespace Go.Proofs.YtcjidlgmbjebjaaDoor
open Go Go.RowKit
def RetB (n : Int) (W : World) (e : Ending) (w' : World) : Prop := e = .returned (.int .i64 n) ∧ Below W.heap.size W w'
set_option maxHeartbeats 4000000 in
theorem cmp_val (k1 n1 : Int) (s1 : ByteArray) (k2 n2 : Int) (s2 : ByteArray) (W : World) :
    Calls Tryd.prog 29 #[.agg #[.int .i64 k1, .int .i64 n1, .string s1], .agg #[.int .i64 k2, .int .i64 n2, .string s2]] W (RetB (Ord.cmpV k1 n1 s1.toList k2 n2 s2.toList) W) := by
  unfold Ord.cmpV
  go_enter Tryd.func29, Tryd.ntmps29
  go_wp2_with fail
  go_region_held3 (fun w' => w'.cell? ⟨W.heap.size, 0, none⟩ = some (.int .i64 k1) ∧ w'.cell? ⟨W.heap.size, 1, none⟩ = some (.int .i64 n1) ∧ w'.cell? ⟨W.heap.size, 2, none⟩ = some (.string s1) ∧
      w'.cell? ⟨W.heap.size + 1, 0, none⟩ = some (.int .i64 k2) ∧ w'.cell? ⟨W.heap.size + 1, 1, none⟩ = some (.int .i64 n2) ∧ w'.cell? ⟨W.heap.size + 1, 2, none⟩ = some (.string s2))
    (first | go_keep | ((refine ⟨?_, ?_, ?_, ?_, ?_, ?_⟩) <;> (first | go_cell | (simp [World.cell?_drew]; done))))
    (first
      | (go_at_call 66; refine (cmp_int _ _ _).mono ?_; rintro e w' ⟨rfl, rfl⟩)
      | (go_at_call 67; refine (cmp_str _ _ _).mono ?_; rintro e w' ⟨rfl, rfl⟩)
      | (go_at_call 65; refine (or_three (Ord.cmpI k1 k2) (Ord.cmpI n1 n2) (Ord.cmpS s1.toList s2.toList) _ _ ?_ ?_ ?_).mono ?_; (iterate 3 (· go_cell)); rintro e w' ⟨rfl, rfl⟩))
  go_wp2
  go_ret
  refine ⟨?_, ?_⟩
  · first | rfl | simp
  · go_grown
end Go.Proofs.YtcjidlgmbjebjaaDoor

namespace Go.Proofs.YtcjidlgmbjebjaaDoor
open Go Go.RowKit
theorem below_step {W w w' : World} (h1 : Below W.heap.size W w) (h2 : Below w.heap.size w w') : Below W.heap.size W w' := h1.trans (h2.mono h1.size)
def RetBool (b : Bool) (W : World) (e : Ending) (w' : World) : Prop := e = .returned (.bool b) ∧ Below W.heap.size W w'
theorem equal_val (k1 n1 : Int) (s1 : ByteArray) (k2 n2 : Int) (s2 : ByteArray) (W : World) :
    Calls Tryd.prog 30 #[.agg #[.int .i64 k1, .int .i64 n1, .string s1], .agg #[.int .i64 k2, .int .i64 n2, .string s2]] W (RetBool (decide (k1 = k2 ∧ n1 = n2 ∧ s1.toList = s2.toList)) W) := by
  go_enter Tryd.func30, Tryd.ntmps30
  go_wp2
  all_goals go_ret
  all_goals refine ⟨?_, ?_⟩
  all_goals first | go_grown | skip
  all_goals simp_all
def TrueBelow (W : World) (e : Ending) (w' : World) : Prop := e = .returned (.bool true) ∧ Below W.heap.size W w'
set_option maxHeartbeats 8000000 in
theorem order_walk (k1 n1 : Int) (s1 : ByteArray) (k2 n2 : Int) (s2 : ByteArray) (k3 n3 : Int) (s3 : ByteArray) (W : World) (hlives : ∀ w', Below W.heap.size W w' → Calls Tryd.prog 24 #[] w' (TrueBelow w')) :
    Calls Tryd.prog 5 #[.agg #[.int .i64 k1, .int .i64 n1, .string s1], .agg #[.int .i64 k2, .int .i64 n2, .string s2], .agg #[.int .i64 k3, .int .i64 n3, .string s3]] W (TrueBelow W) := by
  have HL := Lib.hid hlives; clear hlives
  go_enter Tryd.func5, Tryd.ntmps5
  go_wp2_with fail
  go_region_held3 (fun w' => w'.cell? ⟨W.heap.size, 0, none⟩ = some (.int .i64 k1) ∧ w'.cell? ⟨W.heap.size, 1, none⟩ = some (.int .i64 n1) ∧ w'.cell? ⟨W.heap.size, 2, none⟩ = some (.string s1) ∧
      w'.cell? ⟨W.heap.size + 1, 0, none⟩ = some (.int .i64 k2) ∧ w'.cell? ⟨W.heap.size + 1, 1, none⟩ = some (.int .i64 n2) ∧ w'.cell? ⟨W.heap.size + 1, 2, none⟩ = some (.string s2) ∧
      w'.cell? ⟨W.heap.size + 1 + 1, 0, none⟩ = some (.int .i64 k3) ∧ w'.cell? ⟨W.heap.size + 1 + 1, 1, none⟩ = some (.int .i64 n3) ∧ w'.cell? ⟨W.heap.size + 1 + 1, 2, none⟩ = some (.string s3) ∧ Below W.heap.size W w')
    (first
      | (go_keep; done)
      | ((repeat' apply And.intro) <;> first | (go_cell; done) | (rw [World.cell?_drew]; go_cell; done) | (go_grown; done))
      | (go_split_ands; (repeat' apply And.intro) <;> first | (exact cell_later hb1 (by assumption)) | (exact below_step (by assumption) hb1)))
    ((go_at_call 29; refine (cmp_val _ _ _ _ _ _ _).mono ?_; rintro e w1 ⟨rfl, hb1⟩))
  rename_i hH
  obtain ⟨c0, c1, c2, c3, c4, c5, c6, c7, c8, cb⟩ := hH
  have hr : Ord.cmpV k1 n1 s1.toList k2 n2 s2.toList > 0 ∨ Ord.cmpV k2 n2 s2.toList k3 n3 s3.toList > 0 ∨ Ord.cmpV k1 n1 s1.toList k3 n3 s3.toList ≤ 0 := by
    by_cases h1 : Ord.cmpV k1 n1 s1.toList k2 n2 s2.toList > 0
    · exact .inl h1
    · by_cases h2 : Ord.cmpV k2 n2 s2.toList k3 n3 s3.toList > 0
      · exact .inr (.inl h2)
      · exact .inr (.inr (Ord.cmpV_trans (Int.not_lt.1 h1) (Int.not_lt.1 h2)))
  have rx := Ord.cmpV_range k1 n1 s1.toList k2 n2 s2.toList
  have ry := Ord.cmpV_range k2 n2 s2.toList k3 n3 s3.toList
  have rz := Ord.cmpV_range k1 n1 s1.toList k3 n3 s3.toList
  have h21 := Ord.cmpV_anti k2 n2 s2.toList k1 n1 s1.toList
  have heq : decide (k1 = k2 ∧ n1 = n2 ∧ s1.toList = s2.toList) = decide (Ord.cmpV k1 n1 s1.toList k2 n2 s2.toList = 0) := by
    rw [decide_eq_decide]; exact (Ord.cmpV_eq ..).symm
  have hF29 := fun w => cmp_val k2 n2 s2 k1 n1 s1 w
  have hF30 := fun w => equal_val k1 n1 s1 k2 n2 s2 w
  rw [h21] at hF29
  rw [heq] at hF30
  clear h21 heq
  generalize Ord.cmpV k1 n1 s1.toList k2 n2 s2.toList = x at *
  generalize Ord.cmpV k2 n2 s2.toList k3 n3 s3.toList = y at *
  generalize Ord.cmpV k1 n1 s1.toList k3 n3 s3.toList = z at *
  have HF29 := Lib.hid hF29; clear hF29
  have HF30 := Lib.hid hF30; clear hF30
  have ex : x = -1 ∨ x = 0 ∨ x = 1 := by omega
  have ey : y = -1 ∨ y = 0 ∨ y = 1 := by omega
  have ez : z = -1 ∨ z = 0 ∨ z = 1 := by omega
  clear rx ry rz
  rcases ex with rfl | rfl | rfl <;> rcases ey with rfl | rfl | rfl <;> rcases ez with rfl | rfl | rfl
  all_goals first
    | (exfalso; omega)
    | (clear hr
       go_wp2_with fail
       refine (HF29.out _).mono ?_
       rintro e w2 ⟨rfl, hb2⟩
       have d0 := cell_later hb2 c0
       have d1 := cell_later hb2 c1
       have d2 := cell_later hb2 c2
       have d3 := cell_later hb2 c3
       have d4 := cell_later hb2 c4
       have d5 := cell_later hb2 c5
       have db := below_step cb hb2
       clear c0 c1 c2 c3 c4 c5 c6 c7 c8 cb hb2
       dsimp only
       go_wp2_with fail
       refine (HF30.out _).mono ?_
       rintro e w3 ⟨rfl, hb3⟩
       have eb := below_step db hb3
       clear d0 d1 d2 d3 d4 d5 db hb3
       dsimp only
       go_wp2_with fail
       refine (HL.out _ eb).mono ?_
       rintro e w4 ⟨rfl, hb4⟩
       have fb := below_step eb hb4
       clear eb hb4
       dsimp only
       go_wp2_with fail
       go_ret
       exact ⟨rfl, fb⟩)
end Go.Proofs.YtcjidlgmbjebjaaDoor
