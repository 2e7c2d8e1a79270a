/- A part of the proof of SchemaForms. -/
import GoSem.Step
import Derived.Test.YtcjidlgmbjebjaaDoorProg
import Derived.WalkKit
import Derived.WalkSpells
import Derived.WalkLawsBesides
import Derived.Below
import Derived.Outline
import Derived.Lib.Hide
import Derived.LoopTactic
import Derived.Tactics
import Derived.Tactics2
import Derived.StillTactics
import Derived.OwnWalk
import Derived.Deep.RegionHeld3
import Derived.KernelRfl
import Derived.Handy
import Derived.Laws.RangeAny
import Derived.Laws.Strings3
import Derived.Laws.RangeString
import Derived.Laws.Runes
import Derived.Lib.Strings
import Derived.Lib.ItoaLen
set_option linter.unusedVariables false
set_option linter.unusedSimpArgs false
set_option maxRecDepth 100000
namespace Go.Proofs.YtcjidlgmbjebjaaDoor.Ord
open Go
theorem less_irrefl : ∀ a : List UInt8, Op.bytesLess a a = false
  | [] => rfl
  | a :: x => by simp [Op.bytesLess, less_irrefl x]
theorem less_trans : ∀ {a b c : List UInt8}, Op.bytesLess a b = true → Op.bytesLess b c = true → Op.bytesLess a c = true
  | [], [], _, h, _ => by simp [Op.bytesLess] at h
  | [], _ :: _, [], _, h => by simp [Op.bytesLess] at h
  | [], _ :: _, _ :: _, _, _ => rfl
  | _ :: _, [], _, h, _ => by simp [Op.bytesLess] at h
  | _ :: _, _ :: _, [], _, h => by simp [Op.bytesLess] at h
  | a :: x, b :: y, c :: z, h1, h2 => by
    simp only [Op.bytesLess, Bool.or_eq_true, Bool.and_eq_true, decide_eq_true_eq, beq_iff_eq] at h1 h2 ⊢
    rcases h1 with h1 | ⟨rfl, h1⟩ <;> rcases h2 with h2 | ⟨rfl, h2⟩
    · exact .inl (UInt8.lt_trans h1 h2)
    · exact .inl h1
    · exact .inl h2
    · exact .inr ⟨rfl, less_trans h1 h2⟩
theorem less_total : ∀ a b : List UInt8, Op.bytesLess a b = true ∨ a = b ∨ Op.bytesLess b a = true
  | [], [] => .inr (.inl rfl)
  | [], _ :: _ => .inl rfl
  | _ :: _, [] => .inr (.inr rfl)
  | a :: x, b :: y => by
    simp only [Op.bytesLess, Bool.or_eq_true, Bool.and_eq_true, decide_eq_true_eq, beq_iff_eq, List.cons.injEq]
    rcases UInt8.lt_or_lt_of_ne (a := a) (b := b) |> fun f => (Classical.em (a = b)) with h | h
    · subst h
      rcases less_total x y with h | h | h
      · exact .inl (.inr ⟨rfl, h⟩)
      · exact .inr (.inl ⟨rfl, h⟩)
      · exact .inr (.inr (.inr ⟨rfl, h⟩))
    · rcases UInt8.lt_or_lt_of_ne h with h | h
      · exact .inl (.inl h)
      · exact .inr (.inr (.inl h))
theorem less_asymm {a b : List UInt8} (h : Op.bytesLess a b = true) : Op.bytesLess b a = false := by
  cases h2 : Op.bytesLess b a
  · rfl
  · have := less_trans h h2
    rw [less_irrefl] at this; cases this
/-- cmp.Compare of whole numbers; of texts; cmp.Or. -/
def cmpI (x y : Int) : Int := if x < y then -1 else if y < x then 1 else 0
def cmpS (x y : List UInt8) : Int := if Op.bytesLess x y then -1 else if Op.bytesLess x y || x == y then 0 else 1
def or3 (a b c : Int) : Int := if a ≠ 0 then a else if b ≠ 0 then b else c
def cmpV (k1 n1 : Int) (s1 : List UInt8) (k2 n2 : Int) (s2 : List UInt8) : Int := or3 (cmpI k1 k2) (cmpI n1 n2) (cmpS s1 s2)
theorem cmpS_cases (x y : List UInt8) : (cmpS x y = -1 ∧ cmpS y x = 1 ∧ x ≠ y ∧ Op.bytesLess x y = true) ∨ (cmpS x y = 0 ∧ cmpS y x = 0 ∧ x = y) ∨ (cmpS x y = 1 ∧ cmpS y x = -1 ∧ x ≠ y ∧ Op.bytesLess y x = true) := by
  rcases less_total x y with h | rfl | h
  · have hn : x ≠ y := fun e => by subst e; rw [less_irrefl] at h; cases h
    have hn' : (y == x) = false := by simpa using fun e => hn e.symm
    exact .inl ⟨by simp [cmpS, h], by simp [cmpS, less_asymm h, hn'], hn, h⟩
  · exact .inr (.inl ⟨by simp [cmpS, less_irrefl], by simp [cmpS, less_irrefl], rfl⟩)
  · have hn : x ≠ y := fun e => by subst e; rw [less_irrefl] at h; cases h
    have hn' : (x == y) = false := by simpa using hn
    exact .inr (.inr ⟨by simp [cmpS, less_asymm h, hn'], by simp [cmpS, h], hn, h⟩)
theorem cmpI_cases (x y : Int) : (cmpI x y = -1 ∧ cmpI y x = 1 ∧ x < y) ∨ (cmpI x y = 0 ∧ cmpI y x = 0 ∧ x = y) ∨ (cmpI x y = 1 ∧ cmpI y x = -1 ∧ y < x) := by
  unfold cmpI
  rcases Int.lt_trichotomy x y with h | h | h
  · exact .inl ⟨by simp [h], by rw [if_neg (by omega), if_pos h], h⟩
  · subst h; exact .inr (.inl ⟨by simp, by simp, rfl⟩)
  · exact .inr (.inr ⟨by rw [if_neg (by omega), if_pos h], by simp [h], h⟩)
theorem cmpS_trans {x y z : List UInt8} (h1 : cmpS x y ≤ 0) (h2 : cmpS y z ≤ 0) : cmpS x z ≤ 0 := by
  rcases cmpS_cases x y with ⟨a, _, _, l1⟩ | ⟨a, _, rfl⟩ | ⟨a, _⟩
  · rcases cmpS_cases y z with ⟨b, _, _, l2⟩ | ⟨b, _, rfl⟩ | ⟨b, _⟩
    · have := less_trans l1 l2
      simp [cmpS, this]
    · omega
    · omega
  · exact h2
  · omega
theorem cmpV_range (k1 n1 : Int) (s1 : List UInt8) (k2 n2 : Int) (s2 : List UInt8) : -1 ≤ cmpV k1 n1 s1 k2 n2 s2 ∧ cmpV k1 n1 s1 k2 n2 s2 ≤ 1 := by
  unfold cmpV or3
  rcases cmpI_cases k1 k2 with h | h | h <;> rcases cmpI_cases n1 n2 with h' | h' | h' <;> rcases cmpS_cases s1 s2 with h'' | h'' | h'' <;> simp [h.1, h'.1, h''.1]
theorem cmpV_anti (k1 n1 : Int) (s1 : List UInt8) (k2 n2 : Int) (s2 : List UInt8) : cmpV k1 n1 s1 k2 n2 s2 = - cmpV k2 n2 s2 k1 n1 s1 := by
  unfold cmpV or3
  rcases cmpI_cases k1 k2 with h | h | h <;> rcases cmpI_cases n1 n2 with h' | h' | h' <;> rcases cmpS_cases s1 s2 with h'' | h'' | h'' <;> simp [h.1, h'.1, h''.1, h.2.1, h'.2.1, h''.2.1]
theorem cmpV_eq (k1 n1 : Int) (s1 : List UInt8) (k2 n2 : Int) (s2 : List UInt8) : cmpV k1 n1 s1 k2 n2 s2 = 0 ↔ k1 = k2 ∧ n1 = n2 ∧ s1 = s2 := by
  have hk : cmpI k1 k2 = 0 ↔ k1 = k2 := by rcases cmpI_cases k1 k2 with ⟨a, _, l⟩ | ⟨a, _, l⟩ | ⟨a, _, l⟩ <;> rw [a] <;> constructor <;> intro h <;> omega
  have hn : cmpI n1 n2 = 0 ↔ n1 = n2 := by rcases cmpI_cases n1 n2 with ⟨a, _, l⟩ | ⟨a, _, l⟩ | ⟨a, _, l⟩ <;> rw [a] <;> constructor <;> intro h <;> omega
  have hs : cmpS s1 s2 = 0 ↔ s1 = s2 := by
    rcases cmpS_cases s1 s2 with ⟨a, _, l, _⟩ | ⟨a, _, l⟩ | ⟨a, _, l, _⟩ <;> rw [a]
    · exact ⟨fun h => by omega, fun h => absurd h l⟩
    · exact ⟨fun _ => l, fun _ => rfl⟩
    · exact ⟨fun h => by omega, fun h => absurd h l⟩
  rw [← hk, ← hn, ← hs]
  unfold cmpV or3
  by_cases h1 : cmpI k1 k2 = 0
  · by_cases h2 : cmpI n1 n2 = 0
    · simp [h1, h2]
    · simp [h1, h2]
  · simp [h1]
theorem cmpV_trans {k1 n1 : Int} {s1 : List UInt8} {k2 n2 : Int} {s2 : List UInt8} {k3 n3 : Int} {s3 : List UInt8} (h1 : cmpV k1 n1 s1 k2 n2 s2 ≤ 0) (h2 : cmpV k2 n2 s2 k3 n3 s3 ≤ 0) : cmpV k1 n1 s1 k3 n3 s3 ≤ 0 := by
  have key : ∀ {k1 n1 : Int} {s1 : List UInt8} {k2 n2 : Int} {s2 : List UInt8}, cmpV k1 n1 s1 k2 n2 s2 ≤ 0 ↔ (k1 < k2 ∨ k1 = k2 ∧ (n1 < n2 ∨ n1 = n2 ∧ cmpS s1 s2 ≤ 0)) := by
    intro k1 n1 s1 k2 n2 s2
    unfold cmpV or3
    rcases cmpI_cases k1 k2 with h | h | h <;> rcases cmpI_cases n1 n2 with h' | h' | h' <;> simp [h.1, h'.1] <;> omega
  rw [key] at h1 h2 ⊢
  rcases h1 with h1 | ⟨rfl, h1⟩ <;> rcases h2 with h2 | ⟨rfl, h2⟩
  · left; omega
  · left; omega
  · left; omega
  · right; refine ⟨rfl, ?_⟩
    rcases h1 with h1 | ⟨rfl, h1⟩ <;> rcases h2 with h2 | ⟨rfl, h2⟩
    · left; omega
    · left; omega
    · left; omega
    · right; exact ⟨rfl, cmpS_trans h1 h2⟩
end Go.Proofs.YtcjidlgmbjebjaaDoor.Ord

namespace Go.Proofs.YtcjidlgmbjebjaaDoor
open Go Go.RowKit
theorem nan_int (x : Int) (w : World) : Calls Tryd.prog 117 #[.int .i64 x] w fun e w' => e = .returned (.bool false) ∧ w = w' := by
  go_enter Tryd.func117, Tryd.ntmps117
  go_wp2
  go_ret
  exact ⟨rfl, rfl⟩
theorem nan_str (x : ByteArray) (w : World) : Calls Tryd.prog 118 #[.string x] w fun e w' => e = .returned (.bool false) ∧ w = w' := by
  go_enter Tryd.func118, Tryd.ntmps118
  go_wp2
  go_ret
  exact ⟨rfl, rfl⟩
def RetI (n : Int) (w : World) (e : Ending) (w' : World) : Prop := e = .returned (.int .i64 n) ∧ w = w'
theorem cmp_int (x y : Int) (w : World) : Calls Tryd.prog 66 #[.int .i64 x, .int .i64 y] w (RetI (Ord.cmpI x y) w) := by
  unfold Ord.cmpI
  go_enter Tryd.func66, Tryd.ntmps66
  go_wp2_with (first
    | (go_at_call 117; refine (nan_int _ _).mono ?_; rintro e w' ⟨rfl, rfl⟩))
  all_goals (go_ret; simp_all [RetI])
end Go.Proofs.YtcjidlgmbjebjaaDoor

namespace Go.Proofs.YtcjidlgmbjebjaaDoor
open Go Go.RowKit
theorem cmp_str (x y : ByteArray) (w : World) : Calls Tryd.prog 67 #[.string x, .string y] w (RetI (Ord.cmpS x.toList y.toList) w) := by
  unfold Ord.cmpS
  go_enter Tryd.func67, Tryd.ntmps67
  go_wp2_with (first
    | (go_at_call 118; refine (nan_str _ _).mono ?_; rintro e w' ⟨rfl, rfl⟩))
  all_goals (go_ret; simp_all [RetI])
def OrR (a b c : Int) (w : World) (i : Value) (wr : World) : Prop := ∃ j : Nat, j ≤ 3 ∧ i = .int .i64 j ∧ w = wr ∧ (0 < j → a = 0) ∧ (1 < j → b = 0) ∧ (2 < j → c = 0)
theorem or_three (a b c : Int) (k : Nat) (w : World) (h0 : w.cell? ⟨k, 0, none⟩ = some (.int .i64 a)) (h1 : w.cell? ⟨k, 1, none⟩ = some (.int .i64 b)) (h2 : w.cell? ⟨k, 2, none⟩ = some (.int .i64 c)) :
    Calls Tryd.prog 65 #[.slice (some ⟨k, 0, none⟩) 3 3] w (RetI (Ord.or3 a b c) w) := by
  go_enter Tryd.func65, Tryd.ntmps65
  go_wp2
  go_loopw [8] (fun i wr => OrR a b c w i wr) (fun i _ => 3 - (intOf i).toNat)
  case atStart => exact ⟨0, by omega, rfl, rfl, by omega, by omega, by omega⟩
  case round =>
    obtain ⟨j, hj, rfl, rfl, q0, q1, q2⟩ := hrel
    match j, hj with
    | 0, _ =>
      by_cases ha : a = 0
      · subst ha
        go_wp2
        exact ⟨⟨1, by omega, rfl, rfl, by omega, by omega, by omega⟩, by simp [intOf]⟩
      · go_wp2
        go_ret
        exact ⟨by simp [Ord.or3, ha], rfl⟩
    | 1, _ =>
      have ha := q0 (by omega)
      subst ha
      by_cases hb : b = 0
      · subst hb
        go_wp2
        exact ⟨⟨2, by omega, rfl, rfl, by omega, by omega, by omega⟩, by simp [intOf]⟩
      · go_wp2
        go_ret
        exact ⟨by simp [Ord.or3, hb], rfl⟩
    | 2, _ =>
      have ha := q0 (by omega)
      have hb := q1 (by omega)
      subst ha hb
      by_cases hc : c = 0
      · subst hc
        go_wp2
        exact ⟨⟨3, by omega, rfl, rfl, by omega, by omega, by omega⟩, by simp [intOf]⟩
      · go_wp2
        go_ret
        exact ⟨by simp [Ord.or3], rfl⟩
    | 3, _ =>
      have ha := q0 (by omega)
      have hb := q1 (by omega)
      have hc := q2 (by omega)
      subst ha hb hc
      go_wp2
      go_ret
      exact ⟨by simp [Ord.or3], rfl⟩
end Go.Proofs.YtcjidlgmbjebjaaDoor

namespace Go.Proofs.YtcjidlgmbjebjaaDoor
open Go Go.RowKit
def RetB (n : Int) (W : World) (e : Ending) (w' : World) : Prop := e = .returned (.int .i64 n) ∧ Below W.heap.size W w'
set_option maxHeartbeats 4000000 in
theorem cmp_val (k1 n1 : Int) (s1 : ByteArray) (k2 n2 : Int) (s2 : ByteArray) (W : World) :
    Calls Tryd.prog 29 #[.agg #[.int .i64 k1, .int .i64 n1, .string s1], .agg #[.int .i64 k2, .int .i64 n2, .string s2]] W (RetB (Ord.cmpV k1 n1 s1.toList k2 n2 s2.toList) W) := by
  unfold Ord.cmpV
  go_enter Tryd.func29, Tryd.ntmps29
  go_wp2_with fail
  go_region_held3 (fun w' => w'.cell? ⟨W.heap.size, 0, none⟩ = some (.int .i64 k1) ∧ w'.cell? ⟨W.heap.size, 1, none⟩ = some (.int .i64 n1) ∧ w'.cell? ⟨W.heap.size, 2, none⟩ = some (.string s1) ∧
      w'.cell? ⟨W.heap.size + 1, 0, none⟩ = some (.int .i64 k2) ∧ w'.cell? ⟨W.heap.size + 1, 1, none⟩ = some (.int .i64 n2) ∧ w'.cell? ⟨W.heap.size + 1, 2, none⟩ = some (.string s2))
    (first | go_keep | ((refine ⟨?_, ?_, ?_, ?_, ?_, ?_⟩) <;> (first | go_cell | (simp [World.cell?_drew]; done))))
    (first
      | (go_at_call 66; refine (cmp_int _ _ _).mono ?_; rintro e w' ⟨rfl, rfl⟩)
      | (go_at_call 67; refine (cmp_str _ _ _).mono ?_; rintro e w' ⟨rfl, rfl⟩)
      | (go_at_call 65; refine (or_three (Ord.cmpI k1 k2) (Ord.cmpI n1 n2) (Ord.cmpS s1.toList s2.toList) _ _ ?_ ?_ ?_).mono ?_; (iterate 3 (· go_cell)); rintro e w' ⟨rfl, rfl⟩))
  go_wp2
  go_ret
  refine ⟨?_, ?_⟩
  · first | rfl | simp
  · go_grown
end Go.Proofs.YtcjidlgmbjebjaaDoor

namespace Go.Proofs.YtcjidlgmbjebjaaDoor
open Go Go.RowKit
theorem below_step {W w w' : World} (h1 : Below W.heap.size W w) (h2 : Below w.heap.size w w') : Below W.heap.size W w' := h1.trans (h2.mono h1.size)
def RetBool (b : Bool) (W : World) (e : Ending) (w' : World) : Prop := e = .returned (.bool b) ∧ Below W.heap.size W w'
theorem equal_val (k1 n1 : Int) (s1 : ByteArray) (k2 n2 : Int) (s2 : ByteArray) (W : World) :
    Calls Tryd.prog 30 #[.agg #[.int .i64 k1, .int .i64 n1, .string s1], .agg #[.int .i64 k2, .int .i64 n2, .string s2]] W (RetBool (decide (k1 = k2 ∧ n1 = n2 ∧ s1.toList = s2.toList)) W) := by
  go_enter Tryd.func30, Tryd.ntmps30
  go_wp2
  all_goals go_ret
  all_goals refine ⟨?_, ?_⟩
  all_goals first | go_grown | skip
  all_goals simp_all
def TrueBelow (W : World) (e : Ending) (w' : World) : Prop := e = .returned (.bool true) ∧ Below W.heap.size W w'
set_option maxHeartbeats 8000000 in
theorem order_walk (k1 n1 : Int) (s1 : ByteArray) (k2 n2 : Int) (s2 : ByteArray) (k3 n3 : Int) (s3 : ByteArray) (W : World) (hlives : ∀ w', Below W.heap.size W w' → Calls Tryd.prog 24 #[] w' (TrueBelow w')) :
    Calls Tryd.prog 5 #[.agg #[.int .i64 k1, .int .i64 n1, .string s1], .agg #[.int .i64 k2, .int .i64 n2, .string s2], .agg #[.int .i64 k3, .int .i64 n3, .string s3]] W (TrueBelow W) := by
  have HL := Lib.hid hlives; clear hlives
  go_enter Tryd.func5, Tryd.ntmps5
  go_wp2_with fail
  go_region_held3 (fun w' => w'.cell? ⟨W.heap.size, 0, none⟩ = some (.int .i64 k1) ∧ w'.cell? ⟨W.heap.size, 1, none⟩ = some (.int .i64 n1) ∧ w'.cell? ⟨W.heap.size, 2, none⟩ = some (.string s1) ∧
      w'.cell? ⟨W.heap.size + 1, 0, none⟩ = some (.int .i64 k2) ∧ w'.cell? ⟨W.heap.size + 1, 1, none⟩ = some (.int .i64 n2) ∧ w'.cell? ⟨W.heap.size + 1, 2, none⟩ = some (.string s2) ∧
      w'.cell? ⟨W.heap.size + 1 + 1, 0, none⟩ = some (.int .i64 k3) ∧ w'.cell? ⟨W.heap.size + 1 + 1, 1, none⟩ = some (.int .i64 n3) ∧ w'.cell? ⟨W.heap.size + 1 + 1, 2, none⟩ = some (.string s3) ∧ Below W.heap.size W w')
    (first
      | (go_keep; done)
      | ((repeat' apply And.intro) <;> first | (go_cell; done) | (rw [World.cell?_drew]; go_cell; done) | (go_grown; done))
      | (go_split_ands; (repeat' apply And.intro) <;> first | (exact cell_later hb1 (by assumption)) | (exact below_step (by assumption) hb1)))
    ((go_at_call 29; refine (cmp_val _ _ _ _ _ _ _).mono ?_; rintro e w1 ⟨rfl, hb1⟩))
  rename_i hH
  obtain ⟨c0, c1, c2, c3, c4, c5, c6, c7, c8, cb⟩ := hH
  have hr : Ord.cmpV k1 n1 s1.toList k2 n2 s2.toList > 0 ∨ Ord.cmpV k2 n2 s2.toList k3 n3 s3.toList > 0 ∨ Ord.cmpV k1 n1 s1.toList k3 n3 s3.toList ≤ 0 := by
    by_cases h1 : Ord.cmpV k1 n1 s1.toList k2 n2 s2.toList > 0
    · exact .inl h1
    · by_cases h2 : Ord.cmpV k2 n2 s2.toList k3 n3 s3.toList > 0
      · exact .inr (.inl h2)
      · exact .inr (.inr (Ord.cmpV_trans (Int.not_lt.1 h1) (Int.not_lt.1 h2)))
  have rx := Ord.cmpV_range k1 n1 s1.toList k2 n2 s2.toList
  have ry := Ord.cmpV_range k2 n2 s2.toList k3 n3 s3.toList
  have rz := Ord.cmpV_range k1 n1 s1.toList k3 n3 s3.toList
  have h21 := Ord.cmpV_anti k2 n2 s2.toList k1 n1 s1.toList
  have heq : decide (k1 = k2 ∧ n1 = n2 ∧ s1.toList = s2.toList) = decide (Ord.cmpV k1 n1 s1.toList k2 n2 s2.toList = 0) := by
    rw [decide_eq_decide]; exact (Ord.cmpV_eq ..).symm
  have hF29 := fun w => cmp_val k2 n2 s2 k1 n1 s1 w
  have hF30 := fun w => equal_val k1 n1 s1 k2 n2 s2 w
  rw [h21] at hF29
  rw [heq] at hF30
  clear h21 heq
  generalize Ord.cmpV k1 n1 s1.toList k2 n2 s2.toList = x at *
  generalize Ord.cmpV k2 n2 s2.toList k3 n3 s3.toList = y at *
  generalize Ord.cmpV k1 n1 s1.toList k3 n3 s3.toList = z at *
  have HF29 := Lib.hid hF29; clear hF29
  have HF30 := Lib.hid hF30; clear hF30
  have ex : x = -1 ∨ x = 0 ∨ x = 1 := by omega
  have ey : y = -1 ∨ y = 0 ∨ y = 1 := by omega
  have ez : z = -1 ∨ z = 0 ∨ z = 1 := by omega
  clear rx ry rz
  rcases ex with rfl | rfl | rfl <;> rcases ey with rfl | rfl | rfl <;> rcases ez with rfl | rfl | rfl
  all_goals first
    | (exfalso; omega)
    | (clear hr
       go_wp2_with fail
       refine (HF29.out _).mono ?_
       rintro e w2 ⟨rfl, hb2⟩
       have d0 := cell_later hb2 c0
       have d1 := cell_later hb2 c1
       have d2 := cell_later hb2 c2
       have d3 := cell_later hb2 c3
       have d4 := cell_later hb2 c4
       have d5 := cell_later hb2 c5
       have db := below_step cb hb2
       clear c0 c1 c2 c3 c4 c5 c6 c7 c8 cb hb2
       dsimp only
       go_wp2_with fail
       refine (HF30.out _).mono ?_
       rintro e w3 ⟨rfl, hb3⟩
       have eb := below_step db hb3
       clear d0 d1 d2 d3 d4 d5 db hb3
       dsimp only
       go_wp2_with fail
       refine (HL.out _ eb).mono ?_
       rintro e w4 ⟨rfl, hb4⟩
       have fb := below_step eb hb4
       clear eb hb4
       dsimp only
       go_wp2_with fail
       go_ret
       exact ⟨rfl, fb⟩)
end Go.Proofs.YtcjidlgmbjebjaaDoor

namespace Go.Proofs.YtcjidlgmbjebjaaDoor.Utf
open Go
def byt (s : ByteArray) (i : Nat) : Nat := (s.get! i).toNat
theorem byt_lt (s : ByteArray) (i : Nat) : byt s i < 256 := (s.get! i).toNat_lt
def kOf (c : Nat) : Nat := if c < 128 then 0 else if c < 224 then 1 else if c < 240 then 2 else 3
def leastOf (c : Nat) : Nat := if c < 128 then 0 else if c < 224 then 128 else if c < 240 then 2048 else 65536
def startOf (c : Nat) : Nat := if c < 128 then c else if c < 224 then c % 32 else if c < 240 then c % 16 else c % 8
def okHead (c : Nat) : Bool := decide (c < 128) || (decide (194 ≤ c) && decide (c < 245))
def cont (s : ByteArray) (i : Nat) : Bool := decide (i < s.size) && byt s i / 64 == 2
/-- Behind n bytes that go on. -/
def val (s : ByteArray) (i r : Nat) : Nat → Nat
  | 0 => r
  | n + 1 => val s i r n * 64 + byt s (i + (n + 1)) % 64
def conts (s : ByteArray) (i : Nat) : Nat → Bool
  | 0 => true
  | n + 1 => conts s i n && cont s (i + (n + 1))
def okRune (c r : Nat) : Bool := decide (leastOf c ≤ r) && decide (r ≤ 1114111) && !(decide (55296 ≤ r) && decide (r ≤ 57343))
def okStep (s : ByteArray) (i : Nat) : Bool :=
  okHead (byt s i) && conts s i (kOf (byt s i)) && okRune (byt s i) (val s i (startOf (byt s i)) (kOf (byt s i)))
/-- Does the sign of what is wrong stand there, as a text of its own? -/
def fffd (s : ByteArray) (i : Nat) : Bool := decide (i + 2 < s.size) && byt s i == 239 && byt s (i + 1) == 191 && byt s (i + 2) == 189
def bad (s : ByteArray) (i : Nat) : Bool := (Utf8.decode s i).1 == 65533 && !fffd s i
theorem valid_iff (c : Nat) : Utf8.valid (c : Int) = true ↔ c < 55296 ∨ (57344 ≤ c ∧ c ≤ 1114111) := by
  unfold Utf8.valid
  simp only [Bool.or_eq_true, Bool.and_eq_true, decide_eq_true_eq]
  omega
theorem decode_eq (s : ByteArray) (i : Nat) : Utf8.decode s i =
    if byt s i < 128 then (byt s i, 1)
    else if (byt s i / 32 == 6 && cont s (i + 1)) = true then
      if byt s i % 32 * 64 + byt s (i + 1) % 64 ≥ 128 then (byt s i % 32 * 64 + byt s (i + 1) % 64, 2) else (65533, 1)
    else if (byt s i / 16 == 14 && cont s (i + 1) && cont s (i + 2)) = true then
      if (decide (byt s i % 16 * 4096 + byt s (i + 1) % 64 * 64 + byt s (i + 2) % 64 ≥ 2048) && Utf8.valid (byt s i % 16 * 4096 + byt s (i + 1) % 64 * 64 + byt s (i + 2) % 64 : Nat)) = true
      then (byt s i % 16 * 4096 + byt s (i + 1) % 64 * 64 + byt s (i + 2) % 64, 3) else (65533, 1)
    else if (byt s i / 8 == 30 && cont s (i + 1) && cont s (i + 2) && cont s (i + 3)) = true then
      if (decide (byt s i % 8 * 262144 + byt s (i + 1) % 64 * 4096 + byt s (i + 2) % 64 * 64 + byt s (i + 3) % 64 ≥ 65536) && Utf8.valid (byt s i % 8 * 262144 + byt s (i + 1) % 64 * 4096 + byt s (i + 2) % 64 * 64 + byt s (i + 3) % 64 : Nat)) = true
      then (byt s i % 8 * 262144 + byt s (i + 1) % 64 * 4096 + byt s (i + 2) % 64 * 64 + byt s (i + 3) % 64, 4) else (65533, 1)
    else (65533, 1) := rfl
theorem step_eq (s : ByteArray) (i : Nat) : okStep s i = !bad s i ∧ (okStep s i = true → (Utf8.decode s i).2 = kOf (byt s i) + 1) := by
  have l0 := byt_lt s i
  have l1 := byt_lt s (i + 1)
  have l2 := byt_lt s (i + 2)
  have l3 := byt_lt s (i + 3)
  have hc1 : cont s (i + 1) = true ↔ i + 1 < s.size ∧ byt s (i + 1) / 64 = 2 := by unfold cont; simp
  have hc2 : cont s (i + 2) = true ↔ i + 2 < s.size ∧ byt s (i + 2) / 64 = 2 := by unfold cont; simp
  have hc3 : cont s (i + 3) = true ↔ i + 3 < s.size ∧ byt s (i + 3) / 64 = 2 := by unfold cont; simp
  have hf : fffd s i = true ↔ i + 2 < s.size ∧ byt s i = 239 ∧ byt s (i + 1) = 191 ∧ byt s (i + 2) = 189 := by unfold fffd; simp [and_assoc]
  have hb : bad s i = true ↔ (Utf8.decode s i).1 = 65533 ∧ ¬ fffd s i = true := by unfold bad; simp
  have hor : ∀ c r, okRune c r = true ↔ leastOf c ≤ r ∧ r ≤ 1114111 ∧ ¬ (55296 ≤ r ∧ r ≤ 57343) := fun c r => by unfold okRune; simp [and_assoc]; omega
  have hoh : okHead (byt s i) = true ↔ byt s i < 128 ∨ (194 ≤ byt s i ∧ byt s i < 245) := by unfold okHead; simp
  have hos : okStep s i = true ↔ okHead (byt s i) = true ∧ conts s i (kOf (byt s i)) = true ∧ okRune (byt s i) (val s i (startOf (byt s i)) (kOf (byt s i))) = true := by unfold okStep; simp [and_assoc]
  have key : (okStep s i = true ↔ ¬ bad s i = true) ∧ (okStep s i = true → (Utf8.decode s i).2 = kOf (byt s i) + 1) := by
    rw [hb, hf, hos, hor, hoh, decode_eq]
    have v1 : ∀ r, val s i r 1 = r * 64 + byt s (i + 1) % 64 := fun r => rfl
    have v2 : ∀ r, val s i r 2 = (r * 64 + byt s (i + 1) % 64) * 64 + byt s (i + 2) % 64 := fun r => rfl
    have v3 : ∀ r, val s i r 3 = ((r * 64 + byt s (i + 1) % 64) * 64 + byt s (i + 2) % 64) * 64 + byt s (i + 3) % 64 := fun r => rfl
    have w1 : conts s i 1 = cont s (i + 1) := by simp [conts]
    have w2 : conts s i 2 = (cont s (i + 1) && cont s (i + 2)) := by simp [conts]
    have w3 : conts s i 3 = (cont s (i + 1) && cont s (i + 2) && cont s (i + 3)) := by simp [conts]
    by_cases a0 : byt s i < 128
    · have e1 : kOf (byt s i) = 0 := by unfold kOf; rw [if_pos a0]
      have e2 : leastOf (byt s i) = 0 := by unfold leastOf; rw [if_pos a0]
      have e3 : startOf (byt s i) = byt s i := by unfold startOf; rw [if_pos a0]
      rw [e1, e2, e3, if_pos a0]
      refine ⟨⟨fun _ h => ?_, fun _ => ⟨.inl a0, rfl, ?_⟩⟩, fun _ => rfl⟩
      · have := h.1; simp only at this; omega
      · have v0 : val s i (byt s i) 0 = byt s i := rfl
        rw [v0]; omega
    · rw [if_neg a0]
      by_cases a1 : byt s i < 224
      · have e1 : kOf (byt s i) = 1 := by unfold kOf; rw [if_neg a0, if_pos a1]
        have e2 : leastOf (byt s i) = 128 := by unfold leastOf; rw [if_neg a0, if_pos a1]
        have e3 : startOf (byt s i) = byt s i % 32 := by unfold startOf; rw [if_neg a0, if_pos a1]
        have g2 : (byt s i / 16 == 14) = false := by rw [beq_eq_false_iff_ne]; omega
        have g3 : (byt s i / 8 == 30) = false := by rw [beq_eq_false_iff_ne]; omega
        rw [e1, e2, e3, v1, w1, g2, g3]
        simp only [Bool.false_and, Bool.false_eq_true, if_false]
        generalize hx : byt s i % 32 * 64 + byt s (i + 1) % 64 = x
        have hx2 : x < 2048 := by omega
        by_cases t : cont s (i + 1) = true
        · by_cases h6 : byt s i / 32 = 6
          · have : (byt s i / 32 == 6 && cont s (i + 1)) = true := by simp [t, h6]
            rw [if_pos this]
            by_cases hx3 : x ≥ 128
            · rw [if_pos hx3]
              simp only [t, true_and]
              refine ⟨⟨fun _ h => by omega, fun _ => ⟨by omega, by omega⟩⟩, fun _ => by first | rfl | trivial⟩
            · rw [if_neg hx3]
              refine ⟨⟨fun h => by omega, fun h => absurd ⟨rfl, fun hh => by omega⟩ h⟩, fun h => by omega⟩
          · have : ¬ ((byt s i / 32 == 6 && cont s (i + 1)) = true) := by simp [h6]
            rw [if_neg this]
            refine ⟨⟨fun h => by omega, fun h => absurd ⟨rfl, fun hh => by omega⟩ h⟩, fun h => by omega⟩
        · have : ¬ ((byt s i / 32 == 6 && cont s (i + 1)) = true) := by simp [t]
          rw [if_neg this]
          refine ⟨⟨fun h => absurd h.2.1 t, fun h => absurd ⟨rfl, fun hh => by omega⟩ h⟩, fun h => absurd h.2.1 t⟩
      · have g1 : (byt s i / 32 == 6) = false := by rw [beq_eq_false_iff_ne]; omega
        by_cases a2 : byt s i < 240
        · have e1 : kOf (byt s i) = 2 := by unfold kOf; rw [if_neg a0, if_neg a1, if_pos a2]
          have e2 : leastOf (byt s i) = 2048 := by unfold leastOf; rw [if_neg a0, if_neg a1, if_pos a2]
          have e3 : startOf (byt s i) = byt s i % 16 := by unfold startOf; rw [if_neg a0, if_neg a1, if_pos a2]
          have g2 : (byt s i / 16 == 14) = true := by rw [beq_iff_eq]; omega
          have g3 : (byt s i / 8 == 30) = false := by rw [beq_eq_false_iff_ne]; omega
          rw [e1, e2, e3, v2, w2, g1, g2, g3]
          simp only [Bool.false_and, Bool.true_and, Bool.false_eq_true, if_false]
          have hx : (byt s i % 16 * 64 + byt s (i + 1) % 64) * 64 + byt s (i + 2) % 64 = byt s i % 16 * 4096 + byt s (i + 1) % 64 * 64 + byt s (i + 2) % 64 := by omega
          rw [hx]
          by_cases t : (cont s (i + 1) && cont s (i + 2)) = true
          · rw [if_pos t]
            have t' := t
            simp only [Bool.and_eq_true] at t'
            obtain ⟨q1, q2⟩ := t'
            have q1 := hc1.1 q1
            have q2 := hc2.1 q2
            by_cases hv : (decide (byt s i % 16 * 4096 + byt s (i + 1) % 64 * 64 + byt s (i + 2) % 64 ≥ 2048) && Utf8.valid (byt s i % 16 * 4096 + byt s (i + 1) % 64 * 64 + byt s (i + 2) % 64 : Nat)) = true
            · rw [if_pos hv]
              simp only [Bool.and_eq_true, decide_eq_true_eq, valid_iff] at hv
              refine ⟨⟨fun _ h => h.2 ?_, fun _ => ⟨by omega, t, by omega⟩⟩, fun _ => rfl⟩
              have := h.1
              simp only at this
              omega
            · rw [if_neg hv]
              simp only [Bool.and_eq_true, decide_eq_true_eq, valid_iff] at hv
              refine ⟨⟨fun h => by omega, fun h => absurd ⟨rfl, fun hh => by omega⟩ h⟩, fun h => by omega⟩
          · rw [if_neg t]
            have t' : ¬ (cont s (i + 1) = true ∧ cont s (i + 2) = true) := by simpa using t
            rw [hc1, hc2] at t'
            refine ⟨⟨fun h => absurd h.2.1 t, fun h => absurd ⟨rfl, fun hh => by omega⟩ h⟩, fun h => absurd h.2.1 t⟩
        · have e1 : kOf (byt s i) = 3 := by unfold kOf; rw [if_neg a0, if_neg a1, if_neg a2]
          have e2 : leastOf (byt s i) = 65536 := by unfold leastOf; rw [if_neg a0, if_neg a1, if_neg a2]
          have e3 : startOf (byt s i) = byt s i % 8 := by unfold startOf; rw [if_neg a0, if_neg a1, if_neg a2]
          have g2 : (byt s i / 16 == 14) = false := by rw [beq_eq_false_iff_ne]; omega
          rw [e1, e2, e3, v3, w3, g1, g2]
          simp only [Bool.false_and, Bool.false_eq_true, if_false]
          have hx : ((byt s i % 8 * 64 + byt s (i + 1) % 64) * 64 + byt s (i + 2) % 64) * 64 + byt s (i + 3) % 64 = byt s i % 8 * 262144 + byt s (i + 1) % 64 * 4096 + byt s (i + 2) % 64 * 64 + byt s (i + 3) % 64 := by omega
          rw [hx]
          by_cases t : (cont s (i + 1) && cont s (i + 2) && cont s (i + 3)) = true
          · by_cases h30 : byt s i / 8 = 30
            · have : (byt s i / 8 == 30 && cont s (i + 1) && cont s (i + 2) && cont s (i + 3)) = true := by
                have : (byt s i / 8 == 30) = true := by simp [h30]
                rw [this, Bool.true_and]; exact t
              rw [if_pos this]
              by_cases hv : (decide (byt s i % 8 * 262144 + byt s (i + 1) % 64 * 4096 + byt s (i + 2) % 64 * 64 + byt s (i + 3) % 64 ≥ 65536) && Utf8.valid (byt s i % 8 * 262144 + byt s (i + 1) % 64 * 4096 + byt s (i + 2) % 64 * 64 + byt s (i + 3) % 64 : Nat)) = true
              · rw [if_pos hv]
                simp only [Bool.and_eq_true, decide_eq_true_eq, valid_iff] at hv
                refine ⟨⟨fun _ h => ?_, fun _ => ⟨by omega, t, by omega⟩⟩, fun _ => rfl⟩
                have := h.1
                simp only at this
                omega
              · rw [if_neg hv]
                simp only [Bool.and_eq_true, decide_eq_true_eq, valid_iff] at hv
                refine ⟨⟨fun h => by omega, fun h => absurd ⟨rfl, fun hh => by omega⟩ h⟩, fun h => by omega⟩
            · have : ¬ ((byt s i / 8 == 30 && cont s (i + 1) && cont s (i + 2) && cont s (i + 3)) = true) := by
                have : (byt s i / 8 == 30) = false := by simp [h30]
                rw [this]; simp
              rw [if_neg this]
              refine ⟨⟨fun h => by omega, fun h => absurd ⟨rfl, fun hh => by omega⟩ h⟩, fun h => by omega⟩
          · have : ¬ ((byt s i / 8 == 30 && cont s (i + 1) && cont s (i + 2) && cont s (i + 3)) = true) := by
              intro hh
              apply t
              simp only [Bool.and_eq_true] at hh ⊢
              exact ⟨⟨hh.1.1.2, hh.1.2⟩, hh.2⟩
            rw [if_neg this]
            refine ⟨⟨fun h => absurd h.2.1 t, fun h => absurd ⟨rfl, fun hh => by omega⟩ h⟩, fun h => absurd h.2.1 t⟩
  refine ⟨?_, key.2⟩
  cases h1 : okStep s i <;> cases h2 : bad s i <;> simp_all
end Go.Proofs.YtcjidlgmbjebjaaDoor.Utf
namespace Go.Proofs.YtcjidlgmbjebjaaDoor.Utf
open Go
/-- Is a text right from a place on? -/
def okFrom (s : ByteArray) : Nat → Nat → Bool
  | 0, _ => true
  | f + 1, i => if i < s.size then okStep s i && okFrom s f (i + (kOf (byt s i) + 1)) else true
def ok (s : ByteArray) : Bool := okFrom s s.size 0
theorem okFrom_end (s : ByteArray) (f i : Nat) (h : ¬ i < s.size) : okFrom s f i = true := by
  cases f with
  | zero => rfl
  | succ f => rw [okFrom, if_neg h]
theorem okFrom_bad (s : ByteArray) (f i : Nat) (h : i < s.size) (hf : s.size ≤ i + f) (hb : okStep s i = false) : okFrom s f i = false := by
  cases f with
  | zero => omega
  | succ f => rw [okFrom, if_pos h, hb, Bool.false_and]
theorem okFrom_on (s : ByteArray) (f i : Nat) (h : i < s.size) (hf : s.size ≤ i + f) (hb : okStep s i = true) : ∃ g, f = g + 1 ∧ okFrom s f i = okFrom s g (i + (kOf (byt s i) + 1)) ∧ s.size ≤ i + (kOf (byt s i) + 1) + g := by
  cases f with
  | zero => omega
  | succ f => exact ⟨f, rfl, by rw [okFrom, if_pos h, hb, Bool.true_and], by omega⟩
end Go.Proofs.YtcjidlgmbjebjaaDoor.Utf

namespace Go.Proofs.YtcjidlgmbjebjaaDoor
open Go Go.RowKit
def isP (t : ByteArray) : Bool := decide (3 ≤ t.size) && (t.extract 0 3).toList == [239, 191, 189]
theorem pfx176 (t : ByteArray) (w : World) : Calls Tryd.prog 176 #[.string t, .string ⟨#[239, 191, 189]⟩] w fun e w' => e = .returned (.bool (isP t)) ∧ w = w' := by
  unfold isP
  go_enter Tryd.func176, Tryd.ntmps176
  go_wp2
  · rename_i h
    have h2 : decide (3 ≤ t.size) = true := by simp; omega
    go_ret
    refine ⟨?_, rfl⟩
    rw [h2]; rfl
  · rename_i h
    have h2 : decide (3 ≤ t.size) = false := by simp; omega
    go_ret
    refine ⟨?_, rfl⟩
    rw [h2]; rfl
theorem pfx144 (t : ByteArray) (w : World) : Calls Tryd.prog 144 #[.string t, .string ⟨#[239, 191, 189]⟩] w fun e w' => e = .returned (.bool (isP t)) ∧ w = w' := by
  go_enter Tryd.func144, Tryd.ntmps144
  go_wp2_with (first | (go_at_call 176; refine (pfx176 _ _).mono ?_; rintro e w' ⟨rfl, rfl⟩))
  go_ret
  exact ⟨rfl, rfl⟩
theorem get_list (s : ByteArray) (i : Nat) (h : i < s.size) : s.data.toList[i]? = some (s.get! i) := by
  have hd : i < s.data.size := h
  rw [Array.getElem?_toList, Array.getElem?_eq_getElem hd]
  congr 1
  show _ = s.get! i
  have : s.data[i]! = s.data[i] := getElem!_pos s.data i hd
  simp only [ByteArray.get!]
  exact this.symm
theorem isP_eq (s : ByteArray) (i : Nat) (hi : i ≤ s.size) : isP (s.extract i s.size) = Utf.fffd s i := by
  have hsz : (s.extract i s.size).size = s.size - i := by simp
  have hl : ((s.extract i s.size).extract 0 3).toList = (s.data.toList.drop i).take 3 := by
    rw [Lib.toList_data]
    simp only [ByteArray.data_extract, Array.toList_extract, List.extract_eq_take_drop]
    have : s.data.toList.length = s.size := rfl
    have ht : (s.data.toList.drop i).take (s.size - i) = s.data.toList.drop i := List.take_of_length_le (by rw [List.length_drop]; omega)
    simp only [List.drop_zero, Nat.sub_zero]
    rw [ht]
  unfold isP Utf.fffd Utf.byt
  rw [hsz, hl]
  by_cases h : i + 2 < s.size
  · have h3 : decide (3 ≤ s.size - i) = true := by simp; omega
    rw [h3, decide_eq_true h, Bool.true_and, Bool.true_and]
    have e0 := get_list s i (by omega)
    have e1 := get_list s (i + 1) (by omega)
    have e2 := get_list s (i + 2) (by omega)
    have hlen : s.data.toList.length = s.size := rfl
    have hd : (s.data.toList.drop i).take 3 = [s.get! i, s.get! (i + 1), s.get! (i + 2)] := by
      apply List.ext_getElem?
      intro j
      match j with
      | 0 => simpa [List.getElem?_take, List.getElem?_drop] using e0
      | 1 => simpa [List.getElem?_take, List.getElem?_drop] using e1
      | 2 => simpa [List.getElem?_take, List.getElem?_drop] using e2
      | j + 3 =>
        rw [List.getElem?_eq_none (by simp; omega), List.getElem?_eq_none (by simp)]
    rw [hd]
    have hu : ∀ (a : UInt8) (n : Nat) (hn : n < 256), (a.toNat == n) = (a == UInt8.ofNat n) := fun a n hn => by
      rw [Bool.eq_iff_iff, beq_iff_eq, beq_iff_eq]
      constructor
      · intro h; apply UInt8.toNat_inj.1; simp [h, Nat.mod_eq_of_lt hn]
      · intro h; rw [h]; simp [Nat.mod_eq_of_lt hn]
    rw [hu _ 239 (by omega), hu _ 191 (by omega), hu _ 189 (by omega)]
    rw [Bool.eq_iff_iff]
    simp [and_assoc]
  · have h3 : decide (3 ≤ s.size - i) = false := by simp; omega
    rw [h3, decide_eq_false h]; rfl
end Go.Proofs.YtcjidlgmbjebjaaDoor

namespace Go.Proofs.YtcjidlgmbjebjaaDoor.Utf
open Go
def okCh (i c : Nat) : Bool := (decide (97 ≤ c) && decide (c ≤ 122)) || (decide (0 < i) && (decide (c = 95) || (decide (48 ≤ c) && decide (c ≤ 57))))
theorem okCh_iff (i c : Nat) : okCh i c = true ↔ (97 ≤ c ∧ c ≤ 122) ∨ (0 < i ∧ (c = 95 ∨ (48 ≤ c ∧ c ≤ 57))) := by
  unfold okCh; simp
def nmFrom (s : ByteArray) : Nat → Nat → Bool
  | 0, _ => true
  | f + 1, i => if i < s.size then okCh i (byt s i) && nmFrom s f (i + 1) else true
def nmAll (s : ByteArray) : Bool := nmFrom s s.size 0
def nmOk (s : ByteArray) : Bool := nmAll s && (decide (1 ≤ s.size) && decide (s.size ≤ 12))
theorem nmFrom_end (s : ByteArray) (f i : Nat) (h : ¬ i < s.size) : nmFrom s f i = true := by
  cases f with
  | zero => rfl
  | succ f => rw [nmFrom, if_neg h]
theorem nmFrom_bad (s : ByteArray) (f i : Nat) (h : i < s.size) (hf : s.size ≤ i + f) (hb : okCh i (byt s i) = false) : nmFrom s f i = false := by
  cases f with
  | zero => omega
  | succ f => rw [nmFrom, if_pos h, hb, Bool.false_and]
theorem nmFrom_on (s : ByteArray) (f i : Nat) (h : i < s.size) (hf : s.size ≤ i + f) (hb : okCh i (byt s i) = true) : ∃ g, f = g + 1 ∧ nmFrom s f i = nmFrom s g (i + 1) ∧ s.size ≤ i + 1 + g := by
  cases f with
  | zero => omega
  | succ f => exact ⟨f, rfl, by rw [nmFrom, if_pos h, hb, Bool.true_and], by omega⟩
theorem decode_ascii (s : ByteArray) (i : Nat) (h : byt s i < 128) : Utf8.decode s i = (byt s i, 1) := by
  rw [decode_eq, if_pos h]
theorem decode_high (s : ByteArray) (i : Nat) (h : ¬ byt s i < 128) : 128 ≤ (Utf8.decode s i).1 := by
  rw [decode_eq, if_neg h]
  repeat' split
  all_goals first | omega | (simp at *; omega)
end Go.Proofs.YtcjidlgmbjebjaaDoor.Utf

namespace Go.Proofs.YtcjidlgmbjebjaaDoor
open Go Go.RowKit
def NmR (s : ByteArray) (w : World) (i : Value) (w' : World) : Prop := ∃ pos b : Nat, i = .int .i64 pos ∧ w' = w ∧ s.size ≤ pos + b ∧ pos ≤ s.size ∧ Utf.nmFrom s b pos = Utf.nmAll s
theorem nm_tail (s : ByteArray) (h : Utf.nmAll s = true) : Utf.nmOk s = (decide (1 ≤ s.size) && decide (s.size ≤ 12)) := by unfold Utf.nmOk; rw [h]; rfl
theorem nm_no (s : ByteArray) (h : Utf.nmAll s = false) : Utf.nmOk s = false := by unfold Utf.nmOk; rw [h]; rfl
set_option maxHeartbeats 2000000 in
theorem refname_val (s : ByteArray) (w : World) (hs : s.size ≤ 9223372036854775807) :
    Calls Tryd.prog 18 #[.string s] w (RetBool (Utf.nmOk s) w) := by
  go_enter Tryd.func18, Tryd.ntmps18
  go_wp2
  go_loopw [3] (fun i w' => NmR s w i w') (fun i _ => s.size - (intOf i).toNat)
  case atStart => exact ⟨0, s.size, rfl, rfl, by omega, by omega, rfl⟩
  case round =>
    obtain ⟨pos, b, rfl, rfl, hb, hl, hc⟩ := hrel
    by_cases hp : pos < s.size
    · have hg : (s[pos]'hp).toNat = Utf.byt s pos := by unfold Utf.byt; rw [show s.get! pos = s.get! (pos + 0) from rfl, get_at s pos hp]
      have hlt := Utf.byt_lt s pos
      have hiff := Utf.okCh_iff pos (Utf.byt s pos)
      have hbad := fun h => (Utf.nmFrom_bad s b pos hp hb h).symm.trans hc
      have hon := Utf.nmFrom_on s b pos hp hb
      generalize Utf.byt s pos = c at *
      by_cases hok : Utf.okCh pos c = true
      · obtain ⟨g, rfl, hg2, hgb⟩ := hon hok
        have HG := Lib.hid (hg2.symm.trans hc)
        have hk := hiff.1 hok
        clear hg2 hc hbad hon hok hiff
        rcases hk with ⟨k1, k2⟩ | ⟨k0, rfl | ⟨k1, k2⟩⟩
        · go_wp2
          exact ⟨⟨pos + 1, g, rfl, rfl, hgb, by omega, HG.out⟩, by simp [intOf]; omega⟩
        · have q0 : ((pos : Int) == 0) = false := by rw [beq_eq_false_iff_ne]; omega
          go_wp2
          exact ⟨⟨pos + 1, g, rfl, rfl, hgb, by omega, HG.out⟩, by simp [intOf]; omega⟩
        · have q0 : ((pos : Int) == 0) = false := by rw [beq_eq_false_iff_ne]; omega
          have q1 : ((c : Int) != 95) = true := by rw [bne_iff_ne]; omega
          go_wp2
          exact ⟨⟨pos + 1, g, rfl, rfl, hgb, by omega, HG.out⟩, by simp [intOf]; omega⟩
      · have HN := Lib.hid (nm_no s (hbad (by simpa using hok)).symm)
        have hk : ¬ _ := fun h => hok (hiff.2 h)
        clear hbad hon hok hiff hc
        by_cases k0 : pos = 0
        · subst k0
          have k1 : c < 97 ∨ 122 < c := by omega
          clear hk
          rcases k1 with k1 | k1
          all_goals
            go_wp2
            all_goals first | (exfalso; omega) | (go_ret; exact ⟨by rw [HN.out]; rfl, Below.refl _ _⟩) | (exfalso; rename_i hz; simp at hz; omega)
        · have k1 : c < 48 ∨ (57 < c ∧ c < 95) ∨ (95 < c ∧ c < 97) ∨ 122 < c := by omega
          have q0 : ((pos : Int) == 0) = false := by rw [beq_eq_false_iff_ne]; omega
          have q1 : ((c : Int) != 95) = true := by rw [bne_iff_ne]; omega
          clear hk
          rcases k1 with k1 | ⟨k1, k2⟩ | ⟨k1, k2⟩ | k1
          all_goals
            go_wp2
            all_goals first | (exfalso; omega) | (go_ret; exact ⟨by rw [HN.out]; rfl, Below.refl _ _⟩) | (exfalso; rename_i hz; simp at hz; omega)
    · have hall : Utf.nmAll s = true := by rw [← hc]; exact Utf.nmFrom_end s b pos hp
      have HT := Lib.hid (nm_tail s hall)
      obtain rfl : pos = s.size := by omega
      clear hc hall
      by_cases z1 : 1 ≤ s.size
      · by_cases z2 : s.size ≤ 12
        · go_wp2
          go_ret
          exact ⟨by rw [HT.out]; simp [z1, z2]; try omega, Below.refl _ _⟩
        · go_wp2
          go_ret
          exact ⟨by rw [HT.out]; simp [z1, z2]; try omega, Below.refl _ _⟩
      · go_wp2
        go_ret
        exact ⟨by rw [HT.out]; simp [z1], Below.refl _ _⟩
end Go.Proofs.YtcjidlgmbjebjaaDoor

namespace Go.Proofs.YtcjidlgmbjebjaaDoor
open Go Go.RowKit
def RightR (s : ByteArray) (w w' : World) : Prop := ∃ pos b : Nat, w' = w.iter s pos ∧ s.size ≤ pos + b ∧ Utf.okFrom s b pos = Utf.ok s
theorem below_iter (w : World) (s : ByteArray) (p : Nat) : Below w.heap.size w (w.iter s p) := (Below.refl w.heap.size w).alloc (Nat.le_refl _) _
set_option maxHeartbeats 1000000 in
theorem right_val (s : ByteArray) (w : World) (hs : s.size ≤ 9223372036854775807) :
    Calls Tryd.prog 249 #[.string s] w (RetBool (Utf.ok s) w) := by
  go_enter Tryd.func249, Tryd.ntmps249
  go_wp2
  go_loopw [] (fun w' => RightR s w w') (fun w' => s.size - w'.iterPos w.heap.size)
  case atStart => exact ⟨0, s.size, rfl, by omega, rfl⟩
  case round =>
    obtain ⟨pos, b, rfl, hb, hc⟩ := hrel
    by_cases hp : pos < s.size
    · have hstep := Utf.step_eq s pos
      have hP0 := isP_eq s pos (by omega)
      have hnx : ∀ ty, (Instr.next (.pointer (some ⟨w.heap.size, 0, none⟩)) true ty).run Tryd.prog (w.iter s pos) = _ := fun ty => run_next_any w s pos ty hp
      by_cases hr : (Utf8.decode s pos).1 = 65533
      · have hr1 : (((Utf8.decode s pos).1 : Int) == 65533) = true := by simp [hr]
        cases hf : Utf.fffd s pos with
        | true =>
          have hok : Utf.okStep s pos = true := by rw [hstep.1]; unfold Utf.bad; rw [hf]; simp
          obtain ⟨g, rfl, hg, hgb⟩ := Utf.okFrom_on s b pos hp hb hok
          have hw := hstep.2 hok
          have H1 := Lib.hid hc; clear hc
          have H2 := Lib.hid hg; clear hg
          have H3 := Lib.hid hw; clear hw
          rw [hf] at hP0
          clear hstep hok hf hr
          go_wp2_with (first | (go_at_call 144; refine (pfx144 _ _).mono ?_; rintro e w' ⟨rfl, rfl⟩))
          go_roundw
          case rel => exact ⟨pos + (Utf8.decode s pos).2, g, rfl, by rw [H3.out]; omega, by rw [H3.out, ← H2.out]; exact H1.out⟩
          case measure =>
            have := H3.out
            simp
            omega
        | false =>
          have hok : Utf.okStep s pos = false := by rw [hstep.1]; unfold Utf.bad; rw [hf, hr]; rfl
          have hno : Utf.ok s = false := by rw [← hc]; exact Utf.okFrom_bad s b pos hp hb hok
          have HN := Lib.hid hno; clear hno
          rw [hf] at hP0
          clear hstep hok hf hr hc
          go_wp2_with (first | (go_at_call 144; refine (pfx144 _ _).mono ?_; rintro e w' ⟨rfl, rfl⟩))
          go_ret
          exact ⟨by rw [HN.out]; rfl, below_iter w s _⟩
      · have hr1 : (((Utf8.decode s pos).1 : Int) == 65533) = false := by
          rw [beq_eq_false_iff_ne]; omega
        have hok : Utf.okStep s pos = true := by
          rw [hstep.1]; unfold Utf.bad
          have : ((Utf8.decode s pos).1 == 65533) = false := by rw [beq_eq_false_iff_ne]; exact hr
          rw [this]; rfl
        obtain ⟨g, rfl, hg, hgb⟩ := Utf.okFrom_on s b pos hp hb hok
        have hw := hstep.2 hok
        have H1 := Lib.hid hc; clear hc
        have H2 := Lib.hid hg; clear hg
        have H3 := Lib.hid hw; clear hw
        clear hstep hok hr hP0
        go_wp2_with (first | (go_at_call 144; refine (pfx144 _ _).mono ?_; rintro e w' ⟨rfl, rfl⟩))
        go_roundw
        case rel => exact ⟨pos + (Utf8.decode s pos).2, g, rfl, by rw [H3.out]; omega, by rw [H3.out, ← H2.out]; exact H1.out⟩
        case measure =>
          have := H3.out
          simp
          omega
    · have hnx : ∀ ty, (Instr.next (.pointer (some ⟨w.heap.size, 0, none⟩)) true ty).run Tryd.prog (w.iter s pos) = _ := fun ty => run_next_end w s pos ty hp
      have hok : Utf.ok s = true := by rw [← hc]; exact Utf.okFrom_end s b pos hp
      clear hc
      go_wp2
      go_ret
      exact ⟨by first | rfl | (rw [hok]; rfl), below_iter w s pos⟩
end Go.Proofs.YtcjidlgmbjebjaaDoor

namespace Go.Proofs.YtcjidlgmbjebjaaDoor
open Go Go.RowKit
theorem str_empty (s : ByteArray) : s.toList.isEmpty = !decide (1 ≤ s.size) := by
  rw [ByteArray.toList_eq, ← ByteArray.size_data]
  cases h : s.data.toList with
  | nil => have : s.data.size = 0 := by rw [← Array.length_toList, h]; rfl
           rw [this]; rfl
  | cons a l => have : s.data.size = l.length + 1 := by rw [← Array.length_toList, h]; rfl
                rw [this]; simp
def NmI (s : ByteArray) (w w' : World) : Prop := ∃ pos b : Nat, w' = w.iter s pos ∧ s.size ≤ pos + b ∧ pos ≤ s.size ∧ Utf.nmFrom s b pos = Utf.nmAll s
set_option maxHeartbeats 2000000 in
theorem name_val (s : ByteArray) (w : World) (hs : s.size ≤ 9223372036854775807) :
    Calls Tryd.prog 17 #[.string s] w (RetBool (Utf.nmOk s) w) := by
  go_enter Tryd.func17, Tryd.ntmps17
  go_wp2
  go_loopw [] (fun w' => NmI s w w') (fun w' => s.size - w'.iterPos w.heap.size)
  case atStart => exact ⟨0, s.size, rfl, by omega, by omega, rfl⟩
  case round =>
    obtain ⟨pos, b, rfl, hb, hl, hc⟩ := hrel
    by_cases hp : pos < s.size
    · have hnx : ∀ ty, (Instr.next (.pointer (some ⟨w.heap.size, 0, none⟩)) true ty).run Tryd.prog (w.iter s pos) = _ := fun ty => run_next_any w s pos ty hp
      have hiff := Utf.okCh_iff pos (Utf.byt s pos)
      have hbad := fun h => (Utf.nmFrom_bad s b pos hp hb h).symm.trans hc
      have hon := Utf.nmFrom_on s b pos hp hb
      by_cases h7 : Utf.byt s pos < 128
      · have hd := Utf.decode_ascii s pos h7
        rw [hd] at hnx
        generalize Utf.byt s pos = c at *
        by_cases hok : Utf.okCh pos c = true
        · obtain ⟨g, rfl, hg2, hgb⟩ := hon hok
          have HG := Lib.hid (hg2.symm.trans hc)
          have hk := hiff.1 hok
          clear hg2 hc hbad hon hok hiff hd
          rcases hk with ⟨k1, k2⟩ | ⟨k0, rfl | ⟨k1, k2⟩⟩
          · go_wp2
            go_roundw
            case rel => exact ⟨pos + 1, g, rfl, hgb, by omega, HG.out⟩
            case measure => simp; omega
          · go_wp2
            go_roundw
            case rel => exact ⟨pos + 1, g, rfl, hgb, by omega, HG.out⟩
            case measure => simp; omega
          · have q1 : ((c : Int) == 95) = false := by rw [beq_eq_false_iff_ne]; omega
            go_wp2
            go_roundw
            case rel => exact ⟨pos + 1, g, rfl, hgb, by omega, HG.out⟩
            case measure => simp; omega
        · have HN := Lib.hid (nm_no s (hbad (by simpa using hok)).symm)
          have hk : ¬ _ := fun h => hok (hiff.2 h)
          clear hbad hon hok hiff hc hd
          by_cases k0 : pos = 0
          · subst k0
            have k1 : c < 97 ∨ 122 < c := by omega
            clear hk
            rcases k1 with k1 | k1
            all_goals
              go_wp2
              all_goals first | (exfalso; omega) | (go_ret; exact ⟨by rw [HN.out]; rfl, below_iter w s _⟩) | (exfalso; rename_i hz; simp at hz; omega)
          · have k1 : c < 48 ∨ (57 < c ∧ c < 95) ∨ (95 < c ∧ c < 97) ∨ 122 < c := by omega
            have q1 : ((c : Int) == 95) = false := by rw [beq_eq_false_iff_ne]; omega
            have kp : 0 < pos := by omega
            clear hk
            rcases k1 with k1 | ⟨k1, k2⟩ | ⟨k1, k2⟩ | k1
            all_goals
              go_wp2
              all_goals first | (exfalso; omega) | (go_ret; exact ⟨by rw [HN.out]; rfl, below_iter w s _⟩) | (exfalso; rename_i hz; simp at hz; omega)
      · have hd := Utf.decode_high s pos h7
        have hok : Utf.okCh pos (Utf.byt s pos) = false := by
          cases h : Utf.okCh pos (Utf.byt s pos) with
          | false => rfl
          | true => have := hiff.1 h; omega
        have HN := Lib.hid (nm_no s (hbad hok).symm)
        have q1 : (((Utf8.decode s pos).1 : Int) == 95) = false := by rw [beq_eq_false_iff_ne]; omega
        clear hbad hon hok hiff hc
        by_cases k0 : pos = 0
        · subst k0
          go_wp2
          all_goals first | (exfalso; omega) | (go_ret; exact ⟨by rw [HN.out]; rfl, below_iter w s _⟩) | (exfalso; rename_i hz; simp at hz; omega)
        · have kp : 0 < pos := by omega
          go_wp2
          all_goals first | (exfalso; omega) | (go_ret; exact ⟨by rw [HN.out]; rfl, below_iter w s _⟩) | (exfalso; rename_i hz; simp at hz; omega)
    · have hnx : ∀ ty, (Instr.next (.pointer (some ⟨w.heap.size, 0, none⟩)) true ty).run Tryd.prog (w.iter s pos) = _ := fun ty => run_next_end w s pos ty hp
      have hall : Utf.nmAll s = true := by rw [← hc]; exact Utf.nmFrom_end s b pos hp
      have HT := Lib.hid (nm_tail s hall)
      obtain rfl : pos = s.size := by omega
      clear hc hall
      by_cases z1 : 1 ≤ s.size
      · have hs2 : s.toList.isEmpty = false := by rw [str_empty, decide_eq_true z1]; rfl
        have hs3 : ¬ s.toList = [] := by intro h; rw [h] at hs2; exact absurd hs2 (by simp)
        by_cases z2 : s.size ≤ 12
        · go_wp2
          all_goals first | (exfalso; omega) | (go_ret; exact ⟨by rw [HT.out]; simp [z1, z2, hs2, hs3]; try omega, below_iter w s _⟩)
        · go_wp2
          all_goals first | (exfalso; omega) | (go_ret; exact ⟨by rw [HT.out]; simp [z1, z2, hs2, hs3]; try omega, below_iter w s _⟩)
      · have hs2 : s.toList.isEmpty = true := by rw [str_empty, decide_eq_false z1]; rfl
        go_wp2
        all_goals first | (exfalso; omega) | (go_ret; exact ⟨by rw [HT.out]; simp [z1, hs2]; try omega, below_iter w s _⟩)
end Go.Proofs.YtcjidlgmbjebjaaDoor

namespace Go.Proofs.YtcjidlgmbjebjaaDoor
open Go Go.RowKit
def Same1 (v : Value) (w : World) (e : Ending) (w' : World) : Prop := e = .returned v ∧ w' = w
def numS (n : Int) : ByteArray := ⟨(Lib.itoa n).toArray⟩
def DigIH (n : Int) : Prop := ∀ m : Int, m.natAbs < n.natAbs ∨ (0 ≤ m ∧ m < 10) → ∀ w, Calls Tryd.prog 57 #[.int .i64 m] w (Same1 (.string (numS m)) w)
theorem small_str (k : Fin 10) : (ByteArray.mk #[48, 49, 50, 51, 52, 53, 54, 55, 56, 57]).extract k.val (k.val + 1) = ⟨#[UInt8.ofNat (48 + k.val)]⟩ := by
  revert k; decide
theorem dec_cat (a b : ByteArray) (l1 l2 : List UInt8) (ha : a = ⟨l1.toArray⟩) (hb : b = ⟨l2.toArray⟩) : a ++ b = ⟨(l1 ++ l2).toArray⟩ := by
  subst ha hb
  apply ByteArray.ext
  show (ByteArray.append _ _).data = _
  simp
theorem numS_pos (n : Int) (b : 10 ≤ n) : numS (n / 10) ++ numS (n % 10) = numS n := by
  unfold numS Lib.itoa
  rw [if_neg (by omega), if_neg (by omega), if_neg (by omega), dec_cat _ _ _ _ rfl rfl]
  congr 2
  have h3 := Lib.decDigits.eq_def n.toNat
  rw [dif_neg (by omega)] at h3
  have h4 := Lib.decDigits.eq_def (n % 10).toNat
  rw [dif_pos (by omega)] at h4
  rw [h3, h4, show (n / 10).toNat = n.toNat / 10 by omega, show (n % 10).toNat = n.toNat % 10 by omega]
theorem numS_small (n : Int) (a : 0 ≤ n) (b : n < 10) : (ByteArray.mk #[48, 49, 50, 51, 52, 53, 54, 55, 56, 57]).extract n.toNat (n + 1).toNat = numS n := by
  obtain ⟨k, rfl⟩ : ∃ k : Fin 10, n = (k.val : Int) := ⟨⟨n.toNat, by omega⟩, by simp; omega⟩
  have := small_str k
  rw [show ((k.val : Int) + 1).toNat = k.val + 1 by omega, Int.toNat_natCast, this]
  unfold numS Lib.itoa
  rw [if_neg (by omega), Int.toNat_natCast, Lib.decDigits, dif_pos k.isLt]
set_option maxHeartbeats 1000000 in
theorem dig_small (n : Int) (a : 0 ≤ n) (b : n < 10) (w : World) :
    Calls Tryd.prog 57 #[.int .i64 n] w (Same1 (.string (numS n)) w) := by
  have hs := Lib.hid (numS_small n a b)
  go_enter Tryd.func57, Tryd.ntmps57
  go_wp2
  go_ret
  refine ⟨?_, rfl⟩
  exact congrArg (fun b => Ending.returned (Value.string b)) hs.out
theorem numS_size (n : Int) (h0 : -9223372036854775808 ≤ n) (h1 : n ≤ 9223372036854775807) : (numS n).size ≤ 21 := by
  have := Lib.itoa_length_le n h0 h1
  show ((Lib.itoa n).toArray).size ≤ 21
  simpa using this
theorem numS_neg1 (n : Int) (b : n < 0) (c : -10 < n) : (ByteArray.mk #[45]) ++ numS (-n) = numS n := by
  unfold numS
  rw [dec_cat _ _ [45] _ rfl rfl]
  unfold Lib.itoa
  rw [if_neg (by omega), if_pos b, show (-n).toNat = n.natAbs by omega]
  rfl
theorem numS_neg (n : Int) (b : n ≤ -10) : numS (-(-n / 10)) ++ numS ((-n % 10)) = numS n := by
  unfold numS Lib.itoa
  rw [if_pos (by omega), if_neg (by omega), if_pos (by omega), dec_cat _ _ _ _ rfl rfl, List.cons_append]
  congr 3
  have h3 := Lib.decDigits.eq_def n.natAbs
  rw [dif_neg (by omega)] at h3
  have h4 := Lib.decDigits.eq_def ((-n % 10)).toNat
  rw [dif_pos (by omega)] at h4
  rw [h3, h4, show (-(-n / 10)).natAbs = n.natAbs / 10 by omega, show ((-n % 10)).toNat = n.natAbs % 10 by omega]
set_option maxHeartbeats 1000000 in
theorem dig_pos (n : Int) (b : 10 ≤ n) (h1 : n ≤ 9223372036854775807) (ih : DigIH n) (w : World) :
    Calls Tryd.prog 57 #[.int .i64 n] w (Same1 (.string (numS n)) w) := by
  have hs := Lib.hid (numS_pos n b)
  have z1 := numS_size (n / 10) (by omega) (by omega)
  have z2 := numS_size (n % 10) (by omega) (by omega)
  go_enter Tryd.func57, Tryd.ntmps57
  go_wp2_with (first | (go_at_call 57; refine (ih _ ?_ _).mono ?_; (· omega); rintro e w' ⟨rfl, rfl⟩))
  go_ret
  refine ⟨?_, rfl⟩
  exact congrArg (fun b => Ending.returned (Value.string b)) hs.out
set_option maxHeartbeats 1000000 in
theorem dig_neg (n : Int) (b : n < 0) (h1 : -9223372036854775808 ≤ n) (ih : DigIH n) (w : World) :
    Calls Tryd.prog 57 #[.int .i64 n] w (Same1 (.string (numS n)) w) := by
  have hq : n.tdiv 10 = -((-n) / 10) := by
    have := Int.neg_tdiv (-n) 10
    rw [Int.neg_neg] at this
    rw [this, Int.tdiv_eq_ediv_of_nonneg (a := -n) (by omega)]
  have hm : n.tmod 10 = -((-n) % 10) := by
    have := Int.neg_tmod (-n) 10
    rw [Int.neg_neg] at this
    rw [this, Int.tmod_eq_emod_of_nonneg (a := -n) (by omega)]
  by_cases c : -10 < n
  · have hs := Lib.hid (numS_neg1 n b c)
    have z1 := numS_size (-n) (by omega) (by omega)
    clear hq hm
    go_enter Tryd.func57, Tryd.ntmps57
    go_wp2_with (first | (go_at_call 57; refine (ih _ ?_ _).mono ?_; (· omega); rintro e w' ⟨rfl, rfl⟩))
    go_ret
    refine ⟨?_, rfl⟩
    exact congrArg (fun b => Ending.returned (Value.string b)) hs.out
  · have hs := Lib.hid (numS_neg n (by omega))
    have z1 := numS_size (-(-n / 10)) (by omega) (by omega)
    have z2 := numS_size ((-n % 10)) (by omega) (by omega)
    go_enter Tryd.func57, Tryd.ntmps57
    go_wp2_with (first | (go_at_call 57; refine (ih _ ?_ _).mono ?_; (· omega); rintro e w' ⟨rfl, rfl⟩))
    go_ret
    refine ⟨?_, rfl⟩
    exact congrArg (fun b => Ending.returned (Value.string b)) hs.out
theorem digits_val : ∀ (k : Nat) (n : Int) (hk : n.natAbs ≤ k) (h0 : -9223372036854775808 ≤ n) (h1 : n ≤ 9223372036854775807) (w : World),
    Calls Tryd.prog 57 #[.int .i64 n] w (Same1 (.string (numS n)) w)
  | 0, n, hk, h0, h1, w => dig_small n (by omega) (by omega) w
  | k + 1, n, hk, h0, h1, w => by
    have ih : DigIH n := by
      intro m hm w
      by_cases s : 0 ≤ m ∧ m < 10
      · exact dig_small m s.1 s.2 w
      · exact digits_val k m (by omega) (by omega) (by omega) w
    by_cases a : n < 0
    · exact dig_neg n a h0 ih w
    · by_cases b : n < 10
      · exact dig_small n (by omega) b w
      · exact dig_pos n (by omega) h1 ih w
end Go.Proofs.YtcjidlgmbjebjaaDoor

namespace Go.Proofs.YtcjidlgmbjebjaaDoor
open Go Go.RowKit
def TypesAt (w : World) : Prop := w.cell? ⟨0, 0, none⟩ = some (.string ⟨#[]⟩) ∧ w.cell? ⟨0, 1, none⟩ = some (.string ⟨#[105, 110, 116]⟩) ∧ w.cell? ⟨0, 2, none⟩ = some (.string ⟨#[116, 101, 120, 116]⟩) ∧ w.cell? ⟨0, 3, none⟩ = some (.string ⟨#[102, 108, 97, 103]⟩)
def typeOf (l : List UInt8) : Int := if l = [105, 110, 116] then 1 else if l = [116, 101, 120, 116] then 2 else if l = [102, 108, 97, 103] then 3 else 0
def IxR (t : Nat) (w : World) (n : Value) (w' : World) : Prop := ∃ i : Nat, i ≤ t ∧ n = .int .i64 i ∧ w' = w
theorem beq_no {l m : List UInt8} (h : ¬ l = m) : (l == m) = false := by rw [beq_eq_false_iff_ne]; exact h
theorem beq_yes {l m : List UInt8} (h : l = m) : (l == m) = true := by rw [beq_iff_eq]; exact h
set_option maxHeartbeats 1000000 in
theorem index_0 (s : ByteArray) (w : World) (ht : TypesAt w) (h0 : (s.toList == [105, 110, 116]) = true) :
    Calls Tryd.prog 49 #[.slice (some ⟨0, 1, none⟩) 3 3, .string s] w (Same1 (.int .i64 0) w) := by
  obtain ⟨c0, c1, c2, c3⟩ := ht
  go_enter Tryd.func49, Tryd.ntmps49
  go_wp2
  go_loopw [8] (fun n w' => IxR 0 w n w') (fun n _ => 3 - (intOf n).toNat)
  case atStart => exact ⟨0, by omega, rfl, rfl⟩
  case round =>
    obtain ⟨i, hi, rfl, rfl⟩ := hrel
    obtain rfl : i = 0 := by omega
    · go_wp2
      go_ret
      exact ⟨rfl, rfl⟩
set_option maxHeartbeats 1000000 in
theorem index_1 (s : ByteArray) (w : World) (ht : TypesAt w) (h0 : (s.toList == [105, 110, 116]) = false) (h1 : (s.toList == [116, 101, 120, 116]) = true) :
    Calls Tryd.prog 49 #[.slice (some ⟨0, 1, none⟩) 3 3, .string s] w (Same1 (.int .i64 1) w) := by
  obtain ⟨c0, c1, c2, c3⟩ := ht
  go_enter Tryd.func49, Tryd.ntmps49
  go_wp2
  go_loopw [8] (fun n w' => IxR 1 w n w') (fun n _ => 3 - (intOf n).toNat)
  case atStart => exact ⟨0, by omega, rfl, rfl⟩
  case round =>
    obtain ⟨i, hi, rfl, rfl⟩ := hrel
    have hi4 : i = 0 ∨ i = 1 := by omega
    rcases hi4 with rfl | rfl
    · go_wp2
      exact ⟨⟨1, by omega, rfl, rfl⟩, by simp [intOf]⟩
    · go_wp2
      go_ret
      exact ⟨rfl, rfl⟩
set_option maxHeartbeats 1000000 in
theorem index_2 (s : ByteArray) (w : World) (ht : TypesAt w) (h0 : (s.toList == [105, 110, 116]) = false) (h1 : (s.toList == [116, 101, 120, 116]) = false) (h2 : (s.toList == [102, 108, 97, 103]) = true) :
    Calls Tryd.prog 49 #[.slice (some ⟨0, 1, none⟩) 3 3, .string s] w (Same1 (.int .i64 2) w) := by
  obtain ⟨c0, c1, c2, c3⟩ := ht
  go_enter Tryd.func49, Tryd.ntmps49
  go_wp2
  go_loopw [8] (fun n w' => IxR 2 w n w') (fun n _ => 3 - (intOf n).toNat)
  case atStart => exact ⟨0, by omega, rfl, rfl⟩
  case round =>
    obtain ⟨i, hi, rfl, rfl⟩ := hrel
    have hi4 : i = 0 ∨ i = 1 ∨ i = 2 := by omega
    rcases hi4 with rfl | rfl | rfl
    · go_wp2
      exact ⟨⟨1, by omega, rfl, rfl⟩, by simp [intOf]⟩
    · go_wp2
      exact ⟨⟨2, by omega, rfl, rfl⟩, by simp [intOf]⟩
    · go_wp2
      go_ret
      exact ⟨rfl, rfl⟩
set_option maxHeartbeats 1000000 in
theorem index_3 (s : ByteArray) (w : World) (ht : TypesAt w) (h0 : (s.toList == [105, 110, 116]) = false) (h1 : (s.toList == [116, 101, 120, 116]) = false) (h2 : (s.toList == [102, 108, 97, 103]) = false) :
    Calls Tryd.prog 49 #[.slice (some ⟨0, 1, none⟩) 3 3, .string s] w (Same1 (.int .i64 (-1)) w) := by
  obtain ⟨c0, c1, c2, c3⟩ := ht
  go_enter Tryd.func49, Tryd.ntmps49
  go_wp2
  go_loopw [8] (fun n w' => IxR 3 w n w') (fun n _ => 3 - (intOf n).toNat)
  case atStart => exact ⟨0, by omega, rfl, rfl⟩
  case round =>
    obtain ⟨i, hi, rfl, rfl⟩ := hrel
    have hi4 : i = 0 ∨ i = 1 ∨ i = 2 ∨ i = 3 := by omega
    rcases hi4 with rfl | rfl | rfl | rfl
    · go_wp2
      exact ⟨⟨1, by omega, rfl, rfl⟩, by simp [intOf]⟩
    · go_wp2
      exact ⟨⟨2, by omega, rfl, rfl⟩, by simp [intOf]⟩
    · go_wp2
      exact ⟨⟨3, by omega, rfl, rfl⟩, by simp [intOf]⟩
    · go_wp2
      go_ret
      exact ⟨rfl, rfl⟩
set_option maxHeartbeats 1000000 in
theorem type_val (s : ByteArray) (w : World) (ht : TypesAt w) : Calls Tryd.prog 13 #[.string s] w (Same1 (.tuple #[.int .i64 (typeOf s.toList), .bool (decide (0 < typeOf s.toList))]) w) := by
  by_cases h0 : s.toList = [105, 110, 116]
  · have e : typeOf s.toList = 1 := by unfold typeOf; simp [h0]
    rw [e]
    have HI := Lib.hid (index_0 s w ht (beq_yes h0))
    clear e
    go_enter Tryd.func13, Tryd.ntmps13
    go_wp2_with fail
    refine HI.out.mono ?_
    rintro e w' ⟨rfl, rfl⟩
    dsimp only
    go_wp2_with fail
    go_ret2
    exact ⟨rfl, rfl⟩
  ·
    by_cases h1 : s.toList = [116, 101, 120, 116]
    · have e : typeOf s.toList = 2 := by unfold typeOf; simp [h1]
      rw [e]
      have HI := Lib.hid (index_1 s w ht (beq_no h0) (beq_yes h1))
      clear e
      go_enter Tryd.func13, Tryd.ntmps13
      go_wp2_with fail
      refine HI.out.mono ?_
      rintro e w' ⟨rfl, rfl⟩
      dsimp only
      go_wp2_with fail
      go_ret2
      exact ⟨rfl, rfl⟩
    ·
      by_cases h2 : s.toList = [102, 108, 97, 103]
      · have e : typeOf s.toList = 3 := by unfold typeOf; simp [h2]
        rw [e]
        have HI := Lib.hid (index_2 s w ht (beq_no h0) (beq_no h1) (beq_yes h2))
        clear e
        go_enter Tryd.func13, Tryd.ntmps13
        go_wp2_with fail
        refine HI.out.mono ?_
        rintro e w' ⟨rfl, rfl⟩
        dsimp only
        go_wp2_with fail
        go_ret2
        exact ⟨rfl, rfl⟩
      ·
        have e : typeOf s.toList = 0 := by unfold typeOf; simp [h0, h1, h2]
        rw [e]
        have HI := Lib.hid (index_3 s w ht (beq_no h0) (beq_no h1) (beq_no h2))
        clear e
        go_enter Tryd.func13, Tryd.ntmps13
        go_wp2_with fail
        refine HI.out.mono ?_
        rintro e w' ⟨rfl, rfl⟩
        dsimp only
        go_wp2_with fail
        go_ret2
        exact ⟨rfl, rfl⟩
end Go.Proofs.YtcjidlgmbjebjaaDoor
