/- A part of the proof of ValueReads. -/
import Derived.Test.YtcjidlgmbjebjaaGreatDoorVri
set_option linter.unusedVariables false
set_option linter.unusedSimpArgs false
set_option maxRecDepth 100000
namespace Go.Proofs.YtcjidlgmbjebjaaGreatDoor.PValueForms
open Go.RowKit Go.Proofs.YtcjidlgmbjebjaaGreatDoorW.PrintWords Go.Proofs.YtcjidlgmbjebjaaGreatDoorW.PrintLast Go.Proofs.YtcjidlgmbjebjaaGreatDoorW.PrintMore
attribute [local go_sem] max2_int min2_int max_two min_two max_three min_three max_four min_four
def hachureref02_Size.l0 : Nat → Int → Int → Option (Int)
  | 0, _, _ => none
  | k + 1, x0, x3 => if x3 < 9 then (if x3 < 8 then (if 0 ≤ (IntKind.u64.wrap (wrap64 (7 * x3))) then (if (shr .u64 x0 (IntKind.u64.wrap (wrap64 (7 * x3)))) > 0 then (hachureref02_Size.l0 k x0 (wrap64 (x3 + 1))) else (if x3 = 8 then (if (x0 / 72057594037927936) > 0 then (hachureref02_Size.l0 k x0 (wrap64 (x3 + 1))) else (some x3)) else (some x3))) else (none)) else (if x3 = 8 then (if (x0 / 72057594037927936) > 0 then (hachureref02_Size.l0 k x0 (wrap64 (x3 + 1))) else (some x3)) else (some x3))) else (some x3)
def hachureref02_Size.f (k : Nat) (a0 : Int) : Option (Int) := hachureref02_Size.l0 k a0 1
theorem hachureref02_Size.mono_l : ∀ k, (∀ y0 y1, LeO (hachureref02_Size.l0 k y0 y1) (hachureref02_Size.l0 (k + 1) y0 y1))
  | 0 => fun _ _ r h => by simp [hachureref02_Size.l0] at h
  | k + 1 => by
    have ih0 := hachureref02_Size.mono_l k
    · intro y0 y1
      unfold hachureref02_Size.l0
      repeat' first
      | (with_reducible exact ih0 _ _)
      | (with_reducible exact LeO.refl _)
      | (with_reducible exact LeO.none _)
      | (with_reducible refine LeO.ite ?_ ?_)
      | (with_reducible refine LeO.bind ?_ (fun _ => ?_))
      | exact ih0 _ _
      | exact LeO.none _
      | refine LeO.ite ?_ ?_
      | refine LeO.bind ?_ (fun _ => ?_)
theorem hachureref02_Size.mono : ∀ a0 k, LeO (hachureref02_Size.f k a0) (hachureref02_Size.f (k + 1) a0) := by
  intro a0 k
  have ih0 := hachureref02_Size.mono_l k
  unfold hachureref02_Size.f
  repeat' first
      | (with_reducible exact ih0 _ _)
      | (with_reducible exact LeO.refl _)
      | (with_reducible exact LeO.none _)
      | (with_reducible refine LeO.ite ?_ ?_)
      | (with_reducible refine LeO.bind ?_ (fun _ => ?_))
      | exact ih0 _ _
      | exact LeO.none _
      | refine LeO.ite ?_ ?_
      | refine LeO.bind ?_ (fun _ => ?_)
set_option maxHeartbeats 8000000 in
set_option maxRecDepth 100000 in
theorem hachureref02_Size.calls (k : Nat) (a0 : Int) (r : Int) (w : World) (h : hachureref02_Size.f k a0 = some r) :
    Calls Tryz.prog 150 #[.int .u64 a0] w fun e w' => e = .returned (.int .i64 r) ∧ Drawn0 w w' := by
  have H : (hachureref02_Size.l0 k a0 1) = some r := h
  clear h
  have H' := Aside0.mk H
  clear H
  go_enter Tryz.func150, Tryz.ntmps150
  go_wp2
  go_loopg [3] k (fun kq v3 w' => ∃ (x3_1 : Int), v3 = .int .i64 x3_1 ∧ Aside0 (hachureref02_Size.l0 kq a0 x3_1 = some r) ∧ Aside0 (kq ≤ k) ∧ Drawn0 w w')
  case atStart => exact ⟨(1), (by first | rfl | (simp; done) | (simp [*]; done)), H', ⟨Nat.le_refl _⟩, by repeat (first | exact Drawn0.refl _ | apply Drawn0.step)⟩
  case round =>
    clear H'
    try clear c1
    obtain ⟨x3_1, rfl, HA, HK1, ⟨m1, rfl⟩⟩ := hrel
    cases gk with
    | zero => exact absurd HA.out (by simp [hachureref02_Size.l0])
    | succ k1 =>
      have H := HA.out
      clear HA
      simp only [hachureref02_Size.l0] at H
      by_cases c2 : x3_1 < 9
      · rw [if_pos c2] at H
        have c2b0 : decide (x3_1 < 9) = true := decide_eq_true c2
        clear c2
        by_cases c3 : x3_1 < 8
        · rw [if_pos c3] at H
          have c3b0 : decide (x3_1 < 8) = true := decide_eq_true c3
          clear c3
          obtain ⟨ji4, hji4⟩ : ∃ j_ : Int, (IntKind.u64.wrap (wrap64 (7 * x3_1))) = j_ := ⟨_, rfl⟩
          replace H : (if 0 ≤ (ji4) then (if (shr .u64 a0 (ji4)) > 0 then (hachureref02_Size.l0 k1 a0 (wrap64 (x3_1 + 1))) else (if x3_1 = 8 then (if (a0 / 72057594037927936) > 0 then (hachureref02_Size.l0 k1 a0 (wrap64 (x3_1 + 1))) else (some x3_1)) else (some x3_1))) else (none)) = some r := by first | (rw [hji4] at H; exact H) | (simp only [hji4] at H ⊢; exact H)
          by_cases c5 : 0 ≤ (ji4)
          · rw [if_pos c5] at H
            have c5b0 := eq_true c5
            have c5b1 : decide (0 ≤ (ji4)) = true := decide_eq_true c5
            clear c5
            obtain ⟨ji6, hji6⟩ : ∃ j_ : Int, (shr .u64 a0 (ji4)) = j_ := ⟨_, rfl⟩
            replace H : (if (ji6) > 0 then (hachureref02_Size.l0 k1 a0 (wrap64 (x3_1 + 1))) else (if x3_1 = 8 then (if (a0 / 72057594037927936) > 0 then (hachureref02_Size.l0 k1 a0 (wrap64 (x3_1 + 1))) else (some x3_1)) else (some x3_1))) = some r := by first | (rw [hji6] at H; exact H) | (simp only [hji6] at H ⊢; exact H)
            have hji6_ : (a0 / 2 ^ min (ji4).toNat 64) = ji6 := hji6
            have hji6z : (ji4) ≤ 64 → (a0 / 2 ^ (ji4).toNat) = ji6 := shr_small hji6
            by_cases c7 : (ji6) > 0
            · rw [if_pos c7] at H
              have c7b0 : decide (0 < (ji6)) = true := decide_eq_true c7
              clear c7
              have H' := Aside0.mk H
              clear H
              go_wp2
              go_roundg k1
              case measure => have := HK1.out; omega
              case rel => exact ⟨(wrap64 (x3_1 + 1)), (by first | rfl | (simp; done) | (simp [*]; done)), H', ⟨by have := HK1.out; omega⟩, by repeat (first | exact Drawn0.refl _ | apply Drawn0.step)⟩
            · rw [if_neg c7] at H
              have c7b0 : decide (0 < (ji6)) = false := decide_eq_false c7
              clear c7
              by_cases c8 : x3_1 = 8
              · rw [if_pos c8] at H
                have c8b0 : (x3_1 == 8) = true := beq_iff_eq.mpr c8
                have c8b1 : (x3_1 != 8) = false := bne_eq_false_iff_eq.mpr c8
                clear c8
                by_cases c9 : (a0 / 72057594037927936) > 0
                · rw [if_pos c9] at H
                  have c9b0 : decide (0 < (a0 / 72057594037927936)) = true := decide_eq_true c9
                  clear c9
                  have H' := Aside0.mk H
                  clear H
                  go_wp2
                  go_roundg k1
                  case measure => have := HK1.out; omega
                  case rel => exact ⟨(wrap64 (x3_1 + 1)), (by first | rfl | (simp; done) | (simp [*]; done)), H', ⟨by have := HK1.out; omega⟩, by repeat (first | exact Drawn0.refl _ | apply Drawn0.step)⟩
                · rw [if_neg c9] at H
                  have c9b0 : decide (0 < (a0 / 72057594037927936)) = false := decide_eq_false c9
                  clear c9
                  obtain rfl := Option.some.inj H
                  go_wp2
                  go_ret
                  exact ⟨by first | rfl | (simp; done) | (simp only [← hji4, ← hji6] <;> (first | rfl | simp)) | (simp [*]; done), by repeat (first | exact Drawn0.refl _ | apply Drawn0.step)⟩
              · rw [if_neg c8] at H
                have c8b0 : (x3_1 == 8) = false := beq_eq_false_iff_ne.mpr c8
                have c8b1 : (x3_1 != 8) = true := bne_iff_ne.mpr c8
                obtain rfl := Option.some.inj H
                go_wp2
                go_ret
                exact ⟨by first | rfl | (simp; done) | (simp only [← hji4, ← hji6] <;> (first | rfl | simp)) | (simp [*]; done), by repeat (first | exact Drawn0.refl _ | apply Drawn0.step)⟩
          · rw [if_neg c5] at H
            exact absurd H (by simp)
        · rw [if_neg c3] at H
          have c3b0 : decide (x3_1 < 8) = false := decide_eq_false c3
          clear c3
          by_cases c10 : x3_1 = 8
          · rw [if_pos c10] at H
            have c10b0 : (x3_1 == 8) = true := beq_iff_eq.mpr c10
            have c10b1 : (x3_1 != 8) = false := bne_eq_false_iff_eq.mpr c10
            clear c10
            by_cases c11 : (a0 / 72057594037927936) > 0
            · rw [if_pos c11] at H
              have c11b0 : decide (0 < (a0 / 72057594037927936)) = true := decide_eq_true c11
              clear c11
              have H' := Aside0.mk H
              clear H
              go_wp2
              go_roundg k1
              case measure => have := HK1.out; omega
              case rel => exact ⟨(wrap64 (x3_1 + 1)), (by first | rfl | (simp; done) | (simp [*]; done)), H', ⟨by have := HK1.out; omega⟩, by repeat (first | exact Drawn0.refl _ | apply Drawn0.step)⟩
            · rw [if_neg c11] at H
              have c11b0 : decide (0 < (a0 / 72057594037927936)) = false := decide_eq_false c11
              clear c11
              obtain rfl := Option.some.inj H
              go_wp2
              go_ret
              exact ⟨by first | rfl | (simp; done) | (simp [*]; done), by repeat (first | exact Drawn0.refl _ | apply Drawn0.step)⟩
          · rw [if_neg c10] at H
            have c10b0 : (x3_1 == 8) = false := beq_eq_false_iff_ne.mpr c10
            have c10b1 : (x3_1 != 8) = true := bne_iff_ne.mpr c10
            obtain rfl := Option.some.inj H
            go_wp2
            go_ret
            exact ⟨by first | rfl | (simp; done) | (simp [*]; done), by repeat (first | exact Drawn0.refl _ | apply Drawn0.step)⟩
      · rw [if_neg c2] at H
        have c2b0 : decide (x3_1 < 9) = false := decide_eq_false c2
        clear c2
        obtain rfl := Option.some.inj H
        go_wp2
        go_ret
        exact ⟨by first | rfl | (simp; done) | (simp [*]; done), by repeat (first | exact Drawn0.refl _ | apply Drawn0.step)⟩

mutual
def hachureref02_Var.l0 : Nat → Int → List Int → Int → Option (List Int)
  | 0, _, _, _ => none
  | k + 1, x1, x5, x7 => if x7 ≥ 0 then (if 0 ≤ (IntKind.u64.wrap (wrap64 (8 + (wrap64 (7 * x7))))) then (if x5.length < 140737488355328 then (hachureref02_Var.l0 k x1 (x5 ++ [Go.bits .or .u8 ((Go.bits .and .u64 (shr .u64 x1 (IntKind.u64.wrap (wrap64 (8 + (wrap64 (7 * x7)))))) 127) % 256) 128]) (wrap64 (x7 - 1))) else (none)) else (none)) else (if x5.length < 140737488355328 then (some (x5 ++ [(x1) % 256])) else (none))
def hachureref02_Var.l1 : Nat → Int → List Int → Int → Option (List Int)
  | 0, _, _, _ => none
  | k + 1, x1, x5, x8 => if x8 > 0 then (if 0 ≤ (IntKind.u64.wrap (wrap64 (7 * x8))) then (if x5.length < 140737488355328 then (hachureref02_Var.l1 k x1 (x5 ++ [Go.bits .or .u8 ((Go.bits .and .u64 (shr .u64 x1 (IntKind.u64.wrap (wrap64 (7 * x8)))) 127) % 256) 128]) (wrap64 (x8 - 1))) else (none)) else (none)) else (if x5.length < 140737488355328 then (some (x5 ++ [(Go.bits .and .u64 x1 127) % 256])) else (none))
end
def hachureref02_Var.f (k : Nat) (l0 : List Int) (a1 : Int) : Option (List Int) := (some (([] : List Int) : List Int)).bind fun y135 => (if y135.length + l0.length < 140737488355328 then ((some (y135 ++ l0 : List Int)).bind fun y138 => ((hachureref02_Size.f k a1).bind fun t141 => (if t141 = 9 then (hachureref02_Var.l0 k a1 y138 7) else (hachureref02_Var.l1 k a1 y138 (wrap64 (t141 - 1)))))) else (none))
theorem hachureref02_Var.mono_l : ∀ k, (∀ y0 y1 y2, LeO (hachureref02_Var.l0 k y0 y1 y2) (hachureref02_Var.l0 (k + 1) y0 y1 y2)) ∧ (∀ y0 y1 y2, LeO (hachureref02_Var.l1 k y0 y1 y2) (hachureref02_Var.l1 (k + 1) y0 y1 y2))
  | 0 => ⟨fun _ _ _ r h => by simp [hachureref02_Var.l0] at h, fun _ _ _ r h => by simp [hachureref02_Var.l1] at h⟩
  | k + 1 => by
    obtain ⟨ih0, ih1⟩ := hachureref02_Var.mono_l k
    refine ⟨?_, ?_⟩
    · intro y0 y1 y2
      unfold hachureref02_Var.l0
      repeat' first
      | (with_reducible exact ih0 _ _ _)
      | (with_reducible exact ih1 _ _ _)
      | (with_reducible exact hachureref02_Size.mono _ _)
      | (with_reducible exact LeO.refl _)
      | (with_reducible exact LeO.none _)
      | (with_reducible refine LeO.ite ?_ ?_)
      | (with_reducible refine LeO.bind ?_ (fun _ => ?_))
      | exact ih0 _ _ _
      | exact ih1 _ _ _
      | exact hachureref02_Size.mono _ _
      | exact LeO.none _
      | refine LeO.ite ?_ ?_
      | refine LeO.bind ?_ (fun _ => ?_)
    · intro y0 y1 y2
      unfold hachureref02_Var.l1
      repeat' first
      | (with_reducible exact ih0 _ _ _)
      | (with_reducible exact ih1 _ _ _)
      | (with_reducible exact hachureref02_Size.mono _ _)
      | (with_reducible exact LeO.refl _)
      | (with_reducible exact LeO.none _)
      | (with_reducible refine LeO.ite ?_ ?_)
      | (with_reducible refine LeO.bind ?_ (fun _ => ?_))
      | exact ih0 _ _ _
      | exact ih1 _ _ _
      | exact hachureref02_Size.mono _ _
      | exact LeO.none _
      | refine LeO.ite ?_ ?_
      | refine LeO.bind ?_ (fun _ => ?_)
theorem hachureref02_Var.mono : ∀ a0 a1 k, LeO (hachureref02_Var.f k a0 a1) (hachureref02_Var.f (k + 1) a0 a1) := by
  intro a0 a1 k
  obtain ⟨ih0, ih1⟩ := hachureref02_Var.mono_l k
  unfold hachureref02_Var.f
  repeat' first
      | (with_reducible exact ih0 _ _ _)
      | (with_reducible exact ih1 _ _ _)
      | (with_reducible exact hachureref02_Size.mono _ _)
      | (with_reducible exact LeO.refl _)
      | (with_reducible exact LeO.none _)
      | (with_reducible refine LeO.ite ?_ ?_)
      | (with_reducible refine LeO.bind ?_ (fun _ => ?_))
      | exact ih0 _ _ _
      | exact ih1 _ _ _
      | exact hachureref02_Size.mono _ _
      | exact LeO.none _
      | refine LeO.ite ?_ ?_
      | refine LeO.bind ?_ (fun _ => ?_)
end Go.Proofs.YtcjidlgmbjebjaaGreatDoor.PValueForms
