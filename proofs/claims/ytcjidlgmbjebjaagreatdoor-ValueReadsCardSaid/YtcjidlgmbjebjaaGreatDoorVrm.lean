/- A part of the proof of ValueReads. -/
import Derived.Test.YtcjidlgmbjebjaaGreatDoorVrk
import Derived.Test.YtcjidlgmbjebjaaGreatDoorVrl
import Derived.Test.YtcjidlgmbjebjaaGreatDoorVrc
import Derived.Laws.BitsLemmas
set_option linter.unusedVariables false
set_option linter.unusedSimpArgs false
set_option maxRecDepth 100000
namespace Go.Proofs.YtcjidlgmbjebjaaGreatDoor.PSchemaForms
open Go.RowKit Go.Proofs.YtcjidlgmbjebjaaGreatDoorW.PrintWords Go.Proofs.YtcjidlgmbjebjaaGreatDoorW.PrintLast Go.Proofs.YtcjidlgmbjebjaaGreatDoorW.PrintMore
attribute [local go_sem] max2_int min2_int max_two min_two max_three min_three max_four min_four
attribute [local go_sem high] eqA65
mutual
def hachureref02_Get.j0 : Nat → List Int → Int → Bool → Bool → Option (Int × Bool)
  | 0, _, _, _, _ => none
  | k + 1, x0, x1, x2, x22 => if x22 = true then (some (0, false)) else (hachureref02_Get.l0 k x0 x1 x2 0 0)
def hachureref02_Get.l0 : Nat → List Int → Int → Bool → Int → Int → Option (Int × Bool)
  | 0, _, _, _, _, _ => none
  | k + 1, x0, x1, x2, x8, x9 => if x9 < x1 then (if x2 = true then (if 0 ≤ (wrap64 ((wrap64 (x1 - 1)) - x9)) then (if (wrap64 ((wrap64 (x1 - 1)) - x9)) < (x0.length : Int) then (hachureref02_Get.l0 k x0 x1 x2 (Go.bits .or .u64 (IntKind.u64.wrap (x8 * 256)) (IntKind.u64.wrap (rd x0 (wrap64 ((wrap64 (x1 - 1)) - x9))))) (wrap64 (x9 + 1))) else (none)) else (none)) else (if 0 ≤ x9 then (if x9 < (x0.length : Int) then (hachureref02_Get.l0 k x0 x1 x2 (Go.bits .or .u64 (IntKind.u64.wrap (x8 * 256)) (IntKind.u64.wrap (rd x0 x9))) (wrap64 (x9 + 1))) else (none)) else (none))) else (some (x8, true))
end
def hachureref02_Get.f (k : Nat) (l0 : List Int) (a1 : Int) (a2 : Bool) : Option (Int × Bool) := if a1 < 1 then (hachureref02_Get.j0 k l0 a1 a2 true) else (if a1 > 8 then (hachureref02_Get.j0 k l0 a1 a2 true) else (hachureref02_Get.j0 k l0 a1 a2 (decide ((l0.length : Int) < a1))))
theorem hachureref02_Get.mono_l : ∀ k, (∀ y0 y1 y2 y3, LeO (hachureref02_Get.j0 k y0 y1 y2 y3) (hachureref02_Get.j0 (k + 1) y0 y1 y2 y3)) ∧ (∀ y0 y1 y2 y3 y4, LeO (hachureref02_Get.l0 k y0 y1 y2 y3 y4) (hachureref02_Get.l0 (k + 1) y0 y1 y2 y3 y4))
  | 0 => ⟨fun _ _ _ _ r h => by simp [hachureref02_Get.j0] at h, fun _ _ _ _ _ r h => by simp [hachureref02_Get.l0] at h⟩
  | k + 1 => by
    obtain ⟨ih0, ih1⟩ := hachureref02_Get.mono_l k
    refine ⟨?_, ?_⟩
    · intro y0 y1 y2 y3
      unfold hachureref02_Get.j0
      repeat' first
      | (with_reducible exact ih0 _ _ _ _)
      | (with_reducible exact ih1 _ _ _ _ _)
      | (with_reducible exact LeO.refl _)
      | (with_reducible exact LeO.none _)
      | (with_reducible refine LeO.ite ?_ ?_)
      | (with_reducible refine LeO.bind ?_ (fun _ => ?_))
      | exact ih0 _ _ _ _
      | exact ih1 _ _ _ _ _
      | exact LeO.none _
      | refine LeO.ite ?_ ?_
      | refine LeO.bind ?_ (fun _ => ?_)
    · intro y0 y1 y2 y3 y4
      unfold hachureref02_Get.l0
      repeat' first
      | (with_reducible exact ih0 _ _ _ _)
      | (with_reducible exact ih1 _ _ _ _ _)
      | (with_reducible exact LeO.refl _)
      | (with_reducible exact LeO.none _)
      | (with_reducible refine LeO.ite ?_ ?_)
      | (with_reducible refine LeO.bind ?_ (fun _ => ?_))
      | exact ih0 _ _ _ _
      | exact ih1 _ _ _ _ _
      | exact LeO.none _
      | refine LeO.ite ?_ ?_
      | refine LeO.bind ?_ (fun _ => ?_)
set_option maxHeartbeats 8000000 in
set_option maxRecDepth 100000 in
theorem hachureref02_Get.calls (k : Nat) (A0 : Option Addr) (c0 : Nat) (l0 : List Int) (a1 : Int) (a2 : Bool) (r1 : Int) (r2 : Bool) (w : World) (hr0 : Kd.C (Kd.int .u8) w A0 l0.length l0) (hc0 : l0.length ≤ c0) (h : hachureref02_Get.f k l0 a1 a2 = some (r1, r2)) :
    Calls Tryz.prog 146 #[.slice A0 l0.length c0, .int .i64 a1, .bool a2] w fun e w' => e = .returned (.tuple #[.int .u64 r1, .bool r2]) ∧ Drawn0 w w' := by
  have HR0 := Aside0.mk hr0
  have HC0 := Aside0.mk hc0
  clear hr0 hc0
  have H : (if a1 < 1 then (hachureref02_Get.j0 k l0 a1 a2 true) else (if a1 > 8 then (hachureref02_Get.j0 k l0 a1 a2 true) else (hachureref02_Get.j0 k l0 a1 a2 (decide ((l0.length : Int) < a1))))) = some (r1, r2) := h
  clear h
  have HC4 := Aside0.mk H
  clear H
  go_enter Tryz.func146, Tryz.ntmps146
  go_upto_region 1 with (fail)
  go_cut [22] (fun v22 wc => ∃ (kq : Nat) (x22_3 : Bool), v22 = .bool x22_3 ∧ Aside0 (hachureref02_Get.j0 kq l0 a1 a2 x22_3 = some (r1, r2)) ∧ Aside0 (kq ≤ k) ∧ Drawn0 w wc)
  case first =>
    have H := HC4.out
    clear HC4
    by_cases c5 : a1 < 1
    · rw [if_pos c5] at H
      have c5b0 : decide (a1 < 1) = true := decide_eq_true c5
      clear c5
      (first | rw [c5b0] | (simp only [i64_w, i32_w]; rw [c5b0]) | skip)
      have H' := Aside0.mk H
      clear H
      go_wp2
      go_meet
      case rel => exact ⟨_, (true), (by first | rfl | (simp; done) | (simp [*]; done)), H', ⟨by first | omega | exact Nat.le_refl _⟩, by repeat (first | exact Drawn0.refl _ | apply Drawn0.step)⟩
    · rw [if_neg c5] at H
      have c5b0 : decide (a1 < 1) = false := decide_eq_false c5
      clear c5
      (first | rw [c5b0] | (simp only [i64_w, i32_w]; rw [c5b0]) | skip)
      by_cases c6 : a1 > 8
      · rw [if_pos c6] at H
        have c6b0 : decide (8 < a1) = true := decide_eq_true c6
        clear c6
        have H' := Aside0.mk H
        clear H
        go_wp2
        go_meet
        case rel => exact ⟨_, (true), (by first | rfl | (simp; done) | (simp [*]; done)), H', ⟨by first | omega | exact Nat.le_refl _⟩, by repeat (first | exact Drawn0.refl _ | apply Drawn0.step)⟩
      · rw [if_neg c6] at H
        have c6b0 : decide (8 < a1) = false := decide_eq_false c6
        clear c6
        have H' := Aside0.mk H
        clear H
        go_wp2
        go_meet
        case rel => exact ⟨_, (decide ((l0.length : Int) < a1)), (by first | rfl | (simp; done) | (simp [*]; done)), H', ⟨by first | omega | exact Nat.le_refl _⟩, by repeat (first | exact Drawn0.refl _ | apply Drawn0.step)⟩
  case rest =>
    clear HC4
    try clear c1
    try clear p2
    try clear c5
    try clear c5b0
    try clear c6
    try clear c6b0
    obtain ⟨kq, x22_3, rfl, HA, HJ3, ⟨mc3, rfl⟩⟩ := hcut
    cases kq with
    | zero => exact absurd HA.out (by simp [hachureref02_Get.j0])
    | succ kj3 =>
      have H := HA.out
      clear HA
      simp only [hachureref02_Get.j0] at H
      by_cases c7 : x22_3 = true
      · subst c7
        have H1 : (some (0, false)) = some (r1, r2) := by rw [if_pos rfl] at H; exact H
        clear H
        have H := H1
        clear H1
        simp only [Option.some.injEq, Prod.mk.injEq] at H
        obtain ⟨rfl, rfl⟩ := H
        go_wp2
        go_ret2
        exact ⟨by first | rfl | (simp; done) | (simp [*]; done), by repeat (first | exact Drawn0.refl _ | apply Drawn0.step)⟩
      · replace c7 := Bool.eq_false_iff.mpr c7
        subst c7
        have H1 : (hachureref02_Get.l0 kj3 l0 a1 a2 0 0) = some (r1, r2) := by rw [if_neg (show ¬ (false = true) by decide)] at H; exact H
        clear H
        have H := H1
        clear H1
        have H' := Aside0.mk H
        clear H
        go_wp2
        go_loopg [8, 9] kj3 (fun kq v8 v9 w' => ∃ (x8_2 : Int) (x9_2 : Int), v8 = .int .u64 x8_2 ∧ v9 = .int .i64 x9_2 ∧ Aside0 (hachureref02_Get.l0 kq l0 a1 a2 x8_2 x9_2 = some (r1, r2)) ∧ Aside0 (kq ≤ kj3) ∧ Drawn0 w w')
        case atStart => exact ⟨(0), (0), (by first | rfl | (simp; done) | (simp [*]; done)), (by first | rfl | (simp; done) | (simp [*]; done)), H', ⟨Nat.le_refl _⟩, by repeat (first | exact Drawn0.refl _ | apply Drawn0.step)⟩
        case round =>
          clear H'
          try clear c1
          try clear p2
          try clear c3
          try clear c5
          try clear c5b0
          try clear c6
          try clear c6b0
          try clear c7
          try clear p2
          obtain ⟨x8_2, x9_2, rfl, rfl, HA, HK2, ⟨m2, rfl⟩⟩ := hrel
          cases gk with
          | zero => exact absurd HA.out (by simp [hachureref02_Get.l0])
          | succ k2 =>
            have H := HA.out
            clear HA
            simp only [hachureref02_Get.l0] at H
            by_cases c8 : x9_2 < a1
            · rw [if_pos c8] at H
              have c8b0 : decide (x9_2 < a1) = true := decide_eq_true c8
              clear c8
              by_cases c9 : a2 = true
              · subst c9
                have H1 : (if 0 ≤ (wrap64 ((wrap64 (a1 - 1)) - x9_2)) then (if (wrap64 ((wrap64 (a1 - 1)) - x9_2)) < (l0.length : Int) then (hachureref02_Get.l0 k2 l0 a1 true (Go.bits .or .u64 (IntKind.u64.wrap (x8_2 * 256)) (IntKind.u64.wrap (rd l0 (wrap64 ((wrap64 (a1 - 1)) - x9_2))))) (wrap64 (x9_2 + 1))) else (none)) else (none)) = some (r1, r2) := by rw [if_pos rfl] at H; exact H
                clear H
                have H := H1
                clear H1
                obtain ⟨ji10, hji10⟩ : ∃ j_ : Int, (wrap64 ((wrap64 (a1 - 1)) - x9_2)) = j_ := ⟨_, rfl⟩
                replace H : (if 0 ≤ (ji10) then (if (ji10) < (l0.length : Int) then (hachureref02_Get.l0 k2 l0 a1 true (Go.bits .or .u64 (IntKind.u64.wrap (x8_2 * 256)) (IntKind.u64.wrap (rd l0 (ji10)))) (wrap64 (x9_2 + 1))) else (none)) else (none)) = some (r1, r2) := by first | (rw [hji10] at H; exact H) | (simp only [hji10] at H ⊢; exact H)
                have hji10w : (IntKind.i64.wrap ((wrap64 (a1 - 1)) - x9_2)) = ji10 := (i64_w _).trans hji10
                by_cases c11 : 0 ≤ (ji10)
                · rw [if_pos c11] at H
                  have c11b0 : decide (0 ≤ (ji10)) = true := decide_eq_true c11
                  clear c11
                  by_cases c12 : (ji10) < (l0.length : Int)
                  · rw [if_pos c12] at H
                    have c12b0 : decide ((ji10) < (l0.length : Int)) = true := decide_eq_true c12
                    clear c12
                    have H' := Aside0.mk H
                    clear H
                    have p207 : 0 ≤ ((ji10) : Int) := of_decide_eq_true (by first | (with_reducible assumption) | assumption)
                    have q207 : (ji10) < (l0.length : Int) := of_decide_eq_true (by first | (with_reducible assumption) | assumption)
                    obtain ⟨ad207, e207, hx207_0⟩ := Kd.at_int HR0.out (ji10) p207 q207
                    cases e207
                    replace p207 := eq_true p207
                    replace q207 := eq_true q207
                    go_wp2
                    go_roundg k2
                    case measure => have := HJ3.out; have := HK2.out; omega
                    case rel => exact ⟨(Go.bits .or .u64 (IntKind.u64.wrap (x8_2 * 256)) (IntKind.u64.wrap (rd l0 (ji10)))), (wrap64 (x9_2 + 1)), (by first | rfl | (simp; done) | (simp only [← hji10] <;> (first | rfl | simp)) | (simp [*]; done)), (by first | rfl | (simp; done) | (simp [*]; done)), H', ⟨by have := HJ3.out; have := HK2.out; omega⟩, by repeat (first | exact Drawn0.refl _ | apply Drawn0.step)⟩
                  · rw [if_neg c12] at H
                    exact absurd H (by simp)
                · rw [if_neg c11] at H
                  exact absurd H (by simp)
              · replace c9 := Bool.eq_false_iff.mpr c9
                subst c9
                have H1 : (if 0 ≤ x9_2 then (if x9_2 < (l0.length : Int) then (hachureref02_Get.l0 k2 l0 a1 false (Go.bits .or .u64 (IntKind.u64.wrap (x8_2 * 256)) (IntKind.u64.wrap (rd l0 x9_2))) (wrap64 (x9_2 + 1))) else (none)) else (none)) = some (r1, r2) := by rw [if_neg (show ¬ (false = true) by decide)] at H; exact H
                clear H
                have H := H1
                clear H1
                by_cases c13 : 0 ≤ x9_2
                · rw [if_pos c13] at H
                  have c13b0 : decide (0 ≤ x9_2) = true := decide_eq_true c13
                  clear c13
                  by_cases c14 : x9_2 < (l0.length : Int)
                  · rw [if_pos c14] at H
                    have c14b0 : decide (x9_2 < (l0.length : Int)) = true := decide_eq_true c14
                    clear c14
                    have H' := Aside0.mk H
                    clear H
                    have p208 : 0 ≤ (x9_2 : Int) := of_decide_eq_true (by first | (with_reducible assumption) | assumption)
                    have q208 : x9_2 < (l0.length : Int) := of_decide_eq_true (by first | (with_reducible assumption) | assumption)
                    obtain ⟨ad208, e208, hx208_0⟩ := Kd.at_int HR0.out x9_2 p208 q208
                    cases e208
                    replace p208 := eq_true p208
                    replace q208 := eq_true q208
                    go_wp2
                    go_roundg k2
                    case measure => have := HJ3.out; have := HK2.out; omega
                    case rel => exact ⟨(Go.bits .or .u64 (IntKind.u64.wrap (x8_2 * 256)) (IntKind.u64.wrap (rd l0 x9_2))), (wrap64 (x9_2 + 1)), (by first | rfl | (simp; done) | (simp [*]; done)), (by first | rfl | (simp; done) | (simp [*]; done)), H', ⟨by have := HJ3.out; have := HK2.out; omega⟩, by repeat (first | exact Drawn0.refl _ | apply Drawn0.step)⟩
                  · rw [if_neg c14] at H
                    exact absurd H (by simp)
                · rw [if_neg c13] at H
                  exact absurd H (by simp)
            · rw [if_neg c8] at H
              have c8b0 : decide (x9_2 < a1) = false := decide_eq_false c8
              clear c8
              simp only [Option.some.injEq, Prod.mk.injEq] at H
              obtain ⟨rfl, rfl⟩ := H
              go_wp2
              go_ret2
              exact ⟨by first | rfl | (simp; done) | (simp [*]; done), by repeat (first | exact Drawn0.refl _ | apply Drawn0.step)⟩

end Go.Proofs.YtcjidlgmbjebjaaGreatDoor.PSchemaForms

namespace Go.Proofs.YtcjidlgmbjebjaaGreatDoor.PSchemaForms
open Go.RowKit Go.Proofs.YtcjidlgmbjebjaaGreatDoorW.PrintWords Go.Proofs.YtcjidlgmbjebjaaGreatDoorW.PrintLast Go.Proofs.YtcjidlgmbjebjaaGreatDoorW.PrintMore
attribute [local go_sem] max2_int min2_int max_two min_two max_three min_three max_four min_four   -- for this text's walks alone
mutual
def octet_Get.j0 : Nat → List Int → Int → Bool → Bool → Option (Int × Bool)
  | 0, _, _, _, _ => none
  | k + 1, x0, x1, x2, x22 => if x22 = true then (some (0, false)) else (octet_Get.l0 k x0 x1 x2 0 x1 0)
def octet_Get.l0 : Nat → List Int → Int → Bool → Int → Int → Int → Option (Int × Bool)
  | 0, _, _, _, _, _, _ => none
  | k + 1, x0, x1, x2, x8, x23, x24 => if x24 < x23 then (if x2 = true then (if 0 ≤ (wrap64 ((wrap64 (x1 - 1)) - x24)) then (if (wrap64 ((wrap64 (x1 - 1)) - x24)) < (x0.length : Int) then (octet_Get.l0 k x0 x1 x2 (Go.bits .or .u64 (IntKind.u64.wrap (x8 * 256)) (IntKind.u64.wrap (rd x0 (wrap64 ((wrap64 (x1 - 1)) - x24))))) x23 (wrap64 (x24 + 1))) else (none)) else (none)) else (if 0 ≤ x24 then (if x24 < (x0.length : Int) then (octet_Get.l0 k x0 x1 x2 (Go.bits .or .u64 (IntKind.u64.wrap (x8 * 256)) (IntKind.u64.wrap (rd x0 x24))) x23 (wrap64 (x24 + 1))) else (none)) else (none))) else (some (x8, true))
end
def octet_Get.f (k : Nat) (l0 : List Int) (a1 : Int) (a2 : Bool) : Option (Int × Bool) := if a1 < 1 then (octet_Get.j0 k l0 a1 a2 true) else (if a1 > 8 then (octet_Get.j0 k l0 a1 a2 true) else (octet_Get.j0 k l0 a1 a2 (decide ((l0.length : Int) < a1))))
theorem octet_Get.mono_l : ∀ k, (∀ y0 y1 y2 y3, LeO (octet_Get.j0 k y0 y1 y2 y3) (octet_Get.j0 (k + 1) y0 y1 y2 y3)) ∧ (∀ y0 y1 y2 y3 y4 y5, LeO (octet_Get.l0 k y0 y1 y2 y3 y4 y5) (octet_Get.l0 (k + 1) y0 y1 y2 y3 y4 y5))
  | 0 => ⟨fun _ _ _ _ r h => by simp [octet_Get.j0] at h, fun _ _ _ _ _ _ r h => by simp [octet_Get.l0] at h⟩
  | k + 1 => by
    obtain ⟨ih0, ih1⟩ := octet_Get.mono_l k
    refine ⟨?_, ?_⟩
    · intro y0 y1 y2 y3
      unfold octet_Get.j0
      repeat' first
      | (with_reducible exact ih0 _ _ _ _)
      | (with_reducible exact ih1 _ _ _ _ _ _)
      | (with_reducible exact LeO.refl _)
      | (with_reducible exact LeO.none _)
      | (with_reducible refine LeO.ite ?_ ?_)
      | (with_reducible refine LeO.bind ?_ (fun _ => ?_))
      | exact ih0 _ _ _ _
      | exact ih1 _ _ _ _ _ _
      | exact LeO.none _
      | refine LeO.ite ?_ ?_
      | refine LeO.bind ?_ (fun _ => ?_)
    · intro y0 y1 y2 y3 y4 y5
      unfold octet_Get.l0
      repeat' first
      | (with_reducible exact ih0 _ _ _ _)
      | (with_reducible exact ih1 _ _ _ _ _ _)
      | (with_reducible exact LeO.refl _)
      | (with_reducible exact LeO.none _)
      | (with_reducible refine LeO.ite ?_ ?_)
      | (with_reducible refine LeO.bind ?_ (fun _ => ?_))
      | exact ih0 _ _ _ _
      | exact ih1 _ _ _ _ _ _
      | exact LeO.none _
      | refine LeO.ite ?_ ?_
      | refine LeO.bind ?_ (fun _ => ?_)
set_option maxHeartbeats 8000000 in
set_option maxRecDepth 100000 in
theorem octet_Get.calls (k : Nat) (A0 : Option Addr) (c0 : Nat) (l0 : List Int) (a1 : Int) (a2 : Bool) (r1 : Int) (r2 : Bool) (w : World) (hr0 : Kd.C (Kd.int .u8) w A0 l0.length l0) (hc0 : l0.length ≤ c0) (h : octet_Get.f k l0 a1 a2 = some (r1, r2)) :
    Calls Tryz.prog 139 #[.slice A0 l0.length c0, .int .i64 a1, .bool a2] w fun e w' => e = .returned (.tuple #[.int .u64 r1, .bool r2]) ∧ Drawn0 w w' := by
  have HR0 := Aside0.mk hr0
  have HC0 := Aside0.mk hc0
  clear hr0 hc0
  have H : (if a1 < 1 then (octet_Get.j0 k l0 a1 a2 true) else (if a1 > 8 then (octet_Get.j0 k l0 a1 a2 true) else (octet_Get.j0 k l0 a1 a2 (decide ((l0.length : Int) < a1))))) = some (r1, r2) := h
  clear h
  have HC4 := Aside0.mk H
  clear H
  go_enter Tryz.func139, Tryz.ntmps139
  go_upto_region 1 with (fail)
  go_cut [22] (fun v22 wc => ∃ (kq : Nat) (x22_3 : Bool), v22 = .bool x22_3 ∧ Aside0 (octet_Get.j0 kq l0 a1 a2 x22_3 = some (r1, r2)) ∧ Aside0 (kq ≤ k) ∧ Drawn0 w wc)
  case first =>
    have H := HC4.out
    clear HC4
    by_cases c5 : a1 < 1
    · rw [if_pos c5] at H
      have c5b0 : decide (a1 < 1) = true := decide_eq_true c5
      clear c5
      (first | rw [c5b0] | (simp only [i64_w, i32_w]; rw [c5b0]) | skip)
      have H' := Aside0.mk H
      clear H
      go_wp2
      go_meet
      case rel => exact ⟨_, (true), (by first | rfl | (simp; done) | (simp [*]; done)), H', ⟨by first | omega | exact Nat.le_refl _⟩, by repeat (first | exact Drawn0.refl _ | apply Drawn0.step)⟩
    · rw [if_neg c5] at H
      have c5b0 : decide (a1 < 1) = false := decide_eq_false c5
      clear c5
      (first | rw [c5b0] | (simp only [i64_w, i32_w]; rw [c5b0]) | skip)
      by_cases c6 : a1 > 8
      · rw [if_pos c6] at H
        have c6b0 : decide (8 < a1) = true := decide_eq_true c6
        clear c6
        have H' := Aside0.mk H
        clear H
        go_wp2
        go_meet
        case rel => exact ⟨_, (true), (by first | rfl | (simp; done) | (simp [*]; done)), H', ⟨by first | omega | exact Nat.le_refl _⟩, by repeat (first | exact Drawn0.refl _ | apply Drawn0.step)⟩
      · rw [if_neg c6] at H
        have c6b0 : decide (8 < a1) = false := decide_eq_false c6
        clear c6
        have H' := Aside0.mk H
        clear H
        go_wp2
        go_meet
        case rel => exact ⟨_, (decide ((l0.length : Int) < a1)), (by first | rfl | (simp; done) | (simp [*]; done)), H', ⟨by first | omega | exact Nat.le_refl _⟩, by repeat (first | exact Drawn0.refl _ | apply Drawn0.step)⟩
  case rest =>
    clear HC4
    try clear c1
    try clear p2
    try clear c5
    try clear c5b0
    try clear c6
    try clear c6b0
    obtain ⟨kq, x22_3, rfl, HA, HJ3, ⟨mc3, rfl⟩⟩ := hcut
    cases kq with
    | zero => exact absurd HA.out (by simp [octet_Get.j0])
    | succ kj3 =>
      have H := HA.out
      clear HA
      simp only [octet_Get.j0] at H
      by_cases c7 : x22_3 = true
      · subst c7
        have H1 : (some (0, false)) = some (r1, r2) := by rw [if_pos rfl] at H; exact H
        clear H
        have H := H1
        clear H1
        simp only [Option.some.injEq, Prod.mk.injEq] at H
        obtain ⟨rfl, rfl⟩ := H
        go_wp2
        go_ret2
        exact ⟨by first | rfl | (simp; done) | (simp [*]; done), by repeat (first | exact Drawn0.refl _ | apply Drawn0.step)⟩
      · replace c7 := Bool.eq_false_iff.mpr c7
        subst c7
        have H1 : (octet_Get.l0 kj3 l0 a1 a2 0 a1 0) = some (r1, r2) := by rw [if_neg (show ¬ (false = true) by decide)] at H; exact H
        clear H
        have H := H1
        clear H1
        have H' := Aside0.mk H
        clear H
        go_wp2
        go_loopg [8, 24] kj3 (fun kq v8 v24 w' => ∃ (x8_2 : Int) (x24_2 : Int), v8 = .int .u64 x8_2 ∧ v24 = .int .i64 x24_2 ∧ Aside0 (octet_Get.l0 kq l0 a1 a2 x8_2 a1 x24_2 = some (r1, r2)) ∧ Aside0 (kq ≤ kj3) ∧ Drawn0 w w')
        case atStart => exact ⟨(0), (0), (by first | rfl | (simp; done) | (simp [*]; done)), (by first | rfl | (simp; done) | (simp [*]; done)), H', ⟨Nat.le_refl _⟩, by repeat (first | exact Drawn0.refl _ | apply Drawn0.step)⟩
        case round =>
          clear H'
          try clear c1
          try clear p2
          try clear c3
          try clear c5
          try clear c5b0
          try clear c6
          try clear c6b0
          try clear c7
          try clear p2
          obtain ⟨x8_2, x24_2, rfl, rfl, HA, HK2, ⟨m2, rfl⟩⟩ := hrel
          cases gk with
          | zero => exact absurd HA.out (by simp [octet_Get.l0])
          | succ k2 =>
            have H := HA.out
            clear HA
            simp only [octet_Get.l0] at H
            by_cases c8 : x24_2 < a1
            · rw [if_pos c8] at H
              have c8b0 : decide (x24_2 < a1) = true := decide_eq_true c8
              clear c8
              by_cases c9 : a2 = true
              · subst c9
                have H1 : (if 0 ≤ (wrap64 ((wrap64 (a1 - 1)) - x24_2)) then (if (wrap64 ((wrap64 (a1 - 1)) - x24_2)) < (l0.length : Int) then (octet_Get.l0 k2 l0 a1 true (Go.bits .or .u64 (IntKind.u64.wrap (x8_2 * 256)) (IntKind.u64.wrap (rd l0 (wrap64 ((wrap64 (a1 - 1)) - x24_2))))) a1 (wrap64 (x24_2 + 1))) else (none)) else (none)) = some (r1, r2) := by rw [if_pos rfl] at H; exact H
                clear H
                have H := H1
                clear H1
                obtain ⟨ji10, hji10⟩ : ∃ j_ : Int, (wrap64 ((wrap64 (a1 - 1)) - x24_2)) = j_ := ⟨_, rfl⟩
                replace H : (if 0 ≤ (ji10) then (if (ji10) < (l0.length : Int) then (octet_Get.l0 k2 l0 a1 true (Go.bits .or .u64 (IntKind.u64.wrap (x8_2 * 256)) (IntKind.u64.wrap (rd l0 (ji10)))) a1 (wrap64 (x24_2 + 1))) else (none)) else (none)) = some (r1, r2) := by first | (rw [hji10] at H; exact H) | (simp only [hji10] at H ⊢; exact H)
                have hji10w : (IntKind.i64.wrap ((wrap64 (a1 - 1)) - x24_2)) = ji10 := (i64_w _).trans hji10
                by_cases c11 : 0 ≤ (ji10)
                · rw [if_pos c11] at H
                  have c11b0 : decide (0 ≤ (ji10)) = true := decide_eq_true c11
                  clear c11
                  by_cases c12 : (ji10) < (l0.length : Int)
                  · rw [if_pos c12] at H
                    have c12b0 : decide ((ji10) < (l0.length : Int)) = true := decide_eq_true c12
                    clear c12
                    have H' := Aside0.mk H
                    clear H
                    have p101 : 0 ≤ ((ji10) : Int) := of_decide_eq_true (by first | (with_reducible assumption) | assumption)
                    have q101 : (ji10) < (l0.length : Int) := of_decide_eq_true (by first | (with_reducible assumption) | assumption)
                    obtain ⟨ad101, e101, hx101_0⟩ := Kd.at_int HR0.out (ji10) p101 q101
                    cases e101
                    replace p101 := eq_true p101
                    replace q101 := eq_true q101
                    go_wp2
                    go_roundg k2
                    case measure => have := HJ3.out; have := HK2.out; omega
                    case rel => exact ⟨(Go.bits .or .u64 (IntKind.u64.wrap (x8_2 * 256)) (IntKind.u64.wrap (rd l0 (ji10)))), (wrap64 (x24_2 + 1)), (by first | rfl | (simp; done) | (simp only [← hji10] <;> (first | rfl | simp)) | (simp [*]; done)), (by first | rfl | (simp; done) | (simp [*]; done)), H', ⟨by have := HJ3.out; have := HK2.out; omega⟩, by repeat (first | exact Drawn0.refl _ | apply Drawn0.step)⟩
                  · rw [if_neg c12] at H
                    exact absurd H (by simp)
                · rw [if_neg c11] at H
                  exact absurd H (by simp)
              · replace c9 := Bool.eq_false_iff.mpr c9
                subst c9
                have H1 : (if 0 ≤ x24_2 then (if x24_2 < (l0.length : Int) then (octet_Get.l0 k2 l0 a1 false (Go.bits .or .u64 (IntKind.u64.wrap (x8_2 * 256)) (IntKind.u64.wrap (rd l0 x24_2))) a1 (wrap64 (x24_2 + 1))) else (none)) else (none)) = some (r1, r2) := by rw [if_neg (show ¬ (false = true) by decide)] at H; exact H
                clear H
                have H := H1
                clear H1
                by_cases c13 : 0 ≤ x24_2
                · rw [if_pos c13] at H
                  have c13b0 : decide (0 ≤ x24_2) = true := decide_eq_true c13
                  clear c13
                  by_cases c14 : x24_2 < (l0.length : Int)
                  · rw [if_pos c14] at H
                    have c14b0 : decide (x24_2 < (l0.length : Int)) = true := decide_eq_true c14
                    clear c14
                    have H' := Aside0.mk H
                    clear H
                    have p102 : 0 ≤ (x24_2 : Int) := of_decide_eq_true (by first | (with_reducible assumption) | assumption)
                    have q102 : x24_2 < (l0.length : Int) := of_decide_eq_true (by first | (with_reducible assumption) | assumption)
                    obtain ⟨ad102, e102, hx102_0⟩ := Kd.at_int HR0.out x24_2 p102 q102
                    cases e102
                    replace p102 := eq_true p102
                    replace q102 := eq_true q102
                    go_wp2
                    go_roundg k2
                    case measure => have := HJ3.out; have := HK2.out; omega
                    case rel => exact ⟨(Go.bits .or .u64 (IntKind.u64.wrap (x8_2 * 256)) (IntKind.u64.wrap (rd l0 x24_2))), (wrap64 (x24_2 + 1)), (by first | rfl | (simp; done) | (simp [*]; done)), (by first | rfl | (simp; done) | (simp [*]; done)), H', ⟨by have := HJ3.out; have := HK2.out; omega⟩, by repeat (first | exact Drawn0.refl _ | apply Drawn0.step)⟩
                  · rw [if_neg c14] at H
                    exact absurd H (by simp)
                · rw [if_neg c13] at H
                  exact absurd H (by simp)
            · rw [if_neg c8] at H
              have c8b0 : decide (x24_2 < a1) = false := decide_eq_false c8
              clear c8
              simp only [Option.some.injEq, Prod.mk.injEq] at H
              obtain ⟨rfl, rfl⟩ := H
              go_wp2
              go_ret2
              exact ⟨by first | rfl | (simp; done) | (simp [*]; done), by repeat (first | exact Drawn0.refl _ | apply Drawn0.step)⟩

end Go.Proofs.YtcjidlgmbjebjaaGreatDoor.PSchemaForms

namespace Go.Proofs.YtcjidlgmbjebjaaGreatDoor
open Go Go.RowKit Go.Proofs.YtcjidlgmbjebjaaGreatDoorW.PrintWords
def Byt (l : List Int) : Prop := ∀ x ∈ l, 0 ≤ x ∧ x < 256
theorem wrapU64' : ∀ x : Int, 0 ≤ x → x < 2 ^ 64 → IntKind.u64.wrap x = x := by
  intro x h0 h1
  have : IntKind.u64.wrap x = x % 18446744073709551616 := by simp [IntKind.wrap, IntKind.bits, IntKind.signed]
  rw [this]; omega
theorem or256 (a b : Int) (h0 : 0 ≤ a) (h1 : a < 72057594037927936) (h2 : 0 ≤ b) (h3 : b < 256) : bits .or .u64 (IntKind.u64.wrap (a * 256)) (IntKind.u64.wrap b) = a * 256 + b := by
  rw [wrapU64' (a * 256) (by omega) (by omega), wrapU64' b h2 (by omega)]
  exact bits_join .u64 64 (by decide) wrapU64' 8 (a * 256) b (by omega) (by omega) (by omega) h2 (by omega) (by omega)

theorem eight (l : List Int) (h : 8 ≤ l.length) : ∃ a0 a1 a2 a3 a4 a5 a6 a7 r, l = a0 :: a1 :: a2 :: a3 :: a4 :: a5 :: a6 :: a7 :: r := by
  match l, h with
  | a0 :: a1 :: a2 :: a3 :: a4 :: a5 :: a6 :: a7 :: r, _ => exact ⟨a0, a1, a2, a3, a4, a5, a6, a7, r, rfl⟩

theorem octet_Get_short (l : List Int) (n : Int) (h1 : 1 ≤ n) (h8 : n ≤ 8) (h : (l.length : Int) < n) (k : Nat) : PSchemaForms.octet_Get.f (k + 1) l n false = some (0, false) := by
  unfold PSchemaForms.octet_Get.f
  rw [if_neg (by omega), if_neg (by omega), PSchemaForms.octet_Get.j0, if_pos (by simpa using h)]
theorem octet_Get_one (x : Int) (r : List Int) (h0 : 0 ≤ x) (h1 : x < 256) : PSchemaForms.octet_Get.f 10 (x :: r) 1 false = some (x, true) := by
  unfold PSchemaForms.octet_Get.f
  rw [if_neg (by omega), if_neg (by omega), PSchemaForms.octet_Get.j0, if_neg (by first | (simp; done) | (simp; omega)), PSchemaForms.octet_Get.l0, if_pos (by decide), if_neg (by decide), if_pos (by decide), if_pos (by first | (simp; done) | (simp; omega)), show wrap64 (0 + 1) = 1 by kernel_rfl, PSchemaForms.octet_Get.l0, if_neg (by decide)]
  have e : rd (x :: r) 0 = x := rfl
  rw [e, or256 0 x (by omega) (by omega) h0 h1]
  simp
theorem octet_Get_eight (a0 a1 a2 a3 a4 a5 a6 a7 : Int) (r : List Int) (h : Byt (a0 :: a1 :: a2 :: a3 :: a4 :: a5 :: a6 :: a7 :: r)) : PSchemaForms.octet_Get.f 10 (a0 :: a1 :: a2 :: a3 :: a4 :: a5 :: a6 :: a7 :: r) 8 false = some (Sb.be [a0, a1, a2, a3, a4, a5, a6, a7], true) := by
  have b0 := h a0 (by simp)
  have b1 := h a1 (by simp)
  have b2 := h a2 (by simp)
  have b3 := h a3 (by simp)
  have b4 := h a4 (by simp)
  have b5 := h a5 (by simp)
  have b6 := h a6 (by simp)
  have b7 := h a7 (by simp)
  unfold PSchemaForms.octet_Get.f
  rw [if_neg (by omega), if_neg (by omega), PSchemaForms.octet_Get.j0, if_neg (by first | (simp; done) | (simp; omega))]
  rw [PSchemaForms.octet_Get.l0, if_pos (by decide), if_neg (by decide), if_pos (by decide), if_pos (by first | (simp; done) | (simp; omega))]
  rw [show rd (a0 :: a1 :: a2 :: a3 :: a4 :: a5 :: a6 :: a7 :: r) 0 = a0 from rfl]
  simp only [show wrap64 (0 + 1) = 1 by kernel_rfl, show rd (a0 :: a1 :: a2 :: a3 :: a4 :: a5 :: a6 :: a7 :: r) 0 = a0 from rfl]
  rw [or256 (0) a0 (by omega) (by omega) b0.1 b0.2]
  rw [PSchemaForms.octet_Get.l0, if_pos (by decide), if_neg (by decide), if_pos (by decide), if_pos (by first | (simp; done) | (simp; omega))]
  simp only [show wrap64 (1 + 1) = 2 by kernel_rfl, show rd (a0 :: a1 :: a2 :: a3 :: a4 :: a5 :: a6 :: a7 :: r) 1 = a1 from rfl]
  rw [or256 (0 * 256 + a0) a1 (by omega) (by omega) b1.1 b1.2]
  rw [PSchemaForms.octet_Get.l0, if_pos (by decide), if_neg (by decide), if_pos (by decide), if_pos (by first | (simp; done) | (simp; omega))]
  simp only [show wrap64 (2 + 1) = 3 by kernel_rfl, show rd (a0 :: a1 :: a2 :: a3 :: a4 :: a5 :: a6 :: a7 :: r) 2 = a2 from rfl]
  rw [or256 ((0 * 256 + a0) * 256 + a1) a2 (by omega) (by omega) b2.1 b2.2]
  rw [PSchemaForms.octet_Get.l0, if_pos (by decide), if_neg (by decide), if_pos (by decide), if_pos (by first | (simp; done) | (simp; omega))]
  simp only [show wrap64 (3 + 1) = 4 by kernel_rfl, show rd (a0 :: a1 :: a2 :: a3 :: a4 :: a5 :: a6 :: a7 :: r) 3 = a3 from rfl]
  rw [or256 (((0 * 256 + a0) * 256 + a1) * 256 + a2) a3 (by omega) (by omega) b3.1 b3.2]
  rw [PSchemaForms.octet_Get.l0, if_pos (by decide), if_neg (by decide), if_pos (by decide), if_pos (by first | (simp; done) | (simp; omega))]
  simp only [show wrap64 (4 + 1) = 5 by kernel_rfl, show rd (a0 :: a1 :: a2 :: a3 :: a4 :: a5 :: a6 :: a7 :: r) 4 = a4 from rfl]
  rw [or256 ((((0 * 256 + a0) * 256 + a1) * 256 + a2) * 256 + a3) a4 (by omega) (by omega) b4.1 b4.2]
  rw [PSchemaForms.octet_Get.l0, if_pos (by decide), if_neg (by decide), if_pos (by decide), if_pos (by first | (simp; done) | (simp; omega))]
  simp only [show wrap64 (5 + 1) = 6 by kernel_rfl, show rd (a0 :: a1 :: a2 :: a3 :: a4 :: a5 :: a6 :: a7 :: r) 5 = a5 from rfl]
  rw [or256 (((((0 * 256 + a0) * 256 + a1) * 256 + a2) * 256 + a3) * 256 + a4) a5 (by omega) (by omega) b5.1 b5.2]
  rw [PSchemaForms.octet_Get.l0, if_pos (by decide), if_neg (by decide), if_pos (by decide), if_pos (by first | (simp; done) | (simp; omega))]
  simp only [show wrap64 (6 + 1) = 7 by kernel_rfl, show rd (a0 :: a1 :: a2 :: a3 :: a4 :: a5 :: a6 :: a7 :: r) 6 = a6 from rfl]
  rw [or256 ((((((0 * 256 + a0) * 256 + a1) * 256 + a2) * 256 + a3) * 256 + a4) * 256 + a5) a6 (by omega) (by omega) b6.1 b6.2]
  rw [PSchemaForms.octet_Get.l0, if_pos (by decide), if_neg (by decide), if_pos (by decide), if_pos (by first | (simp; done) | (simp; omega))]
  simp only [show wrap64 (7 + 1) = 8 by kernel_rfl, show rd (a0 :: a1 :: a2 :: a3 :: a4 :: a5 :: a6 :: a7 :: r) 7 = a7 from rfl]
  rw [or256 (((((((0 * 256 + a0) * 256 + a1) * 256 + a2) * 256 + a3) * 256 + a4) * 256 + a5) * 256 + a6) a7 (by omega) (by omega) b7.1 b7.2]
  rw [PSchemaForms.octet_Get.l0, if_neg (by decide)]
  rfl

theorem hachureref02_Get_short (l : List Int) (n : Int) (h1 : 1 ≤ n) (h8 : n ≤ 8) (h : (l.length : Int) < n) (k : Nat) : PSchemaForms.hachureref02_Get.f (k + 1) l n false = some (0, false) := by
  unfold PSchemaForms.hachureref02_Get.f
  rw [if_neg (by omega), if_neg (by omega), PSchemaForms.hachureref02_Get.j0, if_pos (by simpa using h)]
theorem hachureref02_Get_one (x : Int) (r : List Int) (h0 : 0 ≤ x) (h1 : x < 256) : PSchemaForms.hachureref02_Get.f 10 (x :: r) 1 false = some (x, true) := by
  unfold PSchemaForms.hachureref02_Get.f
  rw [if_neg (by omega), if_neg (by omega), PSchemaForms.hachureref02_Get.j0, if_neg (by first | (simp; done) | (simp; omega)), PSchemaForms.hachureref02_Get.l0, if_pos (by decide), if_neg (by decide), if_pos (by decide), if_pos (by first | (simp; done) | (simp; omega)), show wrap64 (0 + 1) = 1 by kernel_rfl, PSchemaForms.hachureref02_Get.l0, if_neg (by decide)]
  have e : rd (x :: r) 0 = x := rfl
  rw [e, or256 0 x (by omega) (by omega) h0 h1]
  simp
theorem hachureref02_Get_eight (a0 a1 a2 a3 a4 a5 a6 a7 : Int) (r : List Int) (h : Byt (a0 :: a1 :: a2 :: a3 :: a4 :: a5 :: a6 :: a7 :: r)) : PSchemaForms.hachureref02_Get.f 10 (a0 :: a1 :: a2 :: a3 :: a4 :: a5 :: a6 :: a7 :: r) 8 false = some (Sb.be [a0, a1, a2, a3, a4, a5, a6, a7], true) := by
  have b0 := h a0 (by simp)
  have b1 := h a1 (by simp)
  have b2 := h a2 (by simp)
  have b3 := h a3 (by simp)
  have b4 := h a4 (by simp)
  have b5 := h a5 (by simp)
  have b6 := h a6 (by simp)
  have b7 := h a7 (by simp)
  unfold PSchemaForms.hachureref02_Get.f
  rw [if_neg (by omega), if_neg (by omega), PSchemaForms.hachureref02_Get.j0, if_neg (by first | (simp; done) | (simp; omega))]
  rw [PSchemaForms.hachureref02_Get.l0, if_pos (by decide), if_neg (by decide), if_pos (by decide), if_pos (by first | (simp; done) | (simp; omega))]
  rw [show rd (a0 :: a1 :: a2 :: a3 :: a4 :: a5 :: a6 :: a7 :: r) 0 = a0 from rfl]
  simp only [show wrap64 (0 + 1) = 1 by kernel_rfl, show rd (a0 :: a1 :: a2 :: a3 :: a4 :: a5 :: a6 :: a7 :: r) 0 = a0 from rfl]
  rw [or256 (0) a0 (by omega) (by omega) b0.1 b0.2]
  rw [PSchemaForms.hachureref02_Get.l0, if_pos (by decide), if_neg (by decide), if_pos (by decide), if_pos (by first | (simp; done) | (simp; omega))]
  simp only [show wrap64 (1 + 1) = 2 by kernel_rfl, show rd (a0 :: a1 :: a2 :: a3 :: a4 :: a5 :: a6 :: a7 :: r) 1 = a1 from rfl]
  rw [or256 (0 * 256 + a0) a1 (by omega) (by omega) b1.1 b1.2]
  rw [PSchemaForms.hachureref02_Get.l0, if_pos (by decide), if_neg (by decide), if_pos (by decide), if_pos (by first | (simp; done) | (simp; omega))]
  simp only [show wrap64 (2 + 1) = 3 by kernel_rfl, show rd (a0 :: a1 :: a2 :: a3 :: a4 :: a5 :: a6 :: a7 :: r) 2 = a2 from rfl]
  rw [or256 ((0 * 256 + a0) * 256 + a1) a2 (by omega) (by omega) b2.1 b2.2]
  rw [PSchemaForms.hachureref02_Get.l0, if_pos (by decide), if_neg (by decide), if_pos (by decide), if_pos (by first | (simp; done) | (simp; omega))]
  simp only [show wrap64 (3 + 1) = 4 by kernel_rfl, show rd (a0 :: a1 :: a2 :: a3 :: a4 :: a5 :: a6 :: a7 :: r) 3 = a3 from rfl]
  rw [or256 (((0 * 256 + a0) * 256 + a1) * 256 + a2) a3 (by omega) (by omega) b3.1 b3.2]
  rw [PSchemaForms.hachureref02_Get.l0, if_pos (by decide), if_neg (by decide), if_pos (by decide), if_pos (by first | (simp; done) | (simp; omega))]
  simp only [show wrap64 (4 + 1) = 5 by kernel_rfl, show rd (a0 :: a1 :: a2 :: a3 :: a4 :: a5 :: a6 :: a7 :: r) 4 = a4 from rfl]
  rw [or256 ((((0 * 256 + a0) * 256 + a1) * 256 + a2) * 256 + a3) a4 (by omega) (by omega) b4.1 b4.2]
  rw [PSchemaForms.hachureref02_Get.l0, if_pos (by decide), if_neg (by decide), if_pos (by decide), if_pos (by first | (simp; done) | (simp; omega))]
  simp only [show wrap64 (5 + 1) = 6 by kernel_rfl, show rd (a0 :: a1 :: a2 :: a3 :: a4 :: a5 :: a6 :: a7 :: r) 5 = a5 from rfl]
  rw [or256 (((((0 * 256 + a0) * 256 + a1) * 256 + a2) * 256 + a3) * 256 + a4) a5 (by omega) (by omega) b5.1 b5.2]
  rw [PSchemaForms.hachureref02_Get.l0, if_pos (by decide), if_neg (by decide), if_pos (by decide), if_pos (by first | (simp; done) | (simp; omega))]
  simp only [show wrap64 (6 + 1) = 7 by kernel_rfl, show rd (a0 :: a1 :: a2 :: a3 :: a4 :: a5 :: a6 :: a7 :: r) 6 = a6 from rfl]
  rw [or256 ((((((0 * 256 + a0) * 256 + a1) * 256 + a2) * 256 + a3) * 256 + a4) * 256 + a5) a6 (by omega) (by omega) b6.1 b6.2]
  rw [PSchemaForms.hachureref02_Get.l0, if_pos (by decide), if_neg (by decide), if_pos (by decide), if_pos (by first | (simp; done) | (simp; omega))]
  simp only [show wrap64 (7 + 1) = 8 by kernel_rfl, show rd (a0 :: a1 :: a2 :: a3 :: a4 :: a5 :: a6 :: a7 :: r) 7 = a7 from rfl]
  rw [or256 (((((((0 * 256 + a0) * 256 + a1) * 256 + a2) * 256 + a3) * 256 + a4) * 256 + a5) * 256 + a6) a7 (by omega) (by omega) b7.1 b7.2]
  rw [PSchemaForms.hachureref02_Get.l0, if_neg (by decide)]
  rfl
end Go.Proofs.YtcjidlgmbjebjaaGreatDoor
