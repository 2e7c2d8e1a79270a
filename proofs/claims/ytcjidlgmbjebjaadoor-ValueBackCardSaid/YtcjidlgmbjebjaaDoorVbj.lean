/- A part of the proof of ValueBack. -/
import Derived.Test.YtcjidlgmbjebjaaDoorPValueFormsx0
import Derived.Test.YtcjidlgmbjebjaaDoorVbg
import Derived.Test.YtcjidlgmbjebjaaDoorVbi
import Derived.Deep.RegionHeldLaw
import Derived.Laws.BytesArg
set_option linter.unusedVariables false
set_option linter.unusedSimpArgs false
set_option maxRecDepth 100000
namespace Go.Proofs.YtcjidlgmbjebjaaDoor.PValueForms
open Go.RowKit Go.Proofs.YtcjidlgmbjebjaaDoorW.PrintWords Go.Proofs.YtcjidlgmbjebjaaDoorW.PrintLast Go.Proofs.YtcjidlgmbjebjaaDoorW.PrintMore
attribute [local go_sem] max2_int min2_int max_two min_two max_three min_three max_four min_four
mutual
def hachurelaw21_light.j0 : Nat → Int → Bool → Int → List Int → List (S51) → Option (Bool)
  | 0, _, _, _, _, _ => none
  | k + 1, x3, x16, x102000, x102001, x102002 => if x16 = true then (some false) else (hachurelaw21_light.l0 k x3 x102002 (x102002.length : Int) 0)
def hachurelaw21_light.l0 : Nat → Int → List (S51) → Int → Int → Option (Bool)
  | 0, _, _, _, _ => none
  | k + 1, x3, x18, x19, x20 => if x20 < x19 then (if 0 ≤ x20 then (if x20 < (x18.length : Int) then (if (wrap64 (x3 + (((rd_T51 x18 x20).f2).size : Int))) > 30000 then (some false) else (hachurelaw21_light.l0 k (wrap64 (x3 + (((rd_T51 x18 x20).f2).size : Int))) x18 x19 (wrap64 (x20 + 1)))) else (none)) else (none)) else (some true)
end
def hachurelaw21_light.f (k : Nat) (a0_0 : Int) (l0_1 : List Int) (l0_2 : List (S51)) : Option (Bool) := if (l0_2.length : Int) > 20 then (hachurelaw21_light.j0 k (l0_1.length : Int) true a0_0 l0_1 l0_2) else (hachurelaw21_light.j0 k (l0_1.length : Int) (decide ((l0_1.length : Int) > 25000)) a0_0 l0_1 l0_2)
theorem hachurelaw21_light.mono_l : ∀ k, (∀ y0 y1 y2 y3 y4, LeO (hachurelaw21_light.j0 k y0 y1 y2 y3 y4) (hachurelaw21_light.j0 (k + 1) y0 y1 y2 y3 y4)) ∧ (∀ y0 y1 y2 y3, LeO (hachurelaw21_light.l0 k y0 y1 y2 y3) (hachurelaw21_light.l0 (k + 1) y0 y1 y2 y3))
  | 0 => ⟨fun _ _ _ _ _ r h => by simp [hachurelaw21_light.j0] at h, fun _ _ _ _ r h => by simp [hachurelaw21_light.l0] at h⟩
  | k + 1 => by
    obtain ⟨ih0, ih1⟩ := hachurelaw21_light.mono_l k
    refine ⟨?_, ?_⟩
    · intro y0 y1 y2 y3 y4
      unfold hachurelaw21_light.j0
      repeat' first
      | (with_reducible exact ih0 _ _ _ _ _)
      | (with_reducible exact ih1 _ _ _ _)
      | (with_reducible exact LeO.refl _)
      | (with_reducible exact LeO.none _)
      | (with_reducible refine LeO.ite ?_ ?_)
      | (with_reducible refine LeO.bind ?_ (fun _ => ?_))
      | exact ih0 _ _ _ _ _
      | exact ih1 _ _ _ _
      | exact LeO.none _
      | refine LeO.ite ?_ ?_
      | refine LeO.bind ?_ (fun _ => ?_)
    · intro y0 y1 y2 y3
      unfold hachurelaw21_light.l0
      repeat' first
      | (with_reducible exact ih0 _ _ _ _ _)
      | (with_reducible exact ih1 _ _ _ _)
      | (with_reducible exact LeO.refl _)
      | (with_reducible exact LeO.none _)
      | (with_reducible refine LeO.ite ?_ ?_)
      | (with_reducible refine LeO.bind ?_ (fun _ => ?_))
      | exact ih0 _ _ _ _ _
      | exact ih1 _ _ _ _
      | exact LeO.none _
      | refine LeO.ite ?_ ?_
      | refine LeO.bind ?_ (fun _ => ?_)
theorem hachurelaw21_light.mono : ∀ a0 a1 a2 k, LeO (hachurelaw21_light.f k a0 a1 a2) (hachurelaw21_light.f (k + 1) a0 a1 a2) := by
  intro a0 a1 a2 k
  obtain ⟨ih0, ih1⟩ := hachurelaw21_light.mono_l k
  unfold hachurelaw21_light.f
  repeat' first
      | (with_reducible exact ih0 _ _ _ _ _)
      | (with_reducible exact ih1 _ _ _ _)
      | (with_reducible exact LeO.refl _)
      | (with_reducible exact LeO.none _)
      | (with_reducible refine LeO.ite ?_ ?_)
      | (with_reducible refine LeO.bind ?_ (fun _ => ?_))
      | exact ih0 _ _ _ _ _
      | exact ih1 _ _ _ _
      | exact LeO.none _
      | refine LeO.ite ?_ ?_
      | refine LeO.bind ?_ (fun _ => ?_)
set_option maxHeartbeats 8000000 in
set_option maxRecDepth 100000 in
theorem hachurelaw21_light.calls (k : Nat) (a0_0 : Int) (A0_1 : Option Addr) (c0_1 : Nat) (l0_1 : List Int) (A0_2 : Option Addr) (c0_2 : Nat) (l0_2 : List (S51)) (r : Bool) (w : World) (hr0_1 : Kd.C (Kd.int .u8) w A0_1 l0_1.length l0_1) (hc0_1 : l0_1.length ≤ c0_1) (hr0_2 : Kd.C k51 w A0_2 l0_2.length l0_2) (hc0_2 : l0_2.length ≤ c0_2) (h : hachurelaw21_light.f k a0_0 l0_1 l0_2 = some r) :
    Calls Tryd.prog 23 #[.agg #[.int .i64 a0_0, .slice A0_1 l0_1.length c0_1, .slice A0_2 l0_2.length c0_2]] w fun e w' => e = .returned (.bool r) ∧ Below w.heap.size w w' := by
  have hu46 := Tryd.underlying46
  have hu51 := Tryd.underlying51
  have HR0_1 := Aside0.mk hr0_1
  have HC0_1 := Aside0.mk hc0_1
  clear hr0_1 hc0_1
  have HR0_2 := Aside0.mk hr0_2
  have HC0_2 := Aside0.mk hc0_2
  clear hr0_2 hc0_2
  have HB := Aside0.mk (Below.refl w.heap.size w)
  have H : (if (l0_2.length : Int) > 20 then (hachurelaw21_light.j0 k (l0_1.length : Int) true a0_0 l0_1 l0_2) else (hachurelaw21_light.j0 k (l0_1.length : Int) (decide ((l0_1.length : Int) > 25000)) a0_0 l0_1 l0_2)) = some r := h
  clear h
  have HC2 := Aside0.mk H
  clear H
  go_enter Tryd.func23, Tryd.ntmps23
  go_upto_region 2 with (first | ((with_reducible refine gate_dst (N := 1) rfl ?_); refine box_event ?hg (N := 1) ?hd (cs := #[.int .i64 a0_0, .slice A0_1 l0_1.length c0_1, .slice A0_2 l0_2.length c0_2]) (t := 46) ?hr ?_; (case hd => rfl); (case hg => rfl); (case hr => first | (go_simp; done) | (go_simp; rfl)); intro gb101 hg w3 hbox hb; have n0_ := Aside0.mk (below_step (by repeat (first | (with_reducible first | exact HB.out | apply below_alloc | apply pw_below_drewN | apply below_drew1) | exact HB.out)) hb); have n1_ := Aside0.mk (hbox); have n2_ := Aside0.mk ((by rw [hg]; exact (below_size (by repeat (first | (with_reducible first | exact HB.out | apply below_alloc | apply pw_below_drewN | apply below_drew1) | exact HB.out))) : w.heap.size ≤ gb101)); have n3_ := Aside0.mk ((by rw [hg]; exact (below_size (by repeat (first | (with_reducible first | exact HB.out | apply below_alloc | apply pw_below_drewN | apply below_drew1) | exact HB.out))) : w.heap.size ≤ gb101)); clear HB; have HB := n0_; have BK101 := n1_; have GW101 := n2_; have GE101 := n3_; clear n0_ n1_ n2_ n3_; clear hb hbox hg; have hcz4_0 : w3.cell? ⟨gb101, 0, none⟩ = some (.int .i64 a0_0) := (blk_cell BK101.out 0).trans rfl; have hcz4_1 : w3.cell? ⟨gb101, 1, none⟩ = some (.slice A0_1 l0_1.length c0_1) := (blk_cell BK101.out 1).trans rfl; have hcz4_2 : w3.cell? ⟨gb101, 2, none⟩ = some (.slice A0_2 l0_2.length c0_2) := (blk_cell BK101.out 2).trans rfl; have hfz4_0 := blk_frozen BK101.out 0; have hfz4_1 := blk_frozen BK101.out 1; have hfz4_2 := blk_frozen BK101.out 2))
  (try simp only [Act.put, List.setIfInBounds_toArray, List.set_cons_zero, List.set_cons_succ])
  go_cut [16] (fun v16 wc => ∃ (kq : Nat) (x16_1 : Bool), v16 = .bool x16_1 ∧ Aside0 (hachurelaw21_light.j0 kq (l0_1.length : Int) x16_1 a0_0 l0_1 l0_2 = some r) ∧ Aside0 (kq ≤ k) ∧ Aside0 (wc.heap[gb101]? = some (.cells #[.int .i64 a0_0, (.slice A0_1 l0_1.length c0_1), (.slice A0_2 l0_2.length c0_2)] 46 (0, 0))) ∧ Aside0 (Below w.heap.size w wc))
  case first =>
    have H := HC2.out
    clear HC2
    by_cases c5 : (l0_2.length : Int) > 20
    · rw [if_pos c5] at H
      have c5b0 : decide (20 < (l0_2.length : Int)) = true := decide_eq_true c5
      have c5b1 : decide (20 < l0_2.length) = true := decide_eq_true (by omega)
      clear c5
      (first | rw [c5b0] | (simp only [i64_w, i32_w]; rw [c5b0]) | skip)
      have H' := Aside0.mk H
      clear H
      have hcz6_0 : w3.cell? ⟨gb101, 0, none⟩ = some (.int .i64 a0_0) := (blk_cell BK101.out 0).trans rfl
      have hcz6_1 : w3.cell? ⟨gb101, 1, none⟩ = some (.slice A0_1 l0_1.length c0_1) := (blk_cell BK101.out 1).trans rfl
      have hcz6_2 : w3.cell? ⟨gb101, 2, none⟩ = some (.slice A0_2 l0_2.length c0_2) := (blk_cell BK101.out 2).trans rfl
      have hfz6_0 := blk_frozen BK101.out 0
      have hfz6_1 := blk_frozen BK101.out 1
      have hfz6_2 := blk_frozen BK101.out 2
      go_wp2
      go_meet
      case rel => exact ⟨_, (true), (by first | rfl | (simp; done) | (simp [*]; done)), H', ⟨by first | omega | exact Nat.le_refl _⟩, ⟨by (with_reducible repeat (first | refine blk_drewN ?_ _ | refine blk_drew ?_ | refine blk_alloc ?_ _)); exact BK101.out⟩, ⟨by repeat (first | (with_reducible first | exact HB.out | apply below_alloc | apply pw_below_drewN | apply below_drew1 | refine below_set ?_ GE101.out) | exact HB.out)⟩⟩
    · rw [if_neg c5] at H
      have c5b0 : decide (20 < (l0_2.length : Int)) = false := decide_eq_false c5
      have c5b1 : decide (20 < l0_2.length) = false := decide_eq_false (by omega)
      clear c5
      (first | rw [c5b0] | (simp only [i64_w, i32_w]; rw [c5b0]) | skip)
      have H' := Aside0.mk H
      clear H
      have hcz7_0 : w3.cell? ⟨gb101, 0, none⟩ = some (.int .i64 a0_0) := (blk_cell BK101.out 0).trans rfl
      have hcz7_1 : w3.cell? ⟨gb101, 1, none⟩ = some (.slice A0_1 l0_1.length c0_1) := (blk_cell BK101.out 1).trans rfl
      have hcz7_2 : w3.cell? ⟨gb101, 2, none⟩ = some (.slice A0_2 l0_2.length c0_2) := (blk_cell BK101.out 2).trans rfl
      have hfz7_0 := blk_frozen BK101.out 0
      have hfz7_1 := blk_frozen BK101.out 1
      have hfz7_2 := blk_frozen BK101.out 2
      go_wp2
      go_meet
      case rel => exact ⟨_, (decide ((l0_1.length : Int) > 25000)), (by first | rfl | (simp; done) | (simp [*]; done)), H', ⟨by first | omega | exact Nat.le_refl _⟩, ⟨by (with_reducible repeat (first | refine blk_drewN ?_ _ | refine blk_drew ?_ | refine blk_alloc ?_ _)); exact BK101.out⟩, ⟨by repeat (first | (with_reducible first | exact HB.out | apply below_alloc | apply pw_below_drewN | apply below_drew1 | refine below_set ?_ GE101.out) | exact HB.out)⟩⟩
  case rest =>
    clear HC2
    try clear c2
    try clear p2
    try clear c5
    try clear c5b0
    try clear c5b1
    try clear hcz4_0
    try clear hcz4_1
    try clear hcz4_2
    try clear hcz6_0
    try clear hcz6_1
    try clear hcz6_2
    try clear hcz7_0
    try clear hcz7_1
    try clear hcz7_2
    try clear hfz4_0
    try clear hfz4_1
    try clear hfz4_2
    try clear hfz6_0
    try clear hfz6_1
    try clear hfz6_2
    try clear hfz7_0
    try clear hfz7_1
    try clear hfz7_2
    obtain ⟨kq, x16_1, rfl, HA, HJ1, BK101, HB⟩ := hcut
    cases kq with
    | zero => exact absurd HA.out (by simp [hachurelaw21_light.j0])
    | succ kj1 =>
      have H := HA.out
      clear HA
      simp only [hachurelaw21_light.j0] at H
      by_cases c8 : x16_1 = true
      · subst c8
        have H1 : (some false) = some r := by rw [if_pos rfl] at H; exact H
        clear H
        have H := H1
        clear H1
        obtain rfl := Option.some.inj H
        go_wp2
        go_ret
        exact ⟨by first | rfl | (simp [errW_none, errW_some] <;> rfl) | (simp [*, errW_none, errW_some] <;> rfl), by repeat (first | (with_reducible first | exact HB.out | apply below_alloc | apply pw_below_drewN | apply below_drew1 | refine below_set ?_ GE101.out) | exact HB.out)⟩
      · replace c8 := Bool.eq_false_iff.mpr c8
        subst c8
        have H1 : (hachurelaw21_light.l0 kj1 (l0_1.length : Int) l0_2 (l0_2.length : Int) 0) = some r := by rw [if_neg (show ¬ (false = true) by decide)] at H; exact H
        clear H
        have H := H1
        clear H1
        have H' := Aside0.mk H
        clear H
        have hcz9_0 : wc.cell? ⟨gb101, 0, none⟩ = some (.int .i64 a0_0) := (blk_cell BK101.out 0).trans rfl
        have hcz9_1 : wc.cell? ⟨gb101, 1, none⟩ = some (.slice A0_1 l0_1.length c0_1) := (blk_cell BK101.out 1).trans rfl
        have hcz9_2 : wc.cell? ⟨gb101, 2, none⟩ = some (.slice A0_2 l0_2.length c0_2) := (blk_cell BK101.out 2).trans rfl
        have hfz9_0 := blk_frozen BK101.out 0
        have hfz9_1 := blk_frozen BK101.out 1
        have hfz9_2 := blk_frozen BK101.out 2
        go_wp2
        go_loopg [3, 20] kj1 (fun kq v3 v20 w' => ∃ (x3_2 : Int) (x20_2 : Int), v3 = .int .i64 x3_2 ∧ v20 = .int .i64 x20_2 ∧ Aside0 (hachurelaw21_light.l0 kq x3_2 l0_2 (l0_2.length : Int) x20_2 = some r) ∧ Aside0 (kq ≤ kj1) ∧ Aside0 (w'.heap[gb101]? = some (.cells #[.int .i64 a0_0, (.slice A0_1 l0_1.length c0_1), (.slice A0_2 l0_2.length c0_2)] 46 (0, 0))) ∧ Aside0 (Below w.heap.size w w'))
        case atStart => exact ⟨((l0_1.length : Int)), (0), (by first | rfl | (simp; done) | (simp [*]; done)), (by first | rfl | (simp; done) | (simp [*]; done)), H', ⟨Nat.le_refl _⟩, ⟨by (with_reducible repeat (first | refine blk_drewN ?_ _ | refine blk_drew ?_ | refine blk_alloc ?_ _)); exact BK101.out⟩, ⟨by repeat (first | (with_reducible first | exact HB.out | apply below_alloc | apply pw_below_drewN | apply below_drew1 | refine below_set ?_ GE101.out) | exact HB.out)⟩⟩
        case round =>
          clear H'
          try clear c2
          try clear p2
          try clear c5
          try clear c5b0
          try clear c5b1
          try clear c8
          try clear hcz4_0
          try clear hcz4_1
          try clear hcz4_2
          try clear hcz6_0
          try clear hcz6_1
          try clear hcz6_2
          try clear hcz7_0
          try clear hcz7_1
          try clear hcz7_2
          try clear hcz9_0
          try clear hcz9_1
          try clear hcz9_2
          try clear hfz4_0
          try clear hfz4_1
          try clear hfz4_2
          try clear hfz6_0
          try clear hfz6_1
          try clear hfz6_2
          try clear hfz7_0
          try clear hfz7_1
          try clear hfz7_2
          try clear hfz9_0
          try clear hfz9_1
          try clear hfz9_2
          try clear p2
          obtain ⟨x3_2, x20_2, rfl, rfl, HA, HK2, BK101, HB⟩ := hrel
          cases gk with
          | zero => exact absurd HA.out (by simp [hachurelaw21_light.l0])
          | succ k2 =>
            have H := HA.out
            clear HA
            simp only [hachurelaw21_light.l0] at H
            by_cases c10 : x20_2 < (l0_2.length : Int)
            · rw [if_pos c10] at H
              have c10b0 : decide (x20_2 < (l0_2.length : Int)) = true := decide_eq_true c10
              clear c10
              by_cases c11 : 0 ≤ x20_2
              · rw [if_pos c11] at H
                have c11b0 : decide (0 ≤ x20_2) = true := decide_eq_true c11
                clear c11
                by_cases c12 : x20_2 < (l0_2.length : Int)
                · rw [if_pos c12] at H
                  have c12b0 : decide (x20_2 < (l0_2.length : Int)) = true := decide_eq_true c12
                  clear c12
                  by_cases c13 : (wrap64 (x3_2 + (((rd_T51 l0_2 x20_2).f2).size : Int))) > 30000
                  · rw [if_pos c13] at H
                    have c13b0 : decide (30000 < (wrap64 (x3_2 + (((rd_T51 l0_2 x20_2).f2).size : Int)))) = true := decide_eq_true c13
                    clear c13
                    obtain rfl := Option.some.inj H
                    have p102 : 0 ≤ (x20_2 : Int) := of_decide_eq_true (by first | (with_reducible assumption) | assumption)
                    have q102 : x20_2 < (l0_2.length : Int) := of_decide_eq_true (by first | (with_reducible assumption) | assumption)
                    obtain ⟨ad102, e102, hx102_0, hx102_1, hx102_2⟩ := at_T51 HR0_2.out x20_2 p102 q102
                    cases e102
                    replace hx102_0 := (HB.out.cell (World.block_lt_of_cell? w _ hx102_0)).trans hx102_0
                    replace hx102_1 := (HB.out.cell (World.block_lt_of_cell? w _ hx102_1)).trans hx102_1
                    replace hx102_2 := (HB.out.cell (World.block_lt_of_cell? w _ hx102_2)).trans hx102_2
                    replace p102 := eq_true p102
                    replace q102 := eq_true q102
                    go_wp2_with (first | ((with_reducible refine gate_dst (N := 5) rfl ?_); refine box_event ?hg (N := 5) ?hd (cs := #[.int .i64 0, .int .i64 0, .string (⟨#[]⟩ : ByteArray)]) (t := 51) ?hr ?_; (case hd => rfl); (case hg => rfl); (case hr => first | (go_simp; done) | (go_simp; rfl)); intro gb103 hg w14 hbox hb; have n0_ := Aside0.mk (blk_below (g := gb101) (o := .cells #[.int .i64 a0_0, .slice A0_1 l0_1.length c0_1, .slice (some ad102) l0_2.length c0_2] 46 (0, 0)) (by (with_reducible repeat (first | refine blk_drewN ?_ _ | refine blk_drew ?_ | refine blk_alloc ?_ _)); exact BK101.out) hb); have n1_ := Aside0.mk (below_step (by repeat (first | (with_reducible first | exact HB.out | apply below_alloc | apply pw_below_drewN | apply below_drew1 | refine below_set ?_ GE101.out) | exact HB.out)) hb); have n2_ := Aside0.mk (hbox); have n3_ := Aside0.mk ((by rw [hg]; exact (below_size (by repeat (first | (with_reducible first | exact HB.out | apply below_alloc | apply pw_below_drewN | apply below_drew1 | refine below_set ?_ GE101.out) | exact HB.out))) : w.heap.size ≤ gb103)); have n4_ := Aside0.mk ((by rw [hg]; exact (below_size (by repeat (first | (with_reducible first | exact HB.out | apply below_alloc | apply pw_below_drewN | apply below_drew1 | refine below_set ?_ GE101.out) | exact HB.out))) : w.heap.size ≤ gb103)); have n5_ := Aside0.mk ((by rw [hg]; exact Nat.ne_of_lt (blk_lt (g := gb101) (o := .cells #[.int .i64 a0_0, .slice A0_1 l0_1.length c0_1, .slice (some ad102) l0_2.length c0_2] 46 (0, 0)) (by (with_reducible repeat (first | refine blk_drewN ?_ _ | refine blk_drew ?_ | refine blk_alloc ?_ _)); exact BK101.out)) : gb101 ≠ gb103)); have n6_ := Aside0.mk ((by rw [hg]; exact Nat.ne_of_gt (blk_lt (g := gb101) (o := .cells #[.int .i64 a0_0, .slice A0_1 l0_1.length c0_1, .slice (some ad102) l0_2.length c0_2] 46 (0, 0)) (by (with_reducible repeat (first | refine blk_drewN ?_ _ | refine blk_drew ?_ | refine blk_alloc ?_ _)); exact BK101.out)) : gb103 ≠ gb101)); clear BK101; clear HB; have BK101 := n0_; have HB := n1_; have BK103 := n2_; have GW103 := n3_; have GE103 := n4_; have NB101_103 := n5_; have NB103_101 := n6_; clear n0_ n1_ n2_ n3_ n4_ n5_ n6_; clear hb hbox hg; have hnb15 := NB103_101.out; have hnc15 := NB101_103.out; have hcz16_0 : w14.cell? ⟨gb103, 0, none⟩ = some (.int .i64 0) := (blk_cell BK103.out 0).trans rfl; have hcz16_1 : w14.cell? ⟨gb103, 1, none⟩ = some (.int .i64 0) := (blk_cell BK103.out 1).trans rfl; have hcz16_2 : w14.cell? ⟨gb103, 2, none⟩ = some (.string (⟨#[]⟩ : ByteArray)) := (blk_cell BK103.out 2).trans rfl; have hfz16_0 := blk_frozen BK103.out 0; have hfz16_1 := blk_frozen BK103.out 1; have hfz16_2 := blk_frozen BK103.out 2))
                    go_ret
                    exact ⟨by first | rfl | (simp [errW_none, errW_some] <;> rfl) | (simp [*, errW_none, errW_some] <;> rfl), by repeat (first | (with_reducible first | exact HB.out | apply below_alloc | apply pw_below_drewN | apply below_drew1 | refine below_set ?_ GE101.out | refine below_set ?_ GE103.out) | exact HB.out)⟩
                  · rw [if_neg c13] at H
                    have c13b0 : decide (30000 < (wrap64 (x3_2 + (((rd_T51 l0_2 x20_2).f2).size : Int)))) = false := decide_eq_false c13
                    clear c13
                    have H' := Aside0.mk H
                    clear H
                    have p102 : 0 ≤ (x20_2 : Int) := of_decide_eq_true (by first | (with_reducible assumption) | assumption)
                    have q102 : x20_2 < (l0_2.length : Int) := of_decide_eq_true (by first | (with_reducible assumption) | assumption)
                    obtain ⟨ad102, e102, hx102_0, hx102_1, hx102_2⟩ := at_T51 HR0_2.out x20_2 p102 q102
                    cases e102
                    replace hx102_0 := (HB.out.cell (World.block_lt_of_cell? w _ hx102_0)).trans hx102_0
                    replace hx102_1 := (HB.out.cell (World.block_lt_of_cell? w _ hx102_1)).trans hx102_1
                    replace hx102_2 := (HB.out.cell (World.block_lt_of_cell? w _ hx102_2)).trans hx102_2
                    replace p102 := eq_true p102
                    replace q102 := eq_true q102
                    go_wp2_with (first | ((with_reducible refine gate_dst (N := 5) rfl ?_); refine box_event ?hg (N := 5) ?hd (cs := #[.int .i64 0, .int .i64 0, .string (⟨#[]⟩ : ByteArray)]) (t := 51) ?hr ?_; (case hd => rfl); (case hg => rfl); (case hr => first | (go_simp; done) | (go_simp; rfl)); intro gb103 hg w17 hbox hb; have n0_ := Aside0.mk (blk_below (g := gb101) (o := .cells #[.int .i64 a0_0, .slice A0_1 l0_1.length c0_1, .slice (some ad102) l0_2.length c0_2] 46 (0, 0)) (by (with_reducible repeat (first | refine blk_drewN ?_ _ | refine blk_drew ?_ | refine blk_alloc ?_ _)); exact BK101.out) hb); have n1_ := Aside0.mk (below_step (by repeat (first | (with_reducible first | exact HB.out | apply below_alloc | apply pw_below_drewN | apply below_drew1 | refine below_set ?_ GE101.out) | exact HB.out)) hb); have n2_ := Aside0.mk (hbox); have n3_ := Aside0.mk ((by rw [hg]; exact (below_size (by repeat (first | (with_reducible first | exact HB.out | apply below_alloc | apply pw_below_drewN | apply below_drew1 | refine below_set ?_ GE101.out) | exact HB.out))) : w.heap.size ≤ gb103)); have n4_ := Aside0.mk ((by rw [hg]; exact (below_size (by repeat (first | (with_reducible first | exact HB.out | apply below_alloc | apply pw_below_drewN | apply below_drew1 | refine below_set ?_ GE101.out) | exact HB.out))) : w.heap.size ≤ gb103)); have n5_ := Aside0.mk ((by rw [hg]; exact Nat.ne_of_lt (blk_lt (g := gb101) (o := .cells #[.int .i64 a0_0, .slice A0_1 l0_1.length c0_1, .slice (some ad102) l0_2.length c0_2] 46 (0, 0)) (by (with_reducible repeat (first | refine blk_drewN ?_ _ | refine blk_drew ?_ | refine blk_alloc ?_ _)); exact BK101.out)) : gb101 ≠ gb103)); have n6_ := Aside0.mk ((by rw [hg]; exact Nat.ne_of_gt (blk_lt (g := gb101) (o := .cells #[.int .i64 a0_0, .slice A0_1 l0_1.length c0_1, .slice (some ad102) l0_2.length c0_2] 46 (0, 0)) (by (with_reducible repeat (first | refine blk_drewN ?_ _ | refine blk_drew ?_ | refine blk_alloc ?_ _)); exact BK101.out)) : gb103 ≠ gb101)); clear BK101; clear HB; have BK101 := n0_; have HB := n1_; have BK103 := n2_; have GW103 := n3_; have GE103 := n4_; have NB101_103 := n5_; have NB103_101 := n6_; clear n0_ n1_ n2_ n3_ n4_ n5_ n6_; clear hb hbox hg; have hnb18 := NB103_101.out; have hnc18 := NB101_103.out; have hcz19_0 : w17.cell? ⟨gb103, 0, none⟩ = some (.int .i64 0) := (blk_cell BK103.out 0).trans rfl; have hcz19_1 : w17.cell? ⟨gb103, 1, none⟩ = some (.int .i64 0) := (blk_cell BK103.out 1).trans rfl; have hcz19_2 : w17.cell? ⟨gb103, 2, none⟩ = some (.string (⟨#[]⟩ : ByteArray)) := (blk_cell BK103.out 2).trans rfl; have hfz19_0 := blk_frozen BK103.out 0; have hfz19_1 := blk_frozen BK103.out 1; have hfz19_2 := blk_frozen BK103.out 2))
                    go_roundg k2
                    case measure => have := HJ1.out; have := HK2.out; omega
                    case rel => exact ⟨(wrap64 (x3_2 + (((rd_T51 l0_2 x20_2).f2).size : Int))), (wrap64 (x20_2 + 1)), (by first | rfl | (simp; done) | (simp [*]; done)), (by first | rfl | (simp; done) | (simp [*]; done)), H', ⟨by have := HJ1.out; have := HK2.out; omega⟩, ⟨by (with_reducible repeat (first | refine blk_drewN ?_ _ | refine blk_drew ?_ | refine blk_alloc ?_ _)); refine blk_far ?_ NB101_103.out _; (with_reducible repeat (first | refine blk_drewN ?_ _ | refine blk_drew ?_ | refine blk_alloc ?_ _)); refine blk_far ?_ NB101_103.out _; (with_reducible repeat (first | refine blk_drewN ?_ _ | refine blk_drew ?_ | refine blk_alloc ?_ _)); refine blk_far ?_ NB101_103.out _; (with_reducible repeat (first | refine blk_drewN ?_ _ | refine blk_drew ?_ | refine blk_alloc ?_ _)); exact BK101.out⟩, ⟨by repeat (first | (with_reducible first | exact HB.out | apply below_alloc | apply pw_below_drewN | apply below_drew1 | refine below_set ?_ GE101.out | refine below_set ?_ GE103.out) | exact HB.out)⟩⟩
                · rw [if_neg c12] at H
                  exact absurd H (by simp)
              · rw [if_neg c11] at H
                exact absurd H (by simp)
            · rw [if_neg c10] at H
              have c10b0 : decide (x20_2 < (l0_2.length : Int)) = false := decide_eq_false c10
              clear c10
              obtain rfl := Option.some.inj H
              go_wp2
              go_ret
              exact ⟨by first | rfl | (simp [errW_none, errW_some] <;> rfl) | (simp [*, errW_none, errW_some] <;> rfl), by repeat (first | (with_reducible first | exact HB.out | apply below_alloc | apply pw_below_drewN | apply below_drew1 | refine below_set ?_ GE101.out) | exact HB.out)⟩

-- NOT PRINTED: function 60 (value_of)

-- NOT PRINTED: function 31 (value_Good)

-- NOT PRINTED: function 113 (slices_Clone_byte_byte)

end Go.Proofs.YtcjidlgmbjebjaaDoor.PValueForms

namespace Go.Proofs.YtcjidlgmbjebjaaDoor
open Go Go.RowKit Go.Proofs.YtcjidlgmbjebjaaDoorW.PrintWords Go.Proofs.YtcjidlgmbjebjaaDoorW.PrintMore
theorem wrap_succ (i : Nat) (h : i < 9223372036854775807) : wrap64 ((i : Int) + 1) = ((i + 1 : Nat) : Int) := by unfold wrap64; omega
end Go.Proofs.YtcjidlgmbjebjaaDoor

namespace Go.Proofs.YtcjidlgmbjebjaaDoor
open Go Go.RowKit Go.Proofs.YtcjidlgmbjebjaaDoorW.PrintWords Go.Proofs.YtcjidlgmbjebjaaDoorW.PrintMore
theorem light_l0 (x0 : List Va) (hm : x0.length ≤ 9223372036854775807) : ∀ (d i : Nat) (s : Int), i + d = x0.length → ∃ r, PValueForms.hachurelaw21_light.l0 (d + 1) s x0 (x0.length : Int) (i : Int) = some r
  | 0, i, s, h => by
    rw [PValueForms.hachurelaw21_light.l0, if_neg (by omega)]
    exact ⟨_, rfl⟩
  | d + 1, i, s, h => by
    rw [PValueForms.hachurelaw21_light.l0, if_pos (by omega), if_pos (by omega), if_pos (by omega)]
    split
    · exact ⟨_, rfl⟩
    · rw [wrap_succ i (by omega)]
      exact light_l0 x0 hm d (i + 1) _ (by omega)
theorem light_some (a : Int) (l : List Int) (vs : List Va) (hm : vs.length ≤ 9223372036854775807) : ∃ k r, PValueForms.hachurelaw21_light.f k a l vs = some r := by
  by_cases h1 : (vs.length : Int) > 20
  · refine ⟨1, false, ?_⟩
    unfold PValueForms.hachurelaw21_light.f
    rw [if_pos h1, PValueForms.hachurelaw21_light.j0, if_pos rfl]
  · by_cases h2 : (l.length : Int) > 25000
    · refine ⟨1, false, ?_⟩
      unfold PValueForms.hachurelaw21_light.f
      rw [if_neg h1, PValueForms.hachurelaw21_light.j0, if_pos (by simpa using h2)]
    · obtain ⟨r, hr⟩ := light_l0 vs hm vs.length 0 (l.length : Int) (by omega)
      refine ⟨vs.length + 2, r, ?_⟩
      unfold PValueForms.hachurelaw21_light.f
      rw [if_neg h1, PValueForms.hachurelaw21_light.j0, if_neg (by simpa using h2)]
      exact hr
end Go.Proofs.YtcjidlgmbjebjaaDoor

namespace Go.Proofs.YtcjidlgmbjebjaaDoor
open Go Go.RowKit Go.Proofs.YtcjidlgmbjebjaaDoorW.PrintWords Go.Proofs.YtcjidlgmbjebjaaDoorW.PrintMore
def FeatOk (w : World) (A : Option Addr) (cb : Nat) (lb : List Int) (pa : Option Addr) (cap : Nat) (vs : List Va) : Prop :=
  Kd.C (Kd.int .u8) w A lb.length lb ∧ lb.length ≤ cb ∧ VsV w (.slice pa vs.length cap) vs ∧ vs.length ≤ cap ∧ Kd.C PValueForms.k51 w pa vs.length vs
theorem vsV_stays {w w' : World} {v : Value} {vs : List Va} (h : VsV w v vs) (hb : Below w.heap.size w w') : VsV w' v vs := by
  obtain ⟨pa, b, o, cap, hv, h1, h2, h3⟩ := h
  exact ⟨pa, b, o, cap, hv, h1, h2, fun i x hx => va_stays (h3 i x hx) hb⟩
theorem featOk_stays {w w' : World} {A : Option Addr} {cb : Nat} {lb : List Int} {pa : Option Addr} {cap : Nat} {vs : List Va} (h : FeatOk w A cb lb pa cap vs) (hb : Below w.heap.size w w') : FeatOk w' A cb lb pa cap vs :=
  ⟨Kd.C_below h.1 hb, h.2.1, vsV_stays h.2.2.1 hb, h.2.2.2.1, Kd.C_below h.2.2.2.2 hb⟩
theorem conv_eq {w : World} {base m c : Nat} {p : Option Addr} {l : List Int} (h : Row w base (.slice p m c) l) (hm : l.length ≤ 9223372036854775807) : (Go.convert 43 9 (.slice p m c)).run Tryd.prog w = .ok (.string (strOfNums l)) w := by
  obtain ⟨rfl, _, hC⟩ := row_C h hm
  exact Kd.C_string Tryd.underlying43 Tryd.underlying5 Tryd.underlying9 hC
theorem feat_len (lb : List Int) (vs : List Va) : (featB lb vs).length ≤ 9223372036854775807 := by
  by_cases h1 : vs.length ≤ 4
  · by_cases h2 : lb.length ≤ 20000
    · by_cases h3 : ∀ x ∈ vs, goodX x = true
      · rw [feat_ok h1 h2 h3]
        have hv := varB_len (lb.length : Int)
        have : ∀ l : List Va, (∀ x ∈ l, goodX x = true) → (vsB l).length ≤ l.length * 221 := by
          intro l
          induction l with
          | nil => intro _; simp [vsB]
          | cons a l ih =>
            intro h
            have e : vsB (a :: l) = elB a ++ vsB l := by simp [vsB]
            have h1 := ih fun x hx => h x (List.mem_cons_of_mem _ hx)
            have h2 := valB_len (h a List.mem_cons_self)
            rw [e, List.length_append]
            simp only [elB, List.length_cons]
            rw [Nat.add_mul]; omega
        have h4 := this vs h3
        simp only [List.length_append, List.length_cons, List.length_nil]
        omega
      · obtain ⟨x, hx, hb⟩ : ∃ x ∈ vs, goodX x = false := by
          apply Classical.byContradiction
          intro hn
          exact h3 fun x hx => by
            cases hg : goodX x with
            | true => rfl
            | false => exact absurd ⟨x, hx, hg⟩ hn
        obtain ⟨i, hi, rfl⟩ := List.getElem_of_mem hx
        rw [feat_bad (List.getElem?_eq_getElem hi) hb]; decide
    · rw [feat_long h2]; decide
  · rw [feat_many h1]; decide
end Go.Proofs.YtcjidlgmbjebjaaDoor

namespace Go.Proofs.YtcjidlgmbjebjaaDoor
open Go Go.RowKit Go.Proofs.YtcjidlgmbjebjaaDoorW.PrintWords Go.Proofs.YtcjidlgmbjebjaaDoorW.PrintMore
theorem lives_feat : strOfNums (featB [] [⟨1, 5, ⟨#[]⟩⟩]) = ⟨#[0, 1, 1, 0, 0, 0, 0, 0, 0, 0, 5]⟩ := by kernel_rfl
theorem lives_print : prV 2 0 ⟨#[97, 34, 98]⟩ = ⟨#[34, 97, 92, 34, 98, 34]⟩ := by kernel_rfl
set_option maxHeartbeats 4000000 in
theorem lives21 (W : World) (hp : PowIs W) : Calls Tryd.prog 24 #[] W (TrueBelow W) := by
  have hv : VsV (W.alloc (.cells #[.int .i64 1, .int .i64 5, .string ⟨#[]⟩] 51)) (.slice (some ⟨W.heap.size, 0, none⟩) 1 1) [⟨1, 5, ⟨#[]⟩⟩] :=
    ⟨_, W.heap.size, 0, 1, rfl, Nat.le_refl _, fun _ => rfl, fun i x hx => by
      match i, hx with
      | 0, hx => simp at hx; subst hx; exact ⟨by simp, by simp, by simp⟩⟩
  have hx := fbytes_val 0 none 0 [] _ [⟨1, 5, ⟨#[]⟩⟩] _ (C_nil _) hv (by intro x hx; simp at hx; subst hx; decide) (by decide)
  have HX := Lib.hid hx
  have HF := Lib.hid (feat_len [] [⟨1, 5, ⟨#[]⟩⟩])
  have HP := Lib.hid (fun (w' : World) (h : Below W.heap.size W w') => print_val 2 0 ⟨#[97, 34, 98]⟩ w' (by decide) (by decide) (by decide) (pow_stays hp h))
  rw [lives_print] at HP
  clear hx hv hp
  unfold featV at HX
  go_enter Tryd.func24, Tryd.ntmps24
  go_wp2_with fail
  refine HX.out.mono ?_
  rintro e w1 ⟨v1, rfl, hr1, hb1⟩
  obtain ⟨p1, c1, hv1⟩ := row_shape hr1
  have e1 := conv_eq (by rw [← hv1]; exact hr1) HF.out
  rw [lives_feat] at e1
  generalize (featB [] [⟨1, 5, ⟨#[]⟩⟩]).length = M at hv1 e1
  subst hv1
  have hB1 := below_step (show Below W.heap.size W _ from by go_grown) hb1
  clear hr1 hb1
  dsimp only
  go_wp2_with fail
  refine (HP.out _ hB1).mono ?_
  rintro e w2 ⟨rfl, hb2⟩
  have hB2 := below_step hB1 hb2
  clear hb2
  dsimp only
  go_wp2_with fail
  go_ret
  exact ⟨rfl, hB2⟩
end Go.Proofs.YtcjidlgmbjebjaaDoor

namespace Go.Proofs.YtcjidlgmbjebjaaDoor.Sb
open Go
abbrev Col := ByteArray × Int × Bool
abbrev Src := Int × List Int
def sTake (n : Nat) (s : Src) : List Int × Src := if s.1 = 0 then (if s.2.length < n then ([], (8, [])) else (s.2.take n, (0, s.2.drop n))) else ([], s)
def sByte (s : Src) : Int × Src := ((sTake 1 s).1.headD 0, (sTake 1 s).2)
def be (l : List Int) : Int := l.foldl (fun n b => n * 256 + b) 0
def i64of (n : Int) : Int := if n < 9223372036854775808 then n else n - 18446744073709551616
def sInt (s : Src) : Int × Src := (i64of (be (sTake 8 s).1), (sTake 8 s).2)
def sName (s : Src) : ByteArray × Src := (strOfNums (sTake (sByte s).1.toNat (sByte s).2).1, (sTake (sByte s).1.toNat (sByte s).2).2)
def sCol (s : Src) : Col × Src := (((sName s).1, (sByte (sName s).2).1, decide ((sByte (sByte (sName s).2).2).1 = 1)), (sByte (sByte (sName s).2).2).2)
def sCols : Nat → Src → List Col × Src
  | 0, s => ([], s)
  | n + 1, s => if s.1 = 0 then ((sCol s).1 :: (sCols n (sCol s).2).1, (sCols n (sCol s).2).2) else ([], s)
structure Ent where
  nm : ByteArray
  kd : Int
  srs : Int
  cs : List Col
  id : Int
  tb : Int
  t0 : Int
  t1 : Int
  t2 : Int
  ct : Int
  nx : Int
  bn : Bool
  lx : Int
  ly : Int
  hx : Int
  hy : Int
def Ent.zero : Ent := ⟨⟨#[]⟩, 0, 0, [], 0, 0, 0, 0, 0, 0, 0, false, 0, 0, 0, 0⟩
def putB (n : Int) : List Int := [n / 72057594037927936 % 256, n / 281474976710656 % 256, n / 1099511627776 % 256, n / 4294967296 % 256, n / 16777216 % 256, n / 65536 % 256, n / 256 % 256, n % 256]
def u64of (n : Int) : Int := n % 18446744073709551616
def bytesOf (s : ByteArray) : List Int := s.data.toList.map fun b => (b.toNat : Int)
def nmB (s : ByteArray) : List Int := (s.size : Int) :: bytesOf s
def colB (c : Col) : List Int := nmB c.1 ++ [c.2.1, if c.2.2 then 1 else 0]
def colsB (cs : List Col) : List Int := cs.flatMap colB
def numB (n : Int) : List Int := putB (u64of n)
def numsB (e : Ent) : List Int := numB e.id ++ (numB e.tb ++ (numB e.t0 ++ (numB e.t1 ++ (numB e.t2 ++ (numB e.ct ++ numB e.nx)))))
def boxB (e : Ent) : List Int := if e.bn then [] else numB e.lx ++ (numB e.hx ++ (numB e.ly ++ numB e.hy))
def body (e : Ent) : List Int := nmB e.nm ++ (e.kd :: (numB e.srs ++ ((e.cs.length : Int) :: (colsB e.cs ++ (numsB e ++ ((if e.bn then 0 else 1) :: boxB e))))))
def boxOf (l : List Int) : Option (Int × Int × Int × Int) :=
  if l.length = 32 then
    (if (sInt (0, l)).1 ≤ (sInt (sInt (0, l)).2).1 ∧ (sInt (sInt (sInt (0, l)).2).2).1 ≤ (sInt (sInt (sInt (sInt (0, l)).2).2).2).1 then
      some ((sInt (0, l)).1, (sInt (sInt (sInt (0, l)).2).2).1, (sInt (sInt (0, l)).2).1, (sInt (sInt (sInt (sInt (0, l)).2).2).2).1)
    else none) else none
def rHead (b : List Int) : Ent × Src :=
  let a1 := sName (0, b)
  let a2 := sByte a1.2
  let a3 := sInt a2.2
  let a4 := sByte a3.2
  let a5 := sCols a4.1.toNat a4.2
  let n0 := sInt a5.2
  let n1 := sInt n0.2
  let n2 := sInt n1.2
  let n3 := sInt n2.2
  let n4 := sInt n3.2
  let n5 := sInt n4.2
  let n6 := sInt n5.2
  (⟨a1.1, a2.1, a3.1, a5.1, n0.1, n1.1, n2.1, n3.1, n4.1, n5.1, n6.1, true, 0, 0, 0, 0⟩, n6.2)
def withBox (e : Ent) (x : Int × Int × Int × Int) : Ent := { e with bn := false, lx := x.1, ly := x.2.1, hx := x.2.2.1, hy := x.2.2.2 }
def raw (b : List Int) : Option Ent × Src :=
  if (sByte (rHead b).2).1 = 1 then ((boxOf (sTake 32 (sByte (rHead b).2).2).1).map (withBox (rHead b).1), (sTake 32 (sByte (rHead b).2).2).2)
  else (some (rHead b).1, (sByte (rHead b).2).2)
def entB (ok : Ent → Bool) (e : Ent) : List Int := bif ok e then body e else []
def parse (ok : Ent → Bool) (b : List Int) : Option Ent :=
  match raw b with
  | (none, _) => none
  | (some e, s) => if s = (0, []) ∧ entB ok e = b then some e else none
def I64 (n : Int) : Prop := -9223372036854775808 ≤ n ∧ n ≤ 9223372036854775807
structure Fit (e : Ent) : Prop where
  srs : I64 e.srs
  id : I64 e.id
  tb : I64 e.tb
  t0 : I64 e.t0
  t1 : I64 e.t1
  t2 : I64 e.t2
  ct : I64 e.ct
  nx : I64 e.nx
  lx : I64 e.lx
  ly : I64 e.ly
  hx : I64 e.hx
  hy : I64 e.hy
  no : e.bn = true → e.lx = 0 ∧ e.ly = 0 ∧ e.hx = 0 ∧ e.hy = 0
  yes : e.bn = false → e.lx ≤ e.hx ∧ e.ly ≤ e.hy
theorem sTake_app (n : Nat) (a r : List Int) (h : a.length = n) : sTake n (0, a ++ r) = (a, (0, r)) := by
  subst h
  simp [sTake]
theorem sByte_app (x : Int) (r : List Int) : sByte (0, x :: r) = (x, (0, r)) := by
  have := sTake_app 1 [x] r rfl
  simp only [List.cons_append, List.nil_append] at this
  unfold sByte
  rw [this]; rfl
theorem be_put (n : Int) (h0 : 0 ≤ n) (h1 : n < 18446744073709551616) : be (putB n) = n := by
  simp only [be, putB, List.foldl]
  omega
theorem i64_u64 (n : Int) (h : I64 n) : i64of (u64of n) = n := by
  unfold I64 at h
  unfold i64of u64of
  split <;> omega
theorem sInt_app (n : Int) (h : I64 n) (r : List Int) : sInt (0, numB n ++ r) = (n, (0, r)) := by
  unfold sInt
  rw [sTake_app 8 (numB n) r rfl]
  show (i64of (be (putB (u64of n))), _) = _
  rw [be_put _ (by unfold u64of; omega) (by unfold u64of; omega), i64_u64 n h]
theorem str_bytes (s : ByteArray) : strOfNums (bytesOf s) = s := by
  unfold strOfNums bytesOf
  rw [List.map_map]
  have : ((fun n : Int => UInt8.ofNat n.toNat) ∘ fun b : UInt8 => (b.toNat : Int)) = id := by
    funext b
    simp
  rw [this, List.map_id]
theorem bytesOf_len (s : ByteArray) : (bytesOf s).length = s.size := by
  unfold bytesOf
  rw [List.length_map, Array.length_toList]; rfl
theorem sName_app (s : ByteArray) (r : List Int) : sName (0, nmB s ++ r) = (s, (0, r)) := by
  unfold sName nmB
  rw [List.cons_append, sByte_app]
  simp only [Int.toNat_natCast]
  rw [sTake_app _ _ _ (bytesOf_len s), str_bytes]
theorem sCol_app (c : Col) (r : List Int) : sCol (0, colB c ++ r) = (c, (0, r)) := by
  obtain ⟨n, k, m⟩ := c
  unfold sCol colB
  rw [List.append_assoc, sName_app]
  simp only [List.cons_append, List.nil_append, sByte_app]
  cases m <;> simp
theorem sCols_app (cs : List Col) : ∀ r : List Int, sCols cs.length (0, colsB cs ++ r) = (cs, (0, r)) := by
  induction cs with
  | nil => intro r; rfl
  | cons c cs ih =>
    intro r
    unfold colsB
    rw [List.length_cons, sCols, if_pos rfl, List.flatMap_cons, List.append_assoc, sCol_app]
    have := ih r
    unfold colsB at this
    rw [this]
theorem rHead_app (e : Ent) (f : Fit e) (r : List Int) :
    rHead (nmB e.nm ++ (e.kd :: (numB e.srs ++ ((e.cs.length : Int) :: (colsB e.cs ++ (numsB e ++ r)))))) = ({ e with bn := true, lx := 0, ly := 0, hx := 0, hy := 0 }, (0, r)) := by
  unfold rHead numsB
  simp only [List.append_assoc, sName_app, sByte_app, sInt_app _ f.srs, Int.toNat_natCast, sCols_app, sInt_app _ f.id, sInt_app _ f.tb, sInt_app _ f.t0, sInt_app _ f.t1, sInt_app _ f.t2, sInt_app _ f.ct, sInt_app _ f.nx]
theorem numB_len (n : Int) : (numB n).length = 8 := rfl
theorem boxOf_app (lx ly hx hy : Int) (h1 : I64 lx) (h2 : I64 ly) (h3 : I64 hx) (h4 : I64 hy) (a : lx ≤ hx) (b : ly ≤ hy) : boxOf (numB lx ++ (numB hx ++ (numB ly ++ numB hy))) = some (lx, ly, hx, hy) := by
  unfold boxOf
  rw [if_pos (by simp [numB_len])]
  have e : numB lx ++ (numB hx ++ (numB ly ++ numB hy)) = numB lx ++ (numB hx ++ (numB ly ++ (numB hy ++ []))) := by simp
  rw [e]
  simp only [sInt_app _ h1, sInt_app _ h2, sInt_app _ h3, sInt_app _ h4]
  rw [if_pos ⟨a, b⟩]
theorem raw_app (e : Ent) (f : Fit e) (r : List Int) : raw (body e ++ r) = (some e, (0, r)) := by
  have hb : body e ++ r = nmB e.nm ++ (e.kd :: (numB e.srs ++ ((e.cs.length : Int) :: (colsB e.cs ++ (numsB e ++ (((if e.bn then 0 else 1) :: boxB e) ++ r)))))) := by
    unfold body; simp
  unfold raw
  rw [hb, rHead_app e f, List.cons_append]
  dsimp only
  rw [sByte_app]
  cases hn : e.bn with
  | true =>
    obtain ⟨z1, z2, z3, z4⟩ := f.no hn
    simp only [if_true]
    rw [if_neg (by decide)]
    unfold boxB
    rw [hn]
    simp only [if_true, List.nil_append]
    cases e
    simp only at hn z1 z2 z3 z4
    subst hn z1 z2 z3 z4
    rfl
  | false =>
    obtain ⟨a, b⟩ := f.yes hn
    simp only [Bool.false_eq_true, if_false]
    rw [if_pos trivial]
    unfold boxB
    rw [hn]
    simp only [Bool.false_eq_true, if_false]
    rw [sTake_app 32 _ r rfl, boxOf_app _ _ _ _ f.lx f.ly f.hx f.hy a b]
    cases e
    simp only at hn
    subst hn
    rfl
theorem parse_some {ok : Ent → Bool} {b : List Int} {e : Ent} (h : parse ok b = some e) : raw b = (some e, (0, [])) ∧ entB ok e = b := by
  unfold parse at h
  split at h
  · cases h
  · rename_i e' s heq
    split at h
    · rename_i hc
      injection h with h
      subst h
      rw [heq, hc.1]
      exact ⟨rfl, hc.2⟩
    · cases h
theorem raw_nil : raw [] = (some { Ent.zero with bn := true }, (8, [])) := by rfl
theorem parse_nil (ok : Ent → Bool) : parse ok [] = none := by
  unfold parse
  rw [raw_nil]
  dsimp only
  rw [if_neg (fun h => by have := h.1; injection this with h1; cases h1)]
theorem no_prefix {ok : Ent → Bool} (hok : ∀ e, ok e = true → Fit e) {e e' : Ent} {r : List Int} (h : entB ok e = entB ok e' ++ r) (h1 : ok e = true) (h2 : ok e' = true) : r = [] := by
  have a1 : entB ok e = body e := by unfold entB; rw [h1]; rfl
  have a2 : entB ok e' = body e' := by unfold entB; rw [h2]; rfl
  have r1 := raw_app e (hok e h1) []
  have r2 := raw_app e' (hok e' h2) r
  rw [a1, a2] at h
  rw [List.append_nil, h, r2] at r1
  injection r1 with _ r1
  injection r1
theorem ok_of_ne {ok : Ent → Bool} {e : Ent} (h : entB ok e ≠ []) : ok e = true := by
  unfold entB at h
  cases ho : ok e with
  | true => rfl
  | false => rw [ho] at h; exact absurd rfl h
theorem parse_cut (ok : Ent → Bool) (hok : ∀ e, ok e = true → Fit e) (e : Ent) (n : Nat) (hn : n < (entB ok e).length) : parse ok ((entB ok e).take n) = none := by
  cases hp : parse ok ((entB ok e).take n) with
  | none => rfl
  | some e' =>
    exfalso
    obtain ⟨_, h2⟩ := parse_some hp
    have hne : (entB ok e).take n ≠ [] := by
      intro h0
      rw [h0, parse_nil] at hp
      cases hp
    have k2 : ok e' = true := ok_of_ne (by rw [h2]; exact hne)
    have k1 : ok e = true := ok_of_ne (by intro h0; rw [h0] at hn; simp at hn)
    have := no_prefix hok (e := e) (e' := e') (r := (entB ok e).drop n) (by rw [h2, List.take_append_drop]) k1 k2
    have hl := congrArg List.length this
    rw [List.length_drop] at hl
    simp at hl
    omega
theorem parse_more (ok : Ent → Bool) (hok : ∀ e, ok e = true → Fit e) (e : Ent) (x : Int) (r : List Int) (h : entB ok e ≠ []) : parse ok (entB ok e ++ x :: r) = none := by
  cases hp : parse ok (entB ok e ++ x :: r) with
  | none => rfl
  | some e' =>
    exfalso
    obtain ⟨_, h2⟩ := parse_some hp
    have k2 : ok e' = true := ok_of_ne (by rw [h2]; simp)
    have := no_prefix hok (e := e') (e' := e) (r := x :: r) h2 k2 (ok_of_ne h)
    cases this
end Go.Proofs.YtcjidlgmbjebjaaDoor.Sb

namespace Go.Proofs.YtcjidlgmbjebjaaDoor.Sb
open Go
def sizeV (n : Int) : Nat :=
  if n < 128 then 1 else if n < 16384 then 2 else if n < 2097152 then 3 else if n < 268435456 then 4 else if n < 34359738368 then 5 else if n < 4398046511104 then 6 else if n < 562949953421312 then 7 else if n < 72057594037927936 then 8 else 9
def tkN (i : Nat) (n c : Int) : Int := if i = 8 then n * 256 + c else n * 128 + c % 128
def tk : Nat → Int → List Int → Int × Nat
  | _, _, [] => (0, 0)
  | i, n, c :: r => if i = 8 ∨ c < 128 then (if sizeV (tkN i n c) = i + 1 then (tkN i n c, i + 1) else (0, 0)) else tk (i + 1) (tkN i n c) r
def takeV (l : List Int) : Int × Nat := tk 0 0 l
def lacksV (l : List Int) : Bool := decide (l.length < 9) && l.all fun c => decide (128 ≤ c)
def sVar (g : Int) (s : Src) : Int × Src :=
  if s.1 = 0 then (if (takeV s.2).2 = 0 then (0, (if lacksV s.2 then 8 else 9, [])) else if (takeV s.2).1 > g then (0, (11, [])) else ((takeV s.2).1, (0, s.2.drop (takeV s.2).2))) else (0, s)
abbrev V3 := Int × Int × ByteArray
def sRaw (k : Int) (s : Src) : V3 × Src :=
  if k = 1 then ((k, (sInt s).1, ⟨#[]⟩), (sInt s).2)
  else if k = 2 then ((k, 0, strOfNums (sTake (sVar 200 s).1.toNat (sVar 200 s).2).1), (sTake (sVar 200 s).1.toNat (sVar 200 s).2).2)
  else if k = 3 then ((k, (sByte s).1, ⟨#[]⟩), (sByte s).2)
  else ((k, 0, ⟨#[]⟩), s)
def sVal (s : Src) : V3 × Src := sRaw (sByte s).1 (sByte s).2
def sVals (ok : V3 → Bool) : Nat → Src → Option (List V3) × Src
  | 0, s => (some [], s)
  | n + 1, s => if s.1 = 0 then (if ok (sVal s).1 then ((sVals ok n (sVal s).2).1.map ((sVal s).1 :: ·), (sVals ok n (sVal s).2).2) else (none, (sVal s).2)) else (some [], s)
def sBlob (s : Src) : List Int × Src := sTake (sVar 20000 s).1.toNat (sVar 20000 s).2
def sFrom (ok : V3 → Bool) (s : Src) : Option (List Int × List V3) × Src :=
  if (sByte (sBlob s).2).1 > 4 then (none, (sByte (sBlob s).2).2)
  else if (sVals ok (sByte (sBlob s).2).1.toNat (sByte (sBlob s).2).2).2.1 = 0 then
    ((sVals ok (sByte (sBlob s).2).1.toNat (sByte (sBlob s).2).2).1.map ((sBlob s).1, ·), (sVals ok (sByte (sBlob s).2).1.toNat (sByte (sBlob s).2).2).2)
  else (none, (sVals ok (sByte (sBlob s).2).1.toNat (sByte (sBlob s).2).2).2)
def parseF (ok : V3 → Bool) (b : List Int) : Option (List Int × List V3) := if (sFrom ok (0, b)).2 = (0, []) then (sFrom ok (0, b)).1 else none
def varB (n : Int) : List Int := if n < 128 then [n] else if n < 16384 then [n / 128 % 128 + 128, n % 128] else [n / 16384 % 128 + 128, n / 128 % 128 + 128, n % 128]
def valB (v : V3) : List Int := if v.1 = 1 then numB v.2.1 else if v.1 = 2 then varB v.2.2.size ++ bytesOf v.2.2 else if v.1 = 3 then [v.2.1] else []
def elB (v : V3) : List Int := v.1 :: valB v
def vsB (vs : List V3) : List Int := vs.flatMap elB
def featBody (lb : List Int) (vs : List V3) : List Int := varB lb.length ++ (lb ++ ((vs.length : Int) :: vsB vs))
def FitV (v : V3) : Prop := (v.1 = 0 ∧ v.2.1 = 0 ∧ v.2.2 = ⟨#[]⟩) ∨ (v.1 = 1 ∧ I64 v.2.1 ∧ v.2.2 = ⟨#[]⟩) ∨ (v.1 = 2 ∧ v.2.1 = 0 ∧ v.2.2.size ≤ 200) ∨ (v.1 = 3 ∧ (v.2.1 = 0 ∨ v.2.1 = 1) ∧ v.2.2 = ⟨#[]⟩)
theorem takeV_app (n : Int) (h0 : 0 ≤ n) (h1 : n < 2097152) (r : List Int) : takeV (varB n ++ r) = (n, (varB n).length) := by
  unfold takeV varB
  by_cases a : n < 128
  · rw [if_pos a]
    simp only [List.cons_append, List.nil_append, tk]
    have e : tkN 0 0 n = n := by simp [tkN]; omega
    rw [if_pos (Or.inr a), e, if_pos (by simp [sizeV, a])]
    rfl
  · rw [if_neg a]
    by_cases b : n < 16384
    · rw [if_pos b]
      simp only [List.cons_append, List.nil_append, tk]
      rw [if_neg (by omega)]
      have e : tkN (0 + 1) (tkN 0 0 (n / 128 % 128 + 128)) (n % 128) = n := by simp [tkN]; omega
      rw [if_pos (Or.inr (by omega)), e, if_pos (by simp [sizeV, a, b])]
      rfl
    · rw [if_neg b]
      simp only [List.cons_append, List.nil_append, tk]
      rw [if_neg (by omega), if_neg (by omega)]
      have e : tkN (0 + 1 + 1) (tkN (0 + 1) (tkN 0 0 (n / 16384 % 128 + 128)) (n / 128 % 128 + 128)) (n % 128) = n := by simp [tkN]; omega
      rw [if_pos (Or.inr (by omega)), e, if_pos (by simp [sizeV, a, b, h1])]
      rfl
theorem varB_pos (n : Int) : (varB n).length ≠ 0 := by unfold varB; split <;> (try split) <;> simp
theorem sVar_app (g n : Int) (h0 : 0 ≤ n) (h1 : n < 2097152) (hg : n ≤ g) (r : List Int) : sVar g (0, varB n ++ r) = (n, (0, r)) := by
  unfold sVar
  rw [if_pos rfl]
  dsimp only
  rw [takeV_app n h0 h1, if_neg (varB_pos n), if_neg (by simp; omega)]
  simp
theorem sRaw_app (v : V3) (h : FitV v) (r : List Int) : sRaw v.1 (0, valB v ++ r) = (v, (0, r)) := by
  obtain ⟨k, n, s⟩ := v
  rcases h with ⟨h1, h2, h3⟩ | ⟨h1, h2, h3⟩ | ⟨h1, h2, h3⟩ | ⟨h1, h2, h3⟩ <;> dsimp only at h1 h2 h3 <;> subst h1
  · subst h2 h3; rfl
  · subst h3
    simp only [sRaw, valB, if_true]
    rw [sInt_app n h2]
  · subst h2
    unfold sRaw valB
    rw [if_neg (by simp), if_pos rfl, if_neg (by simp), if_pos rfl]
    dsimp only
    rw [List.append_assoc, sVar_app 200 s.size (by omega) (by omega) (by omega)]
    dsimp only
    rw [Int.toNat_natCast, sTake_app _ _ _ (bytesOf_len s), str_bytes]
  · subst h3
    simp only [sRaw, valB]
    rw [if_neg (by decide), if_neg (by decide), if_pos trivial, if_neg (by decide), if_neg (by decide), if_pos trivial, List.cons_append, List.nil_append, sByte_app]
theorem sVal_app (v : V3) (h : FitV v) (r : List Int) : sVal (0, elB v ++ r) = (v, (0, r)) := by
  unfold sVal elB
  rw [List.cons_append, sByte_app]
  exact sRaw_app v h r
theorem sVals_app (ok : V3 → Bool) (hok : ∀ v, ok v = true → FitV v) (vs : List V3) : (∀ v ∈ vs, ok v = true) → ∀ r : List Int, sVals ok vs.length (0, vsB vs ++ r) = (some vs, (0, r)) := by
  induction vs with
  | nil => intro _ r; rfl
  | cons v vs ih =>
    intro h r
    have hv := h v List.mem_cons_self
    have := ih (fun x hx => h x (List.mem_cons_of_mem _ hx)) r
    unfold vsB at this ⊢
    rw [List.length_cons, sVals, if_pos rfl, List.flatMap_cons, List.append_assoc, sVal_app v (hok v hv)]
    dsimp only
    rw [if_pos hv, this]
    rfl
theorem sFrom_app (ok : V3 → Bool) (hok : ∀ v, ok v = true → FitV v) (lb : List Int) (vs : List V3) (h1 : lb.length ≤ 20000) (h2 : vs.length ≤ 4) (h3 : ∀ v ∈ vs, ok v = true) (r : List Int) :
    sFrom ok (0, featBody lb vs ++ r) = (some (lb, vs), (0, r)) := by
  have e : featBody lb vs ++ r = varB lb.length ++ (lb ++ ((vs.length : Int) :: (vsB vs ++ r))) := by unfold featBody; simp
  have hb : sBlob (0, featBody lb vs ++ r) = (lb, (0, (vs.length : Int) :: (vsB vs ++ r))) := by
    unfold sBlob
    rw [e, sVar_app 20000 lb.length (by omega) (by omega) (by omega)]
    dsimp only
    rw [Int.toNat_natCast, sTake_app _ _ _ rfl]
  unfold sFrom
  rw [hb]
  dsimp only
  rw [sByte_app]
  dsimp only
  rw [if_neg (by omega), Int.toNat_natCast, sVals_app ok hok vs h3, if_pos rfl]
  rfl
def Ext {α : Type} (f : Src → α × Src) : Prop := ∀ s, (f s).2.1 = 0 → s.1 = 0 ∧ ∀ r, f (0, s.2 ++ r) = ((f s).1, (0, (f s).2.2 ++ r))
theorem ext_bnd {α β : Type} {f : Src → α × Src} {g : α → Src → β × Src} (hf : Ext f) (hg : ∀ a, Ext (g a)) : Ext (fun s => g (f s).1 (f s).2) := by
  intro s h
  obtain ⟨h1, h2⟩ := hg _ _ h
  obtain ⟨h3, h4⟩ := hf s h1
  refine ⟨h3, fun r => ?_⟩
  dsimp only
  rw [h4 r]
  dsimp only
  rw [h2 r]
theorem ext_take (n : Nat) : Ext (sTake n) := by
  intro s h
  unfold sTake at h ⊢
  by_cases h1 : s.1 = 0
  · refine ⟨h1, fun r => ?_⟩
    rw [if_pos h1] at h
    by_cases h2 : s.2.length < n
    · rw [if_pos h2] at h; cases h
    · rw [if_pos rfl, if_pos h1, if_neg h2, if_neg (by simp; omega)]
      simp only
      rw [List.take_append_of_le_length (by omega), List.drop_append_of_le_length (by omega)]
  · rw [if_neg h1] at h; exact absurd h h1
theorem ext_map {α β : Type} {f : Src → α × Src} (hf : Ext f) (g : α → β) : Ext (fun s => (g (f s).1, (f s).2)) := by
  intro s h
  obtain ⟨h1, h2⟩ := hf s h
  exact ⟨h1, fun r => by dsimp only; rw [h2 r]⟩
theorem ext_byte : Ext sByte := ext_map (ext_take 1) (fun l => l.headD 0)
theorem ext_int : Ext sInt := ext_map (ext_take 8) (fun l => i64of (be l))
theorem tk_ext (r : List Int) : ∀ (l : List Int) (i : Nat) (n : Int), (tk i n l).2 ≠ 0 → tk i n (l ++ r) = tk i n l ∧ (tk i n l).2 ≤ i + l.length := by
  intro l
  induction l with
  | nil => intro i n h; exact absurd rfl h
  | cons c l ih =>
    intro i n h
    rw [List.cons_append]
    simp only [tk] at h ⊢
    by_cases hc : i = 8 ∨ c < 128
    · rw [if_pos hc] at h
      simp only [if_pos hc]
      refine ⟨trivial, ?_⟩
      split
      · simp only [List.length_cons]; omega
      · simp only [List.length_cons]; omega
    · rw [if_neg hc] at h
      simp only [if_neg hc]
      obtain ⟨h1, h2⟩ := ih _ _ h
      exact ⟨h1, by simp; omega⟩
theorem ext_var (g : Int) : Ext (sVar g) := by
  intro s h
  unfold sVar at h ⊢
  by_cases h1 : s.1 = 0
  · refine ⟨h1, fun r => ?_⟩
    rw [if_pos h1] at h
    by_cases h2 : (takeV s.2).2 = 0
    · rw [if_pos h2] at h
      dsimp only at h
      split at h <;> cases h
    · rw [if_neg h2] at h
      by_cases h3 : (takeV s.2).1 > g
      · rw [if_pos h3] at h; cases h
      · obtain ⟨k1, k2⟩ := tk_ext r s.2 0 0 h2
        have k3 : takeV (s.2 ++ r) = takeV s.2 := k1
        have k4 : (takeV s.2).2 ≤ s.2.length := by have := k2; unfold takeV; omega
        rw [if_pos rfl, if_pos h1]
        dsimp only
        rw [k3, if_neg h2, if_neg h3, if_neg h2, if_neg h3, List.drop_append_of_le_length k4]
  · rw [if_neg h1] at h; exact absurd h h1
theorem ext_raw (k : Int) : Ext (sRaw k) := by
  by_cases h1 : k = 1
  · have e : sRaw k = fun s => ((k, (sInt s).1, ⟨#[]⟩), (sInt s).2) := by funext s; unfold sRaw; rw [if_pos h1]
    rw [e]; exact ext_map ext_int (fun n => (k, n, (⟨#[]⟩ : ByteArray)))
  by_cases h2 : k = 2
  · have e : sRaw k = fun s => (fun (n : Int) s => (fun s => ((k, (0 : Int), strOfNums (sTake n.toNat s).1), (sTake n.toNat s).2)) s) (sVar 200 s).1 (sVar 200 s).2 := by
      funext s; unfold sRaw; rw [if_neg h1, if_pos h2]
    rw [e]
    exact ext_bnd (ext_var 200) (fun n => ext_map (ext_take n.toNat) (fun l => (k, (0 : Int), strOfNums l)))
  by_cases h3 : k = 3
  · have e : sRaw k = fun s => ((k, (sByte s).1, ⟨#[]⟩), (sByte s).2) := by funext s; unfold sRaw; rw [if_neg h1, if_neg h2, if_pos h3]
    rw [e]; exact ext_map ext_byte (fun n => (k, n, (⟨#[]⟩ : ByteArray)))
  · have e : sRaw k = fun s => ((k, 0, ⟨#[]⟩), s) := by funext s; unfold sRaw; rw [if_neg h1, if_neg h2, if_neg h3]
    rw [e]
    intro s h
    exact ⟨h, fun r => rfl⟩
theorem ext_val : Ext sVal := ext_bnd ext_byte ext_raw
theorem ext_vals (ok : V3 → Bool) : ∀ n, Ext (sVals ok n) := by
  intro n
  induction n with
  | zero => intro s h; exact ⟨h, fun r => rfl⟩
  | succ n ih =>
    intro s h
    rw [sVals] at h ⊢
    by_cases h1 : s.1 = 0
    · refine ⟨h1, fun r => ?_⟩
      rw [if_pos h1] at h
      rw [if_pos h1, sVals, if_pos rfl]
      by_cases h2 : ok (sVal s).1 = true
      · rw [if_pos h2] at h
        obtain ⟨k1, k2⟩ := ih _ h
        obtain ⟨_, k4⟩ := ext_val s k1
        rw [k4 r, if_pos h2, if_pos h2]
        dsimp only
        rw [k2 r]
      · rw [if_neg h2] at h
        obtain ⟨_, k4⟩ := ext_val s h
        rw [k4 r, if_neg h2, if_neg h2]
    · rw [if_neg h1] at h; exact absurd h h1
theorem ext_blob : Ext sBlob := ext_bnd (ext_var 20000) (fun n => ext_take n.toNat)
def sTail (ok : V3 → Bool) (lb : List Int) (n : Int) (s : Src) : Option (List Int × List V3) × Src :=
  if n > 4 then (none, s) else if (sVals ok n.toNat s).2.1 = 0 then ((sVals ok n.toNat s).1.map (lb, ·), (sVals ok n.toNat s).2) else (none, (sVals ok n.toNat s).2)
theorem ext_tail (ok : V3 → Bool) (lb : List Int) (n : Int) : Ext (sTail ok lb n) := by
  intro s h
  unfold sTail at h ⊢
  by_cases h1 : n > 4
  · rw [if_pos h1] at h
    exact ⟨h, fun r => by rw [if_pos h1, if_pos h1]⟩
  · rw [if_neg h1] at h
    by_cases h2 : (sVals ok n.toNat s).2.1 = 0
    · obtain ⟨k1, k2⟩ := ext_vals ok n.toNat s h2
      refine ⟨k1, fun r => ?_⟩
      rw [if_neg h1, if_neg h1, k2 r, if_pos rfl, if_pos h2]
    · rw [if_neg h2] at h; exact absurd h h2
theorem ext_from (ok : V3 → Bool) : Ext (sFrom ok) :=
  ext_bnd (f := sBlob) (g := fun lb s => sTail ok lb (sByte s).1 (sByte s).2) ext_blob (fun lb => ext_bnd (f := sByte) (g := fun n s => sTail ok lb n s) ext_byte (fun n => ext_tail ok lb n))
theorem parseF_back (ok : V3 → Bool) (hok : ∀ v, ok v = true → FitV v) (lb : List Int) (vs : List V3) (h1 : lb.length ≤ 20000) (h2 : vs.length ≤ 4) (h3 : ∀ v ∈ vs, ok v = true) : parseF ok (featBody lb vs) = some (lb, vs) := by
  have := sFrom_app ok hok lb vs h1 h2 h3 []
  rw [List.append_nil] at this
  unfold parseF
  rw [this, if_pos rfl]
theorem parseF_more (ok : V3 → Bool) (hok : ∀ v, ok v = true → FitV v) (lb : List Int) (vs : List V3) (h1 : lb.length ≤ 20000) (h2 : vs.length ≤ 4) (h3 : ∀ v ∈ vs, ok v = true) (x : Int) (r : List Int) : parseF ok (featBody lb vs ++ x :: r) = none := by
  have := sFrom_app ok hok lb vs h1 h2 h3 (x :: r)
  unfold parseF
  rw [this, if_neg (fun h => by injection h with _ h; cases h)]
theorem parseF_cut (ok : V3 → Bool) (hok : ∀ v, ok v = true → FitV v) (lb : List Int) (vs : List V3) (h1 : lb.length ≤ 20000) (h2 : vs.length ≤ 4) (h3 : ∀ v ∈ vs, ok v = true) (n : Nat) (hn : n < (featBody lb vs).length) :
    parseF ok ((featBody lb vs).take n) = none := by
  unfold parseF
  by_cases h : (sFrom ok (0, (featBody lb vs).take n)).2 = (0, [])
  · exfalso
    obtain ⟨_, k⟩ := ext_from ok _ (by rw [h])
    have k2 := k ((featBody lb vs).drop n)
    dsimp only at k2
    rw [List.take_append_drop, h] at k2
    have := sFrom_app ok hok lb vs h1 h2 h3 []
    rw [List.append_nil, k2] at this
    injection this with _ h5
    injection h5 with _ h6
    have hl := congrArg List.length h6
    simp at hl
    omega
  · rw [if_neg h]
end Go.Proofs.YtcjidlgmbjebjaaDoor.Sb
