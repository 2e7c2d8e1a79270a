/- A part of the proof of SchemaForms. -/
import Derived.Test.YtcjidlgmbjebjaaDoorPSchemaFormsx0
import Derived.Test.YtcjidlgmbjebjaaDoorPSchemaFormsx1
import Derived.Test.YtcjidlgmbjebjaaDoorPSchemaFormsx2
import Derived.Test.YtcjidlgmbjebjaaDoorSfj
import Derived.Deep.RegionHeld3
set_option linter.unusedVariables false
set_option linter.unusedSimpArgs false
set_option maxRecDepth 100000
namespace Go.Proofs.YtcjidlgmbjebjaaDoor.PSchemaForms
open Go.RowKit Go.Proofs.YtcjidlgmbjebjaaDoorW.PrintWords Go.Proofs.YtcjidlgmbjebjaaDoorW.PrintLast Go.Proofs.YtcjidlgmbjebjaaDoorW.PrintMore
attribute [local go_sem] max2_int min2_int max_two min_two max_three min_three max_four min_four
attribute [local go_sem high] eqA65
def box_None.f  : Option (Bool × Int × Int × Int × Int) := some (true, 0, 0, 0, 0)
set_option maxHeartbeats 8000000 in
set_option maxRecDepth 100000 in
theorem box_None.calls  (r1 : Bool) (r2 : Int) (r3 : Int) (r4 : Int) (r5 : Int) (w : World) (h : box_None.f  = some (r1, r2, r3, r4, r5)) :
    Calls Tryd.prog 76 #[] w fun e w' => e = .returned (.agg #[.bool r1, .int .i64 r2, .int .i64 r3, .int .i64 r4, .int .i64 r5]) ∧ Below w.heap.size w w' := by
  have hu65 := Tryd.underlying65
  have HB := Aside0.mk (Below.refl w.heap.size w)
  have H : (some (true, 0, 0, 0, 0)) = some (r1, r2, r3, r4, r5) := h
  clear h
  simp only [Option.some.injEq, Prod.mk.injEq] at H
  obtain ⟨rfl, rfl, rfl, rfl, rfl⟩ := H
  go_enter Tryd.func76, Tryd.ntmps76
  go_wp2_with (first | ((with_reducible refine gate_dst (N := 0) rfl ?_); refine box_event ?hg (N := 0) ?hd (cs := #[.bool false, .int .i64 0, .int .i64 0, .int .i64 0, .int .i64 0]) (t := 65) ?hr ?_; (case hd => rfl); (case hg => rfl); (case hr => first | (go_simp; done) | (go_simp; rfl)); intro gb132 hg w1 hbox hb; have n0_ := Aside0.mk (below_step (by repeat (first | (with_reducible first | exact HB.out | apply below_alloc | apply pw_below_drewN | apply below_drew1) | exact HB.out)) hb); have n1_ := Aside0.mk (hbox); have n2_ := Aside0.mk ((by rw [hg]; exact (below_size (by repeat (first | (with_reducible first | exact HB.out | apply below_alloc | apply pw_below_drewN | apply below_drew1) | exact HB.out))) : w.heap.size ≤ gb132)); have n3_ := Aside0.mk ((by rw [hg]; exact (below_size (by repeat (first | (with_reducible first | exact HB.out | apply below_alloc | apply pw_below_drewN | apply below_drew1) | exact HB.out))) : w.heap.size ≤ gb132)); clear HB; have HB := n0_; have BK132 := n1_; have GW132 := n2_; have GE132 := n3_; clear n0_ n1_ n2_ n3_; clear hb hbox hg; have hcz2_0 : w1.cell? ⟨gb132, 0, none⟩ = some (.bool false) := (blk_cell BK132.out 0).trans rfl; have hcz2_1 : w1.cell? ⟨gb132, 1, none⟩ = some (.int .i64 0) := (blk_cell BK132.out 1).trans rfl; have hcz2_2 : w1.cell? ⟨gb132, 2, none⟩ = some (.int .i64 0) := (blk_cell BK132.out 2).trans rfl; have hcz2_3 : w1.cell? ⟨gb132, 3, none⟩ = some (.int .i64 0) := (blk_cell BK132.out 3).trans rfl; have hcz2_4 : w1.cell? ⟨gb132, 4, none⟩ = some (.int .i64 0) := (blk_cell BK132.out 4).trans rfl; have hfz2_0 := blk_frozen BK132.out 0; have hfz2_1 := blk_frozen BK132.out 1; have hfz2_2 := blk_frozen BK132.out 2; have hfz2_3 := blk_frozen BK132.out 3; have hfz2_4 := blk_frozen BK132.out 4))
  refine bodyPost_ret (results_cell_row rfl _ _ gb132 65 #[.bool true, .int .i64 0, .int .i64 0, .int .i64 0, .int .i64 0] (0, 0) _ rfl (by (with_reducible repeat (first | refine blk_drewN ?_ _ | refine blk_drew ?_ | refine blk_alloc ?_ _)); refine blk_put (cs := #[.bool true, .int .i64 0, .int .i64 0, .int .i64 0, .int .i64 0]) ?_ 4 _ rfl; (with_reducible repeat (first | refine blk_drewN ?_ _ | refine blk_drew ?_ | refine blk_alloc ?_ _)); refine blk_put (cs := #[.bool true, .int .i64 0, .int .i64 0, .int .i64 0, .int .i64 0]) ?_ 3 _ rfl; (with_reducible repeat (first | refine blk_drewN ?_ _ | refine blk_drew ?_ | refine blk_alloc ?_ _)); refine blk_put (cs := #[.bool true, .int .i64 0, .int .i64 0, .int .i64 0, .int .i64 0]) ?_ 2 _ rfl; (with_reducible repeat (first | refine blk_drewN ?_ _ | refine blk_drew ?_ | refine blk_alloc ?_ _)); refine blk_put (cs := #[.bool true, .int .i64 0, .int .i64 0, .int .i64 0, .int .i64 0]) ?_ 1 _ rfl; (with_reducible repeat (first | refine blk_drewN ?_ _ | refine blk_drew ?_ | refine blk_alloc ?_ _)); refine blk_put (cs := #[.bool false, .int .i64 0, .int .i64 0, .int .i64 0, .int .i64 0]) ?_ 0 _ rfl; (with_reducible repeat (first | refine blk_drewN ?_ _ | refine blk_drew ?_ | refine blk_alloc ?_ _)); exact BK132.out) Tryd.underlying65 rfl (by kernel_rfl)) rfl ?_
  exact ⟨by first | rfl | (simp [errW_none, errW_some] <;> rfl) | (simp [*, errW_none, errW_some] <;> rfl), by repeat (first | (with_reducible first | exact HB.out | apply below_alloc | apply pw_below_drewN | apply below_drew1 | refine below_set ?_ GE132.out) | exact HB.out)⟩


def box_Good.f (a0_0 : Bool) (a0_1 : Int) (a0_2 : Int) (a0_3 : Int) (a0_4 : Int) : Option (Bool) := if a0_0 = true then ((box_None.f).bind fun bt134 => (some (a0_0 == bt134.1 && ((a0_1 == bt134.2.1 && (a0_2 == bt134.2.2.1)) && ((a0_3 == bt134.2.2.2.1 && (a0_4 == bt134.2.2.2.2))))))) else (if a0_1 ≤ a0_3 then (some (decide (a0_2 ≤ a0_4))) else (some false))
set_option maxHeartbeats 8000000 in
set_option maxRecDepth 100000 in
theorem box_Good.calls (a0_0 : Bool) (a0_1 : Int) (a0_2 : Int) (a0_3 : Int) (a0_4 : Int) (r : Bool) (w : World) (h : box_Good.f a0_0 a0_1 a0_2 a0_3 a0_4 = some r) :
    Calls Tryd.prog 87 #[.agg #[.bool a0_0, .int .i64 a0_1, .int .i64 a0_2, .int .i64 a0_3, .int .i64 a0_4]] w fun e w' => e = .returned (.bool r) ∧ Below w.heap.size w w' := by
  have hu65 := Tryd.underlying65
  have HB := Aside0.mk (Below.refl w.heap.size w)
  have H : (if a0_0 = true then ((box_None.f).bind fun bt134 => (some (a0_0 == bt134.1 && ((a0_1 == bt134.2.1 && (a0_2 == bt134.2.2.1)) && ((a0_3 == bt134.2.2.2.1 && (a0_4 == bt134.2.2.2.2))))))) else (if a0_1 ≤ a0_3 then (some (decide (a0_2 ≤ a0_4))) else (some false))) = some r := h
  clear h
  by_cases c2 : a0_0 = true
  · subst c2
    have H1 : ((box_None.f).bind fun bt134 => (some (true == bt134.1 && ((a0_1 == bt134.2.1 && (a0_2 == bt134.2.2.1)) && ((a0_3 == bt134.2.2.2.1 && (a0_4 == bt134.2.2.2.2))))))) = some r := by rw [if_pos rfl] at H; exact H
    clear H
    have H := H1
    clear H1
    replace H := Option.bind_eq_some_iff.mp H
    obtain ⟨⟨t134, t135, t136, t137, t138⟩, A30, H⟩ := H
    replace H : (some (true == t134 && ((a0_1 == t135 && (a0_2 == t136)) && ((a0_3 == t137 && (a0_4 == t138)))))) = some r := H
    have A3 := Aside0.mk A30
    clear A30
    obtain rfl := Option.some.inj H
    go_enter Tryd.func87, Tryd.ntmps87
    try go_wp2_with (first | ((with_reducible refine gate_dst (N := 1) rfl ?_); refine box_event ?hg (N := 1) ?hd (cs := #[.bool true, .int .i64 a0_1, .int .i64 a0_2, .int .i64 a0_3, .int .i64 a0_4]) (t := 65) ?hr ?_; (case hd => rfl); (case hg => rfl); (case hr => first | (go_simp; done) | (go_simp; rfl)); intro gb133 hg w4 hbox hb; have n0_ := Aside0.mk (below_step (by repeat (first | (with_reducible first | exact HB.out | apply below_alloc | apply pw_below_drewN | apply below_drew1) | exact HB.out)) hb); have n1_ := Aside0.mk (hbox); have n2_ := Aside0.mk ((by rw [hg]; exact (below_size (by repeat (first | (with_reducible first | exact HB.out | apply below_alloc | apply pw_below_drewN | apply below_drew1) | exact HB.out))) : w.heap.size ≤ gb133)); have n3_ := Aside0.mk ((by rw [hg]; exact (below_size (by repeat (first | (with_reducible first | exact HB.out | apply below_alloc | apply pw_below_drewN | apply below_drew1) | exact HB.out))) : w.heap.size ≤ gb133)); clear HB; have HB := n0_; have BK133 := n1_; have GW133 := n2_; have GE133 := n3_; clear n0_ n1_ n2_ n3_; clear hb hbox hg; have hcz5_0 : w4.cell? ⟨gb133, 0, none⟩ = some (.bool true) := (blk_cell BK133.out 0).trans rfl; have hcz5_1 : w4.cell? ⟨gb133, 1, none⟩ = some (.int .i64 a0_1) := (blk_cell BK133.out 1).trans rfl; have hcz5_2 : w4.cell? ⟨gb133, 2, none⟩ = some (.int .i64 a0_2) := (blk_cell BK133.out 2).trans rfl; have hcz5_3 : w4.cell? ⟨gb133, 3, none⟩ = some (.int .i64 a0_3) := (blk_cell BK133.out 3).trans rfl; have hcz5_4 : w4.cell? ⟨gb133, 4, none⟩ = some (.int .i64 a0_4) := (blk_cell BK133.out 4).trans rfl; have hfz5_0 := blk_frozen BK133.out 0; have hfz5_1 := blk_frozen BK133.out 1; have hfz5_2 := blk_frozen BK133.out 2; have hfz5_3 := blk_frozen BK133.out 3; have hfz5_4 := blk_frozen BK133.out 4))
    have n0_ := Aside0.mk (blk_drew BK133.out)
    have n1_ := Aside0.mk (below_drew1 HB.out)
    clear BK133
    clear HB
    have BK133 := n0_
    have HB := n1_
    clear n0_ n1_
    refine start_ (n := 4) (S := fun w' => w'.cell? ⟨gb133, 0, none⟩ = some (.bool true) ∧ w'.cell? ⟨gb133, 1, none⟩ = some (.int .i64 a0_1) ∧ w'.cell? ⟨gb133, 2, none⟩ = some (.int .i64 a0_2) ∧ w'.cell? ⟨gb133, 3, none⟩ = some (.int .i64 a0_3) ∧ w'.cell? ⟨gb133, 4, none⟩ = some (.int .i64 a0_4)) (ds := []) #[false, false, false, false] (by kernel_rfl) rfl rfl ⟨(blk_cell BK133.out 0).trans rfl, (blk_cell BK133.out 1).trans rfl, (blk_cell BK133.out 2).trans rfl, (blk_cell BK133.out 3).trans rfl, (blk_cell BK133.out 4).trans rfl⟩ (fun hHeld => ?_)
    generalize w4.drew = w6 at BK133 HB hHeld ⊢
    refine take_ (i := 0) (N := some 5) (v := ?_) (a' := ?_) #[true, false, false, false] rfl rfl (by kernel_rfl) (fun _ _ _ h => h) (Or.inl ⟨by rfl, ?_⟩) hHeld ?_ ?_
    rotate_left
    · rintro w' ⟨s0, s1, s2, s3, s4⟩
      go_simp
      with_reducible rfl
    rotate_left
    · simp only [Act.put, List.setIfInBounds_toArray, List.set_cons_zero, List.set_cons_succ, i64_w, i32_w]
      rfl
    refine one_ (i := 1) (N := some 6) #[true, true, false, false] rfl rfl (by kernel_rfl) (by decide) (fun K hK => ?_)
    refine goes_ Tryd.func76 (by kernel_rfl) rfl #[] (by rfl) rfl rfl (by (try simp only [List.map_toArray, List.map_cons, List.map_nil]); first | done | rfl | (simp only [List.length_drop, List.length_take]; rfl)) ?_
    with_reducible refine (box_None.calls  t134 t135 t136 t137 t138 _ A3.out).mono ?_
    rintro e w7 ⟨rfl, hb⟩
    refine ⟨_, rfl, ?_⟩
    have n0_ := Aside0.mk (blk_below (g := gb133) (o := .cells #[.bool true, .int .i64 a0_1, .int .i64 a0_2, .int .i64 a0_3, .int .i64 a0_4] 65 (0, 0)) (by (with_reducible repeat (first | refine blk_drewN ?_ _ | refine blk_drew ?_ | refine blk_alloc ?_ _)); exact BK133.out) hb)
    have n1_ := Aside0.mk (below_step (by repeat (first | (with_reducible first | exact HB.out | apply below_alloc | apply pw_below_drewN | apply below_drew1 | refine below_set ?_ GE133.out) | exact HB.out)) hb)
    clear BK133
    clear HB
    have BK133 := n0_
    have HB := n1_
    clear n0_ n1_
    (try clear hb)
    (try clear hb2)
    (try clear hk)
    (try clear hi)
    refine hK.out _ _ ⟨(blk_cell BK133.out 0).trans rfl, (blk_cell BK133.out 1).trans rfl, (blk_cell BK133.out 2).trans rfl, (blk_cell BK133.out 3).trans rfl, (blk_cell BK133.out 4).trans rfl⟩ (fun hHeld => ?_)
    clear hK K
    refine norm_ (a' := ?_) ?_ ?_
    rotate_left
    · show Act.put _ (some 6) _ = _
      simp only [Act.put, List.setIfInBounds_toArray, List.set_cons_zero, List.set_cons_succ, i64_w, i32_w]
      rfl
    refine pure_ (i := 2) (N := some 7) (v := ?_) (a' := ?_) #[true, true, true, false] rfl rfl (by kernel_rfl) (fun _ _ _ h => h) (Or.inl ⟨by rfl, ?_⟩) ?_ ?_
    rotate_left
    · intro w'
      go_simp
      with_reducible rfl
    rotate_left
    · simp only [Act.put, List.setIfInBounds_toArray, List.set_cons_zero, List.set_cons_succ, i64_w, i32_w]
      rfl
    refine pure_ (i := 3) (N := some 2) (v := ?_) (a' := ?_) #[true, true, true, true] rfl rfl (by kernel_rfl) (fun _ _ _ h => h) (Or.inl ⟨by rfl, ?_⟩) ?_ ?_
    rotate_left
    · intro w'
      go_simp
      with_reducible rfl
    rotate_left
    · simp only [Act.put, List.setIfInBounds_toArray, List.set_cons_zero, List.set_cons_succ, i64_w, i32_w]
      rfl
    refine done_ (by kernel_rfl) ?_
    try go_wp2
    go_ret
    exact ⟨by first | rfl | (simp [errW_none, errW_some] <;> rfl) | (simp [*, errW_none, errW_some] <;> rfl), by repeat (first | (with_reducible first | exact HB.out | apply below_alloc | apply pw_below_drewN | apply below_drew1 | refine below_set ?_ GE133.out) | exact HB.out)⟩
  · replace c2 := Bool.eq_false_iff.mpr c2
    subst c2
    have H1 : (if a0_1 ≤ a0_3 then (some (decide (a0_2 ≤ a0_4))) else (some false)) = some r := by rw [if_neg (show ¬ (false = true) by decide)] at H; exact H
    clear H
    have H := H1
    clear H1
    by_cases c8 : a0_1 ≤ a0_3
    · rw [if_pos c8] at H
      have c8b0 : decide (a0_1 ≤ a0_3) = true := decide_eq_true c8
      clear c8
      obtain rfl := Option.some.inj H
      go_enter Tryd.func87, Tryd.ntmps87
      go_wp2_with (first | ((with_reducible refine gate_dst (N := 1) rfl ?_); refine box_event ?hg (N := 1) ?hd (cs := #[.bool false, .int .i64 a0_1, .int .i64 a0_2, .int .i64 a0_3, .int .i64 a0_4]) (t := 65) ?hr ?_; (case hd => rfl); (case hg => rfl); (case hr => first | (go_simp; done) | (go_simp; rfl)); intro gb133 hg w9 hbox hb; have n0_ := Aside0.mk (below_step (by repeat (first | (with_reducible first | exact HB.out | apply below_alloc | apply pw_below_drewN | apply below_drew1) | exact HB.out)) hb); have n1_ := Aside0.mk (hbox); have n2_ := Aside0.mk ((by rw [hg]; exact (below_size (by repeat (first | (with_reducible first | exact HB.out | apply below_alloc | apply pw_below_drewN | apply below_drew1) | exact HB.out))) : w.heap.size ≤ gb133)); have n3_ := Aside0.mk ((by rw [hg]; exact (below_size (by repeat (first | (with_reducible first | exact HB.out | apply below_alloc | apply pw_below_drewN | apply below_drew1) | exact HB.out))) : w.heap.size ≤ gb133)); clear HB; have HB := n0_; have BK133 := n1_; have GW133 := n2_; have GE133 := n3_; clear n0_ n1_ n2_ n3_; clear hb hbox hg; have hcz10_0 : w9.cell? ⟨gb133, 0, none⟩ = some (.bool false) := (blk_cell BK133.out 0).trans rfl; have hcz10_1 : w9.cell? ⟨gb133, 1, none⟩ = some (.int .i64 a0_1) := (blk_cell BK133.out 1).trans rfl; have hcz10_2 : w9.cell? ⟨gb133, 2, none⟩ = some (.int .i64 a0_2) := (blk_cell BK133.out 2).trans rfl; have hcz10_3 : w9.cell? ⟨gb133, 3, none⟩ = some (.int .i64 a0_3) := (blk_cell BK133.out 3).trans rfl; have hcz10_4 : w9.cell? ⟨gb133, 4, none⟩ = some (.int .i64 a0_4) := (blk_cell BK133.out 4).trans rfl; have hfz10_0 := blk_frozen BK133.out 0; have hfz10_1 := blk_frozen BK133.out 1; have hfz10_2 := blk_frozen BK133.out 2; have hfz10_3 := blk_frozen BK133.out 3; have hfz10_4 := blk_frozen BK133.out 4))
      go_ret
      exact ⟨by first | rfl | (simp [errW_none, errW_some] <;> rfl) | (simp [*, errW_none, errW_some] <;> rfl), by repeat (first | (with_reducible first | exact HB.out | apply below_alloc | apply pw_below_drewN | apply below_drew1 | refine below_set ?_ GE133.out) | exact HB.out)⟩
    · rw [if_neg c8] at H
      have c8b0 : decide (a0_1 ≤ a0_3) = false := decide_eq_false c8
      clear c8
      obtain rfl := Option.some.inj H
      go_enter Tryd.func87, Tryd.ntmps87
      go_wp2_with (first | ((with_reducible refine gate_dst (N := 1) rfl ?_); refine box_event ?hg (N := 1) ?hd (cs := #[.bool false, .int .i64 a0_1, .int .i64 a0_2, .int .i64 a0_3, .int .i64 a0_4]) (t := 65) ?hr ?_; (case hd => rfl); (case hg => rfl); (case hr => first | (go_simp; done) | (go_simp; rfl)); intro gb133 hg w11 hbox hb; have n0_ := Aside0.mk (below_step (by repeat (first | (with_reducible first | exact HB.out | apply below_alloc | apply pw_below_drewN | apply below_drew1) | exact HB.out)) hb); have n1_ := Aside0.mk (hbox); have n2_ := Aside0.mk ((by rw [hg]; exact (below_size (by repeat (first | (with_reducible first | exact HB.out | apply below_alloc | apply pw_below_drewN | apply below_drew1) | exact HB.out))) : w.heap.size ≤ gb133)); have n3_ := Aside0.mk ((by rw [hg]; exact (below_size (by repeat (first | (with_reducible first | exact HB.out | apply below_alloc | apply pw_below_drewN | apply below_drew1) | exact HB.out))) : w.heap.size ≤ gb133)); clear HB; have HB := n0_; have BK133 := n1_; have GW133 := n2_; have GE133 := n3_; clear n0_ n1_ n2_ n3_; clear hb hbox hg; have hcz12_0 : w11.cell? ⟨gb133, 0, none⟩ = some (.bool false) := (blk_cell BK133.out 0).trans rfl; have hcz12_1 : w11.cell? ⟨gb133, 1, none⟩ = some (.int .i64 a0_1) := (blk_cell BK133.out 1).trans rfl; have hcz12_2 : w11.cell? ⟨gb133, 2, none⟩ = some (.int .i64 a0_2) := (blk_cell BK133.out 2).trans rfl; have hcz12_3 : w11.cell? ⟨gb133, 3, none⟩ = some (.int .i64 a0_3) := (blk_cell BK133.out 3).trans rfl; have hcz12_4 : w11.cell? ⟨gb133, 4, none⟩ = some (.int .i64 a0_4) := (blk_cell BK133.out 4).trans rfl; have hfz12_0 := blk_frozen BK133.out 0; have hfz12_1 := blk_frozen BK133.out 1; have hfz12_2 := blk_frozen BK133.out 2; have hfz12_3 := blk_frozen BK133.out 3; have hfz12_4 := blk_frozen BK133.out 4))
      go_ret
      exact ⟨by first | rfl | (simp [errW_none, errW_some] <;> rfl) | (simp [*, errW_none, errW_some] <;> rfl), by repeat (first | (with_reducible first | exact HB.out | apply below_alloc | apply pw_below_drewN | apply below_drew1 | refine below_set ?_ GE133.out) | exact HB.out)⟩


def schema_named.f (a0 : ByteArray) : Option (List Int) := (some (([((a0.size : Int)) % 256] : List Int) : List Int)).bind fun y139 => (if y139.length + a0.size < 140737488355328 then (some (y139 ++ bytesOf a0)) else (none))
set_option maxHeartbeats 8000000 in
set_option maxRecDepth 100000 in
theorem schema_named.calls (a0 : ByteArray) (r : List Int) (w : World) (h : schema_named.f a0 = some r) :
    Calls Tryd.prog 88 #[.string a0] w fun e w' => ∃ v0_ : Value, e = .returned (v0_) ∧ Kd.R (Kd.int .u8) 5 w' w.heap.size (fun _ => True) v0_ r ∧ Below w.heap.size w w' := by
  have HB := Aside0.mk (Below.refl w.heap.size w)
  have H : ((some (([((a0.size : Int)) % 256] : List Int) : List Int)).bind fun y139 => (if y139.length + a0.size < 140737488355328 then (some (y139 ++ bytesOf a0)) else (none))) = some r := h
  clear h
  obtain ⟨y139, hy139⟩ : ∃ y_ : List Int, y_ = (([((a0.size : Int)) % 256] : List Int)) := ⟨_, rfl⟩
  replace H : (if y139.length + a0.size < 140737488355328 then (some (y139 ++ bytesOf a0)) else (none)) = some r := by first | (rw [hy139]; with_reducible exact H) | (have H2_ := (Option.bind_some _ _).symm.trans H; rw [hy139]; with_reducible exact H2_) | (have H2_ := (Option.bind_some _ _).symm.trans H; with_reducible exact H2_) | with_reducible exact H | (rw [hy139]; exact H) | exact H
  have Ny139 := Aside0.mk hy139
  clear hy139
  by_cases c2 : y139.length + a0.size < 140737488355328
  · rw [if_pos c2] at H
    have LMc2 := Aside0.mk c2
    clear c2
    obtain ⟨y142, hy142⟩ : ∃ y_ : List Int, y_ = (y139 ++ bytesOf a0) := ⟨_, rfl⟩
    replace H : (some y142) = some r := by first | (rw [hy142]; with_reducible exact H) | (have H2_ := (Option.bind_some _ _).symm.trans H; rw [hy142]; with_reducible exact H2_) | (have H2_ := (Option.bind_some _ _).symm.trans H; with_reducible exact H2_) | with_reducible exact H | (rw [hy142]; exact H) | exact H
    have Ny142 := Aside0.mk hy142
    clear hy142
    obtain rfl := Option.some.inj H
    go_enter Tryd.func88, Tryd.ntmps88
    go_wp2_with (first | ((with_reducible refine gate_dst (N := 6) rfl ?_); refine Kd.R_lit (Kd.int .u8) _ 5 ?hg (N := 6) ?hd (xs := ([((a0.size : Int)) % 256] : List Int)) (inner := [.int .u8 (((a0.size : Int)) % 256)]) (ok := fun _ => True) (okp := fun _ => True) ?hr ?hp (fun _ hk => hk) trivial (Below.refl _ _) (Nat.le_refl _) (by simp) ?_; (case hd => rfl); (case hg => rfl); (case hr => first | (go_simp; done) | (go_simp; rfl)); (case hp => exact (Reps.one (show Kd.M (Kd.int .u8) _ _ _ (((a0.size : Int)) % 256) [.int .u8 (((a0.size : Int)) % 256)] from rfl) (Reps.none _ _))); intro v140 w3 ho4 hb hg_ hnew_; clear hg_ hnew_; (first | rw [← Ny139.out] at ho4 | (simp only [Int.reduceToNat] at ho4; rw [← Ny139.out] at ho4)); have n0_ := Aside0.mk (Kd.R_lower ho4 (below_size (by repeat (first | (with_reducible first | exact HB.out | apply below_alloc | apply pw_below_drewN | apply below_drew1) | exact HB.out)))); have n1_ := Aside0.mk (below_step (by repeat (first | (with_reducible first | exact HB.out | apply below_alloc | apply pw_below_drewN | apply below_drew1) | exact HB.out)) hb); clear HB; have HO141 := n0_; have HB := n1_; clear n0_ n1_; clear hb ho4) | (at_builtin; refine print_append_str (w0 := w) w.heap.size rfl (.tmp 6) _ 43 9 5 rfl Tryd.underlying43 Tryd.underlying9 info5 v140 y139 a0 rfl rfl ?aO ?aB ?aS ?aL ?_; (case aB => exact (by repeat (first | (with_reducible first | exact HB.out | apply below_alloc | apply pw_below_drewN | apply below_drew1) | exact HB.out))); (case aO => exact (Kd.own_of_R (by (with_reducible repeat (first | apply Kd.R_alloc | apply Kd.R_drewN | apply Kd.R_drew)); exact HO141.out))); (case aS => exact (below_size (by repeat (first | (with_reducible first | exact HB.out | apply below_alloc | apply pw_below_drewN | apply below_drew1) | exact HB.out)))); (case aL => have := LMc2.out; omega); intro v143 w5 ho0 hb hg; have ho := Kd.R_of_own (h1 := fun _ => rfl) (ok := fun _ => True) ho0 (fun _ _ => trivial); clear ho0; have hat := True.intro; rw [← Ny142.out] at ho; change Kd.R (Kd.int .u8) 5 w5 w.heap.size (fun _ => True) v143 y142 at ho; have n0_ := Aside0.mk (hb); have n1_ := Aside0.mk (ho); clear HB; clear HO141; have HB := n0_; have HO144 := n1_; clear n0_ n1_; clear ho hb hg hat))
    go_ret
    exact ⟨_, by first | rfl | (simp [errW_none, errW_some] <;> rfl) | (simp [*, errW_none, errW_some] <;> rfl), by (with_reducible repeat (first | apply Kd.R_alloc | apply Kd.R_drewN | apply Kd.R_drew)); exact HO144.out, by repeat (first | (with_reducible first | exact HB.out | apply below_alloc | apply pw_below_drewN | apply below_drew1) | exact HB.out)⟩
  · rw [if_neg c2] at H
    exact absurd H (by simp)


end Go.Proofs.YtcjidlgmbjebjaaDoor.PSchemaForms

namespace Go.Proofs.YtcjidlgmbjebjaaDoor.PSchemaForms
open Go.RowKit Go.Proofs.YtcjidlgmbjebjaaDoorW.PrintWords Go.Proofs.YtcjidlgmbjebjaaDoorW.PrintLast Go.Proofs.YtcjidlgmbjebjaaDoorW.PrintMore
attribute [local go_sem] max2_int min2_int max_two min_two max_three min_three max_four min_four

def schema_bit.f (a0 : Bool) : Option (Int) := if a0 = true then (some 1) else (some 0)
set_option maxHeartbeats 8000000 in
set_option maxRecDepth 100000 in
theorem schema_bit.calls (a0 : Bool) (r : Int) (w : World) (h : schema_bit.f a0 = some r) :
    Calls Tryd.prog 90 #[.bool a0] w fun e w' => e = .returned (.int .u8 r) ∧ Drawn0 w w' := by
  have H : (if a0 = true then (some 1) else (some 0)) = some r := h
  clear h
  by_cases c2 : a0 = true
  · subst c2
    have H1 : (some 1) = some r := by rw [if_pos rfl] at H; exact H
    clear H
    have H := H1
    clear H1
    obtain rfl := Option.some.inj H
    go_enter Tryd.func90, Tryd.ntmps90
    go_wp2
    go_ret
    exact ⟨by first | rfl | (simp; done) | (simp [*]; done), by repeat (first | exact Drawn0.refl _ | apply Drawn0.step)⟩
  · replace c2 := Bool.eq_false_iff.mpr c2
    subst c2
    have H1 : (some 0) = some r := by rw [if_neg (show ¬ (false = true) by decide)] at H; exact H
    clear H
    have H := H1
    clear H1
    obtain rfl := Option.some.inj H
    go_enter Tryd.func90, Tryd.ntmps90
    go_wp2
    go_ret
    exact ⟨by first | rfl | (simp; done) | (simp [*]; done), by repeat (first | exact Drawn0.refl _ | apply Drawn0.step)⟩


def box_has.f (a0_0 : Bool) (a0_1 : Int) (a0_2 : Int) (a0_3 : Int) (a0_4 : Int) : Option (Bool) := if a0_0 = true then (some false) else ((box_Good.f a0_0 a0_1 a0_2 a0_3 a0_4).bind fun t151 => (some t151))
set_option maxHeartbeats 8000000 in
set_option maxRecDepth 100000 in
theorem box_has.calls (a0_0 : Bool) (a0_1 : Int) (a0_2 : Int) (a0_3 : Int) (a0_4 : Int) (r : Bool) (w : World) (h : box_has.f a0_0 a0_1 a0_2 a0_3 a0_4 = some r) :
    Calls Tryd.prog 127 #[.agg #[.bool a0_0, .int .i64 a0_1, .int .i64 a0_2, .int .i64 a0_3, .int .i64 a0_4]] w fun e w' => e = .returned (.bool r) ∧ Below w.heap.size w w' := by
  have hu65 := Tryd.underlying65
  have HB := Aside0.mk (Below.refl w.heap.size w)
  have H : (if a0_0 = true then (some false) else ((box_Good.f a0_0 a0_1 a0_2 a0_3 a0_4).bind fun t151 => (some t151))) = some r := h
  clear h
  by_cases c2 : a0_0 = true
  · subst c2
    have H1 : (some false) = some r := by rw [if_pos rfl] at H; exact H
    clear H
    have H := H1
    clear H1
    obtain rfl := Option.some.inj H
    go_enter Tryd.func127, Tryd.ntmps127
    go_wp2_with (first | ((with_reducible refine gate_dst (N := 1) rfl ?_); refine box_event ?hg (N := 1) ?hd (cs := #[.bool true, .int .i64 a0_1, .int .i64 a0_2, .int .i64 a0_3, .int .i64 a0_4]) (t := 65) ?hr ?_; (case hd => rfl); (case hg => rfl); (case hr => first | (go_simp; done) | (go_simp; rfl)); intro gb150 hg w3 hbox hb; have n0_ := Aside0.mk (below_step (by repeat (first | (with_reducible first | exact HB.out | apply below_alloc | apply pw_below_drewN | apply below_drew1) | exact HB.out)) hb); have n1_ := Aside0.mk (hbox); have n2_ := Aside0.mk ((by rw [hg]; exact (below_size (by repeat (first | (with_reducible first | exact HB.out | apply below_alloc | apply pw_below_drewN | apply below_drew1) | exact HB.out))) : w.heap.size ≤ gb150)); have n3_ := Aside0.mk ((by rw [hg]; exact (below_size (by repeat (first | (with_reducible first | exact HB.out | apply below_alloc | apply pw_below_drewN | apply below_drew1) | exact HB.out))) : w.heap.size ≤ gb150)); clear HB; have HB := n0_; have BK150 := n1_; have GW150 := n2_; have GE150 := n3_; clear n0_ n1_ n2_ n3_; clear hb hbox hg; have hcz4_0 : w3.cell? ⟨gb150, 0, none⟩ = some (.bool true) := (blk_cell BK150.out 0).trans rfl; have hcz4_1 : w3.cell? ⟨gb150, 1, none⟩ = some (.int .i64 a0_1) := (blk_cell BK150.out 1).trans rfl; have hcz4_2 : w3.cell? ⟨gb150, 2, none⟩ = some (.int .i64 a0_2) := (blk_cell BK150.out 2).trans rfl; have hcz4_3 : w3.cell? ⟨gb150, 3, none⟩ = some (.int .i64 a0_3) := (blk_cell BK150.out 3).trans rfl; have hcz4_4 : w3.cell? ⟨gb150, 4, none⟩ = some (.int .i64 a0_4) := (blk_cell BK150.out 4).trans rfl; have hfz4_0 := blk_frozen BK150.out 0; have hfz4_1 := blk_frozen BK150.out 1; have hfz4_2 := blk_frozen BK150.out 2; have hfz4_3 := blk_frozen BK150.out 3; have hfz4_4 := blk_frozen BK150.out 4))
    go_ret
    exact ⟨by first | rfl | (simp [errW_none, errW_some] <;> rfl) | (simp [*, errW_none, errW_some] <;> rfl), by repeat (first | (with_reducible first | exact HB.out | apply below_alloc | apply pw_below_drewN | apply below_drew1 | refine below_set ?_ GE150.out) | exact HB.out)⟩
  · replace c2 := Bool.eq_false_iff.mpr c2
    subst c2
    have H1 : ((box_Good.f false a0_1 a0_2 a0_3 a0_4).bind fun t151 => (some t151)) = some r := by rw [if_neg (show ¬ (false = true) by decide)] at H; exact H
    clear H
    have H := H1
    clear H1
    replace H := Option.bind_eq_some_iff.mp H
    obtain ⟨t151, A50, H⟩ := H
    replace H : (some t151) = some r := H
    have A5 := Aside0.mk A50
    clear A50
    obtain rfl := Option.some.inj H
    go_enter Tryd.func127, Tryd.ntmps127
    go_wp2_with (first | ((with_reducible refine gate_dst (N := 1) rfl ?_); refine box_event ?hg (N := 1) ?hd (cs := #[.bool false, .int .i64 a0_1, .int .i64 a0_2, .int .i64 a0_3, .int .i64 a0_4]) (t := 65) ?hr ?_; (case hd => rfl); (case hg => rfl); (case hr => first | (go_simp; done) | (go_simp; rfl)); intro gb150 hg w6 hbox hb; have n0_ := Aside0.mk (below_step (by repeat (first | (with_reducible first | exact HB.out | apply below_alloc | apply pw_below_drewN | apply below_drew1) | exact HB.out)) hb); have n1_ := Aside0.mk (hbox); have n2_ := Aside0.mk ((by rw [hg]; exact (below_size (by repeat (first | (with_reducible first | exact HB.out | apply below_alloc | apply pw_below_drewN | apply below_drew1) | exact HB.out))) : w.heap.size ≤ gb150)); have n3_ := Aside0.mk ((by rw [hg]; exact (below_size (by repeat (first | (with_reducible first | exact HB.out | apply below_alloc | apply pw_below_drewN | apply below_drew1) | exact HB.out))) : w.heap.size ≤ gb150)); clear HB; have HB := n0_; have BK150 := n1_; have GW150 := n2_; have GE150 := n3_; clear n0_ n1_ n2_ n3_; clear hb hbox hg; have hcz7_0 : w6.cell? ⟨gb150, 0, none⟩ = some (.bool false) := (blk_cell BK150.out 0).trans rfl; have hcz7_1 : w6.cell? ⟨gb150, 1, none⟩ = some (.int .i64 a0_1) := (blk_cell BK150.out 1).trans rfl; have hcz7_2 : w6.cell? ⟨gb150, 2, none⟩ = some (.int .i64 a0_2) := (blk_cell BK150.out 2).trans rfl; have hcz7_3 : w6.cell? ⟨gb150, 3, none⟩ = some (.int .i64 a0_3) := (blk_cell BK150.out 3).trans rfl; have hcz7_4 : w6.cell? ⟨gb150, 4, none⟩ = some (.int .i64 a0_4) := (blk_cell BK150.out 4).trans rfl; have hfz7_0 := blk_frozen BK150.out 0; have hfz7_1 := blk_frozen BK150.out 1; have hfz7_2 := blk_frozen BK150.out 2; have hfz7_3 := blk_frozen BK150.out 3; have hfz7_4 := blk_frozen BK150.out 4) | (go_at_call 87; (with_reducible refine (box_Good.calls false a0_1 a0_2 a0_3 a0_4 t151 _ A5.out).mono ?_); rintro e w8 ⟨rfl, hb⟩; have n0_ := Aside0.mk (blk_below (g := gb150) (o := .cells #[.bool false, .int .i64 a0_1, .int .i64 a0_2, .int .i64 a0_3, .int .i64 a0_4] 65 (0, 0)) (by (with_reducible repeat (first | refine blk_drewN ?_ _ | refine blk_drew ?_ | refine blk_alloc ?_ _)); exact BK150.out) hb); have n1_ := Aside0.mk (below_step (by repeat (first | (with_reducible first | exact HB.out | apply below_alloc | apply pw_below_drewN | apply below_drew1 | refine below_set ?_ GE150.out) | exact HB.out)) hb); clear BK150; clear HB; have BK150 := n0_; have HB := n1_; clear n0_ n1_; (try clear hb); (try clear hb2); (try clear hk); (try clear hi)))
    go_ret
    exact ⟨by first | rfl | (simp [errW_none, errW_some] <;> rfl) | (simp [*, errW_none, errW_some] <;> rfl), by repeat (first | (with_reducible first | exact HB.out | apply below_alloc | apply pw_below_drewN | apply below_drew1 | refine below_set ?_ GE150.out) | exact HB.out)⟩


end Go.Proofs.YtcjidlgmbjebjaaDoor.PSchemaForms

namespace Go.Proofs.YtcjidlgmbjebjaaDoor.PSchemaForms
open Go.RowKit Go.Proofs.YtcjidlgmbjebjaaDoorW.PrintWords Go.Proofs.YtcjidlgmbjebjaaDoorW.PrintLast Go.Proofs.YtcjidlgmbjebjaaDoorW.PrintMore
attribute [local go_sem] max2_int min2_int max_two min_two max_three min_three max_four min_four
attribute [local go_sem high] eqA65
def hachureref15_Good.f (a0_0 : Bool) (a0_1 : Int) (a0_2 : Int) (a0_3 : Int) (a0_4 : Int) : Option (Bool) := if a0_0 = true then (some (a0_0 && ((a0_1 == 0 && (a0_2 == 0)) && ((a0_3 == 0 && (a0_4 == 0)))))) else (if a0_1 ≤ a0_3 then (some (decide (a0_2 ≤ a0_4))) else (some false))
set_option maxHeartbeats 8000000 in
set_option maxRecDepth 100000 in
theorem hachureref15_Good.calls (a0_0 : Bool) (a0_1 : Int) (a0_2 : Int) (a0_3 : Int) (a0_4 : Int) (r : Bool) (w : World) (h : hachureref15_Good.f a0_0 a0_1 a0_2 a0_3 a0_4 = some r) :
    Calls Tryd.prog 92 #[.agg #[.bool a0_0, .int .i64 a0_1, .int .i64 a0_2, .int .i64 a0_3, .int .i64 a0_4]] w fun e w' => e = .returned (.bool r) ∧ Below w.heap.size w w' := by
  have hu65 := Tryd.underlying65
  have HB := Aside0.mk (Below.refl w.heap.size w)
  have H : (if a0_0 = true then (some (a0_0 && ((a0_1 == 0 && (a0_2 == 0)) && ((a0_3 == 0 && (a0_4 == 0)))))) else (if a0_1 ≤ a0_3 then (some (decide (a0_2 ≤ a0_4))) else (some false))) = some r := h
  clear h
  by_cases c2 : a0_0 = true
  · subst c2
    have H1 : (some (true && ((a0_1 == 0 && (a0_2 == 0)) && ((a0_3 == 0 && (a0_4 == 0)))))) = some r := by rw [if_pos rfl] at H; exact H
    clear H
    have H := H1
    clear H1
    obtain rfl := Option.some.inj H
    go_enter Tryd.func92, Tryd.ntmps92
    go_wp2_with (first | ((with_reducible refine gate_dst (N := 1) rfl ?_); refine box_event ?hg (N := 1) ?hd (cs := #[.bool true, .int .i64 a0_1, .int .i64 a0_2, .int .i64 a0_3, .int .i64 a0_4]) (t := 65) ?hr ?_; (case hd => rfl); (case hg => rfl); (case hr => first | (go_simp; done) | (go_simp; rfl)); intro gb183 hg w3 hbox hb; have n0_ := Aside0.mk (below_step (by repeat (first | (with_reducible first | exact HB.out | apply below_alloc | apply pw_below_drewN | apply below_drew1) | exact HB.out)) hb); have n1_ := Aside0.mk (hbox); have n2_ := Aside0.mk ((by rw [hg]; exact (below_size (by repeat (first | (with_reducible first | exact HB.out | apply below_alloc | apply pw_below_drewN | apply below_drew1) | exact HB.out))) : w.heap.size ≤ gb183)); have n3_ := Aside0.mk ((by rw [hg]; exact (below_size (by repeat (first | (with_reducible first | exact HB.out | apply below_alloc | apply pw_below_drewN | apply below_drew1) | exact HB.out))) : w.heap.size ≤ gb183)); clear HB; have HB := n0_; have BK183 := n1_; have GW183 := n2_; have GE183 := n3_; clear n0_ n1_ n2_ n3_; clear hb hbox hg; have hcz4_0 : w3.cell? ⟨gb183, 0, none⟩ = some (.bool true) := (blk_cell BK183.out 0).trans rfl; have hcz4_1 : w3.cell? ⟨gb183, 1, none⟩ = some (.int .i64 a0_1) := (blk_cell BK183.out 1).trans rfl; have hcz4_2 : w3.cell? ⟨gb183, 2, none⟩ = some (.int .i64 a0_2) := (blk_cell BK183.out 2).trans rfl; have hcz4_3 : w3.cell? ⟨gb183, 3, none⟩ = some (.int .i64 a0_3) := (blk_cell BK183.out 3).trans rfl; have hcz4_4 : w3.cell? ⟨gb183, 4, none⟩ = some (.int .i64 a0_4) := (blk_cell BK183.out 4).trans rfl; have hfz4_0 := blk_frozen BK183.out 0; have hfz4_1 := blk_frozen BK183.out 1; have hfz4_2 := blk_frozen BK183.out 2; have hfz4_3 := blk_frozen BK183.out 3; have hfz4_4 := blk_frozen BK183.out 4))
    go_ret
    exact ⟨by first | rfl | (simp [errW_none, errW_some] <;> rfl) | (simp [*, errW_none, errW_some] <;> rfl), by repeat (first | (with_reducible first | exact HB.out | apply below_alloc | apply pw_below_drewN | apply below_drew1 | refine below_set ?_ GE183.out) | exact HB.out)⟩
  · replace c2 := Bool.eq_false_iff.mpr c2
    subst c2
    have H1 : (if a0_1 ≤ a0_3 then (some (decide (a0_2 ≤ a0_4))) else (some false)) = some r := by rw [if_neg (show ¬ (false = true) by decide)] at H; exact H
    clear H
    have H := H1
    clear H1
    by_cases c5 : a0_1 ≤ a0_3
    · rw [if_pos c5] at H
      have c5b0 : decide (a0_1 ≤ a0_3) = true := decide_eq_true c5
      clear c5
      obtain rfl := Option.some.inj H
      go_enter Tryd.func92, Tryd.ntmps92
      go_wp2_with (first | ((with_reducible refine gate_dst (N := 1) rfl ?_); refine box_event ?hg (N := 1) ?hd (cs := #[.bool false, .int .i64 a0_1, .int .i64 a0_2, .int .i64 a0_3, .int .i64 a0_4]) (t := 65) ?hr ?_; (case hd => rfl); (case hg => rfl); (case hr => first | (go_simp; done) | (go_simp; rfl)); intro gb183 hg w6 hbox hb; have n0_ := Aside0.mk (below_step (by repeat (first | (with_reducible first | exact HB.out | apply below_alloc | apply pw_below_drewN | apply below_drew1) | exact HB.out)) hb); have n1_ := Aside0.mk (hbox); have n2_ := Aside0.mk ((by rw [hg]; exact (below_size (by repeat (first | (with_reducible first | exact HB.out | apply below_alloc | apply pw_below_drewN | apply below_drew1) | exact HB.out))) : w.heap.size ≤ gb183)); have n3_ := Aside0.mk ((by rw [hg]; exact (below_size (by repeat (first | (with_reducible first | exact HB.out | apply below_alloc | apply pw_below_drewN | apply below_drew1) | exact HB.out))) : w.heap.size ≤ gb183)); clear HB; have HB := n0_; have BK183 := n1_; have GW183 := n2_; have GE183 := n3_; clear n0_ n1_ n2_ n3_; clear hb hbox hg; have hcz7_0 : w6.cell? ⟨gb183, 0, none⟩ = some (.bool false) := (blk_cell BK183.out 0).trans rfl; have hcz7_1 : w6.cell? ⟨gb183, 1, none⟩ = some (.int .i64 a0_1) := (blk_cell BK183.out 1).trans rfl; have hcz7_2 : w6.cell? ⟨gb183, 2, none⟩ = some (.int .i64 a0_2) := (blk_cell BK183.out 2).trans rfl; have hcz7_3 : w6.cell? ⟨gb183, 3, none⟩ = some (.int .i64 a0_3) := (blk_cell BK183.out 3).trans rfl; have hcz7_4 : w6.cell? ⟨gb183, 4, none⟩ = some (.int .i64 a0_4) := (blk_cell BK183.out 4).trans rfl; have hfz7_0 := blk_frozen BK183.out 0; have hfz7_1 := blk_frozen BK183.out 1; have hfz7_2 := blk_frozen BK183.out 2; have hfz7_3 := blk_frozen BK183.out 3; have hfz7_4 := blk_frozen BK183.out 4))
      go_ret
      exact ⟨by first | rfl | (simp [errW_none, errW_some] <;> rfl) | (simp [*, errW_none, errW_some] <;> rfl), by repeat (first | (with_reducible first | exact HB.out | apply below_alloc | apply pw_below_drewN | apply below_drew1 | refine below_set ?_ GE183.out) | exact HB.out)⟩
    · rw [if_neg c5] at H
      have c5b0 : decide (a0_1 ≤ a0_3) = false := decide_eq_false c5
      clear c5
      obtain rfl := Option.some.inj H
      go_enter Tryd.func92, Tryd.ntmps92
      go_wp2_with (first | ((with_reducible refine gate_dst (N := 1) rfl ?_); refine box_event ?hg (N := 1) ?hd (cs := #[.bool false, .int .i64 a0_1, .int .i64 a0_2, .int .i64 a0_3, .int .i64 a0_4]) (t := 65) ?hr ?_; (case hd => rfl); (case hg => rfl); (case hr => first | (go_simp; done) | (go_simp; rfl)); intro gb183 hg w8 hbox hb; have n0_ := Aside0.mk (below_step (by repeat (first | (with_reducible first | exact HB.out | apply below_alloc | apply pw_below_drewN | apply below_drew1) | exact HB.out)) hb); have n1_ := Aside0.mk (hbox); have n2_ := Aside0.mk ((by rw [hg]; exact (below_size (by repeat (first | (with_reducible first | exact HB.out | apply below_alloc | apply pw_below_drewN | apply below_drew1) | exact HB.out))) : w.heap.size ≤ gb183)); have n3_ := Aside0.mk ((by rw [hg]; exact (below_size (by repeat (first | (with_reducible first | exact HB.out | apply below_alloc | apply pw_below_drewN | apply below_drew1) | exact HB.out))) : w.heap.size ≤ gb183)); clear HB; have HB := n0_; have BK183 := n1_; have GW183 := n2_; have GE183 := n3_; clear n0_ n1_ n2_ n3_; clear hb hbox hg; have hcz9_0 : w8.cell? ⟨gb183, 0, none⟩ = some (.bool false) := (blk_cell BK183.out 0).trans rfl; have hcz9_1 : w8.cell? ⟨gb183, 1, none⟩ = some (.int .i64 a0_1) := (blk_cell BK183.out 1).trans rfl; have hcz9_2 : w8.cell? ⟨gb183, 2, none⟩ = some (.int .i64 a0_2) := (blk_cell BK183.out 2).trans rfl; have hcz9_3 : w8.cell? ⟨gb183, 3, none⟩ = some (.int .i64 a0_3) := (blk_cell BK183.out 3).trans rfl; have hcz9_4 : w8.cell? ⟨gb183, 4, none⟩ = some (.int .i64 a0_4) := (blk_cell BK183.out 4).trans rfl; have hfz9_0 := blk_frozen BK183.out 0; have hfz9_1 := blk_frozen BK183.out 1; have hfz9_2 := blk_frozen BK183.out 2; have hfz9_3 := blk_frozen BK183.out 3; have hfz9_4 := blk_frozen BK183.out 4))
      go_ret
      exact ⟨by first | rfl | (simp [errW_none, errW_some] <;> rfl) | (simp [*, errW_none, errW_some] <;> rfl), by repeat (first | (with_reducible first | exact HB.out | apply below_alloc | apply pw_below_drewN | apply below_drew1 | refine below_set ?_ GE183.out) | exact HB.out)⟩


end Go.Proofs.YtcjidlgmbjebjaaDoor.PSchemaForms

namespace Go.Proofs.YtcjidlgmbjebjaaDoor
open Go Go.RowKit Go.Proofs.YtcjidlgmbjebjaaDoorW.PrintWords
def boxV (bn : Bool) (lx ly hx hy : Int) : Value := .agg #[.bool bn, .int .i64 lx, .int .i64 ly, .int .i64 hx, .int .i64 hy]
def boxG (bn : Bool) (lx ly hx hy : Int) : Bool := if bn then (decide (lx = 0) && decide (ly = 0)) && (decide (hx = 0) && decide (hy = 0)) else decide (lx ≤ hx) && decide (ly ≤ hy)
theorem boxgood_val (bn : Bool) (lx ly hx hy : Int) (w : World) : Calls Tryd.prog 87 #[boxV bn lx ly hx hy] w (RetS (.bool (boxG bn lx ly hx hy)) w) := by
  refine (PSchemaForms.box_Good.calls bn lx ly hx hy (boxG bn lx ly hx hy) w ?_).mono fun e w' h => ⟨h.1, h.2⟩
  unfold PSchemaForms.box_Good.f PSchemaForms.box_None.f boxG
  cases bn
  · by_cases h : lx ≤ hx
    · simp [h]
    · simp [h]
  · simp only [if_true, Option.bind_some]
    congr 1
theorem rboxgood_val (bn : Bool) (lx ly hx hy : Int) (w : World) : Calls Tryd.prog 92 #[boxV bn lx ly hx hy] w (RetS (.bool (boxG bn lx ly hx hy)) w) := by
  refine (PSchemaForms.hachureref15_Good.calls bn lx ly hx hy (boxG bn lx ly hx hy) w ?_).mono fun e w' h => ⟨h.1, h.2⟩
  unfold PSchemaForms.hachureref15_Good.f boxG
  cases bn
  · by_cases h : lx ≤ hx
    · simp [h]
    · simp [h]
  · simp only [if_true]
    congr 1
theorem boxhas_val (bn : Bool) (lx ly hx hy : Int) (w : World) : Calls Tryd.prog 127 #[boxV bn lx ly hx hy] w (RetS (.bool (!bn && boxG bn lx ly hx hy)) w) := by
  refine (PSchemaForms.box_has.calls bn lx ly hx hy (!bn && boxG bn lx ly hx hy) w ?_).mono fun e w' h => ⟨h.1, h.2⟩
  unfold PSchemaForms.box_has.f PSchemaForms.box_Good.f boxG
  cases bn
  · by_cases h : lx ≤ hx
    · simp [h]
    · simp [h]
  · simp
theorem boxnone_val (w : World) : Calls Tryd.prog 76 #[] w (RetS (boxV true 0 0 0 0) w) :=
  (PSchemaForms.box_None.calls true 0 0 0 0 w rfl).mono fun e w' h => ⟨h.1, h.2⟩
theorem bit_val (b : Bool) (w : World) : Calls Tryd.prog 90 #[.bool b] w (RetS (.int .u8 (if b then 1 else 0)) w) :=
  (PSchemaForms.schema_bit.calls b _ w (by unfold PSchemaForms.schema_bit.f; cases b <;> rfl)).mono fun e w' h => ⟨h.1, drawn_below h.2⟩
def nmL (s : ByteArray) : List Int := (s.size : Int) :: bytesOf s
theorem named_row (s : ByteArray) (hs : s.size ≤ 12) (w : World) : Calls Tryd.prog 88 #[.string s] w (RetRow (nmL s) w) := by
  refine (PSchemaForms.schema_named.calls s (nmL s) w ?_).mono fun e w' ⟨v, he, h, hb⟩ => ⟨v, he, row_of_R h, hb⟩
  unfold PSchemaForms.schema_named.f nmL
  simp only [Option.bind_some]
  rw [if_pos (by simp; omega), show (s.size : Int) % 256 = s.size by omega]
  rfl
set_option maxHeartbeats 2000000 in
theorem rboxhas_val (bn : Bool) (lx ly hx hy : Int) (w : World) : Calls Tryd.prog 129 #[boxV bn lx ly hx hy] w (RetS (.bool (boxG bn lx ly hx hy && !bn)) w) := by
  have HG := Lib.hid (fun w => rboxgood_val bn lx ly hx hy w)
  unfold boxV at HG ⊢
  cases hg : boxG bn lx ly hx hy
  all_goals
    rw [hg] at HG
    go_enter Tryd.func129, Tryd.ntmps129
    go_wp2_with fail
    refine (HG.out _).mono ?_
    rintro e w1 ⟨rfl, hb⟩
    have c0 : w1.cell? ⟨w.heap.size, 0, none⟩ = some (.bool bn) := cell_later hb (by go_cell)
    have HB := Lib.hid (below_step (show Below w.heap.size w _ from (Below.refl _ _).alloc (Nat.le_refl _) _) hb)
    clear hb
    dsimp only
    go_wp2_with fail
    go_ret
    exact ⟨by simp, HB.out⟩
end Go.Proofs.YtcjidlgmbjebjaaDoor

namespace Go.Proofs.YtcjidlgmbjebjaaDoor
open Go Go.RowKit Go.Proofs.YtcjidlgmbjebjaaDoorW.PrintWords
def numB (n : Int) : List Int := putB (u64of n)
theorem numB_len (n : Int) : (numB n).length = 8 := rfl
def bxB (bn : Bool) (lx ly hx hy : Int) : List Int := bif !bn && boxG bn lx ly hx hy then numB lx ++ (numB hx ++ (numB ly ++ numB hy)) else []
theorem putn_row (n : Int) (v : Value) (l : List Int) (W : World) (hv : SlB W v l) (hl : l.length ≤ 140737488350000) : Calls Tryd.prog 115 #[v, .int .u64 (n % 18446744073709551616), .int .i64 8, .bool false] W (RetRow (l ++ numB n) W) :=
  put_row (u64of n) (by unfold u64of; omega) (by unfold u64of; omega) v l W hv hl
theorem idx185_0 (a b c d : Int) (w : World) : (Instr.index 185 (.agg #[.int .i64 a, .int .i64 b, .int .i64 c, .int .i64 d]) (.int .i64 0)).run Tryd.prog w = .ok (.agg #[.int .i64 a, .int .i64 b]) w := by kernel_rfl
theorem idx185_1 (a b c d : Int) (w : World) : (Instr.index 185 (.agg #[.int .i64 a, .int .i64 b, .int .i64 c, .int .i64 d]) (.int .i64 1)).run Tryd.prog w = .ok (.agg #[.int .i64 c, .int .i64 d]) w := by kernel_rfl
def sideV (lx ly hx hy : Int) : Value := .agg #[.int .i64 lx, .int .i64 hx, .int .i64 ly, .int .i64 hy]
set_option maxHeartbeats 2000000 in
theorem sides_val (bn : Bool) (lx ly hx hy : Int) (w : World) : Calls Tryd.prog 128 #[boxV bn lx ly hx hy] w (RetS (sideV lx ly hx hy) w) := by
  unfold boxV
  go_enter Tryd.func128, Tryd.ntmps128
  go_wp2
  refine bodyPost_ret (v := sideV lx ly hx hy) (by simp [results, Tryd.results128, go_sem, sideV]) rfl ⟨rfl, by go_grown⟩
def BbR (lx ly hx hy : Int) (W : World) (a i : Value) (w' : World) : Prop :=
  ∃ (j n c : Nat) (p : Option Addr), j ≤ 2 ∧ i = .int .i64 j ∧ a = .slice p n c ∧ Row w' W.heap.size (.slice p n c) ((numB lx ++ (numB hx ++ (numB ly ++ numB hy))).take (j * 16)) ∧ Below W.heap.size W w'
theorem slb_alloc {w : World} {v : Value} {l : List Int} (h : SlB w v l) (o : Obj) : SlB (w.alloc o) v l := slb_below h ((Below.refl _ _).alloc (Nat.le_refl _) o)
theorem below_below {B : Nat} {a b c : World} (h : Below B a b) (k : Below b.heap.size b c) (hB : B ≤ b.heap.size) : Below B a c := h.trans (k.mono hB)
set_option maxHeartbeats 4000000 in
theorem boxbytes_row (bn : Bool) (lx ly hx hy : Int) (W : World) : Calls Tryd.prog 91 #[boxV bn lx ly hx hy] W (RetRow (bxB bn lx ly hx hy) W) := by
  have HH := Lib.hid (fun w => boxhas_val bn lx ly hx hy w)
  have HS := Lib.hid (fun w => sides_val bn lx ly hx hy w)
  unfold boxV at HH HS ⊢
  unfold sideV at HS
  cases hg : (!bn && boxG bn lx ly hx hy) with
  | false =>
    have HV := Lib.hid (show bxB bn lx ly hx hy = [] by unfold bxB; rw [hg]; rfl)
    rw [hg] at HH
    go_enter Tryd.func91, Tryd.ntmps91
    go_wp2_with fail
    refine (HH.out _).mono ?_
    rintro e w1 ⟨rfl, hb⟩
    have HB := Lib.hid (below_step (show Below W.heap.size W _ from (Below.refl _ _).alloc (Nat.le_refl _) _) hb)
    clear hb
    dsimp only
    go_wp2_with fail
    go_ret
    exact ⟨_, rfl, by rw [HV.out]; exact World.ownsRow_nil _ _ _ _, HB.out⟩
  | true =>
    have HV := Lib.hid (show bxB bn lx ly hx hy = numB lx ++ (numB hx ++ (numB ly ++ numB hy)) by unfold bxB; rw [hg]; rfl)
    rw [hg] at HH
    clear hg
    have x0 := fun w => idx185_0 lx hx ly hy w
    have x1 := fun w => idx185_1 lx hx ly hy w
    go_enter Tryd.func91, Tryd.ntmps91
    go_wp2_with fail
    refine (HH.out _).mono ?_
    rintro e w1 ⟨rfl, hb⟩
    have c0 : w1.cell? ⟨W.heap.size, 0, none⟩ = some (.bool bn) := cell_later hb (by go_cell)
    have c1 : w1.cell? ⟨W.heap.size, 1, none⟩ = some (.int .i64 lx) := cell_later hb (by go_cell)
    have c2 : w1.cell? ⟨W.heap.size, 2, none⟩ = some (.int .i64 ly) := cell_later hb (by go_cell)
    have c3 : w1.cell? ⟨W.heap.size, 3, none⟩ = some (.int .i64 hx) := cell_later hb (by go_cell)
    have c4 : w1.cell? ⟨W.heap.size, 4, none⟩ = some (.int .i64 hy) := cell_later hb (by go_cell)
    have HB := Lib.hid (below_step (show Below W.heap.size W _ from (Below.refl _ _).alloc (Nat.le_refl _) _) hb)
    clear hb
    dsimp only
    go_wp2_with fail
    refine (HS.out _).mono ?_
    rintro e w2 ⟨rfl, hb⟩
    have HB2 := Lib.hid (below_step HB.out hb)
    clear hb c0 c1 c2 c3 c4
    dsimp only
    go_wp2_with fail
    go_loopw [3, 11] (fun a i w' => BbR lx ly hx hy W a i w') (fun _ i _ => 2 - (intOf i).toNat)
    case atStart => exact ⟨0, 0, 0, none, by omega, rfl, rfl, World.ownsRow_nil _ _ _ _, HB2.out⟩
    case round =>
      obtain ⟨j, n, c, p, hj, rfl, rfl, hrow, hB⟩ := hrel
      have hj3 : j = 0 ∨ j = 1 ∨ j = 2 := by omega
      clear hj
      rcases hj3 with rfl | rfl | rfl
      · have HE := Lib.hid (show (numB lx ++ (numB hx ++ (numB ly ++ numB hy))).take (0 * 16) ++ numB lx ++ numB hx = (numB lx ++ (numB hx ++ (numB ly ++ numB hy))).take (1 * 16) by rfl)
        have hln : ((numB lx ++ (numB hx ++ (numB ly ++ numB hy))).take (0 * 16)).length = 0 := by rfl
        have HSL := Lib.hid (slb_row hrow (by rw [hln]; decide))
        have hlo := row_shape hrow
        clear hrow
        go_wp2_with fail
        generalize (numB lx ++ (numB hx ++ (numB ly ++ numB hy))).take (0 * 16) = L at HSL HE hln
        go_region_held3 (fun w' => w'.cell? ⟨wr.heap.size, 0, none⟩ = some (.int .i64 lx) ∧ w'.cell? ⟨wr.heap.size, 1, none⟩ = some (.int .i64 hx) ∧ Below wr.heap.size wr w')
          (first
            | (go_keep; done)
            | ((repeat' apply And.intro) <;> first | (go_cell; done) | (rw [World.cell?_drew]; go_cell; done) | (go_grown; done))
            | (go_split_ands; (repeat' apply And.intro) <;> first | (exact cell_later hb2 (by assumption)) | (exact below_below (by assumption) hb2 (Below.size (by assumption))))
            | (go_split_ands; (repeat' apply And.intro) <;> first | (exact cell_later hb1 (by assumption)) | (exact below_below (by assumption) hb1 (Below.size (by assumption)))))
          (first
            | (have hr1' := slb_row hr1 (by rw [List.length_append, numB_len]; omega); go_at_call 115; go_split_ands; refine (putn_row hx va _ _ hr1' (by rw [List.length_append, numB_len]; omega)).mono ?_; rintro e wb ⟨vb, rfl, hr2, hb2⟩)
            | (go_at_call 115; go_split_ands; refine (putn_row lx _ L _ (slb_below HSL.out (by assumption)) (by omega)).mono ?_; rintro e wa ⟨va, rfl, hr1, hb1⟩))
        rename_i hH
        obtain ⟨pb, cb, rfl⟩ := row_shape hr2
        have HREL := Lib.hid (show BbR lx ly hx hy W (.slice pb _ cb) (.int .i64 1) wb from
          ⟨1, _, _, _, by omega, rfl, rfl, by rw [← HE.out]; exact row_lower hr2 (Nat.le_trans hB.size (Below.size (by assumption))), below_below hB hH.2.2 hB.size⟩)
        generalize (L ++ numB lx ++ numB hx).length = M2 at HREL
        clear hr1 hr2 hb1 hb2 hH
        go_wp2_with fail
        exact ⟨HREL.out, by simp [intOf]⟩
      · have HE := Lib.hid (show (numB lx ++ (numB hx ++ (numB ly ++ numB hy))).take (1 * 16) ++ numB ly ++ numB hy = (numB lx ++ (numB hx ++ (numB ly ++ numB hy))).take (2 * 16) by rfl)
        have hln : ((numB lx ++ (numB hx ++ (numB ly ++ numB hy))).take (1 * 16)).length = 16 := by rfl
        have HSL := Lib.hid (slb_row hrow (by rw [hln]; decide))
        have hlo := row_shape hrow
        clear hrow
        go_wp2_with fail
        generalize (numB lx ++ (numB hx ++ (numB ly ++ numB hy))).take (1 * 16) = L at HSL HE hln
        go_region_held3 (fun w' => w'.cell? ⟨wr.heap.size, 0, none⟩ = some (.int .i64 ly) ∧ w'.cell? ⟨wr.heap.size, 1, none⟩ = some (.int .i64 hy) ∧ Below wr.heap.size wr w')
          (first
            | (go_keep; done)
            | ((repeat' apply And.intro) <;> first | (go_cell; done) | (rw [World.cell?_drew]; go_cell; done) | (go_grown; done))
            | (go_split_ands; (repeat' apply And.intro) <;> first | (exact cell_later hb2 (by assumption)) | (exact below_below (by assumption) hb2 (Below.size (by assumption))))
            | (go_split_ands; (repeat' apply And.intro) <;> first | (exact cell_later hb1 (by assumption)) | (exact below_below (by assumption) hb1 (Below.size (by assumption)))))
          (first
            | (have hr1' := slb_row hr1 (by rw [List.length_append, numB_len]; omega); go_at_call 115; go_split_ands; refine (putn_row hy va _ _ hr1' (by rw [List.length_append, numB_len]; omega)).mono ?_; rintro e wb ⟨vb, rfl, hr2, hb2⟩)
            | (go_at_call 115; go_split_ands; refine (putn_row ly _ L _ (slb_below HSL.out (by assumption)) (by omega)).mono ?_; rintro e wa ⟨va, rfl, hr1, hb1⟩))
        rename_i hH
        obtain ⟨pb, cb, rfl⟩ := row_shape hr2
        have HREL := Lib.hid (show BbR lx ly hx hy W (.slice pb _ cb) (.int .i64 2) wb from
          ⟨2, _, _, _, by omega, rfl, rfl, by rw [← HE.out]; exact row_lower hr2 (Nat.le_trans hB.size (Below.size (by assumption))), below_below hB hH.2.2 hB.size⟩)
        generalize (L ++ numB ly ++ numB hy).length = M2 at HREL
        clear hr1 hr2 hb1 hb2 hH
        go_wp2_with fail
        exact ⟨HREL.out, by simp [intOf]⟩
      · have hr := hrow
        go_wp2_with fail
        go_ret
        exact ⟨_, rfl, by rw [HV.out]; exact hr, hB⟩
theorem idx182_0 (a b c d : Int) (w : World) : (Instr.index 182 (.agg #[.int .i64 a, .int .i64 b, .int .i64 c, .int .i64 d]) (.int .i64 0)).run Tryd.prog w = .ok (.int .i64 a) w := by kernel_rfl
theorem idx182_1 (a b c d : Int) (w : World) : (Instr.index 182 (.agg #[.int .i64 a, .int .i64 b, .int .i64 c, .int .i64 d]) (.int .i64 1)).run Tryd.prog w = .ok (.int .i64 b) w := by kernel_rfl
theorem idx182_2 (a b c d : Int) (w : World) : (Instr.index 182 (.agg #[.int .i64 a, .int .i64 b, .int .i64 c, .int .i64 d]) (.int .i64 2)).run Tryd.prog w = .ok (.int .i64 c) w := by kernel_rfl
theorem idx182_3 (a b c d : Int) (w : World) : (Instr.index 182 (.agg #[.int .i64 a, .int .i64 b, .int .i64 c, .int .i64 d]) (.int .i64 3)).run Tryd.prog w = .ok (.int .i64 d) w := by kernel_rfl
theorem rputn_row (n : Int) (v : Value) (l : List Int) (W : World) (hv : SlB W v l) (hl : l.length ≤ 140737488350000) : Calls Tryd.prog 62 #[v, .int .u64 (n % 18446744073709551616), .int .i64 8, .bool false] W (RetRow (l ++ numB n) W) := by
  obtain ⟨A, c, rfl, hc, hC⟩ := hv
  exact refput_row A c l (u64of n) W hC hc (by omega)
def RbR (lx ly hx hy : Int) (W : World) (a i : Value) (w' : World) : Prop :=
  ∃ (j n c : Nat) (p : Option Addr), j ≤ 4 ∧ i = .int .i64 j ∧ a = .slice p n c ∧ Row w' W.heap.size (.slice p n c) ((numB lx ++ (numB hx ++ (numB ly ++ numB hy))).take (j * 8)) ∧ Below W.heap.size W w'
set_option maxHeartbeats 4000000 in
theorem rboxbytes_row (bn : Bool) (lx ly hx hy : Int) (W : World) : Calls Tryd.prog 96 #[boxV bn lx ly hx hy] W (RetRow (bxB bn lx ly hx hy) W) := by
  have HH := Lib.hid (fun w => rboxhas_val bn lx ly hx hy w)
  unfold boxV at HH ⊢
  cases hg : (boxG bn lx ly hx hy && !bn) with
  | false =>
    have HV := Lib.hid (show bxB bn lx ly hx hy = [] by unfold bxB; rw [Bool.and_comm, hg]; rfl)
    rw [hg] at HH
    go_enter Tryd.func96, Tryd.ntmps96
    go_wp2_with fail
    refine (HH.out _).mono ?_
    rintro e w1 ⟨rfl, hb⟩
    have HB := Lib.hid (below_step (show Below W.heap.size W _ from (Below.refl _ _).alloc (Nat.le_refl _) _) hb)
    clear hb
    dsimp only
    go_wp2_with fail
    go_ret
    exact ⟨_, rfl, by rw [HV.out]; exact World.ownsRow_nil _ _ _ _, HB.out⟩
  | true =>
    have HV := Lib.hid (show bxB bn lx ly hx hy = numB lx ++ (numB hx ++ (numB ly ++ numB hy)) by unfold bxB; rw [Bool.and_comm, hg]; rfl)
    rw [hg] at HH
    clear hg
    have x0 := fun w => idx182_0 lx hx ly hy w
    have x1 := fun w => idx182_1 lx hx ly hy w
    have x2 := fun w => idx182_2 lx hx ly hy w
    have x3 := fun w => idx182_3 lx hx ly hy w
    go_enter Tryd.func96, Tryd.ntmps96
    go_wp2_with fail
    refine (HH.out _).mono ?_
    rintro e w1 ⟨rfl, hb⟩
    have c0 : w1.cell? ⟨W.heap.size, 0, none⟩ = some (.bool bn) := cell_later hb (by go_cell)
    have c1 : w1.cell? ⟨W.heap.size, 1, none⟩ = some (.int .i64 lx) := cell_later hb (by go_cell)
    have c2 : w1.cell? ⟨W.heap.size, 2, none⟩ = some (.int .i64 ly) := cell_later hb (by go_cell)
    have c3 : w1.cell? ⟨W.heap.size, 3, none⟩ = some (.int .i64 hx) := cell_later hb (by go_cell)
    have c4 : w1.cell? ⟨W.heap.size, 4, none⟩ = some (.int .i64 hy) := cell_later hb (by go_cell)
    have HB := Lib.hid (below_step (show Below W.heap.size W _ from (Below.refl _ _).alloc (Nat.le_refl _) _) hb)
    clear hb
    dsimp only
    go_wp2_with fail
    go_loopw [3, 22] (fun a i w' => RbR lx ly hx hy W a i w') (fun _ i _ => 4 - (intOf i).toNat)
    case atStart => exact ⟨0, 0, 0, none, by omega, rfl, rfl, World.ownsRow_nil _ _ _ _, HB.out⟩
    case round =>
      obtain ⟨j, n, c, p, hj, rfl, rfl, hrow, hB⟩ := hrel
      clear c0 c1 c2 c3 c4
      have hj3 : j = 0 ∨ j = 1 ∨ j = 2 ∨ j = 3 ∨ j = 4 := by omega
      clear hj
      rcases hj3 with rfl | rfl | rfl | rfl | rfl
      · have hln : ((numB lx ++ (numB hx ++ (numB ly ++ numB hy))).take (0 * 8)).length = 0 := by rfl
        have HE := Lib.hid (show (numB lx ++ (numB hx ++ (numB ly ++ numB hy))).take (0 * 8) ++ numB lx = (numB lx ++ (numB hx ++ (numB ly ++ numB hy))).take (1 * 8) by rfl)
        have HP := Lib.hid (rputn_row lx _ _ wr (slb_row hrow (by rw [hln]; decide)) (by rw [hln]; decide))
        clear hrow hln
        go_wp2_with fail
        refine HP.out.mono ?_
        rintro e w2 ⟨v2, rfl, hr2, hb2⟩
        rw [HE.out] at hr2
        obtain ⟨pb, cb, rfl⟩ := row_shape hr2
        have HREL := Lib.hid (show RbR lx ly hx hy W (.slice pb _ cb) (.int .i64 1) w2 from
          ⟨1, _, _, _, by omega, rfl, rfl, row_lower hr2 hB.size, below_step hB hb2⟩)
        generalize ((numB lx ++ (numB hx ++ (numB ly ++ numB hy))).take (1 * 8)).length = M2 at HREL
        clear hr2 hb2
        dsimp only
        go_wp2_with fail
        exact ⟨HREL.out, by simp [intOf]⟩
      · have hln : ((numB lx ++ (numB hx ++ (numB ly ++ numB hy))).take (1 * 8)).length = 8 := by rfl
        have HE := Lib.hid (show (numB lx ++ (numB hx ++ (numB ly ++ numB hy))).take (1 * 8) ++ numB hx = (numB lx ++ (numB hx ++ (numB ly ++ numB hy))).take (2 * 8) by rfl)
        have HP := Lib.hid (rputn_row hx _ _ wr (slb_row hrow (by rw [hln]; decide)) (by rw [hln]; decide))
        clear hrow hln
        go_wp2_with fail
        refine HP.out.mono ?_
        rintro e w2 ⟨v2, rfl, hr2, hb2⟩
        rw [HE.out] at hr2
        obtain ⟨pb, cb, rfl⟩ := row_shape hr2
        have HREL := Lib.hid (show RbR lx ly hx hy W (.slice pb _ cb) (.int .i64 2) w2 from
          ⟨2, _, _, _, by omega, rfl, rfl, row_lower hr2 hB.size, below_step hB hb2⟩)
        generalize ((numB lx ++ (numB hx ++ (numB ly ++ numB hy))).take (2 * 8)).length = M2 at HREL
        clear hr2 hb2
        dsimp only
        go_wp2_with fail
        exact ⟨HREL.out, by simp [intOf]⟩
      · have hln : ((numB lx ++ (numB hx ++ (numB ly ++ numB hy))).take (2 * 8)).length = 16 := by rfl
        have HE := Lib.hid (show (numB lx ++ (numB hx ++ (numB ly ++ numB hy))).take (2 * 8) ++ numB ly = (numB lx ++ (numB hx ++ (numB ly ++ numB hy))).take (3 * 8) by rfl)
        have HP := Lib.hid (rputn_row ly _ _ wr (slb_row hrow (by rw [hln]; decide)) (by rw [hln]; decide))
        clear hrow hln
        go_wp2_with fail
        refine HP.out.mono ?_
        rintro e w2 ⟨v2, rfl, hr2, hb2⟩
        rw [HE.out] at hr2
        obtain ⟨pb, cb, rfl⟩ := row_shape hr2
        have HREL := Lib.hid (show RbR lx ly hx hy W (.slice pb _ cb) (.int .i64 3) w2 from
          ⟨3, _, _, _, by omega, rfl, rfl, row_lower hr2 hB.size, below_step hB hb2⟩)
        generalize ((numB lx ++ (numB hx ++ (numB ly ++ numB hy))).take (3 * 8)).length = M2 at HREL
        clear hr2 hb2
        dsimp only
        go_wp2_with fail
        exact ⟨HREL.out, by simp [intOf]⟩
      · have hln : ((numB lx ++ (numB hx ++ (numB ly ++ numB hy))).take (3 * 8)).length = 24 := by rfl
        have HE := Lib.hid (show (numB lx ++ (numB hx ++ (numB ly ++ numB hy))).take (3 * 8) ++ numB hy = (numB lx ++ (numB hx ++ (numB ly ++ numB hy))).take (4 * 8) by rfl)
        have HP := Lib.hid (rputn_row hy _ _ wr (slb_row hrow (by rw [hln]; decide)) (by rw [hln]; decide))
        clear hrow hln
        go_wp2_with fail
        refine HP.out.mono ?_
        rintro e w2 ⟨v2, rfl, hr2, hb2⟩
        rw [HE.out] at hr2
        obtain ⟨pb, cb, rfl⟩ := row_shape hr2
        have HREL := Lib.hid (show RbR lx ly hx hy W (.slice pb _ cb) (.int .i64 4) w2 from
          ⟨4, _, _, _, by omega, rfl, rfl, row_lower hr2 hB.size, below_step hB hb2⟩)
        generalize ((numB lx ++ (numB hx ++ (numB ly ++ numB hy))).take (4 * 8)).length = M2 at HREL
        clear hr2 hb2
        dsimp only
        go_wp2_with fail
        exact ⟨HREL.out, by simp [intOf]⟩
      · have hr := hrow
        go_wp2_with fail
        go_ret
        exact ⟨_, rfl, by rw [HV.out]; exact hr, hB⟩
end Go.Proofs.YtcjidlgmbjebjaaDoor
