import Derived.Test.YtcjidlgmbjebjaaDoorAskAd
set_option linter.unusedVariables false
set_option linter.unusedSimpArgs false
set_option maxRecDepth 100000
namespace Go.Proofs.YtcjidlgmbjebjaaDoor
open Go Go.RowKit
theorem below_step {W w w' : World} (h1 : Below W.heap.size W w) (h2 : Below w.heap.size w w') : Below W.heap.size W w' := h1.trans (h2.mono h1.size)
def RetBool (b : Bool) (W : World) (e : Ending) (w' : World) : Prop := e = .returned (.bool b) ∧ Below W.heap.size W w'
theorem equal_val (k1 n1 : Int) (s1 : ByteArray) (k2 n2 : Int) (s2 : ByteArray) (W : World) :
    Calls Tryd.prog 30 #[.agg #[.int .i64 k1, .int .i64 n1, .string s1], .agg #[.int .i64 k2, .int .i64 n2, .string s2]] W (RetBool (decide (k1 = k2 ∧ n1 = n2 ∧ s1.toList = s2.toList)) W) := by
  go_enter Tryd.func30, Tryd.ntmps30
  go_wp2
  all_goals go_ret
  all_goals refine ⟨?_, ?_⟩
  all_goals first | go_grown | skip
  all_goals simp_all
def TrueBelow (W : World) (e : Ending) (w' : World) : Prop := e = .returned (.bool true) ∧ Below W.heap.size W w'
set_option maxHeartbeats 8000000 in
theorem order_walk (k1 n1 : Int) (s1 : ByteArray) (k2 n2 : Int) (s2 : ByteArray) (k3 n3 : Int) (s3 : ByteArray) (W : World) (hlives : ∀ w', Below W.heap.size W w' → Calls Tryd.prog 24 #[] w' (TrueBelow w')) :
    Calls Tryd.prog 5 #[.agg #[.int .i64 k1, .int .i64 n1, .string s1], .agg #[.int .i64 k2, .int .i64 n2, .string s2], .agg #[.int .i64 k3, .int .i64 n3, .string s3]] W (TrueBelow W) := by
  have HL := Lib.hid hlives; clear hlives
  go_enter Tryd.func5, Tryd.ntmps5
  go_wp2_with fail
  go_region_held3 (fun w' => w'.cell? ⟨W.heap.size, 0, none⟩ = some (.int .i64 k1) ∧ w'.cell? ⟨W.heap.size, 1, none⟩ = some (.int .i64 n1) ∧ w'.cell? ⟨W.heap.size, 2, none⟩ = some (.string s1) ∧
      w'.cell? ⟨W.heap.size + 1, 0, none⟩ = some (.int .i64 k2) ∧ w'.cell? ⟨W.heap.size + 1, 1, none⟩ = some (.int .i64 n2) ∧ w'.cell? ⟨W.heap.size + 1, 2, none⟩ = some (.string s2) ∧
      w'.cell? ⟨W.heap.size + 1 + 1, 0, none⟩ = some (.int .i64 k3) ∧ w'.cell? ⟨W.heap.size + 1 + 1, 1, none⟩ = some (.int .i64 n3) ∧ w'.cell? ⟨W.heap.size + 1 + 1, 2, none⟩ = some (.string s3) ∧ Below W.heap.size W w')
    (first
      | (go_keep; done)
      | ((repeat' apply And.intro) <;> first | (go_cell; done) | (rw [World.cell?_drew]; go_cell; done) | (go_grown; done))
      | (go_split_ands; (repeat' apply And.intro) <;> first | (exact cell_later hb1 (by assumption)) | (exact below_step (by assumption) hb1)))
    ((go_at_call 29; refine (cmp_val _ _ _ _ _ _ _).mono ?_; rintro e w1 ⟨rfl, hb1⟩))
  rename_i hH
  obtain ⟨c0, c1, c2, c3, c4, c5, c6, c7, c8, cb⟩ := hH
  have hr : Ord.cmpV k1 n1 s1.toList k2 n2 s2.toList > 0 ∨ Ord.cmpV k2 n2 s2.toList k3 n3 s3.toList > 0 ∨ Ord.cmpV k1 n1 s1.toList k3 n3 s3.toList ≤ 0 := by
    by_cases h1 : Ord.cmpV k1 n1 s1.toList k2 n2 s2.toList > 0
    · exact .inl h1
    · by_cases h2 : Ord.cmpV k2 n2 s2.toList k3 n3 s3.toList > 0
      · exact .inr (.inl h2)
      · exact .inr (.inr (Ord.cmpV_trans (Int.not_lt.1 h1) (Int.not_lt.1 h2)))
  have rx := Ord.cmpV_range k1 n1 s1.toList k2 n2 s2.toList
  have ry := Ord.cmpV_range k2 n2 s2.toList k3 n3 s3.toList
  have rz := Ord.cmpV_range k1 n1 s1.toList k3 n3 s3.toList
  have h21 := Ord.cmpV_anti k2 n2 s2.toList k1 n1 s1.toList
  have heq : decide (k1 = k2 ∧ n1 = n2 ∧ s1.toList = s2.toList) = decide (Ord.cmpV k1 n1 s1.toList k2 n2 s2.toList = 0) := by
    rw [decide_eq_decide]; exact (Ord.cmpV_eq ..).symm
  have hF29 := fun w => cmp_val k2 n2 s2 k1 n1 s1 w
  have hF30 := fun w => equal_val k1 n1 s1 k2 n2 s2 w
  rw [h21] at hF29
  rw [heq] at hF30
  clear h21 heq
  generalize Ord.cmpV k1 n1 s1.toList k2 n2 s2.toList = x at *
  generalize Ord.cmpV k2 n2 s2.toList k3 n3 s3.toList = y at *
  generalize Ord.cmpV k1 n1 s1.toList k3 n3 s3.toList = z at *
  have HF29 := Lib.hid hF29; clear hF29
  have HF30 := Lib.hid hF30; clear hF30
  have ex : x = -1 ∨ x = 0 ∨ x = 1 := by omega
  have ey : y = -1 ∨ y = 0 ∨ y = 1 := by omega
  have ez : z = -1 ∨ z = 0 ∨ z = 1 := by omega
  clear rx ry rz
  rcases ex with rfl | rfl | rfl <;> rcases ey with rfl | rfl | rfl <;> rcases ez with rfl | rfl | rfl
  all_goals first
    | (exfalso; omega)
    | (clear hr
       go_wp2_with fail
       refine (HF29.out _).mono ?_
       rintro e w2 ⟨rfl, hb2⟩
       have d0 := cell_later hb2 c0
       have d1 := cell_later hb2 c1
       have d2 := cell_later hb2 c2
       have d3 := cell_later hb2 c3
       have d4 := cell_later hb2 c4
       have d5 := cell_later hb2 c5
       have db := below_step cb hb2
       clear c0 c1 c2 c3 c4 c5 c6 c7 c8 cb hb2
       dsimp only
       go_wp2_with fail
       refine (HF30.out _).mono ?_
       rintro e w3 ⟨rfl, hb3⟩
       have eb := below_step db hb3
       clear d0 d1 d2 d3 d4 d5 db hb3
       dsimp only
       go_wp2_with fail
       refine (HL.out _ eb).mono ?_
       rintro e w4 ⟨rfl, hb4⟩
       have fb := below_step eb hb4
       clear eb hb4
       dsimp only
       go_wp2_with fail
       go_ret
       exact ⟨rfl, fb⟩)
end Go.Proofs.YtcjidlgmbjebjaaDoor
