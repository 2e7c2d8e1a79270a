import Derived.Test.YtcjidlgmbjebjaaDoorSayQ
import Derived.Test.YtcjidlgmbjebjaaDoorSayJ
import Derived.Test.YtcjidlgmbjebjaaDoorSayK
set_option linter.unusedVariables false
set_option linter.unusedSimpArgs false
set_option maxRecDepth 100000
namespace Go.Proofs.YtcjidlgmbjebjaaDoor
open Go Go.RowKit
set_option maxHeartbeats 8000000 in
theorem says_d (k1 n1 : Int) (s1 : ByteArray) (s2 : ByteArray) (kind : Int) (W : World) (hs1 : s1.size ≤ 9223372036854775807) (hs2 : s2.size ≤ 9223372036854775807)
    (h0 : -9223372036854775808 ≤ n1) (h1 : n1 ≤ 9223372036854775807) (ht : PowIs W) (HL : Hid (∀ w', Below W.heap.size W w' → Calls Tryd.prog 24 #[] w' (TrueBelow w'))) (a1 : ¬ 2000 < s1.size) (a2 : ¬ 2000 < s2.size)
    (hk : s1.toList = s2.toList) : Calls Tryd.prog 6 #[.agg #[.int .i64 k1, .int .i64 n1, .string s1], .agg #[.int .i64 k1, .int .i64 n1, .string s2], .int .i64 kind] W (TrueBelow W) := by
  have HE := Lib.hid (fun w => equal_val k1 n1 s1 k1 n1 s2 w)
  rw [show decide (k1 = k1 ∧ n1 = n1 ∧ s1.toList = s2.toList) = true by simp [hk]] at HE
  go_enter Tryd.func6, Tryd.ntmps6
  go_wp2_with fail
  go_region_held3 (fun w' => w'.cell? ⟨W.heap.size, 0, none⟩ = some (.int .i64 k1) ∧ w'.cell? ⟨W.heap.size, 1, none⟩ = some (.int .i64 n1) ∧ w'.cell? ⟨W.heap.size, 2, none⟩ = some (.string s1) ∧
      w'.cell? ⟨W.heap.size + 1, 0, none⟩ = some (.int .i64 k1) ∧ w'.cell? ⟨W.heap.size + 1, 1, none⟩ = some (.int .i64 n1) ∧ w'.cell? ⟨W.heap.size + 1, 2, none⟩ = some (.string s2) ∧ Below W.heap.size W w')
    (first
      | (go_keep; done)
      | ((repeat' apply And.intro) <;> first | (go_cell; done) | (rw [World.cell?_drew]; go_cell; done) | (go_grown; done))
      | (go_split_ands; (repeat' apply And.intro) <;> first | (exact cell_later hb1 (by assumption)) | (exact below_step (by assumption) hb1)))
    (first
      | (go_at_call 31; refine (good_val _ _ _ _ hs1).mono ?_; rintro e w1 ⟨rfl, hb1⟩)
      | (go_at_call 32; refine (refgood_val _ _ _ _ hs1).mono ?_; rintro e w1 ⟨rfl, hb1⟩)
      | (go_at_call 33; refine (fits_any 33 (Or.inl rfl) _ _ _ _ _ _ hs1).mono ?_; rintro e w1 ⟨rfl, hb1⟩)
      | (go_at_call 34; refine (fits_any 34 (Or.inr rfl) _ _ _ _ _ _ hs1).mono ?_; rintro e w1 ⟨rfl, hb1⟩)
      | (go_at_call 29; refine (cmp_val _ _ _ _ _ _ _).mono ?_; rintro e w1 ⟨rfl, hb1⟩)
      | (go_at_call 35; refine (refcmp_val _ _ _ _ _ _ _).mono ?_; rintro e w1 ⟨rfl, hb1⟩)
      | (go_at_call 30; refine (HE.out _).mono ?_; rintro e w1 ⟨rfl, hb1⟩)
      | (go_at_call 36; go_split_ands; refine (print_val _ _ _ _ hs1 h0 h1 (pow_stays ht (by assumption))).mono ?_; rintro e w1 ⟨rfl, hb1⟩)
      | (go_at_call 37; refine (refprint_val _ _ _ _ hs1 h0 h1).mono ?_; rintro e w1 ⟨rfl, hb1⟩)
      | (go_at_call 24; go_split_ands; refine (HL.out _ (by assumption)).mono ?_; rintro e w1 ⟨rfl, hb1⟩))
  rename_i hH
  have cb := hH.2.2.2.2.2.2
  clear hH
  go_wp2_with fail
  go_ret
  exact ⟨rfl, cb⟩
end Go.Proofs.YtcjidlgmbjebjaaDoor
