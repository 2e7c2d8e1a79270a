/- A part of the proof of ValueReads. -/
import Derived.Test.YtcjidlgmbjebjaaGreatDoorVrs
import Derived.Test.YtcjidlgmbjebjaaGreatDoorVrx
set_option linter.unusedVariables false
set_option linter.unusedSimpArgs false
set_option maxRecDepth 100000
namespace Go.Proofs.YtcjidlgmbjebjaaGreatDoor
open Go Go.RowKit
def RanIs (w : World) : Prop := ∃ ev, w.cell? ⟨3, 0, none⟩ = some ev ∧ (ev = .nilIface ∨ ∃ te pe, ev = .iface te pe)
set_option maxHeartbeats 2000000 in
theorem miss_text_val (t s r : ByteArray) (h0 : (t.toList == [110, 117, 108, 108]) = false) (h1 : (t.toList == [116, 114, 117, 101]) = false) (h2 : (t.toList == [102, 97, 108, 115, 101]) = false) (h3 : 2 ≤ t.size) (h5 : t.size ≤ 5000) (h4 : (t[0]'(by omega)).toNat = 34) (hu : uS t = s) (hne : (r.toList == t.toList) = false)
    (W : World) (hp : Pr36 2 0 s r) (ha : As99 (.iface 98 (.string s)) 2 0 s) (hw : PowIs W) : Calls Tryz.prog 13 #[.string t] W (RetScan 0 0 ⟨#[]⟩ false W) := by
  have HU := Lib.hid hu; clear hu
  have h34 : (((t[0]'(by omega)).toNat : Int) == 34) = true := by rw [beq_iff_eq]; omega
  go_enter Tryz.func13, Tryz.ntmps13
  go_wp2_with fail
  refine (unquoted_val t _ h3 h5).mono ?_
  rw [HU.out]
  rintro e w1 ⟨rfl, hb⟩
  have hB := below_step (show Below W.heap.size W _ from by go_grown) hb
  have c0 := cell_later (v := .int .i64 0) hb (show World.cell? _ ⟨W.heap.size, 0, none⟩ = some (.int .i64 0) from by go_cell)
  have c1 := cell_later (v := .int .i64 0) hb (show World.cell? _ ⟨W.heap.size, 1, none⟩ = some (.int .i64 0) from by go_cell)
  have c2 := cell_later (v := .string ⟨#[]⟩) hb (show World.cell? _ ⟨W.heap.size, 2, none⟩ = some (.string ⟨#[]⟩) from by go_cell)
  have g1 := frz_on hb (show W.heap.size < (W.alloc _).heap.size from by show W.heap.size < (W.heap.push _).size; rw [Array.size_push]; omega) (frz_new W _ 32)
  clear hb
  have hw1 := pow_stays hw hB
  clear hw
  dsimp only
  go_wp2_with fail
  refine (ha _).mono ?_
  rintro e w2 ⟨rfl, hb⟩
  have hB2 := below_step hB hb
  have d0 := cell_later hb c0
  have d1 := cell_later hb c1
  have d2 := cell_later hb c2
  have g2 := frz_on hb (cell_lt c0) g1
  have hw2 := pow_stays hw1 (show Below w1.heap.size w1 w2 from hb)
  have hl0 : W.heap.size < w2.heap.size := cell_lt d0
  clear hb
  dsimp only
  go_wp2_with fail
  refine (hp _ (pow_stays hw2 (by go_grown))).mono ?_
  rintro e w3 ⟨rfl, hb⟩
  have hB3 := below_step (show Below w2.heap.size w2 _ from by go_grown) hb
  have e0 := cell_later (v := .int .i64 2) hb (show World.cell? _ ⟨w2.heap.size, 0, none⟩ = some (.int .i64 2) from by go_cell)
  have e1 := cell_later (v := .int .i64 0) hb (show World.cell? _ ⟨w2.heap.size, 1, none⟩ = some (.int .i64 0) from by go_cell)
  have e2 := cell_later (v := .string s) hb (show World.cell? _ ⟨w2.heap.size, 2, none⟩ = some (.string s) from by go_cell)
  have f0 := cell_later hB3 d0
  have f1 := cell_later hB3 d1
  have f2 := cell_later hB3 d2
  have g3 := frz_on hB3 hl0 g2
  have q0 := g3 0
  have q1 := g3 1
  have q2 := g3 2
  clear hb g3 g2
  dsimp only
  go_wp2_with fail
  have r0 : (w3.setCell ⟨W.heap.size, 0, none⟩ (.int .i64 0)).cell? ⟨W.heap.size, 0, none⟩ = some (.int .i64 0) := by go_cell
  have r1 : ((w3.setCell ⟨W.heap.size, 0, none⟩ (.int .i64 0)).setCell ⟨W.heap.size, 1, none⟩ (.int .i64 0)).cell? ⟨W.heap.size, 1, none⟩ = some (.int .i64 0) := by go_cell
  have r2 : (((w3.setCell ⟨W.heap.size, 0, none⟩ (.int .i64 0)).setCell ⟨W.heap.size, 1, none⟩ (.int .i64 0)).setCell ⟨W.heap.size, 2, none⟩ (.string ⟨#[]⟩)).cell? ⟨W.heap.size, 2, none⟩ = some (.string ⟨#[]⟩) := by go_cell
  refine bodyPost_ret (v := .tuple #[vV 0 0 ⟨#[]⟩, .bool false]) (by simp [results, Tryz.results13, go_sem, vV, r0, r1, r2]) rfl ⟨rfl, ?_⟩
  exact (((below_step hB2 hB3).setCell (Nat.le_refl _) _).setCell (Nat.le_refl _) _).setCell (Nat.le_refl _) _
set_option maxHeartbeats 2000000 in
theorem miss_num_val (t r : ByteArray) (n : Int) (h1 : (t.toList == [116, 114, 117, 101]) = false) (h2 : (t.toList == [102, 97, 108, 115, 101]) = false) (h3 : (t.toList == [110, 117, 108, 108]) = false) (h0 : 1 ≤ t.size) (h5 : t.size ≤ 5000) (h4 : ¬ ((t[0]'(by omega)).toNat = 34 ∧ 2 ≤ t.size)) (ho : Lib.atoiAll t.data.toList = .ok n) (hne : (r.toList == t.toList) = false)
    (W : World) (hp : Pr36 1 n ⟨#[]⟩ r) (ha : As99 (.iface 104 (.int .i64 n)) 1 n ⟨#[]⟩) (hw : PowIs W) : Calls Tryz.prog 13 #[.string t] W (RetScan 0 0 ⟨#[]⟩ false W) := by
  have HO := Lib.hid ho; clear ho
  by_cases h34n : (t[0]'(by omega)).toNat = 34
  · have h34 : (((t[0]'(by omega)).toNat : Int) == 34) = true := by rw [beq_iff_eq]; omega
    have hsz1 : t.size ≤ 1 := by omega
    clear h4 h34n
    go_enter Tryz.func13, Tryz.ntmps13
    go_wp2_with fail
    all_goals
     refine (Tryz.strconv_Atoi_ok t (by omega) n HO.out _).mono ?_
     rintro e w1 ⟨rfl, hb⟩
     have hb := below_bw hb
     have hB := below_step (show Below W.heap.size W _ from by go_grown) hb
     have c0 := cell_later (v := .int .i64 0) hb (show World.cell? _ ⟨W.heap.size, 0, none⟩ = some (.int .i64 0) from by go_cell)
     have c1 := cell_later (v := .int .i64 0) hb (show World.cell? _ ⟨W.heap.size, 1, none⟩ = some (.int .i64 0) from by go_cell)
     have c2 := cell_later (v := .string ⟨#[]⟩) hb (show World.cell? _ ⟨W.heap.size, 2, none⟩ = some (.string ⟨#[]⟩) from by go_cell)
     have g1 := frz_on hb (show W.heap.size < (W.alloc _).heap.size from by show W.heap.size < (W.heap.push _).size; rw [Array.size_push]; omega) (frz_new W _ 32)
     clear hb
     have hw1 := pow_stays hw hB
     clear hw
     dsimp only
     go_wp2_with fail
     refine (ha _).mono ?_
     rintro e w2 ⟨rfl, hb⟩
     have hB2 := below_step hB hb
     have d0 := cell_later hb c0
     have d1 := cell_later hb c1
     have d2 := cell_later hb c2
     have g2 := frz_on hb (cell_lt c0) g1
     have hw2 := pow_stays hw1 (show Below w1.heap.size w1 w2 from hb)
     have hl0 : W.heap.size < w2.heap.size := cell_lt d0
     clear hb
     dsimp only
     go_wp2_with fail
     refine (hp _ (pow_stays hw2 (by go_grown))).mono ?_
     rintro e w3 ⟨rfl, hb⟩
     have hB3 := below_step (show Below w2.heap.size w2 _ from by go_grown) hb
     have e0 := cell_later (v := .int .i64 1) hb (show World.cell? _ ⟨w2.heap.size, 0, none⟩ = some (.int .i64 1) from by go_cell)
     have e1 := cell_later (v := .int .i64 n) hb (show World.cell? _ ⟨w2.heap.size, 1, none⟩ = some (.int .i64 n) from by go_cell)
     have e2 := cell_later (v := .string ⟨#[]⟩) hb (show World.cell? _ ⟨w2.heap.size, 2, none⟩ = some (.string ⟨#[]⟩) from by go_cell)
     have f0 := cell_later hB3 d0
     have f1 := cell_later hB3 d1
     have f2 := cell_later hB3 d2
     have g3 := frz_on hB3 hl0 g2
     have q0 := g3 0
     have q1 := g3 1
     have q2 := g3 2
     clear hb g3 g2
     dsimp only
     go_wp2_with fail
     have r0 : (w3.setCell ⟨W.heap.size, 0, none⟩ (.int .i64 0)).cell? ⟨W.heap.size, 0, none⟩ = some (.int .i64 0) := by go_cell
     have r1 : ((w3.setCell ⟨W.heap.size, 0, none⟩ (.int .i64 0)).setCell ⟨W.heap.size, 1, none⟩ (.int .i64 0)).cell? ⟨W.heap.size, 1, none⟩ = some (.int .i64 0) := by go_cell
     have r2 : (((w3.setCell ⟨W.heap.size, 0, none⟩ (.int .i64 0)).setCell ⟨W.heap.size, 1, none⟩ (.int .i64 0)).setCell ⟨W.heap.size, 2, none⟩ (.string ⟨#[]⟩)).cell? ⟨W.heap.size, 2, none⟩ = some (.string ⟨#[]⟩) := by go_cell
     refine bodyPost_ret (v := .tuple #[vV 0 0 ⟨#[]⟩, .bool false]) (by simp [results, Tryz.results13, go_sem, vV, r0, r1, r2]) rfl ⟨rfl, ?_⟩
     exact (((below_step hB2 hB3).setCell (Nat.le_refl _) _).setCell (Nat.le_refl _) _).setCell (Nat.le_refl _) _
  · have h34 : (((t[0]'(by omega)).toNat : Int) == 34) = false := by rw [beq_eq_false_iff_ne]; omega
    clear h4 h34n
    go_enter Tryz.func13, Tryz.ntmps13
    go_wp2_with fail
    all_goals
     refine (Tryz.strconv_Atoi_ok t (by omega) n HO.out _).mono ?_
     rintro e w1 ⟨rfl, hb⟩
     have hb := below_bw hb
     have hB := below_step (show Below W.heap.size W _ from by go_grown) hb
     have c0 := cell_later (v := .int .i64 0) hb (show World.cell? _ ⟨W.heap.size, 0, none⟩ = some (.int .i64 0) from by go_cell)
     have c1 := cell_later (v := .int .i64 0) hb (show World.cell? _ ⟨W.heap.size, 1, none⟩ = some (.int .i64 0) from by go_cell)
     have c2 := cell_later (v := .string ⟨#[]⟩) hb (show World.cell? _ ⟨W.heap.size, 2, none⟩ = some (.string ⟨#[]⟩) from by go_cell)
     have g1 := frz_on hb (show W.heap.size < (W.alloc _).heap.size from by show W.heap.size < (W.heap.push _).size; rw [Array.size_push]; omega) (frz_new W _ 32)
     clear hb
     have hw1 := pow_stays hw hB
     clear hw
     dsimp only
     go_wp2_with fail
     refine (ha _).mono ?_
     rintro e w2 ⟨rfl, hb⟩
     have hB2 := below_step hB hb
     have d0 := cell_later hb c0
     have d1 := cell_later hb c1
     have d2 := cell_later hb c2
     have g2 := frz_on hb (cell_lt c0) g1
     have hw2 := pow_stays hw1 (show Below w1.heap.size w1 w2 from hb)
     have hl0 : W.heap.size < w2.heap.size := cell_lt d0
     clear hb
     dsimp only
     go_wp2_with fail
     refine (hp _ (pow_stays hw2 (by go_grown))).mono ?_
     rintro e w3 ⟨rfl, hb⟩
     have hB3 := below_step (show Below w2.heap.size w2 _ from by go_grown) hb
     have e0 := cell_later (v := .int .i64 1) hb (show World.cell? _ ⟨w2.heap.size, 0, none⟩ = some (.int .i64 1) from by go_cell)
     have e1 := cell_later (v := .int .i64 n) hb (show World.cell? _ ⟨w2.heap.size, 1, none⟩ = some (.int .i64 n) from by go_cell)
     have e2 := cell_later (v := .string ⟨#[]⟩) hb (show World.cell? _ ⟨w2.heap.size, 2, none⟩ = some (.string ⟨#[]⟩) from by go_cell)
     have f0 := cell_later hB3 d0
     have f1 := cell_later hB3 d1
     have f2 := cell_later hB3 d2
     have g3 := frz_on hB3 hl0 g2
     have q0 := g3 0
     have q1 := g3 1
     have q2 := g3 2
     clear hb g3 g2
     dsimp only
     go_wp2_with fail
     have r0 : (w3.setCell ⟨W.heap.size, 0, none⟩ (.int .i64 0)).cell? ⟨W.heap.size, 0, none⟩ = some (.int .i64 0) := by go_cell
     have r1 : ((w3.setCell ⟨W.heap.size, 0, none⟩ (.int .i64 0)).setCell ⟨W.heap.size, 1, none⟩ (.int .i64 0)).cell? ⟨W.heap.size, 1, none⟩ = some (.int .i64 0) := by go_cell
     have r2 : (((w3.setCell ⟨W.heap.size, 0, none⟩ (.int .i64 0)).setCell ⟨W.heap.size, 1, none⟩ (.int .i64 0)).setCell ⟨W.heap.size, 2, none⟩ (.string ⟨#[]⟩)).cell? ⟨W.heap.size, 2, none⟩ = some (.string ⟨#[]⟩) := by go_cell
     refine bodyPost_ret (v := .tuple #[vV 0 0 ⟨#[]⟩, .bool false]) (by simp [results, Tryz.results13, go_sem, vV, r0, r1, r2]) rfl ⟨rfl, ?_⟩
     exact (((below_step hB2 hB3).setCell (Nat.le_refl _) _).setCell (Nat.le_refl _) _).setCell (Nat.le_refl _) _
end Go.Proofs.YtcjidlgmbjebjaaGreatDoor

namespace Go.Proofs.YtcjidlgmbjebjaaGreatDoor
open Go Go.RowKit
set_option maxHeartbeats 2000000 in
theorem miss_bad_val (t : ByteArray) (h1 : (t.toList == [116, 114, 117, 101]) = false) (h2 : (t.toList == [102, 97, 108, 115, 101]) = false) (h3 : (t.toList == [110, 117, 108, 108]) = false) (h5 : t.size ≤ 5000) (h4 : ∀ h : 2 ≤ t.size, (t[0]'(by omega)).toNat ≠ 34) (ho : Lib.atoiAll t.data.toList = Lib.atoiAll [])
    (W : World) (he : ErrIs W) : Calls Tryz.prog 13 #[.string t] W (RetScan 0 0 ⟨#[]⟩ false W) := by
  have HO := Lib.hid ho; clear ho
  obtain ⟨ev, hv, hev⟩ := he
  have hlt := cell_lt hv
  have HEV := Lib.hid hev
  clear hev
  by_cases hz : 2 ≤ t.size
  · have h34n := h4 hz
    have h34 : (((t[0]'(by omega)).toNat : Int) == 34) = false := by rw [beq_eq_false_iff_ne]; omega
    clear h4 h34n
    go_enter Tryz.func13, Tryz.ntmps13
    go_wp2_with fail
    all_goals
     refine (Tryz.strconv_Atoi_syntax t (by omega) HO.out ev _ (show World.cell? _ ⟨2, 0, none⟩ = some ev from by go_cell) HEV.out).mono ?_
     rintro e w1 ⟨N, rfl, hN, hNb, hb⟩
     have hB := below_step (show Below W.heap.size W _ from by go_grown) hb
     have c0 := cell_later (v := .int .i64 0) hb (show World.cell? _ ⟨W.heap.size, 0, none⟩ = some (.int .i64 0) from by go_cell)
     have c1 := cell_later (v := .int .i64 0) hb (show World.cell? _ ⟨W.heap.size, 1, none⟩ = some (.int .i64 0) from by go_cell)
     have c2 := cell_later (v := .string ⟨#[]⟩) hb (show World.cell? _ ⟨W.heap.size, 2, none⟩ = some (.string ⟨#[]⟩) from by go_cell)
     have g1 := frz_on hb (show W.heap.size < (W.alloc _).heap.size from by show W.heap.size < (W.heap.push _).size; rw [Array.size_push]; omega) (frz_new W _ 32)
     have q0 := g1 0
     have q1 := g1 1
     have q2 := g1 2
     clear hb g1 hNb hN
     dsimp only
     go_wp2_with fail
     have r0 : (w1.setCell ⟨W.heap.size, 0, none⟩ (.int .i64 0)).cell? ⟨W.heap.size, 0, none⟩ = some (.int .i64 0) := by go_cell
     have r1 : ((w1.setCell ⟨W.heap.size, 0, none⟩ (.int .i64 0)).setCell ⟨W.heap.size, 1, none⟩ (.int .i64 0)).cell? ⟨W.heap.size, 1, none⟩ = some (.int .i64 0) := by go_cell
     have r2 : (((w1.setCell ⟨W.heap.size, 0, none⟩ (.int .i64 0)).setCell ⟨W.heap.size, 1, none⟩ (.int .i64 0)).setCell ⟨W.heap.size, 2, none⟩ (.string ⟨#[]⟩)).cell? ⟨W.heap.size, 2, none⟩ = some (.string ⟨#[]⟩) := by go_cell
     refine bodyPost_ret (v := .tuple #[vV 0 0 ⟨#[]⟩, .bool false]) (by simp [results, Tryz.results13, go_sem, vV, r0, r1, r2]) rfl ⟨rfl, ?_⟩
     exact ((hB.setCell (Nat.le_refl _) _).setCell (Nat.le_refl _) _).setCell (Nat.le_refl _) _
  · have hz1 : t.size ≤ 1 := by omega
    clear h4
    go_enter Tryz.func13, Tryz.ntmps13
    go_wp2_with fail
    all_goals
     refine (Tryz.strconv_Atoi_syntax t (by omega) HO.out ev _ (show World.cell? _ ⟨2, 0, none⟩ = some ev from by go_cell) HEV.out).mono ?_
     rintro e w1 ⟨N, rfl, hN, hNb, hb⟩
     have hB := below_step (show Below W.heap.size W _ from by go_grown) hb
     have c0 := cell_later (v := .int .i64 0) hb (show World.cell? _ ⟨W.heap.size, 0, none⟩ = some (.int .i64 0) from by go_cell)
     have c1 := cell_later (v := .int .i64 0) hb (show World.cell? _ ⟨W.heap.size, 1, none⟩ = some (.int .i64 0) from by go_cell)
     have c2 := cell_later (v := .string ⟨#[]⟩) hb (show World.cell? _ ⟨W.heap.size, 2, none⟩ = some (.string ⟨#[]⟩) from by go_cell)
     have g1 := frz_on hb (show W.heap.size < (W.alloc _).heap.size from by show W.heap.size < (W.heap.push _).size; rw [Array.size_push]; omega) (frz_new W _ 32)
     have q0 := g1 0
     have q1 := g1 1
     have q2 := g1 2
     clear hb g1 hNb hN
     dsimp only
     go_wp2_with fail
     have r0 : (w1.setCell ⟨W.heap.size, 0, none⟩ (.int .i64 0)).cell? ⟨W.heap.size, 0, none⟩ = some (.int .i64 0) := by go_cell
     have r1 : ((w1.setCell ⟨W.heap.size, 0, none⟩ (.int .i64 0)).setCell ⟨W.heap.size, 1, none⟩ (.int .i64 0)).cell? ⟨W.heap.size, 1, none⟩ = some (.int .i64 0) := by go_cell
     have r2 : (((w1.setCell ⟨W.heap.size, 0, none⟩ (.int .i64 0)).setCell ⟨W.heap.size, 1, none⟩ (.int .i64 0)).setCell ⟨W.heap.size, 2, none⟩ (.string ⟨#[]⟩)).cell? ⟨W.heap.size, 2, none⟩ = some (.string ⟨#[]⟩) := by go_cell
     refine bodyPost_ret (v := .tuple #[vV 0 0 ⟨#[]⟩, .bool false]) (by simp [results, Tryz.results13, go_sem, vV, r0, r1, r2]) rfl ⟨rfl, ?_⟩
     exact ((hB.setCell (Nat.le_refl _) _).setCell (Nat.le_refl _) _).setCell (Nat.le_refl _) _
set_option maxHeartbeats 2000000 in
theorem miss_range_val (t : ByteArray) (h1 : (t.toList == [116, 114, 117, 101]) = false) (h2 : (t.toList == [102, 97, 108, 115, 101]) = false) (h3 : (t.toList == [110, 117, 108, 108]) = false) (h5 : t.size ≤ 5000) (h4 : ∀ h : 2 ≤ t.size, (t[0]'(by omega)).toNat ≠ 34) (ho : Lib.atoiAll t.data.toList = .range)
    (W : World) (he : RanIs W) : Calls Tryz.prog 13 #[.string t] W (RetScan 0 0 ⟨#[]⟩ false W) := by
  have HO := Lib.hid ho; clear ho
  obtain ⟨ev, hv, hev⟩ := he
  have hlt := cell_lt hv
  have HEV := Lib.hid hev
  clear hev
  by_cases hz : 2 ≤ t.size
  · have h34n := h4 hz
    have h34 : (((t[0]'(by omega)).toNat : Int) == 34) = false := by rw [beq_eq_false_iff_ne]; omega
    clear h4 h34n
    go_enter Tryz.func13, Tryz.ntmps13
    go_wp2_with fail
    all_goals
     refine (Tryz.strconv_Atoi_range t (by omega) HO.out ev _ (show World.cell? _ ⟨3, 0, none⟩ = some ev from by go_cell) HEV.out).mono ?_
     rintro e w1 ⟨N, rfl, hN, hNb, hb⟩
     have hB := below_step (show Below W.heap.size W _ from by go_grown) hb
     have c0 := cell_later (v := .int .i64 0) hb (show World.cell? _ ⟨W.heap.size, 0, none⟩ = some (.int .i64 0) from by go_cell)
     have c1 := cell_later (v := .int .i64 0) hb (show World.cell? _ ⟨W.heap.size, 1, none⟩ = some (.int .i64 0) from by go_cell)
     have c2 := cell_later (v := .string ⟨#[]⟩) hb (show World.cell? _ ⟨W.heap.size, 2, none⟩ = some (.string ⟨#[]⟩) from by go_cell)
     have g1 := frz_on hb (show W.heap.size < (W.alloc _).heap.size from by show W.heap.size < (W.heap.push _).size; rw [Array.size_push]; omega) (frz_new W _ 32)
     have q0 := g1 0
     have q1 := g1 1
     have q2 := g1 2
     clear hb g1 hNb hN
     dsimp only
     go_wp2_with fail
     have r0 : (w1.setCell ⟨W.heap.size, 0, none⟩ (.int .i64 0)).cell? ⟨W.heap.size, 0, none⟩ = some (.int .i64 0) := by go_cell
     have r1 : ((w1.setCell ⟨W.heap.size, 0, none⟩ (.int .i64 0)).setCell ⟨W.heap.size, 1, none⟩ (.int .i64 0)).cell? ⟨W.heap.size, 1, none⟩ = some (.int .i64 0) := by go_cell
     have r2 : (((w1.setCell ⟨W.heap.size, 0, none⟩ (.int .i64 0)).setCell ⟨W.heap.size, 1, none⟩ (.int .i64 0)).setCell ⟨W.heap.size, 2, none⟩ (.string ⟨#[]⟩)).cell? ⟨W.heap.size, 2, none⟩ = some (.string ⟨#[]⟩) := by go_cell
     refine bodyPost_ret (v := .tuple #[vV 0 0 ⟨#[]⟩, .bool false]) (by simp [results, Tryz.results13, go_sem, vV, r0, r1, r2]) rfl ⟨rfl, ?_⟩
     exact ((hB.setCell (Nat.le_refl _) _).setCell (Nat.le_refl _) _).setCell (Nat.le_refl _) _
  · have hz1 : t.size ≤ 1 := by omega
    clear h4
    go_enter Tryz.func13, Tryz.ntmps13
    go_wp2_with fail
    all_goals
     refine (Tryz.strconv_Atoi_range t (by omega) HO.out ev _ (show World.cell? _ ⟨3, 0, none⟩ = some ev from by go_cell) HEV.out).mono ?_
     rintro e w1 ⟨N, rfl, hN, hNb, hb⟩
     have hB := below_step (show Below W.heap.size W _ from by go_grown) hb
     have c0 := cell_later (v := .int .i64 0) hb (show World.cell? _ ⟨W.heap.size, 0, none⟩ = some (.int .i64 0) from by go_cell)
     have c1 := cell_later (v := .int .i64 0) hb (show World.cell? _ ⟨W.heap.size, 1, none⟩ = some (.int .i64 0) from by go_cell)
     have c2 := cell_later (v := .string ⟨#[]⟩) hb (show World.cell? _ ⟨W.heap.size, 2, none⟩ = some (.string ⟨#[]⟩) from by go_cell)
     have g1 := frz_on hb (show W.heap.size < (W.alloc _).heap.size from by show W.heap.size < (W.heap.push _).size; rw [Array.size_push]; omega) (frz_new W _ 32)
     have q0 := g1 0
     have q1 := g1 1
     have q2 := g1 2
     clear hb g1 hNb hN
     dsimp only
     go_wp2_with fail
     have r0 : (w1.setCell ⟨W.heap.size, 0, none⟩ (.int .i64 0)).cell? ⟨W.heap.size, 0, none⟩ = some (.int .i64 0) := by go_cell
     have r1 : ((w1.setCell ⟨W.heap.size, 0, none⟩ (.int .i64 0)).setCell ⟨W.heap.size, 1, none⟩ (.int .i64 0)).cell? ⟨W.heap.size, 1, none⟩ = some (.int .i64 0) := by go_cell
     have r2 : (((w1.setCell ⟨W.heap.size, 0, none⟩ (.int .i64 0)).setCell ⟨W.heap.size, 1, none⟩ (.int .i64 0)).setCell ⟨W.heap.size, 2, none⟩ (.string ⟨#[]⟩)).cell? ⟨W.heap.size, 2, none⟩ = some (.string ⟨#[]⟩) := by go_cell
     refine bodyPost_ret (v := .tuple #[vV 0 0 ⟨#[]⟩, .bool false]) (by simp [results, Tryz.results13, go_sem, vV, r0, r1, r2]) rfl ⟨rfl, ?_⟩
     exact ((hB.setCell (Nat.le_refl _) _).setCell (Nat.le_refl _) _).setCell (Nat.le_refl _) _
theorem scan_miss (s : ByteArray) (hno : NoHit s) (hsz : s.size ≤ 1000) (W : World) (hw : PowIs W) (he : ErrIs W) (hr : RanIs W) : Calls Tryz.prog 13 #[.string s] W (RetScan 0 0 ⟨#[]⟩ false W) := by
  have h1 := miss_true hno
  have h2 := miss_false hno
  have h3 := miss_null hno
  by_cases hq : ∃ h : 2 ≤ s.size, (s[0]'(by omega)).toNat = 34
  · obtain ⟨hz, h34⟩ := hq
    have hus := uS_size s
    have hne := miss_text hno (uS s) (by omega)
    refine miss_text_val s (uS s) (prV 2 0 (uS s)) h3 h1 h2 hz (by omega) h34 rfl ?_ W (fun w h => print_val 2 0 (uS s) w (by omega) (by omega) (by omega) h) (fun w => as_2 (uS s) w) hw
    rw [beq_eq_false_iff_ne]
    exact fun e => hne (ba_ext e)
  · have h4 : ∀ h : 2 ≤ s.size, (s[0]'(by omega)).toNat ≠ 34 := fun h e => hq ⟨h, e⟩
    cases hA : Lib.atoiAll s.data.toList
    · rename_i n
      have hI := atoi_rng hA
      have hne := miss_num hno n hI
      unfold Sb.I64 at hI
      have hz : 1 ≤ s.size := by
        rcases Nat.eq_zero_or_pos s.size with h | h
        · have h0 : s.data.toList = [] := List.eq_nil_of_length_eq_zero (by simpa using h)
          rw [h0] at hA
          cases hA
        · exact h
      refine miss_num_val s (prV 1 n ⟨#[]⟩) n h1 h2 h3 hz (by omega) (fun h => h4 h.2 h.1) hA ?_ W (fun w h => print_val 1 n ⟨#[]⟩ w (by decide) hI.1 hI.2 h) (fun w => as_1 n w) hw
      rw [beq_eq_false_iff_ne]
      exact fun e => hne (ba_ext e)
    · exact miss_bad_val s h1 h2 h3 (by omega) h4 (hA.trans rfl) W he
    · exact miss_range_val s h1 h2 h3 (by omega) h4 hA W hr
end Go.Proofs.YtcjidlgmbjebjaaGreatDoor

namespace Go.Proofs.YtcjidlgmbjebjaaGreatDoor
open Go Go.RowKit
set_option maxHeartbeats 4000000 in
theorem rscan_else (s : ByteArray) (h0 : (s.toList == [110, 117, 108, 108]) = false) (h1 : (s.toList == [116, 114, 117, 101]) = false) (h2 : (s.toList == [102, 97, 108, 115, 101]) = false) (h4 : ∀ h : 2 ≤ s.size, (s[0]'(by omega)).toNat ≠ 34) (h5 : s.size = 0 ∨ 20 < s.size) (hsz : s.size ≤ 5000) (W : World) :
    Calls Tryz.prog 14 #[.string s] W (RetScan 0 0 ⟨#[]⟩ false W) := by
  have HQ := Lib.hid (QS.start W)
  rcases h5 with h5 | h5
  · clear h4
    go_enter Tryz.func14, Tryz.ntmps14
    go_upto_block 0 with fail
    generalize (W.alloc (.cells #[.int .i64 0, .int .i64 0, .string ⟨#[]⟩] 32)).alloc (.cells #[.int .i64 0, .int .i64 0, .string ⟨#[]⟩] 32) = w0 at HQ ⊢
    have HQ3 := HQ
    obtain ⟨f0, f1, f2, gg⟩ := HQ.out.rcells
    have q0 := gg 0
    have q1 := gg 1
    have q2 := gg 2
    go_wp2_with fail
    have r0 : (w0.setCell ⟨W.heap.size, 0, none⟩ (.int .i64 0)).cell? ⟨W.heap.size, 0, none⟩ = some (.int .i64 0) := by go_cell
    have r1 : ((w0.setCell ⟨W.heap.size, 0, none⟩ (.int .i64 0)).setCell ⟨W.heap.size, 1, none⟩ (.int .i64 0)).cell? ⟨W.heap.size, 1, none⟩ = some (.int .i64 0) := by go_cell
    have r2 : (((w0.setCell ⟨W.heap.size, 0, none⟩ (.int .i64 0)).setCell ⟨W.heap.size, 1, none⟩ (.int .i64 0)).setCell ⟨W.heap.size, 2, none⟩ (.string ⟨#[]⟩)).cell? ⟨W.heap.size, 2, none⟩ = some (.string ⟨#[]⟩) := by go_cell
    refine bodyPost_ret (v := .tuple #[vV 0 0 ⟨#[]⟩, .bool false]) (by simp [results, Tryz.results14, go_sem, vV, r0, r1, r2]) rfl ⟨rfl, HQ3.out.ret _ _ _⟩
  · have h22 : 2 ≤ s.size := by omega
    have h34n := h4 h22
    have h34 : (((s[0]'(by omega)).toNat : Int) == 34) = false := by rw [beq_eq_false_iff_ne]; omega
    have hd20 : decide ((s.size : Int) ≤ 20) = false := by rw [decide_eq_false_iff_not]; omega
    clear h4 h34n
    go_enter Tryz.func14, Tryz.ntmps14
    go_upto_block 0 with fail
    generalize (W.alloc (.cells #[.int .i64 0, .int .i64 0, .string ⟨#[]⟩] 32)).alloc (.cells #[.int .i64 0, .int .i64 0, .string ⟨#[]⟩] 32) = w0 at HQ ⊢
    have HQ3 := HQ
    obtain ⟨f0, f1, f2, gg⟩ := HQ.out.rcells
    have q0 := gg 0
    have q1 := gg 1
    have q2 := gg 2
    go_wp2_with fail
    have r0 : (w0.setCell ⟨W.heap.size, 0, none⟩ (.int .i64 0)).cell? ⟨W.heap.size, 0, none⟩ = some (.int .i64 0) := by go_cell
    have r1 : ((w0.setCell ⟨W.heap.size, 0, none⟩ (.int .i64 0)).setCell ⟨W.heap.size, 1, none⟩ (.int .i64 0)).cell? ⟨W.heap.size, 1, none⟩ = some (.int .i64 0) := by go_cell
    have r2 : (((w0.setCell ⟨W.heap.size, 0, none⟩ (.int .i64 0)).setCell ⟨W.heap.size, 1, none⟩ (.int .i64 0)).setCell ⟨W.heap.size, 2, none⟩ (.string ⟨#[]⟩)).cell? ⟨W.heap.size, 2, none⟩ = some (.string ⟨#[]⟩) := by go_cell
    refine bodyPost_ret (v := .tuple #[vV 0 0 ⟨#[]⟩, .bool false]) (by simp [results, Tryz.results14, go_sem, vV, r0, r1, r2]) rfl ⟨rfl, HQ3.out.ret _ _ _⟩
theorem ne_of {a b : ByteArray} (h : a ≠ b) : (a.toList == b.toList) = false := by
  rw [beq_eq_false_iff_ne]
  exact fun e => h (ba_ext e)
theorem rscan_miss (s : ByteArray) (hno : NoHit s) (hsz : s.size ≤ 1000) (W : World) : Calls Tryz.prog 14 #[.string s] W (RetScan 0 0 ⟨#[]⟩ false W) := by
  have h1 := miss_true hno
  have h2 := miss_false hno
  have h3 := miss_null hno
  by_cases hq : ∃ h : 2 ≤ s.size, (s[0]'(by omega)).toNat = 34
  · obtain ⟨hz, h34⟩ := hq
    have hus := uR_size s
    have hne := miss_text hno (uR s) (by omega)
    exact rscan_text s (prV 2 0 (uR s)) false h3 h1 h2 hz (by omega) h34 (ne_of hne) W (fun w => refprint_val 2 0 (uR s) w (by omega) (by omega) (by omega))
  · have h4 : ∀ h : 2 ≤ s.size, (s[0]'(by omega)).toNat ≠ 34 := fun h e => hq ⟨h, e⟩
    by_cases hl : 1 ≤ s.size ∧ s.size ≤ 20
    · have h6 : ¬ ((s[0]'(by omega)).toNat = 34 ∧ 2 ≤ s.size) := fun h => h4 h.2 h.1
      cases hg : isNeg s with
      | true =>
        cases hN : dg (s.data.toList.drop (at0 true 0)) 0 with
        | none => exact rscan_bad_n s h3 h1 h2 hl.1 hl.2 h6 hg hN W
        | some M =>
          have hI := dgS_rng ((dgN_neg hg).trans hN)
          have hne := miss_num hno M hI
          unfold Sb.I64 at hI
          exact rscan_num_n s (prV 1 M ⟨#[]⟩) false M h3 h1 h2 hl.1 hl.2 h6 hg hN (ne_of hne) W (fun w => refprint_val 1 M ⟨#[]⟩ w (by decide) hI.1 hI.2)
      | false =>
        cases hN : dg (s.data.toList.drop (at0 false 0)) 0 with
        | none => exact rscan_bad_p s h3 h1 h2 hl.1 hl.2 h6 hg hN W
        | some M =>
          have hI := dgS_rng ((dgN_pos hg).trans (by rw [hN]; rfl))
          have hne := miss_num hno (wrap64 (-M)) hI
          unfold Sb.I64 at hI
          exact rscan_num_p s (prV 1 (wrap64 (-M)) ⟨#[]⟩) false M h3 h1 h2 hl.1 hl.2 h6 hg hN (ne_of hne) W (fun w => refprint_val 1 (wrap64 (-M)) ⟨#[]⟩ w (by decide) hI.1 hI.2)
    · exact rscan_else s h3 h1 h2 h4 (by omega) (by omega) W
theorem rscan_hit (k n : Int) (t s : ByteArray) (hh : Hit k n t s) (W : World) : Calls Tryz.prog 14 #[.string s] W (RetScan k n t true W) := by
  obtain ⟨hg, hI, rfl⟩ := hh
  have hI2 := hI
  unfold Sb.I64 at hI2
  have hk : k = 0 ∨ k = 1 ∨ k = 2 ∨ k = 3 ∨ (k ≠ 0 ∧ k ≠ 1 ∧ k ≠ 2 ∧ k ≠ 3) := by omega
  rcases hk with rfl | rfl | rfl | rfl | ⟨k0, k1, k2, k3⟩
  · have e : prV 0 n t = sNull := by simp [prV, hg]
    have hg2 := hg
    simp only [goodV, if_true, decide_eq_true_eq] at hg2
    obtain ⟨rfl, hs⟩ := hg2
    obtain rfl := empty_of hs
    rw [e]
    exact rscan_null sNull sNull true (by decide +kernel) (by decide +kernel) W (fun w => by have := refprint_val 0 0 ⟨#[]⟩ w (by decide) (by omega) (by omega); rw [e] at this; exact this)
  · have e : prV 1 n t = numS n := by simp [prV, hg]
    have hs : t.toList = [] := by simpa [goodV] using hg
    obtain rfl := empty_of hs
    rw [e]
    obtain ⟨w1, w2, w3, w4⟩ := Sb.itoa_words n
    obtain ⟨l1, l2⟩ := Sb.itoa_len n hI
    have hd : (numS n).data.toList = Lib.itoa n := by simp [numS]
    have hl : (numS n).toList = Lib.itoa n := by rw [ByteArray.toList_eq, hd]
    have hz : (numS n).size = (Lib.itoa n).length := by rw [← hd]; simp
    have g0 : ((numS n).toList == [110, 117, 108, 108]) = false := by rw [hl, beq_eq_false_iff_ne]; exact w1
    have g1 : ((numS n).toList == [116, 114, 117, 101]) = false := by rw [hl, beq_eq_false_iff_ne]; exact w2
    have g2 : ((numS n).toList == [102, 97, 108, 115, 101]) = false := by rw [hl, beq_eq_false_iff_ne]; exact w3
    have h6 : ¬ (((numS n)[0]'(by omega)).toNat = 34 ∧ 2 ≤ (numS n).size) := by
      rintro ⟨h, _⟩
      obtain ⟨c, r, hc, hc1, hc2⟩ := Sb.itoa_head n
      have hx : (numS n).data.toList[0]? = some c := by rw [hd, hc]; rfl
      have hy : (numS n).data.toList[0]? = some ((numS n)[0]'(by omega)) := by
        rw [List.getElem?_eq_getElem (by simp; omega)]; rfl
      rw [hy] at hx
      injection hx with hx
      rw [hx] at h
      exact hc1 h
    have hp := fun (m : Int) (hm : m = n) w => (show Calls Tryz.prog 45 #[.agg #[.int .i64 1, .int .i64 m, .string ⟨#[]⟩]] w (RetS (.string (numS n)) w) by
      subst hm
      have := refprint_val 1 m ⟨#[]⟩ w (by decide) hI2.1 hI2.2; rw [e] at this; exact this)
    cases hng : isNeg (numS n) with
    | true =>
      have hN := (dgN_neg hng).symm.trans (dgS_num n hI)
      exact rscan_num_n (numS n) (numS n) true n g0 g1 g2 (by omega) (by omega) h6 hng hN (by simp) W (hp n rfl)
    | false =>
      have hN := (dgN_pos hng).symm.trans (dgS_num n hI)
      rw [Option.map_eq_some_iff] at hN
      obtain ⟨M, hM, hMn⟩ := hN
      have := rscan_num_p (numS n) (numS n) true M g0 g1 g2 (by omega) (by omega) h6 hng hM (by simp) W (hp _ hMn)
      rw [hMn] at this
      exact this
  · have e : prV 2 n t = qS t := by simp [prV, hg]
    have hk := good_kind hg
    have hn : n = 0 := by simp [goodV] at hg; exact hg.1
    subst hn
    have h200 : t.size ≤ 200 := by omega
    rw [e]
    have hl : (qS t).toList = 34 :: (qB t.data.toList ++ [34]) := by rw [ByteArray.toList_eq, qS_list]
    have hz : (qS t).size = (qB t.data.toList).length + 2 := by
      have := congrArg List.length (qS_list t)
      simp at this
      exact this
    have hq := qB_len t.data.toList
    have hs2 : t.data.toList.length = t.size := by simp
    have h34 : ((qS t)[0]'(by omega)).toNat = 34 := by
      have hx : (qS t).data.toList[0]? = some 34 := by rw [qS_list]; rfl
      have hy : (qS t).data.toList[0]? = some ((qS t)[0]'(by omega)) := by
        rw [List.getElem?_eq_getElem (by simp; omega)]; rfl
      rw [hy] at hx
      injection hx with hx
      rw [hx]; rfl
    have := rscan_text (qS t) (qS t) true (by rw [hl]; exact pr_ne (by simp)) (by rw [hl]; exact pr_ne (by simp)) (by rw [hl]; exact pr_ne (by simp)) (by omega) (by omega) h34 (by simp) W (fun w => by rw [uR_qS]; have := refprint_val 2 0 t w (by omega) (by omega) (by omega); rw [e] at this; exact this)
    rw [uR_qS] at this
    exact this
  · have e : prV 3 n t = if n = 1 then sTrue else sFalse := by simp [prV, hg]
    have hk := good_kind hg
    have hs : t.toList = [] := by simp [goodV] at hg; exact hg.1
    obtain rfl := empty_of hs
    rw [e]
    rcases show n = 0 ∨ n = 1 by omega with rfl | rfl
    · exact rscan_false sFalse sFalse true (by decide +kernel) (by decide +kernel) (by decide +kernel) (by decide +kernel) W (fun w => by have := refprint_val 3 0 ⟨#[]⟩ w (by decide) (by omega) (by omega); rw [e] at this; exact this)
    · exact rscan_true sTrue sTrue true (by decide +kernel) (by decide +kernel) (by decide +kernel) W (fun w => by have := refprint_val 3 1 ⟨#[]⟩ w (by decide) (by omega) (by omega); rw [e] at this; exact this)
  · have := good_kind hg
    omega
theorem scan_hit (k n : Int) (t s : ByteArray) (hh : Hit k n t s) (W : World) (hw : PowIs W) : Calls Tryz.prog 13 #[.string s] W (RetScan k n t true W) := by
  obtain ⟨hg, hI, rfl⟩ := hh
  unfold Sb.I64 at hI
  refine scan_good k n t hg ?_ hI.1 hI.2 W hw
  have hk := good_kind hg
  unfold goodV at hg
  rcases hk with rfl | rfl | ⟨rfl, h⟩ | ⟨rfl, h⟩
  · simp only [if_true, decide_eq_true_eq] at hg
    rw [empty_of hg.2]; decide
  · have hs : t.toList = [] := by simpa [goodV] using hg
    rw [empty_of hs]; decide
  · omega
  · have hs : t.toList = [] := by simp at hg; exact hg.1
    rw [empty_of hs]; decide
theorem scans (s : ByteArray) (hsz : s.size ≤ 1000) : ∃ k n t b, (∀ W, PowIs W → ErrIs W → RanIs W → Calls Tryz.prog 13 #[.string s] W (RetScan k n t b W)) ∧ ∀ W, Calls Tryz.prog 14 #[.string s] W (RetScan k n t b W) := by
  by_cases h : ∃ k n t, Hit k n t s
  · obtain ⟨k, n, t, hh⟩ := h
    exact ⟨k, n, t, true, fun W hw _ _ => scan_hit k n t s hh W hw, fun W => rscan_hit k n t s hh W⟩
  · have hno : NoHit s := fun k n t hh => h ⟨k, n, t, hh⟩
    exact ⟨0, 0, ⟨#[]⟩, false, fun W hw he hr => scan_miss s hno hsz W hw he hr, fun W => rscan_miss s hno hsz W⟩
end Go.Proofs.YtcjidlgmbjebjaaGreatDoor
