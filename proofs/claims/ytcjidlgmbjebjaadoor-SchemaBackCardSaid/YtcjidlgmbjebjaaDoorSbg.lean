/- A part of the proof of SchemaBack. -/
import Derived.Test.YtcjidlgmbjebjaaDoorSbf
import Derived.ChangeSame
import Derived.ChangeVars
import Derived.ProofKit
import Derived.Lib.SmallJoins
import Derived.Deep.Strs
import Derived.OpenShut
import Derived.Lib.LaidTab
import Derived.Test.YtcjidlgmbjebjaaDoorRows
import Derived.Test.YtcjidlgmbjebjaaDoorPValueFormsx0
set_option linter.unusedVariables false
set_option linter.unusedSimpArgs false
set_option maxRecDepth 100000
namespace Go.Proofs.YtcjidlgmbjebjaaDoor
open Go Go.RowKit
def WtR (l : List UInt8) (w : World) (a n : Value) (w' : World) : Prop := ∃ i : Nat, i ≤ 3 ∧ n = .int .i64 i ∧ a = .int .i64 (wantOf l i) ∧ w' = w
theorem idx29 (i : Nat) (hi : i < 3) (w : World) : (Instr.index 29 (.agg #[.string ⟨#[105, 110, 116]⟩, .string ⟨#[116, 101, 120, 116]⟩, .string ⟨#[102, 108, 97, 103]⟩]) (.int .i64 i)).run Tryd.prog w = .ok (.string (tyName (i + 1))) w := by
  have h : i = 0 ∨ i = 1 ∨ i = 2 := by omega
  rcases h with rfl | rfl | rfl
  · exact index_arr 29 3 _ 0 0 rfl _ Tryd.underlying29 (by omega) rfl w
  · exact index_arr 29 3 _ 1 1 rfl _ Tryd.underlying29 (by omega) rfl w
  · exact index_arr 29 3 _ 2 2 rfl _ Tryd.underlying29 (by omega) rfl w
set_option maxHeartbeats 16000000 in
theorem asks_walk (n1 : ByteArray) (k1 r1 : Int) (v1 : Value) (cs : List Col) (n2 : ByteArray) (k2 r2 : Int) (v2 : Value) (ds : List Col) (s : ByteArray) (W : World)
    (z1 : n1.size ≤ 9223372036854775807) (z2 : n2.size ≤ 9223372036854775807) (z3 : s.size ≤ 9223372036854775807) (l1 : cs.length ≤ 9223372036854775807) (l2 : ds.length ≤ 9223372036854775807)
    (hcs : ∀ c ∈ cs, c.1.size ≤ 9223372036854775807) (hv1 : ColsV W v1 cs) (hv2 : ColsV W v2 ds) (ht : TypesAt W) (hf : FormsAt W) (hpw : PowIs W) :
    Calls Tryd.prog 3 #[schV n1 k1 r1 v1, schV n2 k2 r2 v2, .string s] W (RetBool true W) := by
  obtain ⟨p1, q1, c1, rfl⟩ := colsV_shape hv1
  obtain ⟨p2, q2, c2, rfl⟩ := colsV_shape hv2
  have HV1 := Lib.hid hv1; clear hv1
  have HV2 := Lib.hid hv2; clear hv2
  have HT := Lib.hid ht; clear ht
  have HF := Lib.hid hf; clear hf
  have HW := Lib.hid hpw; clear hpw
  have HL := Lib.hid (fun (w' : World) (h : Below W.heap.size W w') => lives_val w' (types_stays HT.out h) (forms_stays HF.out h) (pow_stays HW.out h))
  have HS := Lib.hid hcs; clear hcs
  have HA := Lib.hid (fun (w' : World) (h : Below W.heap.size W w') => light_val n1 k1 r1 _ cs w' z1 l1 (colsV_stays HV1.out h))
  have HB := Lib.hid (fun (w' : World) (h : Below W.heap.size W w') => light_val n2 k2 r2 _ ds w' z2 l2 (colsV_stays HV2.out h))
  unfold schV at HA HB ⊢
  go_enter Tryd.func3, Tryd.ntmps3
  go_wp2_with fail
  refine (HA.out _ (by go_grown)).mono ?_
  rintro e w1 ⟨b1, rfl, hb1, hb⟩
  have x0 := cell_later (v := .string n2) hb (show World.cell? _ ⟨W.heap.size + 1, 0, none⟩ = some (.string n2) from by go_cell)
  have x1 := cell_later (v := .int .i64 k2) hb (show World.cell? _ ⟨W.heap.size + 1, 1, none⟩ = some (.int .i64 k2) from by go_cell)
  have x2 := cell_later (v := .int .i64 r2) hb (show World.cell? _ ⟨W.heap.size + 1, 2, none⟩ = some (.int .i64 r2) from by go_cell)
  have x3 := cell_later (v := .slice p2 q2 c2) hb (show World.cell? _ ⟨W.heap.size + 1, 3, none⟩ = some (.slice p2 q2 c2) from by go_cell)
  have y0 := cell_later (v := .string n1) hb (show World.cell? _ ⟨W.heap.size, 0, none⟩ = some (.string n1) from by go_cell)
  have y1 := cell_later (v := .int .i64 k1) hb (show World.cell? _ ⟨W.heap.size, 1, none⟩ = some (.int .i64 k1) from by go_cell)
  have y2 := cell_later (v := .int .i64 r1) hb (show World.cell? _ ⟨W.heap.size, 2, none⟩ = some (.int .i64 r1) from by go_cell)
  have y3 := cell_later (v := .slice p1 q1 c1) hb (show World.cell? _ ⟨W.heap.size, 3, none⟩ = some (.slice p1 q1 c1) from by go_cell)
  have hB1 := below_step (show Below W.heap.size W _ from by go_grown) hb
  clear hb
  cases b1 with
  | false =>
    clear hb1
    dsimp only
    go_wp2_with fail
    refine (HL.out _ hB1).mono ?_
    rintro e w2 ⟨rfl, hb⟩
    have hB2 := below_step hB1 hb
    clear hb
    dsimp only
    go_wp2_with fail
    go_ret
    exact ⟨rfl, hB2⟩
  | true =>
  have hl1 := hb1 rfl
  clear hb1
  dsimp only
  go_wp2_with fail
  refine (HB.out _ hB1).mono ?_
  rintro e w2 ⟨b2, rfl, hb2, hb⟩
  have hB2 := below_step hB1 hb
  have x0 := cell_later hb x0
  have x1 := cell_later hb x1
  have x2 := cell_later hb x2
  have x3 := cell_later hb x3
  have y0 := cell_later hb y0
  have y1 := cell_later hb y1
  have y2 := cell_later hb y2
  have y3 := cell_later hb y3
  clear hb
  cases b2 with
  | false =>
    clear hb2
    dsimp only
    go_wp2_with fail
    refine (HL.out _ hB2).mono ?_
    rintro e w3 ⟨rfl, hb⟩
    have hB3 := below_step hB2 hb
    clear hb
    dsimp only
    go_wp2_with fail
    go_ret
    exact ⟨rfl, hB3⟩
  | true =>
  have hl2 := hb2 rfl
  clear hb2
  dsimp only
  by_cases hs : 500 < s.size
  · go_wp2_with fail
    refine (HL.out _ hB2).mono ?_
    rintro e w3 ⟨rfl, hb⟩
    have hB3 := below_step hB2 hb
    clear hb
    dsimp only
    go_wp2_with fail
    go_ret
    exact ⟨rfl, hB3⟩
  have hs5 : s.size ≤ 500 := by omega
  clear hs
  go_wp2_with fail
  refine (type_val s w2 (types_stays HT.out hB2)).mono ?_
  rintro e w3 ⟨rfl, rfl⟩
  dsimp only
  go_wp2_with fail
  go_loopw [9, 33] (fun a n w' => WtR s.toList w3 a n w') (fun _ n _ => 3 - (intOf n).toNat)
  case atStart => exact ⟨0, by omega, rfl, rfl, rfl⟩
  case round =>
    obtain ⟨i, hi, rfl, rfl, rfl⟩ := hrel
    by_cases hp : i < 3
    · have h3 : i = 0 ∨ i = 1 ∨ i = 2 := by omega
      rcases h3 with rfl | rfl | rfl
      · have hx := fun w => index_arr 29 3 #[.string ⟨#[105, 110, 116]⟩, .string ⟨#[116, 101, 120, 116]⟩, .string ⟨#[102, 108, 97, 103]⟩] 0 0 rfl _ Tryd.underlying29 (by omega) rfl w
        by_cases hl : s.toList = [105, 110, 116]
        · have HR := Lib.hid (show wantOf s.toList 1 = 1 by show (if s.toList = [105, 110, 116] then (1 : Int) else _) = _; rw [if_pos hl])
          have hl2 := beq_yes hl.symm
          clear hl
          go_wp2_with fail
          exact ⟨⟨1, by omega, rfl, by rw [HR.out], rfl⟩, by simp [intOf]⟩
        · have HR := Lib.hid (show wantOf s.toList 1 = wantOf s.toList 0 by show (if s.toList = [105, 110, 116] then _ else _) = _; rw [if_neg hl]; rfl)
          have hl2 := beq_no (fun h => hl h.symm)
          clear hl
          go_wp2_with fail
          exact ⟨⟨1, by omega, rfl, by rw [HR.out], rfl⟩, by simp [intOf]⟩
      · have hx := fun w => index_arr 29 3 #[.string ⟨#[105, 110, 116]⟩, .string ⟨#[116, 101, 120, 116]⟩, .string ⟨#[102, 108, 97, 103]⟩] 1 1 rfl _ Tryd.underlying29 (by omega) rfl w
        by_cases hl : s.toList = [116, 101, 120, 116]
        · have HR := Lib.hid (show wantOf s.toList 2 = 2 by show (if s.toList = [116, 101, 120, 116] then (2 : Int) else _) = _; rw [if_pos hl])
          have hl2 := beq_yes hl.symm
          clear hl
          go_wp2_with fail
          exact ⟨⟨2, by omega, rfl, by rw [HR.out], rfl⟩, by simp [intOf]⟩
        · have HR := Lib.hid (show wantOf s.toList 2 = wantOf s.toList 1 by show (if s.toList = [116, 101, 120, 116] then _ else _) = _; rw [if_neg hl]; rfl)
          have hl2 := beq_no (fun h => hl h.symm)
          clear hl
          go_wp2_with fail
          exact ⟨⟨2, by omega, rfl, by rw [HR.out], rfl⟩, by simp [intOf]⟩
      · have hx := fun w => index_arr 29 3 #[.string ⟨#[105, 110, 116]⟩, .string ⟨#[116, 101, 120, 116]⟩, .string ⟨#[102, 108, 97, 103]⟩] 2 2 rfl _ Tryd.underlying29 (by omega) rfl w
        by_cases hl : s.toList = [102, 108, 97, 103]
        · have HR := Lib.hid (show wantOf s.toList 3 = 3 by show (if s.toList = [102, 108, 97, 103] then (3 : Int) else _) = _; rw [if_pos hl])
          have hl2 := beq_yes hl.symm
          clear hl
          go_wp2_with fail
          exact ⟨⟨3, by omega, rfl, by rw [HR.out], rfl⟩, by simp [intOf]⟩
        · have HR := Lib.hid (show wantOf s.toList 3 = wantOf s.toList 2 by show (if s.toList = [102, 108, 97, 103] then _ else _) = _; rw [if_neg hl]; rfl)
          have hl2 := beq_no (fun h => hl h.symm)
          clear hl
          go_wp2_with fail
          exact ⟨⟨3, by omega, rfl, by rw [HR.out], rfl⟩, by simp [intOf]⟩
    · obtain rfl : i = 3 := by omega
      rw [wantOf_3]
      have hC1 := colsV_stays HV1.out hB2
      have hC2 := colsV_stays HV2.out hB2
      have HP := Lib.hid (fun w h => plain_val n1 k1 r1 (.slice p1 q1 c1) cs w hl1 h)
      unfold schV at HP
      go_wp2_with fail
      refine (HP.out _ hC1).mono ?_
      rintro e w4 ⟨vp, rfl, hC3, hb⟩
      obtain ⟨p3, q3, c3, rfl⟩ := colsV_shape hC3
      have hB4 := below_step hB2 hb
      have x0 := cell_later hb x0
      have x1 := cell_later hb x1
      have x2 := cell_later hb x2
      have x3 := cell_later hb x3
      have y0 := cell_later hb y0
      have y1 := cell_later hb y1
      have y2 := cell_later hb y2
      have y3 := cell_later hb y3
      have hC1 := colsV_stays hC1 hb
      have hC2 := colsV_stays hC2 hb
      clear hb HP HA HB
      have hzw := cell_lt x0
      have hal := (Below.refl w4.heap.size w4).alloc (Nat.le_refl _) (.cells #[.string n1, .int .i64 k1, .int .i64 r1, .slice p3 q3 c3] 32)
      have hC1 := colsV_stays hC1 hal
      have hC2 := colsV_stays hC2 hal
      have hC3 := colsV_stays hC3 hal
      have hB5 := below_step hB4 hal
      clear hal
      have HG15 := Lib.hid (fun w h => sgood_val n1 k1 r1 (.slice p1 q1 c1) cs w z1 HS.out hl1 h)
      have HG16 := Lib.hid (fun w h => srefgood_val n1 k1 r1 (.slice p3 q3 c3) cs w z1 HS.out hl1 h)
      have HG19 := Lib.hid (fun w h1 h2 => same_val n1 k1 r1 (.slice p1 q1 c1) cs n2 k2 r2 (.slice p2 q2 c2) ds w hl1 hl2 h1 h2)
      have HG14 := Lib.hid (fun w h => plain_val n2 k2 r2 (.slice p2 q2 c2) ds w hl2 h)
      have HG20 := Lib.hid (fun w v h1 h2 => refsame_val n1 k1 r1 (.slice p3 q3 c3) cs n2 k2 r2 v ds w hl1 hl2 h1 h2)
      unfold schV at HG15 HG16 HG19 HG14 HG20
      dsimp only
      go_wp2_with fail
      go_region_held3 (fun w' => w'.cell? ⟨W.heap.size, 0, none⟩ = some (.string n1) ∧ w'.cell? ⟨W.heap.size, 1, none⟩ = some (.int .i64 k1) ∧ w'.cell? ⟨W.heap.size, 2, none⟩ = some (.int .i64 r1) ∧ w'.cell? ⟨W.heap.size, 3, none⟩ = some (.slice p1 q1 c1) ∧
          w'.cell? ⟨W.heap.size + 1, 0, none⟩ = some (.string n2) ∧ w'.cell? ⟨W.heap.size + 1, 1, none⟩ = some (.int .i64 k2) ∧ w'.cell? ⟨W.heap.size + 1, 2, none⟩ = some (.int .i64 r2) ∧ w'.cell? ⟨W.heap.size + 1, 3, none⟩ = some (.slice p2 q2 c2) ∧
          w'.cell? ⟨w4.heap.size, 0, none⟩ = some (.string n1) ∧ w'.cell? ⟨w4.heap.size, 1, none⟩ = some (.int .i64 k1) ∧ w'.cell? ⟨w4.heap.size, 2, none⟩ = some (.int .i64 r1) ∧ w'.cell? ⟨w4.heap.size, 3, none⟩ = some (.slice p3 q3 c3) ∧
          ColsV w' (.slice p1 q1 c1) cs ∧ ColsV w' (.slice p2 q2 c2) ds ∧ ColsV w' (.slice p3 q3 c3) cs ∧ Below W.heap.size W w')
        (first
          | (go_keep; done)
          | ((repeat' apply And.intro) <;> first | (go_keep; done) | (go_cell; done) | (rw [World.cell?_drew]; go_cell; done) | (exact colsV_drew hC1) | (exact colsV_drew hC2) | (exact colsV_drew hC3) | (exact below_drew hB5))
          | (go_split_ands; (repeat' apply And.intro) <;> first | (exact cell_later hb1 (by assumption)) | (exact colsV_stays (by assumption) hb1) | (exact below_step (by assumption) hb1)))
        (first
          | (go_at_call 15; go_split_ands; refine (HG15.out _ (by assumption)).mono ?_; rintro e w1 ⟨rfl, hb1⟩)
          | (go_at_call 16; go_split_ands; refine (HG16.out _ (by assumption)).mono ?_; rintro e w1 ⟨rfl, hb1⟩)
          | (go_at_call 17; refine (name_val s _ z3).mono ?_; rintro e w1 ⟨rfl, hb1⟩)
          | (go_at_call 18; refine (refname_val s _ z3).mono ?_; rintro e w1 ⟨rfl, hb1⟩)
          | (go_at_call 19; go_split_ands; refine (HG19.out _ (by assumption) (by assumption)).mono ?_; rintro e w1 ⟨rfl, hb1⟩)
          | (go_at_call 14; go_split_ands; refine (HG14.out _ (by assumption)).mono ?_; rintro e w1 ⟨v5, rfl, hC5, hb1⟩)
          | (go_at_call 20; go_split_ands; refine (HG20.out _ _ (by assumption) (by assumption)).mono ?_; rintro e w1 ⟨rfl, hb1⟩))
      rename_i hH
      obtain ⟨g0, g1, g2, g3, g4, g5, g6, g7, g8, g9, g10, g11, hD1, hD2, hD3, hBB⟩ := hH
      clear HG15 HG19 HG14 HG20 hC1 hC2 hC3 hB5 hzw x0 x1 x2 x3 y0 y1 y2 y3
      by_cases hg : goodSch n1 k1 r1 cs = 0
      · obtain ⟨f1, f2, f3, f4⟩ := good_facts hg
        have HG21 := Lib.hid (fun w hb h => text_val n1 k1 r1 (.slice p1 q1 c1) cs w f1 f2 f3 (fun c hc => (f4 c hc).1) hl1 h (types_stays HT.out hb) (forms_stays HF.out hb) (pow_stays HW.out hb))
        have HG22 := Lib.hid (fun w h => reftext_val n1 k1 r1 (.slice p3 q3 c3) cs w f1 f2 f3 f4 hl1 h)
        unfold schV at HG21 HG22
        have HG16 := HG16.out
        rw [hg] at HG16
        have HG16 := Lib.hid HG16
        clear f1 f2 f3 f4 hg
        go_wp2_with fail
        go_region_held3 (fun w' => w'.cell? ⟨W.heap.size, 0, none⟩ = some (.string n1) ∧ w'.cell? ⟨W.heap.size, 1, none⟩ = some (.int .i64 k1) ∧ w'.cell? ⟨W.heap.size, 2, none⟩ = some (.int .i64 r1) ∧ w'.cell? ⟨W.heap.size, 3, none⟩ = some (.slice p1 q1 c1) ∧
          w'.cell? ⟨W.heap.size + 1, 0, none⟩ = some (.string n2) ∧ w'.cell? ⟨W.heap.size + 1, 1, none⟩ = some (.int .i64 k2) ∧ w'.cell? ⟨W.heap.size + 1, 2, none⟩ = some (.int .i64 r2) ∧ w'.cell? ⟨W.heap.size + 1, 3, none⟩ = some (.slice p2 q2 c2) ∧
          w'.cell? ⟨w4.heap.size, 0, none⟩ = some (.string n1) ∧ w'.cell? ⟨w4.heap.size, 1, none⟩ = some (.int .i64 k1) ∧ w'.cell? ⟨w4.heap.size, 2, none⟩ = some (.int .i64 r1) ∧ w'.cell? ⟨w4.heap.size, 3, none⟩ = some (.slice p3 q3 c3) ∧
          ColsV w' (.slice p1 q1 c1) cs ∧ ColsV w' (.slice p2 q2 c2) ds ∧ ColsV w' (.slice p3 q3 c3) cs ∧ Below W.heap.size W w')
          (first
            | (go_keep; done)
            | ((repeat' apply And.intro) <;> first | (go_keep; done) | (go_cell; done) | (rw [World.cell?_drew]; assumption) | (exact colsV_drew hD1) | (exact colsV_drew hD2) | (exact colsV_drew hD3) | (exact below_drew hBB))
            | (go_split_ands; (repeat' apply And.intro) <;> first | (exact cell_later hb1 (by assumption)) | (exact colsV_stays (by assumption) hb1) | (exact below_step (by assumption) hb1)))
          (first
            | (go_at_call 16; go_split_ands; refine (HG16.out _ (by assumption)).mono ?_; rintro e w1 ⟨rfl, hb1⟩)
            | (go_at_call 21; go_split_ands; refine (HG21.out _ (by assumption) (by assumption)).mono ?_; rintro e w1 ⟨rfl, hb1⟩)
            | (go_at_call 22; go_split_ands; refine (HG22.out _ (by assumption)).mono ?_; rintro e w1 ⟨rfl, hb1⟩)
            | (go_at_call 12; go_split_ands; refine (HL.out _ (by assumption)).mono ?_; rintro e w1 ⟨rfl, hb1⟩))
        rename_i hH
        have hfin : Below W.heap.size W _ := hH.2.2.2.2.2.2.2.2.2.2.2.2.2.2.2
        clear hH
        go_wp2_with fail
        go_ret
        exact ⟨rfl, hfin⟩
      · have hgb : (goodSch n1 k1 r1 cs != 0) = true := by rw [bne_iff_ne]; exact hg
        clear hg
        go_wp2_with fail
        have hD3' := colsV_drew hD3
        have hBB' := below_drew hBB
        go_region_with (first
          | (go_at_call 16; refine (HG16.out _ hD3').mono ?_; rintro e w5 ⟨rfl, hb5⟩)
          | (go_at_call 12; refine (HL.out _ (below_step hBB' hb5)).mono ?_; rintro e w6 ⟨rfl, hb6⟩))
        all_goals
          go_wp2_with fail
          go_ret
          exact ⟨rfl, below_step (below_step hBB' hb5) hb6⟩
end Go.Proofs.YtcjidlgmbjebjaaDoor

namespace Go.Proofs.YtcjidlgmbjebjaaDoor.sa
open Go Go.ChangeShapes Go.WideShapes Go.RowKit Go.Joins
theorem c3 : Tryd.prog.cellsOf 3 = 1 := by kernel_rfl
theorem c9 : Tryd.prog.cellsOf 9 = 1 := by kernel_rfl
theorem c4 : Tryd.prog.cellsOf 4 = 1 := by kernel_rfl
theorem c22 : Tryd.prog.cellsOf 22 = 1 := by kernel_rfl
theorem c24 : Tryd.prog.cellsOf 24 = 4 := by kernel_rfl
theorem c90 : Tryd.prog.cellsOf 90 = 3 := by kernel_rfl
theorem c93 : Tryd.prog.cellsOf 93 = 4 := by kernel_rfl
theorem c167 : Tryd.prog.cellsOf 167 = 2 := by kernel_rfl
theorem c168 : Tryd.prog.cellsOf 168 = 16 := by kernel_rfl
theorem array4 {α : Type} {cs : Array α} (h : cs.size = 4) : ∃ c0 c1 c2 c3, cs = #[c0, c1, c2, c3] := by
  obtain ⟨l⟩ := cs
  match l, h with
  | [c0, c1, c2, c3], _ => exact ⟨c0, c1, c2, c3, rfl⟩
theorem list3 {α : Type} {cs : List α} (h : cs.length = 3) : ∃ c0 c1 c2, cs = [c0, c1, c2] := by
  match cs, h with
  | [c0, c1, c2], _ => exact ⟨c0, c1, c2, rfl⟩
theorem gather {P : Nat → Col → Prop} {len : Nat} (h : ∀ i, i < len → ∃ c, P i c) : ∀ n, n ≤ len → ∃ l : List Col, l.length = n ∧ ∀ i c, l[i]? = some c → P i c
  | 0, _ => ⟨[], rfl, fun i c hc => by simp at hc⟩
  | n + 1, hn => by
    obtain ⟨l, hl, hp⟩ := gather h n (by omega)
    obtain ⟨c, hc⟩ := h n (by omega)
    refine ⟨l ++ [c], by simp [hl], fun i d hd => ?_⟩
    by_cases hi : i < n
    · rw [List.getElem?_append_left (by omega)] at hd
      exact hp i d hd
    · have hlt : i < (l ++ [c]).length := (List.getElem?_eq_some_iff.1 hd).1
      have : i = n := by simp [hl] at hlt; omega
      subst this
      rw [List.getElem?_append_right (by omega), hl] at hd
      simp at hd
      subst hd
      exact hc
section
variable {H : Type} {enc : TypeId × Value → H} {W : World} {b0 : Nat} {sp : Nat → Bool} {held : Bool}
theorem open_cols {n : Nat} {c : Value} {y : DataW H × List MemPlace} (h : DataW.trod enc Tryd.prog W b0 sp held n 22 [c] = some y) : ∃ cs : List Col, ColsV W c cs ∧ cs.length ≤ 9223372036854775807 ∧ ∀ d ∈ cs, d.1.size ≤ 9223372036854775807 := by
  rcases DataW.trod_slice Tryd.underlying22 h with ⟨hc, _⟩ | ⟨a, len, cap, elems, rest, m, _, hc, _, hb, hl, hcap, he, hel, _⟩
  · exact ⟨[], ⟨none, 0, 0, 0, by simpa using hc, Nat.le_refl _, fun h => absurd h (by simp), fun i d hd => by simp at hd⟩, by simp, fun d hd => by simp at hd⟩
  · have hcap : cap ≤ 9223372036854775807 := hcap
    rw [c90] at hel
    have hcell : ∀ i, i < len → ∃ d : Col, d.1.size ≤ 9223372036854775807 ∧ W.cell? ((a.add (i * 3)).add 0) = some (.string d.1) ∧ W.cell? ((a.add (i * 3)).add 1) = some (.int .i64 d.2.1) ∧ W.cell? ((a.add (i * 3)).add 2) = some (.bool d.2.2) := fun i hi => by
      have h1 := hel i hi
      rw [List.getElem?_eq_getElem (by omega)] at h1
      obtain ⟨cs, h2, h3⟩ := Option.bind_eq_some_iff.1 h1
      obtain ⟨_, hlen, hcs⟩ := World.cells?_some h2
      obtain ⟨y0, y1, y2, n', _, hl3, f0, f1, f2⟩ := Go.Deep.trod_struct3 Tryd.underlying90 h3
      rw [c90] at hl3
      obtain ⟨x0, x1, x2, rfl⟩ := list3 hl3
      simp only [c3, c4, c9, List.drop_zero, List.drop_succ_cons, List.take_succ_cons, List.take_zero] at f0 f1 f2
      obtain ⟨s, e0, _, hs⟩ := DataW.trod_string Tryd.underlying9 f0
      obtain ⟨kk, e1, _, _⟩ := DataW.trod_int Tryd.underlying3 f1
      obtain ⟨mm, e2, _⟩ := DataW.trod_bool Tryd.underlying4 f2
      simp only [List.cons.injEq, and_true] at e0 e1 e2
      subst e0 e1 e2
      exact ⟨(s, kk, mm), hs, hcs 0 (by omega), hcs 1 (by omega), hcs 2 (by omega)⟩
    obtain ⟨l, hll, hlp⟩ := gather hcell len (Nat.le_refl _)
    obtain ⟨cb, co, spot⟩ := a
    have hsp : 0 < len → spot = none := fun h0 => by
      obtain ⟨d, hd⟩ : ∃ d, l[0]? = some d := ⟨l[0]'(by omega), List.getElem?_eq_getElem (by omega)⟩
      obtain ⟨_, g, _⟩ := hlp 0 d hd
      simpa [Addr.add] using World.cell?_spot g
    refine ⟨l, ⟨some ⟨cb, co, spot⟩, cb, co, cap, by rw [hll]; simpa using hc, by omega, fun h0 => by rw [hsp (by omega)], fun i d hd => ?_⟩, by omega, fun d hd => ?_⟩
    · obtain ⟨_, g0, g1, g2⟩ := hlp i d hd
      have hi : i < len := by have := (List.getElem?_eq_some_iff.1 hd).1; omega
      have hspot := hsp (by omega)
      subst hspot
      have hadd : ∀ j, ((⟨cb, co, none⟩ : Addr).add (i * 3)).add j = ⟨cb, co + i * 3 + j, none⟩ := fun j => by
        unfold Addr.add
        split <;> split <;> simp_all <;> omega
      rw [hadd] at g0 g1 g2
      exact ⟨g0, g1, g2⟩
    · obtain ⟨i, hi, rfl⟩ := List.getElem_of_mem hd
      exact (hlp i _ (List.getElem?_eq_getElem hi)).1
theorem open_sch {r : Reach} {v : Value} {d : DataW H} {p : List MemPlace} (hv : Value.okWide Tryd.prog W r b0 24 v) (h : DataW.Trod enc Tryd.prog W 0 sp held 24 v d p) :
    ∃ (nm : ByteArray) (k srs : Int) (c : Value) (cs : List Col), v = schV nm k srs c ∧ nm.size ≤ 9223372036854775807 ∧ ColsV W c cs ∧ cs.length ≤ 9223372036854775807 ∧ ∀ d ∈ cs, d.1.size ≤ 9223372036854775807 := by
  obtain ⟨cs, rfl, hsz⟩ := okWide_struct Tryd.underlying24 hv
  obtain ⟨v0, v1, v2, v3, rfl⟩ := array4 (hsz.trans c24)
  obtain ⟨fuel, hf⟩ := h
  obtain ⟨z0, z1, z2, z3, m, _, _, k0, k1, k2, k3⟩ := trod_struct4 Tryd.underlying24 hf
  simp only [Value.cells, c3, c9, c22, List.drop_zero, List.drop_succ_cons, List.take_succ_cons, List.take_zero] at k0 k1 k2 k3
  obtain ⟨sn, e3, _, hs⟩ := DataW.trod_string Tryd.underlying9 k0
  obtain ⟨sk, e4, _, _⟩ := DataW.trod_int Tryd.underlying3 k1
  obtain ⟨sr, e5, _, _⟩ := DataW.trod_int Tryd.underlying3 k2
  obtain ⟨cs, hco, hl, hz⟩ := open_cols k3
  simp only [List.cons.injEq, and_true] at e3 e4 e5
  subst e3 e4 e5
  exact ⟨sn, sk, sr, _, cs, rfl, hs, hco, hl, hz⟩
theorem open_name {r : Reach} {v : Value} {d : DataW H} {p : List MemPlace} (hv : Value.okWide Tryd.prog W r b0 9 v) (h : DataW.Trod enc Tryd.prog W 0 sp held 9 v d p) : ∃ s : ByteArray, v = .string s ∧ s.size ≤ 9223372036854775807 := by
  obtain ⟨s, rfl⟩ := okWide_string Tryd.underlying9 hv
  obtain ⟨fuel, hf⟩ := h
  obtain ⟨s', e, _, hs⟩ := DataW.trod_string Tryd.underlying9 hf
  simp [Value.cells] at e
  subst e
  exact ⟨s, rfl, hs⟩
end
end Go.Proofs.YtcjidlgmbjebjaaDoor.sa

namespace Go.Proofs.YtcjidlgmbjebjaaDoor.sa
open Go Go.ChangeShapes Go.WideShapes Go.RowKit Go.Joins
section
variable {H : Type} {enc : TypeId × Value → H} {P : Program} {w : World} {base : Nat} {sp : Nat → Bool} {held : Bool} {fuel : Nat}
theorem str_at {t e n : Nat} {cs : List Value} {ds : List (DataW H)} {ps : List MemPlace} (ht : P.underlying t = some (.array n e)) (he : P.underlying e = some .string) (hc : P.cellsOf e = 1) (hC : P.cellsOf t = n)
    (h : DataW.trod enc P w base sp held fuel t cs = some (.agg ds, ps)) (i : Nat) (z : List UInt8) (hd : ds[i]? = some (.lit (.string z))) : cs[i]? = some (.string ⟨z.toArray⟩) := by
  obtain ⟨xs, m, rfl, hx, hl, hn, hi⟩ := DataW.trod_array ht h
  simp only [Prod.mk.injEq, DataW.agg.injEq] at hx
  obtain ⟨rfl, _⟩ := hx
  rw [List.getElem?_map] at hd
  obtain ⟨y, hy, hy2⟩ := Option.map_eq_some_iff.1 hd
  have hin : i < n := by have := (List.getElem?_eq_some_iff.1 hy).1; omega
  have h1 := hi i hin
  rw [hc, Nat.mul_one, hy] at h1
  have hci : i < cs.length := by omega
  have h2 : (cs.drop i).take 1 = [cs[i]] := by rw [List.drop_eq_getElem_cons hci, List.take_succ_cons, List.take_zero]
  rw [h2] at h1
  obtain ⟨s, hs, hy3, _⟩ := DataW.trod_string he h1
  simp only [List.cons.injEq, and_true] at hs
  rw [List.getElem?_eq_getElem hci, hs]
  rw [hy3] at hy2
  simp only [DataW.lit.injEq, Lit.string.injEq] at hy2
  rw [← hy2]
theorem form_at {t e n : Nat} {f0 f1 : Field} {cs : List Value} {ds : List (DataW H)} {ps : List MemPlace} (ht : P.underlying t = some (.array n e)) (he : P.underlying e = some (.struct #[f0, f1])) (h0 : P.underlying f0.type = some .string) (ho : f0.offset = 0) (hc0 : P.cellsOf f0.type = 1)
    (hc : P.cellsOf e = 2) (hC : P.cellsOf t = n * 2) (h : DataW.trod enc P w base sp held fuel t cs = some (.agg ds, ps)) (i : Nat) (z : List UInt8) (d1 : DataW H) (hd : ds[i]? = some (.agg [.lit (.string z), d1])) : cs[i * 2]? = some (.string ⟨z.toArray⟩) := by
  obtain ⟨xs, m, rfl, hx, hl, hn, hi⟩ := DataW.trod_array ht h
  simp only [Prod.mk.injEq, DataW.agg.injEq] at hx
  obtain ⟨rfl, _⟩ := hx
  rw [List.getElem?_map] at hd
  obtain ⟨y, hy, hy2⟩ := Option.map_eq_some_iff.1 hd
  have hin : i < n := by have := (List.getElem?_eq_some_iff.1 hy).1; omega
  have h1 := hi i hin
  rw [hc, hy] at h1
  obtain ⟨y0, y1, k, rfl, _, g0, _⟩ := trod_struct2 he h1
  rw [ho, hc0, List.drop_zero] at g0
  have hci : i * 2 < cs.length := by omega
  have h2 : ((cs.drop (i * 2)).take 2).take 1 = [cs[i * 2]] := by rw [List.drop_eq_getElem_cons hci, List.take_succ_cons, List.take_succ_cons, List.take_zero]
  rw [h2] at g0
  obtain ⟨s, hs, hy3, _⟩ := DataW.trod_string h0 g0
  simp only [List.cons.injEq, and_true] at hs
  rw [List.getElem?_eq_getElem hci, hs]
  rw [hy3] at hy2
  simp only [DataW.agg.injEq, List.cons.injEq, DataW.lit.injEq, Lit.string.injEq] at hy2
  rw [← hy2.1]
end
abbrev laidL : List (String × DataW Unit) := [("math/bits.deBruijn32tab", Rows.laid_math_bits_deBruijn32tab), ("math/bits.deBruijn64tab", Rows.laid_math_bits_deBruijn64tab), ("internal/strconv.uint64pow10", Rows.laid_internal_strconv_uint64pow10), ("hachure/shape.forms", Rows.laid_hachure_shape_forms), ("hachure/schema.types", Rows.laid_hachure_schema_types)]
theorem tabP : Tryd.prog.globalNamed "internal/strconv.uint64pow10" = some 4 := by kernel_rfl
theorem tabPType : (Tryd.prog.globals[4]?).map (·.type) = some 266 := by kernel_rfl
theorem tabF : Tryd.prog.globalNamed "hachure/shape.forms" = some 1 := by kernel_rfl
theorem tabFType : (Tryd.prog.globals[1]?).map (·.type) = some 168 := by kernel_rfl
theorem tabT : Tryd.prog.globalNamed "hachure/schema.types" = some 0 := by kernel_rfl
theorem tabTType : (Tryd.prog.globals[0]?).map (·.type) = some 93 := by kernel_rfl
theorem tabs_are {W : World} (h : laidMet Tryd.prog laidL W) : PowIs W ∧ FormsAt W ∧ TypesAt W := by
  obtain ⟨ps, h0, _⟩ := h
  obtain ⟨_, _, _, _, _, _, _, _, _, _, h1, _⟩ := h0
  obtain ⟨_, _, _, _, _, _, _, _, _, _, h2, _⟩ := h1
  obtain ⟨g, t, cs, fuel, p, q, hg, ht, hvar, hd, h3, _⟩ := h2
  obtain ⟨g', t', cs', fuel', p', q', hg', ht', hvar', hd', h4, _⟩ := h3
  obtain ⟨g2, t2, cs2, fuel2, p2, q2, hg2, ht2, hvar2, hd2, _, _⟩ := h4
  obtain rfl := Option.some.inj (tabP.symm.trans hg)
  obtain rfl := Option.some.inj (tabPType.symm.trans ht)
  obtain rfl := Option.some.inj (tabF.symm.trans hg')
  obtain rfl := Option.some.inj (tabFType.symm.trans ht')
  obtain rfl := Option.some.inj (tabT.symm.trans hg2)
  obtain rfl := Option.some.inj (tabTType.symm.trans ht2)
  refine ⟨?_, ?_, ?_⟩
  · unfold PowIs Lib.TabIs
    rw [hvar, ← Lib.cells_of_tab (k := .u64) (zs := Lib.pow10Tab) Tryd.underlying266 (by kernel_rfl) (by kernel_rfl) (by kernel_rfl) hd]
  · have hc := fun i => World.var?_cell tabF hvar' i
    have hf := fun i z d1 h => form_at (P := Tryd.prog) (i := i) (z := z) (d1 := d1) Tryd.underlying168 Tryd.underlying167 Tryd.underlying9 rfl c9 c167 c168 hd' h
    have hg := fun i z d1 h => (hc (i * 2)).trans ((Array.getElem?_toList).symm.trans (hf i z d1 h))
    exact ⟨hg 1 _ _ rfl, hg 2 _ _ rfl, hg 3 _ _ rfl, hg 4 _ _ rfl, hg 5 _ _ rfl, hg 6 _ _ rfl, hg 7 _ _ rfl⟩
  · have hc := fun i => World.var?_cell tabT hvar2 i
    have hf := fun i z h => str_at (P := Tryd.prog) (i := i) (z := z) Tryd.underlying93 Tryd.underlying9 c9 c93 hd2 h
    have hg := fun i z h => (hc i).trans ((Array.getElem?_toList).symm.trans (hf i z h))
    exact ⟨hg 0 _ rfl, hg 1 _ rfl, hg 2 _ rfl, hg 3 _ rfl⟩
end Go.Proofs.YtcjidlgmbjebjaaDoor.sa

namespace Go.Proofs.YtcjidlgmbjebjaaDoor.PValueForms
open Go.RowKit Go.Proofs.YtcjidlgmbjebjaaDoorW.PrintWords Go.Proofs.YtcjidlgmbjebjaaDoorW.PrintLast Go.Proofs.YtcjidlgmbjebjaaDoorW.PrintMore
attribute [local go_sem] max2_int min2_int max_two min_two max_three min_three max_four min_four
def octet_Size.l0 : Nat → Int → Int → Option (Int)
  | 0, _, _ => none
  | k + 1, x0, x3 => if x3 < 9 then (if 0 ≤ (wrap64 (7 * x3)) then (if (shr .u64 x0 (wrap64 (7 * x3))) = 0 then (some x3) else (octet_Size.l0 k x0 (wrap64 (x3 + 1)))) else (none)) else (some 9)
def octet_Size.f (k : Nat) (a0 : Int) : Option (Int) := octet_Size.l0 k a0 1
theorem octet_Size.mono_l : ∀ k, (∀ y0 y1, LeO (octet_Size.l0 k y0 y1) (octet_Size.l0 (k + 1) y0 y1))
  | 0 => fun _ _ r h => by simp [octet_Size.l0] at h
  | k + 1 => by
    have ih0 := octet_Size.mono_l k
    · intro y0 y1
      unfold octet_Size.l0
      repeat' first
      | (with_reducible exact ih0 _ _)
      | (with_reducible exact LeO.refl _)
      | (with_reducible exact LeO.none _)
      | (with_reducible refine LeO.ite ?_ ?_)
      | (with_reducible refine LeO.bind ?_ (fun _ => ?_))
      | exact ih0 _ _
      | exact LeO.none _
      | refine LeO.ite ?_ ?_
      | refine LeO.bind ?_ (fun _ => ?_)
theorem octet_Size.mono : ∀ a0 k, LeO (octet_Size.f k a0) (octet_Size.f (k + 1) a0) := by
  intro a0 k
  have ih0 := octet_Size.mono_l k
  unfold octet_Size.f
  repeat' first
      | (with_reducible exact ih0 _ _)
      | (with_reducible exact LeO.refl _)
      | (with_reducible exact LeO.none _)
      | (with_reducible refine LeO.ite ?_ ?_)
      | (with_reducible refine LeO.bind ?_ (fun _ => ?_))
      | exact ih0 _ _
      | exact LeO.none _
      | refine LeO.ite ?_ ?_
      | refine LeO.bind ?_ (fun _ => ?_)
set_option maxHeartbeats 8000000 in
set_option maxRecDepth 100000 in
theorem octet_Size.calls (k : Nat) (a0 : Int) (r : Int) (w : World) (h : octet_Size.f k a0 = some r) :
    Calls Tryd.prog 114 #[.int .u64 a0] w fun e w' => e = .returned (.int .i64 r) ∧ Drawn0 w w' := by
  have H : (octet_Size.l0 k a0 1) = some r := h
  clear h
  have H' := Aside0.mk H
  clear H
  go_enter Tryd.func114, Tryd.ntmps114
  go_wp2
  go_loopg [3] k (fun kq v3 w' => ∃ (x3_1 : Int), v3 = .int .i64 x3_1 ∧ Aside0 (octet_Size.l0 kq a0 x3_1 = some r) ∧ Aside0 (kq ≤ k) ∧ Drawn0 w w')
  case atStart => exact ⟨(1), (by first | rfl | (simp; done) | (simp [*]; done)), H', ⟨Nat.le_refl _⟩, by repeat (first | exact Drawn0.refl _ | apply Drawn0.step)⟩
  case round =>
    clear H'
    try clear c1
    obtain ⟨x3_1, rfl, HA, HK1, ⟨m1, rfl⟩⟩ := hrel
    cases gk with
    | zero => exact absurd HA.out (by simp [octet_Size.l0])
    | succ k1 =>
      have H := HA.out
      clear HA
      simp only [octet_Size.l0] at H
      by_cases c2 : x3_1 < 9
      · rw [if_pos c2] at H
        have c2b0 : decide (x3_1 < 9) = true := decide_eq_true c2
        clear c2
        obtain ⟨ji3, hji3⟩ : ∃ j_ : Int, (wrap64 (7 * x3_1)) = j_ := ⟨_, rfl⟩
        replace H : (if 0 ≤ (ji3) then (if (shr .u64 a0 (ji3)) = 0 then (some x3_1) else (octet_Size.l0 k1 a0 (wrap64 (x3_1 + 1)))) else (none)) = some r := by first | (rw [hji3] at H; exact H) | (simp only [hji3] at H ⊢; exact H)
        have hji3w : (IntKind.i64.wrap (7 * x3_1)) = ji3 := (i64_w _).trans hji3
        by_cases c4 : 0 ≤ (ji3)
        · rw [if_pos c4] at H
          have c4b0 := eq_true c4
          have c4b1 : decide (0 ≤ (ji3)) = true := decide_eq_true c4
          clear c4
          obtain ⟨ji5, hji5⟩ : ∃ j_ : Int, (shr .u64 a0 (ji3)) = j_ := ⟨_, rfl⟩
          replace H : (if (ji5) = 0 then (some x3_1) else (octet_Size.l0 k1 a0 (wrap64 (x3_1 + 1)))) = some r := by first | (rw [hji5] at H; exact H) | (simp only [hji5] at H ⊢; exact H)
          have hji5_ : (a0 / 2 ^ min (ji3).toNat 64) = ji5 := hji5
          have hji5z : (ji3) ≤ 64 → (a0 / 2 ^ (ji3).toNat) = ji5 := shr_small hji5
          by_cases c6 : (ji5) = 0
          · rw [if_pos c6] at H
            have c6b0 : ((ji5) == 0) = true := beq_iff_eq.mpr c6
            have c6b1 : ((ji5) != 0) = false := bne_eq_false_iff_eq.mpr c6
            clear c6
            obtain rfl := Option.some.inj H
            go_wp2
            go_ret
            exact ⟨by first | rfl | (simp; done) | (simp only [← hji3, ← hji5] <;> (first | rfl | simp)) | (simp [*]; done), by repeat (first | exact Drawn0.refl _ | apply Drawn0.step)⟩
          · rw [if_neg c6] at H
            have c6b0 : ((ji5) == 0) = false := beq_eq_false_iff_ne.mpr c6
            have c6b1 : ((ji5) != 0) = true := bne_iff_ne.mpr c6
            have H' := Aside0.mk H
            clear H
            go_wp2
            go_roundg k1
            case measure => have := HK1.out; omega
            case rel => exact ⟨(wrap64 (x3_1 + 1)), (by first | rfl | (simp; done) | (simp [*]; done)), H', ⟨by have := HK1.out; omega⟩, by repeat (first | exact Drawn0.refl _ | apply Drawn0.step)⟩
        · rw [if_neg c4] at H
          exact absurd H (by simp)
      · rw [if_neg c2] at H
        have c2b0 : decide (x3_1 < 9) = false := decide_eq_false c2
        clear c2
        obtain rfl := Option.some.inj H
        go_wp2
        go_ret
        exact ⟨by first | rfl | (simp; done) | (simp [*]; done), by repeat (first | exact Drawn0.refl _ | apply Drawn0.step)⟩

-- NOT PRINTED: function 58 (octet_Var)

def slices_Reverse_byte_byte.l0 : Nat → List Int → Int → Int → Option (List Int)
  | 0, _, _, _ => none
  | k + 1, x0, x2, x3 => if x2 < x3 then (if 0 ≤ x3 then (if x3 < (x0.length : Int) then (if 0 ≤ x2 then (if x2 < (x0.length : Int) then (slices_Reverse_byte_byte.l0 k ((x0.set (x2 : Int).toNat (rd x0 x3)).set (x3 : Int).toNat (rd x0 x2)) (wrap64 (x2 + 1)) (wrap64 (x3 - 1))) else (none)) else (none)) else (none)) else (none)) else (some x0)
def slices_Reverse_byte_byte.f (k : Nat) (l0 : List Int) : Option (List Int) := slices_Reverse_byte_byte.l0 k l0 0 (wrap64 ((l0.length : Int) - 1))
theorem slices_Reverse_byte_byte.mono_l : ∀ k, (∀ y0 y1 y2, LeO (slices_Reverse_byte_byte.l0 k y0 y1 y2) (slices_Reverse_byte_byte.l0 (k + 1) y0 y1 y2))
  | 0 => fun _ _ _ r h => by simp [slices_Reverse_byte_byte.l0] at h
  | k + 1 => by
    have ih0 := slices_Reverse_byte_byte.mono_l k
    · intro y0 y1 y2
      unfold slices_Reverse_byte_byte.l0
      repeat' first
      | (with_reducible exact ih0 _ _ _)
      | (with_reducible exact LeO.refl _)
      | (with_reducible exact LeO.none _)
      | (with_reducible refine LeO.ite ?_ ?_)
      | (with_reducible refine LeO.bind ?_ (fun _ => ?_))
      | exact ih0 _ _ _
      | exact LeO.none _
      | refine LeO.ite ?_ ?_
      | refine LeO.bind ?_ (fun _ => ?_)
theorem slices_Reverse_byte_byte.mono : ∀ a0 k, LeO (slices_Reverse_byte_byte.f k a0) (slices_Reverse_byte_byte.f (k + 1) a0) := by
  intro a0 k
  have ih0 := slices_Reverse_byte_byte.mono_l k
  unfold slices_Reverse_byte_byte.f
  repeat' first
      | (with_reducible exact ih0 _ _ _)
      | (with_reducible exact LeO.refl _)
      | (with_reducible exact LeO.none _)
      | (with_reducible refine LeO.ite ?_ ?_)
      | (with_reducible refine LeO.bind ?_ (fun _ => ?_))
      | exact ih0 _ _ _
      | exact LeO.none _
      | refine LeO.ite ?_ ?_
      | refine LeO.bind ?_ (fun _ => ?_)
def slices_Reverse_byte_byte.T3 : Bool × List (List Nat × List Nat) := (true, [([], []), ([], []), ([], []), ([], []), ([], []), ([], []), ([4, 5], [4, 5]), ([6], [6]), ([], []), ([], []), ([8, 9], [8, 9]), ([10], [10]), ([0, 1, 0, 1, 4, 5, 6, 7, 11], [0, 1]), ([12, 7, 0, 1, 4, 5, 6, 7, 11], [7, 12]), ([2, 3, 0, 1, 2, 3, 4, 5, 6, 7, 8, 9, 10, 11, 12, 13], [2, 3]), ([14, 11, 13, 0, 1, 2, 3, 4, 5, 6, 7, 8, 9, 10, 11, 12, 13], [11, 14])])
def slices_Reverse_byte_byte.B3 : List Nat := [0, 0, 0, 0, 0, 0, 48, 112, 0, 0, 768, 1792, 4083, 8179, 16383, 32767]
theorem slices_Reverse_byte_byte.tab3 : rtab .any (opsOf Tryd.f149 3) = slices_Reverse_byte_byte.T3 := by kernel_rfl
theorem slices_Reverse_byte_byte.bits3 : waitsOk slices_Reverse_byte_byte.T3.2 slices_Reverse_byte_byte.B3 = true := by kernel_rfl
set_option maxHeartbeats 8000000 in
set_option maxRecDepth 100000 in
theorem slices_Reverse_byte_byte.calls (k : Nat) (P0_ : Nat → Prop) (u9000_ : Value) (l0 : List Int) (r : List Int) (w0 w : World) (hB : Below w0.heap.size w0 w) (ho0 : Kd.R (Kd.int .u8) 5 w w0.heap.size P0_ u9000_ l0) (h : slices_Reverse_byte_byte.f k l0 = some r) :
    Calls Tryd.prog 149 #[u9000_] w fun e w' => e = .returned (.tuple #[]) ∧ Kd.R (Kd.int .u8) 5 w' w0.heap.size (fun k_ => (P0_ k_ ∨ w.heap.size ≤ k_)) u9000_ r ∧ Below w0.heap.size w0 w' ∧ Kept w w' (fun k_ => P0_ k_) := by
  have HO0 := Aside0.mk (show Kd.R (Kd.int .u8) 5 w w0.heap.size (fun k_ => (P0_ k_ ∨ w.heap.size ≤ k_)) u9000_ l0 from Kd.R_mono ho0 (fun k_ hk => (.inl hk)))
  have HK := Aside0.mk (Kept.refl w (fun k_ => P0_ k_))
  have HW0 := Aside0.mk hB.size
  have HB := Aside0.mk hB
  clear hB
  have H : (slices_Reverse_byte_byte.l0 k l0 0 (wrap64 ((l0.length : Int) - 1))) = some r := h
  clear h
  have H' := Aside0.mk H
  clear H
  obtain ⟨Ao2, co2, eo2⟩ := Kd.R_slice HO0.out
  subst eo2
  go_enter Tryd.func149, Tryd.ntmps149
  go_wp2
  go_loopg [2, 3] k (fun kq v2 v3 w' => ∃ (x0_1 : List Int) (x2_1 : Int) (x3_1 : Int), v2 = .int .i64 x2_1 ∧ v3 = .int .i64 x3_1 ∧ Aside0 (slices_Reverse_byte_byte.l0 kq x0_1 x2_1 x3_1 = some r) ∧ Aside0 (kq ≤ k) ∧ Aside0 (Kd.R (Kd.int .u8) 5 w' w0.heap.size (fun k_ => (P0_ k_ ∨ w.heap.size ≤ k_)) (.slice Ao2 l0.length co2) x0_1) ∧ Aside0 (Kept w w' (fun k_ => P0_ k_)) ∧ Aside0 (Below w0.heap.size w0 w'))
  case atStart => exact ⟨(l0), (0), (wrap64 ((l0.length : Int) - 1)), (by first | rfl | (simp; done) | (simp [*]; done)), (by first | rfl | (simp; done) | (simp [*]; done)), H', ⟨Nat.le_refl _⟩, ⟨by (with_reducible repeat (first | apply Kd.R_alloc | apply Kd.R_drewN | apply Kd.R_drew)); exact HO0.out⟩, ⟨by repeat (first | (with_reducible first | exact HK.out | apply Kept.alloc | apply Kept.drewN | apply Kept.drew) | exact HK.out)⟩, ⟨by repeat (first | (with_reducible first | exact HB.out | apply below_alloc | apply pw_below_drewN | apply below_drew1) | exact HB.out)⟩⟩
  case round =>
    clear H'
    try clear c1
    try clear p2
    obtain ⟨x0_1, x2_1, x3_1, rfl, rfl, HA, HK1, HO_0, HK, HB⟩ := hrel
    have hl0_1 := (Kd.R_reads' HO_0.out).1
    rw [hl0_1] at HO_0
    (try simp only [hl0_1])
    cases gk with
    | zero => exact absurd HA.out (by simp [slices_Reverse_byte_byte.l0])
    | succ k1 =>
      have H := HA.out
      clear HA
      simp only [slices_Reverse_byte_byte.l0] at H
      by_cases c3 : x2_1 < x3_1
      · rw [if_pos c3] at H
        have c3b0 : decide (x2_1 < x3_1) = true := decide_eq_true c3
        clear c3
        by_cases c4 : 0 ≤ x3_1
        · rw [if_pos c4] at H
          have c4b0 : decide (0 ≤ x3_1) = true := decide_eq_true c4
          clear c4
          by_cases c5 : x3_1 < (x0_1.length : Int)
          · rw [if_pos c5] at H
            have c5b0 : decide (x3_1 < (x0_1.length : Int)) = true := decide_eq_true c5
            clear c5
            by_cases c6 : 0 ≤ x2_1
            · rw [if_pos c6] at H
              have c6b0 : decide (0 ≤ x2_1) = true := decide_eq_true c6
              clear c6
              by_cases c7 : x2_1 < (x0_1.length : Int)
              · rw [if_pos c7] at H
                have c7b0 : decide (x2_1 < (x0_1.length : Int)) = true := decide_eq_true c7
                clear c7
                obtain ⟨y107, hy107⟩ : ∃ y_ : List Int, y_ = (x0_1.set (x2_1 : Int).toNat (rd x0_1 x3_1)) := ⟨_, rfl⟩
                replace H : (slices_Reverse_byte_byte.l0 k1 (y107.set (x3_1 : Int).toNat (rd x0_1 x2_1)) (wrap64 (x2_1 + 1)) (wrap64 (x3_1 - 1))) = some r := by first | (rw [hy107]; with_reducible exact H) | (have H2_ := (Option.bind_some _ _).symm.trans H; rw [hy107]; with_reducible exact H2_) | (have H2_ := (Option.bind_some _ _).symm.trans H; with_reducible exact H2_) | with_reducible exact H | (rw [hy107]; exact H) | exact H
                have Ny107 := Aside0.mk hy107
                clear hy107
                obtain ⟨y108, hy108⟩ : ∃ y_ : List Int, y_ = (y107.set (x3_1 : Int).toNat (rd x0_1 x2_1)) := ⟨_, rfl⟩
                replace H : (slices_Reverse_byte_byte.l0 k1 y108 (wrap64 (x2_1 + 1)) (wrap64 (x3_1 - 1))) = some r := by first | (rw [hy108]; with_reducible exact H) | (have H2_ := (Option.bind_some _ _).symm.trans H; rw [hy108]; with_reducible exact H2_) | (have H2_ := (Option.bind_some _ _).symm.trans H; with_reducible exact H2_) | with_reducible exact H | (rw [hy108]; exact H) | exact H
                have Ny108 := Aside0.mk hy108
                clear hy108
                have H' := Aside0.mk H
                clear H
                try go_wp2
                have n0_ := Aside0.mk (Kd.R_drew HO_0.out)
                have n1_ := Aside0.mk (Kept.drew HK.out)
                have n2_ := Aside0.mk (below_drew1 HB.out)
                clear HO_0
                clear HK
                clear HB
                have HO_0 := n0_
                have HK := n1_
                have HB := n2_
                clear n0_ n1_ n2_
                have p105 : 0 ≤ (x3_1 : Int) := of_decide_eq_true (by first | (with_reducible assumption) | assumption)
                have q105 : x3_1 < (x0_1.length : Int) := of_decide_eq_true (by first | (with_reducible assumption) | assumption)
                obtain ⟨ad105, e105, hx105_0⟩ := Kd.at_int (Kd.R_reads' HO_0.out).2.2 x3_1 p105 q105
                cases e105
                replace p105 := eq_true p105
                replace q105 := eq_true q105
                have p106 : 0 ≤ (x2_1 : Int) := of_decide_eq_true (by first | (with_reducible assumption) | assumption)
                have q106 : x2_1 < (x0_1.length : Int) := of_decide_eq_true (by first | (with_reducible assumption) | assumption)
                obtain ⟨ad106, e106, hx106_0⟩ := Kd.at_int (Kd.R_reads' HO_0.out).2.2 x2_1 p106 q106
                obtain rfl : ad105 = ad106 := (by injection e106)
                replace p106 := eq_true p106
                replace q106 := eq_true q106
                have p8 : 0 ≤ (x2_1 : Int) := of_decide_eq_true (by first | (with_reducible assumption) | assumption)
                have q8 : (x2_1 : Int) < ((x0_1.length : Int) : Int) := of_decide_eq_true (by first | (with_reducible assumption) | assumption)
                obtain ⟨go8, co8, eo8, gb8, gl8, cl8, HG8⟩ := Kd.R_form HO_0.out (by omega)
                (first | cases eo8 | (injection eo8 with ea_ en_ ec_; (first | subst ea_ | (injection ea_ with ea_; subst ea_)); subst ec_; clear en_))
                have GB8 := Aside0.mk gb8
                have GG8 := Aside0.mk HG8
                clear gb8 gl8 HG8
                have HMgo8 := Aside0.mk (show (P0_ go8 ∨ w.heap.size ≤ go8) from (HO_0.out.1 _ rfl))
                (first | simp only [add_plain] at hx105_0 | skip)
                (first | simp only [add_plain] at hx106_0 | skip)
                obtain ⟨hx8_0, hf8_0⟩ := Kd.R_celln 0 HO_0.out (x2_1 : Int) p8 q8
                replace p8 := eq_true p8
                replace q8 := eq_true q8
                have HP11 := Kd.R_putn HO_0.out (x2_1 : Int) (rd x0_1 x3_1)
                rw [← Ny107.out] at HP11
                have HQ11 := Aside0.mk HP11
                clear HP11
                have p9 : 0 ≤ (x3_1 : Int) := of_decide_eq_true (by first | (with_reducible assumption) | assumption)
                have q9 : (x3_1 : Int) < ((x0_1.length : Int) : Int) := of_decide_eq_true (by first | (with_reducible assumption) | assumption)
                obtain ⟨hx9_0, hf9_0⟩ := Kd.R_celln 0 HQ11.out (x3_1 : Int) p9 q9
                replace p9 := eq_true p9
                replace q9 := eq_true q9
                have HP12 := Kd.R_putn HQ11.out (x3_1 : Int) (rd x0_1 x2_1)
                rw [← Ny108.out] at HP12
                have HQ12 := Aside0.mk HP12
                clear HP12
                refine start_ (n := 16) (S := fun w' => w'.cell? ⟨go8, (x3_1).toNat, none⟩ = some (.int .u8 (rd x0_1 x3_1)) ∧ w'.cell? ⟨go8, (x2_1).toNat, none⟩ = some (.int .u8 (rd x0_1 x2_1))) (ds := [13, 15]) #[false, false, false, false, false, false, false, false, false, false, false, false, false, false, false, false] (by kernel_rfl) rfl rfl ⟨hx105_0, hx106_0⟩ (fun hHeld => ?_); refine with_tabW slices_Reverse_byte_byte.tab3 slices_Reverse_byte_byte.bits3 (fun HT_ HW_ => ?_)
                generalize wr.drew = w10 at HO_0 HK HB GG8 HQ11 HQ12 hf8_0 hf9_0 hx105_0 hx106_0 hx8_0 hx9_0 hHeld ⊢
                refine pure_ (i := 0) (N := some 14) (v := ?_) (a' := ?_) #[true, false, false, false, false, false, false, false, false, false, false, false, false, false, false, false] rfl rfl (any_of HT_.out (by kernel_rfl)) (fun _ _ _ h => h) (Or.inl ⟨by rfl, ?_⟩) ?_ ?_
                rotate_left
                · intro w'
                  go_simp
                  with_reducible rfl
                rotate_left
                · simp only [Act.put, List.setIfInBounds_toArray, List.set_cons_zero, List.set_cons_succ, i64_w, i32_w]
                  rfl
                refine pure_ (i := 1) (N := some 15) (v := ?_) (a' := ?_) #[true, true, false, false, false, false, false, false, false, false, false, false, false, false, false, false] rfl rfl (any_of HT_.out (by kernel_rfl)) (fun _ _ _ h => h) (Or.inl ⟨by rfl, ?_⟩) ?_ ?_
                rotate_left
                · intro w'
                  go_simp
                  with_reducible rfl
                rotate_left
                · simp only [Act.put, List.setIfInBounds_toArray, List.set_cons_zero, List.set_cons_succ, i64_w, i32_w]
                  rfl
                refine pure_ (i := 2) (N := some 16) (v := ?_) (a' := ?_) #[true, true, true, false, false, false, false, false, false, false, false, false, false, false, false, false] rfl rfl (any_of HT_.out (by kernel_rfl)) (fun _ _ _ h => h) (Or.inl ⟨by rfl, ?_⟩) ?_ ?_
                rotate_left
                · intro w'
                  go_simp
                  with_reducible rfl
                rotate_left
                · simp only [Act.put, List.setIfInBounds_toArray, List.set_cons_zero, List.set_cons_succ, i64_w, i32_w]
                  rfl
                refine pure_ (i := 3) (N := some 17) (v := ?_) (a' := ?_) #[true, true, true, true, false, false, false, false, false, false, false, false, false, false, false, false] rfl rfl (any_of HT_.out (by kernel_rfl)) (fun _ _ _ h => h) (Or.inl ⟨by rfl, ?_⟩) ?_ ?_
                rotate_left
                · intro w'
                  go_simp
                  with_reducible rfl
                rotate_left
                · simp only [Act.put, List.setIfInBounds_toArray, List.set_cons_zero, List.set_cons_succ, i64_w, i32_w]
                  rfl
                refine pure_ (i := 4) (N := some 18) (v := ?_) (a' := ?_) #[true, true, true, true, true, false, false, false, false, false, false, false, false, false, false, false] rfl rfl (any_of HT_.out (by kernel_rfl)) (fun _ _ _ h => h) (Or.inl ⟨by rfl, ?_⟩) ?_ ?_
                rotate_left
                · intro w'
                  go_simp
                  with_reducible rfl
                rotate_left
                · simp only [Act.put, List.setIfInBounds_toArray, List.set_cons_zero, List.set_cons_succ, i64_w, i32_w]
                  rfl
                refine pure_ (i := 5) (N := some 19) (v := ?_) (a' := ?_) #[true, true, true, true, true, true, false, false, false, false, false, false, false, false, false, false] rfl rfl (any_of HT_.out (by kernel_rfl)) (fun _ _ _ h => h) (Or.inl ⟨by rfl, ?_⟩) ?_ ?_
                rotate_left
                · intro w'
                  go_simp
                  with_reducible rfl
                rotate_left
                · simp only [Act.put, List.setIfInBounds_toArray, List.set_cons_zero, List.set_cons_succ, i64_w, i32_w]
                  rfl
                refine pure_ (i := 6) (N := some 20) (v := ?_) (a' := ?_) #[true, true, true, true, true, true, true, false, false, false, false, false, false, false, false, false] rfl rfl (any_of HT_.out (by kernel_rfl)) (fun _ _ _ h => h) (Or.inl ⟨by rfl, ?_⟩) ?_ ?_
                rotate_left
                · intro w'
                  go_simp
                  with_reducible rfl
                rotate_left
                · simp only [Act.put, List.setIfInBounds_toArray, List.set_cons_zero, List.set_cons_succ, i64_w, i32_w]
                  rfl
                refine pure_ (i := 8) (N := some 22) (v := ?_) (a' := ?_) #[true, true, true, true, true, true, true, false, true, false, false, false, false, false, false, false] rfl rfl (any_of HT_.out (by kernel_rfl)) (fun _ _ _ h => h) (Or.inl ⟨by rfl, ?_⟩) ?_ ?_
                rotate_left
                · intro w'
                  go_simp
                  with_reducible rfl
                rotate_left
                · simp only [Act.put, List.setIfInBounds_toArray, List.set_cons_zero, List.set_cons_succ, i64_w, i32_w]
                  rfl
                refine pure_ (i := 9) (N := some 23) (v := ?_) (a' := ?_) #[true, true, true, true, true, true, true, false, true, true, false, false, false, false, false, false] rfl rfl (any_of HT_.out (by kernel_rfl)) (fun _ _ _ h => h) (Or.inl ⟨by rfl, ?_⟩) ?_ ?_
                rotate_left
                · intro w'
                  go_simp
                  with_reducible rfl
                rotate_left
                · simp only [Act.put, List.setIfInBounds_toArray, List.set_cons_zero, List.set_cons_succ, i64_w, i32_w]
                  rfl
                refine pure_ (i := 10) (N := some 24) (v := ?_) (a' := ?_) #[true, true, true, true, true, true, true, false, true, true, true, false, false, false, false, false] rfl rfl (any_of HT_.out (by kernel_rfl)) (fun _ _ _ h => h) (Or.inl ⟨by rfl, ?_⟩) ?_ ?_
                rotate_left
                · intro w'
                  go_simp
                  with_reducible rfl
                rotate_left
                · simp only [Act.put, List.setIfInBounds_toArray, List.set_cons_zero, List.set_cons_succ, i64_w, i32_w]
                  rfl
                refine take_ (i := 7) (N := some 21) (v := ?_) (a' := ?_) #[true, true, true, true, true, true, true, true, true, true, true, false, false, false, false, false] rfl rfl (take_ofW HT_.out HW_.out (by kernel_rfl)) (fun _ _ _ h => h) (Or.inl ⟨by rfl, ?_⟩) hHeld ?_ ?_
                rotate_left
                · rintro w' ⟨s0, s1⟩
                  go_simp
                  with_reducible rfl
                rotate_left
                · simp only [Act.put, List.setIfInBounds_toArray, List.set_cons_zero, List.set_cons_succ, i64_w, i32_w]
                  rfl
                refine take_ (i := 11) (N := some 25) (v := ?_) (a' := ?_) #[true, true, true, true, true, true, true, true, true, true, true, true, false, false, false, false] rfl rfl (take_ofW HT_.out HW_.out (by kernel_rfl)) (fun _ _ _ h => h) (Or.inl ⟨by rfl, ?_⟩) hHeld ?_ ?_
                rotate_left
                · rintro w' ⟨s0, s1⟩
                  go_simp
                  with_reducible rfl
                rotate_left
                · simp only [Act.put, List.setIfInBounds_toArray, List.set_cons_zero, List.set_cons_succ, i64_w, i32_w]
                  rfl
                refine pure_ (i := 12) (N := some 26) (v := ?_) (a' := ?_) #[true, true, true, true, true, true, true, true, true, true, true, true, true, false, false, false] rfl rfl (any_of HT_.out (by kernel_rfl)) (fun _ _ _ h => h) (Or.inl ⟨by rfl, ?_⟩) ?_ ?_
                rotate_left
                · intro w'
                  go_simp
                  with_reducible rfl
                rotate_left
                · simp only [Act.put, List.setIfInBounds_toArray, List.set_cons_zero, List.set_cons_succ, i64_w, i32_w]
                  rfl
                refine last_ (i := 13) (N := none) #[true, true, true, true, true, true, true, true, true, true, true, true, true, true, false, false] rfl rfl (one_of HT_.out (by kernel_rfl)) (by decide) (fun K hK => ?_)
                refine skip_ (w1 := ?_) (by rfl) rfl ?_ ?_
                rotate_left
                · go_simp
                  rfl
                refine hK.out _ _ ?_
                clear hK K
                refine pure_ (i := 14) (N := some 27) (v := ?_) (a' := ?_) #[true, true, true, true, true, true, true, true, true, true, true, true, true, true, true, false] rfl rfl (any_of HT_.out (by kernel_rfl)) (fun _ _ _ h => h) (Or.inl ⟨by rfl, ?_⟩) ?_ ?_
                rotate_left
                · intro w'
                  go_simp
                  with_reducible rfl
                rotate_left
                · simp only [Act.put, List.setIfInBounds_toArray, List.set_cons_zero, List.set_cons_succ, i64_w, i32_w]
                  rfl
                refine last_ (i := 15) (N := none) #[true, true, true, true, true, true, true, true, true, true, true, true, true, true, true, true] rfl rfl (one_of HT_.out (by kernel_rfl)) (by decide) (fun K hK => ?_)
                refine skip_ (w1 := ?_) (by rfl) rfl ?_ ?_
                rotate_left
                · go_simp
                  rfl
                refine hK.out _ _ ?_
                clear hK K
                refine done_ (done_of HT_.out (by kernel_rfl)) ?_
                try go_wp2
                (try simp only [← hl0_1])
                go_roundg k1
                case measure => have := HK1.out; omega
                case rel => exact ⟨(y108), (wrap64 (x2_1 + 1)), (wrap64 (x3_1 - 1)), (by first | rfl | (simp; done) | (simp [*]; done)), (by first | rfl | (simp; done) | (simp [*]; done)), H', ⟨by have := HK1.out; omega⟩, ⟨by (try simp only [hl0_1]); (with_reducible repeat (first | apply Kd.R_alloc | apply Kd.R_drewN | apply Kd.R_drew)); exact HQ12.out⟩, ⟨by repeat (first | (with_reducible first | exact HK.out | apply Kept.alloc | apply Kept.drewN | apply Kept.drew | refine Kept.setCell ?_ HMgo8.out _ | refine Kept.setCell ?_ HMgo8.out _) | exact HK.out)⟩, ⟨by repeat (first | (with_reducible first | exact HB.out | apply below_alloc | apply pw_below_drewN | apply below_drew1 | refine below_set ?_ GB8.out | refine below_set ?_ GB8.out) | exact HB.out)⟩⟩
              · rw [if_neg c7] at H
                exact absurd H (by simp)
            · rw [if_neg c6] at H
              exact absurd H (by simp)
          · rw [if_neg c5] at H
            exact absurd H (by simp)
        · rw [if_neg c4] at H
          exact absurd H (by simp)
      · rw [if_neg c3] at H
        have c3b0 : decide (x2_1 < x3_1) = false := decide_eq_false c3
        clear c3
        obtain rfl := Option.some.inj H
        go_wp2
        first | go_end0 | ((try simp only [Exit.inBlock, Exit.then]); refine bodyPost_ret (results_none rfl _ _ _) rfl ?_)
        exact ⟨by first | rfl | (simp [errW_none, errW_some] <;> rfl) | (simp [*, errW_none, errW_some] <;> rfl), (by first | exact (by (with_reducible repeat (first | apply Kd.R_alloc | apply Kd.R_drewN | apply Kd.R_drew)); exact HO_0.out) | (simp only [hl0_1]; exact (by (with_reducible repeat (first | apply Kd.R_alloc | apply Kd.R_drewN | apply Kd.R_drew)); exact HO_0.out))), by repeat (first | (with_reducible first | exact HB.out | apply below_alloc | apply pw_below_drewN | apply below_drew1) | exact HB.out), by repeat (first | (with_reducible first | exact HK.out | apply Kept.alloc | apply Kept.drewN | apply Kept.drew) | exact HK.out)⟩

-- NOT PRINTED: function 115 (octet_Put)

-- NOT PRINTED: function 59 (value_content)

-- NOT PRINTED: function 25 (value_Bytes)

end Go.Proofs.YtcjidlgmbjebjaaDoor.PValueForms
