import Derived.Test.YtcjidlgmbjebjaaDoorAskBn
set_option linter.unusedVariables false
set_option linter.unusedSimpArgs false
set_option maxRecDepth 100000
namespace Go.Proofs.YtcjidlgmbjebjaaDoor
open Go Go.RowKit
def WtR (l : List UInt8) (w : World) (a n : Value) (w' : World) : Prop := ∃ i : Nat, i ≤ 3 ∧ n = .int .i64 i ∧ a = .int .i64 (wantOf l i) ∧ w' = w
theorem idx29 (i : Nat) (hi : i < 3) (w : World) : (Instr.index 29 (.agg #[.string ⟨#[105, 110, 116]⟩, .string ⟨#[116, 101, 120, 116]⟩, .string ⟨#[102, 108, 97, 103]⟩]) (.int .i64 i)).run Tryd.prog w = .ok (.string (tyName (i + 1))) w := by
  have h : i = 0 ∨ i = 1 ∨ i = 2 := by omega
  rcases h with rfl | rfl | rfl
  · exact index_arr 29 3 _ 0 0 rfl _ Tryd.underlying29 (by omega) rfl w
  · exact index_arr 29 3 _ 1 1 rfl _ Tryd.underlying29 (by omega) rfl w
  · exact index_arr 29 3 _ 2 2 rfl _ Tryd.underlying29 (by omega) rfl w
set_option maxHeartbeats 16000000 in
theorem asks_walk (n1 : ByteArray) (k1 r1 : Int) (v1 : Value) (cs : List Col) (n2 : ByteArray) (k2 r2 : Int) (v2 : Value) (ds : List Col) (s : ByteArray) (W : World)
    (z1 : n1.size ≤ 9223372036854775807) (z2 : n2.size ≤ 9223372036854775807) (z3 : s.size ≤ 9223372036854775807) (l1 : cs.length ≤ 9223372036854775807) (l2 : ds.length ≤ 9223372036854775807)
    (hcs : ∀ c ∈ cs, c.1.size ≤ 9223372036854775807) (hv1 : ColsV W v1 cs) (hv2 : ColsV W v2 ds) (ht : TypesAt W) (hf : FormsAt W) (hpw : PowIs W) :
    Calls Tryd.prog 3 #[schV n1 k1 r1 v1, schV n2 k2 r2 v2, .string s] W (RetBool true W) := by
  obtain ⟨p1, q1, c1, rfl⟩ := colsV_shape hv1
  obtain ⟨p2, q2, c2, rfl⟩ := colsV_shape hv2
  have HV1 := Lib.hid hv1; clear hv1
  have HV2 := Lib.hid hv2; clear hv2
  have HT := Lib.hid ht; clear ht
  have HF := Lib.hid hf; clear hf
  have HW := Lib.hid hpw; clear hpw
  have HL := Lib.hid (fun (w' : World) (h : Below W.heap.size W w') => lives_val w' (types_stays HT.out h) (forms_stays HF.out h) (pow_stays HW.out h))
  have HS := Lib.hid hcs; clear hcs
  have HA := Lib.hid (fun (w' : World) (h : Below W.heap.size W w') => light_val n1 k1 r1 _ cs w' z1 l1 (colsV_stays HV1.out h))
  have HB := Lib.hid (fun (w' : World) (h : Below W.heap.size W w') => light_val n2 k2 r2 _ ds w' z2 l2 (colsV_stays HV2.out h))
  unfold schV at HA HB ⊢
  go_enter Tryd.func3, Tryd.ntmps3
  go_wp2_with fail
  refine (HA.out _ (by go_grown)).mono ?_
  rintro e w1 ⟨b1, rfl, hb1, hb⟩
  have x0 := cell_later (v := .string n2) hb (show World.cell? _ ⟨W.heap.size + 1, 0, none⟩ = some (.string n2) from by go_cell)
  have x1 := cell_later (v := .int .i64 k2) hb (show World.cell? _ ⟨W.heap.size + 1, 1, none⟩ = some (.int .i64 k2) from by go_cell)
  have x2 := cell_later (v := .int .i64 r2) hb (show World.cell? _ ⟨W.heap.size + 1, 2, none⟩ = some (.int .i64 r2) from by go_cell)
  have x3 := cell_later (v := .slice p2 q2 c2) hb (show World.cell? _ ⟨W.heap.size + 1, 3, none⟩ = some (.slice p2 q2 c2) from by go_cell)
  have y0 := cell_later (v := .string n1) hb (show World.cell? _ ⟨W.heap.size, 0, none⟩ = some (.string n1) from by go_cell)
  have y1 := cell_later (v := .int .i64 k1) hb (show World.cell? _ ⟨W.heap.size, 1, none⟩ = some (.int .i64 k1) from by go_cell)
  have y2 := cell_later (v := .int .i64 r1) hb (show World.cell? _ ⟨W.heap.size, 2, none⟩ = some (.int .i64 r1) from by go_cell)
  have y3 := cell_later (v := .slice p1 q1 c1) hb (show World.cell? _ ⟨W.heap.size, 3, none⟩ = some (.slice p1 q1 c1) from by go_cell)
  have hB1 := below_step (show Below W.heap.size W _ from by go_grown) hb
  clear hb
  cases b1 with
  | false =>
    clear hb1
    dsimp only
    go_wp2_with fail
    refine (HL.out _ hB1).mono ?_
    rintro e w2 ⟨rfl, hb⟩
    have hB2 := below_step hB1 hb
    clear hb
    dsimp only
    go_wp2_with fail
    go_ret
    exact ⟨rfl, hB2⟩
  | true =>
  have hl1 := hb1 rfl
  clear hb1
  dsimp only
  go_wp2_with fail
  refine (HB.out _ hB1).mono ?_
  rintro e w2 ⟨b2, rfl, hb2, hb⟩
  have hB2 := below_step hB1 hb
  have x0 := cell_later hb x0
  have x1 := cell_later hb x1
  have x2 := cell_later hb x2
  have x3 := cell_later hb x3
  have y0 := cell_later hb y0
  have y1 := cell_later hb y1
  have y2 := cell_later hb y2
  have y3 := cell_later hb y3
  clear hb
  cases b2 with
  | false =>
    clear hb2
    dsimp only
    go_wp2_with fail
    refine (HL.out _ hB2).mono ?_
    rintro e w3 ⟨rfl, hb⟩
    have hB3 := below_step hB2 hb
    clear hb
    dsimp only
    go_wp2_with fail
    go_ret
    exact ⟨rfl, hB3⟩
  | true =>
  have hl2 := hb2 rfl
  clear hb2
  dsimp only
  by_cases hs : 500 < s.size
  · go_wp2_with fail
    refine (HL.out _ hB2).mono ?_
    rintro e w3 ⟨rfl, hb⟩
    have hB3 := below_step hB2 hb
    clear hb
    dsimp only
    go_wp2_with fail
    go_ret
    exact ⟨rfl, hB3⟩
  have hs5 : s.size ≤ 500 := by omega
  clear hs
  go_wp2_with fail
  refine (type_val s w2 (types_stays HT.out hB2)).mono ?_
  rintro e w3 ⟨rfl, rfl⟩
  dsimp only
  go_wp2_with fail
  go_loopw [9, 33] (fun a n w' => WtR s.toList w3 a n w') (fun _ n _ => 3 - (intOf n).toNat)
  case atStart => exact ⟨0, by omega, rfl, rfl, rfl⟩
  case round =>
    obtain ⟨i, hi, rfl, rfl, rfl⟩ := hrel
    by_cases hp : i < 3
    · have h3 : i = 0 ∨ i = 1 ∨ i = 2 := by omega
      rcases h3 with rfl | rfl | rfl
      · have hx := fun w => index_arr 29 3 #[.string ⟨#[105, 110, 116]⟩, .string ⟨#[116, 101, 120, 116]⟩, .string ⟨#[102, 108, 97, 103]⟩] 0 0 rfl _ Tryd.underlying29 (by omega) rfl w
        by_cases hl : s.toList = [105, 110, 116]
        · have HR := Lib.hid (show wantOf s.toList 1 = 1 by show (if s.toList = [105, 110, 116] then (1 : Int) else _) = _; rw [if_pos hl])
          have hl2 := beq_yes hl.symm
          clear hl
          go_wp2_with fail
          exact ⟨⟨1, by omega, rfl, by rw [HR.out], rfl⟩, by simp [intOf]⟩
        · have HR := Lib.hid (show wantOf s.toList 1 = wantOf s.toList 0 by show (if s.toList = [105, 110, 116] then _ else _) = _; rw [if_neg hl]; rfl)
          have hl2 := beq_no (fun h => hl h.symm)
          clear hl
          go_wp2_with fail
          exact ⟨⟨1, by omega, rfl, by rw [HR.out], rfl⟩, by simp [intOf]⟩
      · have hx := fun w => index_arr 29 3 #[.string ⟨#[105, 110, 116]⟩, .string ⟨#[116, 101, 120, 116]⟩, .string ⟨#[102, 108, 97, 103]⟩] 1 1 rfl _ Tryd.underlying29 (by omega) rfl w
        by_cases hl : s.toList = [116, 101, 120, 116]
        · have HR := Lib.hid (show wantOf s.toList 2 = 2 by show (if s.toList = [116, 101, 120, 116] then (2 : Int) else _) = _; rw [if_pos hl])
          have hl2 := beq_yes hl.symm
          clear hl
          go_wp2_with fail
          exact ⟨⟨2, by omega, rfl, by rw [HR.out], rfl⟩, by simp [intOf]⟩
        · have HR := Lib.hid (show wantOf s.toList 2 = wantOf s.toList 1 by show (if s.toList = [116, 101, 120, 116] then _ else _) = _; rw [if_neg hl]; rfl)
          have hl2 := beq_no (fun h => hl h.symm)
          clear hl
          go_wp2_with fail
          exact ⟨⟨2, by omega, rfl, by rw [HR.out], rfl⟩, by simp [intOf]⟩
      · have hx := fun w => index_arr 29 3 #[.string ⟨#[105, 110, 116]⟩, .string ⟨#[116, 101, 120, 116]⟩, .string ⟨#[102, 108, 97, 103]⟩] 2 2 rfl _ Tryd.underlying29 (by omega) rfl w
        by_cases hl : s.toList = [102, 108, 97, 103]
        · have HR := Lib.hid (show wantOf s.toList 3 = 3 by show (if s.toList = [102, 108, 97, 103] then (3 : Int) else _) = _; rw [if_pos hl])
          have hl2 := beq_yes hl.symm
          clear hl
          go_wp2_with fail
          exact ⟨⟨3, by omega, rfl, by rw [HR.out], rfl⟩, by simp [intOf]⟩
        · have HR := Lib.hid (show wantOf s.toList 3 = wantOf s.toList 2 by show (if s.toList = [102, 108, 97, 103] then _ else _) = _; rw [if_neg hl]; rfl)
          have hl2 := beq_no (fun h => hl h.symm)
          clear hl
          go_wp2_with fail
          exact ⟨⟨3, by omega, rfl, by rw [HR.out], rfl⟩, by simp [intOf]⟩
    · obtain rfl : i = 3 := by omega
      rw [wantOf_3]
      have hC1 := colsV_stays HV1.out hB2
      have hC2 := colsV_stays HV2.out hB2
      have HP := Lib.hid (fun w h => plain_val n1 k1 r1 (.slice p1 q1 c1) cs w hl1 h)
      unfold schV at HP
      go_wp2_with fail
      refine (HP.out _ hC1).mono ?_
      rintro e w4 ⟨vp, rfl, hC3, hb⟩
      obtain ⟨p3, q3, c3, rfl⟩ := colsV_shape hC3
      have hB4 := below_step hB2 hb
      have x0 := cell_later hb x0
      have x1 := cell_later hb x1
      have x2 := cell_later hb x2
      have x3 := cell_later hb x3
      have y0 := cell_later hb y0
      have y1 := cell_later hb y1
      have y2 := cell_later hb y2
      have y3 := cell_later hb y3
      have hC1 := colsV_stays hC1 hb
      have hC2 := colsV_stays hC2 hb
      clear hb HP HA HB
      have hzw := cell_lt x0
      have hal := (Below.refl w4.heap.size w4).alloc (Nat.le_refl _) (.cells #[.string n1, .int .i64 k1, .int .i64 r1, .slice p3 q3 c3] 32)
      have hC1 := colsV_stays hC1 hal
      have hC2 := colsV_stays hC2 hal
      have hC3 := colsV_stays hC3 hal
      have hB5 := below_step hB4 hal
      clear hal
      have HG15 := Lib.hid (fun w h => sgood_val n1 k1 r1 (.slice p1 q1 c1) cs w z1 HS.out hl1 h)
      have HG16 := Lib.hid (fun w h => srefgood_val n1 k1 r1 (.slice p3 q3 c3) cs w z1 HS.out hl1 h)
      have HG19 := Lib.hid (fun w h1 h2 => same_val n1 k1 r1 (.slice p1 q1 c1) cs n2 k2 r2 (.slice p2 q2 c2) ds w hl1 hl2 h1 h2)
      have HG14 := Lib.hid (fun w h => plain_val n2 k2 r2 (.slice p2 q2 c2) ds w hl2 h)
      have HG20 := Lib.hid (fun w v h1 h2 => refsame_val n1 k1 r1 (.slice p3 q3 c3) cs n2 k2 r2 v ds w hl1 hl2 h1 h2)
      unfold schV at HG15 HG16 HG19 HG14 HG20
      dsimp only
      go_wp2_with fail
      go_region_held3 (fun w' => w'.cell? ⟨W.heap.size, 0, none⟩ = some (.string n1) ∧ w'.cell? ⟨W.heap.size, 1, none⟩ = some (.int .i64 k1) ∧ w'.cell? ⟨W.heap.size, 2, none⟩ = some (.int .i64 r1) ∧ w'.cell? ⟨W.heap.size, 3, none⟩ = some (.slice p1 q1 c1) ∧
          w'.cell? ⟨W.heap.size + 1, 0, none⟩ = some (.string n2) ∧ w'.cell? ⟨W.heap.size + 1, 1, none⟩ = some (.int .i64 k2) ∧ w'.cell? ⟨W.heap.size + 1, 2, none⟩ = some (.int .i64 r2) ∧ w'.cell? ⟨W.heap.size + 1, 3, none⟩ = some (.slice p2 q2 c2) ∧
          w'.cell? ⟨w4.heap.size, 0, none⟩ = some (.string n1) ∧ w'.cell? ⟨w4.heap.size, 1, none⟩ = some (.int .i64 k1) ∧ w'.cell? ⟨w4.heap.size, 2, none⟩ = some (.int .i64 r1) ∧ w'.cell? ⟨w4.heap.size, 3, none⟩ = some (.slice p3 q3 c3) ∧
          ColsV w' (.slice p1 q1 c1) cs ∧ ColsV w' (.slice p2 q2 c2) ds ∧ ColsV w' (.slice p3 q3 c3) cs ∧ Below W.heap.size W w')
        (first
          | (go_keep; done)
          | ((repeat' apply And.intro) <;> first | (go_keep; done) | (go_cell; done) | (rw [World.cell?_drew]; go_cell; done) | (exact colsV_drew hC1) | (exact colsV_drew hC2) | (exact colsV_drew hC3) | (exact below_drew hB5))
          | (go_split_ands; (repeat' apply And.intro) <;> first | (exact cell_later hb1 (by assumption)) | (exact colsV_stays (by assumption) hb1) | (exact below_step (by assumption) hb1)))
        (first
          | (go_at_call 15; go_split_ands; refine (HG15.out _ (by assumption)).mono ?_; rintro e w1 ⟨rfl, hb1⟩)
          | (go_at_call 16; go_split_ands; refine (HG16.out _ (by assumption)).mono ?_; rintro e w1 ⟨rfl, hb1⟩)
          | (go_at_call 17; refine (name_val s _ z3).mono ?_; rintro e w1 ⟨rfl, hb1⟩)
          | (go_at_call 18; refine (refname_val s _ z3).mono ?_; rintro e w1 ⟨rfl, hb1⟩)
          | (go_at_call 19; go_split_ands; refine (HG19.out _ (by assumption) (by assumption)).mono ?_; rintro e w1 ⟨rfl, hb1⟩)
          | (go_at_call 14; go_split_ands; refine (HG14.out _ (by assumption)).mono ?_; rintro e w1 ⟨v5, rfl, hC5, hb1⟩)
          | (go_at_call 20; go_split_ands; refine (HG20.out _ _ (by assumption) (by assumption)).mono ?_; rintro e w1 ⟨rfl, hb1⟩))
      rename_i hH
      obtain ⟨g0, g1, g2, g3, g4, g5, g6, g7, g8, g9, g10, g11, hD1, hD2, hD3, hBB⟩ := hH
      clear HG15 HG19 HG14 HG20 hC1 hC2 hC3 hB5 hzw x0 x1 x2 x3 y0 y1 y2 y3
      by_cases hg : goodSch n1 k1 r1 cs = 0
      · obtain ⟨f1, f2, f3, f4⟩ := good_facts hg
        have HG21 := Lib.hid (fun w hb h => text_val n1 k1 r1 (.slice p1 q1 c1) cs w f1 f2 f3 (fun c hc => (f4 c hc).1) hl1 h (types_stays HT.out hb) (forms_stays HF.out hb) (pow_stays HW.out hb))
        have HG22 := Lib.hid (fun w h => reftext_val n1 k1 r1 (.slice p3 q3 c3) cs w f1 f2 f3 f4 hl1 h)
        unfold schV at HG21 HG22
        have HG16 := HG16.out
        rw [hg] at HG16
        have HG16 := Lib.hid HG16
        clear f1 f2 f3 f4 hg
        go_wp2_with fail
        go_region_held3 (fun w' => w'.cell? ⟨W.heap.size, 0, none⟩ = some (.string n1) ∧ w'.cell? ⟨W.heap.size, 1, none⟩ = some (.int .i64 k1) ∧ w'.cell? ⟨W.heap.size, 2, none⟩ = some (.int .i64 r1) ∧ w'.cell? ⟨W.heap.size, 3, none⟩ = some (.slice p1 q1 c1) ∧
          w'.cell? ⟨W.heap.size + 1, 0, none⟩ = some (.string n2) ∧ w'.cell? ⟨W.heap.size + 1, 1, none⟩ = some (.int .i64 k2) ∧ w'.cell? ⟨W.heap.size + 1, 2, none⟩ = some (.int .i64 r2) ∧ w'.cell? ⟨W.heap.size + 1, 3, none⟩ = some (.slice p2 q2 c2) ∧
          w'.cell? ⟨w4.heap.size, 0, none⟩ = some (.string n1) ∧ w'.cell? ⟨w4.heap.size, 1, none⟩ = some (.int .i64 k1) ∧ w'.cell? ⟨w4.heap.size, 2, none⟩ = some (.int .i64 r1) ∧ w'.cell? ⟨w4.heap.size, 3, none⟩ = some (.slice p3 q3 c3) ∧
          ColsV w' (.slice p1 q1 c1) cs ∧ ColsV w' (.slice p2 q2 c2) ds ∧ ColsV w' (.slice p3 q3 c3) cs ∧ Below W.heap.size W w')
          (first
            | (go_keep; done)
            | ((repeat' apply And.intro) <;> first | (go_keep; done) | (go_cell; done) | (rw [World.cell?_drew]; assumption) | (exact colsV_drew hD1) | (exact colsV_drew hD2) | (exact colsV_drew hD3) | (exact below_drew hBB))
            | (go_split_ands; (repeat' apply And.intro) <;> first | (exact cell_later hb1 (by assumption)) | (exact colsV_stays (by assumption) hb1) | (exact below_step (by assumption) hb1)))
          (first
            | (go_at_call 16; go_split_ands; refine (HG16.out _ (by assumption)).mono ?_; rintro e w1 ⟨rfl, hb1⟩)
            | (go_at_call 21; go_split_ands; refine (HG21.out _ (by assumption) (by assumption)).mono ?_; rintro e w1 ⟨rfl, hb1⟩)
            | (go_at_call 22; go_split_ands; refine (HG22.out _ (by assumption)).mono ?_; rintro e w1 ⟨rfl, hb1⟩)
            | (go_at_call 12; go_split_ands; refine (HL.out _ (by assumption)).mono ?_; rintro e w1 ⟨rfl, hb1⟩))
        rename_i hH
        have hfin : Below W.heap.size W _ := hH.2.2.2.2.2.2.2.2.2.2.2.2.2.2.2
        clear hH
        go_wp2_with fail
        go_ret
        exact ⟨rfl, hfin⟩
      · have hgb : (goodSch n1 k1 r1 cs != 0) = true := by rw [bne_iff_ne]; exact hg
        clear hg
        go_wp2_with fail
        have hD3' := colsV_drew hD3
        have hBB' := below_drew hBB
        go_region_with (first
          | (go_at_call 16; refine (HG16.out _ hD3').mono ?_; rintro e w5 ⟨rfl, hb5⟩)
          | (go_at_call 12; refine (HL.out _ (below_step hBB' hb5)).mono ?_; rintro e w6 ⟨rfl, hb6⟩))
        all_goals
          go_wp2_with fail
          go_ret
          exact ⟨rfl, below_step (below_step hBB' hb5) hb6⟩
end Go.Proofs.YtcjidlgmbjebjaaDoor
