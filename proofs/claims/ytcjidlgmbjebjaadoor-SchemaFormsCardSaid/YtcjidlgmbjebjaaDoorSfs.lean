/- A part of the proof of SchemaForms. -/
import Derived.Test.YtcjidlgmbjebjaaDoorSfn
set_option linter.unusedVariables false
set_option linter.unusedSimpArgs false
set_option maxRecDepth 100000
namespace Go.Proofs.YtcjidlgmbjebjaaDoor
open Go Go.RowKit Go.Proofs.YtcjidlgmbjebjaaDoorW.PrintWords
set_option maxHeartbeats 16000000 in
theorem parse_val (v0 : Value) (l : List Int) (hb : Byt l) (hl : l.length ≤ 100000) (W : World) (hv : SlB W v0 l) : Calls Tryd.prog 38 #[v0] W (RetPe l W) := by
  have hmf : ∀ (fn : Fn) (first cap : Array Value) (w : World), (Instr.makeFunc fn first cap).run Tryd.prog w = .ok (.func fn first cap) w := fun _ _ _ _ => rfl
  have HV := Lib.hid hv
  obtain ⟨A0, c0, rfl, hc0, _⟩ := hv
  generalize hM : l.length = M0 at HV hc0
  have HM := Lib.hid hM
  have HR := Lib.hid (fun w h => read_val (.slice A0 M0 c0) l w h (by omega))
  have HNO := Lib.hid (fun w => boxnone_val w)
  unfold boxV at HNO
  obtain ⟨i0, hi, hz0, hz1, hz2⟩ := info_parts colinfo90
  go_enter Tryd.func38, Tryd.ntmps38
  go_wp2_with fail
  refine (HR.out _ (slb_alloc HV.out _)).mono ?_
  rintro e w1 ⟨p, rfl, hp, hs, hbl⟩
  have hpl := src_lt hs
  have hrb := blk_below (show BlkAt (W.alloc (.cells (entL zeroE nilS) 67)) W.heap.size (entL zeroE nilS) 67 from hp_new _ _ _ rfl) hbl
  have hB1 := below_step (show Below W.heap.size W _ from (Below.refl W.heap.size W).alloc (Nat.le_refl _) _) hbl
  have hpW : W.heap.size < p := by simp at hp; omega
  have hs1 := src_alloc hs (.cells #[.pointer (some ⟨p, 0, none⟩)] 112)
  have hqb : BlkAt (w1.alloc (.cells #[.pointer (some ⟨p, 0, none⟩)] 112)) w1.heap.size #[.pointer (some ⟨p, 0, none⟩)] 112 := hp_new _ _ _ rfl
  have hrb1 := blk_alloc hrb (.cells #[.pointer (some ⟨p, 0, none⟩)] 112)
  have hB2 := hB1.alloc hB1.size (.cells #[.pointer (some ⟨p, 0, none⟩)] 112)
  clear hs hbl hp hrb hB1
  dsimp only
  go_wp2_with fail
  refine (HNO.out _).mono ?_
  rintro e w2 ⟨rfl, hbn⟩
  have hq2 : w1.heap.size < w2.heap.size := by have := hbn.size; simp at this; omega
  obtain ⟨n⟩ : Nonempty (PN W W.heap.size w1.heap.size p w2.heap.size (w2.heap.size + 1)) := ⟨⟨by omega, by omega, by omega, by omega, by omega, by omega, by omega, by omega, by omega, by omega, by omega, by omega, by omega⟩⟩
  have HP0 := Lib.hid (show PS W W.heap.size w1.heap.size p w2.heap.size (w2.heap.size + 1) (0, l) { zeroE with bn := true } nilS (w2.alloc (.cells (entL { zeroE with bn := true } nilS) 67)) from
    ⟨src_alloc (src_below hs1 hbn) _, blk_alloc (blk_below hqb hbn) _, hp_new _ _ _ rfl, blk_alloc (blk_below hrb1 hbn) _, World.ownsRow_nil _ _ _ _, (below_step hB2 hbn).alloc (below_step hB2 hbn).size _, by simp⟩)
  clear hs1 hqb hrb1 hB2 hbn
  have I0 : Inv (0, l) := ⟨hb, by show l.length ≤ _; omega⟩
  obtain ⟨nm, s1, q1⟩ : ∃ nm s1, Sb.sName (0, l) = (nm, s1) := ⟨_, _, rfl⟩
  have I1 := inv_name I0
  have hnm := name_size I0
  have HC1 := Lib.hid (name1_val w1.heap.size p (0, l) I0.1 I0.2 _ HP0.out.src n.pq.symm (blk_cell HP0.out.qb 0 _ rfl))
  rw [q1] at I1 hnm HC1
  dsimp only at I1 hnm HC1
  dsimp only
  go_wp2_with fail
  refine HC1.out.mono ?_
  rintro e w3 ⟨rfl, hsx, hkx⟩
  have HP1 := Lib.hid (HP0.out.op n hsx hkx)
  have cE : w3.cell? ⟨w2.heap.size, 0, none⟩ = some (.string ⟨#[]⟩) := blk_cell HP1.out.eb 0 _ rfl
  have fE : w3.frozen? ⟨w2.heap.size, 0, none⟩ = false := Lib.frozen_of_heap HP1.out.eb 0
  have zq : w3.cell? ⟨w1.heap.size, 0, none⟩ = some (.pointer (some ⟨p, 0, none⟩)) := blk_cell HP1.out.qb 0 _ rfl
  clear hsx hkx
  dsimp only
  go_wp2_with fail
  have HS1 := Lib.hid (show PS W W.heap.size w1.heap.size p w2.heap.size (w2.heap.size + 1) s1 (⟨nm, 0, 0, [], 0, 0, 0, 0, 0, 0, 0, true, 0, 0, 0, 0⟩ : Ent) nilS (w3.setCell ⟨w2.heap.size, 0, none⟩ (.string nm)) from HP1.out.set n 0 _ rfl rfl)
  obtain ⟨kd, s2, q2⟩ : ∃ kd s2, Sb.sByte s1 = (kd, s2) := ⟨_, _, rfl⟩
  have I2 := inv_byte I1
  have hkd := (be_one I1.1).2
  have HC2 := Lib.hid (byte_val p s1 I1.1 _ HS1.out.src)
  rw [q2] at I2 hkd HC2
  dsimp only at I2 hkd HC2
  have hwk : IntKind.i64.wrap kd = kd := by rw [IntKind.wrap_i64]; omega
  refine HC2.out.mono ?_
  rintro e w4 ⟨rfl, hsx, hkx⟩
  have HP2 := Lib.hid (HS1.out.op n hsx hkx)
  clear cE fE zq hsx hkx
  have cE : w4.cell? ⟨w2.heap.size, 1, none⟩ = some (.int .i64 0) := blk_cell HP2.out.eb 1 _ rfl
  have fE : w4.frozen? ⟨w2.heap.size, 1, none⟩ = false := Lib.frozen_of_heap HP2.out.eb 1
  dsimp only
  go_wp2_with fail
  have HS2 := Lib.hid (show PS W W.heap.size w1.heap.size p w2.heap.size (w2.heap.size + 1) s2 (⟨nm, kd, 0, [], 0, 0, 0, 0, 0, 0, 0, true, 0, 0, 0, 0⟩ : Ent) nilS (w4.setCell ⟨w2.heap.size, 1, none⟩ (.int .i64 kd)) from HP2.out.set n 1 _ rfl rfl)
  obtain ⟨srs, s3, q3⟩ : ∃ srs s3, Sb.sInt s2 = (srs, s3) := ⟨_, _, rfl⟩
  have I3 := inv_int I2
  have HC3 := Lib.hid (num1p_val w1.heap.size p s2 I2.1 _ HS2.out.src (blk_cell HS2.out.qb 0 _ rfl))
  rw [q3] at I3 HC3
  dsimp only at I3 HC3
  refine HC3.out.mono ?_
  rintro e w5 ⟨rfl, hsx, hkx⟩
  have HP3 := Lib.hid (HS2.out.op n hsx hkx)
  clear cE fE hsx hkx hwk
  have cE : w5.cell? ⟨w2.heap.size, 2, none⟩ = some (.int .i64 0) := blk_cell HP3.out.eb 2 _ rfl
  have fE : w5.frozen? ⟨w2.heap.size, 2, none⟩ = false := Lib.frozen_of_heap HP3.out.eb 2
  have zq : w5.cell? ⟨w1.heap.size, 0, none⟩ = some (.pointer (some ⟨p, 0, none⟩)) := blk_cell HP3.out.qb 0 _ rfl
  dsimp only
  go_wp2_with fail
  have HS3 := Lib.hid (show PS W W.heap.size w1.heap.size p w2.heap.size (w2.heap.size + 1) s3 (⟨nm, kd, srs, [], 0, 0, 0, 0, 0, 0, 0, true, 0, 0, 0, 0⟩ : Ent) nilS (w5.setCell ⟨w2.heap.size, 2, none⟩ (.int .i64 srs)) from HP3.out.set n 2 _ rfl rfl)
  obtain ⟨nc, s4, q4⟩ : ∃ nc s4, Sb.sByte s3 = (nc, s4) := ⟨_, _, rfl⟩
  have I4 := inv_byte I3
  have hnc := (be_one I3.1).2
  have HC4 := Lib.hid (byte_val p s3 I3.1 _ HS3.out.src)
  rw [q4] at I4 hnc HC4
  dsimp only at I4 hnc HC4
  refine HC4.out.mono ?_
  rintro e w6 ⟨rfl, hsx, hkx⟩
  have HP4 := Lib.hid (HS3.out.op n hsx hkx)
  clear cE fE zq hsx hkx
  dsimp only
  go_upto_block 0 with fail
  go_cut [] (fun wx => PcE nm kd srs nc s4 W w1.heap.size p w2.heap.size wx)
  case first =>
    as_aux_lemma =>
    go_wp2_with fail
    go_loopw [8] (fun i w' => PcR nm kd srs nc s4 W w1.heap.size p w2.heap.size i w') (fun i _ => (intOf i).toNat)
    case atStart => exact ⟨nc.toNat, s4, [], nilS, by rw [Int.toNat_of_nonneg hnc.1], by simp; omega, I4, fun c hc => by simp at hc, by simp; omega, by simp, HP4.out⟩
    case round =>
      obtain ⟨m, sr, cs, v, rfl, hm, Ir, hcs, hlen, hco, hps⟩ := hrel
      clear HS1 HS2 HS3 HP0 HP1 HP2 HP3 HP4 HC1 HC2 HC3 HC4
      have HPS := Lib.hid hps
      clear hps
      have zq : wr.cell? ⟨w1.heap.size, 0, none⟩ = some (.pointer (some ⟨p, 0, none⟩)) := blk_cell HPS.out.qb 0 _ rfl
      have HER := Lib.hid (err_val p sr wr HPS.out.src)
      by_cases hgo : 0 < m ∧ sr.1 = 0
      · obtain ⟨hm0, hs0⟩ := hgo
        rw [hs0] at HER
        go_wp2_with fail
        refine HER.out.mono ?_
        rintro e w7 ⟨rfl, rfl⟩
        dsimp only
        go_wp2_with fail
        obtain ⟨cn, t1, r1⟩ : ∃ cn t1, Sb.sName sr = (cn, t1) := ⟨_, _, rfl⟩
        have J1 := inv_name Ir
        have hcn := name_size Ir
        have HD1 := Lib.hid (name1_val w1.heap.size p sr Ir.1 Ir.2 _ HPS.out.src n.pq.symm (blk_cell HPS.out.qb 0 _ rfl))
        rw [r1] at J1 hcn HD1
        dsimp only at J1 hcn HD1
        refine HD1.out.mono ?_
        rintro e w8 ⟨rfl, hsx, hkx⟩
        have HQ0 := Lib.hid (HPS.out.op n hsx hkx)
        have HQ1 := Lib.hid (HQ0.out.alloc n (.cells #[.string cn, .int .i64 0, .bool false] 90))
        have HCB1 := Lib.hid (show BlkAt (w8.alloc (.cells #[.string cn, .int .i64 0, .bool false] 90)) w8.heap.size #[.string cn, .int .i64 0, .bool false] 90 from hp_new _ _ _ rfl)
        clear zq hsx hkx
        have zq : w8.cell? ⟨w1.heap.size, 0, none⟩ = some (.pointer (some ⟨p, 0, none⟩)) := blk_cell HQ0.out.qb 0 _ rfl
        obtain ⟨ck, t2, r2⟩ : ∃ ck t2, Sb.sByte t1 = (ck, t2) := ⟨_, _, rfl⟩
        have J2 := inv_byte J1
        have hck := (be_one J1.1).2
        have HD2 := Lib.hid (byte_val p t1 J1.1 _ HQ1.out.src)
        rw [r2] at J2 hck HD2
        dsimp only at J2 hck HD2
        have hwc : IntKind.i64.wrap ck = ck := by rw [IntKind.wrap_i64]; omega
        have hB8 := HQ0.out.le
        have hlq : w1.heap.size < w8.heap.size := by omega
        dsimp only
        go_wp2_with fail
        refine HD2.out.mono ?_
        rintro e w9 ⟨rfl, hsx, hkx⟩
        have HQ2 := Lib.hid (HQ1.out.op n hsx hkx)
        have HCB2 := Lib.hid (blk_keep HCB1.out hkx (by have := n.lp; omega))
        clear zq hsx hkx
        have cC : w9.cell? ⟨w8.heap.size, 1, none⟩ = some (.int .i64 0) := blk_cell HCB2.out 1 _ rfl
        have fC : w9.frozen? ⟨w8.heap.size, 1, none⟩ = false := Lib.frozen_of_heap HCB2.out 1
        have zq : w9.cell? ⟨w1.heap.size, 0, none⟩ = some (.pointer (some ⟨p, 0, none⟩)) := blk_cell HQ2.out.qb 0 _ rfl
        have hnv : v.ownBlock ≠ some w8.heap.size := fun e => by have := HQ0.out.own.lt _ e; omega
        have HQ3 := Lib.hid (HQ2.out.put n w8.heap.size 1 (.int .i64 ck) (by omega) hnv (nobyte_col HCB2.out))
        have HCB3 := Lib.hid (show BlkAt (w9.setCell ⟨w8.heap.size, 1, none⟩ (.int .i64 ck)) w8.heap.size #[.string cn, .int .i64 ck, .bool false] 90 from heap_setCell_same w9 _ 1 _ _ _ HCB2.out)
        obtain ⟨cx, t3, r3⟩ : ∃ cx t3, Sb.sByte t2 = (cx, t3) := ⟨_, _, rfl⟩
        have J3 := inv_byte J2
        have hcx := (be_one J2.1).2
        have HD3 := Lib.hid (byte_val p t2 J2.1 _ HQ3.out.src)
        rw [r3] at J3 hcx HD3
        dsimp only at J3 hcx HD3
        dsimp only
        go_wp2_with fail
        refine HD3.out.mono ?_
        rintro e w10 ⟨rfl, hsx, hkx⟩
        have HQ4 := Lib.hid (HQ3.out.op n hsx hkx)
        have HCB4 := Lib.hid (blk_keep HCB3.out hkx (by have := n.lp; omega))
        clear zq hsx hkx cC fC hwc
        have d0 : w10.cell? ⟨w8.heap.size, 0, none⟩ = some (.string cn) := blk_cell HCB4.out 0 _ rfl
        have d1 : w10.cell? ⟨w8.heap.size, 1, none⟩ = some (.int .i64 ck) := blk_cell HCB4.out 1 _ rfl
        have d2 : w10.cell? ⟨w8.heap.size, 2, none⟩ = some (.bool false) := blk_cell HCB4.out 2 _ rfl
        have fC : w10.frozen? ⟨w8.heap.size, 2, none⟩ = false := Lib.frozen_of_heap HCB4.out 2
        have hbe : (cx == 1) = decide (cx = 1) := by by_cases h : cx = 1 <;> simp [h]
        obtain ⟨va, vc, rfl⟩ := own_shape HQ4.out.own
        have e3 : w10.cell? ⟨w2.heap.size, 3, none⟩ = some (.slice va cs.length vc) := blk_cell HQ4.out.eb 3 _ rfl
        have hE8 := n.lE
        have HQ5 := Lib.hid (HQ4.out.put n w8.heap.size 2 (.bool (decide (cx = 1))) (by omega) hnv (nobyte_col HCB4.out))
        have hl10 : w8.heap.size < w10.heap.size := blk_lt HCB4.out
        have hwm : IntKind.u8.wrap ((m : Int) - 1) = ((m - 1 : Nat) : Int) := by rw [IntKind.wrap_u8]; omega
        have HEQ := Lib.hid (show Sb.sCols m sr = ((cn, ck, decide (cx = 1)) :: (Sb.sCols (m - 1) t3).1, (Sb.sCols (m - 1) t3).2) by
          obtain ⟨m', rfl⟩ : ∃ m', m = m' + 1 := ⟨m - 1, by omega⟩
          rw [Sb.sCols, if_pos hs0]
          have hc : Sb.sCol sr = ((cn, ck, decide (cx = 1)), t3) := by unfold Sb.sCol; simp only [r1, r2, r3]
          rw [hc]; rfl)
        dsimp only
        go_wp2_with (at_builtin; refine wpList_append_own _ rfl _ _ 22 rfl (w2.heap.size + 1) 90 i0 _ 3 32 Tryd.underlying22 hi hz0 hz1 hz2 rfl (by decide) _ _ _ rfl (HQ5.out.own.alloc _) ⟨w10.heap.size, 0, none⟩ 1 1 [.string cn, .int .i64 ck, .bool (decide (cx = 1))] rfl rfl ?d1 ?c2 ?c3 ?c4 ?c5 ?_)
        case c2 => exact ⟨rfl, rfl, rfl⟩
        case c3 => unfold maxLen; omega
        case c4 => omega
        case c5 => have := HQ4.out.le; simp [World.setCell]; omega
        intro v' w11 hown' hgrow _
        obtain ⟨va2, vc2, rfl⟩ := own_shape hown'
        have HA5 := Lib.hid (HQ5.out.alloc n (.cells #[.string cn, .int .i64 ck, .bool (decide (cx = 1))] 90))
        have HQ6 := Lib.hid (HA5.out.cols n (cn, ck, decide (cx = 1)) hgrow hown')
        have hEb : BlkAt w11 w2.heap.size (entL (⟨nm, kd, srs, cs, 0, 0, 0, 0, 0, 0, 0, true, 0, 0, 0, 0⟩ : Ent) (.slice va cs.length vc)) 67 := (hgrow.block _ (blk_lt HA5.out.eb) (fun e => by have := HA5.out.own.lt _ e.symm; omega)).trans HA5.out.eb
        have e4 : w11.cell? ⟨w2.heap.size, 3, none⟩ = some (.slice va cs.length vc) := blk_cell hEb 3 _ rfl
        have f4 : w11.frozen? ⟨w2.heap.size, 3, none⟩ = false := Lib.frozen_of_heap hEb 3
        have hco2 := hco
        rw [HEQ.out] at hco2
        have HREL := Lib.hid (show PcR nm kd srs nc s4 W w1.heap.size p w2.heap.size (.int .u8 ((m - 1 : Nat) : Int)) (w11.setCell ⟨w2.heap.size, 3, none⟩ (.slice va2 (cs.length + 1) vc2)) from
          ⟨m - 1, t3, cs ++ [(cn, ck, decide (cx = 1))], _, rfl, by omega, J3, fun c hc => by
            rcases List.mem_append.1 hc with h | h
            · exact hcs c h
            · simp at h; subst h; exact hcn, by simp; omega, by rw [← hco2, List.append_assoc]; rfl, HQ6.out⟩)
        clear hgrow hown' hEb hco2 hco e3 d0 d1 d2 fC
        go_wp2_with fail
        exact ⟨HREL.out, by simp [intOf]; omega⟩
      · by_cases hm0 : m = 0
        · subst hm0
          have HRR := Lib.hid (show PcE nm kd srs nc s4 W w1.heap.size p w2.heap.size wr from ⟨sr, cs, v, Ir, hcs, by rw [← hco]; simp [Sb.sCols], HPS.out⟩)
          clear HPS hco
          go_wp2_with fail
          go_meet
          exact HRR.out
        · have hs0 : sr.1 ≠ 0 := fun h => hgo ⟨by omega, h⟩
          have HRR := Lib.hid (show PcE nm kd srs nc s4 W w1.heap.size p w2.heap.size wr from ⟨sr, cs, v, Ir, hcs, by
            rw [← hco]
            obtain ⟨m', rfl⟩ : ∃ m', m = m' + 1 := ⟨m - 1, by omega⟩
            rw [Sb.sCols, if_neg hs0, List.append_nil], HPS.out⟩)
          have hm1 : 0 < m := by omega
          clear hco hgo hm0
          go_wp2_with fail
          refine HER.out.mono ?_
          rintro e w7 ⟨rfl, rfl⟩
          dsimp only
          go_wp2_with fail
          go_meet
          exact HRR.out
  case rest =>
    obtain ⟨sr, cs, v, Ir, hcs, q5, hps⟩ := hcut
    have HPS := Lib.hid hps
    have HPA := Lib.hid (hps.alloc n (.cells #[.pointer (some ⟨w2.heap.size, 4, none⟩), .pointer (some ⟨w2.heap.size, 5, none⟩), .pointer (some ⟨w2.heap.size, 6, none⟩), .pointer (some ⟨w2.heap.size, 7, none⟩), .pointer (some ⟨w2.heap.size, 8, none⟩), .pointer (some ⟨w2.heap.size, 9, none⟩), .pointer (some ⟨w2.heap.size, 10, none⟩)] 120))
    have hBc := hps.le
    clear hps HS1 HS2 HS3 HP0 HP1 HP2 HP3 HP4 HC1 HC2 HC3 HC4
    go_wp2_with fail
    go_loopw [75] (fun i w' => P7R nm kd srs cs sr v W w1.heap.size p w2.heap.size wc.heap.size i w') (fun i _ => 7 - (intOf i).toNat)
    case atStart => exact ⟨0, by omega, rfl, HPA.out, hp_new _ _ _ rfl⟩
    case round =>
      obtain ⟨j, hj, rfl, hps, hpt⟩ := hrel
      clear HPS HPA
      have hj8 : j = 0 ∨ j = 1 ∨ j = 2 ∨ j = 3 ∨ j = 4 ∨ j = 5 ∨ j = 6 ∨ j = 7 := by omega
      clear hj
      rcases hj8 with rfl | rfl | rfl | rfl | rfl | rfl | rfl | rfl
      · have HPS := Lib.hid hps
        have HPT := Lib.hid hpt
        clear hps hpt
        have zP : wr.cell? ⟨wc.heap.size, 0, none⟩ = some (.pointer (some ⟨w2.heap.size, 4, none⟩)) := blk_cell HPT.out 0 _ rfl
        have HN := Lib.hid (num1p_val w1.heap.size p (stK sr 0) (stK_inv Ir 0).1 wr HPS.out.src (blk_cell HPS.out.qb 0 _ rfl))
        go_wp2_with fail
        refine HN.out.mono ?_
        rintro e w4 ⟨rfl, hsx, hkx⟩
        have HP2 := Lib.hid (HPS.out.op n hsx hkx)
        have cE : w4.cell? ⟨w2.heap.size, 4, none⟩ = some (.int .i64 0) := blk_cell HP2.out.eb 4 _ rfl
        have fE : w4.frozen? ⟨w2.heap.size, 4, none⟩ = false := Lib.frozen_of_heap HP2.out.eb 4
        have HREL := Lib.hid (show P7R nm kd srs cs sr v W w1.heap.size p w2.heap.size wc.heap.size (.int .i64 1) (w4.setCell ⟨w2.heap.size, 4, none⟩ (.int .i64 (nK sr 0))) from
          ⟨1, by omega, rfl, HP2.out.set n 4 _ rfl rfl, blk_set (blk_keep HPT.out hkx (by have := n.lp; omega)) (by have := n.lE; omega)⟩)
        clear zP hsx hkx
        dsimp only
        go_wp2_with fail
        exact ⟨HREL.out, by simp [intOf]⟩
      · have HPS := Lib.hid hps
        have HPT := Lib.hid hpt
        clear hps hpt
        have zP : wr.cell? ⟨wc.heap.size, 1, none⟩ = some (.pointer (some ⟨w2.heap.size, 5, none⟩)) := blk_cell HPT.out 1 _ rfl
        have HN := Lib.hid (num1p_val w1.heap.size p (stK sr 1) (stK_inv Ir 1).1 wr HPS.out.src (blk_cell HPS.out.qb 0 _ rfl))
        go_wp2_with fail
        refine HN.out.mono ?_
        rintro e w4 ⟨rfl, hsx, hkx⟩
        have HP2 := Lib.hid (HPS.out.op n hsx hkx)
        have cE : w4.cell? ⟨w2.heap.size, 5, none⟩ = some (.int .i64 0) := blk_cell HP2.out.eb 5 _ rfl
        have fE : w4.frozen? ⟨w2.heap.size, 5, none⟩ = false := Lib.frozen_of_heap HP2.out.eb 5
        have HREL := Lib.hid (show P7R nm kd srs cs sr v W w1.heap.size p w2.heap.size wc.heap.size (.int .i64 2) (w4.setCell ⟨w2.heap.size, 5, none⟩ (.int .i64 (nK sr 1))) from
          ⟨2, by omega, rfl, HP2.out.set n 5 _ rfl rfl, blk_set (blk_keep HPT.out hkx (by have := n.lp; omega)) (by have := n.lE; omega)⟩)
        clear zP hsx hkx
        dsimp only
        go_wp2_with fail
        exact ⟨HREL.out, by simp [intOf]⟩
      · have HPS := Lib.hid hps
        have HPT := Lib.hid hpt
        clear hps hpt
        have zP : wr.cell? ⟨wc.heap.size, 2, none⟩ = some (.pointer (some ⟨w2.heap.size, 6, none⟩)) := blk_cell HPT.out 2 _ rfl
        have HN := Lib.hid (num1p_val w1.heap.size p (stK sr 2) (stK_inv Ir 2).1 wr HPS.out.src (blk_cell HPS.out.qb 0 _ rfl))
        go_wp2_with fail
        refine HN.out.mono ?_
        rintro e w4 ⟨rfl, hsx, hkx⟩
        have HP2 := Lib.hid (HPS.out.op n hsx hkx)
        have cE : w4.cell? ⟨w2.heap.size, 6, none⟩ = some (.int .i64 0) := blk_cell HP2.out.eb 6 _ rfl
        have fE : w4.frozen? ⟨w2.heap.size, 6, none⟩ = false := Lib.frozen_of_heap HP2.out.eb 6
        have HREL := Lib.hid (show P7R nm kd srs cs sr v W w1.heap.size p w2.heap.size wc.heap.size (.int .i64 3) (w4.setCell ⟨w2.heap.size, 6, none⟩ (.int .i64 (nK sr 2))) from
          ⟨3, by omega, rfl, HP2.out.set n 6 _ rfl rfl, blk_set (blk_keep HPT.out hkx (by have := n.lp; omega)) (by have := n.lE; omega)⟩)
        clear zP hsx hkx
        dsimp only
        go_wp2_with fail
        exact ⟨HREL.out, by simp [intOf]⟩
      · have HPS := Lib.hid hps
        have HPT := Lib.hid hpt
        clear hps hpt
        have zP : wr.cell? ⟨wc.heap.size, 3, none⟩ = some (.pointer (some ⟨w2.heap.size, 7, none⟩)) := blk_cell HPT.out 3 _ rfl
        have HN := Lib.hid (num1p_val w1.heap.size p (stK sr 3) (stK_inv Ir 3).1 wr HPS.out.src (blk_cell HPS.out.qb 0 _ rfl))
        go_wp2_with fail
        refine HN.out.mono ?_
        rintro e w4 ⟨rfl, hsx, hkx⟩
        have HP2 := Lib.hid (HPS.out.op n hsx hkx)
        have cE : w4.cell? ⟨w2.heap.size, 7, none⟩ = some (.int .i64 0) := blk_cell HP2.out.eb 7 _ rfl
        have fE : w4.frozen? ⟨w2.heap.size, 7, none⟩ = false := Lib.frozen_of_heap HP2.out.eb 7
        have HREL := Lib.hid (show P7R nm kd srs cs sr v W w1.heap.size p w2.heap.size wc.heap.size (.int .i64 4) (w4.setCell ⟨w2.heap.size, 7, none⟩ (.int .i64 (nK sr 3))) from
          ⟨4, by omega, rfl, HP2.out.set n 7 _ rfl rfl, blk_set (blk_keep HPT.out hkx (by have := n.lp; omega)) (by have := n.lE; omega)⟩)
        clear zP hsx hkx
        dsimp only
        go_wp2_with fail
        exact ⟨HREL.out, by simp [intOf]⟩
      · have HPS := Lib.hid hps
        have HPT := Lib.hid hpt
        clear hps hpt
        have zP : wr.cell? ⟨wc.heap.size, 4, none⟩ = some (.pointer (some ⟨w2.heap.size, 8, none⟩)) := blk_cell HPT.out 4 _ rfl
        have HN := Lib.hid (num1p_val w1.heap.size p (stK sr 4) (stK_inv Ir 4).1 wr HPS.out.src (blk_cell HPS.out.qb 0 _ rfl))
        go_wp2_with fail
        refine HN.out.mono ?_
        rintro e w4 ⟨rfl, hsx, hkx⟩
        have HP2 := Lib.hid (HPS.out.op n hsx hkx)
        have cE : w4.cell? ⟨w2.heap.size, 8, none⟩ = some (.int .i64 0) := blk_cell HP2.out.eb 8 _ rfl
        have fE : w4.frozen? ⟨w2.heap.size, 8, none⟩ = false := Lib.frozen_of_heap HP2.out.eb 8
        have HREL := Lib.hid (show P7R nm kd srs cs sr v W w1.heap.size p w2.heap.size wc.heap.size (.int .i64 5) (w4.setCell ⟨w2.heap.size, 8, none⟩ (.int .i64 (nK sr 4))) from
          ⟨5, by omega, rfl, HP2.out.set n 8 _ rfl rfl, blk_set (blk_keep HPT.out hkx (by have := n.lp; omega)) (by have := n.lE; omega)⟩)
        clear zP hsx hkx
        dsimp only
        go_wp2_with fail
        exact ⟨HREL.out, by simp [intOf]⟩
      · have HPS := Lib.hid hps
        have HPT := Lib.hid hpt
        clear hps hpt
        have zP : wr.cell? ⟨wc.heap.size, 5, none⟩ = some (.pointer (some ⟨w2.heap.size, 9, none⟩)) := blk_cell HPT.out 5 _ rfl
        have HN := Lib.hid (num1p_val w1.heap.size p (stK sr 5) (stK_inv Ir 5).1 wr HPS.out.src (blk_cell HPS.out.qb 0 _ rfl))
        go_wp2_with fail
        refine HN.out.mono ?_
        rintro e w4 ⟨rfl, hsx, hkx⟩
        have HP2 := Lib.hid (HPS.out.op n hsx hkx)
        have cE : w4.cell? ⟨w2.heap.size, 9, none⟩ = some (.int .i64 0) := blk_cell HP2.out.eb 9 _ rfl
        have fE : w4.frozen? ⟨w2.heap.size, 9, none⟩ = false := Lib.frozen_of_heap HP2.out.eb 9
        have HREL := Lib.hid (show P7R nm kd srs cs sr v W w1.heap.size p w2.heap.size wc.heap.size (.int .i64 6) (w4.setCell ⟨w2.heap.size, 9, none⟩ (.int .i64 (nK sr 5))) from
          ⟨6, by omega, rfl, HP2.out.set n 9 _ rfl rfl, blk_set (blk_keep HPT.out hkx (by have := n.lp; omega)) (by have := n.lE; omega)⟩)
        clear zP hsx hkx
        dsimp only
        go_wp2_with fail
        exact ⟨HREL.out, by simp [intOf]⟩
      · have HPS := Lib.hid hps
        have HPT := Lib.hid hpt
        clear hps hpt
        have zP : wr.cell? ⟨wc.heap.size, 6, none⟩ = some (.pointer (some ⟨w2.heap.size, 10, none⟩)) := blk_cell HPT.out 6 _ rfl
        have HN := Lib.hid (num1p_val w1.heap.size p (stK sr 6) (stK_inv Ir 6).1 wr HPS.out.src (blk_cell HPS.out.qb 0 _ rfl))
        go_wp2_with fail
        refine HN.out.mono ?_
        rintro e w4 ⟨rfl, hsx, hkx⟩
        have HP2 := Lib.hid (HPS.out.op n hsx hkx)
        have cE : w4.cell? ⟨w2.heap.size, 10, none⟩ = some (.int .i64 0) := blk_cell HP2.out.eb 10 _ rfl
        have fE : w4.frozen? ⟨w2.heap.size, 10, none⟩ = false := Lib.frozen_of_heap HP2.out.eb 10
        have HREL := Lib.hid (show P7R nm kd srs cs sr v W w1.heap.size p w2.heap.size wc.heap.size (.int .i64 7) (w4.setCell ⟨w2.heap.size, 10, none⟩ (.int .i64 (nK sr 6))) from
          ⟨7, by omega, rfl, HP2.out.set n 10 _ rfl rfl, blk_set (blk_keep HPT.out hkx (by have := n.lp; omega)) (by have := n.lE; omega)⟩)
        clear zP hsx hkx
        dsimp only
        go_wp2_with fail
        exact ⟨HREL.out, by simp [intOf]⟩
      · have HPS := Lib.hid hps
        clear hps hpt
        obtain ⟨fb, s9, q9⟩ : ∃ fb s9, Sb.sByte (stK sr 7) = (fb, s9) := ⟨_, _, rfl⟩
        have I9 := inv_byte (stK_inv Ir 7)
        have hfb := (be_one (stK_inv Ir 7).1).2
        have HC9 := Lib.hid (byte_val p (stK sr 7) (stK_inv Ir 7).1 wr HPS.out.src)
        rw [q9] at I9 hfb HC9
        dsimp only at I9 hfb HC9
        have zq : wr.cell? ⟨w1.heap.size, 0, none⟩ = some (.pointer (some ⟨p, 0, none⟩)) := blk_cell HPS.out.qb 0 _ rfl
        have HHD := Lib.hid (show Sb.rHead l = ((⟨nm, kd, srs, cs, nK sr 0, nK sr 1, nK sr 2, nK sr 3, nK sr 4, nK sr 5, nK sr 6, true, 0, 0, 0, 0⟩ : Ent), stK sr 7) by
          unfold Sb.rHead
          simp only [q1, q2, q3, q4, ← q5]
          rfl)
        go_wp2_with fail
        refine HC9.out.mono ?_
        rintro e w5 ⟨rfl, hsx, hkx⟩
        have HP9 := Lib.hid (HPS.out.op n hsx hkx)
        clear zq hsx hkx
        dsimp only
        go_upto_if 86 with fail
        go_cut [] (fun wx => PbE l W w1.heap.size p w2.heap.size wx)
        case first =>
          by_cases hf1 : fb = 1
          · have hb1 : (fb == 1) = true := by simp [hf1]
            have HB := Lib.hid (bytes_val p 32 (by decide) s9 I9.2 w5 HP9.out.src)
            rw [show ((32 : Nat) : Int) = 32 from rfl] at HB
            have zq : w5.cell? ⟨w1.heap.size, 0, none⟩ = some (.pointer (some ⟨p, 0, none⟩)) := blk_cell HP9.out.qb 0 _ rfl
            go_wp2_with fail
            refine HB.out.mono ?_
            rintro e w6 ⟨A6, m6, c6, rfl, hv6, hsx, hkx⟩
            have HP10 := Lib.hid (HP9.out.op n hsx hkx)
            have HX := Lib.hid (boxparse_val (.slice A6 m6 c6) (Sb.sTake 32 s9).1 (take_byt I9.1).1 take_len w6 hv6)
            clear hsx hkx hv6 zq
            dsimp only
            go_wp2_with fail
            refine HX.out.mono ?_
            rintro e w7 (⟨lx, ly, hx, hy, hbo, rfl, hb7⟩ | ⟨er, hbo, hne, rfl, hb7⟩)
            · as_aux_lemma =>
              unfold boxV
              have HP11 := Lib.hid (HP10.out.below n hb7)
              have hE7 := blk_lt HP11.out.eb
              have e11 : w7.cell? ⟨w2.heap.size, 11, none⟩ = some (.bool true) := blk_cell HP11.out.eb 11 _ rfl
              have f11 : w7.frozen? ⟨w2.heap.size, 11, none⟩ = false := Lib.frozen_of_heap HP11.out.eb 11
              have e12 : w7.cell? ⟨w2.heap.size, 12, none⟩ = some (.int .i64 0) := blk_cell HP11.out.eb 12 _ rfl
              have f12 : w7.frozen? ⟨w2.heap.size, 12, none⟩ = false := Lib.frozen_of_heap HP11.out.eb 12
              have e13 : w7.cell? ⟨w2.heap.size, 13, none⟩ = some (.int .i64 0) := blk_cell HP11.out.eb 13 _ rfl
              have f13 : w7.frozen? ⟨w2.heap.size, 13, none⟩ = false := Lib.frozen_of_heap HP11.out.eb 13
              have e14 : w7.cell? ⟨w2.heap.size, 14, none⟩ = some (.int .i64 0) := blk_cell HP11.out.eb 14 _ rfl
              have f14 : w7.frozen? ⟨w2.heap.size, 14, none⟩ = false := Lib.frozen_of_heap HP11.out.eb 14
              have e15 : w7.cell? ⟨w2.heap.size, 15, none⟩ = some (.int .i64 0) := blk_cell HP11.out.eb 15 _ rfl
              have f15 : w7.frozen? ⟨w2.heap.size, 15, none⟩ = false := Lib.frozen_of_heap HP11.out.eb 15
              have HS5 := Lib.hid (PS.set (e' := Sb.withBox (eK nm kd srs cs sr 7) (lx, ly, hx, hy)) n (PS.set (e' := { (eK nm kd srs cs sr 7) with bn := false, lx := lx, ly := ly, hx := hx }) n (PS.set (e' := { (eK nm kd srs cs sr 7) with bn := false, lx := lx, ly := ly }) n (PS.set (e' := { (eK nm kd srs cs sr 7) with bn := false, lx := lx }) n (PS.set (e' := { (eK nm kd srs cs sr 7) with bn := false }) n HP11.out 11 (.bool false) rfl rfl) 12 (.int .i64 lx) rfl rfl) 13 (.int .i64 ly) rfl rfl) 14 (.int .i64 hx) rfl rfl) 15 (.int .i64 hy) rfl rfl)
              have HRR := Lib.hid (show Sb.raw l = (some (Sb.withBox (eK nm kd srs cs sr 7) (lx, ly, hx, hy)), (Sb.sTake 32 s9).2) by
                unfold Sb.raw
                rw [HHD.out]
                dsimp only
                rw [q9]
                dsimp only
                rw [if_pos hf1, hbo]
                rfl)
              have HPB := Lib.hid (PbE.mk HRR.out hnm hcs (inv_take 32 I9) (HS5.out.alloc n (.cells #[.bool false, .int .i64 lx, .int .i64 ly, .int .i64 hx, .int .i64 hy] 65)))
              clear hb7
              dsimp only
              go_wp2_with fail
              go_meet
              exact HPB.out
            · as_aux_lemma =>
              unfold boxV
              have HP11 := Lib.hid (HP10.out.below n hb7)
              have HNN := Lib.hid (show Sb.parse okE l = none by
                have hr : Sb.raw l = (none, (Sb.sTake 32 s9).2) := by
                  unfold Sb.raw
                  rw [HHD.out]
                  dsimp only
                  rw [q9]
                  dsimp only
                  rw [if_pos hf1, hbo]
                  rfl
                unfold Sb.parse
                rw [hr])
              clear hb7
              dsimp only
              go_upto_if 94 with fail
              have HP12 := HP11.out.alloc n (.cells #[.bool false, .int .i64 0, .int .i64 0, .int .i64 0, .int .i64 0] 65)
              generalize World.alloc w7 (.cells #[.bool false, .int .i64 0, .int .i64 0, .int .i64 0, .int .i64 0] 65) = w8 at HP12 ⊢
              have HP12 := Lib.hid HP12
              have hBL := HP12.out.bel
              go_wp2_with (refine wpList_st16 (by rfl) _ _ 67 (by rfl) (by rfl) (by rfl) HP12.out.rb (by exact size67) (by rfl) (by first | rfl | decide | simp [Value.oneCell']) hBL (Nat.le_refl _) ?_)
              intro wf hbf hBf hOf
              have c0 : World.cell? wf ⟨W.heap.size, 0, none⟩ = some (.string ⟨#[]⟩) := blk_cell hbf 0 _ rfl
              have c1 : World.cell? wf ⟨W.heap.size, 1, none⟩ = some (.int .i64 0) := blk_cell hbf 1 _ rfl
              have c2 : World.cell? wf ⟨W.heap.size, 2, none⟩ = some (.int .i64 0) := blk_cell hbf 2 _ rfl
              have c3 : World.cell? wf ⟨W.heap.size, 3, none⟩ = some (.slice none 0 0) := blk_cell hbf 3 _ rfl
              have c4 : World.cell? wf ⟨W.heap.size, 4, none⟩ = some (.int .i64 0) := blk_cell hbf 4 _ rfl
              have c5 : World.cell? wf ⟨W.heap.size, 5, none⟩ = some (.int .i64 0) := blk_cell hbf 5 _ rfl
              have c6 : World.cell? wf ⟨W.heap.size, 6, none⟩ = some (.int .i64 0) := blk_cell hbf 6 _ rfl
              have c7 : World.cell? wf ⟨W.heap.size, 7, none⟩ = some (.int .i64 0) := blk_cell hbf 7 _ rfl
              have c8 : World.cell? wf ⟨W.heap.size, 8, none⟩ = some (.int .i64 0) := blk_cell hbf 8 _ rfl
              have c9 : World.cell? wf ⟨W.heap.size, 9, none⟩ = some (.int .i64 0) := blk_cell hbf 9 _ rfl
              have c10 : World.cell? wf ⟨W.heap.size, 10, none⟩ = some (.int .i64 0) := blk_cell hbf 10 _ rfl
              have c11 : World.cell? wf ⟨W.heap.size, 11, none⟩ = some (.bool false) := blk_cell hbf 11 _ rfl
              have c12 : World.cell? wf ⟨W.heap.size, 12, none⟩ = some (.int .i64 0) := blk_cell hbf 12 _ rfl
              have c13 : World.cell? wf ⟨W.heap.size, 13, none⟩ = some (.int .i64 0) := blk_cell hbf 13 _ rfl
              have c14 : World.cell? wf ⟨W.heap.size, 14, none⟩ = some (.int .i64 0) := blk_cell hbf 14 _ rfl
              have c15 : World.cell? wf ⟨W.heap.size, 15, none⟩ = some (.int .i64 0) := blk_cell hbf 15 _ rfl
              go_wp2_with fail
              refine bodyPost_ret (v := .tuple #[entV zeroE nilS, .int .i64 9]) (by simp [results, Tryd.results38, go_sem, entV, entL, zeroE, Sb.Ent.zero, nilS, c0, c1, c2, c3, c4, c5, c6, c7, c8, c9, c10, c11, c12, c13, c14, c15]) rfl (.inr ⟨HNN.out, rfl, hBf⟩)
          · have hb1 : (fb == 1) = false := by simp [hf1]
            have HRR := Lib.hid (show Sb.raw l = (some (eK nm kd srs cs sr 7), s9) by
              unfold Sb.raw
              rw [HHD.out]
              dsimp only
              rw [q9]
              dsimp only
              rw [if_neg hf1]
              rfl)
            have HPB := Lib.hid (PbE.mk HRR.out hnm hcs I9 HP9.out)
            go_wp2_with fail
            go_meet
            exact HPB.out
        case rest =>
          obtain ⟨sf, en, vf, hraw, hnm2, hcs2, If, hps⟩ := hcut
          have HPF := Lib.hid hps
          clear hps HP9 HC9 HPS
          have zq : wc.cell? ⟨w1.heap.size, 0, none⟩ = some (.pointer (some ⟨p, 0, none⟩)) := blk_cell HPF.out.qb 0 _ rfl
          have HEN := Lib.hid (end_val p sf wc HPF.out.src)
          have hR7 := blk_lt HPF.out.rb
          have hBL := HPF.out.bel
          obtain ⟨lb, hlb⟩ : ∃ lb, Sb.entB okE en = lb := ⟨_, rfl⟩
          have hl8 : lb.length ≤ 1000 := by rw [← hlb]; exact entB_len en
          have hEb : Byt lb := by rw [← hlb]; exact entB_byt en
          by_cases hend : sf = (0, [])
          case neg =>
            as_aux_lemma =>
            have hne := endOf_ne hend
            have HNN := Lib.hid (parse_no hraw lb hlb (fun h => hend h.1))
            clear hraw hlb hend
            generalize endOf sf = E9 at HEN hne
            go_wp2_with fail
            refine HEN.out.mono ?_
            rintro e w7 ⟨rfl, rfl⟩
            dsimp only
            go_wp2_with (refine wpList_st16 (by rfl) _ _ 67 (by rfl) (by rfl) (by rfl) HPF.out.rb (by exact size67) (by rfl) (by simp [Value.oneCell']) hBL (Nat.le_refl _) ?_)
            intro wf hbf hBf hOf
            have c0 : World.cell? wf ⟨W.heap.size, 0, none⟩ = some (.string ⟨#[]⟩) := blk_cell hbf 0 _ rfl
            have c1 : World.cell? wf ⟨W.heap.size, 1, none⟩ = some (.int .i64 0) := blk_cell hbf 1 _ rfl
            have c2 : World.cell? wf ⟨W.heap.size, 2, none⟩ = some (.int .i64 0) := blk_cell hbf 2 _ rfl
            have c3 : World.cell? wf ⟨W.heap.size, 3, none⟩ = some (.slice none 0 0) := blk_cell hbf 3 _ rfl
            have c4 : World.cell? wf ⟨W.heap.size, 4, none⟩ = some (.int .i64 0) := blk_cell hbf 4 _ rfl
            have c5 : World.cell? wf ⟨W.heap.size, 5, none⟩ = some (.int .i64 0) := blk_cell hbf 5 _ rfl
            have c6 : World.cell? wf ⟨W.heap.size, 6, none⟩ = some (.int .i64 0) := blk_cell hbf 6 _ rfl
            have c7 : World.cell? wf ⟨W.heap.size, 7, none⟩ = some (.int .i64 0) := blk_cell hbf 7 _ rfl
            have c8 : World.cell? wf ⟨W.heap.size, 8, none⟩ = some (.int .i64 0) := blk_cell hbf 8 _ rfl
            have c9 : World.cell? wf ⟨W.heap.size, 9, none⟩ = some (.int .i64 0) := blk_cell hbf 9 _ rfl
            have c10 : World.cell? wf ⟨W.heap.size, 10, none⟩ = some (.int .i64 0) := blk_cell hbf 10 _ rfl
            have c11 : World.cell? wf ⟨W.heap.size, 11, none⟩ = some (.bool false) := blk_cell hbf 11 _ rfl
            have c12 : World.cell? wf ⟨W.heap.size, 12, none⟩ = some (.int .i64 0) := blk_cell hbf 12 _ rfl
            have c13 : World.cell? wf ⟨W.heap.size, 13, none⟩ = some (.int .i64 0) := blk_cell hbf 13 _ rfl
            have c14 : World.cell? wf ⟨W.heap.size, 14, none⟩ = some (.int .i64 0) := blk_cell hbf 14 _ rfl
            have c15 : World.cell? wf ⟨W.heap.size, 15, none⟩ = some (.int .i64 0) := blk_cell hbf 15 _ rfl
            go_wp2_with fail
            refine bodyPost_ret (v := .tuple #[entV zeroE nilS, .int .i64 9]) (by simp [results, Tryd.results38, go_sem, entV, entL, zeroE, Sb.Ent.zero, nilS, c0, c1, c2, c3, c4, c5, c6, c7, c8, c9, c10, c11, c12, c13, c14, c15]) rfl (.inr ⟨HNN.out, rfl, hBf⟩)
          have HEZ : endOf sf = 0 := by rw [hend]; rfl
          rw [HEZ] at HEN
          clear HEZ
          obtain ⟨va, vc, rfl⟩ := own_shape HPF.out.own
          have HBY := Lib.hid (fun w h => sbytes_agg en va vc lb hlb hnm2 hcs2 w h)
          have k0 : wc.cell? ⟨w2.heap.size, 0, none⟩ = some (.string en.nm) := blk_cell HPF.out.eb 0 _ rfl
          have k1 : wc.cell? ⟨w2.heap.size, 1, none⟩ = some (.int .i64 en.kd) := blk_cell HPF.out.eb 1 _ rfl
          have k2 : wc.cell? ⟨w2.heap.size, 2, none⟩ = some (.int .i64 en.srs) := blk_cell HPF.out.eb 2 _ rfl
          have k3 : wc.cell? ⟨w2.heap.size, 3, none⟩ = some (.slice va en.cs.length vc) := blk_cell HPF.out.eb 3 _ rfl
          have k4 : wc.cell? ⟨w2.heap.size, 4, none⟩ = some (.int .i64 en.id) := blk_cell HPF.out.eb 4 _ rfl
          have k5 : wc.cell? ⟨w2.heap.size, 5, none⟩ = some (.int .i64 en.tb) := blk_cell HPF.out.eb 5 _ rfl
          have k6 : wc.cell? ⟨w2.heap.size, 6, none⟩ = some (.int .i64 en.t0) := blk_cell HPF.out.eb 6 _ rfl
          have k7 : wc.cell? ⟨w2.heap.size, 7, none⟩ = some (.int .i64 en.t1) := blk_cell HPF.out.eb 7 _ rfl
          have k8 : wc.cell? ⟨w2.heap.size, 8, none⟩ = some (.int .i64 en.t2) := blk_cell HPF.out.eb 8 _ rfl
          have k9 : wc.cell? ⟨w2.heap.size, 9, none⟩ = some (.int .i64 en.ct) := blk_cell HPF.out.eb 9 _ rfl
          have k10 : wc.cell? ⟨w2.heap.size, 10, none⟩ = some (.int .i64 en.nx) := blk_cell HPF.out.eb 10 _ rfl
          have k11 : wc.cell? ⟨w2.heap.size, 11, none⟩ = some (.bool en.bn) := blk_cell HPF.out.eb 11 _ rfl
          have k12 : wc.cell? ⟨w2.heap.size, 12, none⟩ = some (.int .i64 en.lx) := blk_cell HPF.out.eb 12 _ rfl
          have k13 : wc.cell? ⟨w2.heap.size, 13, none⟩ = some (.int .i64 en.ly) := blk_cell HPF.out.eb 13 _ rfl
          have k14 : wc.cell? ⟨w2.heap.size, 14, none⟩ = some (.int .i64 en.hx) := blk_cell HPF.out.eb 14 _ rfl
          have k15 : wc.cell? ⟨w2.heap.size, 15, none⟩ = some (.int .i64 en.hy) := blk_cell HPF.out.eb 15 _ rfl
          go_wp2_with fail
          refine HEN.out.mono ?_
          rintro e w7 ⟨rfl, rfl⟩
          dsimp only
          go_wp2_with fail
          refine (HBY.out _ (own_cols HPF.out.own rfl)).mono ?_
          rintro e w8 ⟨v8, rfl, hr8, hb8⟩
          have HPG := Lib.hid (HPF.out.below n hb8)
          obtain ⟨A8, c8, rfl, hc8, hC8⟩ := slb_row hr8 (by omega)
          have HVV := Lib.hid (slb_below HV.out HPG.out.bel)
          clear k0 k1 k2 k3 k4 k5 k6 k7 k8 k9 k10 k11 k12 k13 k14 k15 hR7 hBL zq hr8 hb8 HBY HEN
          generalize hM8 : lb.length = M8 at hc8 hC8
          have HEQ := Lib.hid (eqb_val A8 M8 c8 lb A0 M0 c0 l w8 hM8 hc8 hC8 HM.out hc0 HVV.out hEb hb)
          by_cases heq : lb = l
          · as_aux_lemma =>
            rw [decide_eq_true heq] at HEQ
            have HPP := Lib.hid (parse_yes hraw hend lb hlb heq)
            clear hC8 hc8 hEb hM8 hraw hlb heq
            dsimp only
            go_wp2_with fail
            refine HEQ.out.mono ?_
            rintro e w9 ⟨rfl, hb9⟩
            have HPH := Lib.hid (HPG.out.below n hb9)
            clear hb9
            have k0 : w9.cell? ⟨w2.heap.size, 0, none⟩ = some (.string en.nm) := blk_cell HPH.out.eb 0 _ rfl
            have k1 : w9.cell? ⟨w2.heap.size, 1, none⟩ = some (.int .i64 en.kd) := blk_cell HPH.out.eb 1 _ rfl
            have k2 : w9.cell? ⟨w2.heap.size, 2, none⟩ = some (.int .i64 en.srs) := blk_cell HPH.out.eb 2 _ rfl
            have k3 : w9.cell? ⟨w2.heap.size, 3, none⟩ = some (.slice va en.cs.length vc) := blk_cell HPH.out.eb 3 _ rfl
            have k4 : w9.cell? ⟨w2.heap.size, 4, none⟩ = some (.int .i64 en.id) := blk_cell HPH.out.eb 4 _ rfl
            have k5 : w9.cell? ⟨w2.heap.size, 5, none⟩ = some (.int .i64 en.tb) := blk_cell HPH.out.eb 5 _ rfl
            have k6 : w9.cell? ⟨w2.heap.size, 6, none⟩ = some (.int .i64 en.t0) := blk_cell HPH.out.eb 6 _ rfl
            have k7 : w9.cell? ⟨w2.heap.size, 7, none⟩ = some (.int .i64 en.t1) := blk_cell HPH.out.eb 7 _ rfl
            have k8 : w9.cell? ⟨w2.heap.size, 8, none⟩ = some (.int .i64 en.t2) := blk_cell HPH.out.eb 8 _ rfl
            have k9 : w9.cell? ⟨w2.heap.size, 9, none⟩ = some (.int .i64 en.ct) := blk_cell HPH.out.eb 9 _ rfl
            have k10 : w9.cell? ⟨w2.heap.size, 10, none⟩ = some (.int .i64 en.nx) := blk_cell HPH.out.eb 10 _ rfl
            have k11 : w9.cell? ⟨w2.heap.size, 11, none⟩ = some (.bool en.bn) := blk_cell HPH.out.eb 11 _ rfl
            have k12 : w9.cell? ⟨w2.heap.size, 12, none⟩ = some (.int .i64 en.lx) := blk_cell HPH.out.eb 12 _ rfl
            have k13 : w9.cell? ⟨w2.heap.size, 13, none⟩ = some (.int .i64 en.ly) := blk_cell HPH.out.eb 13 _ rfl
            have k14 : w9.cell? ⟨w2.heap.size, 14, none⟩ = some (.int .i64 en.hx) := blk_cell HPH.out.eb 14 _ rfl
            have k15 : w9.cell? ⟨w2.heap.size, 15, none⟩ = some (.int .i64 en.hy) := blk_cell HPH.out.eb 15 _ rfl
            have hRl := n.lR
            have hBL := HPH.out.bel
            dsimp only
            go_wp2_with (refine wpList_st16 (by rfl) _ _ 67 (by rfl) (by rfl) (by rfl) HPH.out.rb (by exact size67) (by rfl) (by simp [Value.oneCell']) hBL (Nat.le_refl _) ?_)
            intro wf hbf hBf hOf
            have c0 : World.cell? wf ⟨W.heap.size, 0, none⟩ = some (.string en.nm) := blk_cell hbf 0 _ rfl
            have c1 : World.cell? wf ⟨W.heap.size, 1, none⟩ = some (.int .i64 en.kd) := blk_cell hbf 1 _ rfl
            have c2 : World.cell? wf ⟨W.heap.size, 2, none⟩ = some (.int .i64 en.srs) := blk_cell hbf 2 _ rfl
            have c3 : World.cell? wf ⟨W.heap.size, 3, none⟩ = some (.slice va en.cs.length vc) := blk_cell hbf 3 _ rfl
            have c4 : World.cell? wf ⟨W.heap.size, 4, none⟩ = some (.int .i64 en.id) := blk_cell hbf 4 _ rfl
            have c5 : World.cell? wf ⟨W.heap.size, 5, none⟩ = some (.int .i64 en.tb) := blk_cell hbf 5 _ rfl
            have c6 : World.cell? wf ⟨W.heap.size, 6, none⟩ = some (.int .i64 en.t0) := blk_cell hbf 6 _ rfl
            have c7 : World.cell? wf ⟨W.heap.size, 7, none⟩ = some (.int .i64 en.t1) := blk_cell hbf 7 _ rfl
            have c8 : World.cell? wf ⟨W.heap.size, 8, none⟩ = some (.int .i64 en.t2) := blk_cell hbf 8 _ rfl
            have c9 : World.cell? wf ⟨W.heap.size, 9, none⟩ = some (.int .i64 en.ct) := blk_cell hbf 9 _ rfl
            have c10 : World.cell? wf ⟨W.heap.size, 10, none⟩ = some (.int .i64 en.nx) := blk_cell hbf 10 _ rfl
            have c11 : World.cell? wf ⟨W.heap.size, 11, none⟩ = some (.bool en.bn) := blk_cell hbf 11 _ rfl
            have c12 : World.cell? wf ⟨W.heap.size, 12, none⟩ = some (.int .i64 en.lx) := blk_cell hbf 12 _ rfl
            have c13 : World.cell? wf ⟨W.heap.size, 13, none⟩ = some (.int .i64 en.ly) := blk_cell hbf 13 _ rfl
            have c14 : World.cell? wf ⟨W.heap.size, 14, none⟩ = some (.int .i64 en.hx) := blk_cell hbf 14 _ rfl
            have c15 : World.cell? wf ⟨W.heap.size, 15, none⟩ = some (.int .i64 en.hy) := blk_cell hbf 15 _ rfl
            go_wp2_with fail
            refine bodyPost_ret (v := .tuple #[entV en (.slice va en.cs.length vc), .int .i64 0]) (by simp [results, Tryd.results38, go_sem, entV, entL, zeroE, Sb.Ent.zero, nilS, c0, c1, c2, c3, c4, c5, c6, c7, c8, c9, c10, c11, c12, c13, c14, c15]) rfl (.inl ⟨en, _, HPP.out, rfl, own_cols (base := w2.heap.size + 1) (e := 90) (n := en.cs.length) (hOf _ _ _ _ _ _ hRl HPH.out.own) rfl, hBf⟩)
          · as_aux_lemma =>
            rw [decide_eq_false heq] at HEQ
            have HPP := Lib.hid (parse_no hraw lb hlb (fun h => heq h.2))
            clear hC8 hc8 hEb hM8 hraw hlb heq
            dsimp only
            go_wp2_with fail
            refine HEQ.out.mono ?_
            rintro e w9 ⟨rfl, hb9⟩
            have HPH := Lib.hid (HPG.out.below n hb9)
            clear hb9
            have hBL := HPH.out.bel
            dsimp only
            go_wp2_with (refine wpList_st16 (by rfl) _ _ 67 (by rfl) (by rfl) (by rfl) HPH.out.rb (by exact size67) (by rfl) (by simp [Value.oneCell']) hBL (Nat.le_refl _) ?_)
            intro wf hbf hBf hOf
            have c0 : World.cell? wf ⟨W.heap.size, 0, none⟩ = some (.string ⟨#[]⟩) := blk_cell hbf 0 _ rfl
            have c1 : World.cell? wf ⟨W.heap.size, 1, none⟩ = some (.int .i64 0) := blk_cell hbf 1 _ rfl
            have c2 : World.cell? wf ⟨W.heap.size, 2, none⟩ = some (.int .i64 0) := blk_cell hbf 2 _ rfl
            have c3 : World.cell? wf ⟨W.heap.size, 3, none⟩ = some (.slice none 0 0) := blk_cell hbf 3 _ rfl
            have c4 : World.cell? wf ⟨W.heap.size, 4, none⟩ = some (.int .i64 0) := blk_cell hbf 4 _ rfl
            have c5 : World.cell? wf ⟨W.heap.size, 5, none⟩ = some (.int .i64 0) := blk_cell hbf 5 _ rfl
            have c6 : World.cell? wf ⟨W.heap.size, 6, none⟩ = some (.int .i64 0) := blk_cell hbf 6 _ rfl
            have c7 : World.cell? wf ⟨W.heap.size, 7, none⟩ = some (.int .i64 0) := blk_cell hbf 7 _ rfl
            have c8 : World.cell? wf ⟨W.heap.size, 8, none⟩ = some (.int .i64 0) := blk_cell hbf 8 _ rfl
            have c9 : World.cell? wf ⟨W.heap.size, 9, none⟩ = some (.int .i64 0) := blk_cell hbf 9 _ rfl
            have c10 : World.cell? wf ⟨W.heap.size, 10, none⟩ = some (.int .i64 0) := blk_cell hbf 10 _ rfl
            have c11 : World.cell? wf ⟨W.heap.size, 11, none⟩ = some (.bool false) := blk_cell hbf 11 _ rfl
            have c12 : World.cell? wf ⟨W.heap.size, 12, none⟩ = some (.int .i64 0) := blk_cell hbf 12 _ rfl
            have c13 : World.cell? wf ⟨W.heap.size, 13, none⟩ = some (.int .i64 0) := blk_cell hbf 13 _ rfl
            have c14 : World.cell? wf ⟨W.heap.size, 14, none⟩ = some (.int .i64 0) := blk_cell hbf 14 _ rfl
            have c15 : World.cell? wf ⟨W.heap.size, 15, none⟩ = some (.int .i64 0) := blk_cell hbf 15 _ rfl
            go_wp2_with fail
            refine bodyPost_ret (v := .tuple #[entV zeroE nilS, .int .i64 9]) (by simp [results, Tryd.results38, go_sem, entV, entL, zeroE, Sb.Ent.zero, nilS, c0, c1, c2, c3, c4, c5, c6, c7, c8, c9, c10, c11, c12, c13, c14, c15]) rfl (.inr ⟨HPP.out, rfl, hBf⟩)
end Go.Proofs.YtcjidlgmbjebjaaDoor
