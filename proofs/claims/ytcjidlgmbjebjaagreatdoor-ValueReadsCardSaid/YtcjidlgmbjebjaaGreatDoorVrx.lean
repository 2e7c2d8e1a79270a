/- A part of the proof of ValueReads. -/
import Derived.Test.YtcjidlgmbjebjaaGreatDoorVrw
set_option linter.unusedVariables false
set_option linter.unusedSimpArgs false
set_option maxRecDepth 100000
namespace Go.Proofs.YtcjidlgmbjebjaaGreatDoor
open Go Go.RowKit
def at0 (neg : Bool) (j : Nat) : Nat := if neg = true ∧ j = 0 then 1 else j
def RdL (s : ByteArray) (neg : Bool) (N : Option Int) (W : World) (i : Value) (w' : World) : Prop :=
  ∃ (j : Nat) (n : Int), i = .int .i64 j ∧ j ≤ s.size ∧ dg (s.data.toList.drop (at0 neg j)) n = N ∧ QS W 1 n ⟨#[]⟩ w'
theorem dg_yes {s : ByteArray} {j : Nat} {n : Int} (h : j < s.size) (hc : 48 ≤ (s[j]).toNat ∧ (s[j]).toNat ≤ 57) : dg (s.data.toList.drop j) n = dg (s.data.toList.drop (j + 1)) (d1 n s[j]) := by
  rw [uq_drop s j h, dg, if_pos hc]
theorem dg_no {s : ByteArray} {j : Nat} {n : Int} (h : j < s.size) (hc : ¬ (48 ≤ (s[j]).toNat ∧ (s[j]).toNat ≤ 57)) : dg (s.data.toList.drop j) n = none := by
  rw [uq_drop s j h, dg, if_neg hc]
theorem dg_all {s : ByteArray} {n : Int} : dg (s.data.toList.drop s.size) n = some n := by
  rw [List.drop_eq_nil_of_le (by simp)]; rfl
theorem RdL.step {s : ByteArray} {neg : Bool} {N : Option Int} {W w : World} {j : Nat} {n : Int} (h : j < s.size) (ha : at0 neg j = j) (hc : 48 ≤ (s[j]).toNat ∧ (s[j]).toNat ≤ 57) (he : dg (s.data.toList.drop (at0 neg j)) n = N) (hq : QS W 1 n ⟨#[]⟩ w) :
    RdL s neg N W (.int .i64 (j + 1 : Nat)) (w.drew.setCell ⟨W.heap.size + 1, 1, none⟩ (.int .i64 (d1 n s[j]))) := by
  refine ⟨j + 1, d1 n s[j], rfl, by omega, ?_, (hq.below (below_drew (Below.refl _ _))).set 1 _ rfl⟩
  rw [← he, ha, dg_yes h hc]
  congr 2
  unfold at0
  rw [if_neg (by omega)]
theorem neg_at {s : ByteArray} (h : 0 < s.size) : isNeg s = ((s[0]).toNat == 45) := by
  unfold isNeg
  have := uq_drop s 0 h
  rw [List.drop_zero] at this
  rw [this, List.headD_cons]
theorem dgN_neg {s : ByteArray} (h : isNeg s = true) : dgS s = dg (s.data.toList.drop (at0 true 0)) 0 := dgS_neg h
theorem dgN_pos {s : ByteArray} (h : isNeg s = false) : dgS s = (dg (s.data.toList.drop (at0 false 0)) 0).map fun n => wrap64 (-n) := dgS_pos h
set_option maxHeartbeats 4000000 in
theorem rscan_num_n (s r : ByteArray) (b : Bool) (M : Int) (h0 : (s.toList == [110, 117, 108, 108]) = false) (h1 : (s.toList == [116, 114, 117, 101]) = false) (h2 : (s.toList == [102, 97, 108, 115, 101]) = false) (h3 : 1 ≤ s.size) (h5 : s.size ≤ 20) (h4 : ¬ ((s[0]'(by omega)).toNat = 34 ∧ 2 ≤ s.size)) (hneg : isNeg s = true) (hN : dg (s.data.toList.drop (at0 true 0)) 0 = some M) (hne : (r.toList == s.toList) = b) (W : World) (hp : ∀ w, Calls Tryz.prog 45 #[.agg #[.int .i64 1, .int .i64 M, .string ⟨#[]⟩]] w (RetS (.string r) w)) :
    Calls Tryz.prog 14 #[.string s] W (RetSc 1 M ⟨#[]⟩ b W) := by
  have HP := Lib.hid hp
  clear hp
  have HNE := Lib.hid hne
  clear hne
  have HN := Lib.hid hN
  clear hN
  have h45 : (((s[0]'(by omega)).toNat : Int) == 45) = true := by
    rw [neg_at (by omega)] at hneg
    rw [beq_iff_eq] at hneg ⊢; omega
  clear hneg
  have HQ := Lib.hid (QS.start W)
  have hq4 : (2 ≤ s.size ∧ (((s[0]'(by omega)).toNat : Int) == 34) = false) ∨ s.size = 1 := by
    by_cases h : 2 ≤ s.size
    · exact .inl ⟨h, by rw [beq_eq_false_iff_ne]; omega⟩
    · exact .inr (by omega)
  clear h4
  have hd20 : decide ((s.size : Int) ≤ 20) = true := by rw [decide_eq_true_eq]; omega
  rcases hq4 with ⟨h22, h34⟩ | h11
  · go_enter Tryz.func14, Tryz.ntmps14
    go_upto_block 0 with fail
    generalize (W.alloc (.cells #[.int .i64 0, .int .i64 0, .string ⟨#[]⟩] 32)).alloc (.cells #[.int .i64 0, .int .i64 0, .string ⟨#[]⟩] 32) = w0 at HQ ⊢
    obtain ⟨x0, x1, x2, xx⟩ := HQ.out.cells
    have y0 := xx 0
    have HQ1 := Lib.hid (show QS W 1 0 ⟨#[]⟩ (w0.setCell ⟨W.heap.size + 1, 0, none⟩ (.int .i64 1)) from HQ.out.set 0 _ rfl)
    clear HQ xx
    go_wp2_with fail
    go_loopw [7] (fun i w' => RdL s true (some M) W i w') (fun i _ => s.size - (intOf i).toNat)
    case atStart => exact ⟨0, 0, rfl, by omega, HN.out, HQ1.out⟩
    case round =>
      obtain ⟨j, m, rfl, hj, he, hq⟩ := hrel
      clear x0 x1 x2 y0 HQ1 HN
      by_cases hpj : j < s.size
      · by_cases hj0 : j = 0
        · subst hj0
          have HS := Lib.hid (show RdL s true (some M) W (.int .i64 (0 + 1 : Nat)) wr from ⟨1, m, rfl, by omega, by rw [← he]; rfl, hq⟩)
          clear he hq
          go_wp2_with fail
          exact ⟨HS.out, by simp [intOf]; omega⟩
        have hj0b : (((j : Nat) : Int) == 0) = false := by rw [beq_eq_false_iff_ne]; omega
        have ha : at0 true j = j := by unfold at0; rw [if_neg (by omega)]
        by_cases hc : 48 ≤ (s[j]).toNat ∧ (s[j]).toNat ≤ 57
        · have HS := Lib.hid (RdL.step (neg := true) hpj ha hc he hq)
          obtain ⟨x0, x1, x2, xx⟩ := hq.cells
          have y1 := xx 1
          have z1 : wr.drew.cell? ⟨W.heap.size + 1, 1, none⟩ = some (.int .i64 m) := x1
          have zf : wr.drew.frozen? ⟨W.heap.size + 1, 1, none⟩ = false := y1
          have hlo : ¬ (((s[j]).toNat : Int) < 48) := by omega
          have hhi : ¬ ((57 : Int) < ((s[j]).toNat : Int)) := by omega
          unfold d1 at HS
          clear he hq xx hc
          go_wp2_with fail
          have hw8 : IntKind.u8.wrap (((s[j]).toNat : Int) - 48) = ((s[j]).toNat : Int) - 48 := by show _ % 256 = _; omega
          have hw9 : wrap64 (((s[j]).toNat : Int) - 48) = ((s[j]).toNat : Int) - 48 := by unfold wrap64; omega
          go_region
          all_goals
            go_wp2_with fail
            exact ⟨HS.out, by simp [intOf]; omega⟩
        · exfalso
          rw [ha, dg_no hpj hc] at he
          cases he
      · obtain rfl : j = s.size := by omega
        have ha : at0 true s.size = s.size := by unfold at0; rw [if_neg (by omega)]
        rw [ha, dg_all] at he
        injection he with he
        subst he
        have HQ := Lib.hid hq
        clear hq ha
        have hne := HNE.out
        clear HNE
        obtain ⟨e0, e1, e2, _⟩ := HQ.out.cells
        go_wp2_with fail
        refine (HP.out _).mono ?_
        rintro e w3 ⟨rfl, hb⟩
        have HQ3 := Lib.hid (HQ.out.below hb)
        clear hb HQ e0 e1 e2
        obtain ⟨f0, f1, f2, gg⟩ := HQ3.out.rcells
        have q0 := gg 0
        have q1 := gg 1
        have q2 := gg 2
        obtain ⟨e0, e1, e2, _⟩ := HQ3.out.cells
        dsimp only
        cases b
        · go_wp2_with fail
          have r0 : (w3.setCell ⟨W.heap.size, 0, none⟩ (.int .i64 0)).cell? ⟨W.heap.size, 0, none⟩ = some (.int .i64 0) := by go_cell
          have r1 : ((w3.setCell ⟨W.heap.size, 0, none⟩ (.int .i64 0)).setCell ⟨W.heap.size, 1, none⟩ (.int .i64 0)).cell? ⟨W.heap.size, 1, none⟩ = some (.int .i64 0) := by go_cell
          have r2 : (((w3.setCell ⟨W.heap.size, 0, none⟩ (.int .i64 0)).setCell ⟨W.heap.size, 1, none⟩ (.int .i64 0)).setCell ⟨W.heap.size, 2, none⟩ (.string ⟨#[]⟩)).cell? ⟨W.heap.size, 2, none⟩ = some (.string ⟨#[]⟩) := by go_cell
          refine bodyPost_ret (v := .tuple #[vV 0 0 ⟨#[]⟩, .bool false]) (by simp [results, Tryz.results14, go_sem, vV, r0, r1, r2]) rfl ⟨rfl, HQ3.out.ret _ _ _⟩
        · go_wp2_with fail
          have r0 : (w3.setCell ⟨W.heap.size, 0, none⟩ (.int .i64 1)).cell? ⟨W.heap.size, 0, none⟩ = some (.int .i64 1) := by go_cell
          have r1 : ((w3.setCell ⟨W.heap.size, 0, none⟩ (.int .i64 1)).setCell ⟨W.heap.size, 1, none⟩ (.int .i64 m)).cell? ⟨W.heap.size, 1, none⟩ = some (.int .i64 m) := by go_cell
          have r2 : (((w3.setCell ⟨W.heap.size, 0, none⟩ (.int .i64 1)).setCell ⟨W.heap.size, 1, none⟩ (.int .i64 m)).setCell ⟨W.heap.size, 2, none⟩ (.string ⟨#[]⟩)).cell? ⟨W.heap.size, 2, none⟩ = some (.string ⟨#[]⟩) := by go_cell
          refine bodyPost_ret (v := .tuple #[vV 1 m ⟨#[]⟩, .bool true]) (by simp [results, Tryz.results14, go_sem, vV, r0, r1, r2]) rfl ⟨rfl, HQ3.out.ret _ _ _⟩
  · go_enter Tryz.func14, Tryz.ntmps14
    go_upto_block 0 with fail
    generalize (W.alloc (.cells #[.int .i64 0, .int .i64 0, .string ⟨#[]⟩] 32)).alloc (.cells #[.int .i64 0, .int .i64 0, .string ⟨#[]⟩] 32) = w0 at HQ ⊢
    obtain ⟨x0, x1, x2, xx⟩ := HQ.out.cells
    have y0 := xx 0
    have HQ1 := Lib.hid (show QS W 1 0 ⟨#[]⟩ (w0.setCell ⟨W.heap.size + 1, 0, none⟩ (.int .i64 1)) from HQ.out.set 0 _ rfl)
    clear HQ xx
    go_wp2_with fail
    go_loopw [7] (fun i w' => RdL s true (some M) W i w') (fun i _ => s.size - (intOf i).toNat)
    case atStart => exact ⟨0, 0, rfl, by omega, HN.out, HQ1.out⟩
    case round =>
      obtain ⟨j, m, rfl, hj, he, hq⟩ := hrel
      clear x0 x1 x2 y0 HQ1 HN
      by_cases hpj : j < s.size
      · by_cases hj0 : j = 0
        · subst hj0
          have HS := Lib.hid (show RdL s true (some M) W (.int .i64 (0 + 1 : Nat)) wr from ⟨1, m, rfl, by omega, by rw [← he]; rfl, hq⟩)
          clear he hq
          go_wp2_with fail
          exact ⟨HS.out, by simp [intOf]; omega⟩
        exfalso; omega
      · obtain rfl : j = s.size := by omega
        have ha : at0 true s.size = s.size := by unfold at0; rw [if_neg (by omega)]
        rw [ha, dg_all] at he
        injection he with he
        subst he
        have HQ := Lib.hid hq
        clear hq ha
        have hne := HNE.out
        clear HNE
        obtain ⟨e0, e1, e2, _⟩ := HQ.out.cells
        go_wp2_with fail
        refine (HP.out _).mono ?_
        rintro e w3 ⟨rfl, hb⟩
        have HQ3 := Lib.hid (HQ.out.below hb)
        clear hb HQ e0 e1 e2
        obtain ⟨f0, f1, f2, gg⟩ := HQ3.out.rcells
        have q0 := gg 0
        have q1 := gg 1
        have q2 := gg 2
        obtain ⟨e0, e1, e2, _⟩ := HQ3.out.cells
        dsimp only
        cases b
        · go_wp2_with fail
          have r0 : (w3.setCell ⟨W.heap.size, 0, none⟩ (.int .i64 0)).cell? ⟨W.heap.size, 0, none⟩ = some (.int .i64 0) := by go_cell
          have r1 : ((w3.setCell ⟨W.heap.size, 0, none⟩ (.int .i64 0)).setCell ⟨W.heap.size, 1, none⟩ (.int .i64 0)).cell? ⟨W.heap.size, 1, none⟩ = some (.int .i64 0) := by go_cell
          have r2 : (((w3.setCell ⟨W.heap.size, 0, none⟩ (.int .i64 0)).setCell ⟨W.heap.size, 1, none⟩ (.int .i64 0)).setCell ⟨W.heap.size, 2, none⟩ (.string ⟨#[]⟩)).cell? ⟨W.heap.size, 2, none⟩ = some (.string ⟨#[]⟩) := by go_cell
          refine bodyPost_ret (v := .tuple #[vV 0 0 ⟨#[]⟩, .bool false]) (by simp [results, Tryz.results14, go_sem, vV, r0, r1, r2]) rfl ⟨rfl, HQ3.out.ret _ _ _⟩
        · go_wp2_with fail
          have r0 : (w3.setCell ⟨W.heap.size, 0, none⟩ (.int .i64 1)).cell? ⟨W.heap.size, 0, none⟩ = some (.int .i64 1) := by go_cell
          have r1 : ((w3.setCell ⟨W.heap.size, 0, none⟩ (.int .i64 1)).setCell ⟨W.heap.size, 1, none⟩ (.int .i64 m)).cell? ⟨W.heap.size, 1, none⟩ = some (.int .i64 m) := by go_cell
          have r2 : (((w3.setCell ⟨W.heap.size, 0, none⟩ (.int .i64 1)).setCell ⟨W.heap.size, 1, none⟩ (.int .i64 m)).setCell ⟨W.heap.size, 2, none⟩ (.string ⟨#[]⟩)).cell? ⟨W.heap.size, 2, none⟩ = some (.string ⟨#[]⟩) := by go_cell
          refine bodyPost_ret (v := .tuple #[vV 1 m ⟨#[]⟩, .bool true]) (by simp [results, Tryz.results14, go_sem, vV, r0, r1, r2]) rfl ⟨rfl, HQ3.out.ret _ _ _⟩
set_option maxHeartbeats 4000000 in
theorem rscan_num_p (s r : ByteArray) (b : Bool) (M : Int) (h0 : (s.toList == [110, 117, 108, 108]) = false) (h1 : (s.toList == [116, 114, 117, 101]) = false) (h2 : (s.toList == [102, 97, 108, 115, 101]) = false) (h3 : 1 ≤ s.size) (h5 : s.size ≤ 20) (h4 : ¬ ((s[0]'(by omega)).toNat = 34 ∧ 2 ≤ s.size)) (hneg : isNeg s = false) (hN : dg (s.data.toList.drop (at0 false 0)) 0 = some M) (hne : (r.toList == s.toList) = b) (W : World) (hp : ∀ w, Calls Tryz.prog 45 #[.agg #[.int .i64 1, .int .i64 (wrap64 (-M)), .string ⟨#[]⟩]] w (RetS (.string r) w)) :
    Calls Tryz.prog 14 #[.string s] W (RetSc 1 (wrap64 (-M)) ⟨#[]⟩ b W) := by
  have HP := Lib.hid hp
  clear hp
  have HNE := Lib.hid hne
  clear hne
  have HN := Lib.hid hN
  clear hN
  have h45 : (((s[0]'(by omega)).toNat : Int) == 45) = false := by
    rw [neg_at (by omega)] at hneg
    rw [beq_eq_false_iff_ne] at hneg ⊢; omega
  clear hneg
  have HQ := Lib.hid (QS.start W)
  have hq4 : (2 ≤ s.size ∧ (((s[0]'(by omega)).toNat : Int) == 34) = false) ∨ s.size = 1 := by
    by_cases h : 2 ≤ s.size
    · exact .inl ⟨h, by rw [beq_eq_false_iff_ne]; omega⟩
    · exact .inr (by omega)
  clear h4
  have hd20 : decide ((s.size : Int) ≤ 20) = true := by rw [decide_eq_true_eq]; omega
  rcases hq4 with ⟨h22, h34⟩ | h11
  · go_enter Tryz.func14, Tryz.ntmps14
    go_upto_block 0 with fail
    generalize (W.alloc (.cells #[.int .i64 0, .int .i64 0, .string ⟨#[]⟩] 32)).alloc (.cells #[.int .i64 0, .int .i64 0, .string ⟨#[]⟩] 32) = w0 at HQ ⊢
    obtain ⟨x0, x1, x2, xx⟩ := HQ.out.cells
    have y0 := xx 0
    have HQ1 := Lib.hid (show QS W 1 0 ⟨#[]⟩ (w0.setCell ⟨W.heap.size + 1, 0, none⟩ (.int .i64 1)) from HQ.out.set 0 _ rfl)
    clear HQ xx
    go_wp2_with fail
    go_loopw [7] (fun i w' => RdL s false (some M) W i w') (fun i _ => s.size - (intOf i).toNat)
    case atStart => exact ⟨0, 0, rfl, by omega, HN.out, HQ1.out⟩
    case round =>
      obtain ⟨j, m, rfl, hj, he, hq⟩ := hrel
      clear x0 x1 x2 y0 HQ1 HN
      by_cases hpj : j < s.size
      · have ha : at0 false j = j := by unfold at0; rw [if_neg (by simp)]
        rcases Bool.eq_false_or_eq_true ((j : Int) == 0) with hj0b | hj0b
        all_goals
         by_cases hc : 48 ≤ (s[j]).toNat ∧ (s[j]).toNat ≤ 57
         · have HS := Lib.hid (RdL.step (neg := false) hpj ha hc he hq)
           obtain ⟨x0, x1, x2, xx⟩ := hq.cells
           have y1 := xx 1
           have z1 : wr.drew.cell? ⟨W.heap.size + 1, 1, none⟩ = some (.int .i64 m) := x1
           have zf : wr.drew.frozen? ⟨W.heap.size + 1, 1, none⟩ = false := y1
           have hlo : ¬ (((s[j]).toNat : Int) < 48) := by omega
           have hhi : ¬ ((57 : Int) < ((s[j]).toNat : Int)) := by omega
           unfold d1 at HS
           clear he hq xx hc
           go_wp2_with fail
           have hw8 : IntKind.u8.wrap (((s[j]).toNat : Int) - 48) = ((s[j]).toNat : Int) - 48 := by show _ % 256 = _; omega
           have hw9 : wrap64 (((s[j]).toNat : Int) - 48) = ((s[j]).toNat : Int) - 48 := by unfold wrap64; omega
           go_region
           all_goals
             go_wp2_with fail
             exact ⟨HS.out, by simp [intOf]; omega⟩
         · exfalso
           rw [ha, dg_no hpj hc] at he
           cases he
      · obtain rfl : j = s.size := by omega
        have ha : at0 false s.size = s.size := by unfold at0; rw [if_neg (by omega)]
        rw [ha, dg_all] at he
        injection he with he
        subst he
        obtain ⟨x0, x1, x2, xx⟩ := hq.cells
        have y1 := xx 1
        have HQ := Lib.hid (show QS W 1 (wrap64 (-m)) ⟨#[]⟩ (wr.setCell ⟨W.heap.size + 1, 1, none⟩ (.int .i64 (wrap64 (-m)))) from hq.set 1 _ rfl)
        clear hq ha xx
        have hne := HNE.out
        clear HNE
        obtain ⟨e0, e1, e2, _⟩ := HQ.out.cells
        go_wp2_with fail
        refine (HP.out _).mono ?_
        rintro e w3 ⟨rfl, hb⟩
        have HQ3 := Lib.hid (HQ.out.below hb)
        clear hb HQ e0 e1 e2
        obtain ⟨f0, f1, f2, gg⟩ := HQ3.out.rcells
        have q0 := gg 0
        have q1 := gg 1
        have q2 := gg 2
        obtain ⟨e0, e1, e2, _⟩ := HQ3.out.cells
        dsimp only
        cases b
        · go_wp2_with fail
          have r0 : (w3.setCell ⟨W.heap.size, 0, none⟩ (.int .i64 0)).cell? ⟨W.heap.size, 0, none⟩ = some (.int .i64 0) := by go_cell
          have r1 : ((w3.setCell ⟨W.heap.size, 0, none⟩ (.int .i64 0)).setCell ⟨W.heap.size, 1, none⟩ (.int .i64 0)).cell? ⟨W.heap.size, 1, none⟩ = some (.int .i64 0) := by go_cell
          have r2 : (((w3.setCell ⟨W.heap.size, 0, none⟩ (.int .i64 0)).setCell ⟨W.heap.size, 1, none⟩ (.int .i64 0)).setCell ⟨W.heap.size, 2, none⟩ (.string ⟨#[]⟩)).cell? ⟨W.heap.size, 2, none⟩ = some (.string ⟨#[]⟩) := by go_cell
          refine bodyPost_ret (v := .tuple #[vV 0 0 ⟨#[]⟩, .bool false]) (by simp [results, Tryz.results14, go_sem, vV, r0, r1, r2]) rfl ⟨rfl, HQ3.out.ret _ _ _⟩
        · go_wp2_with fail
          have r0 : (w3.setCell ⟨W.heap.size, 0, none⟩ (.int .i64 1)).cell? ⟨W.heap.size, 0, none⟩ = some (.int .i64 1) := by go_cell
          have r1 : ((w3.setCell ⟨W.heap.size, 0, none⟩ (.int .i64 1)).setCell ⟨W.heap.size, 1, none⟩ (.int .i64 (wrap64 (-m)))).cell? ⟨W.heap.size, 1, none⟩ = some (.int .i64 (wrap64 (-m))) := by go_cell
          have r2 : (((w3.setCell ⟨W.heap.size, 0, none⟩ (.int .i64 1)).setCell ⟨W.heap.size, 1, none⟩ (.int .i64 (wrap64 (-m)))).setCell ⟨W.heap.size, 2, none⟩ (.string ⟨#[]⟩)).cell? ⟨W.heap.size, 2, none⟩ = some (.string ⟨#[]⟩) := by go_cell
          refine bodyPost_ret (v := .tuple #[vV 1 (wrap64 (-m)) ⟨#[]⟩, .bool true]) (by simp [results, Tryz.results14, go_sem, vV, r0, r1, r2]) rfl ⟨rfl, HQ3.out.ret _ _ _⟩
  · go_enter Tryz.func14, Tryz.ntmps14
    go_upto_block 0 with fail
    generalize (W.alloc (.cells #[.int .i64 0, .int .i64 0, .string ⟨#[]⟩] 32)).alloc (.cells #[.int .i64 0, .int .i64 0, .string ⟨#[]⟩] 32) = w0 at HQ ⊢
    obtain ⟨x0, x1, x2, xx⟩ := HQ.out.cells
    have y0 := xx 0
    have HQ1 := Lib.hid (show QS W 1 0 ⟨#[]⟩ (w0.setCell ⟨W.heap.size + 1, 0, none⟩ (.int .i64 1)) from HQ.out.set 0 _ rfl)
    clear HQ xx
    go_wp2_with fail
    go_loopw [7] (fun i w' => RdL s false (some M) W i w') (fun i _ => s.size - (intOf i).toNat)
    case atStart => exact ⟨0, 0, rfl, by omega, HN.out, HQ1.out⟩
    case round =>
      obtain ⟨j, m, rfl, hj, he, hq⟩ := hrel
      clear x0 x1 x2 y0 HQ1 HN
      by_cases hpj : j < s.size
      · have ha : at0 false j = j := by unfold at0; rw [if_neg (by simp)]
        rcases Bool.eq_false_or_eq_true ((j : Int) == 0) with hj0b | hj0b
        all_goals
         by_cases hc : 48 ≤ (s[j]).toNat ∧ (s[j]).toNat ≤ 57
         · have HS := Lib.hid (RdL.step (neg := false) hpj ha hc he hq)
           obtain ⟨x0, x1, x2, xx⟩ := hq.cells
           have y1 := xx 1
           have z1 : wr.drew.cell? ⟨W.heap.size + 1, 1, none⟩ = some (.int .i64 m) := x1
           have zf : wr.drew.frozen? ⟨W.heap.size + 1, 1, none⟩ = false := y1
           have hlo : ¬ (((s[j]).toNat : Int) < 48) := by omega
           have hhi : ¬ ((57 : Int) < ((s[j]).toNat : Int)) := by omega
           unfold d1 at HS
           clear he hq xx hc
           go_wp2_with fail
           have hw8 : IntKind.u8.wrap (((s[j]).toNat : Int) - 48) = ((s[j]).toNat : Int) - 48 := by show _ % 256 = _; omega
           have hw9 : wrap64 (((s[j]).toNat : Int) - 48) = ((s[j]).toNat : Int) - 48 := by unfold wrap64; omega
           go_region
           all_goals
             go_wp2_with fail
             exact ⟨HS.out, by simp [intOf]; omega⟩
         · exfalso
           rw [ha, dg_no hpj hc] at he
           cases he
      · obtain rfl : j = s.size := by omega
        have ha : at0 false s.size = s.size := by unfold at0; rw [if_neg (by omega)]
        rw [ha, dg_all] at he
        injection he with he
        subst he
        obtain ⟨x0, x1, x2, xx⟩ := hq.cells
        have y1 := xx 1
        have HQ := Lib.hid (show QS W 1 (wrap64 (-m)) ⟨#[]⟩ (wr.setCell ⟨W.heap.size + 1, 1, none⟩ (.int .i64 (wrap64 (-m)))) from hq.set 1 _ rfl)
        clear hq ha xx
        have hne := HNE.out
        clear HNE
        obtain ⟨e0, e1, e2, _⟩ := HQ.out.cells
        go_wp2_with fail
        refine (HP.out _).mono ?_
        rintro e w3 ⟨rfl, hb⟩
        have HQ3 := Lib.hid (HQ.out.below hb)
        clear hb HQ e0 e1 e2
        obtain ⟨f0, f1, f2, gg⟩ := HQ3.out.rcells
        have q0 := gg 0
        have q1 := gg 1
        have q2 := gg 2
        obtain ⟨e0, e1, e2, _⟩ := HQ3.out.cells
        dsimp only
        cases b
        · go_wp2_with fail
          have r0 : (w3.setCell ⟨W.heap.size, 0, none⟩ (.int .i64 0)).cell? ⟨W.heap.size, 0, none⟩ = some (.int .i64 0) := by go_cell
          have r1 : ((w3.setCell ⟨W.heap.size, 0, none⟩ (.int .i64 0)).setCell ⟨W.heap.size, 1, none⟩ (.int .i64 0)).cell? ⟨W.heap.size, 1, none⟩ = some (.int .i64 0) := by go_cell
          have r2 : (((w3.setCell ⟨W.heap.size, 0, none⟩ (.int .i64 0)).setCell ⟨W.heap.size, 1, none⟩ (.int .i64 0)).setCell ⟨W.heap.size, 2, none⟩ (.string ⟨#[]⟩)).cell? ⟨W.heap.size, 2, none⟩ = some (.string ⟨#[]⟩) := by go_cell
          refine bodyPost_ret (v := .tuple #[vV 0 0 ⟨#[]⟩, .bool false]) (by simp [results, Tryz.results14, go_sem, vV, r0, r1, r2]) rfl ⟨rfl, HQ3.out.ret _ _ _⟩
        · go_wp2_with fail
          have r0 : (w3.setCell ⟨W.heap.size, 0, none⟩ (.int .i64 1)).cell? ⟨W.heap.size, 0, none⟩ = some (.int .i64 1) := by go_cell
          have r1 : ((w3.setCell ⟨W.heap.size, 0, none⟩ (.int .i64 1)).setCell ⟨W.heap.size, 1, none⟩ (.int .i64 (wrap64 (-m)))).cell? ⟨W.heap.size, 1, none⟩ = some (.int .i64 (wrap64 (-m))) := by go_cell
          have r2 : (((w3.setCell ⟨W.heap.size, 0, none⟩ (.int .i64 1)).setCell ⟨W.heap.size, 1, none⟩ (.int .i64 (wrap64 (-m)))).setCell ⟨W.heap.size, 2, none⟩ (.string ⟨#[]⟩)).cell? ⟨W.heap.size, 2, none⟩ = some (.string ⟨#[]⟩) := by go_cell
          refine bodyPost_ret (v := .tuple #[vV 1 (wrap64 (-m)) ⟨#[]⟩, .bool true]) (by simp [results, Tryz.results14, go_sem, vV, r0, r1, r2]) rfl ⟨rfl, HQ3.out.ret _ _ _⟩
set_option maxHeartbeats 4000000 in
theorem rscan_bad_n (s : ByteArray) (h0 : (s.toList == [110, 117, 108, 108]) = false) (h1 : (s.toList == [116, 114, 117, 101]) = false) (h2 : (s.toList == [102, 97, 108, 115, 101]) = false) (h3 : 1 ≤ s.size) (h5 : s.size ≤ 20) (h4 : ¬ ((s[0]'(by omega)).toNat = 34 ∧ 2 ≤ s.size)) (hneg : isNeg s = true) (hN : dg (s.data.toList.drop (at0 true 0)) 0 = none) (W : World) :
    Calls Tryz.prog 14 #[.string s] W (RetScan 0 0 ⟨#[]⟩ false W) := by
  have HN := Lib.hid hN
  clear hN
  have h45 : (((s[0]'(by omega)).toNat : Int) == 45) = true := by
    rw [neg_at (by omega)] at hneg
    rw [beq_iff_eq] at hneg ⊢; omega
  clear hneg
  have HQ := Lib.hid (QS.start W)
  have hq4 : (2 ≤ s.size ∧ (((s[0]'(by omega)).toNat : Int) == 34) = false) ∨ s.size = 1 := by
    by_cases h : 2 ≤ s.size
    · exact .inl ⟨h, by rw [beq_eq_false_iff_ne]; omega⟩
    · exact .inr (by omega)
  clear h4
  have hd20 : decide ((s.size : Int) ≤ 20) = true := by rw [decide_eq_true_eq]; omega
  rcases hq4 with ⟨h22, h34⟩ | h11
  · go_enter Tryz.func14, Tryz.ntmps14
    go_upto_block 0 with fail
    generalize (W.alloc (.cells #[.int .i64 0, .int .i64 0, .string ⟨#[]⟩] 32)).alloc (.cells #[.int .i64 0, .int .i64 0, .string ⟨#[]⟩] 32) = w0 at HQ ⊢
    obtain ⟨x0, x1, x2, xx⟩ := HQ.out.cells
    have y0 := xx 0
    have HQ1 := Lib.hid (show QS W 1 0 ⟨#[]⟩ (w0.setCell ⟨W.heap.size + 1, 0, none⟩ (.int .i64 1)) from HQ.out.set 0 _ rfl)
    clear HQ xx
    go_wp2_with fail
    go_loopw [7] (fun i w' => RdL s true none W i w') (fun i _ => s.size - (intOf i).toNat)
    case atStart => exact ⟨0, 0, rfl, by omega, HN.out, HQ1.out⟩
    case round =>
      obtain ⟨j, m, rfl, hj, he, hq⟩ := hrel
      clear x0 x1 x2 y0 HQ1 HN
      by_cases hpj : j < s.size
      · by_cases hj0 : j = 0
        · subst hj0
          have HS := Lib.hid (show RdL s true none W (.int .i64 (0 + 1 : Nat)) wr from ⟨1, m, rfl, by omega, by rw [← he]; rfl, hq⟩)
          clear he hq
          go_wp2_with fail
          exact ⟨HS.out, by simp [intOf]; omega⟩
        have hj0b : (((j : Nat) : Int) == 0) = false := by rw [beq_eq_false_iff_ne]; omega
        have ha : at0 true j = j := by unfold at0; rw [if_neg (by omega)]
        by_cases hc : 48 ≤ (s[j]).toNat ∧ (s[j]).toNat ≤ 57
        · have HS := Lib.hid (RdL.step (neg := true) hpj ha hc he hq)
          obtain ⟨x0, x1, x2, xx⟩ := hq.cells
          have y1 := xx 1
          have z1 : wr.drew.cell? ⟨W.heap.size + 1, 1, none⟩ = some (.int .i64 m) := x1
          have zf : wr.drew.frozen? ⟨W.heap.size + 1, 1, none⟩ = false := y1
          have hlo : ¬ (((s[j]).toNat : Int) < 48) := by omega
          have hhi : ¬ ((57 : Int) < ((s[j]).toNat : Int)) := by omega
          unfold d1 at HS
          clear he hq xx hc
          go_wp2_with fail
          have hw8 : IntKind.u8.wrap (((s[j]).toNat : Int) - 48) = ((s[j]).toNat : Int) - 48 := by show _ % 256 = _; omega
          have hw9 : wrap64 (((s[j]).toNat : Int) - 48) = ((s[j]).toNat : Int) - 48 := by unfold wrap64; omega
          go_region
          all_goals
            go_wp2_with fail
            exact ⟨HS.out, by simp [intOf]; omega⟩
        · have HQ3 := Lib.hid hq
          obtain ⟨f0, f1, f2, gg⟩ := hq.rcells
          have q0 := gg 0
          have q1 := gg 1
          have q2 := gg 2
          clear he hq gg
          by_cases hlo : (((s[j]).toNat : Int) < 48)
          · go_wp2_with fail
            have r0 : (wr.setCell ⟨W.heap.size, 0, none⟩ (.int .i64 0)).cell? ⟨W.heap.size, 0, none⟩ = some (.int .i64 0) := by go_cell
            have r1 : ((wr.setCell ⟨W.heap.size, 0, none⟩ (.int .i64 0)).setCell ⟨W.heap.size, 1, none⟩ (.int .i64 0)).cell? ⟨W.heap.size, 1, none⟩ = some (.int .i64 0) := by go_cell
            have r2 : (((wr.setCell ⟨W.heap.size, 0, none⟩ (.int .i64 0)).setCell ⟨W.heap.size, 1, none⟩ (.int .i64 0)).setCell ⟨W.heap.size, 2, none⟩ (.string ⟨#[]⟩)).cell? ⟨W.heap.size, 2, none⟩ = some (.string ⟨#[]⟩) := by go_cell
            refine bodyPost_ret (v := .tuple #[vV 0 0 ⟨#[]⟩, .bool false]) (by simp [results, Tryz.results14, go_sem, vV, r0, r1, r2]) rfl ⟨rfl, HQ3.out.ret _ _ _⟩
          · have hhi : (57 : Int) < ((s[j]).toNat : Int) := by omega
            go_wp2_with fail
            have r0 : (wr.setCell ⟨W.heap.size, 0, none⟩ (.int .i64 0)).cell? ⟨W.heap.size, 0, none⟩ = some (.int .i64 0) := by go_cell
            have r1 : ((wr.setCell ⟨W.heap.size, 0, none⟩ (.int .i64 0)).setCell ⟨W.heap.size, 1, none⟩ (.int .i64 0)).cell? ⟨W.heap.size, 1, none⟩ = some (.int .i64 0) := by go_cell
            have r2 : (((wr.setCell ⟨W.heap.size, 0, none⟩ (.int .i64 0)).setCell ⟨W.heap.size, 1, none⟩ (.int .i64 0)).setCell ⟨W.heap.size, 2, none⟩ (.string ⟨#[]⟩)).cell? ⟨W.heap.size, 2, none⟩ = some (.string ⟨#[]⟩) := by go_cell
            refine bodyPost_ret (v := .tuple #[vV 0 0 ⟨#[]⟩, .bool false]) (by simp [results, Tryz.results14, go_sem, vV, r0, r1, r2]) rfl ⟨rfl, HQ3.out.ret _ _ _⟩
      · obtain rfl : j = s.size := by omega
        have ha : at0 true s.size = s.size := by unfold at0; rw [if_neg (by omega)]
        rw [ha, dg_all] at he
        cases he
  · go_enter Tryz.func14, Tryz.ntmps14
    go_upto_block 0 with fail
    generalize (W.alloc (.cells #[.int .i64 0, .int .i64 0, .string ⟨#[]⟩] 32)).alloc (.cells #[.int .i64 0, .int .i64 0, .string ⟨#[]⟩] 32) = w0 at HQ ⊢
    obtain ⟨x0, x1, x2, xx⟩ := HQ.out.cells
    have y0 := xx 0
    have HQ1 := Lib.hid (show QS W 1 0 ⟨#[]⟩ (w0.setCell ⟨W.heap.size + 1, 0, none⟩ (.int .i64 1)) from HQ.out.set 0 _ rfl)
    clear HQ xx
    go_wp2_with fail
    go_loopw [7] (fun i w' => RdL s true none W i w') (fun i _ => s.size - (intOf i).toNat)
    case atStart => exact ⟨0, 0, rfl, by omega, HN.out, HQ1.out⟩
    case round =>
      obtain ⟨j, m, rfl, hj, he, hq⟩ := hrel
      clear x0 x1 x2 y0 HQ1 HN
      by_cases hpj : j < s.size
      · by_cases hj0 : j = 0
        · subst hj0
          have HS := Lib.hid (show RdL s true none W (.int .i64 (0 + 1 : Nat)) wr from ⟨1, m, rfl, by omega, by rw [← he]; rfl, hq⟩)
          clear he hq
          go_wp2_with fail
          exact ⟨HS.out, by simp [intOf]; omega⟩
        exfalso; omega
      · obtain rfl : j = s.size := by omega
        have ha : at0 true s.size = s.size := by unfold at0; rw [if_neg (by omega)]
        rw [ha, dg_all] at he
        cases he
set_option maxHeartbeats 4000000 in
theorem rscan_bad_p (s : ByteArray) (h0 : (s.toList == [110, 117, 108, 108]) = false) (h1 : (s.toList == [116, 114, 117, 101]) = false) (h2 : (s.toList == [102, 97, 108, 115, 101]) = false) (h3 : 1 ≤ s.size) (h5 : s.size ≤ 20) (h4 : ¬ ((s[0]'(by omega)).toNat = 34 ∧ 2 ≤ s.size)) (hneg : isNeg s = false) (hN : dg (s.data.toList.drop (at0 false 0)) 0 = none) (W : World) :
    Calls Tryz.prog 14 #[.string s] W (RetScan 0 0 ⟨#[]⟩ false W) := by
  have HN := Lib.hid hN
  clear hN
  have h45 : (((s[0]'(by omega)).toNat : Int) == 45) = false := by
    rw [neg_at (by omega)] at hneg
    rw [beq_eq_false_iff_ne] at hneg ⊢; omega
  clear hneg
  have HQ := Lib.hid (QS.start W)
  have hq4 : (2 ≤ s.size ∧ (((s[0]'(by omega)).toNat : Int) == 34) = false) ∨ s.size = 1 := by
    by_cases h : 2 ≤ s.size
    · exact .inl ⟨h, by rw [beq_eq_false_iff_ne]; omega⟩
    · exact .inr (by omega)
  clear h4
  have hd20 : decide ((s.size : Int) ≤ 20) = true := by rw [decide_eq_true_eq]; omega
  rcases hq4 with ⟨h22, h34⟩ | h11
  · go_enter Tryz.func14, Tryz.ntmps14
    go_upto_block 0 with fail
    generalize (W.alloc (.cells #[.int .i64 0, .int .i64 0, .string ⟨#[]⟩] 32)).alloc (.cells #[.int .i64 0, .int .i64 0, .string ⟨#[]⟩] 32) = w0 at HQ ⊢
    obtain ⟨x0, x1, x2, xx⟩ := HQ.out.cells
    have y0 := xx 0
    have HQ1 := Lib.hid (show QS W 1 0 ⟨#[]⟩ (w0.setCell ⟨W.heap.size + 1, 0, none⟩ (.int .i64 1)) from HQ.out.set 0 _ rfl)
    clear HQ xx
    go_wp2_with fail
    go_loopw [7] (fun i w' => RdL s false none W i w') (fun i _ => s.size - (intOf i).toNat)
    case atStart => exact ⟨0, 0, rfl, by omega, HN.out, HQ1.out⟩
    case round =>
      obtain ⟨j, m, rfl, hj, he, hq⟩ := hrel
      clear x0 x1 x2 y0 HQ1 HN
      by_cases hpj : j < s.size
      · have ha : at0 false j = j := by unfold at0; rw [if_neg (by simp)]
        rcases Bool.eq_false_or_eq_true ((j : Int) == 0) with hj0b | hj0b
        all_goals
         by_cases hc : 48 ≤ (s[j]).toNat ∧ (s[j]).toNat ≤ 57
         · have HS := Lib.hid (RdL.step (neg := false) hpj ha hc he hq)
           obtain ⟨x0, x1, x2, xx⟩ := hq.cells
           have y1 := xx 1
           have z1 : wr.drew.cell? ⟨W.heap.size + 1, 1, none⟩ = some (.int .i64 m) := x1
           have zf : wr.drew.frozen? ⟨W.heap.size + 1, 1, none⟩ = false := y1
           have hlo : ¬ (((s[j]).toNat : Int) < 48) := by omega
           have hhi : ¬ ((57 : Int) < ((s[j]).toNat : Int)) := by omega
           unfold d1 at HS
           clear he hq xx hc
           go_wp2_with fail
           have hw8 : IntKind.u8.wrap (((s[j]).toNat : Int) - 48) = ((s[j]).toNat : Int) - 48 := by show _ % 256 = _; omega
           have hw9 : wrap64 (((s[j]).toNat : Int) - 48) = ((s[j]).toNat : Int) - 48 := by unfold wrap64; omega
           go_region
           all_goals
             go_wp2_with fail
             exact ⟨HS.out, by simp [intOf]; omega⟩
         · have HQ3 := Lib.hid hq
           obtain ⟨f0, f1, f2, gg⟩ := hq.rcells
           have q0 := gg 0
           have q1 := gg 1
           have q2 := gg 2
           clear he hq gg
           by_cases hlo : (((s[j]).toNat : Int) < 48)
           · go_wp2_with fail
             have r0 : (wr.setCell ⟨W.heap.size, 0, none⟩ (.int .i64 0)).cell? ⟨W.heap.size, 0, none⟩ = some (.int .i64 0) := by go_cell
             have r1 : ((wr.setCell ⟨W.heap.size, 0, none⟩ (.int .i64 0)).setCell ⟨W.heap.size, 1, none⟩ (.int .i64 0)).cell? ⟨W.heap.size, 1, none⟩ = some (.int .i64 0) := by go_cell
             have r2 : (((wr.setCell ⟨W.heap.size, 0, none⟩ (.int .i64 0)).setCell ⟨W.heap.size, 1, none⟩ (.int .i64 0)).setCell ⟨W.heap.size, 2, none⟩ (.string ⟨#[]⟩)).cell? ⟨W.heap.size, 2, none⟩ = some (.string ⟨#[]⟩) := by go_cell
             refine bodyPost_ret (v := .tuple #[vV 0 0 ⟨#[]⟩, .bool false]) (by simp [results, Tryz.results14, go_sem, vV, r0, r1, r2]) rfl ⟨rfl, HQ3.out.ret _ _ _⟩
           · have hhi : (57 : Int) < ((s[j]).toNat : Int) := by omega
             go_wp2_with fail
             have r0 : (wr.setCell ⟨W.heap.size, 0, none⟩ (.int .i64 0)).cell? ⟨W.heap.size, 0, none⟩ = some (.int .i64 0) := by go_cell
             have r1 : ((wr.setCell ⟨W.heap.size, 0, none⟩ (.int .i64 0)).setCell ⟨W.heap.size, 1, none⟩ (.int .i64 0)).cell? ⟨W.heap.size, 1, none⟩ = some (.int .i64 0) := by go_cell
             have r2 : (((wr.setCell ⟨W.heap.size, 0, none⟩ (.int .i64 0)).setCell ⟨W.heap.size, 1, none⟩ (.int .i64 0)).setCell ⟨W.heap.size, 2, none⟩ (.string ⟨#[]⟩)).cell? ⟨W.heap.size, 2, none⟩ = some (.string ⟨#[]⟩) := by go_cell
             refine bodyPost_ret (v := .tuple #[vV 0 0 ⟨#[]⟩, .bool false]) (by simp [results, Tryz.results14, go_sem, vV, r0, r1, r2]) rfl ⟨rfl, HQ3.out.ret _ _ _⟩
      · obtain rfl : j = s.size := by omega
        have ha : at0 false s.size = s.size := by unfold at0; rw [if_neg (by omega)]
        rw [ha, dg_all] at he
        cases he
  · go_enter Tryz.func14, Tryz.ntmps14
    go_upto_block 0 with fail
    generalize (W.alloc (.cells #[.int .i64 0, .int .i64 0, .string ⟨#[]⟩] 32)).alloc (.cells #[.int .i64 0, .int .i64 0, .string ⟨#[]⟩] 32) = w0 at HQ ⊢
    obtain ⟨x0, x1, x2, xx⟩ := HQ.out.cells
    have y0 := xx 0
    have HQ1 := Lib.hid (show QS W 1 0 ⟨#[]⟩ (w0.setCell ⟨W.heap.size + 1, 0, none⟩ (.int .i64 1)) from HQ.out.set 0 _ rfl)
    clear HQ xx
    go_wp2_with fail
    go_loopw [7] (fun i w' => RdL s false none W i w') (fun i _ => s.size - (intOf i).toNat)
    case atStart => exact ⟨0, 0, rfl, by omega, HN.out, HQ1.out⟩
    case round =>
      obtain ⟨j, m, rfl, hj, he, hq⟩ := hrel
      clear x0 x1 x2 y0 HQ1 HN
      by_cases hpj : j < s.size
      · have ha : at0 false j = j := by unfold at0; rw [if_neg (by simp)]
        rcases Bool.eq_false_or_eq_true ((j : Int) == 0) with hj0b | hj0b
        all_goals
         by_cases hc : 48 ≤ (s[j]).toNat ∧ (s[j]).toNat ≤ 57
         · have HS := Lib.hid (RdL.step (neg := false) hpj ha hc he hq)
           obtain ⟨x0, x1, x2, xx⟩ := hq.cells
           have y1 := xx 1
           have z1 : wr.drew.cell? ⟨W.heap.size + 1, 1, none⟩ = some (.int .i64 m) := x1
           have zf : wr.drew.frozen? ⟨W.heap.size + 1, 1, none⟩ = false := y1
           have hlo : ¬ (((s[j]).toNat : Int) < 48) := by omega
           have hhi : ¬ ((57 : Int) < ((s[j]).toNat : Int)) := by omega
           unfold d1 at HS
           clear he hq xx hc
           go_wp2_with fail
           have hw8 : IntKind.u8.wrap (((s[j]).toNat : Int) - 48) = ((s[j]).toNat : Int) - 48 := by show _ % 256 = _; omega
           have hw9 : wrap64 (((s[j]).toNat : Int) - 48) = ((s[j]).toNat : Int) - 48 := by unfold wrap64; omega
           go_region
           all_goals
             go_wp2_with fail
             exact ⟨HS.out, by simp [intOf]; omega⟩
         · have HQ3 := Lib.hid hq
           obtain ⟨f0, f1, f2, gg⟩ := hq.rcells
           have q0 := gg 0
           have q1 := gg 1
           have q2 := gg 2
           clear he hq gg
           by_cases hlo : (((s[j]).toNat : Int) < 48)
           · go_wp2_with fail
             have r0 : (wr.setCell ⟨W.heap.size, 0, none⟩ (.int .i64 0)).cell? ⟨W.heap.size, 0, none⟩ = some (.int .i64 0) := by go_cell
             have r1 : ((wr.setCell ⟨W.heap.size, 0, none⟩ (.int .i64 0)).setCell ⟨W.heap.size, 1, none⟩ (.int .i64 0)).cell? ⟨W.heap.size, 1, none⟩ = some (.int .i64 0) := by go_cell
             have r2 : (((wr.setCell ⟨W.heap.size, 0, none⟩ (.int .i64 0)).setCell ⟨W.heap.size, 1, none⟩ (.int .i64 0)).setCell ⟨W.heap.size, 2, none⟩ (.string ⟨#[]⟩)).cell? ⟨W.heap.size, 2, none⟩ = some (.string ⟨#[]⟩) := by go_cell
             refine bodyPost_ret (v := .tuple #[vV 0 0 ⟨#[]⟩, .bool false]) (by simp [results, Tryz.results14, go_sem, vV, r0, r1, r2]) rfl ⟨rfl, HQ3.out.ret _ _ _⟩
           · have hhi : (57 : Int) < ((s[j]).toNat : Int) := by omega
             go_wp2_with fail
             have r0 : (wr.setCell ⟨W.heap.size, 0, none⟩ (.int .i64 0)).cell? ⟨W.heap.size, 0, none⟩ = some (.int .i64 0) := by go_cell
             have r1 : ((wr.setCell ⟨W.heap.size, 0, none⟩ (.int .i64 0)).setCell ⟨W.heap.size, 1, none⟩ (.int .i64 0)).cell? ⟨W.heap.size, 1, none⟩ = some (.int .i64 0) := by go_cell
             have r2 : (((wr.setCell ⟨W.heap.size, 0, none⟩ (.int .i64 0)).setCell ⟨W.heap.size, 1, none⟩ (.int .i64 0)).setCell ⟨W.heap.size, 2, none⟩ (.string ⟨#[]⟩)).cell? ⟨W.heap.size, 2, none⟩ = some (.string ⟨#[]⟩) := by go_cell
             refine bodyPost_ret (v := .tuple #[vV 0 0 ⟨#[]⟩, .bool false]) (by simp [results, Tryz.results14, go_sem, vV, r0, r1, r2]) rfl ⟨rfl, HQ3.out.ret _ _ _⟩
      · obtain rfl : j = s.size := by omega
        have ha : at0 false s.size = s.size := by unfold at0; rw [if_neg (by omega)]
        rw [ha, dg_all] at he
        cases he
end Go.Proofs.YtcjidlgmbjebjaaGreatDoor
