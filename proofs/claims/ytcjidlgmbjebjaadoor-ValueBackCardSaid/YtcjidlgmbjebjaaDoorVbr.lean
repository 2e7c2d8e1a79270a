/- A part of the proof of ValueBack. -/
import Derived.Test.YtcjidlgmbjebjaaDoorVbq
import Derived.Test.YtcjidlgmbjebjaaDoorVbj
import Derived.Test.YtcjidlgmbjebjaaDoorVbg
import Derived.Test.YtcjidlgmbjebjaaDoorVbl
import Derived.Test.YtcjidlgmbjebjaaDoorVbn
import Derived.Deep.RegionHeld3
set_option linter.unusedVariables false
set_option linter.unusedSimpArgs false
set_option maxRecDepth 100000
namespace Go.Proofs.YtcjidlgmbjebjaaDoor
open Go Go.RowKit Go.Proofs.YtcjidlgmbjebjaaDoorW.PrintWords
theorem own_notR {w wf : World} {R B n : Nat} {v : Value} {xs : List Value} {cs : Array Value} (h : w.ownsRow B 51 3 v n xs) (hR : BlkAt w R cs 46) (hk : Keep1 R w wf) : wf.ownsRow B 51 3 v n xs := by
  refine h.kept (keep_grown hk) ?_
  rcases h.2 with ⟨rfl, _⟩ | ⟨g, cap, cur, rfl, _, hg, _⟩
  · exact .inl rfl
  · refine .inr fun e => ?_
    injection e with e
    subst e
    have := hg.symm.trans hR
    injection this with this
    injection this with _ e2 _
    cases e2
def RetFr (p : Nat) (row : Int) (s : Sb.Src) (W : World) (e : Ending) (w' : World) : Prop :=
  SrcP w' p (Sb.sFrom okV s).2 ∧ Keep1 p W w' ∧ ((∃ lb vs B bA bn bc vA vn vc, (Sb.sFrom okV s).1 = some (lb, vs) ∧ e = .returned (.tuple #[.agg #[.int .i64 row, .slice bA bn bc, .slice vA vn vc], .bool true]) ∧ SlB w' (.slice bA bn bc) lb ∧ w'.ownsRow B 51 3 (.slice vA vn vc) vs.length (flat3 vs)) ∨
    ((Sb.sFrom okV s).1 = none ∧ e = .returned (.tuple #[.agg #[.int .i64 0, .slice none 0 0, .slice none 0 0], .bool false])))
set_option maxHeartbeats 2000000 in
theorem From_val (p : Nat) (row : Int) (s : Sb.Src) (I0 : Inv s) (W : World) (hs : SrcP W p s) : Calls Tryd.prog 100 #[.pointer (some ⟨p, 0, none⟩), .int .i64 row] W (RetFr p row s W) := by
  have hpl := src_lt hs
  have HF := Lib.hid (fun w h => from_val p row s I0 w h)
  unfold RetFrom at HF
  have HS := Lib.hid (src_alloc hs (.cells #[.int .i64 0, .slice none 0 0, .slice none 0 0] 46))
  have HR := Lib.hid (show BlkAt (W.alloc (.cells #[.int .i64 0, .slice none 0 0, .slice none 0 0] 46)) W.heap.size #[.int .i64 0, .slice none 0 0, .slice none 0 0] 46 from hp_new _ _ _ rfl)
  have HK := Lib.hid ((Keep1.refl p W).alloc (.cells #[.int .i64 0, .slice none 0 0, .slice none 0 0] 46))
  clear hs
  go_enter Tryd.func100, Tryd.ntmps100
  go_wp2_with fail
  (with_reducible refine Calls.mono (HF.out _ HS.out) ?_)
  rintro _ w1 ⟨hs1, hk1, bA, bn, bc, vA, vn, vc, ⟨lb, vs, B, hfr, rfl, hb, hv⟩ | ⟨hfr, rfl⟩⟩
  · have hR1 := blk_keep HR.out hk1 (by omega)
    have hz := hk1.size
    simp only [World.alloc, Array.size_push] at hz
    have hlt := blk_lt hR1
    have hs2 := src_alloc hs1 (.cells #[.int .i64 row, .slice bA bn bc, .slice vA vn vc] 46)
    have hR2 := blk_alloc hR1 (.cells #[.int .i64 row, .slice bA bn bc, .slice vA vn vc] 46)
    have hal : Below w1.heap.size w1 (w1.alloc (.cells #[.int .i64 row, .slice bA bn bc, .slice vA vn vc] 46)) := (Below.refl _ _).alloc (Nat.le_refl _) _
    have hb2 := slb_below hb hal
    have hv2 := own_below hv hal
    have hk2 := (HK.out.trans hk1).alloc (.cells #[.int .i64 row, .slice bA bn bc, .slice vA vn vc] 46)
    have hnb : NoByte (w1.alloc (.cells #[.int .i64 row, .slice bA bn bc, .slice vA vn vc] 46)) W.heap.size := nobyte_ft (row := 0) (b := .slice none 0 0) (v := .slice none 0 0) hR2 ⟨_, _, _, rfl⟩ ⟨_, _, _, rfl⟩
    have HS2 := Lib.hid hs2
    have HR2 := Lib.hid hR2
    have HB2 := Lib.hid hb2
    have HV2 := Lib.hid hv2
    have HK2 := Lib.hid hk2
    have HNB := Lib.hid hnb
    have HFR := Lib.hid hfr
    clear hs1 hk1 hb hv hR1 hs2 hR2 hal hb2 hv2 hk2 hnb hfr hz
    dsimp only
    go_wp2_with (refine wpList_rowK (by rfl) _ _ 46 (by rfl) (by rfl) (by rfl) HR2.out (by exact size46) (by rfl) (by simp [Value.oneCell']) ?_)
    intro wf hbf hkf
    have d0 : World.cell? wf ⟨W.heap.size, 0, none⟩ = some (.int .i64 row) := blk_cell hbf 0 _ rfl
    have d1 : World.cell? wf ⟨W.heap.size, 1, none⟩ = some (.slice bA bn bc) := blk_cell hbf 1 _ rfl
    have d2 : World.cell? wf ⟨W.heap.size, 2, none⟩ = some (.slice vA vn vc) := blk_cell hbf 2 _ rfl
    have HF1 := Lib.hid (src_keep HS2.out HNB.out (by omega) hkf)
    have HF2 := Lib.hid (keep_new HK2.out hkf (Nat.le_refl _))
    have HF3 := Lib.hid (slb_keep HB2.out HNB.out hkf)
    have HF4 := Lib.hid (own_notR HV2.out HR2.out hkf)
    clear hbf hkf
    go_wp2_with fail
    refine bodyPost_ret (v := .tuple #[.agg #[.int .i64 row, .slice bA bn bc, .slice vA vn vc], .bool true]) (by simp [results, Tryd.results100, go_sem, d0, d1, d2]) rfl ⟨HF1.out, HF2.out, .inl ⟨lb, vs, B, bA, bn, bc, vA, vn, vc, HFR.out, rfl, HF3.out, HF4.out⟩⟩
  · have hR1 := blk_keep HR.out hk1 (by omega)
    have hlt := blk_lt hR1
    have hs2 := src_alloc hs1 (.cells #[.int .i64 row, .slice bA bn bc, .slice vA vn vc] 46)
    have hR2 := blk_alloc hR1 (.cells #[.int .i64 row, .slice bA bn bc, .slice vA vn vc] 46)
    have hk2 := (HK.out.trans hk1).alloc (.cells #[.int .i64 row, .slice bA bn bc, .slice vA vn vc] 46)
    have hnb : NoByte (w1.alloc (.cells #[.int .i64 row, .slice bA bn bc, .slice vA vn vc] 46)) W.heap.size := nobyte_ft (row := 0) (b := .slice none 0 0) (v := .slice none 0 0) hR2 ⟨_, _, _, rfl⟩ ⟨_, _, _, rfl⟩
    have HS2 := Lib.hid hs2
    have HR2 := Lib.hid hR2
    have HK2 := Lib.hid hk2
    have HNB := Lib.hid hnb
    have HFR := Lib.hid hfr
    clear hs1 hk1 hR1 hs2 hR2 hk2 hnb hfr
    dsimp only
    go_wp2_with (refine wpList_rowK (by rfl) _ _ 46 (by rfl) (by rfl) (by rfl) HR2.out (by exact size46) (by rfl) (by simp [Value.oneCell']) ?_)
    intro wf hbf hkf
    have d0 : World.cell? wf ⟨W.heap.size, 0, none⟩ = some (.int .i64 0) := blk_cell hbf 0 _ rfl
    have d1 : World.cell? wf ⟨W.heap.size, 1, none⟩ = some (.slice none 0 0) := blk_cell hbf 1 _ rfl
    have d2 : World.cell? wf ⟨W.heap.size, 2, none⟩ = some (.slice none 0 0) := blk_cell hbf 2 _ rfl
    have HF1 := Lib.hid (src_keep HS2.out HNB.out (by omega) hkf)
    have HF2 := Lib.hid (keep_new HK2.out hkf (Nat.le_refl _))
    clear hbf hkf
    go_wp2_with fail
    refine bodyPost_ret (v := .tuple #[.agg #[.int .i64 0, .slice none 0 0, .slice none 0 0], .bool false]) (by simp [results, Tryd.results100, go_sem, d0, d1, d2]) rfl ⟨HF1.out, HF2.out, .inr ⟨HFR.out, rfl⟩⟩
end Go.Proofs.YtcjidlgmbjebjaaDoor

namespace Go.Proofs.YtcjidlgmbjebjaaDoor
open Go Go.RowKit Go.Proofs.YtcjidlgmbjebjaaDoorW.PrintWords
def RetPv (row : Int) (l : List Int) (W : World) (e : Ending) (w' : World) : Prop :=
  Below W.heap.size W w' ∧ ((∃ lb vs B bA bn bc vA vn vc, Sb.parseF okV l = some (lb, vs) ∧ e = .returned (.tuple #[.agg #[.int .i64 row, .slice bA bn bc, .slice vA vn vc], .int .i64 0]) ∧ SlB w' (.slice bA bn bc) lb ∧ w'.ownsRow B 51 3 (.slice vA vn vc) vs.length (flat3 vs)) ∨
    (Sb.parseF okV l = none ∧ e = .returned (.tuple #[.agg #[.int .i64 0, .slice none 0 0, .slice none 0 0], .int .i64 9])))
theorem parseF_yes {l : List Int} {s : Sb.Src} {x : List Int × List Sb.V3} (h1 : (Sb.sFrom okV (0, l)).1 = some x) (h2 : (Sb.sFrom okV (0, l)).2 = s) (h : s = (0, [])) : Sb.parseF okV l = some x := by
  unfold Sb.parseF; rw [h2, if_pos h, h1]
theorem parseF_no1 {l : List Int} {s : Sb.Src} (h2 : (Sb.sFrom okV (0, l)).2 = s) (h : s ≠ (0, [])) : Sb.parseF okV l = none := by
  unfold Sb.parseF; rw [h2, if_neg h]
theorem parseF_no2 {l : List Int} (h1 : (Sb.sFrom okV (0, l)).1 = none) : Sb.parseF okV l = none := by
  unfold Sb.parseF; split
  · exact h1
  · rfl
theorem endOf_nz {sf : Sb.Src} (h : sf ≠ (0, [])) : endOf sf ≠ 0 := by
  intro h9
  apply h
  unfold endOf at h9
  by_cases h0 : sf.1 = 0
  · rw [if_pos h0] at h9
    by_cases h1 : sf.2 = []
    · exact Prod.ext h0 h1
    · rw [if_neg h1] at h9; cases h9
  · rw [if_neg h0] at h9; exact absurd h9 h0
set_option maxHeartbeats 2000000 in
theorem vparse_val (row : Int) (v0 : Value) (l : List Int) (hb : Byt l) (hl : l.length ≤ 100000) (W : World) (hv : SlB W v0 l) : Calls Tryd.prog 45 #[.int .i64 row, v0] W (RetPv row l W) := by
  have HV := Lib.hid (slb_alloc hv (.cells #[.int .i64 0, .slice none 0 0, .slice none 0 0] 46))
  obtain ⟨A0, c0, rfl, hc0, _⟩ := hv
  have HR := Lib.hid (fun w h => read_val (.slice A0 l.length c0) l w h (by omega))
  have I0 : Inv (0, l) := ⟨hb, by show l.length ≤ _; omega⟩
  have HFM := Lib.hid (fun p w h => From_val p row (0, l) I0 w h)
  unfold RetFr at HFM
  obtain ⟨sf, hsf⟩ : ∃ sf, (Sb.sFrom okV (0, l)).2 = sf := ⟨_, rfl⟩
  rw [hsf] at HFM
  have HB0 := Lib.hid (show BlkAt (W.alloc (.cells #[.int .i64 0, .slice none 0 0, .slice none 0 0] 46)) W.heap.size #[.int .i64 0, .slice none 0 0, .slice none 0 0] 46 from hp_new _ _ _ rfl)
  have HK0 := Lib.hid ((Below.refl W.heap.size W).alloc (Nat.le_refl _) (.cells #[.int .i64 0, .slice none 0 0, .slice none 0 0] 46))
  generalize l.length = M0 at HV HR hc0
  go_enter Tryd.func45, Tryd.ntmps45
  go_wp2_with fail
  (with_reducible refine Calls.mono (HR.out _ HV.out) ?_)
  rintro _ w1 ⟨p, rfl, hp, hs1, hb1⟩
  have hR1 := blk_below HB0.out hb1
  have hB1 := below_step HK0.out hb1
  have hpl := src_lt hs1
  have hpW : W.heap.size < p := by simp at hp; omega
  clear hb1 hp
  dsimp only
  go_wp2_with fail
  (with_reducible refine Calls.mono (HFM.out p _ hs1) ?_)
  rintro _ w2 ⟨hs2, hk2, ⟨lb, vs, B, bA, bn, bc, vA, vn, vc, hfr, rfl, hbl, hvl⟩ | ⟨hfr, rfl⟩⟩
  · have hR2 := blk_keep hR1 hk2 (by omega)
    have hB2 := hk2.below hB1 (by omega) hB1.size
    have hal : Below w2.heap.size w2 (w2.alloc (.cells #[.int .i64 row, .slice bA bn bc, .slice vA vn vc] 46)) := (Below.refl _ _).alloc (Nat.le_refl _) _
    have hs3 := src_below hs2 hal
    have hR3 := blk_below hR2 hal
    have hB3 := below_step hB2 hal
    have hbl3 := slb_below hbl hal
    have hvl3 := own_below hvl hal
    have HE := Lib.hid (end_val p sf _ hs3)
    have hlt2 := blk_lt hR2
    clear hs1 hs2 hk2 hR1 hR2 hB1 hB2 hal hbl hvl
    have HRR := Lib.hid hR3
    have HBL := Lib.hid hbl3
    have HVL := Lib.hid hvl3
    have hnb : NoByte (w2.alloc (.cells #[.int .i64 row, .slice bA bn bc, .slice vA vn vc] 46)) W.heap.size := nobyte_ft (row := 0) (b := .slice none 0 0) (v := .slice none 0 0) hR3 ⟨_, _, _, rfl⟩ ⟨_, _, _, rfl⟩
    have HNB := Lib.hid hnb
    have HB3 := Lib.hid hB3
    clear hs3 hR3 hbl3 hvl3 hnb hB3
    by_cases hend : sf = (0, [])
    · have HPP := Lib.hid (parseF_yes hfr hsf hend)
      have hez : endOf sf = 0 := by rw [hend]; rfl
      rw [hez] at HE
      clear hez hend hfr hsf
      dsimp only
      go_wp2_with fail
      (with_reducible refine Calls.mono HE.out ?_)
      rintro _ w4 ⟨rfl, rfl⟩
      dsimp only
      go_wp2_with (refine wpList_rowK (by rfl) _ _ 46 (by rfl) (by rfl) (by rfl) HRR.out (by exact size46) (by rfl) (by simp [Value.oneCell']) ?_)
      intro wf hbf hkf
      have d0 : World.cell? wf ⟨W.heap.size, 0, none⟩ = some (.int .i64 row) := blk_cell hbf 0 _ rfl
      have d1 : World.cell? wf ⟨W.heap.size, 1, none⟩ = some (.slice bA bn bc) := blk_cell hbf 1 _ rfl
      have d2 : World.cell? wf ⟨W.heap.size, 2, none⟩ = some (.slice vA vn vc) := blk_cell hbf 2 _ rfl
      have HF2 := Lib.hid (hkf.below HB3.out (Nat.le_refl _) HB3.out.size)
      have HF3 := Lib.hid (slb_keep HBL.out HNB.out hkf)
      have HF4 := Lib.hid (own_notR HVL.out HRR.out hkf)
      clear hbf hkf
      go_wp2_with fail
      refine bodyPost_ret (v := .tuple #[.agg #[.int .i64 row, .slice bA bn bc, .slice vA vn vc], .int .i64 0]) (by simp [results, Tryd.results45, go_sem, d0, d1, d2]) rfl ⟨HF2.out, .inl ⟨lb, vs, B, bA, bn, bc, vA, vn, vc, HPP.out, rfl, HF3.out, HF4.out⟩⟩
    · have HPP := Lib.hid (parseF_no1 hsf hend)
      have hne := endOf_nz hend
      have hnb2 : (endOf sf != 0) = true := by rw [bne_iff_ne]; exact hne
      generalize endOf sf = E9 at HE hne hnb2
      clear hend hfr hsf hne
      dsimp only
      go_wp2_with fail
      (with_reducible refine Calls.mono HE.out ?_)
      rintro _ w4 ⟨rfl, rfl⟩
      dsimp only
      go_wp2_with (refine wpList_rowK (by rfl) _ _ 46 (by rfl) (by rfl) (by rfl) HRR.out (by exact size46) (by rfl) (by simp [Value.oneCell']) ?_)
      intro wf hbf hkf
      have d0 : World.cell? wf ⟨W.heap.size, 0, none⟩ = some (.int .i64 0) := blk_cell hbf 0 _ rfl
      have d1 : World.cell? wf ⟨W.heap.size, 1, none⟩ = some (.slice none 0 0) := blk_cell hbf 1 _ rfl
      have d2 : World.cell? wf ⟨W.heap.size, 2, none⟩ = some (.slice none 0 0) := blk_cell hbf 2 _ rfl
      have HF2 := Lib.hid (hkf.below HB3.out (Nat.le_refl _) HB3.out.size)
      clear hbf hkf
      go_wp2_with fail
      refine bodyPost_ret (v := .tuple #[.agg #[.int .i64 0, .slice none 0 0, .slice none 0 0], .int .i64 9]) (by simp [results, Tryd.results45, go_sem, d0, d1, d2]) rfl ⟨HF2.out, .inr ⟨HPP.out, rfl⟩⟩
  · have hR2 := blk_keep hR1 hk2 (by omega)
    have hB2 := hk2.below hB1 (by omega) hB1.size
    have hal : Below w2.heap.size w2 (w2.alloc (.cells #[.int .i64 0, .slice none 0 0, .slice none 0 0] 46)) := (Below.refl _ _).alloc (Nat.le_refl _) _
    have HRR := Lib.hid (blk_below hR2 hal)
    have HB3 := Lib.hid (below_step hB2 hal)
    have HPP := Lib.hid (parseF_no2 hfr)
    have hlt2 := blk_lt hR2
    clear hs1 hs2 hk2 hR1 hR2 hB1 hB2 hal hfr hsf
    dsimp only
    go_wp2_with (refine wpList_rowK (by rfl) _ _ 46 (by rfl) (by rfl) (by rfl) HRR.out (by exact size46) (by rfl) (by simp [Value.oneCell']) ?_)
    intro wf hbf hkf
    have d0 : World.cell? wf ⟨W.heap.size, 0, none⟩ = some (.int .i64 0) := blk_cell hbf 0 _ rfl
    have d1 : World.cell? wf ⟨W.heap.size, 1, none⟩ = some (.slice none 0 0) := blk_cell hbf 1 _ rfl
    have d2 : World.cell? wf ⟨W.heap.size, 2, none⟩ = some (.slice none 0 0) := blk_cell hbf 2 _ rfl
    have HF2 := Lib.hid (hkf.below HB3.out (Nat.le_refl _) HB3.out.size)
    clear hbf hkf
    go_wp2_with fail
    refine bodyPost_ret (v := .tuple #[.agg #[.int .i64 0, .slice none 0 0, .slice none 0 0], .int .i64 9]) (by simp [results, Tryd.results45, go_sem, d0, d1, d2]) rfl ⟨HF2.out, .inr ⟨HPP.out, rfl⟩⟩
end Go.Proofs.YtcjidlgmbjebjaaDoor

namespace Go.Proofs.YtcjidlgmbjebjaaDoor.Sb
open Go
def BytL (l : List Int) : Prop := ∀ x ∈ l, 0 ≤ x ∧ x < 256
theorem be_go : ∀ (l : List Int) (a : Int), BytL l → 0 ≤ a → 0 ≤ l.foldl (fun n b => n * 256 + b) a ∧ l.foldl (fun n b => n * 256 + b) a < (a + 1) * 256 ^ l.length
  | [], a, _, ha => by simp only [List.foldl_nil, List.length_nil, Int.pow_zero]; omega
  | x :: l, a, h, ha => by
    have hx := h x List.mem_cons_self
    have ih := be_go l (a * 256 + x) (fun y hy => h y (List.mem_cons_of_mem _ hy)) (by omega)
    refine ⟨ih.1, ?_⟩
    have hp : (0 : Int) < 256 ^ l.length := Int.pow_pos (by decide)
    have h2 : (a * 256 + x + 1) * 256 ^ l.length ≤ ((a + 1) * 256) * 256 ^ l.length := Int.mul_le_mul_of_nonneg_right (by omega) (by omega)
    have h3 : (a + 1) * 256 ^ (x :: l).length = ((a + 1) * 256) * 256 ^ l.length := by
      rw [List.length_cons, Int.pow_succ, Int.mul_comm (256 ^ l.length) 256, Int.mul_assoc]
    rw [h3]
    exact Int.lt_of_lt_of_le ih.2 h2
theorem be_rng {l : List Int} (h : BytL l) (hl : l.length ≤ 8) : 0 ≤ be l ∧ be l < 18446744073709551616 := by
  have h1 := be_go l 0 h (by decide)
  refine ⟨h1.1, Int.lt_of_lt_of_le h1.2 ?_⟩
  have : ∀ n : Nat, n ≤ 8 → (0 + 1 : Int) * 256 ^ n ≤ 18446744073709551616 := by
    intro n hn
    match n, hn with
    | 0, _ => decide
    | 1, _ => decide
    | 2, _ => decide
    | 3, _ => decide
    | 4, _ => decide
    | 5, _ => decide
    | 6, _ => decide
    | 7, _ => decide
    | 8, _ => decide
  exact this _ hl
theorem sTake_bytL {n : Nat} {s : Src} (h : BytL s.2) : BytL (sTake n s).1 ∧ BytL (sTake n s).2.2 ∧ (sTake n s).1.length ≤ n := by
  unfold sTake
  split
  · split
    · exact ⟨fun x hx => by simp at hx, fun x hx => by simp at hx, by simp⟩
    · exact ⟨fun x hx => h x (List.mem_of_mem_take hx), fun x hx => h x (List.mem_of_mem_drop hx), by simp; omega⟩
  · exact ⟨fun x hx => by simp at hx, h, by simp⟩
theorem sInt_rng {s : Src} (h : BytL s.2) : I64 (sInt s).1 := by
  obtain ⟨h1, _, h3⟩ := sTake_bytL (n := 8) h
  obtain ⟨a, b⟩ := be_rng h1 h3
  unfold sInt i64of I64
  dsimp only
  split <;> omega
theorem sByte_b {s : Src} (h : BytL s.2) : BytL (sByte s).2.2 := (sTake_bytL h).2.1
theorem sInt_b {s : Src} (h : BytL s.2) : BytL (sInt s).2.2 := (sTake_bytL h).2.1
theorem z64 : I64 0 := by unfold I64; omega
end Go.Proofs.YtcjidlgmbjebjaaDoor.Sb

namespace Go.Proofs.YtcjidlgmbjebjaaDoor.Sb
open Go
theorem sVar_b {g : Int} {s : Src} (h : BytL s.2) : BytL (sVar g s).2.2 := by
  unfold sVar
  split
  · split
    · intro x hx; simp at hx
    · split
      · intro x hx; simp at hx
      · intro x hx; exact h x (List.mem_of_mem_drop hx)
  · exact h
theorem sByte_rng {s : Src} (h : BytL s.2) : I64 (sByte s).1 := by
  obtain ⟨h1, _, h3⟩ := sTake_bytL (n := 1) h
  unfold sByte I64
  dsimp only
  cases hl : (sTake 1 s).1 with
  | nil => simp
  | cons a l =>
    have := h1 a (by rw [hl]; exact List.mem_cons_self)
    simp; omega
theorem sRaw_rng (k : Int) {s : Src} (h : BytL s.2) : I64 (sRaw k s).1.2.1 ∧ BytL (sRaw k s).2.2 := by
  unfold sRaw
  split
  · exact ⟨sInt_rng h, sInt_b h⟩
  · split
    · exact ⟨z64, (sTake_bytL (sVar_b h)).2.1⟩
    · split
      · exact ⟨sByte_rng h, sByte_b h⟩
      · exact ⟨z64, h⟩
def inR (ok : V3 → Bool) (v : V3) : Bool := ok v && decide (-9223372036854775808 ≤ v.2.1 ∧ v.2.1 ≤ 9223372036854775807)
theorem inR_eq {ok : V3 → Bool} {v : V3} (h : I64 v.2.1) : inR ok v = ok v := by
  unfold inR
  unfold I64 at h
  rw [decide_eq_true (by omega), Bool.and_true]
theorem sVals_in (ok : V3 → Bool) : ∀ (n : Nat) {s : Src}, BytL s.2 → sVals (inR ok) n s = sVals ok n s
  | 0, s, h => rfl
  | n + 1, s, h => by
    obtain ⟨h1, h2⟩ := sRaw_rng (sByte s).1 (sByte_b h)
    have ih := sVals_in ok n h2
    unfold sVals
    have e : inR ok (sVal s).1 = ok (sVal s).1 := inR_eq h1
    rw [e]
    have e2 : sVals (inR ok) n (sVal s).2 = sVals ok n (sVal s).2 := ih
    rw [e2]
theorem sFrom_in (ok : V3 → Bool) {s : Src} (h : BytL s.2) : sFrom (inR ok) s = sFrom ok s := by
  have h1 : BytL (sBlob s).2.2 := (sTake_bytL (sVar_b h)).2.1
  have h2 := sByte_b h1
  unfold sFrom
  rw [sVals_in ok _ h2]
theorem parseF_in (ok : V3 → Bool) {l : List Int} (h : BytL l) : parseF (inR ok) l = parseF ok l := by
  unfold parseF
  rw [sFrom_in ok (s := (0, l)) h]
end Go.Proofs.YtcjidlgmbjebjaaDoor.Sb

namespace Go.Proofs.YtcjidlgmbjebjaaDoor
open Go Go.RowKit Go.Proofs.YtcjidlgmbjebjaaDoorW.PrintWords
def toV3 (x : Va) : Sb.V3 := (x.f0, x.f1, x.f2)
theorem elB_sb (x : Va) : elB x = Sb.elB (toV3 x) := rfl
theorem vsB_sb (vs : List Va) : vsB vs = Sb.vsB (vs.map toV3) := by
  induction vs with
  | nil => rfl
  | cons x vs ih =>
    have e : vsB (x :: vs) = elB x ++ vsB vs := by simp [vsB]
    have e2 : Sb.vsB ((x :: vs).map toV3) = Sb.elB (toV3 x) ++ Sb.vsB (vs.map toV3) := by simp [Sb.vsB]
    rw [e, e2, ih, elB_sb]
theorem feat_sb {lb : List Int} {vs : List Va} (h1 : vs.length ≤ 4) (h2 : lb.length ≤ 20000) (h : ∀ x ∈ vs, goodX x = true) : featB lb vs = Sb.featBody lb (vs.map toV3) := by
  rw [feat_ok h1 h2 h, vsB_sb]
  unfold Sb.featBody
  rw [List.length_map]
  have e : varB (lb.length : Int) = Sb.varB (lb.length : Int) := rfl
  rw [e]
  simp
theorem feat_some {lb : List Int} {vs : List Va} (h : featB lb vs ≠ []) : vs.length ≤ 4 ∧ lb.length ≤ 20000 ∧ ∀ x ∈ vs, goodX x = true := by
  cases hc : (decide (vs.length ≤ 4) && (decide (lb.length ≤ 20000) && vs.all goodX)) with
  | false => exact absurd (by unfold featB; rw [hc]; rfl) h
  | true =>
    simp only [Bool.and_eq_true, decide_eq_true_eq, List.all_eq_true] at hc
    exact ⟨hc.1, hc.2.1, hc.2.2⟩
theorem ok_fit : ∀ v : Sb.V3, Sb.inR okV v = true → Sb.FitV v := by
  rintro ⟨k, n, s⟩ h
  unfold Sb.inR okV at h
  rw [Bool.and_eq_true, decide_eq_true_eq] at h
  dsimp only at h
  obtain ⟨hg, hn⟩ := h
  unfold Sb.FitV Sb.I64
  dsimp only
  have hk : k = 0 ∨ k = 1 ∨ k = 2 ∨ k = 3 ∨ (k ≠ 0 ∧ k ≠ 1 ∧ k ≠ 2 ∧ k ≠ 3) := by omega
  rcases hk with rfl | rfl | rfl | rfl | ⟨k0, k1, k2, k3⟩
  · simp only [goodV, if_true, decide_eq_true_eq] at hg
    exact .inl ⟨rfl, hg.1, empty_of hg.2⟩
  · have hs : s.toList = [] := by simpa [goodV] using hg
    exact .inr (.inl ⟨rfl, by omega, empty_of hs⟩)
  · have := good_kind hg
    have hn : n = 0 := by simp [goodV] at hg; exact hg.1
    exact .inr (.inr (.inl ⟨rfl, hn, by omega⟩))
  · have := good_kind hg
    have hs : s.toList = [] := by simp [goodV] at hg; exact hg.1
    exact .inr (.inr (.inr ⟨rfl, by omega, empty_of hs⟩))
  · have := good_kind hg
    omega
theorem byt_varB {n : Int} (h0 : 0 ≤ n) (h1 : n < 2097152) : Byt (varB n) := by
  unfold varB
  split
  · intro x hx; simp at hx; omega
  · split
    · intro x hx; simp at hx; omega
    · intro x hx; simp at hx; omega
theorem byt_of (s : ByteArray) : Byt (bytesOf s) := by
  show Byt (Sb.bytesOf s)
  intro x hx
  unfold Sb.bytesOf at hx
  obtain ⟨b, _, rfl⟩ := List.mem_map.1 hx
  have := b.toNat_lt
  omega
theorem byt_el {x : Va} (h : goodX x = true) : Byt (elB x) := by
  have hk := good_kind h
  have hv : Byt (valB x.f0 x.f1 x.f2) := by
    unfold valB
    split
    · intro y hy
      unfold putB at hy
      simp at hy
      omega
    · split
      · exact byt_app (byt_varB (by omega) (by omega)) (byt_of _)
      · split
        · intro y hy; simp at hy; omega
        · intro y hy; simp at hy
  intro y hy
  unfold elB at hy
  rcases List.mem_cons.1 hy with rfl | hy
  · omega
  · exact hv y hy
theorem byt_vs {vs : List Va} (h : ∀ x ∈ vs, goodX x = true) : Byt (vsB vs) := by
  induction vs with
  | nil => intro x hx; simp [vsB] at hx
  | cons a vs ih =>
    have e : vsB (a :: vs) = elB a ++ vsB vs := by simp [vsB]
    rw [e]
    exact byt_app (byt_el (h a List.mem_cons_self)) (ih fun x hx => h x (List.mem_cons_of_mem _ hx))
theorem feat_byt {lb : List Int} {vs : List Va} (hlb : Byt lb) : Byt (featB lb vs) := by
  by_cases h0 : featB lb vs = []
  · rw [h0]; intro x hx; simp at hx
  · obtain ⟨h1, h2, h3⟩ := feat_some h0
    rw [feat_ok h1 h2 h3]
    refine byt_app (byt_app (byt_app (byt_varB (by omega) (by omega)) hlb) ?_) (byt_vs h3)
    intro x hx; simp at hx; omega
theorem ok_all {vs : List Va} (h3 : ∀ x ∈ vs, goodX x = true) (hr : ∀ x ∈ vs, -9223372036854775808 ≤ x.f1 ∧ x.f1 ≤ 9223372036854775807) : ∀ v ∈ vs.map toV3, Sb.inR okV v = true := by
  intro v hv
  obtain ⟨x, hx, rfl⟩ := List.mem_map.1 hv
  have h1 := h3 x hx
  have h2 := hr x hx
  unfold Sb.inR okV toV3
  dsimp only
  rw [show goodV x.f0 x.f1 x.f2 = true from h1, decide_eq_true h2]; rfl
theorem feat_back {lb : List Int} {vs : List Va} (h : featB lb vs ≠ []) (hlb : Byt lb) (hr : ∀ x ∈ vs, -9223372036854775808 ≤ x.f1 ∧ x.f1 ≤ 9223372036854775807) :
    Sb.parseF okV (featB lb vs) = some (lb, vs.map toV3) ∧ (∀ n, n < (featB lb vs).length → Sb.parseF okV ((featB lb vs).take n) = none) ∧ ∀ x, 0 ≤ x → x < 256 → Sb.parseF okV (featB lb vs ++ [x]) = none := by
  obtain ⟨h1, h2, h3⟩ := feat_some h
  have hb : Byt (featB lb vs) := feat_byt hlb
  have hm : (vs.map toV3).length ≤ 4 := by rw [List.length_map]; exact h1
  have ho := ok_all h3 hr
  refine ⟨?_, ?_, ?_⟩
  · rw [← Sb.parseF_in okV hb, feat_sb h1 h2 h3]
    exact Sb.parseF_back _ ok_fit lb _ h2 hm ho
  · intro n hn
    rw [← Sb.parseF_in okV (fun x hx => hb x (List.mem_of_mem_take hx)), feat_sb h1 h2 h3]
    rw [feat_sb h1 h2 h3] at hn
    exact Sb.parseF_cut _ ok_fit lb _ h2 hm ho n hn
  · intro x x0 x1
    rw [← Sb.parseF_in okV (byt_app hb (fun y hy => by simp at hy; omega)), feat_sb h1 h2 h3]
    exact Sb.parseF_more _ ok_fit lb _ h2 hm ho x []
end Go.Proofs.YtcjidlgmbjebjaaDoor

namespace Go.Proofs.YtcjidlgmbjebjaaDoor
open Go Go.RowKit Go.Proofs.YtcjidlgmbjebjaaDoorW.PrintWords Go.Proofs.YtcjidlgmbjebjaaDoorW.PrintMore
theorem slice_eq {a a' : Option Addr} {n n' c c' : Nat} (h : Value.slice a n c = .slice a' n' c') : a = a' ∧ n = n' ∧ c = c' := by injection h with h1 h2 h3; exact ⟨h1, h2, h3⟩
theorem flat3_get (vs : List Va) : ∀ (i : Nat) (x : Va), vs[i]? = some x → (flat3 (vs.map toV3))[i * 3]? = some (.int .i64 x.f0) ∧ (flat3 (vs.map toV3))[i * 3 + 1]? = some (.int .i64 x.f1) ∧ (flat3 (vs.map toV3))[i * 3 + 2]? = some (.string x.f2) := by
  induction vs with
  | nil => intro i c h; simp at h
  | cons d cs ih =>
    intro i c h
    cases i with
    | zero => simp at h; subst h; simp [flat3, toV3]
    | succ i =>
      simp at h
      obtain ⟨h1, h2, h3⟩ := ih i c h
      have e : ∀ j, (flat3 ((d :: cs).map toV3))[j + 3]? = (flat3 (cs.map toV3))[j]? := fun j => by
        show ([Value.int .i64 d.f0, .int .i64 d.f1, .string d.f2] ++ flat3 (cs.map toV3))[j + 3]? = _
        rw [List.getElem?_append_right (by simp)]; simp
      rw [show (i + 1) * 3 = i * 3 + 3 by omega, show i * 3 + 3 + 1 = i * 3 + 1 + 3 by omega, show i * 3 + 3 + 2 = i * 3 + 2 + 3 by omega, e, e, e]
      exact ⟨h1, h2, h3⟩
theorem own_k51 {w : World} {B vn vc : Nat} {vA : Option Addr} {vs : List Va} (h : w.ownsRow B 51 3 (.slice vA vn vc) vs.length (flat3 (vs.map toV3))) (hm : vs.length ≤ 9223372036854775807) :
    vn = vs.length ∧ vs.length ≤ vc ∧ Kd.C PValueForms.k51 w vA vs.length vs := by
  have h0 := h
  obtain ⟨_, ⟨hv, h2⟩ | ⟨g, cap, cur, hv, hg, hb, hcap, _⟩⟩ := h
  · obtain ⟨rfl, rfl, rfl⟩ := slice_eq hv
    obtain rfl : vs = [] := List.eq_nil_of_length_eq_zero (by omega)
    exact ⟨rfl, Nat.le_refl _, ⟨rfl, by decide, fun h => absurd h (by decide)⟩⟩
  · obtain ⟨rfl, rfl, rfl⟩ := slice_eq hv
    refine ⟨rfl, hcap, ⟨rfl, hm, fun _ => ⟨_, rfl, fun j d hd => ⟨_, rfl, PValueForms.k51_mk w d, fun i u hu => ?_⟩⟩⟩⟩
    obtain ⟨h1, h2, h3⟩ := flat3_get vs j d hd
    have hgc := h0.cells (g := g) (by rfl)
    have g0 := hgc _ _ h1
    have g1 := hgc _ _ h2
    have g2 := hgc _ _ h3
    match i, hu with
    | 0, hu => simp at hu; subst hu; exact g0
    | 1, hu => simp at hu; subst hu; exact g1
    | 2, hu => simp at hu; subst hu; exact g2
theorem l0_self (x0 : List Va) (hm : x0.length ≤ 9223372036854775807) : ∀ d i : Nat, i + d = x0.length → PValueForms.api_Value.l0 (d + 1) x0 x0 (x0.length : Int) (i : Int) = some true
  | 0, i, h => by
    rw [PValueForms.api_Value.l0, if_neg (by omega)]
  | d + 1, i, h => by
    rw [PValueForms.api_Value.l0, if_pos (by omega), if_pos (by omega), if_pos (by omega), if_pos (by omega)]
    rw [if_neg (by simp), wrap_succ i (by omega)]
    exact l0_self x0 hm d (i + 1) (by omega)
theorem same_self (a : Int) (b : List Int) (x : List Va) (hm : x.length ≤ 9223372036854775807) : ∃ k, PValueForms.value_Same.f k a b x a b x = some true := by
  refine ⟨x.length + 1, ?_⟩
  unfold PValueForms.value_Same.f PValueForms.bytes_Equal.f PValueForms.api_Value.f
  rw [if_pos rfl, Option.bind_some, if_pos (by simp), if_pos rfl]
  rw [show ((0 : Int)) = ((0 : Nat) : Int) from rfl, l0_self x hm x.length 0 (by omega)]; rfl
end Go.Proofs.YtcjidlgmbjebjaaDoor

namespace Go.Proofs.YtcjidlgmbjebjaaDoor
open Go Go.RowKit Go.Proofs.YtcjidlgmbjebjaaDoorW.PrintWords Go.Proofs.YtcjidlgmbjebjaaDoorW.PrintMore
def FeatC (w : World) (A : Option Addr) (cb : Nat) (lb : List Int) (pa : Option Addr) (cap : Nat) (vs : List Va) : Prop :=
  Kd.C (Kd.int .u8) w A lb.length lb ∧ lb.length ≤ cb ∧ Kd.C PValueForms.k51 w pa vs.length vs ∧ vs.length ≤ cap
theorem featC_stays {w w' : World} {A : Option Addr} {cb : Nat} {lb : List Int} {pa : Option Addr} {cap : Nat} {vs : List Va} (h : FeatC w A cb lb pa cap vs) (hb : Below w.heap.size w w') : FeatC w' A cb lb pa cap vs :=
  ⟨Kd.C_below h.1 hb, h.2.1, Kd.C_below h.2.2.1 hb, h.2.2.2⟩
def RetP1 (r : Int) (lb : List Int) (vs : List Va) (W : World) (e : Ending) (w' : World) : Prop :=
  Below W.heap.size W w' ∧ ∃ bA bc vA vc, e = .returned (.tuple #[.agg #[.int .i64 r, .slice bA lb.length bc, .slice vA vs.length vc], .int .i64 0]) ∧ FeatC w' bA bc lb vA vc vs
def RetP9 (W : World) (e : Ending) (w' : World) : Prop :=
  Below W.heap.size W w' ∧ e = .returned (.tuple #[.agg #[.int .i64 0, .slice none 0 0, .slice none 0 0], .int .i64 9])
theorem feat_max (lb : List Int) (vs : List Va) : (featB lb vs).length ≤ 21000 := by
  by_cases h0 : featB lb vs = []
  · rw [h0]; decide
  · obtain ⟨h1, h2, h3⟩ := feat_some h0
    rw [feat_ok h1 h2 h3]
    have hv := varB_len (lb.length : Int)
    have : ∀ l : List Va, (∀ x ∈ l, goodX x = true) → (vsB l).length ≤ l.length * 221 := by
      intro l
      induction l with
      | nil => intro _; simp [vsB]
      | cons a l ih =>
        intro h
        have e : vsB (a :: l) = elB a ++ vsB l := by simp [vsB]
        have h1 := ih fun x hx => h x (List.mem_cons_of_mem _ hx)
        have h2 := valB_len (h a List.mem_cons_self)
        rw [e, List.length_append]
        simp only [elB, List.length_cons]
        rw [Nat.add_mul]; omega
    have h4 := this vs h3
    simp only [List.length_append, List.length_cons, List.length_nil]
    omega
def RngV (vs : List Va) : Prop := ∀ x ∈ vs, -9223372036854775808 ≤ x.f1 ∧ x.f1 ≤ 9223372036854775807
theorem parse_ok (r : Int) (lb : List Int) (vs : List Va) (h : featB lb vs ≠ []) (hlb : Byt lb) (hr : RngV vs) (W : World) (v : Value) (hv : SlB W v (featB lb vs)) :
    Calls Tryd.prog 45 #[.int .i64 r, v] W (RetP1 r lb vs W) := by
  obtain ⟨p1, p2, p3⟩ := feat_back h hlb hr
  have hm := feat_max lb vs
  refine (vparse_val r v (featB lb vs) (feat_byt hlb) (by omega) W hv).mono ?_
  rintro e w' ⟨hb, ⟨lb', vs', B, bA, bn, bc, vA, vn, vc, hp, he, hs, ho⟩ | ⟨hp, _⟩⟩
  · rw [p1] at hp
    injection hp with hp
    rw [Prod.mk.injEq] at hp
    obtain ⟨rfl, rfl⟩ := hp
    rw [List.length_map] at ho
    obtain ⟨h1, h2, h3⟩ := feat_some h
    obtain ⟨rfl, hc, hk⟩ := own_k51 ho (by omega)
    obtain ⟨A, c, hv', hcc, hC⟩ := hs
    obtain ⟨rfl, rfl, rfl⟩ := slice_eq hv'
    exact ⟨hb, _, _, _, _, he, hC, hcc, hk, hc⟩
  · rw [p1] at hp; cases hp
theorem parse_none (r : Int) (l : List Int) (hl : Byt l) (hm : l.length ≤ 100000) (hp : Sb.parseF okV l = none) (W : World) (v : Value) (hv : SlB W v l) : Calls Tryd.prog 45 #[.int .i64 r, v] W (RetP9 W) := by
  refine (vparse_val r v l hl hm W hv).mono ?_
  rintro e w' ⟨hb, ⟨lb', vs', B, bA, bn, bc, vA, vn, vc, hp', he, hs, ho⟩ | ⟨_, he⟩⟩
  · rw [hp] at hp'; cases hp'
  · exact ⟨hb, he⟩
theorem parse_cut (r : Int) (lb : List Int) (vs : List Va) (h : featB lb vs ≠ []) (hlb : Byt lb) (hr : RngV vs) (k : Nat) (hk : k < (featB lb vs).length) (W : World) (v : Value) (hv : SlB W v ((featB lb vs).take k)) :
    Calls Tryd.prog 45 #[.int .i64 r, v] W (RetP9 W) := by
  obtain ⟨p1, p2, p3⟩ := feat_back h hlb hr
  have hm := feat_max lb vs
  have hb : Byt (featB lb vs) := feat_byt hlb
  exact parse_none r _ (fun x hx => hb x (List.mem_of_mem_take hx)) (by simp; omega) (p2 k hk) W v hv
theorem parse_more (r : Int) (lb : List Int) (vs : List Va) (h : featB lb vs ≠ []) (hlb : Byt lb) (hr : RngV vs) (x : Int) (h0 : 0 ≤ x) (h1 : x < 256) (W : World) (v : Value) (hv : SlB W v (featB lb vs ++ [x])) :
    Calls Tryd.prog 45 #[.int .i64 r, v] W (RetP9 W) := by
  obtain ⟨p1, p2, p3⟩ := feat_back h hlb hr
  have hm := feat_max lb vs
  have hb : Byt (featB lb vs) := feat_byt hlb
  exact parse_none r _ (byt_app hb (fun y hy => by simp at hy; omega)) (by simp; omega) (p3 x h0 h1) W v hv
end Go.Proofs.YtcjidlgmbjebjaaDoor

namespace Go.Proofs.YtcjidlgmbjebjaaDoor
open Go Go.RowKit Go.Proofs.YtcjidlgmbjebjaaDoorW.PrintWords
def KeptO (v : Value) (w w' : World) : Prop := ∀ b, b < w.heap.size → some b ≠ v.ownBlock → w'.heap[b]? = w.heap[b]?
def NextO (v v' : Value) (w : World) : Prop := v'.ownBlock = v.ownBlock ∨ ∃ k, w.heap.size ≤ k ∧ v'.ownBlock = some k
theorem own_next {w w' : World} {base : Nat} {v v' : Value} {l : List Int} (h : Row w base v l) {ad : Addr} {m : Nat} (c : Nat) {ys : List Int} (hC : Kd.C (Kd.int .u8) w (some ad) m ys) (h0 : 0 < m) (hlen : l.length + ys.length ≤ 140737488355000)
    (hr : (Builtin.append_ #[43, 43] 43 #[v, .slice (some ad) m c]).run Tryd.prog w = .ok v' w') : NextO v v' w := by
  obtain ⟨i0, hi, hz0, hz1, hz2⟩ := info_parts byteinfo
  have hm : ys.length = m := hC.1
  subst hm
  obtain ⟨ad', e, hcell⟩ := kC_at hC h0
  injection e with e
  subst e
  have hnews : ∀ (j : Nat) (u : Value), (u8s ys)[j]? = some u → w.cell? (ad.add j) = some u := by
    intro j u hu
    unfold u8s at hu
    rw [List.getElem?_map] at hu
    obtain ⟨y, hy, rfl⟩ := Option.map_eq_some_iff.1 hu
    exact hcell j y hy
  have hl : (u8s ys).length = ys.length * i0.size := by rw [hz1]; simp [u8s]
  rcases h.2 with ⟨rfl, h1⟩ | ⟨g, cap, cur, rfl, hbg, hg, hnc, hcm, hcs, htake⟩
  · have hr1 := run_append_nil (P := Tryd.prog) w 43 43 5 i0 (.int .u8 0) Tryd.underlying43 hi hz0 ad ys.length c (u8s ys) hl hnews h0 (by omega) (by rw [hz2]; omega)
    rw [hr1] at hr
    injection hr with hr _
    subst hr
    exact .inr ⟨_, Nat.le_refl _, rfl⟩
  · by_cases hroom : l.length + ys.length ≤ cap
    · have hr1 := run_append_room (P := Tryd.prog) w 43 43 5 i0 Tryd.underlying43 hi g l.length cap cur hg ad ys.length c (u8s ys) hl hnews (fun u hu => by unfold u8s at hu; obtain ⟨y, _, rfl⟩ := List.mem_map.1 hu; rfl) hroom (by rw [hl, hz1, hcs]; omega)
      rw [hr1] at hr
      injection hr with hr _
      subst hr
      exact .inl rfl
    · have holds : ∀ j u, (u8s l)[j]? = some u → w.cell? ((⟨g, 0, none⟩ : Addr).add j) = some u := h.cells (g := g) rfl
      have hr1 := run_append_grow (P := Tryd.prog) w 43 43 5 i0 (.int .u8 0) Tryd.underlying43 hi hz0 ⟨g, 0, none⟩ l.length cap (u8s l) (by rw [hz1]; simp [u8s]) holds ad ys.length c (u8s ys) hl hnews (by omega) (by omega) (growslice_fits (by omega) (by rw [hz2]; omega))
      rw [hr1] at hr
      injection hr with hr _
      subst hr
      exact .inr ⟨_, Nat.le_refl _, rfl⟩
theorem run_app2 {w : World} {base : Nat} {v : Value} {l : List Int} (h : Row w base v l) {ad : Addr} {m : Nat} (c : Nat) {ys : List Int} (hC : Kd.C (Kd.int .u8) w (some ad) m ys) (h0 : 0 < m) (hlen : l.length + ys.length ≤ 140737488355000) (hbase : base ≤ w.heap.size) :
    ∃ v' w', (Builtin.append_ #[43, 43] 43 #[v, .slice (some ad) m c]).run Tryd.prog w = .ok v' w' ∧ Row w' base v' (l ++ ys) ∧ Below base w w' ∧ KeptO v w w' ∧ NextO v v' w := by
  obtain ⟨i0, hi, hz0, hz1, hz2⟩ := info_parts byteinfo
  have hm : ys.length = m := hC.1
  have hC0 := hC
  subst hm
  obtain ⟨ad', e, hcell⟩ := kC_at hC h0
  injection e with e
  subst e
  have hnews : ∀ (j : Nat) (u : Value), (u8s ys)[j]? = some u → w.cell? (ad.add j) = some u := by
    intro j u hu
    unfold u8s at hu
    rw [List.getElem?_map] at hu
    obtain ⟨y, hy, rfl⟩ := Option.map_eq_some_iff.1 hu
    exact hcell j y hy
  obtain ⟨v', w', hr, h2, h3, _⟩ := run_append_own (P := Tryd.prog) w base 43 43 5 i0 (.int .u8 0) 1 1 Tryd.underlying43 hi hz0 hz1 hz2 rfl (by decide) v l.length (u8s l) h ad ys.length c (u8s ys) (by simp [u8s]) hnews
    (fun u hu => by unfold u8s at hu; obtain ⟨y, _, rfl⟩ := List.mem_map.1 hu; rfl) (by unfold maxLen; omega) (by omega) hbase
  refine ⟨v', w', hr, ?_, (Below.refl _ _).grown h3 hbase (fun q hq => (h.lt q hq).1), fun b hb hn => h3.block b hb hn, own_next h c hC0 h0 hlen hr⟩
  unfold Row
  have e : u8s (l ++ ys) = u8s l ++ u8s ys := by simp [u8s]
  rw [e, List.length_append]
  exact h2
end Go.Proofs.YtcjidlgmbjebjaaDoor

namespace Go.Proofs.YtcjidlgmbjebjaaDoor
open Go Go.RowKit Go.Proofs.YtcjidlgmbjebjaaDoorW.PrintWords
theorem kept5_of {w w' : World} {base : Nat} {v : Value} {l : List Int} (h : Row w base v l) (hk : KeptO v w w') : Kept5 w w' := fun b hb hn => hk b hb fun e => hn (own_typed h b e.symm)
end Go.Proofs.YtcjidlgmbjebjaaDoor
