/- A part of the proof of SchemaForms. -/
import Derived.Test.YtcjidlgmbjebjaaDoorSfl
import Derived.Test.YtcjidlgmbjebjaaDoorSfm
import Derived.Test.YtcjidlgmbjebjaaDoorSfg
import Derived.Laws.CopyOwn
import Derived.Deep.MidRow
set_option linter.unusedVariables false
set_option linter.unusedSimpArgs false
set_option maxRecDepth 100000
namespace Go.Proofs.YtcjidlgmbjebjaaDoor
open Go Go.RowKit Go.Proofs.YtcjidlgmbjebjaaDoorW.PrintWords
theorem int_byt {s : Sb.Src} (h : Byt s.2) : Byt (Sb.sInt s).2.2 := (take_byt (n := 8) h).2
def stJ (l : List Int) : Nat → Sb.Src
  | 0 => (0, l)
  | n + 1 => (Sb.sInt (stJ l n)).2
theorem stJ_byt {l : List Int} (h : Byt l) : ∀ n, Byt (stJ l n).2
  | 0 => h
  | n + 1 => int_byt (stJ_byt h n)
def nJ (l : List Int) (n : Nat) : Int := (Sb.sInt (stJ l n)).1
def arrJ (l : List Int) : Nat → Array Value
  | 0 => #[.int .i64 0, .int .i64 0, .int .i64 0, .int .i64 0]
  | 1 => #[.int .i64 (nJ l 0), .int .i64 0, .int .i64 0, .int .i64 0]
  | 2 => #[.int .i64 (nJ l 0), .int .i64 (nJ l 1), .int .i64 0, .int .i64 0]
  | 3 => #[.int .i64 (nJ l 0), .int .i64 (nJ l 1), .int .i64 (nJ l 2), .int .i64 0]
  | _ => #[.int .i64 (nJ l 0), .int .i64 (nJ l 1), .int .i64 (nJ l 2), .int .i64 (nJ l 3)]
def zbL : Array Value := #[.bool false, .int .i64 0, .int .i64 0, .int .i64 0, .int .i64 0]
def BpR (l : List Int) (p a : Nat) (W : World) (i : Value) (w' : World) : Prop :=
  ∃ j : Nat, j ≤ 4 ∧ i = .int .i64 j ∧ SrcP w' p (stJ l j) ∧ BlkAt w' a (arrJ l j) 182 ∧ BlkAt w' W.heap.size zbL 65 ∧ Below W.heap.size W w'
/-- What Parse of a box hands back. -/
def RetBx (l : List Int) (W : World) (e : Ending) (w' : World) : Prop :=
  (∃ lx ly hx hy, Sb.boxOf l = some (lx, ly, hx, hy) ∧ e = .returned (.tuple #[boxV false lx ly hx hy, .int .i64 0]) ∧ Below W.heap.size W w') ∨
  (∃ er, Sb.boxOf l = none ∧ er ≠ 0 ∧ e = .returned (.tuple #[boxV false 0 0 0 0, .int .i64 er]) ∧ Below W.heap.size W w')
theorem blk_set {w : World} {b q i : Nat} {cs : Array Value} {T : Nat} {u : Value} (h : BlkAt w b cs T) (hq : b ≠ q) : BlkAt (w.setCell ⟨q, i, none⟩ u) b cs T := (Below.heap_setCell w _ u b hq).trans h
theorem blk_keep {w w' : World} {p b : Nat} {cs : Array Value} {T : Nat} (h : BlkAt w b cs T) (hk : Keep1 p w w') (hp : b ≠ p) : BlkAt w' b cs T := (hk.block (blk_lt h) hp).trans h
theorem st4_len {l : List Int} (h : l.length = 32) : (stJ l 4).2 = [] := by
  match l, h with
  | [a0,a1,a2,a3,a4,a5,a6,a7,a8,a9,b0,b1,b2,b3,b4,b5,b6,b7,b8,b9,c0,c1,c2,c3,c4,c5,c6,c7,c8,c9,d0,d1], _ => rfl
theorem boxOf_32 {l : List Int} (h : l.length = 32) : Sb.boxOf l = if nJ l 0 ≤ nJ l 1 ∧ nJ l 2 ≤ nJ l 3 then some (nJ l 0, nJ l 2, nJ l 1, nJ l 3) else none := by
  unfold Sb.boxOf
  rw [if_pos h]
  rfl
theorem boxOf_short {l : List Int} (h : l.length ≠ 32) : Sb.boxOf l = none := by unfold Sb.boxOf; rw [if_neg h]
theorem nobyte_arr {w : World} {a j : Nat} {l : List Int} (h : BlkAt w a (arrJ l j) 182) : NoByte w a := by
  refine nobyte_of h fun i x hi => ?_
  unfold arrJ at hi
  split at hi
  all_goals
    match i, hi with
    | 0, hi => simp at hi
    | 1, hi => simp at hi
    | 2, hi => simp at hi
    | 3, hi => simp at hi
    | i + 4, hi => simp at hi
set_option maxHeartbeats 8000000 in
theorem boxparse_val (v : Value) (l : List Int) (hb : Byt l) (hl : l.length ≤ 32) (W : World) (hv : SlB W v l) : Calls Tryd.prog 78 #[v] W (RetBx l W) := by
  have HV := Lib.hid hv
  obtain ⟨A, c, rfl, hc, hC⟩ := hv
  clear hC
  by_cases h32 : l.length = 32
  case neg =>
    have HN := Lib.hid (boxOf_short h32)
    have hlt : l.length < 32 := by omega
    clear h32 HV
    go_enter Tryd.func78, Tryd.ntmps78
    go_wp2_with fail
    refine bodyPost_ret (v := .tuple #[boxV false 0 0 0 0, .int .i64 8]) (by simp [results, Tryd.results78, go_sem, boxV]) rfl (.inr ⟨8, HN.out, by decide, rfl, by go_grown⟩)
  have HR := Lib.hid (fun w h => read_val (.slice A l.length c) l w h (by omega))
  have HL4 := Lib.hid (st4_len h32)
  have HBO := Lib.hid (boxOf_32 h32)
  generalize hM : l.length = M at HV HR h32 hl hc
  subst h32
  go_enter Tryd.func78, Tryd.ntmps78
  go_wp2_with fail
  refine (HR.out _ (slb_alloc HV.out _)).mono ?_
  rintro e w1 ⟨p, rfl, hp, hs, hbl⟩
  have hZ := Lib.hid (blk_below (show BlkAt (W.alloc (.cells zbL 65)) W.heap.size zbL 65 from hp_new _ _ _ rfl) hbl)
  have hB1 := below_step (show Below W.heap.size W _ from (Below.refl W.heap.size W).alloc (Nat.le_refl _) _) hbl
  have hpl := src_lt hs
  have HS := Lib.hid (src_alloc hs (.cells (arrJ l 0) 182))
  have hpW : W.heap.size < p := by simp at hp; omega
  clear hs hbl hp
  dsimp only
  go_wp2_with fail
  go_loopw [14] (fun i w' => BpR l p w1.heap.size W i w') (fun i _ => 4 - (intOf i).toNat)
  case atStart => exact ⟨0, by omega, rfl, HS.out, hp_new _ _ _ rfl, blk_alloc hZ.out _, hB1.alloc hB1.size _⟩
  case round =>
    obtain ⟨j, hj, rfl, hs, ha, hz, hB⟩ := hrel
    have hj5 : j = 0 ∨ j = 1 ∨ j = 2 ∨ j = 3 ∨ j = 4 := by omega
    clear hj
    rcases hj5 with rfl | rfl | rfl | rfl | rfl
    · have HI := Lib.hid (int_val p (stJ l 0) (stJ_byt hb 0) wr hs)
      have HA := Lib.hid ha
      have HZ := Lib.hid hz
      have hps := src_lt hs
      clear hs ha hz
      go_wp2_with fail
      refine HI.out.mono ?_
      rintro e w2 ⟨rfl, hs2, hk2⟩
      have ha2 : BlkAt w2 w1.heap.size (arrJ l 0) 182 := blk_keep HA.out hk2 (by omega)
      have hz2 : BlkAt w2 W.heap.size zbL 65 := blk_keep HZ.out hk2 (by omega)
      have cz : w2.cell? ⟨w1.heap.size, 0, none⟩ = some (.int .i64 0) := blk_cell ha2 0 _ rfl
      have fz : w2.frozen? ⟨w1.heap.size, 0, none⟩ = false := Lib.frozen_of_heap ha2 0
      have HREL := Lib.hid (show BpR l p w1.heap.size W (.int .i64 1) (w2.setCell ⟨w1.heap.size, 0, none⟩ (.int .i64 (nJ l 0))) from
        ⟨1, by omega, rfl, src_set hs2 (by omega) (nobyte_arr ha2), heap_setCell_same w2 w1.heap.size 0 _ _ _ ha2, blk_set hz2 (by have := hB1.size; omega), (hk2.below hB (by omega) hB.size).setCell (by exact hB1.size) _⟩)
      clear hs2 hk2 ha2 hz2
      dsimp only
      go_wp2_with fail
      exact ⟨HREL.out, by simp [intOf]⟩
    · have HI := Lib.hid (int_val p (stJ l 1) (stJ_byt hb 1) wr hs)
      have HA := Lib.hid ha
      have HZ := Lib.hid hz
      have hps := src_lt hs
      clear hs ha hz
      go_wp2_with fail
      refine HI.out.mono ?_
      rintro e w2 ⟨rfl, hs2, hk2⟩
      have ha2 : BlkAt w2 w1.heap.size (arrJ l 1) 182 := blk_keep HA.out hk2 (by omega)
      have hz2 : BlkAt w2 W.heap.size zbL 65 := blk_keep HZ.out hk2 (by omega)
      have cz : w2.cell? ⟨w1.heap.size, 1, none⟩ = some (.int .i64 0) := blk_cell ha2 1 _ rfl
      have fz : w2.frozen? ⟨w1.heap.size, 1, none⟩ = false := Lib.frozen_of_heap ha2 1
      have HREL := Lib.hid (show BpR l p w1.heap.size W (.int .i64 2) (w2.setCell ⟨w1.heap.size, 1, none⟩ (.int .i64 (nJ l 1))) from
        ⟨2, by omega, rfl, src_set hs2 (by omega) (nobyte_arr ha2), heap_setCell_same w2 w1.heap.size 1 _ _ _ ha2, blk_set hz2 (by have := hB1.size; omega), (hk2.below hB (by omega) hB.size).setCell (by exact hB1.size) _⟩)
      clear hs2 hk2 ha2 hz2
      dsimp only
      go_wp2_with fail
      exact ⟨HREL.out, by simp [intOf]⟩
    · have HI := Lib.hid (int_val p (stJ l 2) (stJ_byt hb 2) wr hs)
      have HA := Lib.hid ha
      have HZ := Lib.hid hz
      have hps := src_lt hs
      clear hs ha hz
      go_wp2_with fail
      refine HI.out.mono ?_
      rintro e w2 ⟨rfl, hs2, hk2⟩
      have ha2 : BlkAt w2 w1.heap.size (arrJ l 2) 182 := blk_keep HA.out hk2 (by omega)
      have hz2 : BlkAt w2 W.heap.size zbL 65 := blk_keep HZ.out hk2 (by omega)
      have cz : w2.cell? ⟨w1.heap.size, 2, none⟩ = some (.int .i64 0) := blk_cell ha2 2 _ rfl
      have fz : w2.frozen? ⟨w1.heap.size, 2, none⟩ = false := Lib.frozen_of_heap ha2 2
      have HREL := Lib.hid (show BpR l p w1.heap.size W (.int .i64 3) (w2.setCell ⟨w1.heap.size, 2, none⟩ (.int .i64 (nJ l 2))) from
        ⟨3, by omega, rfl, src_set hs2 (by omega) (nobyte_arr ha2), heap_setCell_same w2 w1.heap.size 2 _ _ _ ha2, blk_set hz2 (by have := hB1.size; omega), (hk2.below hB (by omega) hB.size).setCell (by exact hB1.size) _⟩)
      clear hs2 hk2 ha2 hz2
      dsimp only
      go_wp2_with fail
      exact ⟨HREL.out, by simp [intOf]⟩
    · have HI := Lib.hid (int_val p (stJ l 3) (stJ_byt hb 3) wr hs)
      have HA := Lib.hid ha
      have HZ := Lib.hid hz
      have hps := src_lt hs
      clear hs ha hz
      go_wp2_with fail
      refine HI.out.mono ?_
      rintro e w2 ⟨rfl, hs2, hk2⟩
      have ha2 : BlkAt w2 w1.heap.size (arrJ l 3) 182 := blk_keep HA.out hk2 (by omega)
      have hz2 : BlkAt w2 W.heap.size zbL 65 := blk_keep HZ.out hk2 (by omega)
      have cz : w2.cell? ⟨w1.heap.size, 3, none⟩ = some (.int .i64 0) := blk_cell ha2 3 _ rfl
      have fz : w2.frozen? ⟨w1.heap.size, 3, none⟩ = false := Lib.frozen_of_heap ha2 3
      have HREL := Lib.hid (show BpR l p w1.heap.size W (.int .i64 4) (w2.setCell ⟨w1.heap.size, 3, none⟩ (.int .i64 (nJ l 3))) from
        ⟨4, by omega, rfl, src_set hs2 (by omega) (nobyte_arr ha2), heap_setCell_same w2 w1.heap.size 3 _ _ _ ha2, blk_set hz2 (by have := hB1.size; omega), (hk2.below hB (by omega) hB.size).setCell (by exact hB1.size) _⟩)
      clear hs2 hk2 ha2 hz2
      dsimp only
      go_wp2_with fail
      exact ⟨HREL.out, by simp [intOf]⟩
    · have HZ := Lib.hid hz
      have HL := Lib.hid (left_val p (stJ l 4) wr hs)
      rw [HL4.out] at HL
      have HG := Lib.hid (fun w => boxgood_val false (nJ l 0) (nJ l 2) (nJ l 1) (nJ l 3) w)
      unfold boxV at HG
      have c0 : wr.cell? ⟨w1.heap.size, 0, none⟩ = some (.int .i64 (nJ l 0)) := blk_cell ha 0 _ rfl
      have c1 : wr.cell? ⟨w1.heap.size, 1, none⟩ = some (.int .i64 (nJ l 1)) := blk_cell ha 1 _ rfl
      have c2 : wr.cell? ⟨w1.heap.size, 2, none⟩ = some (.int .i64 (nJ l 2)) := blk_cell ha 2 _ rfl
      have c3 : wr.cell? ⟨w1.heap.size, 3, none⟩ = some (.int .i64 (nJ l 3)) := blk_cell ha 3 _ rfl
      have HL' := Lib.hid (fun w h => left_val p (stJ l 4) w h)
      rw [HL4.out] at HL'
      have HS4 := Lib.hid hs
      have hzl := blk_lt hz
      clear ha hz hs HL
      by_cases hgd : nJ l 0 ≤ nJ l 1 ∧ nJ l 2 ≤ nJ l 3
      · have hgb : boxG false (nJ l 0) (nJ l 2) (nJ l 1) (nJ l 3) = true := by
          unfold boxG
          rw [if_neg (by simp)]
          rw [decide_eq_true hgd.1, decide_eq_true hgd.2]; rfl
        rw [hgb] at HG
        rw [if_pos hgd] at HBO
        clear hgd hgb
        go_wp2_with fail
        refine (HL'.out _ (src_alloc HS4.out _)).mono ?_
        rintro e w2 ⟨rfl, rfl⟩
        dsimp only
        go_wp2_with fail
        refine (HG.out _).mono ?_
        rintro e w3 ⟨rfl, hb3⟩
        have hz3 : BlkAt w3 W.heap.size zbL 65 := blk_below (blk_alloc HZ.out _) hb3
        have hB3 := below_step (hB.alloc hB.size _) hb3
        have z0 : w3.cell? ⟨W.heap.size, 0, none⟩ = some (.bool false) := blk_cell hz3 0 _ rfl
        have y0 : w3.frozen? ⟨W.heap.size, 0, none⟩ = false := Lib.frozen_of_heap hz3 0
        have z1 : w3.cell? ⟨W.heap.size, 1, none⟩ = some (.int .i64 0) := blk_cell hz3 1 _ rfl
        have y1 : w3.frozen? ⟨W.heap.size, 1, none⟩ = false := Lib.frozen_of_heap hz3 1
        have z2 : w3.cell? ⟨W.heap.size, 2, none⟩ = some (.int .i64 0) := blk_cell hz3 2 _ rfl
        have y2 : w3.frozen? ⟨W.heap.size, 2, none⟩ = false := Lib.frozen_of_heap hz3 2
        have z3 : w3.cell? ⟨W.heap.size, 3, none⟩ = some (.int .i64 0) := blk_cell hz3 3 _ rfl
        have y3 : w3.frozen? ⟨W.heap.size, 3, none⟩ = false := Lib.frozen_of_heap hz3 3
        have z4 : w3.cell? ⟨W.heap.size, 4, none⟩ = some (.int .i64 0) := blk_cell hz3 4 _ rfl
        have y4 : w3.frozen? ⟨W.heap.size, 4, none⟩ = false := Lib.frozen_of_heap hz3 4
        have g0 : w3.cell? ⟨wr.heap.size, 0, none⟩ = some (.bool false) := cell_later hb3 (by go_cell)
        have g1 : w3.cell? ⟨wr.heap.size, 1, none⟩ = some (.int .i64 (nJ l 0)) := cell_later hb3 (by go_cell)
        have g2 : w3.cell? ⟨wr.heap.size, 2, none⟩ = some (.int .i64 (nJ l 2)) := cell_later hb3 (by go_cell)
        have g3 : w3.cell? ⟨wr.heap.size, 3, none⟩ = some (.int .i64 (nJ l 1)) := cell_later hb3 (by go_cell)
        have g4 : w3.cell? ⟨wr.heap.size, 4, none⟩ = some (.int .i64 (nJ l 3)) := cell_later hb3 (by go_cell)
        clear hb3 hz3
        dsimp only
        go_wp2_with fail
        refine bodyPost_ret (v := .tuple #[boxV false (nJ l 0) (nJ l 2) (nJ l 1) (nJ l 3), .int .i64 0]) (by simp [results, Tryd.results78, go_sem, boxV, z0, z1, z2, z3, z4]) rfl (.inl ⟨_, _, _, _, HBO.out, rfl, ((((hB3.setCell ?_ _).setCell ?_ _).setCell ?_ _).setCell ?_ _).setCell ?_ _⟩)
        all_goals exact Nat.le_refl _
      · have hgb : boxG false (nJ l 0) (nJ l 2) (nJ l 1) (nJ l 3) = false := by
          unfold boxG
          rw [if_neg (by simp)]
          by_cases h1 : nJ l 0 ≤ nJ l 1
          · rw [decide_eq_true h1, decide_eq_false (fun h2 => hgd ⟨h1, h2⟩)]; rfl
          · rw [decide_eq_false h1]; rfl
        rw [hgb] at HG
        rw [if_neg hgd] at HBO
        clear hgd hgb
        go_wp2_with fail
        refine (HL'.out _ (src_alloc HS4.out _)).mono ?_
        rintro e w2 ⟨rfl, rfl⟩
        dsimp only
        go_wp2_with fail
        refine (HG.out _).mono ?_
        rintro e w3 ⟨rfl, hb3⟩
        have hz3 : BlkAt w3 W.heap.size zbL 65 := blk_below (blk_alloc HZ.out _) hb3
        have hB3 := below_step (hB.alloc hB.size _) hb3
        have z0 : w3.cell? ⟨W.heap.size, 0, none⟩ = some (.bool false) := blk_cell hz3 0 _ rfl
        have y0 : w3.frozen? ⟨W.heap.size, 0, none⟩ = false := Lib.frozen_of_heap hz3 0
        have z1 : w3.cell? ⟨W.heap.size, 1, none⟩ = some (.int .i64 0) := blk_cell hz3 1 _ rfl
        have y1 : w3.frozen? ⟨W.heap.size, 1, none⟩ = false := Lib.frozen_of_heap hz3 1
        have z2 : w3.cell? ⟨W.heap.size, 2, none⟩ = some (.int .i64 0) := blk_cell hz3 2 _ rfl
        have y2 : w3.frozen? ⟨W.heap.size, 2, none⟩ = false := Lib.frozen_of_heap hz3 2
        have z3 : w3.cell? ⟨W.heap.size, 3, none⟩ = some (.int .i64 0) := blk_cell hz3 3 _ rfl
        have y3 : w3.frozen? ⟨W.heap.size, 3, none⟩ = false := Lib.frozen_of_heap hz3 3
        have z4 : w3.cell? ⟨W.heap.size, 4, none⟩ = some (.int .i64 0) := blk_cell hz3 4 _ rfl
        have y4 : w3.frozen? ⟨W.heap.size, 4, none⟩ = false := Lib.frozen_of_heap hz3 4
        have g0 : w3.cell? ⟨wr.heap.size, 0, none⟩ = some (.bool false) := cell_later hb3 (by go_cell)
        have g1 : w3.cell? ⟨wr.heap.size, 1, none⟩ = some (.int .i64 (nJ l 0)) := cell_later hb3 (by go_cell)
        have g2 : w3.cell? ⟨wr.heap.size, 2, none⟩ = some (.int .i64 (nJ l 2)) := cell_later hb3 (by go_cell)
        have g3 : w3.cell? ⟨wr.heap.size, 3, none⟩ = some (.int .i64 (nJ l 1)) := cell_later hb3 (by go_cell)
        have g4 : w3.cell? ⟨wr.heap.size, 4, none⟩ = some (.int .i64 (nJ l 3)) := cell_later hb3 (by go_cell)
        clear hb3 hz3
        dsimp only
        go_wp2_with fail
        refine bodyPost_ret (v := .tuple #[boxV false 0 0 0 0, .int .i64 9]) (by simp [results, Tryd.results78, go_sem, boxV, z0, z1, z2, z3, z4]) rfl (.inr ⟨9, HBO.out, by decide, rfl, ((((hB3.setCell ?_ _).setCell ?_ _).setCell ?_ _).setCell ?_ _).setCell ?_ _⟩)
        all_goals exact Nat.le_refl _
end Go.Proofs.YtcjidlgmbjebjaaDoor

namespace Go.Proofs.YtcjidlgmbjebjaaDoor
open Go Go.RowKit Go.Proofs.YtcjidlgmbjebjaaDoorW.PrintWords
def nilS : Value := .slice none 0 0
def zeroE : Ent := Sb.Ent.zero
theorem keep_grown {p : Nat} {w w' : World} (h : Keep1 p w w') : w.grownBy w' (some p) := ⟨h.os, h.tape, h.output, h.size, fun k hk hp => h.block hk (fun e => hp (by rw [e]))⟩
/-- How Parse stands: its source, its entry, its result, the columns' own row. -/
structure PS (W : World) (R q p E B : Nat) (s : Sb.Src) (e : Ent) (v : Value) (w : World) : Prop where
  src : SrcP w p s
  qb : BlkAt w q #[.pointer (some ⟨p, 0, none⟩)] 112
  eb : BlkAt w E (entL e v) 67
  rb : BlkAt w R (entL zeroE nilS) 67
  own : w.ownsRow B 90 3 v e.cs.length (flat e.cs)
  bel : Below W.heap.size W w
  le : B ≤ w.heap.size
/-- The blocks' numbers. -/
structure PN (W : World) (R q p E B : Nat) : Prop where
  hR : W.heap.size ≤ R
  hp : W.heap.size ≤ p
  hE : W.heap.size ≤ E
  hB : W.heap.size ≤ B
  pq : p ≠ q
  pE : p ≠ E
  pR : p ≠ R
  qE : q ≠ E
  RE : R ≠ E
  lp : p < B
  lq : q < B
  lE : E < B
  lR : R < B
theorem nobyte_col {w : World} {b : Nat} {x : ByteArray} {k : Int} {m : Bool} {T : Nat} (h : BlkAt w b #[.string x, .int .i64 k, .bool m] T) : NoByte w b := by
  refine nobyte_of h fun i x hi => ?_
  match i, hi with
  | 0, hi => simp at hi
  | 1, hi => simp at hi
  | 2, hi => simp at hi
  | i + 3, hi => simp at hi
theorem src_grown {w w' : World} {p B : Nat} {s : Sb.Src} {row : Option Nat} (h : SrcP w p s) (hg : w.grownBy w' row) (hr : ∀ k, row = some k → B ≤ k) (hp : p < B) (hB : B ≤ w.heap.size) : SrcP w' p s := by
  have hl := src_lt h
  obtain ⟨v, ⟨h1, hv⟩, A, c, rfl, hc, hC⟩ := h
  refine ⟨_, ⟨(hg.block p hl (fun e => by have := hr p e.symm; omega)).trans h1, hv⟩, A, c, rfl, hc, kC_mk hC.2.1 fun hpos => ?_⟩
  obtain ⟨ad, rfl, hcell⟩ := kC_at hC hpos
  have hlt := hv ad _ _ rfl
  refine ⟨ad, rfl, fun j x hx => ?_⟩
  have hb : (ad.add j).block = ad.block := by unfold Addr.add; split <;> rfl
  have := hcell j x hx
  unfold World.cell? at this ⊢
  rw [hg.block _ (by rw [hb]; omega) (fun e => by have := hr _ e.symm; rw [hb] at this; omega)]
  exact this
section
variable {W w w' : World} {R q p E B : Nat} {s s' : Sb.Src} {e e' : Ent} {v v' : Value}
theorem PS.op (n : PN W R q p E B) (h : PS W R q p E B s e v w) (hs : SrcP w' p s') (hk : Keep1 p w w') : PS W R q p E B s' e v w' :=
  ⟨hs, blk_keep h.qb hk n.pq.symm, blk_keep h.eb hk n.pE.symm, blk_keep h.rb hk n.pR.symm, h.own.kept (keep_grown hk) (by
    cases hv : v.ownBlock with
    | none => exact .inl rfl
    | some k => exact .inr fun e => by have := h.own.lt k hv; injection e with e; have := n.lp; omega), hk.below h.bel n.hp (Nat.le_trans n.hB h.le), Nat.le_trans h.le hk.size⟩
theorem PS.below (n : PN W R q p E B) (h : PS W R q p E B s e v w) (hb : Below w.heap.size w w') : PS W R q p E B s e v w' :=
  ⟨src_below h.src hb, blk_below h.qb hb, blk_below h.eb hb, blk_below h.rb hb, own_below h.own hb, below_step h.bel hb, Nat.le_trans h.le hb.size⟩
theorem PS.alloc (n : PN W R q p E B) (h : PS W R q p E B s e v w) (o : Obj) : PS W R q p E B s e v (w.alloc o) := h.below n ((Below.refl _ _).alloc (Nat.le_refl _) o)
theorem nobyte_ent {T b : Nat} {A : Option Addr} {m c : Nat} (h : BlkAt w b (entL e (.slice A m c)) T) : NoByte w b := by
  refine nobyte_of h fun i x hi => ?_
  unfold entL at hi
  match i, hi with
  | 0, hi => simp at hi
  | 1, hi => simp at hi
  | 2, hi => simp at hi
  | 3, hi => simp at hi
  | 4, hi => simp at hi
  | 5, hi => simp at hi
  | 6, hi => simp at hi
  | 7, hi => simp at hi
  | 8, hi => simp at hi
  | 9, hi => simp at hi
  | 10, hi => simp at hi
  | 11, hi => simp at hi
  | 12, hi => simp at hi
  | 13, hi => simp at hi
  | 14, hi => simp at hi
  | 15, hi => simp at hi
  | i + 16, hi => simp at hi
theorem own_shape {w : World} {base t sz n : Nat} {v : Value} {xs : List Value} (h : w.ownsRow base t sz v n xs) : ∃ A c, v = .slice A n c := by
  rcases h.2 with ⟨hv, hn⟩ | ⟨g, cap, cur, hv, _⟩
  · exact ⟨none, 0, by rw [hv, hn]⟩
  · exact ⟨_, _, hv⟩
theorem PS.nobyte (h : PS W R q p E B s e v w) : NoByte w E := by
  obtain ⟨A, c, rfl⟩ := own_shape h.own
  exact nobyte_ent h.eb
/-- A store into the entry that leaves its columns. -/
theorem PS.set (n : PN W R q p E B) (h : PS W R q p E B s e v w) (i : Nat) (u : Value) (he : (entL e v).setIfInBounds i u = entL e' v) (hc : e'.cs = e.cs) : PS W R q p E B s e' v (w.setCell ⟨E, i, none⟩ u) := by
  refine ⟨src_set h.src n.pE.symm h.nobyte, blk_set h.qb n.qE, ?_, blk_set h.rb n.RE, ?_, h.bel.setCell n.hE _, by simp [World.setCell]; exact h.le⟩
  · have := heap_setCell_same w E i _ _ u h.eb
    rw [he] at this
    exact this
  · rw [hc]
    exact own_set h.own E i u n.lE
theorem PS.put (n : PN W R q p E B) (h : PS W R q p E B s e v w) (c i : Nat) (u : Value) (hc : B ≤ c) (hv : v.ownBlock ≠ some c) (hnb : NoByte w c) : PS W R q p E B s e v (w.setCell ⟨c, i, none⟩ u) := by
  have := n.lp; have := n.lq; have := n.lE; have := n.lR
  exact ⟨src_set h.src (by omega) hnb, blk_set h.qb (by omega), blk_set h.eb (by omega), blk_set h.rb (by omega),
    h.own.kept (row := some c) ⟨rfl, rfl, rfl, by simp [World.setCell], fun k _ hk => heap_setCell_other _ _ _ _ (fun e => hk (by simp [e]))⟩ (.inr hv), h.bel.setCell (Nat.le_trans n.hB hc) _, by simp [World.setCell]; exact h.le⟩
/-- The columns' new row. -/
theorem PS.cols (n : PN W R q p E B) (h : PS W R q p E B s e v w) (c : Col) (hg : w.grownBy w' v.ownBlock) (ho : w'.ownsRow B 90 3 v' (e.cs.length + 1) (flat e.cs ++ [.string c.1, .int .i64 c.2.1, .bool c.2.2])) :
    PS W R q p E B s { e with cs := e.cs ++ [c] } v' (w'.setCell ⟨E, 3, none⟩ v') := by
  have hno : ∀ k, k < B → some k ≠ v.ownBlock := fun k hk e => by have := h.own.lt k e.symm; omega
  have hst : ∀ {b : Nat} {cs : Array Value} {T : Nat}, BlkAt w b cs T → b < B → BlkAt w' b cs T := fun hb hl => (hg.block _ (blk_lt hb) (hno _ hl)).trans hb
  obtain ⟨A', c', hv'⟩ := own_shape ho
  have hnb : NoByte w' E := by
    have h1 := hst h.eb n.lE
    obtain ⟨A, c, hv⟩ := own_shape h.own
    rw [hv] at h1
    exact nobyte_ent h1
  have hlen : (e.cs ++ [c]).length = e.cs.length + 1 := by simp
  refine ⟨src_set (src_grown h.src hg (fun k hk => (h.own.lt k hk).1) n.lp h.le) n.pE.symm hnb, blk_set (hst h.qb n.lq) n.qE, ?_, blk_set (hst h.rb n.lR) n.RE, ?_, (h.bel.grown hg (Nat.le_trans n.hB h.le) (fun k hk => Nat.le_trans n.hB (h.own.lt k hk).1)).setCell n.hE _, by simp [World.setCell]; exact Nat.le_trans h.le hg.size⟩
  · exact heap_setCell_same w' E 3 _ _ v' (hst h.eb n.lE)
  · rw [show ({ e with cs := e.cs ++ [c] } : Ent).cs = e.cs ++ [c] from rfl, hlen, flat_snoc]
    exact own_set ho E 3 v' n.lE
end
end Go.Proofs.YtcjidlgmbjebjaaDoor

namespace Go.Proofs.YtcjidlgmbjebjaaDoor
open Go Go.RowKit Go.Proofs.YtcjidlgmbjebjaaDoorW.PrintWords
theorem entB_len (e : Ent) : (Sb.entB okE e).length ≤ 1000 := by
  cases h : okE e with
  | false => rw [entB_bad h]; simp
  | true =>
    have hb : Sb.entB okE e = Sb.body e := by unfold Sb.entB; rw [h]; rfl
    have h' := h
    unfold okE at h'
    simp only [Bool.and_eq_true, decide_eq_true_eq] at h'
    obtain ⟨g1, _, _, g4⟩ := good_facts h'.1
    obtain ⟨_, _, m3⟩ := good_more h'.1
    have h1 := headB_len e g1
    have h2 := colsB_len e.cs (fun c hc => (g4 c hc).1)
    rw [hb, ← body_eq]
    simp only [List.length_append, numF_len]
    have h3 : (numsOf e).length = 7 := rfl
    have h4 : (if e.bn then [] else numB e.lx ++ (numB e.hx ++ (numB e.ly ++ numB e.hy)) : List Int).length ≤ 32 := by cases e.bn <;> simp [numB, putB]
    simp only [List.length_cons, List.length_nil]
    omega
theorem byt_app {a b : List Int} (h1 : Byt a) (h2 : Byt b) : Byt (a ++ b) := fun x hx => (List.mem_append.1 hx).elim (h1 x) (h2 x)
theorem byt_bytes (s : ByteArray) : Byt (bytesOf s) := by
  intro x hx
  unfold bytesOf at hx
  obtain ⟨b, _, rfl⟩ := List.mem_map.1 hx
  have := b.toNat_lt
  omega
theorem byt_put (n : Int) : Byt (putB n) := by
  intro x hx
  simp only [putB, List.mem_cons, List.not_mem_nil, or_false] at hx
  rcases hx with rfl | rfl | rfl | rfl | rfl | rfl | rfl | rfl <;> omega
theorem byt_nums (ns : List Int) : Byt (numF ns) := by
  intro x hx
  unfold numF at hx
  obtain ⟨n, _, h⟩ := List.mem_flatMap.1 hx
  exact byt_put _ x h
theorem byt_one {x : Int} (h0 : 0 ≤ x) (h1 : x < 256) : Byt [x] := fun y hy => by simp at hy; subst hy; exact ⟨h0, h1⟩
theorem byt_nm {s : ByteArray} (h : s.size ≤ 12) : Byt (nmL s) := fun x hx => by
  unfold nmL at hx
  rcases List.mem_cons.1 hx with rfl | hx
  · omega
  · exact byt_bytes s x hx
theorem byt_cols (cs : List Col) (h : ∀ c ∈ cs, c.1.size ≤ 12 ∧ 1 ≤ c.2.1 ∧ c.2.1 ≤ 3) : Byt (colsB cs) := by
  intro x hx
  unfold colsB at hx
  obtain ⟨c, hc, hx⟩ := List.mem_flatMap.1 hx
  obtain ⟨h1, h2, h3⟩ := h c hc
  unfold colB at hx
  rcases List.mem_append.1 hx with hx | hx
  · exact byt_nm h1 x hx
  · simp only [List.mem_cons, List.not_mem_nil, or_false] at hx
    rcases hx with rfl | rfl
    · omega
    · cases c.2.2 <;> simp
theorem entB_byt (e : Ent) : Byt (Sb.entB okE e) := by
  cases h : okE e with
  | false => rw [entB_bad h]; intro x hx; simp at hx
  | true =>
    have hb : Sb.entB okE e = Sb.body e := by unfold Sb.entB; rw [h]; rfl
    have h' := h
    unfold okE at h'
    simp only [Bool.and_eq_true, decide_eq_true_eq] at h'
    obtain ⟨g1, _, _, g4⟩ := good_facts h'.1
    obtain ⟨m1, m2, m3⟩ := good_more h'.1
    rw [hb, ← body_eq]
    refine byt_app (byt_app (byt_app (byt_app ?_ (byt_cols _ g4)) (byt_nums _)) ?_) ?_
    · unfold headB
      exact byt_app (byt_app (byt_app (byt_nm g1) (byt_one m1 (by omega))) (byt_nums _)) (byt_one (by omega) (by omega))
    · cases e.bn
      · exact byt_one (by decide) (by decide)
      · exact byt_one (by decide) (by decide)
    · cases e.bn
      · exact byt_app (byt_put _) (byt_app (byt_put _) (byt_app (byt_put _) (byt_put _)))
      · intro x hx; simp at hx
theorem str_inj : ∀ {a b : List Int}, Byt a → Byt b → a.map (fun n => UInt8.ofNat n.toNat) = b.map (fun n => UInt8.ofNat n.toNat) → a = b
  | [], [], _, _, _ => rfl
  | [], y :: b, _, _, h => by simp at h
  | x :: a, [], _, _, h => by simp at h
  | x :: a, y :: b, h1, h2, h => by
    simp only [List.map_cons, List.cons.injEq] at h
    have hx := h1 x (by simp)
    have hy := h2 y (by simp)
    have he := congrArg UInt8.toNat h.1
    rw [UInt8.toNat_ofNat', UInt8.toNat_ofNat'] at he
    have : x = y := by omega
    rw [this, str_inj (fun z hz => h1 z (List.mem_cons_of_mem _ hz)) (fun z hz => h2 z (List.mem_cons_of_mem _ hz)) h.2]
theorem str_eq {a b : List Int} (h1 : Byt a) (h2 : Byt b) : some ((strOfNums a).toList == (strOfNums b).toList) = some (decide (b = a)) := by
  congr 1
  by_cases h : b = a
  · rw [decide_eq_true h, h]; simp
  · rw [decide_eq_false h, beq_eq_false_iff_ne]
    intro e
    apply h
    rw [ByteArray.toList_eq, ByteArray.toList_eq, strOfNums_data, strOfNums_data] at e
    exact (str_inj h1 h2 e).symm
end Go.Proofs.YtcjidlgmbjebjaaDoor

namespace Go.Proofs.YtcjidlgmbjebjaaDoor
open Go Go.RowKit Go.Proofs.YtcjidlgmbjebjaaDoorW.PrintWords
theorem colinfo90 : Option.map (fun i => (i.zero, i.size, i.bytes)) (Tryd.prog.info? 90) = some (some (.agg #[.string ⟨#[]⟩, .int .i64 0, .bool false]), 3, 32) := by kernel_rfl
def Inv (s : Sb.Src) : Prop := Byt s.2 ∧ s.2.length ≤ 140737488355000
theorem inv_take {s : Sb.Src} (n : Nat) (h : Inv s) : Inv (Sb.sTake n s).2 := ⟨(take_byt h.1).2, take_small h.2⟩
theorem inv_byte {s : Sb.Src} (h : Inv s) : Inv (Sb.sByte s).2 := inv_take 1 h
theorem inv_int {s : Sb.Src} (h : Inv s) : Inv (Sb.sInt s).2 := inv_take 8 h
theorem inv_name {s : Sb.Src} (h : Inv s) : Inv (Sb.sName s).2 := inv_take _ (inv_byte h)
theorem name_size {s : Sb.Src} (h : Inv s) : (Sb.sName s).1.size ≤ 255 := by
  unfold Sb.sName
  dsimp only
  rw [strOfNums_size]
  have h1 := take_len (n := (Sb.sByte s).1.toNat) (s := (Sb.sByte s).2)
  have h2 := (be_one h.1).2
  omega
/-- What Parse hands back. -/
def RetPe (l : List Int) (W : World) (e : Ending) (w' : World) : Prop :=
  (∃ en v, Sb.parse okE l = some en ∧ e = .returned (.tuple #[entV en v, .int .i64 0]) ∧ ColsV w' v en.cs ∧ Below W.heap.size W w') ∨
  (Sb.parse okE l = none ∧ e = .returned (.tuple #[entV zeroE nilS, .int .i64 9]) ∧ Below W.heap.size W w')
def stK (s : Sb.Src) : Nat → Sb.Src
  | 0 => s
  | k + 1 => (Sb.sInt (stK s k)).2
def nK (s : Sb.Src) (k : Nat) : Int := (Sb.sInt (stK s k)).1
theorem stK_inv {s : Sb.Src} (h : Inv s) : ∀ k, Inv (stK s k)
  | 0 => h
  | k + 1 => inv_int (stK_inv h k)
def eK (nm : ByteArray) (kd srs : Int) (cs : List Col) (sr : Sb.Src) : Nat → Ent
  | 0 => ⟨nm, kd, srs, cs, 0, 0, 0, 0, 0, 0, 0, true, 0, 0, 0, 0⟩
  | 1 => ⟨nm, kd, srs, cs, nK sr 0, 0, 0, 0, 0, 0, 0, true, 0, 0, 0, 0⟩
  | 2 => ⟨nm, kd, srs, cs, nK sr 0, nK sr 1, 0, 0, 0, 0, 0, true, 0, 0, 0, 0⟩
  | 3 => ⟨nm, kd, srs, cs, nK sr 0, nK sr 1, nK sr 2, 0, 0, 0, 0, true, 0, 0, 0, 0⟩
  | 4 => ⟨nm, kd, srs, cs, nK sr 0, nK sr 1, nK sr 2, nK sr 3, 0, 0, 0, true, 0, 0, 0, 0⟩
  | 5 => ⟨nm, kd, srs, cs, nK sr 0, nK sr 1, nK sr 2, nK sr 3, nK sr 4, 0, 0, true, 0, 0, 0, 0⟩
  | 6 => ⟨nm, kd, srs, cs, nK sr 0, nK sr 1, nK sr 2, nK sr 3, nK sr 4, nK sr 5, 0, true, 0, 0, 0, 0⟩
  | _ => ⟨nm, kd, srs, cs, nK sr 0, nK sr 1, nK sr 2, nK sr 3, nK sr 4, nK sr 5, nK sr 6, true, 0, 0, 0, 0⟩
def ptL (E : Nat) : Array Value := #[.pointer (some ⟨E, 4, none⟩), .pointer (some ⟨E, 5, none⟩), .pointer (some ⟨E, 6, none⟩), .pointer (some ⟨E, 7, none⟩), .pointer (some ⟨E, 8, none⟩), .pointer (some ⟨E, 9, none⟩), .pointer (some ⟨E, 10, none⟩)]
/-- Behind the box: the entry that bytes say. -/
def PbE (l : List Int) (W : World) (q p E : Nat) (w' : World) : Prop :=
  ∃ (sr : Sb.Src) (en : Ent) (v : Value), Sb.raw l = (some en, sr) ∧ en.nm.size ≤ 255 ∧ (∀ c ∈ en.cs, c.1.size ≤ 255) ∧ Inv sr ∧ PS W W.heap.size q p E (E + 1) sr en v w'
theorem PbE.mk {l : List Int} {W : World} {q p E : Nat} {w' : World} {sr : Sb.Src} {en : Ent} {v : Value} (h1 : Sb.raw l = (some en, sr)) (h2 : en.nm.size ≤ 255) (h3 : ∀ c ∈ en.cs, c.1.size ≤ 255) (h4 : Inv sr) (h5 : PS W W.heap.size q p E (E + 1) sr en v w') : PbE l W q p E w' :=
  ⟨sr, en, v, h1, h2, h3, h4, h5⟩
theorem below_set' {B : Nat} {a w : World} {p : Addr} {u : Value} (h : Below B a w) (hp : B ≤ p.block) : Below B a (w.setCell p u) := h.setCell hp u
theorem below_alloc' {B : Nat} {a w : World} {o : Obj} (h : Below B a w) (hB : B ≤ a.heap.size) : Below B a (w.alloc o) := h.alloc (Nat.le_trans hB h.size) o
theorem own_set' {w : World} {base e s n : Nat} {v : Value} {xs : List Value} {b i : Nat} {u : Value} (h : w.ownsRow base e s v n xs) (hb : b < base) : (w.setCell ⟨b, i, none⟩ u).ownsRow base e s v n xs := own_set h b i u hb
theorem blk_put {w : World} {R T : Nat} {xs : Array Value} (h : BlkAt w R xs T) (i : Nat) (u : Value) : BlkAt (w.setCell ⟨R, i, none⟩ u) R (xs.setIfInBounds i u) T := heap_setCell_same w R i _ _ u h
/-- A struct of sixteen cells is stored into a block: the world behind it, by one name. -/
theorem fin16 {Q : World → Prop} {B R T : Nat} {W w : World} {o0 o1 o2 o3 o4 o5 o6 o7 o8 o9 o10 o11 o12 o13 o14 o15 x0 x1 x2 x3 x4 x5 x6 x7 x8 x9 x10 x11 x12 x13 x14 x15 : Value} (hb : BlkAt w R #[o0, o1, o2, o3, o4, o5, o6, o7, o8, o9, o10, o11, o12, o13, o14, o15] T) (hB : Below B W w) (hR : B ≤ R)
    (h : ∀ wf : World, BlkAt wf R #[x0, x1, x2, x3, x4, x5, x6, x7, x8, x9, x10, x11, x12, x13, x14, x15] T → Below B W wf → (∀ (base e s n : Nat) (v : Value) (l : List Value), R < base → w.ownsRow base e s v n l → wf.ownsRow base e s v n l) → Q wf) :
    Q ((((((((((((((((w.setCell ⟨R, 0, none⟩ x0).setCell ⟨R, 1, none⟩ x1).setCell ⟨R, 2, none⟩ x2).setCell ⟨R, 3, none⟩ x3).setCell ⟨R, 4, none⟩ x4).setCell ⟨R, 5, none⟩ x5).setCell ⟨R, 6, none⟩ x6).setCell ⟨R, 7, none⟩ x7).setCell ⟨R, 8, none⟩ x8).setCell ⟨R, 9, none⟩ x9).setCell ⟨R, 10, none⟩ x10).setCell ⟨R, 11, none⟩ x11).setCell ⟨R, 12, none⟩ x12).setCell ⟨R, 13, none⟩ x13).setCell ⟨R, 14, none⟩ x14).setCell ⟨R, 15, none⟩ x15) := by
  refine h _ ?_ ?_ ?_
  · have h1 := blk_put hb 0 x0
    rw [show (#[o0, o1, o2, o3, o4, o5, o6, o7, o8, o9, o10, o11, o12, o13, o14, o15] : Array Value).setIfInBounds 0 x0 = #[x0, o1, o2, o3, o4, o5, o6, o7, o8, o9, o10, o11, o12, o13, o14, o15] from rfl] at h1
    have h2 := blk_put h1 1 x1
    rw [show (#[x0, o1, o2, o3, o4, o5, o6, o7, o8, o9, o10, o11, o12, o13, o14, o15] : Array Value).setIfInBounds 1 x1 = #[x0, x1, o2, o3, o4, o5, o6, o7, o8, o9, o10, o11, o12, o13, o14, o15] from rfl] at h2
    have h3 := blk_put h2 2 x2
    rw [show (#[x0, x1, o2, o3, o4, o5, o6, o7, o8, o9, o10, o11, o12, o13, o14, o15] : Array Value).setIfInBounds 2 x2 = #[x0, x1, x2, o3, o4, o5, o6, o7, o8, o9, o10, o11, o12, o13, o14, o15] from rfl] at h3
    have h4 := blk_put h3 3 x3
    rw [show (#[x0, x1, x2, o3, o4, o5, o6, o7, o8, o9, o10, o11, o12, o13, o14, o15] : Array Value).setIfInBounds 3 x3 = #[x0, x1, x2, x3, o4, o5, o6, o7, o8, o9, o10, o11, o12, o13, o14, o15] from rfl] at h4
    have h5 := blk_put h4 4 x4
    rw [show (#[x0, x1, x2, x3, o4, o5, o6, o7, o8, o9, o10, o11, o12, o13, o14, o15] : Array Value).setIfInBounds 4 x4 = #[x0, x1, x2, x3, x4, o5, o6, o7, o8, o9, o10, o11, o12, o13, o14, o15] from rfl] at h5
    have h6 := blk_put h5 5 x5
    rw [show (#[x0, x1, x2, x3, x4, o5, o6, o7, o8, o9, o10, o11, o12, o13, o14, o15] : Array Value).setIfInBounds 5 x5 = #[x0, x1, x2, x3, x4, x5, o6, o7, o8, o9, o10, o11, o12, o13, o14, o15] from rfl] at h6
    have h7 := blk_put h6 6 x6
    rw [show (#[x0, x1, x2, x3, x4, x5, o6, o7, o8, o9, o10, o11, o12, o13, o14, o15] : Array Value).setIfInBounds 6 x6 = #[x0, x1, x2, x3, x4, x5, x6, o7, o8, o9, o10, o11, o12, o13, o14, o15] from rfl] at h7
    have h8 := blk_put h7 7 x7
    rw [show (#[x0, x1, x2, x3, x4, x5, x6, o7, o8, o9, o10, o11, o12, o13, o14, o15] : Array Value).setIfInBounds 7 x7 = #[x0, x1, x2, x3, x4, x5, x6, x7, o8, o9, o10, o11, o12, o13, o14, o15] from rfl] at h8
    have h9 := blk_put h8 8 x8
    rw [show (#[x0, x1, x2, x3, x4, x5, x6, x7, o8, o9, o10, o11, o12, o13, o14, o15] : Array Value).setIfInBounds 8 x8 = #[x0, x1, x2, x3, x4, x5, x6, x7, x8, o9, o10, o11, o12, o13, o14, o15] from rfl] at h9
    have h10 := blk_put h9 9 x9
    rw [show (#[x0, x1, x2, x3, x4, x5, x6, x7, x8, o9, o10, o11, o12, o13, o14, o15] : Array Value).setIfInBounds 9 x9 = #[x0, x1, x2, x3, x4, x5, x6, x7, x8, x9, o10, o11, o12, o13, o14, o15] from rfl] at h10
    have h11 := blk_put h10 10 x10
    rw [show (#[x0, x1, x2, x3, x4, x5, x6, x7, x8, x9, o10, o11, o12, o13, o14, o15] : Array Value).setIfInBounds 10 x10 = #[x0, x1, x2, x3, x4, x5, x6, x7, x8, x9, x10, o11, o12, o13, o14, o15] from rfl] at h11
    have h12 := blk_put h11 11 x11
    rw [show (#[x0, x1, x2, x3, x4, x5, x6, x7, x8, x9, x10, o11, o12, o13, o14, o15] : Array Value).setIfInBounds 11 x11 = #[x0, x1, x2, x3, x4, x5, x6, x7, x8, x9, x10, x11, o12, o13, o14, o15] from rfl] at h12
    have h13 := blk_put h12 12 x12
    rw [show (#[x0, x1, x2, x3, x4, x5, x6, x7, x8, x9, x10, x11, o12, o13, o14, o15] : Array Value).setIfInBounds 12 x12 = #[x0, x1, x2, x3, x4, x5, x6, x7, x8, x9, x10, x11, x12, o13, o14, o15] from rfl] at h13
    have h14 := blk_put h13 13 x13
    rw [show (#[x0, x1, x2, x3, x4, x5, x6, x7, x8, x9, x10, x11, x12, o13, o14, o15] : Array Value).setIfInBounds 13 x13 = #[x0, x1, x2, x3, x4, x5, x6, x7, x8, x9, x10, x11, x12, x13, o14, o15] from rfl] at h14
    have h15 := blk_put h14 14 x14
    rw [show (#[x0, x1, x2, x3, x4, x5, x6, x7, x8, x9, x10, x11, x12, x13, o14, o15] : Array Value).setIfInBounds 14 x14 = #[x0, x1, x2, x3, x4, x5, x6, x7, x8, x9, x10, x11, x12, x13, x14, o15] from rfl] at h15
    have h16 := blk_put h15 15 x15
    rw [show (#[x0, x1, x2, x3, x4, x5, x6, x7, x8, x9, x10, x11, x12, x13, x14, o15] : Array Value).setIfInBounds 15 x15 = #[x0, x1, x2, x3, x4, x5, x6, x7, x8, x9, x10, x11, x12, x13, x14, x15] from rfl] at h16
    exact h16
  · exact (below_set' (below_set' (below_set' (below_set' (below_set' (below_set' (below_set' (below_set' (below_set' (below_set' (below_set' (below_set' (below_set' (below_set' (below_set' (below_set' hB hR) hR) hR) hR) hR) hR) hR) hR) hR) hR) hR) hR) hR) hR) hR) hR)
  · intro base e s n v l hRb ho
    exact (own_set' (own_set' (own_set' (own_set' (own_set' (own_set' (own_set' (own_set' (own_set' (own_set' (own_set' (own_set' (own_set' (own_set' (own_set' (own_set' ho hRb) hRb) hRb) hRb) hRb) hRb) hRb) hRb) hRb) hRb) hRb) hRb) hRb) hRb) hRb) hRb)
/-- The numbers' loop. -/
def P7R (nm : ByteArray) (kd srs : Int) (cs : List Col) (sr : Sb.Src) (v : Value) (W : World) (q p E P : Nat) (i : Value) (w' : World) : Prop :=
  ∃ j : Nat, j ≤ 7 ∧ i = .int .i64 j ∧ PS W W.heap.size q p E (E + 1) (stK sr j) (eK nm kd srs cs sr j) v w' ∧ BlkAt w' P (ptL E) 120
/-- Behind the columns' loop. -/
def PcE (nm : ByteArray) (kd srs nc : Int) (s4 : Sb.Src) (W : World) (q p E : Nat) (w' : World) : Prop :=
  ∃ (sr : Sb.Src) (cs : List Col) (v : Value), Inv sr ∧ (∀ c ∈ cs, c.1.size ≤ 255) ∧ (cs, sr) = Sb.sCols nc.toNat s4 ∧ PS W W.heap.size q p E (E + 1) sr (⟨nm, kd, srs, cs, 0, 0, 0, 0, 0, 0, 0, true, 0, 0, 0, 0⟩ : Ent) v w'
/-- The columns' loop: so many are still to come, and these are there. -/
def PcR (nm : ByteArray) (kd srs nc : Int) (s4 : Sb.Src) (W : World) (q p E : Nat) (i : Value) (w' : World) : Prop :=
  ∃ (m : Nat) (sr : Sb.Src) (cs : List Col) (v : Value), i = .int .u8 m ∧ (m : Int) ≤ nc ∧ Inv sr ∧ (∀ c ∈ cs, c.1.size ≤ 255) ∧ cs.length + m ≤ 255 ∧ (cs ++ (Sb.sCols m sr).1, (Sb.sCols m sr).2) = Sb.sCols nc.toNat s4 ∧
    PS W W.heap.size q p E (E + 1) sr (⟨nm, kd, srs, cs, 0, 0, 0, 0, 0, 0, 0, true, 0, 0, 0, 0⟩ : Ent) v w'
end Go.Proofs.YtcjidlgmbjebjaaDoor

namespace Go.Proofs.YtcjidlgmbjebjaaDoor
open Go Go.RowKit Go.Proofs.YtcjidlgmbjebjaaDoorW.PrintWords
theorem size67 : (Tryd.prog.info? 67).map (·.size) = some 16 := by kernel_rfl
theorem size72 : (Tryd.prog.info? 72).map (·.size) = some 16 := by kernel_rfl
/-- A struct of sixteen cells out of a block: one step. -/
theorem ld16 {w : World} {R T ty : Nat} {xs : Array Value} {fs : Array Field} (h : BlkAt w R xs T) (hu : Tryd.prog.underlying ty = some (.struct fs))
    (hi : (Tryd.prog.info? ty).map (·.size) = some xs.size) : (Instr.loadAt ty (.pointer (some ⟨R, 0, none⟩))).run Tryd.prog w = .ok (.agg xs) w := by
  simp only [Instr.loadAt, Instr.sureAddr, Sem.run_bind, Sem.run_pure, Result.andThen]
  exact run_loadVar_row w R T ty xs (0, 0) _ h hu rfl hi
theorem own_row {w : World} {R T : Nat} {os xs : Array Value} (h0 : BlkAt w R os T) (base e s n : Nat) (v : Value) (l : List Value) (hb : R < base) (h : w.ownsRow base e s v n l) : (w.setRow R xs).ownsRow base e s v n l := by
  refine h.kept (row := some R) ⟨rfl, rfl, rfl, by rw [size_setRow]; exact Nat.le_refl _, fun k _ hk => setRow_other w R k xs (fun e => hk (by simp [e]))⟩ ?_
  cases hv : v.ownBlock with
  | none => exact .inl rfl
  | some k =>
    refine .inr fun e => ?_
    have := h.lt k hv
    injection e with e
    omega
/-- .. into a block: one step, its world by one name. -/
theorem st16 {w W : World} {B R T ty : Nat} {os xs : Array Value} (h : BlkAt w R os T) (hi : (Tryd.prog.info? ty).map (·.size) = some xs.size) (ho : os.size = xs.size) (h1 : xs.all (·.oneCell') = true) (hB : Below B W w) (hR : B ≤ R) :
    ∃ wf, (Instr.storeAt ty (.pointer (some ⟨R, 0, none⟩)) (.agg xs)).run Tryd.prog w = .ok () wf ∧ BlkAt wf R xs T ∧ Below B W wf ∧ (∀ (base e s n : Nat) (v : Value) (l : List Value), R < base → w.ownsRow base e s v n l → wf.ownsRow base e s v n l) ∧ (∀ k, k ≠ R → wf.heap[k]? = w.heap[k]?) ∧ wf.heap.size = w.heap.size := by
  refine ⟨w.setRow R xs, ?_, setRow_heap w R os xs T (0, 0) h, below_setRow hB hR xs, ?_, fun k hk => setRow_other w R k xs hk, size_setRow w R xs⟩
  · simp only [Instr.storeAt, Instr.sureAddr, Sem.run_bind, Sem.run_pure, Result.andThen]
    exact run_storeVar_row w R T ty os xs h hi ho h1
  · intro base e s n v l hb h
    refine h.kept (row := some R) ⟨rfl, rfl, rfl, by rw [size_setRow]; exact Nat.le_refl _, fun k _ hk => setRow_other w R k xs (fun e => hk (by simp [e]))⟩ ?_
    cases hv : v.ownBlock with
    | none => exact .inl rfl
    | some k =>
      refine .inr fun e => ?_
      have := h.lt k hv
      injection e with e
      omega
/-- .. as one operation of a plain region. -/
theorem wpList_st16 {P : Program} {w W : World} {ops : Array Oper} {rest : List Oper} {op : Oper} {a : Act} {Q : Exit → Act → World → Prop} (hgd : op.guard = none) (x y : Operand) (T : TypeId) (ho : op.op = .store T x y)
    {B R : Nat} {os xs : Array Value} (hx : a.eval x = .pointer (some ⟨R, 0, none⟩)) (hy : a.eval y = .agg xs) (h : BlkAt w R os T) (hi : (P.info? T).map (·.size) = some xs.size) (hz : os.size = xs.size) (h1 : xs.all (·.oneCell') = true) (hB : Below B W w) (hR : B ≤ R)
    (hk : ∀ wf, BlkAt wf R xs T → Below B W wf → (∀ (base e s n : Nat) (v : Value) (l : List Value), R < base → w.ownsRow base e s v n l → wf.ownsRow base e s v n l) → wpList P ops Q rest (a.put op.dst undef) wf) : wpList P ops Q (op :: rest) a w := by
  refine wpList_plain hgd fun _ hK => ?_
  have hst := run_storeVar_row (P := P) w R T T os xs h hi hz h1
  have hfin := hK _ _ (hk _ (setRow_heap w R os xs T (0, 0) h) (below_setRow hB hR xs) (own_row h))
  unfold Oper.wp execOp
  simp only [ho, hx, hy, Instr.storeAt, Instr.sureAddr, Sem.run_bind, Sem.run_pure, Result.andThen_ok, hst]
  exact hfin
end Go.Proofs.YtcjidlgmbjebjaaDoor

namespace Go.Proofs.YtcjidlgmbjebjaaDoor
open Go Go.RowKit Go.Proofs.YtcjidlgmbjebjaaDoorW.PrintWords
theorem eqb_val (A8 : Option Addr) (M8 c8 : Nat) (lb : List Int) (A0 : Option Addr) (M0 c0 : Nat) (l : List Int) (w : World) (h8 : lb.length = M8) (hc8 : M8 ≤ c8) (hC8 : Kd.C (Kd.int .u8) w A8 M8 lb) (h0 : l.length = M0) (hc0 : M0 ≤ c0) (hv : SlB w (.slice A0 M0 c0) l) (hb8 : Byt lb) (hb : Byt l) :
    Calls Tryd.prog 63 #[.slice A8 M8 c8, .slice A0 M0 c0] w (RetS (.bool (decide (lb = l))) w) := by
  subst h8 h0
  obtain ⟨Av, cv, ev, _, hCv⟩ := hv
  injection ev with e1 e2 e3
  subst e1 e3
  have hh := PValueForms.bytes_Equal.calls A8 c8 lb A0 c0 l (decide (lb = l)) w hC8 hc8 hCv hc0 (by
    unfold PValueForms.bytes_Equal.f
    rw [str_eq hb8 hb]
    congr 1
    exact decide_eq_decide.mpr eq_comm)
  exact hh.mono fun e w' h => ⟨h.1, by first | exact h.2 | exact drawn_below h.2⟩
theorem sbytes_agg (en : Ent) (va : Option Addr) (vc : Nat) (lb : List Int) (hlb : Sb.entB okE en = lb) (h1 : en.nm.size ≤ 255) (h2 : ∀ c ∈ en.cs, c.1.size ≤ 255) (w : World) (hv : ColsV w (.slice va en.cs.length vc) en.cs) :
    Calls Tryd.prog 40 #[.agg #[.string en.nm, .int .i64 en.kd, .int .i64 en.srs, .slice va en.cs.length vc, .int .i64 en.id, .int .i64 en.tb, .int .i64 en.t0, .int .i64 en.t1, .int .i64 en.t2, .int .i64 en.ct, .int .i64 en.nx, .bool en.bn, .int .i64 en.lx, .int .i64 en.ly, .int .i64 en.hx, .int .i64 en.hy]] w (RetRow lb w) := by
  subst hlb
  exact sbytes_row en (.slice va en.cs.length vc) w ⟨by omega, fun c hc => by have := h2 c hc; omega⟩ hv
theorem parse_yes {l : List Int} {en : Ent} {sf : Sb.Src} (hraw : Sb.raw l = (some en, sf)) (hs : sf = (0, [])) (lb : List Int) (hlb : Sb.entB okE en = lb) (h : lb = l) : Sb.parse okE l = some en := by
  subst hlb
  unfold Sb.parse
  rw [hraw]
  dsimp only
  rw [if_pos ⟨hs, h⟩]
theorem parse_no {l : List Int} {en : Ent} {sf : Sb.Src} (hraw : Sb.raw l = (some en, sf)) (lb : List Int) (hlb : Sb.entB okE en = lb) (h : ¬ (sf = (0, []) ∧ lb = l)) : Sb.parse okE l = none := by
  subst hlb
  unfold Sb.parse
  rw [hraw]
  dsimp only
  rw [if_neg h]
theorem endOf_ne {sf : Sb.Src} (h : sf ≠ (0, [])) : endOf sf ≠ 0 := by
  intro h9
  apply h
  unfold endOf at h9
  by_cases h0 : sf.1 = 0
  · rw [if_pos h0] at h9
    by_cases h1 : sf.2 = []
    · exact Prod.ext h0 h1
    · rw [if_neg h1] at h9; cases h9
  · rw [if_neg h0] at h9; exact absurd h9 h0
end Go.Proofs.YtcjidlgmbjebjaaDoor
