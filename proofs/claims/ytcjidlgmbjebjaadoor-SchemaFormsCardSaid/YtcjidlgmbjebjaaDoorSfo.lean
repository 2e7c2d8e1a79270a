/- A part of the proof of SchemaForms. -/
import Derived.Test.YtcjidlgmbjebjaaDoorSfe
import Derived.Test.YtcjidlgmbjebjaaDoorSfl
import Derived.Test.YtcjidlgmbjebjaaDoorSfn
import Derived.Laws.CopyOwn
import Derived.Deep.MidRow
import Derived.Deep.RegionHeldLaw
import Derived.Test.YtcjidlgmbjebjaaDoorSfi
import Derived.Deep.RegionHeld3
import Derived.ChangeKeysEq
import Derived.Test.YtcjidlgmbjebjaaDoorPSchemaFormsx1
set_option linter.unusedVariables false
set_option linter.unusedSimpArgs false
set_option maxRecDepth 100000
namespace Go.Proofs.YtcjidlgmbjebjaaDoor
open Go Go.RowKit Go.Proofs.YtcjidlgmbjebjaaDoorW.PrintWords
def RetEnt (e : Ent) (W : World) (x : Ending) (w' : World) : Prop := ∃ v, x = .returned (entV e v) ∧ ColsV w' v e.cs ∧ Below W.heap.size W w'
theorem cell_row {w : World} {R b i : Nat} {xs : Array Value} {v : Value} (h : w.cell? ⟨b, i, none⟩ = some v) (hne : R ≠ b) : (w.setRow R xs).cell? ⟨b, i, none⟩ = some v := by
  unfold World.cell? at h ⊢
  rw [show (w.setRow R xs).heap[b]? = w.heap[b]? from setRow_other w R b xs (fun e => hne e.symm)]
  exact h
theorem colsV_row {w : World} {R : Nat} {xs : Array Value} {v : Value} {cs : List Col} (h : ColsV w v cs) (hR : BlkAt w R (entL zeroE nilS) 72) : ColsV (w.setRow R xs) v cs := by
  obtain ⟨pa, b, o, cap, hv, h1, h2, h3⟩ := h
  refine ⟨pa, b, o, cap, hv, h1, h2, fun i c hc => ?_⟩
  obtain ⟨y0, y1, y2⟩ := h3 i c hc
  have hb : R ≠ b := by
    rintro rfl
    rw [Lib.cell_of_heap hR] at y0 y2
    generalize o + i * 3 = k at y0 y2
    unfold entL zeroE Sb.Ent.zero nilS at y0 y2
    match k, y0, y2 with
    | 0, y0, y2 => simp at y2
    | 1, y0, y2 => simp at y0
    | 2, y0, y2 => simp at y0
    | 3, y0, y2 => simp at y0
    | 4, y0, y2 => simp at y0
    | 5, y0, y2 => simp at y0
    | 6, y0, y2 => simp at y0
    | 7, y0, y2 => simp at y0
    | 8, y0, y2 => simp at y0
    | 9, y0, y2 => simp at y0
    | 10, y0, y2 => simp at y0
    | 11, y0, y2 => simp at y0
    | 12, y0, y2 => simp at y0
    | 13, y0, y2 => simp at y0
    | 14, y0, y2 => simp at y0
    | 15, y0, y2 => simp at y0
    | k + 16, y0, y2 => simp at y0
  exact ⟨cell_row y0 hb, cell_row y1 hb, cell_row y2 hb⟩
set_option maxHeartbeats 4000000 in
theorem entry_val (e : Ent) (v : Value) (W : World) (hl : e.cs.length ≤ 50) (hv : ColsV W v e.cs) : Calls Tryd.prog 42 #[entV e v] W (RetEnt e W) := by
  obtain ⟨p1, q1, c1, rfl⟩ := colsV_shape hv
  have HV := Lib.hid hv; clear hv
  have HP := Lib.hid (fun w h => plain_val e.nm e.kd e.srs (.slice p1 q1 c1) e.cs w hl h)
  unfold schV at HP
  unfold entV entL
  go_enter Tryd.func42, Tryd.ntmps42
  go_wp2_with fail
  have hA0 : BlkAt (World.alloc (World.alloc W (.cells #[.string e.nm, .int .i64 e.kd, .int .i64 e.srs, .slice p1 q1 c1, .int .i64 e.id, .int .i64 e.tb, .int .i64 e.t0, .int .i64 e.t1, .int .i64 e.t2, .int .i64 e.ct, .int .i64 e.nx, .bool e.bn, .int .i64 e.lx, .int .i64 e.ly, .int .i64 e.hx, .int .i64 e.hy] 67)) (.cells (entL zeroE nilS) 72)) (W.heap.size + 1) (entL zeroE nilS) 72 := hp_new _ _ _ (by simp)
  have hb1 : BlkAt (World.alloc (World.alloc W (.cells #[.string e.nm, .int .i64 e.kd, .int .i64 e.srs, .slice p1 q1 c1, .int .i64 e.id, .int .i64 e.tb, .int .i64 e.t0, .int .i64 e.t1, .int .i64 e.t2, .int .i64 e.ct, .int .i64 e.nx, .bool e.bn, .int .i64 e.lx, .int .i64 e.ly, .int .i64 e.hx, .int .i64 e.hy] 67)) (.cells (entL zeroE nilS) 72)) W.heap.size #[.string e.nm, .int .i64 e.kd, .int .i64 e.srs, .slice p1 q1 c1, .int .i64 e.id, .int .i64 e.tb, .int .i64 e.t0, .int .i64 e.t1, .int .i64 e.t2, .int .i64 e.ct, .int .i64 e.nx, .bool e.bn, .int .i64 e.lx, .int .i64 e.ly, .int .i64 e.hx, .int .i64 e.hy] 67 := hp_old _ _ _ _ (by simp) (hp_new _ _ _ rfl)
  have hB : Below W.heap.size W (World.alloc (World.alloc W (.cells #[.string e.nm, .int .i64 e.kd, .int .i64 e.srs, .slice p1 q1 c1, .int .i64 e.id, .int .i64 e.tb, .int .i64 e.t0, .int .i64 e.t1, .int .i64 e.t2, .int .i64 e.ct, .int .i64 e.nx, .bool e.bn, .int .i64 e.lx, .int .i64 e.ly, .int .i64 e.hx, .int .i64 e.hy] 67)) (.cells (entL zeroE nilS) 72)) := ((Below.refl W.heap.size W).alloc (Nat.le_refl _) _).alloc (by simp) _
  have hsz : (World.alloc (World.alloc W (.cells #[.string e.nm, .int .i64 e.kd, .int .i64 e.srs, .slice p1 q1 c1, .int .i64 e.id, .int .i64 e.tb, .int .i64 e.t0, .int .i64 e.t1, .int .i64 e.t2, .int .i64 e.ct, .int .i64 e.nx, .bool e.bn, .int .i64 e.lx, .int .i64 e.ly, .int .i64 e.hx, .int .i64 e.hy] 67)) (.cells (entL zeroE nilS) 72)).heap.size = W.heap.size + 2 := by simp
  unfold entL zeroE Sb.Ent.zero nilS at hA0 hb1 hB hsz
  dsimp only at hA0 hb1 hB hsz
  generalize World.alloc (World.alloc W (.cells #[.string e.nm, .int .i64 e.kd, .int .i64 e.srs, .slice p1 q1 c1, .int .i64 e.id, .int .i64 e.tb, .int .i64 e.t0, .int .i64 e.t1, .int .i64 e.t2, .int .i64 e.ct, .int .i64 e.nx, .bool e.bn, .int .i64 e.lx, .int .i64 e.ly, .int .i64 e.hx, .int .i64 e.hy] 67)) (.cells #[.string ⟨#[]⟩, .int .i64 0, .int .i64 0, .slice none 0 0, .int .i64 0, .int .i64 0, .int .i64 0, .int .i64 0, .int .i64 0, .int .i64 0, .int .i64 0, .bool false, .int .i64 0, .int .i64 0, .int .i64 0, .int .i64 0] 72) = Wb at hA0 hb1 hB hsz ⊢
  have x0 : World.cell? Wb.drew ⟨W.heap.size, 0, none⟩ = some (.string e.nm) := blk_cell hb1 0 _ rfl
  have x1 : World.cell? Wb.drew ⟨W.heap.size, 1, none⟩ = some (.int .i64 e.kd) := blk_cell hb1 1 _ rfl
  have x2 : World.cell? Wb.drew ⟨W.heap.size, 2, none⟩ = some (.int .i64 e.srs) := blk_cell hb1 2 _ rfl
  have x3 : World.cell? Wb.drew ⟨W.heap.size, 3, none⟩ = some (.slice p1 q1 c1) := blk_cell hb1 3 _ rfl
  have x4 : World.cell? Wb.drew ⟨W.heap.size, 4, none⟩ = some (.int .i64 e.id) := blk_cell hb1 4 _ rfl
  have x5 : World.cell? Wb.drew ⟨W.heap.size, 5, none⟩ = some (.int .i64 e.tb) := blk_cell hb1 5 _ rfl
  have x6 : World.cell? Wb.drew ⟨W.heap.size, 6, none⟩ = some (.int .i64 e.t0) := blk_cell hb1 6 _ rfl
  have x7 : World.cell? Wb.drew ⟨W.heap.size, 7, none⟩ = some (.int .i64 e.t1) := blk_cell hb1 7 _ rfl
  have x8 : World.cell? Wb.drew ⟨W.heap.size, 8, none⟩ = some (.int .i64 e.t2) := blk_cell hb1 8 _ rfl
  have x9 : World.cell? Wb.drew ⟨W.heap.size, 9, none⟩ = some (.int .i64 e.ct) := blk_cell hb1 9 _ rfl
  have x10 : World.cell? Wb.drew ⟨W.heap.size, 10, none⟩ = some (.int .i64 e.nx) := blk_cell hb1 10 _ rfl
  have x11 : World.cell? Wb.drew ⟨W.heap.size, 11, none⟩ = some (.bool e.bn) := blk_cell hb1 11 _ rfl
  have x12 : World.cell? Wb.drew ⟨W.heap.size, 12, none⟩ = some (.int .i64 e.lx) := blk_cell hb1 12 _ rfl
  have x13 : World.cell? Wb.drew ⟨W.heap.size, 13, none⟩ = some (.int .i64 e.ly) := blk_cell hb1 13 _ rfl
  have x14 : World.cell? Wb.drew ⟨W.heap.size, 14, none⟩ = some (.int .i64 e.hx) := blk_cell hb1 14 _ rfl
  have x15 : World.cell? Wb.drew ⟨W.heap.size, 15, none⟩ = some (.int .i64 e.hy) := blk_cell hb1 15 _ rfl
  have hne : W.heap.size + 1 ≠ W.heap.size := by omega
  refine wp_region_held_drew (S := (fun w' : World => w'.cell? ⟨W.heap.size, 0, none⟩ = some (.string e.nm) ∧ w'.cell? ⟨W.heap.size, 1, none⟩ = some (.int .i64 e.kd) ∧ w'.cell? ⟨W.heap.size, 2, none⟩ = some (.int .i64 e.srs) ∧ w'.cell? ⟨W.heap.size, 3, none⟩ = some (.slice p1 q1 c1) ∧ w'.cell? ⟨W.heap.size, 4, none⟩ = some (.int .i64 e.id) ∧ w'.cell? ⟨W.heap.size, 5, none⟩ = some (.int .i64 e.tb) ∧ w'.cell? ⟨W.heap.size, 6, none⟩ = some (.int .i64 e.t0) ∧ w'.cell? ⟨W.heap.size, 7, none⟩ = some (.int .i64 e.t1) ∧ w'.cell? ⟨W.heap.size, 8, none⟩ = some (.int .i64 e.t2) ∧ w'.cell? ⟨W.heap.size, 9, none⟩ = some (.int .i64 e.ct) ∧ w'.cell? ⟨W.heap.size, 10, none⟩ = some (.int .i64 e.nx) ∧ w'.cell? ⟨W.heap.size, 11, none⟩ = some (.bool e.bn) ∧ w'.cell? ⟨W.heap.size, 12, none⟩ = some (.int .i64 e.lx) ∧ w'.cell? ⟨W.heap.size, 13, none⟩ = some (.int .i64 e.ly) ∧ w'.cell? ⟨W.heap.size, 14, none⟩ = some (.int .i64 e.hx) ∧ w'.cell? ⟨W.heap.size, 15, none⟩ = some (.int .i64 e.hy))) (by kernel_rfl) ?_ (fun hHeld => ?_)
  · exact ⟨x0, x1, x2, x3, x4, x5, x6, x7, x8, x9, x10, x11, x12, x13, x14, x15⟩
  refine wpAnyH_take (i := 0) (v := ?_) rfl (by kernel_rfl) (by kernel_rfl) (by kernel_rfl) (fun _ _ _ h => h) (Or.inl ⟨by rfl, ?_⟩) (by assumption) ?_
  rotate_left
  · intro w hSw
    (try dsimp only at hSw)
    go_simp
    try with_reducible rfl
  try simp only [Act.put, List.getElem_toArray, List.getElem_cons_zero, List.getElem_cons_succ, List.setIfInBounds_toArray, List.set_cons_zero, List.set_cons_succ]
  refine wpAnyH_take (i := 1) (v := ?_) rfl (by kernel_rfl) (by kernel_rfl) (by kernel_rfl) (fun _ _ _ h => h) (Or.inl ⟨by rfl, ?_⟩) (by assumption) ?_
  rotate_left
  · intro w hSw
    (try dsimp only at hSw)
    go_simp
    try with_reducible rfl
  try simp only [Act.put, List.getElem_toArray, List.getElem_cons_zero, List.getElem_cons_succ, List.setIfInBounds_toArray, List.set_cons_zero, List.set_cons_succ]
  refine wpAnyH_take (i := 3) (v := ?_) rfl (by kernel_rfl) (by kernel_rfl) (by kernel_rfl) (fun _ _ _ h => h) (Or.inl ⟨by rfl, ?_⟩) (by assumption) ?_
  rotate_left
  · intro w hSw
    (try dsimp only at hSw)
    go_simp
    try with_reducible rfl
  try simp only [Act.put, List.getElem_toArray, List.getElem_cons_zero, List.getElem_cons_succ, List.setIfInBounds_toArray, List.set_cons_zero, List.set_cons_succ]
  refine wpAnyH_take (i := 4) (v := ?_) rfl (by kernel_rfl) (by kernel_rfl) (by kernel_rfl) (fun _ _ _ h => h) (Or.inl ⟨by rfl, ?_⟩) (by assumption) ?_
  rotate_left
  · intro w hSw
    (try dsimp only at hSw)
    go_simp
    try with_reducible rfl
  try simp only [Act.put, List.getElem_toArray, List.getElem_cons_zero, List.getElem_cons_succ, List.setIfInBounds_toArray, List.set_cons_zero, List.set_cons_succ]
  refine wpAnyH_take (i := 5) (v := ?_) rfl (by kernel_rfl) (by kernel_rfl) (by kernel_rfl) (fun _ _ _ h => h) (Or.inl ⟨by rfl, ?_⟩) (by assumption) ?_
  rotate_left
  · intro w hSw
    (try dsimp only at hSw)
    go_simp
    try with_reducible rfl
  try simp only [Act.put, List.getElem_toArray, List.getElem_cons_zero, List.getElem_cons_succ, List.setIfInBounds_toArray, List.set_cons_zero, List.set_cons_succ]
  refine wpAnyH_take (i := 6) (v := ?_) rfl (by kernel_rfl) (by kernel_rfl) (by kernel_rfl) (fun _ _ _ h => h) (Or.inl ⟨by rfl, ?_⟩) (by assumption) ?_
  rotate_left
  · intro w hSw
    (try dsimp only at hSw)
    go_simp
    try with_reducible rfl
  try simp only [Act.put, List.getElem_toArray, List.getElem_cons_zero, List.getElem_cons_succ, List.setIfInBounds_toArray, List.set_cons_zero, List.set_cons_succ]
  refine wpAnyH_take (i := 7) (v := ?_) rfl (by kernel_rfl) (by kernel_rfl) (by kernel_rfl) (fun _ _ _ h => h) (Or.inl ⟨by rfl, ?_⟩) (by assumption) ?_
  rotate_left
  · intro w hSw
    (try dsimp only at hSw)
    go_simp
    try with_reducible rfl
  try simp only [Act.put, List.getElem_toArray, List.getElem_cons_zero, List.getElem_cons_succ, List.setIfInBounds_toArray, List.set_cons_zero, List.set_cons_succ]
  refine wpAnyH_take (i := 8) (v := ?_) rfl (by kernel_rfl) (by kernel_rfl) (by kernel_rfl) (fun _ _ _ h => h) (Or.inl ⟨by rfl, ?_⟩) (by assumption) ?_
  rotate_left
  · intro w hSw
    (try dsimp only at hSw)
    go_simp
    try with_reducible rfl
  try simp only [Act.put, List.getElem_toArray, List.getElem_cons_zero, List.getElem_cons_succ, List.setIfInBounds_toArray, List.set_cons_zero, List.set_cons_succ]
  refine wpAnyH_take (i := 9) (v := ?_) rfl (by kernel_rfl) (by kernel_rfl) (by kernel_rfl) (fun _ _ _ h => h) (Or.inl ⟨by rfl, ?_⟩) (by assumption) ?_
  rotate_left
  · intro w hSw
    (try dsimp only at hSw)
    go_simp
    try with_reducible rfl
  try simp only [Act.put, List.getElem_toArray, List.getElem_cons_zero, List.getElem_cons_succ, List.setIfInBounds_toArray, List.set_cons_zero, List.set_cons_succ]
  refine wpAnyH_take (i := 10) (v := ?_) rfl (by kernel_rfl) (by kernel_rfl) (by kernel_rfl) (fun _ _ _ h => h) (Or.inl ⟨by rfl, ?_⟩) (by assumption) ?_
  rotate_left
  · intro w hSw
    (try dsimp only at hSw)
    go_simp
    try with_reducible rfl
  try simp only [Act.put, List.getElem_toArray, List.getElem_cons_zero, List.getElem_cons_succ, List.setIfInBounds_toArray, List.set_cons_zero, List.set_cons_succ]
  refine wpAnyH_take (i := 11) (v := ?_) rfl (by kernel_rfl) (by kernel_rfl) (by kernel_rfl) (fun _ _ _ h => h) (Or.inl ⟨by rfl, ?_⟩) (by assumption) ?_
  rotate_left
  · intro w hSw
    (try dsimp only at hSw)
    go_simp
    try with_reducible rfl
  try simp only [Act.put, List.getElem_toArray, List.getElem_cons_zero, List.getElem_cons_succ, List.setIfInBounds_toArray, List.set_cons_zero, List.set_cons_succ]
  refine wpAnyH_take (i := 12) (v := ?_) rfl (by kernel_rfl) (by kernel_rfl) (by kernel_rfl) (fun _ _ _ h => h) (Or.inl ⟨by rfl, ?_⟩) (by assumption) ?_
  rotate_left
  · intro w hSw
    (try dsimp only at hSw)
    go_simp
    try with_reducible rfl
  try simp only [Act.put, List.getElem_toArray, List.getElem_cons_zero, List.getElem_cons_succ, List.setIfInBounds_toArray, List.set_cons_zero, List.set_cons_succ]
  refine wpAnyH_take (i := 13) (v := ?_) rfl (by kernel_rfl) (by kernel_rfl) (by kernel_rfl) (fun _ _ _ h => h) (Or.inl ⟨by rfl, ?_⟩) (by assumption) ?_
  rotate_left
  · intro w hSw
    (try dsimp only at hSw)
    go_simp
    try with_reducible rfl
  try simp only [Act.put, List.getElem_toArray, List.getElem_cons_zero, List.getElem_cons_succ, List.setIfInBounds_toArray, List.set_cons_zero, List.set_cons_succ]
  refine wpAnyH_take (i := 14) (v := ?_) rfl (by kernel_rfl) (by kernel_rfl) (by kernel_rfl) (fun _ _ _ h => h) (Or.inl ⟨by rfl, ?_⟩) (by assumption) ?_
  rotate_left
  · intro w hSw
    (try dsimp only at hSw)
    go_simp
    try with_reducible rfl
  try simp only [Act.put, List.getElem_toArray, List.getElem_cons_zero, List.getElem_cons_succ, List.setIfInBounds_toArray, List.set_cons_zero, List.set_cons_succ]
  refine wpAnyH_take (i := 15) (v := ?_) rfl (by kernel_rfl) (by kernel_rfl) (by kernel_rfl) (fun _ _ _ h => h) (Or.inl ⟨by rfl, ?_⟩) (by assumption) ?_
  rotate_left
  · intro w hSw
    (try dsimp only at hSw)
    go_simp
    try with_reducible rfl
  try simp only [Act.put, List.getElem_toArray, List.getElem_cons_zero, List.getElem_cons_succ, List.setIfInBounds_toArray, List.set_cons_zero, List.set_cons_succ]
  refine wpAnyH_take (i := 16) (v := ?_) rfl (by kernel_rfl) (by kernel_rfl) (by kernel_rfl) (fun _ _ _ h => h) (Or.inl ⟨by rfl, ?_⟩) (by assumption) ?_
  rotate_left
  · intro w hSw
    (try dsimp only at hSw)
    go_simp
    try with_reducible rfl
  try simp only [Act.put, List.getElem_toArray, List.getElem_cons_zero, List.getElem_cons_succ, List.setIfInBounds_toArray, List.set_cons_zero, List.set_cons_succ]
  refine wpAnyH_take (i := 17) (v := ?_) rfl (by kernel_rfl) (by kernel_rfl) (by kernel_rfl) (fun _ _ _ h => h) (Or.inl ⟨by rfl, ?_⟩) (by assumption) ?_
  rotate_left
  · intro w hSw
    (try dsimp only at hSw)
    go_simp
    try with_reducible rfl
  try simp only [Act.put, List.getElem_toArray, List.getElem_cons_zero, List.getElem_cons_succ, List.setIfInBounds_toArray, List.set_cons_zero, List.set_cons_succ]
  refine wpAnyH_take (i := 18) (v := ?_) rfl (by kernel_rfl) (by kernel_rfl) (by kernel_rfl) (fun _ _ _ h => h) (Or.inl ⟨by rfl, ?_⟩) (by assumption) ?_
  rotate_left
  · intro w hSw
    (try dsimp only at hSw)
    go_simp
    try with_reducible rfl
  try simp only [Act.put, List.getElem_toArray, List.getElem_cons_zero, List.getElem_cons_succ, List.setIfInBounds_toArray, List.set_cons_zero, List.set_cons_succ]
  refine wpAnyH_take (i := 19) (v := ?_) rfl (by kernel_rfl) (by kernel_rfl) (by kernel_rfl) (fun _ _ _ h => h) (Or.inl ⟨by rfl, ?_⟩) (by assumption) ?_
  rotate_left
  · intro w hSw
    (try dsimp only at hSw)
    go_simp
    try with_reducible rfl
  try simp only [Act.put, List.getElem_toArray, List.getElem_cons_zero, List.getElem_cons_succ, List.setIfInBounds_toArray, List.set_cons_zero, List.set_cons_succ]
  refine wpAnyH_take (i := 20) (v := ?_) rfl (by kernel_rfl) (by kernel_rfl) (by kernel_rfl) (fun _ _ _ h => h) (Or.inl ⟨by rfl, ?_⟩) (by assumption) ?_
  rotate_left
  · intro w hSw
    (try dsimp only at hSw)
    go_simp
    try with_reducible rfl
  try simp only [Act.put, List.getElem_toArray, List.getElem_cons_zero, List.getElem_cons_succ, List.setIfInBounds_toArray, List.set_cons_zero, List.set_cons_succ]
  refine wpAnyH_take (i := 21) (v := ?_) rfl (by kernel_rfl) (by kernel_rfl) (by kernel_rfl) (fun _ _ _ h => h) (Or.inl ⟨by rfl, ?_⟩) (by assumption) ?_
  rotate_left
  · intro w hSw
    (try dsimp only at hSw)
    go_simp
    try with_reducible rfl
  try simp only [Act.put, List.getElem_toArray, List.getElem_cons_zero, List.getElem_cons_succ, List.setIfInBounds_toArray, List.set_cons_zero, List.set_cons_succ]
  refine wpAnyH_take (i := 22) (v := ?_) rfl (by kernel_rfl) (by kernel_rfl) (by kernel_rfl) (fun _ _ _ h => h) (Or.inl ⟨by rfl, ?_⟩) (by assumption) ?_
  rotate_left
  · intro w hSw
    (try dsimp only at hSw)
    go_simp
    try with_reducible rfl
  try simp only [Act.put, List.getElem_toArray, List.getElem_cons_zero, List.getElem_cons_succ, List.setIfInBounds_toArray, List.set_cons_zero, List.set_cons_succ]
  refine wpAnyH_ready (rs := [2]) (by kernel_rfl) (by simp) ?_
  refine AllReadyH.cons rfl (fun K hK => ?_) AllReadyH.nil
  go_simp
  go_wp2_with (go_at_call 14; refine (HP.out _ (colsV_stays HV.out (below_drew hB))).mono ?_; rintro e w5 ⟨v5, rfl, hC5, hb5⟩; obtain ⟨p5, q5, c5, rfl⟩ := colsV_shape hC5)
  refine hK.out _ _ ?_ (fun hHeld => ?_)
  · exact ⟨cell_later hb5 x0, cell_later hb5 x1, cell_later hb5 x2, cell_later hb5 x3, cell_later hb5 x4, cell_later hb5 x5, cell_later hb5 x6, cell_later hb5 x7, cell_later hb5 x8, cell_later hb5 x9, cell_later hb5 x10, cell_later hb5 x11, cell_later hb5 x12, cell_later hb5 x13, cell_later hb5 x14, cell_later hb5 x15⟩
  clear hK K
  refine wpAnyH_take (i := 23) (v := ?_) rfl (by kernel_rfl) (by kernel_rfl) (by kernel_rfl) (fun _ _ _ h => h) (Or.inl ⟨by rfl, ?_⟩) (by assumption) ?_
  rotate_left
  · intro w hSw
    (try dsimp only at hSw)
    go_simp
    try with_reducible rfl
  try simp only [Act.put, List.getElem_toArray, List.getElem_cons_zero, List.getElem_cons_succ, List.setIfInBounds_toArray, List.set_cons_zero, List.set_cons_succ]
  have hA5 := blk_below (show BlkAt Wb.drew (W.heap.size + 1) _ 72 from hA0) hb5
  refine wpAnyH_ready (rs := [24]) (by kernel_rfl) (by simp) ?_
  refine AllReadyH.cons rfl (fun K hK => ?_) AllReadyH.nil
  rw [if_pos (by rfl)]
  refine wp_store_row 72 _ _ rfl (W.heap.size + 1) _ rfl rfl 72 _ hA5 size72 rfl (by simp [Value.oneCell']) ?_
  refine hK.out _ _ ?_ (fun hHeld2 => ?_)
  · exact ⟨cell_row (cell_later hb5 x0) hne, cell_row (cell_later hb5 x1) hne, cell_row (cell_later hb5 x2) hne, cell_row (cell_later hb5 x3) hne, cell_row (cell_later hb5 x4) hne, cell_row (cell_later hb5 x5) hne, cell_row (cell_later hb5 x6) hne, cell_row (cell_later hb5 x7) hne, cell_row (cell_later hb5 x8) hne, cell_row (cell_later hb5 x9) hne, cell_row (cell_later hb5 x10) hne, cell_row (cell_later hb5 x11) hne, cell_row (cell_later hb5 x12) hne, cell_row (cell_later hb5 x13) hne, cell_row (cell_later hb5 x14) hne, cell_row (cell_later hb5 x15) hne⟩
  clear hK K hHeld2
  refine wpAnyH_done (by kernel_rfl) ?_ _
  have hbf := setRow_heap w5 (W.heap.size + 1) _ #[.string e.nm, .int .i64 e.kd, .int .i64 e.srs, .slice p5 q5 c5, .int .i64 e.id, .int .i64 e.tb, .int .i64 e.t0, .int .i64 e.t1, .int .i64 e.t2, .int .i64 e.ct, .int .i64 e.nx, .bool e.bn, .int .i64 e.lx, .int .i64 e.ly, .int .i64 e.hx, .int .i64 e.hy] 72 (0, 0) hA5
  have hBf : Below W.heap.size W (w5.setRow (W.heap.size + 1) #[.string e.nm, .int .i64 e.kd, .int .i64 e.srs, .slice p5 q5 c5, .int .i64 e.id, .int .i64 e.tb, .int .i64 e.t0, .int .i64 e.t1, .int .i64 e.t2, .int .i64 e.ct, .int .i64 e.nx, .bool e.bn, .int .i64 e.lx, .int .i64 e.ly, .int .i64 e.hx, .int .i64 e.hy]) := below_setRow (below_step (below_drew hB) hb5) (by omega) _
  have hCf := colsV_row (R := W.heap.size + 1) (xs := #[.string e.nm, .int .i64 e.kd, .int .i64 e.srs, .slice p5 q5 c5, .int .i64 e.id, .int .i64 e.tb, .int .i64 e.t0, .int .i64 e.t1, .int .i64 e.t2, .int .i64 e.ct, .int .i64 e.nx, .bool e.bn, .int .i64 e.lx, .int .i64 e.ly, .int .i64 e.hx, .int .i64 e.hy]) hC5 hA5
  generalize w5.setRow (W.heap.size + 1) #[.string e.nm, .int .i64 e.kd, .int .i64 e.srs, .slice p5 q5 c5, .int .i64 e.id, .int .i64 e.tb, .int .i64 e.t0, .int .i64 e.t1, .int .i64 e.t2, .int .i64 e.ct, .int .i64 e.nx, .bool e.bn, .int .i64 e.lx, .int .i64 e.ly, .int .i64 e.hx, .int .i64 e.hy] = wf at hbf hBf hCf ⊢
  try simp only [Act.put, List.getElem_toArray, List.getElem_cons_zero, List.getElem_cons_succ, List.setIfInBounds_toArray, List.set_cons_zero, List.set_cons_succ]
  go_wp2_with fail
  exact bodyPost_ret (results_cell_row rfl _ _ (W.heap.size + 1) 72 #[.string e.nm, .int .i64 e.kd, .int .i64 e.srs, .slice p5 q5 c5, .int .i64 e.id, .int .i64 e.tb, .int .i64 e.t0, .int .i64 e.t1, .int .i64 e.t2, .int .i64 e.ct, .int .i64 e.nx, .bool e.bn, .int .i64 e.lx, .int .i64 e.ly, .int .i64 e.hx, .int .i64 e.hy] (0, 0) _ rfl hbf Tryd.underlying72 rfl size72) rfl ⟨_, rfl, hCf, hBf⟩
end Go.Proofs.YtcjidlgmbjebjaaDoor

namespace Go.Proofs.YtcjidlgmbjebjaaDoor
open Go Go.RowKit Go.Proofs.YtcjidlgmbjebjaaDoorW.PrintWords
/-- Blocks other than a row's own stay. -/
def KeptO (v : Value) (w w' : World) : Prop := ∀ b, b < w.heap.size → some b ≠ v.ownBlock → w'.heap[b]? = w.heap[b]?
/-- Behind an append the row lies where it lay, or in a new block. -/
def NextO (v v' : Value) (w : World) : Prop := v'.ownBlock = v.ownBlock ∨ ∃ k, w.heap.size ≤ k ∧ v'.ownBlock = some k
theorem own_next {w w' : World} {base : Nat} {v v' : Value} {l : List Int} (h : Row w base v l) {ad : Addr} {m : Nat} (c : Nat) {ys : List Int} (hC : Kd.C (Kd.int .u8) w (some ad) m ys) (h0 : 0 < m) (hlen : l.length + ys.length ≤ 140737488355000)
    (hr : (Builtin.append_ #[43, 43] 43 #[v, .slice (some ad) m c]).run Tryd.prog w = .ok v' w') : NextO v v' w := by
  obtain ⟨i0, hi, hz0, hz1, hz2⟩ := info_parts byteinfo
  have hm : ys.length = m := hC.1
  subst hm
  obtain ⟨ad', e, hcell⟩ := kC_at hC h0
  injection e with e
  subst e
  have hnews : ∀ (j : Nat) (u : Value), (u8s ys)[j]? = some u → w.cell? (ad.add j) = some u := by
    intro j u hu
    unfold u8s at hu
    rw [List.getElem?_map] at hu
    obtain ⟨y, hy, rfl⟩ := Option.map_eq_some_iff.1 hu
    exact hcell j y hy
  have hl : (u8s ys).length = ys.length * i0.size := by rw [hz1]; simp [u8s]
  rcases h.2 with ⟨rfl, h1⟩ | ⟨g, cap, cur, rfl, hbg, hg, hnc, hcm, hcs, htake⟩
  · have hr1 := run_append_nil (P := Tryd.prog) w 43 43 5 i0 (.int .u8 0) Tryd.underlying43 hi hz0 ad ys.length c (u8s ys) hl hnews h0 (by omega) (by rw [hz2]; omega)
    rw [hr1] at hr
    injection hr with hr _
    subst hr
    exact .inr ⟨_, Nat.le_refl _, rfl⟩
  · by_cases hroom : l.length + ys.length ≤ cap
    · have hr1 := run_append_room (P := Tryd.prog) w 43 43 5 i0 Tryd.underlying43 hi g l.length cap cur hg ad ys.length c (u8s ys) hl hnews (fun u hu => by unfold u8s at hu; obtain ⟨y, _, rfl⟩ := List.mem_map.1 hu; rfl) hroom (by rw [hl, hz1, hcs]; omega)
      rw [hr1] at hr
      injection hr with hr _
      subst hr
      exact .inl rfl
    · have holds : ∀ j u, (u8s l)[j]? = some u → w.cell? ((⟨g, 0, none⟩ : Addr).add j) = some u := h.cells (g := g) rfl
      have hr1 := run_append_grow (P := Tryd.prog) w 43 43 5 i0 (.int .u8 0) Tryd.underlying43 hi hz0 ⟨g, 0, none⟩ l.length cap (u8s l) (by rw [hz1]; simp [u8s]) holds ad ys.length c (u8s ys) hl hnews (by omega) (by omega) (growslice_fits (by omega) (by rw [hz2]; omega))
      rw [hr1] at hr
      injection hr with hr _
      subst hr
      exact .inr ⟨_, Nat.le_refl _, rfl⟩
theorem run_app2 {w : World} {base : Nat} {v : Value} {l : List Int} (h : Row w base v l) {ad : Addr} {m : Nat} (c : Nat) {ys : List Int} (hC : Kd.C (Kd.int .u8) w (some ad) m ys) (h0 : 0 < m) (hlen : l.length + ys.length ≤ 140737488355000) (hbase : base ≤ w.heap.size) :
    ∃ v' w', (Builtin.append_ #[43, 43] 43 #[v, .slice (some ad) m c]).run Tryd.prog w = .ok v' w' ∧ Row w' base v' (l ++ ys) ∧ Below base w w' ∧ KeptO v w w' ∧ NextO v v' w := by
  obtain ⟨i0, hi, hz0, hz1, hz2⟩ := info_parts byteinfo
  have hm : ys.length = m := hC.1
  have hC0 := hC
  subst hm
  obtain ⟨ad', e, hcell⟩ := kC_at hC h0
  injection e with e
  subst e
  have hnews : ∀ (j : Nat) (u : Value), (u8s ys)[j]? = some u → w.cell? (ad.add j) = some u := by
    intro j u hu
    unfold u8s at hu
    rw [List.getElem?_map] at hu
    obtain ⟨y, hy, rfl⟩ := Option.map_eq_some_iff.1 hu
    exact hcell j y hy
  obtain ⟨v', w', hr, h2, h3, _⟩ := run_append_own (P := Tryd.prog) w base 43 43 5 i0 (.int .u8 0) 1 1 Tryd.underlying43 hi hz0 hz1 hz2 rfl (by decide) v l.length (u8s l) h ad ys.length c (u8s ys) (by simp [u8s]) hnews
    (fun u hu => by unfold u8s at hu; obtain ⟨y, _, rfl⟩ := List.mem_map.1 hu; rfl) (by unfold maxLen; omega) (by omega) hbase
  refine ⟨v', w', hr, ?_, (Below.refl _ _).grown h3 hbase (fun q hq => (h.lt q hq).1), fun b hb hn => h3.block b hb hn, own_next h c hC0 h0 hlen hr⟩
  unfold Row
  have e : u8s (l ++ ys) = u8s l ++ u8s ys := by simp [u8s]
  rw [e, List.length_append]
  exact h2
theorem wpList_app2 {w : World} {ops : Array Oper} {rest : List Oper} {o : Oper} {a : Act} {Q : Exit → Act → World → Prop} (hgd : o.guard = none) (s x : Operand) (ho : o.op = .call { callee := .builtin .append, args := #[s, x], argTypes := #[43, 43] }) (hty : o.type = 43)
    {base : Nat} {v : Value} {l : List Int} (hs : a.eval s = v) (h : Row w base v l) {ad : Addr} {m : Nat} {c : Nat} {ys : List Int} (hx : a.eval x = .slice (some ad) m c) (hC : Kd.C (Kd.int .u8) w (some ad) m ys) (h0 : 0 < m) (hlen : l.length + ys.length ≤ 140737488355000) (hbase : base ≤ w.heap.size)
    (hk : ∀ v' w', Row w' base v' (l ++ ys) → Below base w w' → KeptO v w w' → NextO v v' w → wpList Tryd.prog ops Q rest (a.put o.dst v') w') : wpList Tryd.prog ops Q (o :: rest) a w :=
  wpList_plain hgd fun K hK => by
    obtain ⟨v', w', hr, h2, h3, h4, h5⟩ := run_app2 h c hC h0 hlen hbase
    unfold Oper.wp execOp
    simp only [ho, hty, resolve, invoke, builtin, Sem.run_bind, Sem.run_pure, Result.andThen_ok, List.map_toArray, List.map_cons, List.map_nil, hs, hx, hr]
    exact hK _ _ (hk v' w' h2 h3 h4 h5)
end Go.Proofs.YtcjidlgmbjebjaaDoor

namespace Go.Proofs.YtcjidlgmbjebjaaDoor
open Go Go.RowKit Go.Proofs.YtcjidlgmbjebjaaDoorW.PrintWords
/-- A row of the caller's own that is written on. -/
def RetOn (v0 : Value) (base : Nat) (l : List Int) (W : World) (e : Ending) (w' : World) : Prop := ∃ v, e = .returned v ∧ Row w' base v l ∧ Below base W w' ∧ KeptO v0 W w' ∧ Kept5 W w'
theorem kept5_of {w w' : World} {base : Nat} {v : Value} {l : List Int} (h : Row w base v l) (hk : KeptO v w w') : Kept5 w w' := fun b hb hn => hk b hb fun e => hn (own_typed h b e.symm)
theorem keptO_after {w w' : World} {v : Value} {o : Obj} (h : KeptO v (w.alloc o) w') : KeptO v w w' := fun b hb hn => (h b (by simp; omega) hn).trans (Below.heap_alloc w o b hb)
theorem keptO_next {a b c : World} {v v' : Value} (h : KeptO v a b) (k : KeptO v' b c) (hn : NextO v v' a) (hs : a.heap.size ≤ b.heap.size) : KeptO v a c := by
  intro i hi hv
  refine (k i (by omega) ?_).trans (h i hi hv)
  rcases hn with hn | ⟨q, hq, hn⟩
  · rw [hn]; exact hv
  · rw [hn]; intro e; injection e with e; omega
theorem nextO_after {w : World} {v v' : Value} {o : Obj} (h : NextO v v' (w.alloc o)) : NextO v v' w := by
  rcases h with h | ⟨k, hk, h⟩
  · exact .inl h
  · exact .inr ⟨k, by simp at hk; omega, h⟩
theorem le_alloc' {a : Nat} {w : World} (h : a ≤ w.heap.size) (o : Obj) : a ≤ (w.alloc o).heap.size := by simp; omega
theorem kept5_trans {a b c : World} (h : Kept5 a b) (k : Kept5 b c) (hs : a.heap.size ≤ b.heap.size) : Kept5 a c := by
  intro i hi hn
  have h1 := h i hi hn
  rw [← h1]
  refine k i (by omega) ?_
  rintro ⟨cells, hc⟩
  exact hn ⟨cells, by rw [← h1]; exact hc⟩
theorem kept5_below {a b : World} (h : Below a.heap.size a b) : Kept5 a b := fun i hi _ => h.block i hi
theorem kept5_alloc (w : World) (o : Obj) : Kept5 w (w.alloc o) := kept5_below ((Below.refl _ _).alloc (Nat.le_refl _) o)
theorem kept5_after_alloc {w w' : World} {o : Obj} (h : Kept5 (w.alloc o) w') : Kept5 w w' := kept5_trans (kept5_alloc w o) h (by simp)
set_option maxHeartbeats 4000000 in
theorem rtext_row (base : Nat) (v : Value) (l : List Int) (s : ByteArray) (hs : s.size ≤ 12) (W : World) (hr : Row W base v l) (hb : base ≤ W.heap.size) (hl : l.length ≤ 100000000) :
    Calls Tryd.prog 93 #[v, .string s] W (RetOn v base (l ++ nmL s) W) := by
  have HR := Lib.hid hr
  obtain ⟨p, c, rfl⟩ := row_shape hr
  generalize hM : l.length = M at hr HR
  have hws : IntKind.u8.wrap (s.size : Int) = (s.size : Int) := by rw [IntKind.wrap_u8]; omega
  clear hr
  go_enter Tryd.func93, Tryd.ntmps93
  go_wp2_with (at_builtin; refine wpList_app2 (by rfl) _ _ (by rfl) (by rfl) (by rfl) (row_alloc HR.out _) (by rfl) (C_one _ _) (by decide) (by simp; omega) (le_alloc' hb _) ?_)
  intro v1 w1 hr1 hb1 hk1 hn1
  have HB1 := Lib.hid (show Below base W w1 from ((Below.refl base W).alloc hb _).trans hb1)
  have HK1 := Lib.hid (keptO_after hk1)
  have HN1 := Lib.hid (nextO_after hn1)
  have HR1 := Lib.hid hr1
  clear hr1 hb1 hk1 hn1
  go_wp2_with (at_builtin; refine print_append_str (w0 := W) base rfl _ _ 43 9 5 rfl Tryd.underlying43 Tryd.underlying9 byteinfo v1 (l ++ [(s.size : Int)]) s rfl rfl HR1.out HB1.out (Nat.le_trans hb HB1.out.size) ?c1 ?_)
  case c1 => simp; omega
  intro v2 w2 hown hb2 hg2
  have HR2 := Lib.hid (show Row w2 base v2 (l ++ nmL s) by
    unfold Row
    rw [show (l ++ nmL s).length = M + ((bytesOf s).length + 1) by rw [List.length_append, hM]; rfl]
    exact hown)
  have HB2 := Lib.hid hb2
  have HK2 := Lib.hid (keptO_next HK1.out (fun b hb hn => hg2.block b hb hn) HN1.out HB1.out.size)
  clear hown hb2 hg2
  go_wp2_with fail
  go_ret
  exact ⟨_, rfl, HR2.out, HB2.out, HK2.out, kept5_of HR.out HK2.out⟩
def bitR (b : Bool) : Int := if b then 1 else 0
set_option maxHeartbeats 4000000 in
theorem rflag_row (base : Nat) (v : Value) (l : List Int) (b : Bool) (W : World) (hr : Row W base v l) (hb : base ≤ W.heap.size) (hl : l.length ≤ 100000000) :
    Calls Tryd.prog 94 #[v, .bool b] W (RetOn v base (l ++ [bitR b]) W) := by
  have HR := Lib.hid hr
  obtain ⟨p, c, rfl⟩ := row_shape hr
  generalize hM : l.length = M at hr HR
  clear hr
  cases b
  all_goals
    go_enter Tryd.func94, Tryd.ntmps94
    go_wp2_with (at_builtin; refine wpList_app2 (by rfl) _ _ (by rfl) (by rfl) (by rfl) (row_alloc HR.out _) (by rfl) (C_one _ _) (by decide) (by simp; omega) (le_alloc' hb _) ?_)
    intro v1 w1 hr1 hb1 hk1 hn1
    have HB1 := Lib.hid (show Below base W w1 from ((Below.refl base W).alloc hb _).trans hb1)
    have HK1 := Lib.hid (keptO_after hk1)
    have HR1 := Lib.hid hr1
    clear hr1 hb1 hk1 hn1
    go_wp2_with fail
    go_ret
    exact ⟨_, rfl, HR1.out, HB1.out, HK1.out, kept5_of HR.out HK1.out⟩
def sevV (e : Ent) : Value := .agg #[.int .i64 e.id, .int .i64 e.tb, .int .i64 e.t0, .int .i64 e.t1, .int .i64 e.t2, .int .i64 e.ct, .int .i64 e.nx]
set_option maxHeartbeats 4000000 in
theorem rnums_val (e : Ent) (pv : Option Addr) (nv cv : Nat) (W : World) : Calls Tryd.prog 95 #[entV e (.slice pv nv cv)] W (RetS (sevV e) W) := by
  unfold entV entL
  go_enter Tryd.func95, Tryd.ntmps95
  go_wp2
  refine bodyPost_ret (v := sevV e) (by simp [results, Tryd.results95, go_sem, sevV]) rfl ⟨rfl, by go_grown⟩
end Go.Proofs.YtcjidlgmbjebjaaDoor

namespace Go.Proofs.YtcjidlgmbjebjaaDoor
open Go Go.RowKit Go.Proofs.YtcjidlgmbjebjaaDoorW.PrintWords
theorem sameSch_refl (n : ByteArray) (k r : Int) (cs : List Col) : sameSch n k r cs n k r cs = true := by
  unfold sameSch
  simp
theorem eq139 (x0 x1 x2 x3 x4 x5 x6 : Int) (w : World) : (Op.equalIn 10000 139 (.agg #[.int .i64 x0, .int .i64 x1, .int .i64 x2, .int .i64 x3, .int .i64 x4, .int .i64 x5, .int .i64 x6]) (.agg #[.int .i64 x0, .int .i64 x1, .int .i64 x2, .int .i64 x3, .int .i64 x4, .int .i64 x5, .int .i64 x6])).run Tryd.prog w = .ok true w := by
  obtain ⟨i, hi⟩ := Option.isSome_iff_exists.1 (show (Tryd.prog.info? 3).isSome = true by kernel_rfl)
  rw [show (10000 : Nat) = 9999 + 1 from rfl, run_equalIn_array w 9999 _ _ Tryd.underlying139 hi, show Tryd.prog.cellsOf 3 = 1 from by kernel_rfl]
  rw [show List.range 7 = [0, 1, 2, 3, 4, 5, 6] from rfl]
  simp only [Op.eqItems]
  go_simp
theorem eq65 (x0 : Bool) (x1 x2 x3 x4 : Int) (w : World) : (Op.equalIn 10000 65 (.agg #[.bool x0, .int .i64 x1, .int .i64 x2, .int .i64 x3, .int .i64 x4]) (.agg #[.bool x0, .int .i64 x1, .int .i64 x2, .int .i64 x3, .int .i64 x4])).run Tryd.prog w = .ok true w := by
  have := PSchemaForms.eqA65 9997 w x0 x0 x1 x1 x2 x2 x3 x3 x4 x4
  simp only [beq_self_eq_true, Bool.and_self] at this
  exact this
set_option maxHeartbeats 8000000 in
theorem requal_val (e : Ent) (v1 v2 : Value) (W : World) (hl : e.cs.length ≤ 50) (hv1 : ColsV W v1 e.cs) (hv2 : ColsV W v2 e.cs) : Calls Tryd.prog 43 #[entV e v1, entV e v2] W (RetBool true W) := by
  obtain ⟨p1, q1, c1, rfl⟩ := colsV_shape hv1
  obtain ⟨p2, q2, c2, rfl⟩ := colsV_shape hv2
  have HV1 := Lib.hid hv1; clear hv1
  have HV2 := Lib.hid hv2; clear hv2
  have HG20 := Lib.hid (fun w h1 h2 => refsame_val e.nm e.kd e.srs (.slice p1 q1 c1) e.cs e.nm e.kd e.srs (.slice p2 q2 c2) e.cs w hl hl h1 h2)
  rw [sameSch_refl] at HG20
  unfold schV at HG20
  have HN1 := Lib.hid (fun w => rnums_val e p1 q1 c1 w)
  have HN2 := Lib.hid (fun w => rnums_val e p2 q2 c2 w)
  unfold entV entL sevV at HN1 HN2
  unfold entV entL
  have h139 := eq139 e.id e.tb e.t0 e.t1 e.t2 e.ct e.nx
  have h65 := eq65 e.bn e.lx e.ly e.hx e.hy
  go_enter Tryd.func43, Tryd.ntmps43
  go_wp2_with fail
  have hb0 : BlkAt (World.alloc (World.alloc W (.cells #[.string e.nm, .int .i64 e.kd, .int .i64 e.srs, .slice p1 q1 c1, .int .i64 e.id, .int .i64 e.tb, .int .i64 e.t0, .int .i64 e.t1, .int .i64 e.t2, .int .i64 e.ct, .int .i64 e.nx, .bool e.bn, .int .i64 e.lx, .int .i64 e.ly, .int .i64 e.hx, .int .i64 e.hy] 72)) (.cells #[.string e.nm, .int .i64 e.kd, .int .i64 e.srs, .slice p2 q2 c2, .int .i64 e.id, .int .i64 e.tb, .int .i64 e.t0, .int .i64 e.t1, .int .i64 e.t2, .int .i64 e.ct, .int .i64 e.nx, .bool e.bn, .int .i64 e.lx, .int .i64 e.ly, .int .i64 e.hx, .int .i64 e.hy] 72)) W.heap.size #[.string e.nm, .int .i64 e.kd, .int .i64 e.srs, .slice p1 q1 c1, .int .i64 e.id, .int .i64 e.tb, .int .i64 e.t0, .int .i64 e.t1, .int .i64 e.t2, .int .i64 e.ct, .int .i64 e.nx, .bool e.bn, .int .i64 e.lx, .int .i64 e.ly, .int .i64 e.hx, .int .i64 e.hy] 72 := hp_old _ _ _ _ (by simp) (hp_new _ _ _ rfl)
  have hb1 : BlkAt (World.alloc (World.alloc W (.cells #[.string e.nm, .int .i64 e.kd, .int .i64 e.srs, .slice p1 q1 c1, .int .i64 e.id, .int .i64 e.tb, .int .i64 e.t0, .int .i64 e.t1, .int .i64 e.t2, .int .i64 e.ct, .int .i64 e.nx, .bool e.bn, .int .i64 e.lx, .int .i64 e.ly, .int .i64 e.hx, .int .i64 e.hy] 72)) (.cells #[.string e.nm, .int .i64 e.kd, .int .i64 e.srs, .slice p2 q2 c2, .int .i64 e.id, .int .i64 e.tb, .int .i64 e.t0, .int .i64 e.t1, .int .i64 e.t2, .int .i64 e.ct, .int .i64 e.nx, .bool e.bn, .int .i64 e.lx, .int .i64 e.ly, .int .i64 e.hx, .int .i64 e.hy] 72)) (W.heap.size + 1) #[.string e.nm, .int .i64 e.kd, .int .i64 e.srs, .slice p2 q2 c2, .int .i64 e.id, .int .i64 e.tb, .int .i64 e.t0, .int .i64 e.t1, .int .i64 e.t2, .int .i64 e.ct, .int .i64 e.nx, .bool e.bn, .int .i64 e.lx, .int .i64 e.ly, .int .i64 e.hx, .int .i64 e.hy] 72 := hp_new _ _ _ (by simp)
  have hB : Below W.heap.size W (World.alloc (World.alloc W (.cells #[.string e.nm, .int .i64 e.kd, .int .i64 e.srs, .slice p1 q1 c1, .int .i64 e.id, .int .i64 e.tb, .int .i64 e.t0, .int .i64 e.t1, .int .i64 e.t2, .int .i64 e.ct, .int .i64 e.nx, .bool e.bn, .int .i64 e.lx, .int .i64 e.ly, .int .i64 e.hx, .int .i64 e.hy] 72)) (.cells #[.string e.nm, .int .i64 e.kd, .int .i64 e.srs, .slice p2 q2 c2, .int .i64 e.id, .int .i64 e.tb, .int .i64 e.t0, .int .i64 e.t1, .int .i64 e.t2, .int .i64 e.ct, .int .i64 e.nx, .bool e.bn, .int .i64 e.lx, .int .i64 e.ly, .int .i64 e.hx, .int .i64 e.hy] 72)) := ((Below.refl W.heap.size W).alloc (Nat.le_refl _) _).alloc (by simp) _
  generalize World.alloc (World.alloc W (.cells #[.string e.nm, .int .i64 e.kd, .int .i64 e.srs, .slice p1 q1 c1, .int .i64 e.id, .int .i64 e.tb, .int .i64 e.t0, .int .i64 e.t1, .int .i64 e.t2, .int .i64 e.ct, .int .i64 e.nx, .bool e.bn, .int .i64 e.lx, .int .i64 e.ly, .int .i64 e.hx, .int .i64 e.hy] 72)) (.cells #[.string e.nm, .int .i64 e.kd, .int .i64 e.srs, .slice p2 q2 c2, .int .i64 e.id, .int .i64 e.tb, .int .i64 e.t0, .int .i64 e.t1, .int .i64 e.t2, .int .i64 e.ct, .int .i64 e.nx, .bool e.bn, .int .i64 e.lx, .int .i64 e.ly, .int .i64 e.hx, .int .i64 e.hy] 72) = Wb at hb0 hb1 hB ⊢
  have x0 : World.cell? Wb.drew ⟨W.heap.size, 0, none⟩ = some (.string e.nm) := blk_cell hb0 0 _ rfl
  have x1 : World.cell? Wb.drew ⟨W.heap.size, 1, none⟩ = some (.int .i64 e.kd) := blk_cell hb0 1 _ rfl
  have x2 : World.cell? Wb.drew ⟨W.heap.size, 2, none⟩ = some (.int .i64 e.srs) := blk_cell hb0 2 _ rfl
  have x3 : World.cell? Wb.drew ⟨W.heap.size, 3, none⟩ = some (.slice p1 q1 c1) := blk_cell hb0 3 _ rfl
  have x4 : World.cell? Wb.drew ⟨W.heap.size, 4, none⟩ = some (.int .i64 e.id) := blk_cell hb0 4 _ rfl
  have x5 : World.cell? Wb.drew ⟨W.heap.size, 5, none⟩ = some (.int .i64 e.tb) := blk_cell hb0 5 _ rfl
  have x6 : World.cell? Wb.drew ⟨W.heap.size, 6, none⟩ = some (.int .i64 e.t0) := blk_cell hb0 6 _ rfl
  have x7 : World.cell? Wb.drew ⟨W.heap.size, 7, none⟩ = some (.int .i64 e.t1) := blk_cell hb0 7 _ rfl
  have x8 : World.cell? Wb.drew ⟨W.heap.size, 8, none⟩ = some (.int .i64 e.t2) := blk_cell hb0 8 _ rfl
  have x9 : World.cell? Wb.drew ⟨W.heap.size, 9, none⟩ = some (.int .i64 e.ct) := blk_cell hb0 9 _ rfl
  have x10 : World.cell? Wb.drew ⟨W.heap.size, 10, none⟩ = some (.int .i64 e.nx) := blk_cell hb0 10 _ rfl
  have x11 : World.cell? Wb.drew ⟨W.heap.size, 11, none⟩ = some (.bool e.bn) := blk_cell hb0 11 _ rfl
  have x12 : World.cell? Wb.drew ⟨W.heap.size, 12, none⟩ = some (.int .i64 e.lx) := blk_cell hb0 12 _ rfl
  have x13 : World.cell? Wb.drew ⟨W.heap.size, 13, none⟩ = some (.int .i64 e.ly) := blk_cell hb0 13 _ rfl
  have x14 : World.cell? Wb.drew ⟨W.heap.size, 14, none⟩ = some (.int .i64 e.hx) := blk_cell hb0 14 _ rfl
  have x15 : World.cell? Wb.drew ⟨W.heap.size, 15, none⟩ = some (.int .i64 e.hy) := blk_cell hb0 15 _ rfl
  have y0 : World.cell? Wb.drew ⟨W.heap.size + 1, 0, none⟩ = some (.string e.nm) := blk_cell hb1 0 _ rfl
  have y1 : World.cell? Wb.drew ⟨W.heap.size + 1, 1, none⟩ = some (.int .i64 e.kd) := blk_cell hb1 1 _ rfl
  have y2 : World.cell? Wb.drew ⟨W.heap.size + 1, 2, none⟩ = some (.int .i64 e.srs) := blk_cell hb1 2 _ rfl
  have y3 : World.cell? Wb.drew ⟨W.heap.size + 1, 3, none⟩ = some (.slice p2 q2 c2) := blk_cell hb1 3 _ rfl
  have y4 : World.cell? Wb.drew ⟨W.heap.size + 1, 4, none⟩ = some (.int .i64 e.id) := blk_cell hb1 4 _ rfl
  have y5 : World.cell? Wb.drew ⟨W.heap.size + 1, 5, none⟩ = some (.int .i64 e.tb) := blk_cell hb1 5 _ rfl
  have y6 : World.cell? Wb.drew ⟨W.heap.size + 1, 6, none⟩ = some (.int .i64 e.t0) := blk_cell hb1 6 _ rfl
  have y7 : World.cell? Wb.drew ⟨W.heap.size + 1, 7, none⟩ = some (.int .i64 e.t1) := blk_cell hb1 7 _ rfl
  have y8 : World.cell? Wb.drew ⟨W.heap.size + 1, 8, none⟩ = some (.int .i64 e.t2) := blk_cell hb1 8 _ rfl
  have y9 : World.cell? Wb.drew ⟨W.heap.size + 1, 9, none⟩ = some (.int .i64 e.ct) := blk_cell hb1 9 _ rfl
  have y10 : World.cell? Wb.drew ⟨W.heap.size + 1, 10, none⟩ = some (.int .i64 e.nx) := blk_cell hb1 10 _ rfl
  have y11 : World.cell? Wb.drew ⟨W.heap.size + 1, 11, none⟩ = some (.bool e.bn) := blk_cell hb1 11 _ rfl
  have y12 : World.cell? Wb.drew ⟨W.heap.size + 1, 12, none⟩ = some (.int .i64 e.lx) := blk_cell hb1 12 _ rfl
  have y13 : World.cell? Wb.drew ⟨W.heap.size + 1, 13, none⟩ = some (.int .i64 e.ly) := blk_cell hb1 13 _ rfl
  have y14 : World.cell? Wb.drew ⟨W.heap.size + 1, 14, none⟩ = some (.int .i64 e.hx) := blk_cell hb1 14 _ rfl
  have y15 : World.cell? Wb.drew ⟨W.heap.size + 1, 15, none⟩ = some (.int .i64 e.hy) := blk_cell hb1 15 _ rfl
  have hC1 := colsV_stays HV1.out (below_drew hB)
  have hC2 := colsV_stays HV2.out (below_drew hB)
  have hBd := below_drew hB
  clear hb0 hb1 hB
  go_region_held3 (fun w' : World => w'.cell? ⟨W.heap.size, 0, none⟩ = some (.string e.nm) ∧ w'.cell? ⟨W.heap.size, 1, none⟩ = some (.int .i64 e.kd) ∧ w'.cell? ⟨W.heap.size, 2, none⟩ = some (.int .i64 e.srs) ∧ w'.cell? ⟨W.heap.size, 3, none⟩ = some (.slice p1 q1 c1) ∧ w'.cell? ⟨W.heap.size, 4, none⟩ = some (.int .i64 e.id) ∧ w'.cell? ⟨W.heap.size, 5, none⟩ = some (.int .i64 e.tb) ∧ w'.cell? ⟨W.heap.size, 6, none⟩ = some (.int .i64 e.t0) ∧ w'.cell? ⟨W.heap.size, 7, none⟩ = some (.int .i64 e.t1) ∧ w'.cell? ⟨W.heap.size, 8, none⟩ = some (.int .i64 e.t2) ∧ w'.cell? ⟨W.heap.size, 9, none⟩ = some (.int .i64 e.ct) ∧ w'.cell? ⟨W.heap.size, 10, none⟩ = some (.int .i64 e.nx) ∧ w'.cell? ⟨W.heap.size, 11, none⟩ = some (.bool e.bn) ∧ w'.cell? ⟨W.heap.size, 12, none⟩ = some (.int .i64 e.lx) ∧ w'.cell? ⟨W.heap.size, 13, none⟩ = some (.int .i64 e.ly) ∧ w'.cell? ⟨W.heap.size, 14, none⟩ = some (.int .i64 e.hx) ∧ w'.cell? ⟨W.heap.size, 15, none⟩ = some (.int .i64 e.hy) ∧ w'.cell? ⟨W.heap.size + 1, 0, none⟩ = some (.string e.nm) ∧ w'.cell? ⟨W.heap.size + 1, 1, none⟩ = some (.int .i64 e.kd) ∧ w'.cell? ⟨W.heap.size + 1, 2, none⟩ = some (.int .i64 e.srs) ∧ w'.cell? ⟨W.heap.size + 1, 3, none⟩ = some (.slice p2 q2 c2) ∧ w'.cell? ⟨W.heap.size + 1, 4, none⟩ = some (.int .i64 e.id) ∧ w'.cell? ⟨W.heap.size + 1, 5, none⟩ = some (.int .i64 e.tb) ∧ w'.cell? ⟨W.heap.size + 1, 6, none⟩ = some (.int .i64 e.t0) ∧ w'.cell? ⟨W.heap.size + 1, 7, none⟩ = some (.int .i64 e.t1) ∧ w'.cell? ⟨W.heap.size + 1, 8, none⟩ = some (.int .i64 e.t2) ∧ w'.cell? ⟨W.heap.size + 1, 9, none⟩ = some (.int .i64 e.ct) ∧ w'.cell? ⟨W.heap.size + 1, 10, none⟩ = some (.int .i64 e.nx) ∧ w'.cell? ⟨W.heap.size + 1, 11, none⟩ = some (.bool e.bn) ∧ w'.cell? ⟨W.heap.size + 1, 12, none⟩ = some (.int .i64 e.lx) ∧ w'.cell? ⟨W.heap.size + 1, 13, none⟩ = some (.int .i64 e.ly) ∧ w'.cell? ⟨W.heap.size + 1, 14, none⟩ = some (.int .i64 e.hx) ∧ w'.cell? ⟨W.heap.size + 1, 15, none⟩ = some (.int .i64 e.hy) ∧ ColsV w' (.slice p1 q1 c1) e.cs ∧ ColsV w' (.slice p2 q2 c2) e.cs ∧ Below W.heap.size W w')
    (first
      | (with_reducible exact ⟨x0, x1, x2, x3, x4, x5, x6, x7, x8, x9, x10, x11, x12, x13, x14, x15, y0, y1, y2, y3, y4, y5, y6, y7, y8, y9, y10, y11, y12, y13, y14, y15, hC1, hC2, hBd⟩)
      | (go_split_ands; (repeat' apply And.intro) <;> first | (exact cell_later hb5 (by assumption)) | (exact colsV_stays (by assumption) hb5) | (exact below_step (by assumption) hb5)))
    (first
      | (go_at_call 20; go_split_ands; (with_reducible refine Calls.mono (HG20.out _ (by assumption) (by assumption)) ?_); rintro e w5 ⟨rfl, hb5⟩)
      | (go_at_call 95; (with_reducible refine Calls.mono (HN1.out _) ?_); rintro e w5 ⟨rfl, hb5⟩)
      | (go_at_call 95; (with_reducible refine Calls.mono (HN2.out _) ?_); rintro e w5 ⟨rfl, hb5⟩))
  all_goals
    rename_i hH
    have hfin : Below W.heap.size W _ := hH.2.2.2.2.2.2.2.2.2.2.2.2.2.2.2.2.2.2.2.2.2.2.2.2.2.2.2.2.2.2.2.2.2.2
    clear hH
    go_wp2_with fail
    go_ret
    exact ⟨rfl, hfin⟩
end Go.Proofs.YtcjidlgmbjebjaaDoor
