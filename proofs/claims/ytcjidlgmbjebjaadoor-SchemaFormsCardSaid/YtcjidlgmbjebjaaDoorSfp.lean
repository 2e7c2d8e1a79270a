/- A part of the proof of SchemaForms. -/
import Derived.Test.YtcjidlgmbjebjaaDoorSfm
import Derived.Test.YtcjidlgmbjebjaaDoorSfo
set_option linter.unusedVariables false
set_option linter.unusedSimpArgs false
set_option maxRecDepth 100000
namespace Go.Proofs.YtcjidlgmbjebjaaDoor
open Go Go.RowKit Go.Proofs.YtcjidlgmbjebjaaDoorW.PrintWords
theorem s_r {e : Ent} {pv : Option Addr} {nv cv : Nat} {w' W : World} {b : Nat} (h : BlkAt w' b (entL e (.slice pv nv cv)) 72) (hB : Below W.heap.size W w') : BlkAt w' b (entL e (.slice pv nv cv)) 72 ∧ w'.cell? ⟨b, 1, none⟩ = some (.int .i64 e.kd) ∧ w'.cell? ⟨b, 2, none⟩ = some (.int .i64 e.srs) ∧ Below W.heap.size W w' :=
  ⟨h, blk_cell h 1 _ rfl, blk_cell h 2 _ rfl, hB⟩
theorem s_colr {e : Ent} {pv : Option Addr} {nv cv : Nat} {w' W : World} {b q : Nat} {cn : ByteArray} {ck : Int} {cm : Bool} (h : BlkAt w' b (entL e (.slice pv nv cv)) 72) (h3 : BlkAt w' q #[.string cn, .int .i64 ck, .bool cm] 94) (hB : Below W.heap.size W w') : BlkAt w' b (entL e (.slice pv nv cv)) 72 ∧ BlkAt w' q #[.string cn, .int .i64 ck, .bool cm] 94 ∧ w'.cell? ⟨q, 0, none⟩ = some (.string cn) ∧ w'.cell? ⟨q, 1, none⟩ = some (.int .i64 ck) ∧ w'.cell? ⟨q, 2, none⟩ = some (.bool cm) ∧ Below W.heap.size W w' := ⟨h, h3, blk_cell h3 0 _ rfl, blk_cell h3 1 _ rfl, blk_cell h3 2 _ rfl, hB⟩
theorem C_one_kept (w0 : World) (x : Int) (g : Nat) (hg : g = w0.heap.size) {base : Nat} {v : Value} {l : List Int} {w' : World} (h : Row w0.drew base v l) (hk : KeptO v (w0.alloc (.cells #[.int .u8 x] 5)).drew w') : Kd.C (Kd.int .u8) w' (some ⟨g, 0, none⟩) 1 [x] := by
  subst hg
  refine kC_mk (l := [x]) (by simp) fun _ => ⟨_, rfl, fun j z hz => ?_⟩
  match j, hz with
  | 0, hz =>
    simp at hz
    subst hz
    have hb : w'.heap[w0.heap.size]? = some (.cells #[.int .u8 x] 5 (0, 0)) := (hk _ (by show _ < (w0.alloc _).heap.size; simp) (fun e => by have := h.lt _ e.symm; exact Nat.lt_irrefl _ this.2)).trans (hp_new w0 _ _ rfl)
    rw [Addr.add_mid, Nat.zero_add, Lib.cell_of_heap hb]
    rfl
  | j + 1, hz => simp at hz
theorem s_bx {e : Ent} {pv : Option Addr} {nv cv : Nat} {w' W : World} {b : Nat} (h : BlkAt w' b (entL e (.slice pv nv cv)) 72) (hB : Below W.heap.size W w') : BlkAt w' b (entL e (.slice pv nv cv)) 72 ∧ w'.cell? ⟨b, 11, none⟩ = some (.bool e.bn) ∧ w'.cell? ⟨b, 12, none⟩ = some (.int .i64 e.lx) ∧ w'.cell? ⟨b, 13, none⟩ = some (.int .i64 e.ly) ∧ w'.cell? ⟨b, 14, none⟩ = some (.int .i64 e.hx) ∧ w'.cell? ⟨b, 15, none⟩ = some (.int .i64 e.hy) ∧ Below W.heap.size W w' :=
  ⟨h, blk_cell h 11 _ rfl, blk_cell h 12 _ rfl, blk_cell h 13 _ rfl, blk_cell h 14 _ rfl, blk_cell h 15 _ rfl, hB⟩
def CuR (e : Ent) (pv : Option Addr) (cv : Nat) (W : World) (L : List Int) (t : Value) (w' : World) : Prop :=
  ∃ (n c : Nat) (A : Option Addr), t = .slice A n c ∧ n = L.length ∧ Row w' W.heap.size (.slice A n c) L ∧ BlkAt w' W.heap.size (entL e (.slice pv e.cs.length cv)) 72 ∧ Below W.heap.size W w'
theorem cur_mk {e : Ent} {pv : Option Addr} {cv : Nat} {W : World} {L : List Int} {t : Value} {w' : World} (hr : Row w' W.heap.size t L) (h1 : BlkAt w' W.heap.size (entL e (.slice pv e.cs.length cv)) 72) (hB : Below W.heap.size W w') : CuR e pv cv W L t w' := by
  obtain ⟨p, c, rfl⟩ := row_shape hr
  exact ⟨_, c, p, rfl, rfl, hr, h1, hB⟩
def RsR (e : Ent) (pv : Option Addr) (cv : Nat) (W : World) (t i : Value) (w' : World) : Prop :=
  ∃ (j n c : Nat) (A : Option Addr), j ≤ e.cs.length ∧ i = .int .i64 j ∧ t = .slice A n c ∧ Row w' W.heap.size (.slice A n c) (headB e ++ colsB (e.cs.take j)) ∧ BlkAt w' W.heap.size (entL e (.slice pv e.cs.length cv)) 72 ∧ Below W.heap.size W w'
def RnR (e : Ent) (pv : Option Addr) (cv : Nat) (W : World) (t i : Value) (w' : World) : Prop :=
  ∃ (j n c : Nat) (A : Option Addr), j ≤ 7 ∧ i = .int .i64 j ∧ t = .slice A n c ∧ Row w' W.heap.size (.slice A n c) (headB e ++ colsB e.cs ++ numF ((numsOf e).take j)) ∧ BlkAt w' W.heap.size (entL e (.slice pv e.cs.length cv)) 72 ∧ Below W.heap.size W w' ∧ ∀ x ∈ (numsOf e).take j, 0 ≤ x
theorem idx139_0 (a b c d e f g : Int) (w : World) : (Instr.index 139 (.agg #[.int .i64 a, .int .i64 b, .int .i64 c, .int .i64 d, .int .i64 e, .int .i64 f, .int .i64 g]) (.int .i64 0)).run Tryd.prog w = .ok (.int .i64 a) w := by kernel_rfl
theorem idx139_1 (a b c d e f g : Int) (w : World) : (Instr.index 139 (.agg #[.int .i64 a, .int .i64 b, .int .i64 c, .int .i64 d, .int .i64 e, .int .i64 f, .int .i64 g]) (.int .i64 1)).run Tryd.prog w = .ok (.int .i64 b) w := by kernel_rfl
theorem idx139_2 (a b c d e f g : Int) (w : World) : (Instr.index 139 (.agg #[.int .i64 a, .int .i64 b, .int .i64 c, .int .i64 d, .int .i64 e, .int .i64 f, .int .i64 g]) (.int .i64 2)).run Tryd.prog w = .ok (.int .i64 c) w := by kernel_rfl
theorem idx139_3 (a b c d e f g : Int) (w : World) : (Instr.index 139 (.agg #[.int .i64 a, .int .i64 b, .int .i64 c, .int .i64 d, .int .i64 e, .int .i64 f, .int .i64 g]) (.int .i64 3)).run Tryd.prog w = .ok (.int .i64 d) w := by kernel_rfl
theorem idx139_4 (a b c d e f g : Int) (w : World) : (Instr.index 139 (.agg #[.int .i64 a, .int .i64 b, .int .i64 c, .int .i64 d, .int .i64 e, .int .i64 f, .int .i64 g]) (.int .i64 4)).run Tryd.prog w = .ok (.int .i64 e) w := by kernel_rfl
theorem idx139_5 (a b c d e f g : Int) (w : World) : (Instr.index 139 (.agg #[.int .i64 a, .int .i64 b, .int .i64 c, .int .i64 d, .int .i64 e, .int .i64 f, .int .i64 g]) (.int .i64 5)).run Tryd.prog w = .ok (.int .i64 f) w := by kernel_rfl
theorem idx139_6 (a b c d e f g : Int) (w : World) : (Instr.index 139 (.agg #[.int .i64 a, .int .i64 b, .int .i64 c, .int .i64 d, .int .i64 e, .int .i64 f, .int .i64 g]) (.int .i64 6)).run Tryd.prog w = .ok (.int .i64 g) w := by kernel_rfl
theorem nums_neg {e : Ent} {x : Int} (hx : x ∈ numsOf e) (h : x < 0) : okE e = false := by
  unfold okE
  have : numsOk e = false := List.all_eq_false.2 ⟨x, hx, by simp; omega⟩
  rw [this]; simp
set_option maxHeartbeats 16000000 in
theorem rsbytes_row (e : Ent) (v : Value) (W : World) (hf : EntFits e) (hv : ColsV W v e.cs) : Calls Tryd.prog 41 #[entV e v] W (RetRow (Sb.entB okE e) W) := by
  obtain ⟨pv, qb, qo, cv, rfl, hcap, hpv, hvc⟩ := hv
  have HV := Lib.hid (show ColsV W (.slice pv e.cs.length cv) e.cs from ⟨pv, qb, qo, cv, rfl, hcap, hpv, hvc⟩)
  have HVC := Lib.hid hvc
  have HPV := Lib.hid hpv
  have HG := Lib.hid (fun w h => srefgood_any e.nm e.kd e.srs (.slice pv e.cs.length cv) e.cs w hf.nm hf.cs h)
  unfold schV at HG
  have HNV := Lib.hid (fun w => rnums_val e pv e.cs.length cv w)
  unfold entV entL at HNV
  unfold sevV at HNV
  unfold entV entL
  clear hcap hpv hvc
  have HX := Lib.hid (fun w => rboxgood_val e.bn e.lx e.ly e.hx e.hy w)
  unfold boxV at HX
  rcases good_02 e.nm e.kd e.srs e.cs with hg | hg
  case inr =>
    have HF := Lib.hid (entB_bad (e := e) (by unfold okE; rw [hg]; rfl))
    rw [hg] at HG
    clear hg
    go_enter Tryd.func41, Tryd.ntmps41
    go_wp2_with fail
    refine (HG.out _ (colsV_stays HV.out (by go_grown))).mono ?_
    rintro e1 w1 ⟨rfl, hb⟩
    have HE1 := Lib.hid (blk_below (show BlkAt (W.alloc (.cells (entL e (.slice pv e.cs.length cv)) 72)) W.heap.size (entL e (.slice pv e.cs.length cv)) 72 from hp_new _ _ _ rfl) hb)
    have HB1 := Lib.hid (below_step (show Below W.heap.size W _ from (Below.refl W.heap.size W).alloc (Nat.le_refl _) _) hb)
    clear hb
    dsimp only
    go_wp2_with fail
    go_ret
    exact ⟨_, rfl, by rw [HF.out]; exact World.ownsRow_nil _ _ _ _, HB1.out⟩
  rw [hg] at HG
  cases hbx : boxG e.bn e.lx e.ly e.hx e.hy with
  | false =>
    have HF := Lib.hid (entB_bad (e := e) (by unfold okE; rw [hbx]; simp))
    rw [hbx] at HX
    clear hg hbx
    go_enter Tryd.func41, Tryd.ntmps41
    go_wp2_with fail
    refine (HG.out _ (colsV_stays HV.out (by go_grown))).mono ?_
    rintro e1 w1 ⟨rfl, hb⟩
    have HE1 := Lib.hid (blk_below (show BlkAt (W.alloc (.cells (entL e (.slice pv e.cs.length cv)) 72)) W.heap.size (entL e (.slice pv e.cs.length cv)) 72 from hp_new _ _ _ rfl) hb)
    have HB1 := Lib.hid (below_step (show Below W.heap.size W _ from (Below.refl W.heap.size W).alloc (Nat.le_refl _) _) hb)
    clear hb
    dsimp only
    have k11 : World.cell? w1 ⟨W.heap.size, 11, none⟩ = some (.bool e.bn) := blk_cell HE1.out 11 _ rfl
    have k12 : World.cell? w1 ⟨W.heap.size, 12, none⟩ = some (.int .i64 e.lx) := blk_cell HE1.out 12 _ rfl
    have k13 : World.cell? w1 ⟨W.heap.size, 13, none⟩ = some (.int .i64 e.ly) := blk_cell HE1.out 13 _ rfl
    have k14 : World.cell? w1 ⟨W.heap.size, 14, none⟩ = some (.int .i64 e.hx) := blk_cell HE1.out 14 _ rfl
    have k15 : World.cell? w1 ⟨W.heap.size, 15, none⟩ = some (.int .i64 e.hy) := blk_cell HE1.out 15 _ rfl
    go_wp2_with fail
    refine (HX.out _).mono ?_
    rintro e2 w2 ⟨rfl, hb⟩
    have HB2 := Lib.hid (below_step HB1.out hb)
    clear hb
    dsimp only
    go_wp2_with fail
    go_ret
    exact ⟨_, rfl, by rw [HF.out]; exact World.ownsRow_nil _ _ _ _, HB2.out⟩
  | true =>
  rw [hbx] at HX
  have HOK := Lib.hid (fun (hn : ∀ x ∈ numsOf e, 0 ≤ x) => (show okE e = true by unfold okE; rw [hg, hbx, decide_eq_true rfl]; have : numsOk e = true := List.all_eq_true.2 fun x hx => decide_eq_true (hn x hx); rw [this]; rfl))
  have HNEG := Lib.hid (fun (x : Int) (hx : x ∈ numsOf e) (h : x < 0) => entB_bad (nums_neg hx h))
  obtain ⟨g1, g2, g3, g4⟩ := good_facts hg
  obtain ⟨m1, m2, m3⟩ := good_more hg
  have HXB := Lib.hid (fun w => rboxbytes_row e.bn e.lx e.ly e.hx e.hy w)
  have HXV := Lib.hid (show bxB e.bn e.lx e.ly e.hx e.hy = if e.bn then [] else numB e.lx ++ (numB e.hx ++ (numB e.ly ++ numB e.hy)) by unfold bxB; rw [hbx]; cases e.bn <;> rfl)
  rw [HXV.out] at HXB
  unfold boxV at HXB
  have hxl : (if e.bn then [] else numB e.lx ++ (numB e.hx ++ (numB e.ly ++ numB e.hy)) : List Int).length ≤ 32 := by cases e.bn <;> simp [numB, putB]
  have HNM := Lib.hid (fun w => rtext_row w.heap.size (.slice none 0 0) [] e.nm g1 w (World.ownsRow_nil _ _ _ _) (Nat.le_refl _) (by simp))
  have HCS := Lib.hid g4
  have HHL := Lib.hid (headB_len e g1)
  have hnl : (nmL e.nm).length ≤ 13 := by rw [nmL_len]; omega
  have hwk : IntKind.u8.wrap e.kd = e.kd := by rw [IntKind.wrap_u8]; omega
  have hwl : IntKind.u8.wrap (e.cs.length : Int) = (e.cs.length : Int) := by rw [IntKind.wrap_u8]; omega
  clear hg hbx g2 g3 g4
  go_enter Tryd.func41, Tryd.ntmps41
  go_wp2_with fail
  refine (HG.out _ (colsV_stays HV.out (by go_grown))).mono ?_
  rintro e1 w1 ⟨rfl, hb⟩
  have HE1 := Lib.hid (blk_below (show BlkAt (W.alloc (.cells (entL e (.slice pv e.cs.length cv)) 72)) W.heap.size (entL e (.slice pv e.cs.length cv)) 72 from hp_new _ _ _ rfl) hb)
  have HB1 := Lib.hid (below_step (show Below W.heap.size W _ from (Below.refl W.heap.size W).alloc (Nat.le_refl _) _) hb)
  clear hb
  dsimp only
  have k11 : World.cell? w1 ⟨W.heap.size, 11, none⟩ = some (.bool e.bn) := blk_cell HE1.out 11 _ rfl
  have k12 : World.cell? w1 ⟨W.heap.size, 12, none⟩ = some (.int .i64 e.lx) := blk_cell HE1.out 12 _ rfl
  have k13 : World.cell? w1 ⟨W.heap.size, 13, none⟩ = some (.int .i64 e.ly) := blk_cell HE1.out 13 _ rfl
  have k14 : World.cell? w1 ⟨W.heap.size, 14, none⟩ = some (.int .i64 e.hx) := blk_cell HE1.out 14 _ rfl
  have k15 : World.cell? w1 ⟨W.heap.size, 15, none⟩ = some (.int .i64 e.hy) := blk_cell HE1.out 15 _ rfl
  go_wp2_with fail
  refine (HX.out _).mono ?_
  rintro e2 w2 ⟨rfl, hb⟩
  have HB2 := Lib.hid (below_step HB1.out hb)
  have HE2 := Lib.hid (blk_below HE1.out hb)
  clear k11 k12 k13 k14 k15
  have k0 : w2.cell? ⟨W.heap.size, 0, none⟩ = some (.string e.nm) := blk_cell HE2.out 0 _ rfl
  clear hb
  dsimp only
  go_wp2_with fail
  refine (HNM.out _).mono ?_
  rintro e3 w3 ⟨v3, rfl, hr3, hb3, _, _⟩
  have HR3 := Lib.hid (row_lower hr3 HB2.out.size)
  have HB3 := Lib.hid (below_step HB2.out hb3)
  have HE3 := Lib.hid (blk_below HE2.out hb3)
  have y1 : w3.cell? ⟨W.heap.size, 1, none⟩ = some (.int .i64 e.kd) := blk_cell HE3.out 1 _ rfl
  have y2 : w3.cell? ⟨W.heap.size, 2, none⟩ = some (.int .i64 e.srs) := blk_cell HE3.out 2 _ rfl
  obtain ⟨p3, c3, rfl⟩ := row_shape hr3
  clear hr3 hb3 k0
  generalize hM3 : ([] ++ nmL e.nm).length = M3 at HR3
  have HM3 := Lib.hid hM3
  clear hM3
  dsimp only
  go_wp2_with fail
  go_cut [3] (fun t wx => CuR e pv cv W (nmL e.nm ++ [e.kd] ++ numB e.srs) t wx)
  case first =>
    go_region_held3 (fun w' => BlkAt w' W.heap.size (entL e (.slice pv e.cs.length cv)) 72 ∧ w'.cell? ⟨W.heap.size, 1, none⟩ = some (.int .i64 e.kd) ∧ w'.cell? ⟨W.heap.size, 2, none⟩ = some (.int .i64 e.srs) ∧ Below W.heap.size W w')
      (first
        | (go_keep; done)
        | (exact s_r HE3.out (below_drew HB3.out))
        | (go_split_ands; exact s_r (blk_below (by assumption) hb5) (below_step (by assumption) hb5))
        | (go_split_ands; exact s_r (blk_app (by decide) (by assumption) hT4) (Below.trans (by assumption) hb4))
        | (go_split_ands; exact s_r (blk_alloc (by assumption) _) (Below.alloc (by assumption) (Below.size (by assumption)) _)))
      (first
        | (have hs4 := slb_row hr4 (by omega); go_at_call 62; refine (rputn_row e.srs v4 _ w4 hs4 (by omega)).mono ?_; rintro e5 w5 ⟨v5, rfl, hr5, hb5⟩)
        | (have hq := row_drew (row_alloc HR3.out (.cells #[.int .u8 e.kd] 5)); have hc := Kd.C_drew (C_one w3 e.kd); refine step_app (by rfl) _ _ (by rfl) (by rfl) (by rfl) hq (by rfl) hc ?_ ?_ ?_; rotate_left 2; intro v4 w4 hr4 hb4 hT4; have hlen4 : ([] ++ nmL e.nm ++ [e.kd]).length ≤ 14 := (by simp; omega); rotate_left 1; (simp; omega); (exact le_alloc HB3.out.size _))
        | fail)
    rename_i hH
    have HCU := Lib.hid (show CuR e pv cv W (nmL e.nm ++ [e.kd] ++ numB e.srs) v5 w5 from cur_mk (row_lower hr5 (Nat.le_trans HB3.out.size (Nat.le_trans (by simp) hb4.size))) hH.1 hH.2.2.2)
    go_wp2_with fail
    go_meet
    exact HCU.out
  case rest =>
    obtain ⟨n4, c4, A4, rfl, hn4, hr4, he4, hb4⟩ := hcut
    have HE4 := Lib.hid he4
    have HB4 := Lib.hid hb4
    have HR4 := Lib.hid hr4
    have hln4 : (nmL e.nm ++ [e.kd] ++ numB e.srs).length ≤ 22 := by rw [List.length_append, numB_len, List.length_append]; simp only [List.length_cons, List.length_nil]; omega
    subst hn4
    generalize hM4 : (nmL e.nm ++ [e.kd] ++ numB e.srs).length = M4 at HR4 hln4
    have HM4 := Lib.hid hM4
    clear he4 hb4 hr4 hM4 y1 y2
    have y3 : wc.cell? ⟨W.heap.size, 3, none⟩ = some (.slice pv e.cs.length cv) := blk_cell HE4.out 3 _ rfl
    go_wp2_with (at_builtin; refine wpList_app (by rfl) _ _ (by rfl) (by rfl) (by rfl) (row_alloc HR4.out _) (by rfl) (C_one _ _) (by have := HM4.out; simp only [List.length_cons, List.length_nil]; omega) (le_alloc HB4.out.size _) ?_)
    intro v5 w5 hr5 hb5 hT5
    have HE5 := Lib.hid (blk_app (by decide) (blk_alloc HE4.out (.cells #[.int .u8 (e.cs.length : Int)] 5)) hT5)
    have HB5 := Lib.hid (show Below W.heap.size W w5 from (HB4.out.alloc HB4.out.size _).trans hb5)
    have hr5' : Row w5 W.heap.size v5 (headB e) := by
      have e1 : headB e = nmL e.nm ++ [e.kd] ++ numB e.srs ++ [(e.cs.length : Int)] := by unfold headB; simp [numF]; rfl
      rw [e1]; simpa using hr5
    obtain ⟨p5, c5, hv5⟩ := row_shape hr5'
    have HR5 := Lib.hid hr5'
    clear hr5 hr5' hb5 hT5 y3
    generalize hM5 : (headB e).length = M5 at hv5
    subst hv5
    have HM5 := Lib.hid hM5
    clear hM5
    have y3 : w5.cell? ⟨W.heap.size, 3, none⟩ = some (.slice pv e.cs.length cv) := blk_cell HE5.out 3 _ rfl
    go_wp2_with fail
    go_loopw [3, 46] (fun t i w' => RsR e pv cv W t i w') (fun _ i _ => e.cs.length - (intOf i).toNat)
    case atStart => exact ⟨0, _, _, _, by omega, rfl, rfl, by have := HR5.out; simpa [colsB] using this, HE5.out, HB5.out⟩
    case round =>
      obtain ⟨j, n, c, A, hj, rfl, rfl, hrow, he, hB⟩ := hrel
      clear y3
      by_cases hp : j < e.cs.length
      · obtain rfl := HPV.out (by omega)
        obtain ⟨d, hd⟩ : ∃ d, e.cs[j]? = some d := ⟨e.cs[j], List.getElem?_eq_getElem hp⟩
        obtain ⟨d1, d2, d3⟩ := HCS.out d (List.mem_of_getElem? hd)
        obtain ⟨x0, x1, x2⟩ := cols_stays HVC.out hB j d hd
        have HTK := Lib.hid (take_next1 hd)
        have hcl := colsB_len (e.cs.take j) (fun c hc => (HCS.out c (List.mem_of_mem_take hc)).1)
        have hLl : (headB e ++ colsB (e.cs.take j)).length ≤ 83 := by
          have := HHL.out
          rw [List.length_append]
          have h2 : (e.cs.take j).length ≤ 4 := by rw [List.length_take]; omega
          omega
        have HCD := Lib.hid (show colB d = nmL d.1 ++ [d.2.1, bitR d.2.2] from rfl)
        clear hd hcl
        obtain ⟨cn, ck, cm⟩ := d
        dsimp only at x0 x1 x2 d1 d2 d3
        have hnc : (nmL cn).length ≤ 13 := by rw [nmL_len]; omega
        have hwc : IntKind.u8.wrap ck = ck := by rw [IntKind.wrap_u8]; omega
        have HO := Lib.hid hrow
        have HE6 := Lib.hid he
        clear hrow he
        generalize hL6 : headB e ++ colsB (e.cs.take j) = L6 at HO hLl
        have HL6 := Lib.hid hL6
        clear hL6
        have hL7 : (L6 ++ nmL cn).length ≤ 96 := by rw [List.length_append]; omega
        have hL8 : (L6 ++ nmL cn ++ [ck]).length ≤ 97 := by rw [List.length_append, List.length_cons, List.length_nil]; omega
        go_wp2_with fail
        have HCO := Lib.hid (show BlkAt (wr.alloc (.cells #[.string cn, .int .i64 ck, .bool cm] 94)) wr.heap.size #[.string cn, .int .i64 ck, .bool cm] 94 from hp_new _ _ _ rfl)
        have hBd := below_drew (hB.alloc hB.size (.cells #[.string cn, .int .i64 ck, .bool cm] 94))
        have HOD := Lib.hid (row_drew (row_alloc HO.out (.cells #[.string cn, .int .i64 ck, .bool cm] 94)))
        have HTA := Lib.hid (rtext_row W.heap.size (.slice A n c) L6 cn d1 (wr.alloc (.cells #[.string cn, .int .i64 ck, .bool cm] 94)).drew HOD.out hBd.size (by omega))
        have HTB := Lib.hid (rtext_row W.heap.size (.slice A n c) L6 cn d1 ((wr.alloc (.cells #[.string cn, .int .i64 ck, .bool cm] 94)).alloc (.cells #[.int .u8 ck] 5)).drew (row_alloc HOD.out _) (le_alloc hBd.size _) (by omega))
        go_region_held3 (fun w' => BlkAt w' W.heap.size (entL e (.slice (some ⟨qb, qo, none⟩) e.cs.length cv)) 72 ∧ BlkAt w' wr.heap.size #[.string cn, .int .i64 ck, .bool cm] 94 ∧ w'.cell? ⟨wr.heap.size, 0, none⟩ = some (.string cn) ∧ w'.cell? ⟨wr.heap.size, 1, none⟩ = some (.int .i64 ck) ∧ w'.cell? ⟨wr.heap.size, 2, none⟩ = some (.bool cm) ∧ Below W.heap.size W w')
          (first
            | (exact s_colr (blk_alloc HE6.out _) HCO.out hBd)
            | (go_split_ands; exact s_colr (blk_app (by decide) (by assumption) hT4) (blk_app (by decide) (by assumption) hT4) (Below.trans (by assumption) hb4))
            | (go_split_ands; exact s_colr (blk_app (by decide) (by assumption) hT2) (blk_app (by decide) (by assumption) hT2) (Below.trans (by assumption) hb2))
            | (go_split_ands; exact s_colr (blk_app (by decide) (by assumption) hT1) (blk_app (by decide) (by assumption) hT1) (Below.trans (by assumption) hb1))
            | (go_split_ands; exact s_colr (blk_alloc (by assumption) _) (blk_alloc (by assumption) _) (Below.alloc (by assumption) (Below.size (by assumption)) _)))
          (first
            | (go_at_call 93; (with_reducible apply Calls.mono HTA.out); rintro e4 wa ⟨va, rfl, hr1, hb1, hO1, hT1⟩)
            | (go_at_call 93; (with_reducible apply Calls.mono HTB.out); rintro e4 wa ⟨va, rfl, hr1, hb1, hO1, hT1⟩)
            | (have hb0 := hb2; go_at_call 94; refine (rflag_row W.heap.size vb (L6 ++ nmL cn ++ [ck]) cm wb hr2 (Nat.le_trans hbs hb2.size) (by omega)).mono ?_; rintro e6 we ⟨ve, rfl, hr4, hb4, hO4, hT4⟩)
            | (have hb0 := hb1; have hx : Below W.heap.size (wr.alloc (.cells #[.string cn, .int .i64 ck, .bool cm] 94)).drew wa := (by with_reducible exact hb1); have hq := row_alloc hr1 (.cells #[.int .u8 ck] 5); have hc := C_one wa ck; have hbs := le_alloc (Nat.le_trans hBd.size hb1.size) (.cells #[.int .u8 ck] 5); refine step_app (by rfl) _ _ (by rfl) (by rfl) (by rfl) hq (by rfl) hc ?_ ?_ ?_; rotate_left 2; intro vb wb hr2 hb2 hT2; rotate_left 1; (simp only [List.length_cons, List.length_nil]; omega); (exact hbs))
            | (have hb0 := hb1; have hbs := Nat.le_trans (le_alloc hBd.size (.cells #[.int .u8 ck] 5)) hb1.size; have hc := C_one_kept (wr.alloc (.cells #[.string cn, .int .i64 ck, .bool cm] 94)) ck (wr.heap.size + 1) (by simp) HOD.out hO1; refine step_app (by rfl) _ _ (by rfl) (by rfl) (by rfl) hr1 (by rfl) hc ?_ ?_ ?_; rotate_left 2; intro vb wb hr2 hb2 hT2; rotate_left 1; (simp only [List.length_cons, List.length_nil]; omega); (exact hbs)))
        all_goals
          rename_i hH
          have hBn := hH.2.2.2.2.2
          have hrn : Row we W.heap.size ve (headB e ++ colsB (e.cs.take (j + 1))) := by
            rw [HTK.out, colsB_snoc, HCD.out, ← List.append_assoc, HL6.out]
            have h := hr4
            simp only [List.append_assoc, List.cons_append, List.nil_append] at h ⊢
            exact h
          obtain ⟨pe, ce, rfl⟩ := row_shape hrn
          have HREL := Lib.hid (show RsR e (some ⟨qb, qo, none⟩) cv W (.slice pe _ ce) (.int .i64 ((j + 1 : Nat) : Int)) we from
            ⟨j + 1, _, _, _, by omega, rfl, rfl, hrn, hH.1, hBn⟩)
          generalize (headB e ++ colsB (e.cs.take (j + 1))).length = M8 at HREL
          clear hH hBn hrn hr4 hb4 hT4 hr2 hb2 hT2 hr1 hb1 hO1 hT1 hO4
          go_wp2_with fail
          exact ⟨HREL.out, by simp [intOf]; omega⟩
      · obtain rfl : j = e.cs.length := by omega
        rw [List.take_length] at hrow
        have HLB := Lib.hid (show (headB e ++ colsB e.cs).length ≤ 83 by
          have := HHL.out
          have h2 := colsB_len e.cs (fun c hc => (HCS.out c hc).1)
          rw [List.length_append]; omega)
        have HE7 := Lib.hid he
        have HR7 := Lib.hid hrow
        have k0 : wr.cell? ⟨W.heap.size, 0, none⟩ = some (.string e.nm) := blk_cell HE7.out 0 _ rfl
        have k1 : wr.cell? ⟨W.heap.size, 1, none⟩ = some (.int .i64 e.kd) := blk_cell HE7.out 1 _ rfl
        have k2 : wr.cell? ⟨W.heap.size, 2, none⟩ = some (.int .i64 e.srs) := blk_cell HE7.out 2 _ rfl
        have k3 : wr.cell? ⟨W.heap.size, 3, none⟩ = some (.slice pv e.cs.length cv) := blk_cell HE7.out 3 _ rfl
        have k4 : wr.cell? ⟨W.heap.size, 4, none⟩ = some (.int .i64 e.id) := blk_cell HE7.out 4 _ rfl
        have k5 : wr.cell? ⟨W.heap.size, 5, none⟩ = some (.int .i64 e.tb) := blk_cell HE7.out 5 _ rfl
        have k6 : wr.cell? ⟨W.heap.size, 6, none⟩ = some (.int .i64 e.t0) := blk_cell HE7.out 6 _ rfl
        have k7 : wr.cell? ⟨W.heap.size, 7, none⟩ = some (.int .i64 e.t1) := blk_cell HE7.out 7 _ rfl
        have k8 : wr.cell? ⟨W.heap.size, 8, none⟩ = some (.int .i64 e.t2) := blk_cell HE7.out 8 _ rfl
        have k9 : wr.cell? ⟨W.heap.size, 9, none⟩ = some (.int .i64 e.ct) := blk_cell HE7.out 9 _ rfl
        have k10 : wr.cell? ⟨W.heap.size, 10, none⟩ = some (.int .i64 e.nx) := blk_cell HE7.out 10 _ rfl
        have k11 : wr.cell? ⟨W.heap.size, 11, none⟩ = some (.bool e.bn) := blk_cell HE7.out 11 _ rfl
        have k12 : wr.cell? ⟨W.heap.size, 12, none⟩ = some (.int .i64 e.lx) := blk_cell HE7.out 12 _ rfl
        have k13 : wr.cell? ⟨W.heap.size, 13, none⟩ = some (.int .i64 e.ly) := blk_cell HE7.out 13 _ rfl
        have k14 : wr.cell? ⟨W.heap.size, 14, none⟩ = some (.int .i64 e.hx) := blk_cell HE7.out 14 _ rfl
        have k15 : wr.cell? ⟨W.heap.size, 15, none⟩ = some (.int .i64 e.hy) := blk_cell HE7.out 15 _ rfl
        have x0 := fun w => idx139_0 e.id e.tb e.t0 e.t1 e.t2 e.ct e.nx w
        have x1 := fun w => idx139_1 e.id e.tb e.t0 e.t1 e.t2 e.ct e.nx w
        have x2 := fun w => idx139_2 e.id e.tb e.t0 e.t1 e.t2 e.ct e.nx w
        have x3 := fun w => idx139_3 e.id e.tb e.t0 e.t1 e.t2 e.ct e.nx w
        have x4 := fun w => idx139_4 e.id e.tb e.t0 e.t1 e.t2 e.ct e.nx w
        have x5 := fun w => idx139_5 e.id e.tb e.t0 e.t1 e.t2 e.ct e.nx w
        have x6 := fun w => idx139_6 e.id e.tb e.t0 e.t1 e.t2 e.ct e.nx w
        clear hrow he
        go_wp2_with fail
        refine (HNV.out _).mono ?_
        rintro e8 w8 ⟨rfl, hb8⟩
        have HE8 := Lib.hid (blk_below HE7.out hb8)
        have HB8 := Lib.hid (below_step hB hb8)
        have HR8 := Lib.hid (row_below HR7.out hb8)
        clear hb8 k0 k1 k2 k3 k4 k5 k6 k7 k8 k9 k10 k11 k12 k13 k14 k15
        dsimp only
        go_wp2_with fail
        go_loopw [3, 65] (fun t i w' => RnR e pv cv W t i w') (fun _ i _ => 7 - (intOf i).toNat)
        case atStart => exact ⟨0, _, _, _, by omega, rfl, rfl, by have := HR8.out; simpa [numF] using this, HE8.out, HB8.out, fun x hx => by simp at hx⟩
        case round =>
        obtain ⟨j, n, c, A, hj, rfl, rfl, hrow, he, hB, hpos⟩ := hrel
        have hj8 : j = 0 ∨ j = 1 ∨ j = 2 ∨ j = 3 ∨ j = 4 ∨ j = 5 ∨ j = 6 ∨ j = 7 := by omega
        clear hj
        rcases hj8 with rfl | rfl | rfl | rfl | rfl | rfl | rfl | rfl
        · by_cases hneg : e.id < 0
          · have HF := Lib.hid (HNEG.out e.id (by simp [numsOf]) hneg)
            clear hrow he
            go_wp2_with fail
            go_ret
            exact ⟨_, rfl, by rw [HF.out]; exact World.ownsRow_nil _ _ _ _, hB⟩
          · have hln : (headB e ++ colsB e.cs ++ numF ((numsOf e).take 0)).length ≤ 139 := by have := HLB.out; rw [List.length_append, numF_len]; have h2 : ((numsOf e).take 0).length = 0 := rfl; omega
            have HP := Lib.hid (rputn_row e.id _ _ wr (slb_row hrow (by omega)) (by omega))
            have HEQ := Lib.hid (show headB e ++ colsB e.cs ++ numF ((numsOf e).take 0) ++ numB e.id = headB e ++ colsB e.cs ++ numF ((numsOf e).take 1) by rw [show (numsOf e).take 1 = (numsOf e).take 0 ++ [e.id] from rfl, numF_snoc, ← List.append_assoc]; rfl)
            have HE9 := Lib.hid he
            clear hrow he hln
            go_wp2_with fail
            refine HP.out.mono ?_
            rintro e9 w9 ⟨v9, rfl, hr9, hb9⟩
            rw [HEQ.out] at hr9
            obtain ⟨p9, c9, rfl⟩ := row_shape hr9
            have HREL := Lib.hid (show RnR e pv cv W (.slice p9 _ c9) (.int .i64 1) w9 from
              ⟨1, _, _, _, by omega, rfl, rfl, row_lower hr9 hB.size, blk_below HE9.out hb9, below_step hB hb9, fun x hx => by
                rw [show (numsOf e).take 1 = (numsOf e).take 0 ++ [e.id] from rfl] at hx
                rcases List.mem_append.1 hx with h | h
                · exact hpos x h
                · simp at h; subst h; omega⟩)
            generalize (headB e ++ colsB e.cs ++ numF ((numsOf e).take 1)).length = M9 at HREL
            clear hr9 hb9
            dsimp only
            go_wp2_with fail
            exact ⟨HREL.out, by simp [intOf]⟩
        · by_cases hneg : e.tb < 0
          · have HF := Lib.hid (HNEG.out e.tb (by simp [numsOf]) hneg)
            clear hrow he
            go_wp2_with fail
            go_ret
            exact ⟨_, rfl, by rw [HF.out]; exact World.ownsRow_nil _ _ _ _, hB⟩
          · have hln : (headB e ++ colsB e.cs ++ numF ((numsOf e).take 1)).length ≤ 139 := by have := HLB.out; rw [List.length_append, numF_len]; have h2 : ((numsOf e).take 1).length = 1 := rfl; omega
            have HP := Lib.hid (rputn_row e.tb _ _ wr (slb_row hrow (by omega)) (by omega))
            have HEQ := Lib.hid (show headB e ++ colsB e.cs ++ numF ((numsOf e).take 1) ++ numB e.tb = headB e ++ colsB e.cs ++ numF ((numsOf e).take 2) by rw [show (numsOf e).take 2 = (numsOf e).take 1 ++ [e.tb] from rfl, numF_snoc, ← List.append_assoc]; rfl)
            have HE9 := Lib.hid he
            clear hrow he hln
            go_wp2_with fail
            refine HP.out.mono ?_
            rintro e9 w9 ⟨v9, rfl, hr9, hb9⟩
            rw [HEQ.out] at hr9
            obtain ⟨p9, c9, rfl⟩ := row_shape hr9
            have HREL := Lib.hid (show RnR e pv cv W (.slice p9 _ c9) (.int .i64 2) w9 from
              ⟨2, _, _, _, by omega, rfl, rfl, row_lower hr9 hB.size, blk_below HE9.out hb9, below_step hB hb9, fun x hx => by
                rw [show (numsOf e).take 2 = (numsOf e).take 1 ++ [e.tb] from rfl] at hx
                rcases List.mem_append.1 hx with h | h
                · exact hpos x h
                · simp at h; subst h; omega⟩)
            generalize (headB e ++ colsB e.cs ++ numF ((numsOf e).take 2)).length = M9 at HREL
            clear hr9 hb9
            dsimp only
            go_wp2_with fail
            exact ⟨HREL.out, by simp [intOf]⟩
        · by_cases hneg : e.t0 < 0
          · have HF := Lib.hid (HNEG.out e.t0 (by simp [numsOf]) hneg)
            clear hrow he
            go_wp2_with fail
            go_ret
            exact ⟨_, rfl, by rw [HF.out]; exact World.ownsRow_nil _ _ _ _, hB⟩
          · have hln : (headB e ++ colsB e.cs ++ numF ((numsOf e).take 2)).length ≤ 139 := by have := HLB.out; rw [List.length_append, numF_len]; have h2 : ((numsOf e).take 2).length = 2 := rfl; omega
            have HP := Lib.hid (rputn_row e.t0 _ _ wr (slb_row hrow (by omega)) (by omega))
            have HEQ := Lib.hid (show headB e ++ colsB e.cs ++ numF ((numsOf e).take 2) ++ numB e.t0 = headB e ++ colsB e.cs ++ numF ((numsOf e).take 3) by rw [show (numsOf e).take 3 = (numsOf e).take 2 ++ [e.t0] from rfl, numF_snoc, ← List.append_assoc]; rfl)
            have HE9 := Lib.hid he
            clear hrow he hln
            go_wp2_with fail
            refine HP.out.mono ?_
            rintro e9 w9 ⟨v9, rfl, hr9, hb9⟩
            rw [HEQ.out] at hr9
            obtain ⟨p9, c9, rfl⟩ := row_shape hr9
            have HREL := Lib.hid (show RnR e pv cv W (.slice p9 _ c9) (.int .i64 3) w9 from
              ⟨3, _, _, _, by omega, rfl, rfl, row_lower hr9 hB.size, blk_below HE9.out hb9, below_step hB hb9, fun x hx => by
                rw [show (numsOf e).take 3 = (numsOf e).take 2 ++ [e.t0] from rfl] at hx
                rcases List.mem_append.1 hx with h | h
                · exact hpos x h
                · simp at h; subst h; omega⟩)
            generalize (headB e ++ colsB e.cs ++ numF ((numsOf e).take 3)).length = M9 at HREL
            clear hr9 hb9
            dsimp only
            go_wp2_with fail
            exact ⟨HREL.out, by simp [intOf]⟩
        · by_cases hneg : e.t1 < 0
          · have HF := Lib.hid (HNEG.out e.t1 (by simp [numsOf]) hneg)
            clear hrow he
            go_wp2_with fail
            go_ret
            exact ⟨_, rfl, by rw [HF.out]; exact World.ownsRow_nil _ _ _ _, hB⟩
          · have hln : (headB e ++ colsB e.cs ++ numF ((numsOf e).take 3)).length ≤ 139 := by have := HLB.out; rw [List.length_append, numF_len]; have h2 : ((numsOf e).take 3).length = 3 := rfl; omega
            have HP := Lib.hid (rputn_row e.t1 _ _ wr (slb_row hrow (by omega)) (by omega))
            have HEQ := Lib.hid (show headB e ++ colsB e.cs ++ numF ((numsOf e).take 3) ++ numB e.t1 = headB e ++ colsB e.cs ++ numF ((numsOf e).take 4) by rw [show (numsOf e).take 4 = (numsOf e).take 3 ++ [e.t1] from rfl, numF_snoc, ← List.append_assoc]; rfl)
            have HE9 := Lib.hid he
            clear hrow he hln
            go_wp2_with fail
            refine HP.out.mono ?_
            rintro e9 w9 ⟨v9, rfl, hr9, hb9⟩
            rw [HEQ.out] at hr9
            obtain ⟨p9, c9, rfl⟩ := row_shape hr9
            have HREL := Lib.hid (show RnR e pv cv W (.slice p9 _ c9) (.int .i64 4) w9 from
              ⟨4, _, _, _, by omega, rfl, rfl, row_lower hr9 hB.size, blk_below HE9.out hb9, below_step hB hb9, fun x hx => by
                rw [show (numsOf e).take 4 = (numsOf e).take 3 ++ [e.t1] from rfl] at hx
                rcases List.mem_append.1 hx with h | h
                · exact hpos x h
                · simp at h; subst h; omega⟩)
            generalize (headB e ++ colsB e.cs ++ numF ((numsOf e).take 4)).length = M9 at HREL
            clear hr9 hb9
            dsimp only
            go_wp2_with fail
            exact ⟨HREL.out, by simp [intOf]⟩
        · by_cases hneg : e.t2 < 0
          · have HF := Lib.hid (HNEG.out e.t2 (by simp [numsOf]) hneg)
            clear hrow he
            go_wp2_with fail
            go_ret
            exact ⟨_, rfl, by rw [HF.out]; exact World.ownsRow_nil _ _ _ _, hB⟩
          · have hln : (headB e ++ colsB e.cs ++ numF ((numsOf e).take 4)).length ≤ 139 := by have := HLB.out; rw [List.length_append, numF_len]; have h2 : ((numsOf e).take 4).length = 4 := rfl; omega
            have HP := Lib.hid (rputn_row e.t2 _ _ wr (slb_row hrow (by omega)) (by omega))
            have HEQ := Lib.hid (show headB e ++ colsB e.cs ++ numF ((numsOf e).take 4) ++ numB e.t2 = headB e ++ colsB e.cs ++ numF ((numsOf e).take 5) by rw [show (numsOf e).take 5 = (numsOf e).take 4 ++ [e.t2] from rfl, numF_snoc, ← List.append_assoc]; rfl)
            have HE9 := Lib.hid he
            clear hrow he hln
            go_wp2_with fail
            refine HP.out.mono ?_
            rintro e9 w9 ⟨v9, rfl, hr9, hb9⟩
            rw [HEQ.out] at hr9
            obtain ⟨p9, c9, rfl⟩ := row_shape hr9
            have HREL := Lib.hid (show RnR e pv cv W (.slice p9 _ c9) (.int .i64 5) w9 from
              ⟨5, _, _, _, by omega, rfl, rfl, row_lower hr9 hB.size, blk_below HE9.out hb9, below_step hB hb9, fun x hx => by
                rw [show (numsOf e).take 5 = (numsOf e).take 4 ++ [e.t2] from rfl] at hx
                rcases List.mem_append.1 hx with h | h
                · exact hpos x h
                · simp at h; subst h; omega⟩)
            generalize (headB e ++ colsB e.cs ++ numF ((numsOf e).take 5)).length = M9 at HREL
            clear hr9 hb9
            dsimp only
            go_wp2_with fail
            exact ⟨HREL.out, by simp [intOf]⟩
        · by_cases hneg : e.ct < 0
          · have HF := Lib.hid (HNEG.out e.ct (by simp [numsOf]) hneg)
            clear hrow he
            go_wp2_with fail
            go_ret
            exact ⟨_, rfl, by rw [HF.out]; exact World.ownsRow_nil _ _ _ _, hB⟩
          · have hln : (headB e ++ colsB e.cs ++ numF ((numsOf e).take 5)).length ≤ 139 := by have := HLB.out; rw [List.length_append, numF_len]; have h2 : ((numsOf e).take 5).length = 5 := rfl; omega
            have HP := Lib.hid (rputn_row e.ct _ _ wr (slb_row hrow (by omega)) (by omega))
            have HEQ := Lib.hid (show headB e ++ colsB e.cs ++ numF ((numsOf e).take 5) ++ numB e.ct = headB e ++ colsB e.cs ++ numF ((numsOf e).take 6) by rw [show (numsOf e).take 6 = (numsOf e).take 5 ++ [e.ct] from rfl, numF_snoc, ← List.append_assoc]; rfl)
            have HE9 := Lib.hid he
            clear hrow he hln
            go_wp2_with fail
            refine HP.out.mono ?_
            rintro e9 w9 ⟨v9, rfl, hr9, hb9⟩
            rw [HEQ.out] at hr9
            obtain ⟨p9, c9, rfl⟩ := row_shape hr9
            have HREL := Lib.hid (show RnR e pv cv W (.slice p9 _ c9) (.int .i64 6) w9 from
              ⟨6, _, _, _, by omega, rfl, rfl, row_lower hr9 hB.size, blk_below HE9.out hb9, below_step hB hb9, fun x hx => by
                rw [show (numsOf e).take 6 = (numsOf e).take 5 ++ [e.ct] from rfl] at hx
                rcases List.mem_append.1 hx with h | h
                · exact hpos x h
                · simp at h; subst h; omega⟩)
            generalize (headB e ++ colsB e.cs ++ numF ((numsOf e).take 6)).length = M9 at HREL
            clear hr9 hb9
            dsimp only
            go_wp2_with fail
            exact ⟨HREL.out, by simp [intOf]⟩
        · by_cases hneg : e.nx < 0
          · have HF := Lib.hid (HNEG.out e.nx (by simp [numsOf]) hneg)
            clear hrow he
            go_wp2_with fail
            go_ret
            exact ⟨_, rfl, by rw [HF.out]; exact World.ownsRow_nil _ _ _ _, hB⟩
          · have hln : (headB e ++ colsB e.cs ++ numF ((numsOf e).take 6)).length ≤ 139 := by have := HLB.out; rw [List.length_append, numF_len]; have h2 : ((numsOf e).take 6).length = 6 := rfl; omega
            have HP := Lib.hid (rputn_row e.nx _ _ wr (slb_row hrow (by omega)) (by omega))
            have HEQ := Lib.hid (show headB e ++ colsB e.cs ++ numF ((numsOf e).take 6) ++ numB e.nx = headB e ++ colsB e.cs ++ numF ((numsOf e).take 7) by rw [show (numsOf e).take 7 = (numsOf e).take 6 ++ [e.nx] from rfl, numF_snoc, ← List.append_assoc]; rfl)
            have HE9 := Lib.hid he
            clear hrow he hln
            go_wp2_with fail
            refine HP.out.mono ?_
            rintro e9 w9 ⟨v9, rfl, hr9, hb9⟩
            rw [HEQ.out] at hr9
            obtain ⟨p9, c9, rfl⟩ := row_shape hr9
            have HREL := Lib.hid (show RnR e pv cv W (.slice p9 _ c9) (.int .i64 7) w9 from
              ⟨7, _, _, _, by omega, rfl, rfl, row_lower hr9 hB.size, blk_below HE9.out hb9, below_step hB hb9, fun x hx => by
                rw [show (numsOf e).take 7 = (numsOf e).take 6 ++ [e.nx] from rfl] at hx
                rcases List.mem_append.1 hx with h | h
                · exact hpos x h
                · simp at h; subst h; omega⟩)
            generalize (headB e ++ colsB e.cs ++ numF ((numsOf e).take 7)).length = M9 at HREL
            clear hr9 hb9
            dsimp only
            go_wp2_with fail
            exact ⟨HREL.out, by simp [intOf]⟩
        · have hall : ∀ x ∈ numsOf e, 0 ≤ x := hpos
          have HBO := Lib.hid (show Sb.entB okE e = Sb.body e by unfold Sb.entB; rw [HOK.out hall]; rfl)
          have hrow : Row wr W.heap.size (.slice A n c) (headB e ++ colsB e.cs ++ numF (numsOf e)) := hrow
          have hln : (headB e ++ colsB e.cs ++ numF (numsOf e)).length ≤ 139 := by have := HLB.out; rw [List.length_append, numF_len]; have h2 : (numsOf e).length = 7 := rfl; omega
          have HE9 := Lib.hid he
          have HR9 := Lib.hid hrow
          have k11 : wr.cell? ⟨W.heap.size, 11, none⟩ = some (.bool e.bn) := blk_cell HE9.out 11 _ rfl
          have k12 : wr.cell? ⟨W.heap.size, 12, none⟩ = some (.int .i64 e.lx) := blk_cell HE9.out 12 _ rfl
          have k13 : wr.cell? ⟨W.heap.size, 13, none⟩ = some (.int .i64 e.ly) := blk_cell HE9.out 13 _ rfl
          have k14 : wr.cell? ⟨W.heap.size, 14, none⟩ = some (.int .i64 e.hx) := blk_cell HE9.out 14 _ rfl
          have k15 : wr.cell? ⟨W.heap.size, 15, none⟩ = some (.int .i64 e.hy) := blk_cell HE9.out 15 _ rfl
          have HFL := Lib.hid (rflag_row W.heap.size (.slice A n c) (headB e ++ colsB e.cs ++ numF (numsOf e)) (!e.bn) wr.drew (row_drew hrow) hB.size (by omega))
          have hBd := below_drew hB
          generalize hL9 : headB e ++ colsB e.cs ++ numF (numsOf e) = L9 at HR9 hln HFL
          have HL9 := Lib.hid hL9
          clear hrow he hL9 hpos hall
          have HBD := Lib.hid (show headB e ++ colsB e.cs ++ numF (numsOf e) ++ [bitR (!e.bn)] ++ (if e.bn then [] else numB e.lx ++ (numB e.hx ++ (numB e.ly ++ numB e.hy))) = Sb.body e by rw [← body_eq]; cases e.bn <;> rfl)
          rw [HL9.out] at HBD
          generalize (if e.bn then [] else numB e.lx ++ (numB e.hx ++ (numB e.ly ++ numB e.hy)) : List Int) = LX at HXB HBD hxl
          go_wp2_with fail
          go_region_held3 (fun w' => BlkAt w' W.heap.size (entL e (.slice pv e.cs.length cv)) 72 ∧ w'.cell? ⟨W.heap.size, 11, none⟩ = some (.bool e.bn) ∧ w'.cell? ⟨W.heap.size, 12, none⟩ = some (.int .i64 e.lx) ∧ w'.cell? ⟨W.heap.size, 13, none⟩ = some (.int .i64 e.ly) ∧ w'.cell? ⟨W.heap.size, 14, none⟩ = some (.int .i64 e.hx) ∧ w'.cell? ⟨W.heap.size, 15, none⟩ = some (.int .i64 e.hy) ∧ Below W.heap.size W w')
            (first
              | (exact s_bx HE9.out hBd)
              | (go_split_ands; exact s_bx (blk_app (by decide) (by assumption) hT7) (Below.trans (by assumption) hb7))
              | (go_split_ands; exact s_bx (blk_below (by assumption) hb6) (below_step (by assumption) hb6))
              | (go_split_ands; exact s_bx (blk_app (by decide) (by assumption) hT5) (Below.trans (by assumption) hb5)))
            (first
              | (go_at_call 94; (with_reducible apply Calls.mono HFL.out); rintro e4 wa ⟨v5, rfl, hr5, hb5, hO5, hT5⟩)
              | (go_at_call 96; refine (HXB.out _).mono ?_; rintro e6 wd ⟨v6, rfl, hr6, hb6⟩; obtain ⟨p6, c6, rfl⟩ := row_shape hr6)
              | (have hb0 := hb6; have hq := row_below hr5 hb6; have hc := (row_C hr6 (by omega)).2.2; refine step_app (by rfl) _ _ (by rfl) (by rfl) (by rfl) hq (by rfl) hc ?_ ?_ ?_; rotate_left 2; intro v7 w7 hr7 hb7 hT7; rotate_left 1; (rw [List.length_append, List.length_cons, List.length_nil]; omega); (exact Nat.le_trans (Nat.le_trans hBd.size hb5.size) hb6.size)))
          rename_i hH
          have HR10 := Lib.hid (show Row w7 W.heap.size v7 (Sb.body e) by rw [← HBD.out]; exact hr7)
          have HB10 := Lib.hid hH.2.2.2.2.2.2
          clear hr7 hb7 hT7 hr6 hb6 hr5 hb5 hO5 hT5 hH
          go_wp2_with fail
          go_ret
          exact ⟨_, rfl, by rw [HBO.out]; exact HR10.out, HB10.out⟩
end Go.Proofs.YtcjidlgmbjebjaaDoor
