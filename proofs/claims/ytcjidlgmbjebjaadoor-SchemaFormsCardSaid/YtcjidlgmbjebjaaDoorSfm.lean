/- A part of the proof of SchemaForms. -/
import Derived.Test.YtcjidlgmbjebjaaDoorSfl
import Derived.Deep.DeepCutAuto
set_option linter.unusedVariables false
set_option linter.unusedSimpArgs false
set_option maxRecDepth 100000
namespace Go.Proofs.YtcjidlgmbjebjaaDoor
open Go Go.RowKit Go.Proofs.YtcjidlgmbjebjaaDoorW.PrintWords
def BlkAt (w : World) (b : Nat) (cs : Array Value) (T : Nat) : Prop := w.heap[b]? = some (.cells cs T (0, 0))
theorem blk_below {w w' : World} {b : Nat} {cs : Array Value} {T : Nat} (h : BlkAt w b cs T) (hb : Below w.heap.size w w') : BlkAt w' b cs T := (hb.block b (Array.getElem?_eq_some_iff.1 h).1).trans h
theorem blk_alloc {w : World} {b : Nat} {cs : Array Value} {T : Nat} (h : BlkAt w b cs T) (o : Obj) : BlkAt (w.alloc o) b cs T := blk_below h ((Below.refl _ _).alloc (Nat.le_refl _) o)
theorem blk_app {w w' : World} {b : Nat} {cs : Array Value} {T : Nat} (hT : T ≠ 5) (h : BlkAt w b cs T) (hk : Kept5 w w') : BlkAt w' b cs T :=
  (hk b (Array.getElem?_eq_some_iff.1 h).1 (by rintro ⟨cells, hc⟩; rw [h] at hc; injection hc with hc; injection hc with _ hc; exact hT hc)).trans h
theorem blk_cell {w : World} {b : Nat} {cs : Array Value} {T : Nat} (h : BlkAt w b cs T) (i : Nat) (x : Value) (hx : cs[i]? = some x) : w.cell? ⟨b, i, none⟩ = some x := by rw [Lib.cell_of_heap h]; exact hx
theorem blk_lt {w : World} {b : Nat} {cs : Array Value} {T : Nat} (h : BlkAt w b cs T) : b < w.heap.size := (Array.getElem?_eq_some_iff.1 h).1
def sevL (e : Ent) : Array Value := #[.int .i64 e.id, .int .i64 e.tb, .int .i64 e.t0, .int .i64 e.t1, .int .i64 e.t2, .int .i64 e.ct, .int .i64 e.nx]
theorem ints_of_sev {w : World} {g : Nat} {e : Ent} (h : BlkAt w g (sevL e) 3) : IntsAt w g 0 (numsOf e) := by
  intro j x hx
  rw [Nat.zero_add]
  refine blk_cell h j _ ?_
  unfold numsOf at hx
  match j, hx with
  | 0, hx => simp at hx; subst hx; rfl
  | 1, hx => simp at hx; subst hx; rfl
  | 2, hx => simp at hx; subst hx; rfl
  | 3, hx => simp at hx; subst hx; rfl
  | 4, hx => simp at hx; subst hx; rfl
  | 5, hx => simp at hx; subst hx; rfl
  | 6, hx => simp at hx; subst hx; rfl
  | j + 7, hx => simp at hx
theorem one_int (w : World) (x : Int) : IntsAt (w.alloc (.cells #[.int .i64 x] 3)) w.heap.size 0 [x] := by
  intro j y hy
  rw [Lib.cell_of_heap (hp_new w _ _ rfl), Nat.zero_add]
  match j, hy with
  | 0, hy => simp at hy; subst hy; rfl
  | j + 1, hy => simp at hy
theorem C_two (w : World) (x y : Int) : Kd.C (Kd.int .u8) (w.alloc (.cells #[.int .u8 x, .int .u8 y] 5)) (some ⟨w.heap.size, 0, none⟩) 2 [x, y] := by
  refine kC_mk (l := [x, y]) (by simp) fun _ => ⟨_, rfl, fun j z hz => ?_⟩
  rw [Addr.add_mid, Nat.zero_add, Lib.cell_of_heap (hp_new w _ _ rfl)]
  match j, hz with
  | 0, hz => simp at hz; subst hz; rfl
  | 1, hz => simp at hz; subst hz; rfl
  | j + 2, hz => simp at hz
theorem s_ent {e : Ent} {pv : Option Addr} {nv cv : Nat} {w' W : World} {b : Nat} (h : BlkAt w' b (entL e (.slice pv nv cv)) 67) (h2 : BlkAt w' (b + 1) (sevL e) 3) (hB : Below W.heap.size W w') :
    BlkAt w' b (entL e (.slice pv nv cv)) 67 ∧ BlkAt w' (b + 1) (sevL e) 3 ∧ w'.cell? ⟨b, 0, none⟩ = some (.string e.nm) ∧ w'.cell? ⟨b, 1, none⟩ = some (.int .i64 e.kd) ∧ w'.cell? ⟨b, 2, none⟩ = some (.int .i64 e.srs) ∧ w'.cell? ⟨b, 3, none⟩ = some (.slice pv nv cv) ∧ w'.cell? ⟨b, 11, none⟩ = some (.bool e.bn) ∧ w'.cell? ⟨b, 12, none⟩ = some (.int .i64 e.lx) ∧ w'.cell? ⟨b, 13, none⟩ = some (.int .i64 e.ly) ∧ w'.cell? ⟨b, 14, none⟩ = some (.int .i64 e.hx) ∧ w'.cell? ⟨b, 15, none⟩ = some (.int .i64 e.hy) ∧ Below W.heap.size W w' :=
  ⟨h, h2, blk_cell h 0 _ rfl, blk_cell h 1 _ rfl, blk_cell h 2 _ rfl, blk_cell h 3 _ rfl, blk_cell h 11 _ rfl, blk_cell h 12 _ rfl, blk_cell h 13 _ rfl, blk_cell h 14 _ rfl, blk_cell h 15 _ rfl, hB⟩
theorem s_col {e : Ent} {pv : Option Addr} {nv cv : Nat} {w' W : World} {b q : Nat} {cn : ByteArray} {ck : Int} {cm : Bool} (h : BlkAt w' b (entL e (.slice pv nv cv)) 67) (h2 : BlkAt w' (b + 1) (sevL e) 3) (h3 : BlkAt w' q #[.string cn, .int .i64 ck, .bool cm] 90) (hB : Below W.heap.size W w') :
    BlkAt w' b (entL e (.slice pv nv cv)) 67 ∧ BlkAt w' (b + 1) (sevL e) 3 ∧ BlkAt w' q #[.string cn, .int .i64 ck, .bool cm] 90 ∧ w'.cell? ⟨q, 0, none⟩ = some (.string cn) ∧ w'.cell? ⟨q, 1, none⟩ = some (.int .i64 ck) ∧ w'.cell? ⟨q, 2, none⟩ = some (.bool cm) ∧ Below W.heap.size W w' := ⟨h, h2, h3, blk_cell h3 0 _ rfl, blk_cell h3 1 _ rfl, blk_cell h3 2 _ rfl, hB⟩
theorem good_more {nm : ByteArray} {k srs : Int} {cs : List Col} (h : goodSch nm k srs cs = 0) : 0 ≤ k ∧ k ≤ 7 ∧ cs.length ≤ 4 := by
  cases hh : headOk nm k srs cs.length with
  | false => rw [good_head hh] at h; cases h
  | true =>
    unfold headOk at hh
    simp only [Bool.and_eq_true, decide_eq_true_eq] at hh
    omega
def bitI (b : Bool) : Int := if b then 1 else 0
theorem biti_val (b : Bool) (w : World) : Calls Tryd.prog 90 #[.bool b] w (RetS (.int .u8 (bitI b)) w) := bit_val b w
def colB (c : Col) : List Int := nmL c.1 ++ [c.2.1, if c.2.2 then 1 else 0]
def colsB (cs : List Col) : List Int := cs.flatMap colB
theorem colsB_snoc (cs : List Col) (c : Col) : colsB (cs ++ [c]) = colsB cs ++ colB c := by simp [colsB]
theorem nmL_len (s : ByteArray) : (nmL s).length = s.size + 1 := by unfold nmL; rw [List.length_cons, bytesOf_length]
theorem colsB_len : ∀ (cs : List Col), (∀ c ∈ cs, c.1.size ≤ 12) → (colsB cs).length ≤ cs.length * 15 := by
  intro cs
  induction cs with
  | nil => intro _; simp [colsB]
  | cons c cs ih =>
    intro h
    have h1 := ih fun x hx => h x (List.mem_cons_of_mem _ hx)
    have h2 := h c List.mem_cons_self
    unfold colsB at *
    rw [List.flatMap_cons, List.length_append, List.length_cons]
    have : (colB c).length = c.1.size + 3 := by unfold colB; rw [List.length_append, nmL_len]; simp
    omega
def headB (e : Ent) : List Int := nmL e.nm ++ [e.kd] ++ numF [e.srs] ++ [(e.cs.length : Int)]
theorem headB_len (e : Ent) (h : e.nm.size ≤ 12) : (headB e).length ≤ 23 := by unfold headB; simp only [List.length_append, nmL_len, numF_len, List.length_cons, List.length_nil]; omega
theorem le_alloc {a : Nat} {w : World} (h : a ≤ w.heap.size) (o : Obj) : a ≤ (w.alloc o).heap.size := by simp; omega
theorem ints_drew {w : World} {b o : Nat} {ns : List Int} (h : IntsAt w b o ns) : IntsAt w.drew b o ns := h
theorem ints_alloc {w : World} {b o : Nat} {ns : List Int} (h : IntsAt w b o ns) (x : Obj) : IntsAt (w.alloc x) b o ns := ints_later h ((Below.refl _ _).alloc (Nat.le_refl _) x)
theorem cut_ent {w w' : World} {b : Nat} {cs : Array Value} {T : Nat} (h : BlkAt w b cs T) (hb : Below w.heap.size w w') : BlkAt w' b cs T := blk_below h hb
theorem C_oneAt (w : World) (x : Int) (g : Nat) (hg : g = w.heap.size) : Kd.C (Kd.int .u8) (w.alloc (.cells #[.int .u8 x] 5)) (some ⟨g, 0, none⟩) 1 [x] := by subst hg; exact C_one w x
/-- What a statement leaves that writes the row on: the row in its slot, the blocks as they were. -/
def CutR (e : Ent) (pv : Option Addr) (cv : Nat) (W : World) (L : List Int) (t : Value) (w' : World) : Prop :=
  ∃ (n c : Nat) (A : Option Addr), t = .slice A n c ∧ n = L.length ∧ Row w' W.heap.size (.slice A n c) L ∧ BlkAt w' W.heap.size (entL e (.slice pv e.cs.length cv)) 67 ∧ BlkAt w' (W.heap.size + 1) (sevL e) 3 ∧ Below W.heap.size W w'
theorem cut_mk {e : Ent} {pv : Option Addr} {cv : Nat} {W : World} {L : List Int} {t : Value} {w' : World} (hr : Row w' W.heap.size t L) (h1 : BlkAt w' W.heap.size (entL e (.slice pv e.cs.length cv)) 67) (h2 : BlkAt w' (W.heap.size + 1) (sevL e) 3) (hB : Below W.heap.size W w') : CutR e pv cv W L t w' := by
  obtain ⟨p, c, rfl⟩ := row_shape hr
  exact ⟨_, c, p, rfl, rfl, hr, h1, h2, hB⟩
def SbR (e : Ent) (pv : Option Addr) (nv cv : Nat) (W : World) (t i : Value) (w' : World) : Prop :=
  ∃ (j n c : Nat) (A : Option Addr), j ≤ e.cs.length ∧ i = .int .i64 j ∧ t = .slice A n c ∧ Row w' W.heap.size (.slice A n c) (headB e ++ colsB (e.cs.take j)) ∧ BlkAt w' W.heap.size (entL e (.slice pv nv cv)) 67 ∧ BlkAt w' (W.heap.size + 1) (sevL e) 3 ∧ Below W.heap.size W w'
theorem body_eq (e : Ent) : headB e ++ colsB e.cs ++ numF (numsOf e) ++ [if e.bn then 0 else 1] ++ (if e.bn then [] else numB e.lx ++ (numB e.hx ++ (numB e.ly ++ numB e.hy))) = Sb.body e := by
  have h1 : numF [e.srs] = Sb.numB e.srs := by simp [numF]; rfl
  have h2 : numF (numsOf e) = Sb.numsB e := by simp [numF, numsOf, Sb.numsB]; rfl
  have h3 : colsB e.cs = Sb.colsB e.cs := rfl
  have h4 : nmL e.nm = Sb.nmB e.nm := rfl
  unfold headB
  rw [h1, h2, h3, h4]
  unfold Sb.body Sb.boxB
  simp only [List.append_assoc, List.cons_append, List.nil_append]
  rfl
set_option maxHeartbeats 16000000 in
theorem sbytes_ok (e : Ent) (v : Value) (W : World) (hf : EntFits e) (hv : ColsV W v e.cs) (hok : okE e = true) : Calls Tryd.prog 40 #[entV e v] W (RetRow (Sb.entB okE e) W) := by
  have HBO := Lib.hid (show Sb.entB okE e = Sb.body e by unfold Sb.entB; rw [hok]; rfl)
  obtain ⟨pv, qb, qo, cv, rfl, hcap, hpv, hvc⟩ := hv
  have HV := Lib.hid (show ColsV W (.slice pv e.cs.length cv) e.cs from ⟨pv, qb, qo, cv, rfl, hcap, hpv, hvc⟩)
  have HVC := Lib.hid hvc
  have HPV := Lib.hid hpv
  have HG := Lib.hid (fun w h => sgood_any e.nm e.kd e.srs (.slice pv e.cs.length cv) e.cs w hf.nm hf.cs h)
  unfold schV at HG
  unfold entV entL
  have hok' := hok
  unfold okE at hok'
  simp only [Bool.and_eq_true, decide_eq_true_eq] at hok'
  obtain ⟨hg, hn, hbx⟩ := hok'
  obtain ⟨g1, g2, g3, g4⟩ := good_facts hg
  obtain ⟨m1, m2, m3⟩ := good_more hg
  rw [hg] at HG
  have HM := Lib.hid (fun w h => min_val (W.heap.size + 1) 0 7 (numsOf e) w h (by show 0 < 7; omega) (by show 7 ≤ 7; omega))
  rw [show (numsOf e).length = 7 from rfl] at HM
  have HX := Lib.hid (fun w => boxgood_val e.bn e.lx e.ly e.hx e.hy w)
  rw [hbx] at HX
  have HXB := Lib.hid (fun w => boxbytes_row e.bn e.lx e.ly e.hx e.hy w)
  have HXV := Lib.hid (show bxB e.bn e.lx e.ly e.hx e.hy = if e.bn then [] else numB e.lx ++ (numB e.hx ++ (numB e.ly ++ numB e.hy)) by unfold bxB; rw [hbx]; cases e.bn <;> rfl)
  rw [HXV.out] at HXB
  unfold boxV at HX HXB
  have hxl : (if e.bn then [] else numB e.lx ++ (numB e.hx ++ (numB e.ly ++ numB e.hy)) : List Int).length ≤ 32 := by cases e.bn <;> simp [numB, putB]
  have HNM := Lib.hid (fun w => named_row e.nm g1 w)
  have HCS := Lib.hid g4
  have HHL := Lib.hid (headB_len e g1)
  have hnl := nmL_len e.nm
  have hwk : IntKind.u8.wrap e.kd = e.kd := by rw [IntKind.wrap_u8]; omega
  have hwl : IntKind.u8.wrap (e.cs.length : Int) = (e.cs.length : Int) := by rw [IntKind.wrap_u8]; omega
  clear hg hbx g2 g3 g4 hcap hpv hvc hok
  go_enter Tryd.func40, Tryd.ntmps40
  go_wp2_with fail
  refine (HG.out _ (colsV_stays HV.out (by go_grown))).mono ?_
  rintro e1 w1 ⟨rfl, hb⟩
  have HE1 := Lib.hid (blk_below (blk_alloc (show BlkAt (W.alloc (.cells (entL e (.slice pv e.cs.length cv)) 67)) W.heap.size (entL e (.slice pv e.cs.length cv)) 67 from hp_new _ _ _ rfl) (.cells (sevL e) 3)) hb)
  have HS1 := Lib.hid (blk_below (show BlkAt ((W.alloc (.cells (entL e (.slice pv e.cs.length cv)) 67)).alloc (.cells (sevL e) 3)) (W.heap.size + 1) (sevL e) 3 from hp_new _ _ _ (by simp)) hb)
  have HB1 := Lib.hid (show Below W.heap.size W w1 from (((Below.refl W.heap.size W).alloc (Nat.le_refl _) _).alloc (by simp) _).trans (hb.mono (by simp; omega)))
  clear hb
  dsimp only
  go_wp2_with fail
  refine (HM.out _ (ints_of_sev HS1.out)).mono ?_
  rintro e2 w2 ⟨x, rfl, hx, hb⟩
  have hx0 := min_neg hx
  rw [hn] at hx0
  have hx1 : ¬ x < 0 := of_decide_eq_false hx0
  have HB2 := Lib.hid (below_step HB1.out hb)
  have HE2 := Lib.hid (blk_below HE1.out hb)
  have HS2 := Lib.hid (blk_below HS1.out hb)
  clear hb hx hx0 hn
  have k11 := blk_cell HE2.out 11 _ rfl
  have k12 := blk_cell HE2.out 12 _ rfl
  have k13 := blk_cell HE2.out 13 _ rfl
  have k14 := blk_cell HE2.out 14 _ rfl
  have k15 := blk_cell HE2.out 15 _ rfl
  dsimp only
  go_wp2_with fail
  refine (HX.out _).mono ?_
  rintro e3 w3 ⟨rfl, hb⟩
  have HBB := Lib.hid (below_step HB2.out hb)
  have HE := Lib.hid (blk_below HE2.out hb)
  have HSV := Lib.hid (blk_below HS2.out hb)
  clear hb hx1 HB2 HE2 HS2 HB1 HE1 HS1 k11 k12 k13 k14 k15
  dsimp only
  go_wp2_with fail
  go_cut [4] (fun t wx => CutR e pv cv W (nmL e.nm ++ [e.kd]) t wx)
  case first =>
    go_region_held3 (fun w' => BlkAt w' W.heap.size (entL e (.slice pv e.cs.length cv)) 67 ∧ BlkAt w' (W.heap.size + 1) (sevL e) 3 ∧ w'.cell? ⟨W.heap.size, 0, none⟩ = some (.string e.nm) ∧ w'.cell? ⟨W.heap.size, 1, none⟩ = some (.int .i64 e.kd) ∧ w'.cell? ⟨W.heap.size, 2, none⟩ = some (.int .i64 e.srs) ∧ w'.cell? ⟨W.heap.size, 3, none⟩ = some (.slice pv e.cs.length cv) ∧ w'.cell? ⟨W.heap.size, 11, none⟩ = some (.bool e.bn) ∧ w'.cell? ⟨W.heap.size, 12, none⟩ = some (.int .i64 e.lx) ∧ w'.cell? ⟨W.heap.size, 13, none⟩ = some (.int .i64 e.ly) ∧ w'.cell? ⟨W.heap.size, 14, none⟩ = some (.int .i64 e.hx) ∧ w'.cell? ⟨W.heap.size, 15, none⟩ = some (.int .i64 e.hy) ∧ Below W.heap.size W w')
      (first
        | (go_keep; done)
        | (exact s_ent (blk_below HE.out (below_drew (Below.refl _ _))) (blk_below HSV.out (below_drew (Below.refl _ _))) (below_drew HBB.out))
        | (go_split_ands; exact s_ent (blk_app (by decide) (by assumption) hT4) (blk_app (by decide) (by assumption) hT4) (Below.trans (by assumption) hb4))
        | (go_split_ands; exact s_ent (blk_below (by assumption) hb3) (blk_below (by assumption) hb3) (below_step (by assumption) hb3))
        | (go_split_ands; exact s_ent (blk_app (by decide) (by assumption) hT2) (blk_app (by decide) (by assumption) hT2) (Below.trans (by assumption) hb2))
        | (go_split_ands; exact s_ent (blk_below (by assumption) hb1) (blk_below (by assumption) hb1) (below_step (by assumption) hb1))
        | (go_split_ands; exact s_ent (blk_alloc (by assumption) _) (blk_alloc (by assumption) _) (Below.alloc (by assumption) (Below.size (by assumption)) _)))
      (first
        | (go_at_call 88; refine (HNM.out _).mono ?_; rintro e4 wa ⟨va, rfl, hr1, hb1⟩)
        | (have hr1' : Row (wa.alloc (.cells #[.int .u8 e.kd] 5)) W.heap.size va (nmL e.nm) := row_lower (row_alloc hr1 _) HBB.out.size; refine step_app (by rfl) _ _ (by rfl) (by rfl) (by rfl) hr1' (by rfl) (C_one _ _) (by simp; omega) (by have h1 := hb1.size; have h2 := HBB.out.size; simp at h1 ⊢; omega) ?_; intro vb wb hr2 hb2 hT2)
        | (have hq := row_lower hr1 (le_alloc HBB.out.size _); have hc := Kd.C_below (Kd.C_drew (C_one w3 e.kd)) hb1; refine step_app (by rfl) _ _ (by rfl) (by rfl) (by rfl) hq (by rfl) hc ?_ ?_ ?_; rotate_left 2; intro vb wb hr2 hb2 hT2; rotate_left 1; (simp; omega); (exact Nat.le_trans (le_alloc HBB.out.size _) hb1.size)))
    all_goals
      rename_i hH
      have HCU := Lib.hid (cut_mk hr2 hH.1 hH.2.1 hH.2.2.2.2.2.2.2.2.2.2.2)
      go_wp2_with fail
      go_meet
      exact HCU.out
  case rest =>
    obtain ⟨n4, c4, A4, rfl, hn4, hr4, he4, hs4, hb4⟩ := hcut
    have HE4 := Lib.hid he4
    have HS4 := Lib.hid hs4
    have HB4 := Lib.hid hb4
    have hlen4 : (nmL e.nm ++ [e.kd]).length ≤ 14 := by simp; omega
    have HSL := Lib.hid (slb_row hr4 (by omega))
    have HN4 := Lib.hid hn4
    clear he4 hs4 hb4 hr4 hn4
    have y2 := blk_cell HE4.out 2 _ rfl
    have y3 := blk_cell HE4.out 3 _ rfl
    generalize hL4 : nmL e.nm ++ [e.kd] = L4 at HSL hlen4 HN4
    have HL4 := Lib.hid hL4
    clear hL4
    have HA := Lib.hid (nums_row (.slice A4 n4 c4) L4 [e.srs] wc.heap.size 0 1 (wc.alloc (.cells #[.int .i64 e.srs] 3)).drew (slb_below HSL.out (below_drew ((Below.refl _ _).alloc (Nat.le_refl _) _))) (by omega) (ints_drew (one_int wc e.srs)) (by simp) (by simp) (by simp))
    have HB := Lib.hid (nums_row (.slice A4 n4 c4) L4 [e.srs] wc.heap.size 0 1 ((wc.alloc (.cells #[.int .i64 e.srs] 3)).alloc (.cells #[.int .u8 (e.cs.length : Int)] 5)).drew (slb_below HSL.out (below_drew (((Below.refl _ _).alloc (Nat.le_refl _) _).alloc (by simp) _))) (by omega) (ints_drew (ints_alloc (one_int wc e.srs) _)) (by simp) (by simp) (by simp))
    have HC := Lib.hid (nums_row (.slice A4 n4 c4) L4 [e.srs] (wc.heap.size + 1) 0 1 ((wc.alloc (.cells #[.int .u8 (e.cs.length : Int)] 5)).alloc (.cells #[.int .i64 e.srs] 3)).drew (slb_below HSL.out (below_drew (((Below.refl _ _).alloc (Nat.le_refl _) _).alloc (by simp) _))) (by omega) (ints_drew (by have := one_int (wc.alloc (.cells #[.int .u8 (e.cs.length : Int)] 5)) e.srs; simpa using this)) (by simp) (by simp) (by simp))
    rw [show [e.srs].length = 1 from rfl] at HA HB HC
    have hlen5 : (L4 ++ numF [e.srs]).length ≤ 22 := by rw [List.length_append, numF_len]; simp; omega
    go_wp2_with fail
    go_cut [4] (fun t wx => CutR e pv cv W (headB e) t wx)
    case first =>
      go_region_held3 (fun w' => w'.cell? ⟨W.heap.size, 2, none⟩ = some (.int .i64 e.srs) ∧ w'.cell? ⟨W.heap.size, 3, none⟩ = some (.slice pv e.cs.length cv) ∧ Below wc.heap.size wc w')
        (first
          | (go_keep; done)
          | ((repeat' apply And.intro) <;> first | (rw [World.cell?_drew]; assumption) | (exact below_drew (Below.refl _ _)))
          | (go_split_ands; (repeat' apply And.intro) <;> first | (exact cell_base hb2 (blk_lt HE4.out) (by assumption)) | (exact Below.trans (by assumption) hb2))
          | (go_split_ands; (repeat' apply And.intro) <;> first | (exact cell_later hb1 (by assumption)) | (exact below_below (by assumption) hb1 (Below.size (by assumption))))
          | (go_split_ands; (repeat' apply And.intro) <;> first | (exact cell_later ((Below.refl _ _).alloc (Nat.le_refl _) _) (by assumption)) | (exact Below.alloc (by assumption) (Below.size (by assumption)) _)))
        (first
          | (go_at_call 89; (with_reducible apply Calls.mono HA.out); rintro e4 wa ⟨va, rfl, hr1, hb1⟩)
          | (go_at_call 89; (with_reducible apply Calls.mono HB.out); rintro e4 wa ⟨va, rfl, hr1, hb1⟩)
          | (go_at_call 89; (with_reducible apply Calls.mono HC.out); rintro e4 wa ⟨va, rfl, hr1, hb1⟩)
          | (have hb0 := hb1; have hx : Below (wc.alloc (.cells #[.int .i64 e.srs] 3)).drew.heap.size (wc.alloc (.cells #[.int .i64 e.srs] 3)).drew wa := (by with_reducible exact hb1); have hq := row_lower (row_alloc hr1 (.cells #[.int .u8 (e.cs.length : Int)] 5)) (le_alloc (Nat.le_refl wc.heap.size) (.cells #[.int .i64 e.srs] 3)); have hc := C_one wa (e.cs.length : Int); refine step_app (by rfl) _ _ (by rfl) (by rfl) (by rfl) hq (by rfl) hc ?_ ?_ ?_; rotate_left 2; intro vb wb hr2 hb2 hT2; rotate_left 1; (simp only [List.length_cons, List.length_nil]; omega); (exact le_alloc (Nat.le_trans (le_alloc (Nat.le_refl wc.heap.size) (.cells #[.int .i64 e.srs] 3)) hb1.size) _))
          | (have hb0 := hb1; have hx : Below ((wc.alloc (.cells #[.int .i64 e.srs] 3)).alloc (.cells #[.int .u8 (e.cs.length : Int)] 5)).drew.heap.size ((wc.alloc (.cells #[.int .i64 e.srs] 3)).alloc (.cells #[.int .u8 (e.cs.length : Int)] 5)).drew wa := (by with_reducible exact hb1); have hc := Kd.C_below (Kd.C_drew (C_oneAt (wc.alloc (.cells #[.int .i64 e.srs] 3)) (e.cs.length : Int) (wc.heap.size + 1) (by simp))) hb1; have hq := row_lower hr1 (le_alloc (le_alloc (Nat.le_refl wc.heap.size) (.cells #[.int .i64 e.srs] 3)) (.cells #[.int .u8 (e.cs.length : Int)] 5)); refine step_app (by rfl) _ _ (by rfl) (by rfl) (by rfl) hq (by rfl) hc ?_ ?_ ?_; rotate_left 2; intro vb wb hr2 hb2 hT2; rotate_left 1; (simp only [List.length_cons, List.length_nil]; omega); (exact Nat.le_trans (le_alloc (le_alloc (Nat.le_refl wc.heap.size) (.cells #[.int .i64 e.srs] 3)) (.cells #[.int .u8 (e.cs.length : Int)] 5)) hb1.size))
          | (have hb0 := hb1; have hx : Below ((wc.alloc (.cells #[.int .u8 (e.cs.length : Int)] 5)).alloc (.cells #[.int .i64 e.srs] 3)).drew.heap.size ((wc.alloc (.cells #[.int .u8 (e.cs.length : Int)] 5)).alloc (.cells #[.int .i64 e.srs] 3)).drew wa := (by with_reducible exact hb1); have hc := Kd.C_below (Kd.C_drew (Kd.C_alloc (C_one wc (e.cs.length : Int)) (.cells #[.int .i64 e.srs] 3))) hb1; have hq := row_lower hr1 (le_alloc (le_alloc (Nat.le_refl wc.heap.size) (.cells #[.int .u8 (e.cs.length : Int)] 5)) (.cells #[.int .i64 e.srs] 3)); refine step_app (by rfl) _ _ (by rfl) (by rfl) (by rfl) hq (by rfl) hc ?_ ?_ ?_; rotate_left 2; intro vb wb hr2 hb2 hT2; rotate_left 1; (simp only [List.length_cons, List.length_nil]; omega); (exact Nat.le_trans (le_alloc (le_alloc (Nat.le_refl wc.heap.size) (.cells #[.int .u8 (e.cs.length : Int)] 5)) (.cells #[.int .i64 e.srs] 3)) hb1.size)))
      all_goals
        rename_i hH
        have HCU := Lib.hid (show CutR e pv cv W (headB e) vb wb from cut_mk (row_lower (by unfold headB; rw [← HL4.out] at hr2; exact hr2) HB4.out.size) (cut_ent HE4.out hH.2.2) (cut_ent HS4.out hH.2.2) (below_below HB4.out hH.2.2 HB4.out.size))
        go_wp2_with fail
        go_meet
        exact HCU.out
    case rest =>
      obtain ⟨n5, c5, A5, rfl, hn5, hr5, he5, hs5, hb5⟩ := hcut
      have HE5 := Lib.hid he5
      have HS5 := Lib.hid hs5
      have HB5 := Lib.hid hb5
      have HR5 := Lib.hid hr5
      clear he5 hs5 hb5 hr5 HA HB HC HSL HL4 HN4 y2 y3 hlen5 hlen4
      have y3 : wc.cell? ⟨W.heap.size, 3, none⟩ = some (.slice pv e.cs.length cv) := blk_cell HE5.out 3 _ rfl
      subst hn5
      generalize hM5 : (headB e).length = M5 at HR5
      have HM5 := Lib.hid hM5
      clear hM5
      go_wp2_with fail
      go_loopw [4, 67] (fun t i w' => SbR e pv e.cs.length cv W t i w') (fun _ i _ => e.cs.length - (intOf i).toNat)
      case atStart => exact ⟨0, _, _, _, by omega, rfl, rfl, by have := HR5.out; simpa [colsB] using this, HE5.out, HS5.out, HB5.out⟩
      case round =>
        obtain ⟨j, n, c, A, hj, rfl, rfl, hrow, he, hsv, hB⟩ := hrel
        clear y3
        by_cases hp : j < e.cs.length
        · obtain rfl := HPV.out (by omega)
          obtain ⟨d, hd⟩ : ∃ d, e.cs[j]? = some d := ⟨e.cs[j], List.getElem?_eq_getElem hp⟩
          obtain ⟨d1, d2, d3⟩ := HCS.out d (List.mem_of_getElem? hd)
          obtain ⟨x0, x1, x2⟩ := cols_stays HVC.out hB j d hd
          have HTK := Lib.hid (take_next1 hd)
          have hcl := colsB_len (e.cs.take j) (fun c hc => (HCS.out c (List.mem_of_mem_take hc)).1)
          have hLl : (headB e ++ colsB (e.cs.take j)).length ≤ 83 := by
            have := HHL.out
            rw [List.length_append]
            have h2 : (e.cs.take j).length ≤ 4 := by rw [List.length_take]; omega
            omega
          have HCD := Lib.hid (show colB d = nmL d.1 ++ [d.2.1, bitI d.2.2] from rfl)
          clear hd hcl
          obtain ⟨cn, ck, cm⟩ := d
          dsimp only at x0 x1 x2 d1 d2 d3
          have HNC := Lib.hid (fun w => named_row cn d1 w)
          have HBT := Lib.hid (fun w => biti_val cm w)
          have hnc : (nmL cn).length ≤ 13 := by rw [nmL_len]; omega
          have hwc : IntKind.u8.wrap ck = ck := by rw [IntKind.wrap_u8]; omega
          have HO := Lib.hid hrow
          have HE6 := Lib.hid he
          have HS6 := Lib.hid hsv
          clear hrow he hsv
          generalize hL6 : headB e ++ colsB (e.cs.take j) = L6 at HO hLl
          have HL6 := Lib.hid hL6
          clear hL6
          go_wp2_with fail
          have HCO := Lib.hid (show BlkAt (wr.alloc (.cells #[.string cn, .int .i64 ck, .bool cm] 90)) wr.heap.size #[.string cn, .int .i64 ck, .bool cm] 90 from hp_new _ _ _ rfl)
          have hBd := below_drew (hB.alloc hB.size (.cells #[.string cn, .int .i64 ck, .bool cm] 90))
          have HOD := Lib.hid (row_drew (row_alloc HO.out (.cells #[.string cn, .int .i64 ck, .bool cm] 90)))
          go_region_held3 (fun w' => BlkAt w' W.heap.size (entL e (.slice (some ⟨qb, qo, none⟩) e.cs.length cv)) 67 ∧ BlkAt w' (W.heap.size + 1) (sevL e) 3 ∧ BlkAt w' wr.heap.size #[.string cn, .int .i64 ck, .bool cm] 90 ∧ w'.cell? ⟨wr.heap.size, 0, none⟩ = some (.string cn) ∧ w'.cell? ⟨wr.heap.size, 1, none⟩ = some (.int .i64 ck) ∧ w'.cell? ⟨wr.heap.size, 2, none⟩ = some (.bool cm) ∧ Below W.heap.size W w')
            (first
              | (exact s_col (blk_alloc HE6.out _) (blk_alloc HS6.out _) HCO.out hBd)
              | (go_split_ands; exact s_col (blk_app (by decide) (by assumption) hT4) (blk_app (by decide) (by assumption) hT4) (blk_app (by decide) (by assumption) hT4) (Below.trans (by assumption) hb4))
              | (go_split_ands; exact s_col (blk_below (by assumption) hb3) (blk_below (by assumption) hb3) (blk_below (by assumption) hb3) (below_step (by assumption) hb3))
              | (go_split_ands; exact s_col (blk_app (by decide) (by assumption) hT2) (blk_app (by decide) (by assumption) hT2) (blk_app (by decide) (by assumption) hT2) (Below.trans (by assumption) hb2))
              | (go_split_ands; exact s_col (blk_below (by assumption) hb1) (blk_below (by assumption) hb1) (blk_below (by assumption) hb1) (below_step (by assumption) hb1))
              | (go_split_ands; exact s_col (blk_alloc (by assumption) _) (blk_alloc (by assumption) _) (blk_alloc (by assumption) _) (Below.alloc (by assumption) (Below.size (by assumption)) _)))
            (first
              | (go_at_call 88; refine (HNC.out _).mono ?_; rintro e4 wa ⟨va, rfl, hr1, hb1⟩; obtain ⟨p1, c1, rfl⟩ := row_shape hr1)
              | (go_at_call 90; refine (HBT.out _).mono ?_; rintro e6 wd ⟨rfl, hb3⟩)
              | (have hq := row_alloc (row_below hr2 hb3) (.cells #[.int .u8 ck, .int .u8 (bitI cm)] 5); have hc := C_two wd ck (bitI cm); refine step_app (by rfl) _ _ (by rfl) (by rfl) (by rfl) hq (by rfl) hc ?_ ?_ ?_; rotate_left 2; intro ve we hr4 hb4 hT4; rotate_left 1; (simp only [List.length_append, List.length_cons, List.length_nil]; omega); (exact le_alloc (Nat.le_trans hbs hb3.size) _))
              | (have hq := row_below HOD.out hb1; have hc := (row_C hr1 (by omega)).2.2; have hbs0 := Nat.le_trans hBd.size hb1.size; refine step_app (by rfl) _ _ (by rfl) (by rfl) (by rfl) hq (by rfl) hc ?_ ?_ ?_; rotate_left 2; intro vb wb hr2 hb2 hT2; have hbs := Nat.le_trans hbs0 hb2.size; rotate_left 1; (omega); (exact hbs0)))
          rename_i hH
          have hBn := hH.2.2.2.2.2.2
          have hrn : Row we W.heap.size ve (headB e ++ colsB (e.cs.take (j + 1))) := by
            rw [HTK.out, colsB_snoc, HCD.out, ← List.append_assoc, ← List.append_assoc, HL6.out]
            exact hr4
          obtain ⟨pe, ce, rfl⟩ := row_shape hrn
          have HREL := Lib.hid (show SbR e (some ⟨qb, qo, none⟩) e.cs.length cv W (.slice pe _ ce) (.int .i64 ((j + 1 : Nat) : Int)) we from
            ⟨j + 1, _, _, _, by omega, rfl, rfl, hrn, hH.1, hH.2.1, hBn⟩)
          generalize (headB e ++ colsB (e.cs.take (j + 1))).length = M8 at HREL
          clear hH hBn hrn hr4 hb4 hT4 hr2 hb2 hT2 hr1 hb1 hb3
          go_wp2_with fail
          exact ⟨HREL.out, by simp [intOf]; omega⟩
        · obtain rfl : j = e.cs.length := by omega
          rw [List.take_length] at hrow
          have hLl : (headB e ++ colsB e.cs).length ≤ 83 := by
            have := HHL.out
            have h2 := colsB_len e.cs (fun c hc => (HCS.out c hc).1)
            rw [List.length_append]; omega
          have HE7 := Lib.hid he
          have HSL := Lib.hid (slb_row hrow (by omega))
          have HN := Lib.hid (nums_row (.slice A n c) (headB e ++ colsB e.cs) (numsOf e) (W.heap.size + 1) 0 7 wr.drew (slb_below HSL.out (below_drew (Below.refl _ _))) (by omega) (ints_drew (ints_of_sev hsv)) (by show 0 < 7; omega) (by show 7 ≤ 7; omega) (by show 7 ≤ 7; omega))
          rw [show (numsOf e).length = 7 from rfl] at HN
          have HBT := Lib.hid (fun w => biti_val (!e.bn) w)
          have HLL := Lib.hid (show (headB e ++ colsB e.cs ++ numF (numsOf e)).length ≤ 139 by rw [List.length_append, numF_len, show (numsOf e).length = 7 from rfl]; omega)
          have y11 : wr.cell? ⟨W.heap.size, 11, none⟩ = some (.bool e.bn) := blk_cell HE7.out 11 _ rfl
          clear hrow he hsv
          go_wp2_with fail
          go_region_held3 (fun w' => w'.cell? ⟨W.heap.size, 11, none⟩ = some (.bool e.bn) ∧ Below wr.heap.size wr w')
            (first
              | (go_keep; done)
              | ((repeat' apply And.intro) <;> first | (rw [World.cell?_drew]; assumption) | (exact below_drew (Below.refl _ _)))
              | (go_split_ands; (repeat' apply And.intro) <;> first | (exact cell_base hb2 (blk_lt HE7.out) (by assumption)) | (exact Below.trans (by assumption) hb2))
              | (go_split_ands; (repeat' apply And.intro) <;> first | (exact cell_later hb3 (by assumption)) | (exact below_below (by assumption) hb3 (Below.size (by assumption))))
              | (go_split_ands; (repeat' apply And.intro) <;> first | (exact cell_later hb1 (by assumption)) | (exact below_below (by assumption) hb1 (Below.size (by assumption))))
              | (go_split_ands; (repeat' apply And.intro) <;> first | (exact cell_later ((Below.refl _ _).alloc (Nat.le_refl _) _) (by assumption)) | (exact Below.alloc (by assumption) (Below.size (by assumption)) _)))
            (first
              | (go_at_call 89; refine HN.out.mono ?_; rintro e4 wa ⟨va, rfl, hr1, hb1⟩)
              | (go_at_call 90; refine (HBT.out _).mono ?_; rintro e6 wd ⟨rfl, hb3⟩)
              | (have hq := row_alloc (row_below hr1 hb3) (.cells #[.int .u8 (bitI (!e.bn))] 5); have hc := C_one wd (bitI (!e.bn)); have hLL := HLL.out; refine step_app (by rfl) _ _ (by rfl) (by rfl) (by rfl) hq (by rfl) hc ?_ ?_ ?_; rotate_left 2; intro vb wb hr2 hb2 hT2; rotate_left 1; (simp only [List.length_cons, List.length_nil]; omega); (exact le_alloc (Nat.le_trans hb1.size hb3.size) _)))
          rename_i hH
          have HE8 := Lib.hid (blk_below HE7.out hH.2)
          have HB8 := Lib.hid (below_below hB hH.2 hB.size)
          have HR8 := Lib.hid (row_lower hr2 hB.size)
          have hlen8 : (headB e ++ colsB e.cs ++ numF (numsOf e) ++ [bitI (!e.bn)]).length ≤ 140 := by have := HLL.out; rw [List.length_append]; simp only [List.length_cons, List.length_nil]; omega
          have k11 : wb.cell? ⟨W.heap.size, 11, none⟩ = some (.bool e.bn) := blk_cell HE8.out 11 _ rfl
          have k12 : wb.cell? ⟨W.heap.size, 12, none⟩ = some (.int .i64 e.lx) := blk_cell HE8.out 12 _ rfl
          have k13 : wb.cell? ⟨W.heap.size, 13, none⟩ = some (.int .i64 e.ly) := blk_cell HE8.out 13 _ rfl
          have k14 : wb.cell? ⟨W.heap.size, 14, none⟩ = some (.int .i64 e.hx) := blk_cell HE8.out 14 _ rfl
          have k15 : wb.cell? ⟨W.heap.size, 15, none⟩ = some (.int .i64 e.hy) := blk_cell HE8.out 15 _ rfl
          have HBD := Lib.hid (show headB e ++ colsB e.cs ++ numF (numsOf e) ++ [bitI (!e.bn)] ++ (if e.bn then [] else numB e.lx ++ (numB e.hx ++ (numB e.ly ++ numB e.hy))) = Sb.body e by rw [← body_eq]; cases e.bn <;> rfl)
          clear hr2 hb2 hT2 hr1 hb1 hb3 hH y11
          obtain ⟨p8, c8, hv8⟩ := row_shape HR8.out
          generalize (headB e ++ colsB e.cs ++ numF (numsOf e) ++ [bitI (!e.bn)]).length = M8 at hv8
          subst hv8
          go_wp2_with fail
          refine (HXB.out _).mono ?_
          rintro e9 w9 ⟨v9, rfl, hr9, hb9⟩
          obtain ⟨p9, c9, rfl⟩ := row_shape hr9
          have HC9 := Lib.hid (row_C hr9 (by omega)).2.2
          have HR9 := Lib.hid (row_below HR8.out hb9)
          have HB9 := Lib.hid (below_below HB8.out hb9 HB8.out.size)
          generalize (if e.bn then [] else numB e.lx ++ (numB e.hx ++ (numB e.ly ++ numB e.hy)) : List Int) = LX at HC9 HBD hxl
          generalize hMX : LX.length = MX at HC9
          clear hr9 hb9 k11 k12 k13 k14 k15
          dsimp only
          go_wp2_with (at_builtin; refine wpList_app (by rfl) _ _ (by rfl) (by rfl) (by rfl) HR9.out (by rfl) HC9.out (by omega) HB9.out.size ?_)
          intro v10 w10 hr10 hb10 _
          have HR10 := Lib.hid hr10
          have HB10 := Lib.hid (HB9.out.trans hb10)
          clear hr10 hb10
          go_wp2_with fail
          go_ret
          exact ⟨_, rfl, by rw [HBO.out, ← HBD.out]; have h := HR10.out; simp only [List.append_assoc, List.cons_append, List.nil_append] at h ⊢; exact h, HB10.out⟩
theorem sbytes_row (e : Ent) (v : Value) (W : World) (hf : EntFits e) (hv : ColsV W v e.cs) : Calls Tryd.prog 40 #[entV e v] W (RetRow (Sb.entB okE e) W) := by
  cases h : okE e with
  | true => exact sbytes_ok e v W hf hv h
  | false => exact sbytes_bad e v W hf hv h
end Go.Proofs.YtcjidlgmbjebjaaDoor
