/- A part of the proof of SchemaBack. -/
import Derived.Test.YtcjidlgmbjebjaaDoorSbr
import Derived.Test.YtcjidlgmbjebjaaDoorSbt
import Derived.Test.YtcjidlgmbjebjaaDoorSbi
import Derived.Test.YtcjidlgmbjebjaaDoorSbp
set_option linter.unusedVariables false
set_option linter.unusedSimpArgs false
set_option maxRecDepth 100000
namespace Go.Proofs.YtcjidlgmbjebjaaDoor
open Go Go.RowKit Go.Proofs.YtcjidlgmbjebjaaDoorW.PrintWords
theorem row_made (w : World) : Row (w.alloc (.cells #[] 5)) w.heap.size (.slice (some ⟨w.heap.size, 0, none⟩) 0 0) [] :=
  ⟨rfl, .inr ⟨w.heap.size, 0, #[], rfl, Nat.le_refl _, hp_new _ _ _ rfl, Nat.le_refl _, Nat.zero_le _, rfl, rfl⟩⟩
theorem slb_take {w : World} {A : Option Addr} {m c : Nat} {l : List Int} (h : SlB w (.slice A m c) l) (k : Nat) (hk : k ≤ l.length) : SlB w (.slice A k c) (l.take k) := by
  obtain ⟨A', c', e, h1, h2, h3, h4⟩ := h
  injection e with e1 e2 e3
  subst e1 e3
  have hl : (l.take k).length = k := by rw [List.length_take]; omega
  refine ⟨A, c, by rw [hl], by omega, rfl, by omega, fun hp => ?_⟩
  obtain ⟨ad, ha, hc⟩ := h4 (by omega)
  exact ⟨ad, ha, fun j x hx => hc j x (by rw [List.getElem?_take] at hx; (split at hx <;> first | exact hx | cases hx))⟩
/-- What stands while SchemaBack's last region goes. -/
structure SB (W : World) (b1 b2 : Nat) (e : Ent) (v1 v3 : Value) (w : World) : Prop where
  a : BlkAt w b1 (entL e v1) 67
  b : BlkAt w b2 (entL e v3) 67
  h1 : ColsV w v1 e.cs
  h3 : ColsV w v3 e.cs
  bel : Below W.heap.size W w
theorem SB.step {W : World} {b1 b2 : Nat} {e : Ent} {v1 v3 : Value} {w w' : World} (h : SB W b1 b2 e v1 v3 w) (hb : Below w.heap.size w w') : SB W b1 b2 e v1 v3 w' :=
  ⟨blk_below h.a hb, blk_below h.b hb, colsV_stays h.h1 hb, colsV_stays h.h3 hb, below_step h.bel hb⟩
theorem eq61 (x0 x1 x2 : Int) (w : World) : (Op.equalIn 10000 61 (.agg #[.int .i64 x0, .int .i64 x1, .int .i64 x2]) (.agg #[.int .i64 x0, .int .i64 x1, .int .i64 x2])).run Tryd.prog w = .ok true w := by
  refine eqA_of Tryd.underlying61 (by kernel_rfl) ?_
  simp [Op.eqFields, go_sem]
set_option maxHeartbeats 16000000 in
theorem back22_walk (e : Ent) (v : Value) (n : Int) (W : World) (z1 : e.nm.size ≤ 9223372036854775807) (l1 : e.cs.length ≤ 9223372036854775807)
    (hcs : ∀ c ∈ e.cs, c.1.size ≤ 9223372036854775807) (hr : Sb.Rng e) (hn0 : 0 ≤ n) (hn1 : n < 18446744073709551616) (hv : ColsV W v e.cs) (ht : TypesAt W) (hf : FormsAt W) (hpw : PowIs W) :
    Calls Tryd.prog 8 #[entV e v, .int .u64 n] W (RetBool true W) := by
  obtain ⟨p1, q1, c1, rfl⟩ := colsV_shape hv
  have HV := Lib.hid hv; clear hv
  have HL := Lib.hid (fun (w' : World) (h : Below W.heap.size W w') => lives_val w' (types_stays ht h) (forms_stays hf h) (pow_stays hpw h))
  have hfit : EntFits e := ⟨z1, hcs⟩
  clear hcs
  have HA := Lib.hid (fun (w' : World) (h : Below W.heap.size W w') => light_val e.nm e.kd e.srs _ e.cs w' z1 l1 (colsV_stays HV.out h))
  clear ht hf hpw
  obtain ⟨lb, hlb⟩ : ∃ lb, Sb.entB okE e = lb := ⟨_, rfl⟩
  have hl8 : lb.length ≤ 1000 := by have := entB_len e; rw [hlb] at this; exact this
  have hbb : Byt lb := by rw [← hlb]; exact entB_byt e
  have HB40 := Lib.hid (fun w h => sbytes_rowE e (.slice p1 q1 c1) lb hlb hfit w h)
  have HB41 := Lib.hid (fun v w h => rsbytes_rowE e v lb hlb hfit w h)
  have HKEY := Lib.hid (show lb ≠ [] → (presE lb = e ∧ presN lb = 0) ∧ (∀ k, k < lb.length → presE (lb.take k) = zeroE ∧ presN (lb.take k) = 9) ∧ presE (lb ++ [0]) = zeroE ∧ presN (lb ++ [0]) = 9 from by
    intro hne
    have hok : okE e = true := Sb.ok_of_ne (by rw [hlb]; exact hne)
    have a1 := Sb.back okE_bx hr hok (by rw [hlb]; exact hbb)
    have a2 := fun k hk => Sb.cut okE_bx hr k (by rw [hlb]; exact hk) (by rw [hlb]; exact hbb)
    have a3 := Sb.more okE_bx hr (by rw [hlb]; exact hne) (by rw [hlb]; exact hbb)
    rw [hlb] at a1 a3
    simp only [hlb] at a2
    refine ⟨⟨?_, ?_⟩, fun k hk => ⟨?_, ?_⟩, ?_, ?_⟩
    · unfold presE; rw [a1]
    · unfold presN; rw [a1]
    · unfold presE; rw [a2 k hk]
    · unfold presN; rw [a2 k hk]
    · unfold presE; rw [a3]
    · unfold presN; rw [a3])
  clear hlb
  unfold schV at HA
  unfold entV entL
  go_enter Tryd.func8, Tryd.ntmps8
  go_wp2_with fail
  refine (HA.out _ (by go_grown)).mono ?_
  rintro _ w1 ⟨b1, rfl, hb1, hbl⟩
  have hk1 : BlkAt w1 W.heap.size (entL e (.slice p1 q1 c1)) 67 := blk_below (show BlkAt (World.alloc W _) W.heap.size (entL e (.slice p1 q1 c1)) 67 from hp_new _ _ _ rfl) hbl
  have hB1 := below_step (show Below W.heap.size W _ from by go_grown) hbl
  clear hbl
  cases b1 with
  | false =>
    clear hb1
    dsimp only
    go_wp2_with fail
    refine (HL.out _ hB1).mono ?_
    rintro _ w2 ⟨rfl, hbl⟩
    have hB2 := below_step hB1 hbl
    clear hbl
    dsimp only
    go_wp2_with fail
    go_ret
    exact ⟨rfl, hB2⟩
  | true =>
  have hl1 := hb1 rfl
  clear hb1
  have HE1 := Lib.hid (entry_ent e (.slice p1 q1 c1) hl1)
  unfold entV at HB40
  unfold entL at HB40
  have x0 : World.cell? w1 ⟨W.heap.size, 0, none⟩ = some (.string e.nm) := blk_cell hk1 0 _ rfl
  have x1 : World.cell? w1 ⟨W.heap.size, 1, none⟩ = some (.int .i64 e.kd) := blk_cell hk1 1 _ rfl
  have x2 : World.cell? w1 ⟨W.heap.size, 2, none⟩ = some (.int .i64 e.srs) := blk_cell hk1 2 _ rfl
  have x3 : World.cell? w1 ⟨W.heap.size, 3, none⟩ = some (.slice p1 q1 c1) := blk_cell hk1 3 _ rfl
  have x4 : World.cell? w1 ⟨W.heap.size, 4, none⟩ = some (.int .i64 e.id) := blk_cell hk1 4 _ rfl
  have x5 : World.cell? w1 ⟨W.heap.size, 5, none⟩ = some (.int .i64 e.tb) := blk_cell hk1 5 _ rfl
  have x6 : World.cell? w1 ⟨W.heap.size, 6, none⟩ = some (.int .i64 e.t0) := blk_cell hk1 6 _ rfl
  have x7 : World.cell? w1 ⟨W.heap.size, 7, none⟩ = some (.int .i64 e.t1) := blk_cell hk1 7 _ rfl
  have x8 : World.cell? w1 ⟨W.heap.size, 8, none⟩ = some (.int .i64 e.t2) := blk_cell hk1 8 _ rfl
  have x9 : World.cell? w1 ⟨W.heap.size, 9, none⟩ = some (.int .i64 e.ct) := blk_cell hk1 9 _ rfl
  have x10 : World.cell? w1 ⟨W.heap.size, 10, none⟩ = some (.int .i64 e.nx) := blk_cell hk1 10 _ rfl
  have x11 : World.cell? w1 ⟨W.heap.size, 11, none⟩ = some (.bool e.bn) := blk_cell hk1 11 _ rfl
  have x12 : World.cell? w1 ⟨W.heap.size, 12, none⟩ = some (.int .i64 e.lx) := blk_cell hk1 12 _ rfl
  have x13 : World.cell? w1 ⟨W.heap.size, 13, none⟩ = some (.int .i64 e.ly) := blk_cell hk1 13 _ rfl
  have x14 : World.cell? w1 ⟨W.heap.size, 14, none⟩ = some (.int .i64 e.hx) := blk_cell hk1 14 _ rfl
  have x15 : World.cell? w1 ⟨W.heap.size, 15, none⟩ = some (.int .i64 e.hy) := blk_cell hk1 15 _ rfl
  dsimp only
  go_wp2_with fail
  refine (HB40.out _ (colsV_stays HV.out hB1)).mono ?_
  rintro _ w2 ⟨v5, rfl, hr5, hbl⟩
  have hk1 := blk_below hk1 hbl
  have hB2 := below_step hB1 hbl
  have h5 := slb_row hr5 (by omega)
  obtain ⟨A5, c5, rfl⟩ := row_shape hr5
  clear hbl HB40 HA x0 x1 x2 x3 x4 x5 x6 x7 x8 x9 x10 x11 x12 x13 x14 x15
  generalize (Value.agg #[.string e.nm, .int .i64 e.kd, .int .i64 e.srs, .slice p1 q1 c1, .int .i64 e.id, .int .i64 e.tb, .int .i64 e.t0, .int .i64 e.t1, .int .i64 e.t2, .int .i64 e.ct, .int .i64 e.nx, .bool e.bn, .int .i64 e.lx, .int .i64 e.ly, .int .i64 e.hx, .int .i64 e.hy]) = V2
  by_cases hnil : lb = []
  · subst hnil
    have x0 : World.cell? w2 ⟨W.heap.size, 0, none⟩ = some (.string e.nm) := blk_cell hk1 0 _ rfl
    have x1 : World.cell? w2 ⟨W.heap.size, 1, none⟩ = some (.int .i64 e.kd) := blk_cell hk1 1 _ rfl
    have x2 : World.cell? w2 ⟨W.heap.size, 2, none⟩ = some (.int .i64 e.srs) := blk_cell hk1 2 _ rfl
    have x3 : World.cell? w2 ⟨W.heap.size, 3, none⟩ = some (.slice p1 q1 c1) := blk_cell hk1 3 _ rfl
    have x4 : World.cell? w2 ⟨W.heap.size, 4, none⟩ = some (.int .i64 e.id) := blk_cell hk1 4 _ rfl
    have x5 : World.cell? w2 ⟨W.heap.size, 5, none⟩ = some (.int .i64 e.tb) := blk_cell hk1 5 _ rfl
    have x6 : World.cell? w2 ⟨W.heap.size, 6, none⟩ = some (.int .i64 e.t0) := blk_cell hk1 6 _ rfl
    have x7 : World.cell? w2 ⟨W.heap.size, 7, none⟩ = some (.int .i64 e.t1) := blk_cell hk1 7 _ rfl
    have x8 : World.cell? w2 ⟨W.heap.size, 8, none⟩ = some (.int .i64 e.t2) := blk_cell hk1 8 _ rfl
    have x9 : World.cell? w2 ⟨W.heap.size, 9, none⟩ = some (.int .i64 e.ct) := blk_cell hk1 9 _ rfl
    have x10 : World.cell? w2 ⟨W.heap.size, 10, none⟩ = some (.int .i64 e.nx) := blk_cell hk1 10 _ rfl
    have x11 : World.cell? w2 ⟨W.heap.size, 11, none⟩ = some (.bool e.bn) := blk_cell hk1 11 _ rfl
    have x12 : World.cell? w2 ⟨W.heap.size, 12, none⟩ = some (.int .i64 e.lx) := blk_cell hk1 12 _ rfl
    have x13 : World.cell? w2 ⟨W.heap.size, 13, none⟩ = some (.int .i64 e.ly) := blk_cell hk1 13 _ rfl
    have x14 : World.cell? w2 ⟨W.heap.size, 14, none⟩ = some (.int .i64 e.hx) := blk_cell hk1 14 _ rfl
    have x15 : World.cell? w2 ⟨W.heap.size, 15, none⟩ = some (.int .i64 e.hy) := blk_cell hk1 15 _ rfl
    have HE1' := HE1.out
    unfold entV entL at HE1'
    have HE := Lib.hid HE1'
    clear HE1' HE1 HKEY
    dsimp only [List.length_nil] at *
    go_wp2_with fail
    refine (HE.out _ (colsV_stays HV.out hB2)).mono ?_
    rintro _ w3 ⟨v6, rfl, hC6, hbl⟩
    have hB3 := below_step hB2 hbl
    clear hbl x0 x1 x2 x3 x4 x5 x6 x7 x8 x9 x10 x11 x12 x13 x14 x15
    obtain ⟨p6, q6, c6, rfl⟩ := colsV_shape hC6
    have HBB := Lib.hid (HB41.out _ _ hC6)
    unfold entV entL at HBB
    dsimp only
    go_wp2_with fail
    refine HBB.out.mono ?_
    rintro _ w4 ⟨v7, rfl, hr7, hbl⟩
    have hB4 := below_step hB3 hbl
    obtain ⟨A7, c7, rfl⟩ := row_shape hr7
    clear hbl
    dsimp only [List.length_nil]
    go_wp2_with fail
    refine (HL.out _ hB4).mono ?_
    rintro _ w5 ⟨rfl, hbl⟩
    have hB5 := below_step hB4 hbl
    clear hbl
    dsimp only
    go_wp2_with fail
    go_ret
    exact ⟨rfl, hB5⟩
  · obtain ⟨⟨K1, K2⟩, K3, K4, K5⟩ := HKEY.out hnil
    clear HKEY HB41
    have hpos : 0 < lb.length := by cases lb with | nil => exact absurd rfl hnil | cons a l => simp
    have hM : ∃ M, lb.length = M := ⟨_, rfl⟩
    obtain ⟨M, hM⟩ := hM
    have HP0 := Lib.hid (fun (w' : World) (h : SlB w' (.slice A5 lb.length c5) lb) => (parse_val (.slice A5 lb.length c5) lb hbb (by omega) w' h).mono fun _ _ h => pe_px h)
    unfold RetPx at HP0
    rw [K1, K2] at HP0
    unfold entV entL at HP0
    rw [hM] at HP0 hr5 h5 hpos ⊢
    have hne : ((M : Int) == 0) = false := by rw [beq_eq_false_iff_ne]; omega
    go_wp2_with fail
    refine (HP0.out _ h5).mono ?_
    rintro _ w3 ⟨v3, rfl, hC3, hbl⟩
    obtain ⟨p3, q3, c3, rfl⟩ := colsV_shape hC3
    have hk1 := blk_below hk1 hbl
    have h5 := slb_below h5 hbl
    have hr5 := row_below hr5 hbl
    have hB3 := below_step hB2 hbl
    clear hbl HP0
    dsimp only
    go_wp2_with (refine wpList_st16 (by rfl) _ _ 67 (by rfl) (by rfl) (by rfl) (hp_new _ _ _ rfl) (by exact size67) (by rfl) (by simp [Value.oneCell']) ((Below.refl w3.heap.size w3).alloc (Nat.le_refl _) _) (Nat.le_refl _) ?_)
    intro w4 hk2 hbl _
    have hk1 := blk_below hk1 hbl
    have h5 := slb_below h5 hbl
    have hr5 := row_below hr5 hbl
    have hC3 := colsV_stays hC3 hbl
    have hB4 := below_step hB3 hbl
    clear hbl
    generalize (Value.agg #[.string e.nm, .int .i64 e.kd, .int .i64 e.srs, .slice p3 q3 c3, .int .i64 e.id, .int .i64 e.tb, .int .i64 e.t0, .int .i64 e.t1, .int .i64 e.t2, .int .i64 e.ct, .int .i64 e.nx, .bool e.bn, .int .i64 e.lx, .int .i64 e.ly, .int .i64 e.hx, .int .i64 e.hy]) = V3
    have hk2 : BlkAt w4 w3.heap.size (entL e (.slice p3 q3 c3)) 67 := hk2
    generalize w3.heap.size = B2 at hk2 ⊢
    have hmod : ∃ k : Nat, n % (M : Int) = k ∧ k < M := ⟨(n % (M : Int)).toNat, by have := Int.emod_nonneg n (show (M : Int) ≠ 0 by omega); omega, by have := Int.emod_lt_of_pos n (show (0 : Int) < M by omega); have := Int.emod_nonneg n (show (M : Int) ≠ 0 by omega); omega⟩
    obtain ⟨k, hk, hkM⟩ := hmod
    have hwk : wrap64 (k : Int) = k := by unfold wrap64; omega
    have hM5 : M ≤ c5 := by obtain ⟨A', c', e', h1, _⟩ := h5; injection e' with _ _ e3; omega
    have hkc : ¬ (c5 : Int) < k := by omega
    have hT := slb_take h5 k (by omega)
    obtain ⟨K3a, K3b⟩ := K3 k (by omega)
    have HP1 := Lib.hid (fun (w' : World) (h : SlB w' (.slice A5 k c5) (lb.take k)) => (parse_val (.slice A5 k c5) (lb.take k) (fun x hx => hbb x (List.mem_of_mem_take hx)) (by rw [List.length_take]; omega) w' h).mono fun _ _ h => pe_px h)
    unfold RetPx at HP1
    rw [K3a, K3b] at HP1
    unfold entV entL zeroE Sb.Ent.zero at HP1
    dsimp only at HP1
    clear K3 K3a K3b
    go_wp2_with fail
    refine (HP1.out _ hT).mono ?_
    rintro _ w5 ⟨v4, rfl, hC4, hbl⟩
    obtain ⟨p4, q4, c4, rfl⟩ := colsV_shape hC4
    have hk1 := blk_below hk1 hbl
    have hk2 := blk_below hk2 hbl
    have h5 := slb_below h5 hbl
    have hr5 := row_below hr5 hbl
    have hC3 := colsV_stays hC3 hbl
    have hB5 := below_step hB4 hbl
    clear hbl HP1 hT hC4 hk hwk hkc
    dsimp only
    go_wp2_with (refine wpList_st16 (by rfl) _ _ 67 (by rfl) (by rfl) (by rfl) (hp_new _ _ _ rfl) (by exact size67) (by rfl) (by simp [Value.oneCell']) ((Below.refl w5.heap.size w5).alloc (Nat.le_refl _) _) (Nat.le_refl _) ?_)
    intro w6 _ hbl _
    have hk1 := blk_below hk1 hbl
    have hk2 := blk_below hk2 hbl
    have h5 := slb_below h5 hbl
    have hr5 := row_below hr5 hbl
    have hC3 := colsV_stays hC3 hbl
    have hB6 := below_step hB5 hbl
    clear hbl
    generalize (Value.agg #[.string ⟨#[]⟩, .int .i64 0, .int .i64 0, .slice p4 q4 c4, .int .i64 0, .int .i64 0, .int .i64 0, .int .i64 0, .int .i64 0, .int .i64 0, .int .i64 0, .bool false, .int .i64 0, .int .i64 0, .int .i64 0, .int .i64 0]) = V4
    have h16 := hk1
    have h26 := hk2
    have h36 := hC3
    have hC6 : ∀ o, Kd.C (Kd.int .u8) (w6.alloc o) A5 M lb := fun o => by have h := (row_C (row_alloc hr5 o) (by omega)).2.2; rw [hM] at h; exact h
    have hln : ([] : List Int).length + lb.length ≤ 140737488355000 := by rw [List.length_nil]; omega
    have hle : w6.heap.size ≤ (w6.alloc (.cells #[] 5)).heap.size := by simp
    go_wp2_with (at_builtin; refine wpList_app (by rfl) _ _ (by rfl) (by rfl) (by rfl) (row_made w6) (by rfl) (hC6 _) hln hle ?_)
    intro v7 w7 hr7 hbl _
    have hbl := ((Below.refl w6.heap.size w6).alloc (Nat.le_refl _) (.cells #[] 5)).trans hbl
    have hk1 := blk_below hk1 hbl
    have hk2 := blk_below hk2 hbl
    have hC3 := colsV_stays hC3 hbl
    have hB7 := below_step hB6 hbl
    have hs7 := hbl.size
    clear hC6 hln hle
    obtain ⟨A7, c7, rfl⟩ := row_shape hr7
    have hln : lb.length + ([0] : List Int).length ≤ 140737488355000 := by simp; omega
    have hle : w6.heap.size ≤ (w7.alloc (.cells #[.int .u8 0] 5)).heap.size := by simp; omega
    have hr7' := row_alloc hr7 (.cells #[.int .u8 0] 5)
    rw [hM] at hr7' ⊢
    go_wp2_with (at_builtin; refine wpList_app (by rfl) _ _ (by rfl) (by rfl) (by rfl) hr7' (by rfl) (C_one _ _) hln hle ?_)
    intro v8 w8 hr8 hbl2 _
    have hBw : Below w6.heap.size w6 w8 := hbl.trans (((Below.refl w6.heap.size w7).alloc (by omega) _).trans hbl2)
    have hk1 := blk_below h16 hBw
    have hk2 := blk_below h26 hBw
    have hC3 := colsV_stays h36 hBw
    have hB8 := below_step hB6 hBw
    have h8 := slb_row hr8 (by simp; omega)
    have hlen9 : (lb ++ [(0 : Int)]).length = M + 1 := by rw [List.length_append, hM]; rfl
    obtain ⟨A8, c8, rfl⟩ := row_shape hr8
    rw [hlen9] at h8 ⊢
    clear hbl hbl2 hBw hr7 hr7' hr8 hln hle hs7
    have HP2 := Lib.hid (parse_val (.slice A8 (M + 1) c8) (lb ++ [0]) (fun x hx => by
      rcases List.mem_append.1 hx with hx | hx
      · exact hbb x hx
      · simp at hx; subst hx; decide) (by omega) w8 h8 |>.mono fun _ _ h => pe_px h)
    unfold RetPx at HP2
    rw [K4, K5] at HP2
    unfold entV entL zeroE Sb.Ent.zero at HP2
    dsimp only at HP2
    go_wp2_with fail
    refine HP2.out.mono ?_
    rintro _ w9 ⟨v9, rfl, hC9, hbl⟩
    obtain ⟨p9, q9, c9, rfl⟩ := colsV_shape hC9
    have hk1 := blk_below hk1 hbl
    have hk2 := blk_below hk2 hbl
    have hC3 := colsV_stays hC3 hbl
    have hB9 := below_step hB8 hbl
    clear hbl HP2 h8 hC9
    dsimp only
    go_wp2_with (refine wpList_st16 (by rfl) _ _ 67 (by rfl) (by rfl) (by rfl) (hp_new _ _ _ rfl) (by exact size67) (by rfl) (by simp [Value.oneCell']) ((Below.refl w9.heap.size w9).alloc (Nat.le_refl _) _) (Nat.le_refl _) ?_)
    intro w10 _ hbl _
    have hbd := below_drew hbl
    have hk1 := blk_below hk1 hbd
    have hk2 := blk_below hk2 hbd
    have hC3 := colsV_stays hC3 hbd
    have hB10 := below_step hB9 hbd
    clear hbl hbd
    have hC1 := colsV_stays HV.out hB10
    generalize (Value.agg #[.string ⟨#[]⟩, .int .i64 0, .int .i64 0, .slice p9 q9 c9, .int .i64 0, .int .i64 0, .int .i64 0, .int .i64 0, .int .i64 0, .int .i64 0, .int .i64 0, .bool false, .int .i64 0, .int .i64 0, .int .i64 0, .int .i64 0]) = V9
    go_wp2_with fail
    generalize (Value.agg #[.string e.nm, .int .i64 e.kd, .int .i64 e.srs, .slice p1 q1 c1]) = V1
    generalize w5.heap.size = B5
    generalize w9.heap.size = B9
    have hSB : SB W W.heap.size B2 e (.slice p1 q1 c1) (.slice p3 q3 c3) w10.drew := ⟨hk1, hk2, hC1, hC3, hB10⟩
    have HE2 := Lib.hid (entry_ent e (.slice p3 q3 c3) hl1)
    have HQ := Lib.hid (fun v v' w h1 h2 => requal_val e v v' w hl1 h1 h2)
    have h61 := eq61 e.t0 e.t1 e.t2
    clear hk1 hk2 hC1 hC3 hB10 hr5 h5 h16 h26 h36
    refine wp_region_held_drew (S := SB W W.heap.size B2 e (.slice p1 q1 c1) (.slice p3 q3 c3)) (by kernel_rfl) hSB (fun hH => ?_)
    refine wpAnyH_take (i := 0) (v := ?_) rfl (by kernel_rfl) (by kernel_rfl) (by kernel_rfl) (fun _ _ _ h => h) (Or.inl ⟨by rfl, ?_⟩) hH ?_
    rotate_left
    · intro w hSw
      go_simp
      try with_reducible rfl
    try simp only [Act.put, List.getElem_toArray, List.getElem_cons_zero, List.getElem_cons_succ, List.setIfInBounds_toArray, List.set_cons_zero, List.set_cons_succ]
    refine wpAnyH_take (i := 1) (v := ?_) rfl (by kernel_rfl) (by kernel_rfl) (by kernel_rfl) (fun _ _ _ h => h) (Or.inl ⟨by rfl, ?_⟩) hH ?_
    rotate_left
    · intro w hSw
      go_simp
      try with_reducible rfl
    try simp only [Act.put, List.getElem_toArray, List.getElem_cons_zero, List.getElem_cons_succ, List.setIfInBounds_toArray, List.set_cons_zero, List.set_cons_succ]
    refine wpAnyH_take (i := 2) (v := ?_) rfl (by kernel_rfl) (by kernel_rfl) (by kernel_rfl) (fun _ _ _ h => h) (Or.inl ⟨by rfl, ?_⟩) hH ?_
    rotate_left
    · intro w hSw
      go_simp
      try with_reducible rfl
    try simp only [Act.put, List.getElem_toArray, List.getElem_cons_zero, List.getElem_cons_succ, List.setIfInBounds_toArray, List.set_cons_zero, List.set_cons_succ]
    refine wpAnyH_take (i := 3) (v := entV e (.slice p3 q3 c3)) rfl (by kernel_rfl) (by kernel_rfl) (by kernel_rfl) (fun _ _ _ h => h) (yieldsIf_load_blk (by rfl) 67 _ rfl B2 67 rfl (entL e (.slice p3 q3 c3)) (fun w h => h.b) Tryd.underlying67 size67) hH ?_
    try simp only [Act.put, List.getElem_toArray, List.getElem_cons_zero, List.getElem_cons_succ, List.setIfInBounds_toArray, List.set_cons_zero, List.set_cons_succ]
    refine wpAnyH_take (i := 5) (v := entV e (.slice p1 q1 c1)) rfl (by kernel_rfl) (by kernel_rfl) (by kernel_rfl) (fun _ _ _ h => h) (yieldsIf_load_blk (by rfl) 67 _ rfl W.heap.size 67 rfl (entL e (.slice p1 q1 c1)) (fun w h => h.a) Tryd.underlying67 size67) hH ?_
    try simp only [Act.put, List.getElem_toArray, List.getElem_cons_zero, List.getElem_cons_succ, List.setIfInBounds_toArray, List.set_cons_zero, List.set_cons_succ]
    refine wpAnyH_ready (rs := [4]) (by kernel_rfl) (by simp) ?_
    refine AllReadyH.cons rfl (fun K hK => ?_) AllReadyH.nil
    go_simp
    go_wp2_with (go_at_call 42; (with_reducible refine Calls.mono (HE2.out _ hH.h3) ?_); rintro _ wx ⟨v11, rfl, hC11, hbx⟩)
    refine hK.out _ _ (hH.step hbx) (fun hH => ?_)
    clear hK K
    clear hbx
    try simp only [Act.put, List.getElem_toArray, List.getElem_cons_zero, List.getElem_cons_succ, List.setIfInBounds_toArray, List.set_cons_zero, List.set_cons_succ]
    refine wpAnyH_ready (rs := [6]) (by kernel_rfl) (by simp) ?_
    refine AllReadyH.cons rfl (fun K hK => ?_) AllReadyH.nil
    go_simp
    go_wp2_with (go_at_call 42; (with_reducible refine Calls.mono (HE1.out _ hH.h1) ?_); rintro _ wx ⟨v12, rfl, hC12, hbx⟩; have hC11 := colsV_stays hC11 hbx)
    refine hK.out _ _ (hH.step hbx) (fun hH => ?_)
    clear hK K
    clear hbx
    try simp only [Act.put, List.getElem_toArray, List.getElem_cons_zero, List.getElem_cons_succ, List.setIfInBounds_toArray, List.set_cons_zero, List.set_cons_succ]
    refine wpAnyH_ready (rs := [7]) (by kernel_rfl) (by simp) ?_
    refine AllReadyH.cons rfl (fun K hK => ?_) AllReadyH.nil
    go_simp
    go_wp2_with (go_at_call 43; (with_reducible refine Calls.mono (HQ.out _ _ _ hC11 hC12) ?_); rintro _ wx ⟨rfl, hbx⟩)
    refine hK.out _ _ (hH.step hbx) (fun hH => ?_)
    clear hK K
    clear hbx hC11 hC12
    try simp only [Act.put, List.getElem_toArray, List.getElem_cons_zero, List.getElem_cons_succ, List.setIfInBounds_toArray, List.set_cons_zero, List.set_cons_succ]
    refine wpAnyH_take (i := 8) (v := ?_) rfl (by kernel_rfl) (by kernel_rfl) (by kernel_rfl) (fun _ _ _ h => h) (Or.inl ⟨by rfl, ?_⟩) hH ?_
    rotate_left
    · intro w hSw
      go_simp
      try with_reducible rfl
    try simp only [Act.put, List.getElem_toArray, List.getElem_cons_zero, List.getElem_cons_succ, List.setIfInBounds_toArray, List.set_cons_zero, List.set_cons_succ]
    refine wpAnyH_take (i := 9) (v := ?_) rfl (by kernel_rfl) (by kernel_rfl) (by kernel_rfl) (fun _ _ _ h => h) (Or.inl ⟨by rfl, ?_⟩) hH ?_
    rotate_left
    · intro w hSw
      go_simp
      try with_reducible rfl
    try simp only [Act.put, List.getElem_toArray, List.getElem_cons_zero, List.getElem_cons_succ, List.setIfInBounds_toArray, List.set_cons_zero, List.set_cons_succ]
    refine wpAnyH_take (i := 10) (v := ?_) rfl (by kernel_rfl) (by kernel_rfl) (by kernel_rfl) (fun _ _ _ h => h) (Or.inl ⟨by rfl, ?_⟩) hH ?_
    rotate_left
    · intro w hSw
      go_simp
      try with_reducible rfl
    try simp only [Act.put, List.getElem_toArray, List.getElem_cons_zero, List.getElem_cons_succ, List.setIfInBounds_toArray, List.set_cons_zero, List.set_cons_succ]
    refine wpAnyH_take (i := 11) (v := ?_) rfl (by kernel_rfl) (by kernel_rfl) (by kernel_rfl) (fun _ _ _ h => h) (Or.inl ⟨by rfl, ?_⟩) hH ?_
    rotate_left
    · intro w hSw
      have k6 := blk_cell (hSw.b) 6 (.int .i64 e.t0) rfl
      have k7 := blk_cell (hSw.b) 7 (.int .i64 e.t1) rfl
      have k8 := blk_cell (hSw.b) 8 (.int .i64 e.t2) rfl
      go_simp
      try with_reducible rfl
    try simp only [Act.put, List.getElem_toArray, List.getElem_cons_zero, List.getElem_cons_succ, List.setIfInBounds_toArray, List.set_cons_zero, List.set_cons_succ]
    refine wpAnyH_take (i := 12) (v := ?_) rfl (by kernel_rfl) (by kernel_rfl) (by kernel_rfl) (fun _ _ _ h => h) (Or.inl ⟨by rfl, ?_⟩) hH ?_
    rotate_left
    · intro w hSw
      go_simp
      try with_reducible rfl
    try simp only [Act.put, List.getElem_toArray, List.getElem_cons_zero, List.getElem_cons_succ, List.setIfInBounds_toArray, List.set_cons_zero, List.set_cons_succ]
    refine wpAnyH_take (i := 13) (v := ?_) rfl (by kernel_rfl) (by kernel_rfl) (by kernel_rfl) (fun _ _ _ h => h) (Or.inl ⟨by rfl, ?_⟩) hH ?_
    rotate_left
    · intro w hSw
      go_simp
      try with_reducible rfl
    try simp only [Act.put, List.getElem_toArray, List.getElem_cons_zero, List.getElem_cons_succ, List.setIfInBounds_toArray, List.set_cons_zero, List.set_cons_succ]
    refine wpAnyH_take (i := 14) (v := ?_) rfl (by kernel_rfl) (by kernel_rfl) (by kernel_rfl) (fun _ _ _ h => h) (Or.inl ⟨by rfl, ?_⟩) hH ?_
    rotate_left
    · intro w hSw
      have k6 := blk_cell (hSw.a) 6 (.int .i64 e.t0) rfl
      have k7 := blk_cell (hSw.a) 7 (.int .i64 e.t1) rfl
      have k8 := blk_cell (hSw.a) 8 (.int .i64 e.t2) rfl
      go_simp
      try with_reducible rfl
    try simp only [Act.put, List.getElem_toArray, List.getElem_cons_zero, List.getElem_cons_succ, List.setIfInBounds_toArray, List.set_cons_zero, List.set_cons_succ]
    refine wpAnyH_take (i := 15) (v := ?_) rfl (by kernel_rfl) (by kernel_rfl) (by kernel_rfl) (fun _ _ _ h => h) (Or.inl ⟨by rfl, ?_⟩) hH ?_
    rotate_left
    · intro w hSw
      go_simp
      try with_reducible rfl
    try simp only [Act.put, List.getElem_toArray, List.getElem_cons_zero, List.getElem_cons_succ, List.setIfInBounds_toArray, List.set_cons_zero, List.set_cons_succ]
    refine wpAnyH_take (i := 16) (v := ?_) rfl (by kernel_rfl) (by kernel_rfl) (by kernel_rfl) (fun _ _ _ h => h) (Or.inl ⟨by rfl, ?_⟩) hH ?_
    rotate_left
    · intro w hSw
      go_simp
      try with_reducible rfl
    try simp only [Act.put, List.getElem_toArray, List.getElem_cons_zero, List.getElem_cons_succ, List.setIfInBounds_toArray, List.set_cons_zero, List.set_cons_succ]
    refine wpAnyH_take (i := 17) (v := ?_) rfl (by kernel_rfl) (by kernel_rfl) (by kernel_rfl) (fun _ _ _ h => h) (Or.inl ⟨by rfl, ?_⟩) hH ?_
    rotate_left
    · intro w hSw
      have k6 := blk_cell (hSw.a) 6 (.int .i64 e.t0) rfl
      have k7 := blk_cell (hSw.a) 7 (.int .i64 e.t1) rfl
      have k8 := blk_cell (hSw.a) 8 (.int .i64 e.t2) rfl
      go_simp
      try with_reducible rfl
    try simp only [Act.put, List.getElem_toArray, List.getElem_cons_zero, List.getElem_cons_succ, List.setIfInBounds_toArray, List.set_cons_zero, List.set_cons_succ]
    refine wpAnyH_take (i := 18) (v := ?_) rfl (by kernel_rfl) (by kernel_rfl) (by kernel_rfl) (fun _ _ _ h => h) (Or.inl ⟨by rfl, ?_⟩) hH ?_
    rotate_left
    · intro w hSw
      go_simp
      try with_reducible rfl
    try simp only [Act.put, List.getElem_toArray, List.getElem_cons_zero, List.getElem_cons_succ, List.setIfInBounds_toArray, List.set_cons_zero, List.set_cons_succ]
    refine wpAnyH_take (i := 19) (v := ?_) rfl (by kernel_rfl) (by kernel_rfl) (by kernel_rfl) (fun _ _ _ h => h) (Or.inl ⟨by rfl, ?_⟩) hH ?_
    rotate_left
    · intro w hSw
      go_simp
      try with_reducible rfl
    try simp only [Act.put, List.getElem_toArray, List.getElem_cons_zero, List.getElem_cons_succ, List.setIfInBounds_toArray, List.set_cons_zero, List.set_cons_succ]
    refine wpAnyH_take (i := 20) (v := ?_) rfl (by kernel_rfl) (by kernel_rfl) (by kernel_rfl) (fun _ _ _ h => h) (Or.inl ⟨by rfl, ?_⟩) hH ?_
    rotate_left
    · intro w hSw
      have k6 := blk_cell (hSw.a) 6 (.int .i64 e.t0) rfl
      have k7 := blk_cell (hSw.a) 7 (.int .i64 e.t1) rfl
      have k8 := blk_cell (hSw.a) 8 (.int .i64 e.t2) rfl
      go_simp
      try with_reducible rfl
    try simp only [Act.put, List.getElem_toArray, List.getElem_cons_zero, List.getElem_cons_succ, List.setIfInBounds_toArray, List.set_cons_zero, List.set_cons_succ]
    refine wpAnyH_take (i := 21) (v := ?_) rfl (by kernel_rfl) (by kernel_rfl) (by kernel_rfl) (fun _ _ _ h => h) (Or.inl ⟨by rfl, ?_⟩) hH ?_
    rotate_left
    · intro w hSw
      go_simp
      try with_reducible rfl
    try simp only [Act.put, List.getElem_toArray, List.getElem_cons_zero, List.getElem_cons_succ, List.setIfInBounds_toArray, List.set_cons_zero, List.set_cons_succ]
    refine wpAnyH_take (i := 22) (v := ?_) rfl (by kernel_rfl) (by kernel_rfl) (by kernel_rfl) (fun _ _ _ h => h) (Or.inl ⟨by rfl, ?_⟩) hH ?_
    rotate_left
    · intro w hSw
      go_simp
      try with_reducible rfl
    try simp only [Act.put, List.getElem_toArray, List.getElem_cons_zero, List.getElem_cons_succ, List.setIfInBounds_toArray, List.set_cons_zero, List.set_cons_succ]
    refine wpAnyH_take (i := 23) (v := ?_) rfl (by kernel_rfl) (by kernel_rfl) (by kernel_rfl) (fun _ _ _ h => h) (Or.inl ⟨by rfl, ?_⟩) hH ?_
    rotate_left
    · intro w hSw
      go_simp
      try with_reducible rfl
    try simp only [Act.put, List.getElem_toArray, List.getElem_cons_zero, List.getElem_cons_succ, List.setIfInBounds_toArray, List.set_cons_zero, List.set_cons_succ]
    refine wpAnyH_take (i := 24) (v := ?_) rfl (by kernel_rfl) (by kernel_rfl) (by kernel_rfl) (fun _ _ _ h => h) (Or.inl ⟨by rfl, ?_⟩) hH ?_
    rotate_left
    · intro w hSw
      go_simp
      try with_reducible rfl
    try simp only [Act.put, List.getElem_toArray, List.getElem_cons_zero, List.getElem_cons_succ, List.setIfInBounds_toArray, List.set_cons_zero, List.set_cons_succ]
    refine wpAnyH_take (i := 25) (v := ?_) rfl (by kernel_rfl) (by kernel_rfl) (by kernel_rfl) (fun _ _ _ h => h) (Or.inl ⟨by rfl, ?_⟩) hH ?_
    rotate_left
    · intro w hSw
      go_simp
      try with_reducible rfl
    try simp only [Act.put, List.getElem_toArray, List.getElem_cons_zero, List.getElem_cons_succ, List.setIfInBounds_toArray, List.set_cons_zero, List.set_cons_succ]
    refine wpAnyH_take (i := 26) (v := ?_) rfl (by kernel_rfl) (by kernel_rfl) (by kernel_rfl) (fun _ _ _ h => h) (Or.inl ⟨by rfl, ?_⟩) hH ?_
    rotate_left
    · intro w hSw
      go_simp
      try with_reducible rfl
    try simp only [Act.put, List.getElem_toArray, List.getElem_cons_zero, List.getElem_cons_succ, List.setIfInBounds_toArray, List.set_cons_zero, List.set_cons_succ]
    refine wpAnyH_take (i := 27) (v := ?_) rfl (by kernel_rfl) (by kernel_rfl) (by kernel_rfl) (fun _ _ _ h => h) (Or.inl ⟨by rfl, ?_⟩) hH ?_
    rotate_left
    · intro w hSw
      go_simp
      try with_reducible rfl
    try simp only [Act.put, List.getElem_toArray, List.getElem_cons_zero, List.getElem_cons_succ, List.setIfInBounds_toArray, List.set_cons_zero, List.set_cons_succ]
    refine wpAnyH_take (i := 28) (v := ?_) rfl (by kernel_rfl) (by kernel_rfl) (by kernel_rfl) (fun _ _ _ h => h) (Or.inl ⟨by rfl, ?_⟩) hH ?_
    rotate_left
    · intro w hSw
      go_simp
      try with_reducible rfl
    try simp only [Act.put, List.getElem_toArray, List.getElem_cons_zero, List.getElem_cons_succ, List.setIfInBounds_toArray, List.set_cons_zero, List.set_cons_succ]
    refine wpAnyH_take (i := 29) (v := ?_) rfl (by kernel_rfl) (by kernel_rfl) (by kernel_rfl) (fun _ _ _ h => h) (Or.inl ⟨by rfl, ?_⟩) hH ?_
    rotate_left
    · intro w hSw
      go_simp
      try with_reducible rfl
    try simp only [Act.put, List.getElem_toArray, List.getElem_cons_zero, List.getElem_cons_succ, List.setIfInBounds_toArray, List.set_cons_zero, List.set_cons_succ]
    refine wpAnyH_take (i := 30) (v := ?_) rfl (by kernel_rfl) (by kernel_rfl) (by kernel_rfl) (fun _ _ _ h => h) (Or.inl ⟨by rfl, ?_⟩) hH ?_
    rotate_left
    · intro w hSw
      go_simp
      try with_reducible rfl
    try simp only [Act.put, List.getElem_toArray, List.getElem_cons_zero, List.getElem_cons_succ, List.setIfInBounds_toArray, List.set_cons_zero, List.set_cons_succ]
    refine wpAnyH_take (i := 31) (v := ?_) rfl (by kernel_rfl) (by kernel_rfl) (by kernel_rfl) (fun _ _ _ h => h) (Or.inl ⟨by rfl, ?_⟩) hH ?_
    rotate_left
    · intro w hSw
      go_simp
      try with_reducible rfl
    try simp only [Act.put, List.getElem_toArray, List.getElem_cons_zero, List.getElem_cons_succ, List.setIfInBounds_toArray, List.set_cons_zero, List.set_cons_succ]
    refine wpAnyH_take (i := 32) (v := ?_) rfl (by kernel_rfl) (by kernel_rfl) (by kernel_rfl) (fun _ _ _ h => h) (Or.inl ⟨by rfl, ?_⟩) hH ?_
    rotate_left
    · intro w hSw
      go_simp
      try with_reducible rfl
    try simp only [Act.put, List.getElem_toArray, List.getElem_cons_zero, List.getElem_cons_succ, List.setIfInBounds_toArray, List.set_cons_zero, List.set_cons_succ]
    refine wpAnyH_ready (rs := [33]) (by kernel_rfl) (by simp) ?_
    refine AllReadyH.cons rfl (fun K hK => ?_) AllReadyH.nil
    go_simp
    go_wp2_with (go_at_call 12; (with_reducible refine Calls.mono (HL.out _ hH.bel) ?_); rintro _ wx ⟨rfl, hbx⟩)
    refine hK.out _ _ (hH.step hbx) (fun hH => ?_)
    clear hK K
    clear hbx
    try simp only [Act.put, List.getElem_toArray, List.getElem_cons_zero, List.getElem_cons_succ, List.setIfInBounds_toArray, List.set_cons_zero, List.set_cons_succ]
    refine wpAnyH_take (i := 34) (v := ?_) rfl (by kernel_rfl) (by kernel_rfl) (by kernel_rfl) (fun _ _ _ h => h) (Or.inl ⟨by rfl, ?_⟩) hH ?_
    rotate_left
    · intro w hSw
      go_simp
      try with_reducible rfl
    try simp only [Act.put, List.getElem_toArray, List.getElem_cons_zero, List.getElem_cons_succ, List.setIfInBounds_toArray, List.set_cons_zero, List.set_cons_succ]
    refine wpAnyH_ready (rs := [35]) (by kernel_rfl) (by simp) ?_
    refine AllReadyH.cons rfl (fun K hK => ?_) AllReadyH.nil
    go_simp
    refine hK.out _ _ hH (fun hH => ?_)
    clear hK K
    refine wpAnyH_done (by kernel_rfl) ?_ _
    have hfin := hH.bel
    go_wp2_with fail
    go_ret
    exact ⟨rfl, hfin⟩
end Go.Proofs.YtcjidlgmbjebjaaDoor
