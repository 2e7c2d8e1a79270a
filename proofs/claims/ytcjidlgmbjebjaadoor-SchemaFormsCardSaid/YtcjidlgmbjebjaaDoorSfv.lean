/- A part of the proof of SchemaForms. -/
import Derived.Test.YtcjidlgmbjebjaaDoorSfq
import Derived.Test.YtcjidlgmbjebjaaDoorSfs
import Derived.Test.YtcjidlgmbjebjaaDoorSfu
import Derived.Deep.RegionHeld3
set_option linter.unusedVariables false
set_option linter.unusedSimpArgs false
set_option maxRecDepth 100000
namespace Go.Proofs.YtcjidlgmbjebjaaDoor
open Go Go.RowKit Go.Proofs.YtcjidlgmbjebjaaDoorW.PrintWords
set_option maxHeartbeats 16000000 in
theorem forms22_walk (e : Ent) (v : Value) (A0 : Option Addr) (c0 : Nat) (l : List Int) (W : World) (z1 : e.nm.size ≤ 9223372036854775807) (l1 : e.cs.length ≤ 9223372036854775807)
    (hcs : ∀ c ∈ e.cs, c.1.size ≤ 9223372036854775807) (hv : ColsV W v e.cs) (hs : SlB W (.slice A0 l.length c0) l) (hb : Byt l) (ht : TypesAt W) (hf : FormsAt W) (hpw : PowIs W) :
    Calls Tryd.prog 7 #[entV e v, .slice A0 l.length c0] W (RetBool true W) := by
  obtain ⟨p1, q1, c1, rfl⟩ := colsV_shape hv
  have HV := Lib.hid hv; clear hv
  have HSL := Lib.hid hs; clear hs
  have HL := Lib.hid (fun (w' : World) (h : Below W.heap.size W w') => lives_val w' (types_stays ht h) (forms_stays hf h) (pow_stays hpw h))
  have hfit : EntFits e := ⟨z1, hcs⟩
  have HS := Lib.hid hcs; clear hcs
  have HA := Lib.hid (fun (w' : World) (h : Below W.heap.size W w') => light_val e.nm e.kd e.srs _ e.cs w' z1 l1 (colsV_stays HV.out h))
  clear ht hf hpw
  have HP38 := Lib.hid (fun (w' : World) (h : Below W.heap.size W w') (hl : l.length ≤ 2000) => (parse_val (.slice A0 l.length c0) l hb (by omega) w' (slb_below HSL.out h)).mono fun _ _ h => pe_px h)
  have HP39 := Lib.hid (fun (w' : World) (h : Below W.heap.size W w') (hl : l.length ≤ 2000) => (rparse_val (.slice A0 l.length c0) l hb (by omega) w' (slb_below HSL.out h)).mono fun _ _ h => pe_px h)
  have hxl := pres_len l
  generalize hM : l.length = M0 at HP38 HP39 HSL
  generalize hx : presE l = x at hxl
  generalize her : presN l = er
  unfold RetPx at HP38 HP39
  rw [hx, her] at HP38 HP39
  unfold entV entL at HP38 HP39 ⊢
  unfold schV at HA
  have HLen := Lib.hid hM; clear hM hx her
  go_enter Tryd.func7, Tryd.ntmps7
  go_wp2_with fail
  refine (HA.out _ (by go_grown)).mono ?_
  rintro _ w1 ⟨b1, rfl, hb1, hbl⟩
  have hk1 : BlkAt w1 W.heap.size (entL e (.slice p1 q1 c1)) 67 := blk_below (show BlkAt (World.alloc W _) W.heap.size (entL e (.slice p1 q1 c1)) 67 from hp_new _ _ _ rfl) hbl
  have hB1 := below_step (show Below W.heap.size W _ from by go_grown) hbl
  clear hbl
  cases b1 with
  | false =>
    clear hb1
    dsimp only
    go_wp2_with fail
    refine (HL.out _ hB1).mono ?_
    rintro _ w2 ⟨rfl, hbl⟩
    have hB2 := below_step hB1 hbl
    clear hbl
    dsimp only
    go_wp2_with fail
    go_ret
    exact ⟨rfl, hB2⟩
  | true =>
  have hl1 := hb1 rfl
  clear hb1
  dsimp only
  by_cases hs : 2000 < M0
  · go_wp2_with fail
    refine (HL.out _ hB1).mono ?_
    rintro _ w2 ⟨rfl, hbl⟩
    have hB2 := below_step hB1 hbl
    clear hbl
    dsimp only
    go_wp2_with fail
    go_ret
    exact ⟨rfl, hB2⟩
  have hs5 : M0 ≤ 2000 := by omega
  clear hs
  go_wp2_with fail
  refine (HP38.out _ hB1 hs5).mono ?_
  rintro _ w2 ⟨v3, rfl, hC3, hbl⟩
  obtain ⟨p3, q3, c3, rfl⟩ := colsV_shape hC3
  have hk1 := blk_below hk1 hbl
  have hB2 := below_step hB1 hbl
  clear hbl
  dsimp only
  go_wp2_with (refine wpList_st16 (by rfl) _ _ 67 (by rfl) (by rfl) (by rfl) (hp_new _ _ _ rfl) (by exact size67) (by rfl) (by simp [Value.oneCell']) ((Below.refl w2.heap.size w2).alloc (Nat.le_refl _) _) (Nat.le_refl _) ?_)
  intro w3 hb3 hbl _
  have hk1 := blk_below hk1 hbl
  have hk2 : BlkAt w3 w2.heap.size (entL x (.slice p3 q3 c3)) 67 := hb3
  have hB3 := below_step hB2 hbl
  have hC3 := colsV_stays hC3 hbl
  clear hb3 hbl
  go_wp2_with fail
  refine (HP39.out _ hB3 hs5).mono ?_
  rintro _ w4 ⟨v4, rfl, hC4, hbl⟩
  obtain ⟨p4, q4, c4, rfl⟩ := colsV_shape hC4
  have hk1 := blk_below hk1 hbl
  have hk2 := blk_below hk2 hbl
  have hB4 := below_step hB3 hbl
  have hC3 := colsV_stays hC3 hbl
  clear hbl
  dsimp only
  go_wp2_with (refine wpList_st16 (by rfl) _ _ 72 (by rfl) (by rfl) (by rfl) (hp_new _ _ _ rfl) (by exact size72) (by rfl) (by simp [Value.oneCell']) ((Below.refl w4.heap.size w4).alloc (Nat.le_refl _) _) (Nat.le_refl _) ?_)
  intro w5 hb5 hbl _
  have hb5 := show BlkAt w5.drew _ _ 72 from hb5
  have hbd := below_drew hbl
  have hSF : SF W W.heap.size w2.heap.size w4.heap.size e x (.slice p1 q1 c1) (.slice p3 q3 c3) (.slice p4 q4 c4) w5.drew := ⟨blk_below hk1 hbd, blk_below hk2 hbd, hb5, colsV_stays HV.out (below_step hB4 hbd), colsV_stays hC3 hbd, colsV_stays hC4 hbd, below_step hB4 hbd⟩
  clear hb5 hbd hbl HP38 HP39 HA hk1 hk2 hC3 hC4 hB4 HSL HS
  go_wp2_with fail
  generalize (Value.agg #[.string e.nm, .int .i64 e.kd, .int .i64 e.srs, .slice p1 q1 c1]) = V1
  generalize (Value.agg #[.string e.nm, .int .i64 e.kd, .int .i64 e.srs, .slice p1 q1 c1, .int .i64 e.id, .int .i64 e.tb, .int .i64 e.t0, .int .i64 e.t1, .int .i64 e.t2, .int .i64 e.ct, .int .i64 e.nx, .bool e.bn, .int .i64 e.lx, .int .i64 e.ly, .int .i64 e.hx, .int .i64 e.hy]) = V2
  generalize (Value.agg #[.string x.nm, .int .i64 x.kd, .int .i64 x.srs, .slice p3 q3 c3, .int .i64 x.id, .int .i64 x.tb, .int .i64 x.t0, .int .i64 x.t1, .int .i64 x.t2, .int .i64 x.ct, .int .i64 x.nx, .bool x.bn, .int .i64 x.lx, .int .i64 x.ly, .int .i64 x.hx, .int .i64 x.hy]) = V3
  generalize (Value.agg #[.string x.nm, .int .i64 x.kd, .int .i64 x.srs, .slice p4 q4 c4, .int .i64 x.id, .int .i64 x.tb, .int .i64 x.t0, .int .i64 x.t1, .int .i64 x.t2, .int .i64 x.ct, .int .i64 x.nx, .bool x.bn, .int .i64 x.lx, .int .i64 x.ly, .int .i64 x.hx, .int .i64 x.hy]) = V4
  generalize w2.heap.size = B2 at hSF ⊢
  generalize w4.heap.size = B3 at hSF ⊢
  obtain ⟨lb, hlb⟩ : ∃ lb, Sb.entB okE e = lb := ⟨_, rfl⟩
  have hl8 : lb.length ≤ 9223372036854775807 := by have := entB_len e; rw [hlb] at this; omega
  have HB40 := Lib.hid (fun w h => sbytes_rowE e (.slice p1 q1 c1) lb hlb hfit w h)
  have HB41 := Lib.hid (fun v w h => rsbytes_rowE e v lb hlb hfit w h)
  have HE1 := Lib.hid (entry_ent e (.slice p1 q1 c1) hl1)
  have HE2 := Lib.hid (entry_ent x (.slice p3 q3 c3) hxl)
  have HQ := Lib.hid (fun v w h1 h2 => requal_val x v (.slice p4 q4 c4) w hxl h1 h2)
  clear hlb
  refine wp_region_held_drew (S := SF W W.heap.size B2 B3 e x (.slice p1 q1 c1) (.slice p3 q3 c3) (.slice p4 q4 c4)) (by kernel_rfl) hSF (fun hH => ?_)
  refine wpAnyH_take (i := 0) (v := entV e (.slice p1 q1 c1)) rfl (by kernel_rfl) (by kernel_rfl) (by kernel_rfl) (fun _ _ _ h => h) (yieldsIf_load_blk (by rfl) 67 _ rfl W.heap.size 67 rfl (entL e (.slice p1 q1 c1)) (fun w h => h.a) Tryd.underlying67 size67) hH ?_
  try simp only [Act.put, List.getElem_toArray, List.getElem_cons_zero, List.getElem_cons_succ, List.setIfInBounds_toArray, List.set_cons_zero, List.set_cons_succ]
  refine wpAnyH_take (i := 3) (v := entV e (.slice p1 q1 c1)) rfl (by kernel_rfl) (by kernel_rfl) (by kernel_rfl) (fun _ _ _ h => h) (yieldsIf_load_blk (by rfl) 67 _ rfl W.heap.size 67 rfl (entL e (.slice p1 q1 c1)) (fun w h => h.a) Tryd.underlying67 size67) hH ?_
  try simp only [Act.put, List.getElem_toArray, List.getElem_cons_zero, List.getElem_cons_succ, List.setIfInBounds_toArray, List.set_cons_zero, List.set_cons_succ]
  refine wpAnyH_ready (rs := [1]) (by kernel_rfl) (by simp) ?_
  refine AllReadyH.cons rfl (fun K hK => ?_) AllReadyH.nil
  go_simp
  go_wp2_with (go_at_call 40; (with_reducible refine Calls.mono (HB40.out _ hH.h1) ?_); rintro _ wx ⟨v5, rfl, hr5, hbx⟩; obtain ⟨A5, c5, rfl, hc5, hC5⟩ := slb_row hr5 hl8; have h5 : SlB wx (.slice A5 lb.length c5) lb := ⟨A5, c5, rfl, hc5, hC5⟩)
  refine hK.out _ _ (hH.step hbx) (fun hH => ?_)
  clear hK K
  clear hr5 hC5 hc5 hbx
  try simp only [Act.put, List.getElem_toArray, List.getElem_cons_zero, List.getElem_cons_succ, List.setIfInBounds_toArray, List.set_cons_zero, List.set_cons_succ]
  refine wpAnyH_mono (S' := (fun w' => SF W W.heap.size B2 B3 e x (.slice p1 q1 c1) (.slice p3 q3 c3) (.slice p4 q4 c4) w' ∧ SlB w' (.slice A5 lb.length c5) lb)) (fun w h => h.1) _ _ _ _ ?_
  have hH := And.intro hH h5
  clear h5
  refine wpAnyH_take (i := 2) (v := ?_) rfl (by kernel_rfl) (by kernel_rfl) (by kernel_rfl) (fun _ _ _ h => h) (Or.inl ⟨by rfl, ?_⟩) hH ?_
  rotate_left
  · intro w hSw
    have e5 := slb_conv hSw.2
    go_simp
    try with_reducible rfl
  try simp only [Act.put, List.getElem_toArray, List.getElem_cons_zero, List.getElem_cons_succ, List.setIfInBounds_toArray, List.set_cons_zero, List.set_cons_succ]
  refine wpAnyH_ready (rs := [4]) (by kernel_rfl) (by simp) ?_
  refine AllReadyH.cons rfl (fun K hK => ?_) AllReadyH.nil
  go_simp
  go_wp2_with (go_at_call 42; (with_reducible refine Calls.mono (HE1.out _ hH.1.h1) ?_); rintro _ wx ⟨v6, rfl, hC6, hbx⟩)
  refine hK.out _ _ (⟨hH.1.step hbx, slb_below hH.2 hbx⟩) (fun hH => ?_)
  clear hK K
  clear hbx
  try simp only [Act.put, List.getElem_toArray, List.getElem_cons_zero, List.getElem_cons_succ, List.setIfInBounds_toArray, List.set_cons_zero, List.set_cons_succ]
  refine wpAnyH_ready (rs := [5]) (by kernel_rfl) (by simp) ?_
  refine AllReadyH.cons rfl (fun K hK => ?_) AllReadyH.nil
  go_simp
  go_wp2_with (go_at_call 41; (with_reducible refine Calls.mono (HB41.out _ _ hC6) ?_); rintro _ wx ⟨v7, rfl, hr7, hbx⟩; obtain ⟨A7, c7, rfl, hc7, hC7⟩ := slb_row hr7 hl8; have h7 : SlB wx (.slice A7 lb.length c7) lb := ⟨A7, c7, rfl, hc7, hC7⟩)
  refine hK.out _ _ (⟨hH.1.step hbx, slb_below hH.2 hbx⟩) (fun hH => ?_)
  clear hK K
  clear hr7 hC7 hc7 hbx hC6
  try simp only [Act.put, List.getElem_toArray, List.getElem_cons_zero, List.getElem_cons_succ, List.setIfInBounds_toArray, List.set_cons_zero, List.set_cons_succ]
  refine wpAnyH_mono (S' := (fun w' => (SF W W.heap.size B2 B3 e x (.slice p1 q1 c1) (.slice p3 q3 c3) (.slice p4 q4 c4) w' ∧ SlB w' (.slice A5 lb.length c5) lb) ∧ SlB w' (.slice A7 lb.length c7) lb)) (fun w h => h.1) _ _ _ _ ?_
  have hH := And.intro hH h7
  clear h7
  refine wpAnyH_take (i := 6) (v := ?_) rfl (by kernel_rfl) (by kernel_rfl) (by kernel_rfl) (fun _ _ _ h => h) (Or.inl ⟨by rfl, ?_⟩) hH ?_
  rotate_left
  · intro w hSw
    have e7 := slb_conv hSw.2
    go_simp
    try with_reducible rfl
  try simp only [Act.put, List.getElem_toArray, List.getElem_cons_zero, List.getElem_cons_succ, List.setIfInBounds_toArray, List.set_cons_zero, List.set_cons_succ]
  refine wpAnyH_take (i := 7) (v := ?_) rfl (by kernel_rfl) (by kernel_rfl) (by kernel_rfl) (fun _ _ _ h => h) (Or.inl ⟨by rfl, ?_⟩) hH ?_
  rotate_left
  · intro w hSw
    go_simp
    try with_reducible rfl
  try simp only [Act.put, List.getElem_toArray, List.getElem_cons_zero, List.getElem_cons_succ, List.setIfInBounds_toArray, List.set_cons_zero, List.set_cons_succ]
  refine wpAnyH_take (i := 8) (v := ?_) rfl (by kernel_rfl) (by kernel_rfl) (by kernel_rfl) (fun _ _ _ h => h) (Or.inl ⟨by rfl, ?_⟩) hH ?_
  rotate_left
  · intro w hSw
    go_simp
    try with_reducible rfl
  try simp only [Act.put, List.getElem_toArray, List.getElem_cons_zero, List.getElem_cons_succ, List.setIfInBounds_toArray, List.set_cons_zero, List.set_cons_succ]
  refine wpAnyH_take (i := 9) (v := entV x (.slice p3 q3 c3)) rfl (by kernel_rfl) (by kernel_rfl) (by kernel_rfl) (fun _ _ _ h => h) (yieldsIf_load_blk (by rfl) 67 _ rfl B2 67 rfl (entL x (.slice p3 q3 c3)) (fun w h => h.1.1.b) Tryd.underlying67 size67) hH ?_
  try simp only [Act.put, List.getElem_toArray, List.getElem_cons_zero, List.getElem_cons_succ, List.setIfInBounds_toArray, List.set_cons_zero, List.set_cons_succ]
  refine wpAnyH_take (i := 11) (v := entV x (.slice p4 q4 c4)) rfl (by kernel_rfl) (by kernel_rfl) (by kernel_rfl) (fun _ _ _ h => h) (yieldsIf_load_blk (by rfl) 72 _ rfl B3 72 rfl (entL x (.slice p4 q4 c4)) (fun w h => h.1.1.c) Tryd.underlying72 size72) hH ?_
  try simp only [Act.put, List.getElem_toArray, List.getElem_cons_zero, List.getElem_cons_succ, List.setIfInBounds_toArray, List.set_cons_zero, List.set_cons_succ]
  refine wpAnyH_ready (rs := [10]) (by kernel_rfl) (by simp) ?_
  refine AllReadyH.cons rfl (fun K hK => ?_) AllReadyH.nil
  go_simp
  go_wp2_with (go_at_call 42; (with_reducible refine Calls.mono (HE2.out _ hH.1.1.h3) ?_); rintro _ wx ⟨v8, rfl, hC8, hbx⟩)
  refine hK.out _ _ (⟨⟨hH.1.1.step hbx, slb_below hH.1.2 hbx⟩, slb_below hH.2 hbx⟩) (fun hH => ?_)
  clear hK K
  clear hbx
  try simp only [Act.put, List.getElem_toArray, List.getElem_cons_zero, List.getElem_cons_succ, List.setIfInBounds_toArray, List.set_cons_zero, List.set_cons_succ]
  refine wpAnyH_ready (rs := [12]) (by kernel_rfl) (by simp) ?_
  refine AllReadyH.cons rfl (fun K hK => ?_) AllReadyH.nil
  go_simp
  go_wp2_with (go_at_call 43; (with_reducible refine Calls.mono (HQ.out _ _ hC8 hH.1.1.h4) ?_); rintro _ wx ⟨rfl, hbx⟩)
  refine hK.out _ _ (⟨⟨hH.1.1.step hbx, slb_below hH.1.2 hbx⟩, slb_below hH.2 hbx⟩) (fun hH => ?_)
  clear hK K
  clear hbx hC8
  try simp only [Act.put, List.getElem_toArray, List.getElem_cons_zero, List.getElem_cons_succ, List.setIfInBounds_toArray, List.set_cons_zero, List.set_cons_succ]
  refine wpAnyH_take (i := 13) (v := ?_) rfl (by kernel_rfl) (by kernel_rfl) (by kernel_rfl) (fun _ _ _ h => h) (Or.inl ⟨by rfl, ?_⟩) hH ?_
  rotate_left
  · intro w hSw
    go_simp
    try with_reducible rfl
  try simp only [Act.put, List.getElem_toArray, List.getElem_cons_zero, List.getElem_cons_succ, List.setIfInBounds_toArray, List.set_cons_zero, List.set_cons_succ]
  refine wpAnyH_take (i := 14) (v := ?_) rfl (by kernel_rfl) (by kernel_rfl) (by kernel_rfl) (fun _ _ _ h => h) (Or.inl ⟨by rfl, ?_⟩) hH ?_
  rotate_left
  · intro w hSw
    go_simp
    try with_reducible rfl
  try simp only [Act.put, List.getElem_toArray, List.getElem_cons_zero, List.getElem_cons_succ, List.setIfInBounds_toArray, List.set_cons_zero, List.set_cons_succ]
  refine wpAnyH_take (i := 15) (v := ?_) rfl (by kernel_rfl) (by kernel_rfl) (by kernel_rfl) (fun _ _ _ h => h) (Or.inl ⟨by rfl, ?_⟩) hH ?_
  rotate_left
  · intro w hSw
    go_simp
    try with_reducible rfl
  try simp only [Act.put, List.getElem_toArray, List.getElem_cons_zero, List.getElem_cons_succ, List.setIfInBounds_toArray, List.set_cons_zero, List.set_cons_succ]
  refine wpAnyH_take (i := 16) (v := ?_) rfl (by kernel_rfl) (by kernel_rfl) (by kernel_rfl) (fun _ _ _ h => h) (Or.inl ⟨by rfl, ?_⟩) hH ?_
  rotate_left
  · intro w hSw
    go_simp
    try with_reducible rfl
  try simp only [Act.put, List.getElem_toArray, List.getElem_cons_zero, List.getElem_cons_succ, List.setIfInBounds_toArray, List.set_cons_zero, List.set_cons_succ]
  refine wpAnyH_take (i := 17) (v := ?_) rfl (by kernel_rfl) (by kernel_rfl) (by kernel_rfl) (fun _ _ _ h => h) (Or.inl ⟨by rfl, ?_⟩) hH ?_
  rotate_left
  · intro w hSw
    go_simp
    try with_reducible rfl
  try simp only [Act.put, List.getElem_toArray, List.getElem_cons_zero, List.getElem_cons_succ, List.setIfInBounds_toArray, List.set_cons_zero, List.set_cons_succ]
  refine wpAnyH_take (i := 18) (v := ?_) rfl (by kernel_rfl) (by kernel_rfl) (by kernel_rfl) (fun _ _ _ h => h) (Or.inl ⟨by rfl, ?_⟩) hH ?_
  rotate_left
  · intro w hSw
    go_simp
    try with_reducible rfl
  try simp only [Act.put, List.getElem_toArray, List.getElem_cons_zero, List.getElem_cons_succ, List.setIfInBounds_toArray, List.set_cons_zero, List.set_cons_succ]
  refine wpAnyH_take (i := 19) (v := ?_) rfl (by kernel_rfl) (by kernel_rfl) (by kernel_rfl) (fun _ _ _ h => h) (Or.inl ⟨by rfl, ?_⟩) hH ?_
  rotate_left
  · intro w hSw
    go_simp
    try with_reducible rfl
  try simp only [Act.put, List.getElem_toArray, List.getElem_cons_zero, List.getElem_cons_succ, List.setIfInBounds_toArray, List.set_cons_zero, List.set_cons_succ]
  refine wpAnyH_ready (rs := [20]) (by kernel_rfl) (by simp) ?_
  refine AllReadyH.cons rfl (fun K hK => ?_) AllReadyH.nil
  go_simp
  go_wp2_with (go_at_call 12; (with_reducible refine Calls.mono (HL.out _ hH.1.1.bel) ?_); rintro _ wx ⟨rfl, hbx⟩)
  refine hK.out _ _ (⟨⟨hH.1.1.step hbx, slb_below hH.1.2 hbx⟩, slb_below hH.2 hbx⟩) (fun hH => ?_)
  clear hK K
  clear hbx
  try simp only [Act.put, List.getElem_toArray, List.getElem_cons_zero, List.getElem_cons_succ, List.setIfInBounds_toArray, List.set_cons_zero, List.set_cons_succ]
  refine wpAnyH_take (i := 21) (v := ?_) rfl (by kernel_rfl) (by kernel_rfl) (by kernel_rfl) (fun _ _ _ h => h) (Or.inl ⟨by rfl, ?_⟩) hH ?_
  rotate_left
  · intro w hSw
    go_simp
    try with_reducible rfl
  try simp only [Act.put, List.getElem_toArray, List.getElem_cons_zero, List.getElem_cons_succ, List.setIfInBounds_toArray, List.set_cons_zero, List.set_cons_succ]
  refine wpAnyH_ready (rs := [22]) (by kernel_rfl) (by simp) ?_
  refine AllReadyH.cons rfl (fun K hK => ?_) AllReadyH.nil
  go_simp
  refine hK.out _ _ hH (fun hH => ?_)
  clear hK K
  refine wpAnyH_done (by kernel_rfl) ?_ _
  have hfin := hH.1.1.bel
  go_wp2_with fail
  go_ret
  exact ⟨rfl, hfin⟩
end Go.Proofs.YtcjidlgmbjebjaaDoor
