/- A part of the proof of ValueReads. -/
import Derived.Test.YtcjidlgmbjebjaaGreatDoorVrze
set_option linter.unusedVariables false
set_option linter.unusedSimpArgs false
set_option maxRecDepth 100000
namespace Go.Proofs.YtcjidlgmbjebjaaGreatDoor
open Go Go.RowKit Go.Proofs.YtcjidlgmbjebjaaGreatDoorW.PrintWords
set_option maxHeartbeats 8000000 in
theorem reads_walk (s : ByteArray) (row : Int) (v0 : Value) (l : List Int) (W : World) (hv : SlB W v0 l) (hbt : Byt l) (hss : s.size ≤ 9223372036854775807) (hp : PowIs W) (he : ErrIs W) (hr : RanIs W) (hlives : ∀ w', Below W.heap.size W w' → Calls Tryz.prog 12 #[] w' (TrueBelow w')) :
    Calls Tryz.prog 4 #[.string s, .int .i64 row, v0] W (TrueBelow W) := by
  have HL := Lib.hid hlives
  clear hlives
  have HV := Lib.hid hv
  obtain ⟨A0, c0, rfl, hc0, hC0⟩ := hv
  have hlm : l.length ≤ 9223372036854775807 := hC0.2.1
  by_cases hbig : 1000 < s.size ∨ 25000 < l.length
  · have HLV := Lib.hid (HL.out W (Below.refl _ _))
    clear HV hp he hr HL hC0
    generalize l.length = M at hbig hlm hc0 ⊢
    by_cases h1 : 1000 < s.size
    · clear hbig
      go_enter Tryz.func4, Tryz.ntmps4
      go_wp2_with fail
      (with_reducible refine Calls.mono HLV.out ?_)
      rintro _ w1 ⟨rfl, hb1⟩
      dsimp only
      go_wp2_with fail
      go_ret
      exact ⟨rfl, hb1⟩
    · have h2 : 25000 < M := by omega
      clear hbig
      go_enter Tryz.func4, Tryz.ntmps4
      go_wp2_with fail
      (with_reducible refine Calls.mono HLV.out ?_)
      rintro _ w1 ⟨rfl, hb1⟩
      dsimp only
      go_wp2_with fail
      go_ret
      exact ⟨rfl, hb1⟩
  have hs1 : s.size ≤ 1000 := by omega
  have hl1 : l.length ≤ 25000 := by omega
  clear hbig hlm hC0
  obtain ⟨sk, sn, st, sb, hsc, hrs⟩ := scans s hs1
  have HSC := Lib.hid (hsc W hp he hr)
  have HRS := Lib.hid hrs
  obtain ⟨pr, plb, pvs, pe, hpl, hpp, hpr⟩ := parses row (.slice A0 l.length c0) l hbt (by omega)
  have HPP := Lib.hid hpp
  have HPR := Lib.hid hpr
  obtain ⟨fr, flb, fvs, fok, fs, hfl, hfz, hfp, hfr⟩ := froms row l hbt (by omega)
  have HFP := Lib.hid hfp
  have HFR := Lib.hid hfr
  have HRD := Lib.hid (fun w h => read_val (.slice A0 l.length c0) l w h (by omega))
  have HRR := Lib.hid (fun w h => rread_val (.slice A0 l.length c0) l w h (by omega))
  clear hsc hrs hpp hpr hfp hfr hp he hr
  generalize l.length = M at HV HPP HPR HRD HRR hl1 hc0 ⊢
  go_enter Tryz.func4, Tryz.ntmps4
  go_wp2_with fail
  (with_reducible refine Calls.mono HSC.out ?_)
  rintro _ w1 ⟨rfl, hb1⟩
  have HB1 := Lib.hid (hb1.alloc hb1.size (.cells #[.int .i64 sk, .int .i64 sn, .string st] 32))
  have HA7 := Lib.hid (show BlkAt (w1.alloc (.cells #[.int .i64 sk, .int .i64 sn, .string st] 32)) w1.heap.size #[.int .i64 sk, .int .i64 sn, .string st] 32 from hp_new _ _ _ rfl)
  have HZ1 := Lib.hid (show w1.heap.size + 1 = (w1.alloc (.cells #[.int .i64 sk, .int .i64 sn, .string st] 32)).heap.size by simp)
  clear hb1 HSC
  unfold vV
  dsimp only
  go_wp2_with fail
  generalize w1.alloc (.cells #[.int .i64 sk, .int .i64 sn, .string st] 32) = w1a at HB1 HA7 HZ1 ⊢
  generalize w1.heap.size = B7 at HA7 HZ1 ⊢
  (with_reducible refine Calls.mono (HRS.out _) ?_)
  rintro _ w2 ⟨rfl, hb2⟩
  have hal2 : Below w1a.heap.size w1a (w2.alloc (.cells #[.int .i64 sk, .int .i64 sn, .string st] 32)) := hb2.alloc hb2.size _
  have HB2 := Lib.hid (below_step HB1.out hal2)
  have HB7 := Lib.hid (blk_below HA7.out hal2)
  have HA9 := Lib.hid (show BlkAt (w2.alloc (.cells #[.int .i64 sk, .int .i64 sn, .string st] 32)) w2.heap.size #[.int .i64 sk, .int .i64 sn, .string st] 32 from hp_new _ _ _ rfl)
  clear hb2 HRS hal2 HA7 HB1 HZ1
  unfold vV
  dsimp only
  go_wp2_with fail
  generalize w2.alloc (.cells #[.int .i64 sk, .int .i64 sn, .string st] 32) = w2a at HB2 HB7 HA9 ⊢
  generalize w2.heap.size = B9 at HA9 ⊢
  have HV2 := Lib.hid (slb_below HV.out HB2.out)
  (with_reducible refine Calls.mono (HPP.out _ HV2.out) ?_)
  rintro _ w3 ⟨a1, a2, a3, a4, a5, a6, rfl, hf3, hb3⟩
  have hal3 : Below w3.heap.size w3 (w3.alloc (.cells #[.int .i64 pr, .slice a1 a2 a3, .slice a4 a5 a6] 28)) := (Below.refl _ _).alloc (Nat.le_refl _) _
  have hst3 := below_step hb3 hal3
  have HB3 := Lib.hid (below_step HB2.out hst3)
  have HC7 := Lib.hid (blk_below HB7.out hst3)
  have HC9 := Lib.hid (blk_below HA9.out hst3)
  have HF11 := Lib.hid (hf3.below hal3)
  have HA11 := Lib.hid (show BlkAt (w3.alloc (.cells #[.int .i64 pr, .slice a1 a2 a3, .slice a4 a5 a6] 28)) w3.heap.size #[.int .i64 pr, .slice a1 a2 a3, .slice a4 a5 a6] 28 from hp_new _ _ _ rfl)
  clear hf3 hb3 hal3 hst3 HPP HB2 HB7 HA9 HV2
  dsimp only
  go_wp2_with fail
  generalize w3.alloc (.cells #[.int .i64 pr, .slice a1 a2 a3, .slice a4 a5 a6] 28) = w3a at HB3 HC7 HC9 HF11 HA11 ⊢
  generalize w3.heap.size = B11 at HA11 ⊢
  have HV3 := Lib.hid (slb_below HV.out HB3.out)
  (with_reducible refine Calls.mono (HPR.out _ HV3.out) ?_)
  rintro _ w4 ⟨d1, d2, d3, d4, d5, d6, rfl, hf4, hb4⟩
  have hal4 : Below w4.heap.size w4 (w4.alloc (.cells #[.int .i64 pr, .slice d1 d2 d3, .slice d4 d5 d6] 28)) := (Below.refl _ _).alloc (Nat.le_refl _) _
  have hst4 := below_step hb4 hal4
  have HB4 := Lib.hid (below_step HB3.out hst4)
  have HD7 := Lib.hid (blk_below HC7.out hst4)
  have HD9 := Lib.hid (blk_below HC9.out hst4)
  have HD11 := Lib.hid (blk_below HA11.out hst4)
  have HG11 := Lib.hid (HF11.out.below hst4)
  have HF13 := Lib.hid (hf4.below hal4)
  have HA13 := Lib.hid (show BlkAt (w4.alloc (.cells #[.int .i64 pr, .slice d1 d2 d3, .slice d4 d5 d6] 28)) w4.heap.size #[.int .i64 pr, .slice d1 d2 d3, .slice d4 d5 d6] 28 from hp_new _ _ _ rfl)
  clear hf4 hb4 hal4 hst4 HPR HB3 HC7 HC9 HF11 HA11 HV3
  dsimp only
  go_wp2_with fail
  generalize w4.alloc (.cells #[.int .i64 pr, .slice d1 d2 d3, .slice d4 d5 d6] 28) = w4a at HB4 HD7 HD9 HD11 HG11 HF13 HA13 ⊢
  generalize w4.heap.size = B13 at HA13 ⊢
  have HV4 := Lib.hid (slb_below HV.out HB4.out)
  (with_reducible refine Calls.mono (HRD.out _ HV4.out) ?_)
  rintro _ w5 ⟨p, rfl, hp5, hs5, hb5⟩
  have HS5 := Lib.hid hs5
  have HX5 := Lib.hid hb5
  have HV5 := Lib.hid (slb_below HV4.out hb5)
  clear hs5 hb5 HRD HV4
  dsimp only
  go_wp2_with fail
  (with_reducible refine Calls.mono (HRR.out _ HV5.out) ?_)
  rintro _ w6 ⟨q, rfl, hq6, hs6, hb6⟩
  have HS6 := Lib.hid (src_below HS5.out hb6)
  have HR6 := Lib.hid hs6
  have HX6 := Lib.hid (below_step HX5.out hb6)
  have hplt := src_lt HS5.out
  have hpq : p ≠ q := by omega
  clear hs6 hb6 HRR HV5 HS5 HX5
  dsimp only
  go_wp2_with fail
  (with_reducible refine Calls.mono (HFP.out p _ HS6.out) ?_)
  rintro _ w7 ⟨b1, b2, b3, b4, b5, b6, rfl, hf7, hs7, hk7⟩
  have hal7 : Below w7.heap.size w7 (w7.alloc (.cells #[.int .i64 fr, .slice b1 b2 b3, .slice b4 b5 b6] 28)) := (Below.refl _ _).alloc (Nat.le_refl _) _
  have hx7 : Below w4a.heap.size w4a w7 := hk7.below HX6.out hp5 HX6.out.size
  have HX7 := Lib.hid (below_step hx7 hal7)
  have HS7 := Lib.hid (src_below hs7 hal7)
  have hr7 := srcR_keep HR6.out (src_nobyte HS6.out) hpq.symm hk7
  have HR7 := Lib.hid (srcR_below hr7 hal7)
  have hq7 := srcR_lt hr7
  have HF17 := Lib.hid (hf7.below hal7)
  have HA17 := Lib.hid (show BlkAt (w7.alloc (.cells #[.int .i64 fr, .slice b1 b2 b3, .slice b4 b5 b6] 28)) w7.heap.size #[.int .i64 fr, .slice b1 b2 b3, .slice b4 b5 b6] 28 from hp_new _ _ _ rfl)
  clear hf7 hs7 hk7 hal7 hx7 hr7 HFP HS6 HR6 HX6
  have hqw : w4a.heap.size ≤ q := by have := HX7.out.size; omega
  dsimp only
  go_wp2_with fail
  generalize w7.alloc (.cells #[.int .i64 fr, .slice b1 b2 b3, .slice b4 b5 b6] 28) = w7a at HX7 HS7 HR7 HF17 HA17 ⊢
  have hB17 : w7.heap.size ≠ q := by omega
  generalize w7.heap.size = B17 at HA17 hB17 ⊢
  (with_reducible refine Calls.mono (HFR.out q _ HR7.out) ?_)
  rintro _ w8 ⟨c8, e1, e2, e3, e4, e5, e6, rfl, hf8, hs8, hk8⟩
  have hal8 : Below w8.heap.size w8 (w8.alloc (.cells #[.int .i64 c8, .slice e1 e2 e3, .slice e4 e5 e6] 28)) := (Below.refl _ _).alloc (Nat.le_refl _) _
  have hx8 : Below w4a.heap.size w4a w8 := hk8.below HX7.out hqw HX7.out.size
  have HX8 := Lib.hid (below_step hx8 hal8)
  have HS8 := Lib.hid (src_below (src_keep HS7.out (srcR_nobyte HR7.out) hpq hk8) hal8)
  have HR8 := Lib.hid (srcR_below hs8 hal8)
  have HG17 := Lib.hid ((HF17.out.keepR HR7.out hk8).below hal8)
  have HB17 := Lib.hid (blk_below (blk_keep HA17.out hk8 hB17) hal8)
  have HF19 := Lib.hid (fun h => (hf8 h).below hal8)
  have HA19 := Lib.hid (show BlkAt (w8.alloc (.cells #[.int .i64 c8, .slice e1 e2 e3, .slice e4 e5 e6] 28)) w8.heap.size #[.int .i64 c8, .slice e1 e2 e3, .slice e4 e5 e6] 28 from hp_new _ _ _ rfl)
  clear hf8 hs8 hk8 hal8 hx8 HFR HX7 HS7 HR7 HF17 HA17 hB17 hq7 hplt hp5 hq6 hqw
  dsimp only
  go_wp2_with fail
  generalize w8.alloc (.cells #[.int .i64 c8, .slice e1 e2 e3, .slice e4 e5 e6] 28) = w9 at HX8 HS8 HR8 HG17 HB17 HF19 HA19 ⊢
  generalize w8.heap.size = B19 at HA19 ⊢
  have HY7 := Lib.hid (blk_below HD7.out HX8.out)
  have HY9 := Lib.hid (blk_below HD9.out HX8.out)
  have HY11 := Lib.hid (blk_below HD11.out HX8.out)
  have HY13 := Lib.hid (blk_below HA13.out HX8.out)
  have HY1 := Lib.hid (HG11.out.below HX8.out)
  have HY3 := Lib.hid (HF13.out.below HX8.out)
  have HBW := Lib.hid (below_step HB4.out HX8.out)
  clear HD7 HD9 HD11 HA13 HG11 HF13 HB4 HX8 HV
  have HDR := Lib.hid (show Below w9.heap.size w9 w9.drew from below_drew (Below.refl _ _))
  cases fok
  · obtain ⟨rfl, rfl, rfl⟩ := hfz rfl
    have HSA := Lib.hid (same_feat (HG17.out.below HDR.out) (feat_zero w9.drew) (by simp))
    clear hfz HF19 HG17 HA19 HS8 HR8
    refine wp_region_held_drew (S := fun w' => Below w9.heap.size w9 w') (by kernel_rfl) HDR.out (fun hH => ?_)
    try simp only [Act.put, List.getElem_toArray, List.getElem_cons_zero, List.getElem_cons_succ, List.setIfInBounds_toArray, List.set_cons_zero, List.set_cons_succ]
    refine wpAnyH_take (i := 0) (v := ?_) rfl (by kernel_rfl) (by kernel_rfl) (by kernel_rfl) (fun _ _ _ h => h) (Or.inl ⟨by rfl, ?_⟩) hH ?_
    rotate_left
    · intro w hSw
      clear hSw
      go_simp
      try with_reducible rfl
    try simp only [Act.put, List.getElem_toArray, List.getElem_cons_zero, List.getElem_cons_succ, List.setIfInBounds_toArray, List.set_cons_zero, List.set_cons_succ]
    refine wpAnyH_take (i := 1) (v := ?_) rfl (by kernel_rfl) (by kernel_rfl) (by kernel_rfl) (fun _ _ _ h => h) (Or.inl ⟨by rfl, ?_⟩) hH ?_
    rotate_left
    · intro w hSw
      clear hSw
      go_simp
      try with_reducible rfl
    try simp only [Act.put, List.getElem_toArray, List.getElem_cons_zero, List.getElem_cons_succ, List.setIfInBounds_toArray, List.set_cons_zero, List.set_cons_succ]
    refine wpAnyH_take (i := 2) (v := ?_) rfl (by kernel_rfl) (by kernel_rfl) (by kernel_rfl) (fun _ _ _ h => h) (Or.inl ⟨by rfl, ?_⟩) hH ?_
    rotate_left
    · intro w hSw
      clear hSw
      go_simp
      try with_reducible rfl
    try simp only [Act.put, List.getElem_toArray, List.getElem_cons_zero, List.getElem_cons_succ, List.setIfInBounds_toArray, List.set_cons_zero, List.set_cons_succ]
    refine wpAnyH_take (i := 3) (v := ?_) rfl (by kernel_rfl) (by kernel_rfl) (by kernel_rfl) (fun _ _ _ h => h) (Or.inl ⟨by rfl, ?_⟩) hH ?_
    rotate_left
    · intro w hSw
      clear hSw
      go_simp
      try with_reducible rfl
    try simp only [Act.put, List.getElem_toArray, List.getElem_cons_zero, List.getElem_cons_succ, List.setIfInBounds_toArray, List.set_cons_zero, List.set_cons_succ]
    refine wpAnyH_take (i := 4) (v := ?_) rfl (by kernel_rfl) (by kernel_rfl) (by kernel_rfl) (fun _ _ _ h => h) (Or.inl ⟨by rfl, ?_⟩) hH ?_
    rotate_left
    · intro w hSw
      clear hSw
      go_simp
      try with_reducible rfl
    try simp only [Act.put, List.getElem_toArray, List.getElem_cons_zero, List.getElem_cons_succ, List.setIfInBounds_toArray, List.set_cons_zero, List.set_cons_succ]
    refine wpAnyH_take (i := 5) (v := ?_) rfl (by kernel_rfl) (by kernel_rfl) (by kernel_rfl) (fun _ _ _ h => h) (Or.inl ⟨by rfl, ?_⟩) hH ?_
    rotate_left
    · intro w hSw
      clear hSw
      go_simp
      try with_reducible rfl
    try simp only [Act.put, List.getElem_toArray, List.getElem_cons_zero, List.getElem_cons_succ, List.setIfInBounds_toArray, List.set_cons_zero, List.set_cons_succ]
    refine wpAnyH_take (i := 6) (v := undef) rfl (by kernel_rfl) (by kernel_rfl) (by kernel_rfl) (fun _ _ _ h => h) (Or.inr ⟨by rfl, rfl⟩) hH ?_
    try simp only [Act.put, List.getElem_toArray, List.getElem_cons_zero, List.getElem_cons_succ, List.setIfInBounds_toArray, List.set_cons_zero, List.set_cons_succ]
    refine wpAnyH_take (i := 7) (v := undef) rfl (by kernel_rfl) (by kernel_rfl) (by kernel_rfl) (fun _ _ _ h => h) (Or.inr ⟨by rfl, rfl⟩) hH ?_
    try simp only [Act.put, List.getElem_toArray, List.getElem_cons_zero, List.getElem_cons_succ, List.setIfInBounds_toArray, List.set_cons_zero, List.set_cons_succ]
    refine wpAnyH_take (i := 8) (v := undef) rfl (by kernel_rfl) (by kernel_rfl) (by kernel_rfl) (fun _ _ _ h => h) (Or.inr ⟨by rfl, rfl⟩) hH ?_
    try simp only [Act.put, List.getElem_toArray, List.getElem_cons_zero, List.getElem_cons_succ, List.setIfInBounds_toArray, List.set_cons_zero, List.set_cons_succ]
    refine wpAnyH_take (i := 9) (v := undef) rfl (by kernel_rfl) (by kernel_rfl) (by kernel_rfl) (fun _ _ _ h => h) (Or.inr ⟨by rfl, rfl⟩) hH ?_
    try simp only [Act.put, List.getElem_toArray, List.getElem_cons_zero, List.getElem_cons_succ, List.setIfInBounds_toArray, List.set_cons_zero, List.set_cons_succ]
    refine wpAnyH_take (i := 10) (v := undef) rfl (by kernel_rfl) (by kernel_rfl) (by kernel_rfl) (fun _ _ _ h => h) (Or.inr ⟨by rfl, rfl⟩) hH ?_
    try simp only [Act.put, List.getElem_toArray, List.getElem_cons_zero, List.getElem_cons_succ, List.setIfInBounds_toArray, List.set_cons_zero, List.set_cons_succ]
    refine wpAnyH_take (i := 11) (v := undef) rfl (by kernel_rfl) (by kernel_rfl) (by kernel_rfl) (fun _ _ _ h => h) (Or.inr ⟨by rfl, rfl⟩) hH ?_
    try simp only [Act.put, List.getElem_toArray, List.getElem_cons_zero, List.getElem_cons_succ, List.setIfInBounds_toArray, List.set_cons_zero, List.set_cons_succ]
    refine wpAnyH_take (i := 12) (v := undef) rfl (by kernel_rfl) (by kernel_rfl) (by kernel_rfl) (fun _ _ _ h => h) (Or.inr ⟨by rfl, rfl⟩) hH ?_
    try simp only [Act.put, List.getElem_toArray, List.getElem_cons_zero, List.getElem_cons_succ, List.setIfInBounds_toArray, List.set_cons_zero, List.set_cons_succ]
    refine wpAnyH_take (i := 13) (v := undef) rfl (by kernel_rfl) (by kernel_rfl) (by kernel_rfl) (fun _ _ _ h => h) (Or.inr ⟨by rfl, rfl⟩) hH ?_
    try simp only [Act.put, List.getElem_toArray, List.getElem_cons_zero, List.getElem_cons_succ, List.setIfInBounds_toArray, List.set_cons_zero, List.set_cons_succ]
    refine wpAnyH_take (i := 14) (v := undef) rfl (by kernel_rfl) (by kernel_rfl) (by kernel_rfl) (fun _ _ _ h => h) (Or.inr ⟨by rfl, rfl⟩) hH ?_
    try simp only [Act.put, List.getElem_toArray, List.getElem_cons_zero, List.getElem_cons_succ, List.setIfInBounds_toArray, List.set_cons_zero, List.set_cons_succ]
    refine wpAnyH_take (i := 15) (v := undef) rfl (by kernel_rfl) (by kernel_rfl) (by kernel_rfl) (fun _ _ _ h => h) (Or.inr ⟨by rfl, rfl⟩) hH ?_
    try simp only [Act.put, List.getElem_toArray, List.getElem_cons_zero, List.getElem_cons_succ, List.setIfInBounds_toArray, List.set_cons_zero, List.set_cons_succ]
    refine wpAnyH_take (i := 16) (v := undef) rfl (by kernel_rfl) (by kernel_rfl) (by kernel_rfl) (fun _ _ _ h => h) (Or.inr ⟨by rfl, rfl⟩) hH ?_
    try simp only [Act.put, List.getElem_toArray, List.getElem_cons_zero, List.getElem_cons_succ, List.setIfInBounds_toArray, List.set_cons_zero, List.set_cons_succ]
    refine wpAnyH_take (i := 17) (v := undef) rfl (by kernel_rfl) (by kernel_rfl) (by kernel_rfl) (fun _ _ _ h => h) (Or.inr ⟨by rfl, rfl⟩) hH ?_
    try simp only [Act.put, List.getElem_toArray, List.getElem_cons_zero, List.getElem_cons_succ, List.setIfInBounds_toArray, List.set_cons_zero, List.set_cons_succ]
    refine wpAnyH_take (i := 18) (v := undef) rfl (by kernel_rfl) (by kernel_rfl) (by kernel_rfl) (fun _ _ _ h => h) (Or.inr ⟨by rfl, rfl⟩) hH ?_
    try simp only [Act.put, List.getElem_toArray, List.getElem_cons_zero, List.getElem_cons_succ, List.setIfInBounds_toArray, List.set_cons_zero, List.set_cons_succ]
    refine wpAnyH_take (i := 19) (v := undef) rfl (by kernel_rfl) (by kernel_rfl) (by kernel_rfl) (fun _ _ _ h => h) (Or.inr ⟨by rfl, rfl⟩) hH ?_
    try simp only [Act.put, List.getElem_toArray, List.getElem_cons_zero, List.getElem_cons_succ, List.setIfInBounds_toArray, List.set_cons_zero, List.set_cons_succ]
    refine wpAnyH_take (i := 20) (v := ?_) rfl (by kernel_rfl) (by kernel_rfl) (by kernel_rfl) (fun _ _ _ h => h) (Or.inl ⟨by rfl, ?_⟩) hH ?_
    rotate_left
    · intro w hSw
      clear hSw
      go_simp
      try with_reducible rfl
    try simp only [Act.put, List.getElem_toArray, List.getElem_cons_zero, List.getElem_cons_succ, List.setIfInBounds_toArray, List.set_cons_zero, List.set_cons_succ]
    refine wpAnyH_take (i := 21) (v := ?_) rfl (by kernel_rfl) (by kernel_rfl) (by kernel_rfl) (fun _ _ _ h => h) (Or.inl ⟨by rfl, ?_⟩) hH ?_
    rotate_left
    · intro w hSw
      clear hSw
      go_simp
      try with_reducible rfl
    try simp only [Act.put, List.getElem_toArray, List.getElem_cons_zero, List.getElem_cons_succ, List.setIfInBounds_toArray, List.set_cons_zero, List.set_cons_succ]
    refine wpAnyH_take (i := 22) (v := ?_) rfl (by kernel_rfl) (by kernel_rfl) (by kernel_rfl) (fun _ _ _ h => h) (Or.inl ⟨by rfl, ?_⟩) hH ?_
    rotate_left
    · intro w hSw
      clear hSw
      go_simp
      try with_reducible rfl
    try simp only [Act.put, List.getElem_toArray, List.getElem_cons_zero, List.getElem_cons_succ, List.setIfInBounds_toArray, List.set_cons_zero, List.set_cons_succ]
    refine wpAnyH_take (i := 23) (v := ?_) rfl (by kernel_rfl) (by kernel_rfl) (by kernel_rfl) (fun _ _ _ h => h) (Or.inl ⟨by rfl, ?_⟩) hH ?_
    rotate_left
    · intro w hSw
      clear hSw
      go_simp
      try with_reducible rfl
    try simp only [Act.put, List.getElem_toArray, List.getElem_cons_zero, List.getElem_cons_succ, List.setIfInBounds_toArray, List.set_cons_zero, List.set_cons_succ]
    refine wpAnyH_take (i := 24) (v := ?_) rfl (by kernel_rfl) (by kernel_rfl) (by kernel_rfl) (fun _ _ _ h => h) (Or.inl ⟨by rfl, ?_⟩) hH ?_
    rotate_left
    · intro w hSw
      clear hSw
      go_simp
      try with_reducible rfl
    try simp only [Act.put, List.getElem_toArray, List.getElem_cons_zero, List.getElem_cons_succ, List.setIfInBounds_toArray, List.set_cons_zero, List.set_cons_succ]
    refine wpAnyH_take (i := 25) (v := ?_) rfl (by kernel_rfl) (by kernel_rfl) (by kernel_rfl) (fun _ _ _ h => h) (Or.inl ⟨by rfl, ?_⟩) hH ?_
    rotate_left
    · intro w hSw
      clear hSw
      go_simp
      try with_reducible rfl
    try simp only [Act.put, List.getElem_toArray, List.getElem_cons_zero, List.getElem_cons_succ, List.setIfInBounds_toArray, List.set_cons_zero, List.set_cons_succ]
    refine wpAnyH_take (i := 26) (v := ?_) rfl (by kernel_rfl) (by kernel_rfl) (by kernel_rfl) (fun _ _ _ h => h) (Or.inl ⟨by rfl, ?_⟩) hH ?_
    rotate_left
    · intro w hSw
      have p0 : World.cell? w ⟨B17, 0, none⟩ = some (.int .i64 0) := blk_cell (blk_below HB17.out hSw) 0 _ rfl
      have p1 : World.cell? w ⟨B17, 1, none⟩ = some (.slice b1 b2 b3) := blk_cell (blk_below HB17.out hSw) 1 _ rfl
      have p2 : World.cell? w ⟨B17, 2, none⟩ = some (.slice b4 b5 b6) := blk_cell (blk_below HB17.out hSw) 2 _ rfl
      clear hSw
      go_simp
      try with_reducible rfl
    try simp only [Act.put, List.getElem_toArray, List.getElem_cons_zero, List.getElem_cons_succ, List.setIfInBounds_toArray, List.set_cons_zero, List.set_cons_succ]
    refine wpAnyH_take (i := 27) (v := ?_) rfl (by kernel_rfl) (by kernel_rfl) (by kernel_rfl) (fun _ _ _ h => h) (Or.inl ⟨by rfl, ?_⟩) hH ?_
    rotate_left
    · intro w hSw
      clear hSw
      go_simp
      try with_reducible rfl
    try simp only [Act.put, List.getElem_toArray, List.getElem_cons_zero, List.getElem_cons_succ, List.setIfInBounds_toArray, List.set_cons_zero, List.set_cons_succ]
    refine wpAnyH_ready (rs := [28]) (by kernel_rfl) (by simp) ?_
    refine AllReadyH.cons rfl (fun K hK => ?_) AllReadyH.nil
    go_simp
    go_wp2_with (go_at_call 21; (with_reducible refine Calls.mono HSA.out ?_); rintro _ w10 ⟨rfl, hb10⟩)
    have hbX := below_step HDR.out hb10
    clear hb10
    refine hK.out _ _ hbX (fun hH => ?_)
    clear hK K
    try simp only [Act.put, List.getElem_toArray, List.getElem_cons_zero, List.getElem_cons_succ, List.setIfInBounds_toArray, List.set_cons_zero, List.set_cons_succ]
    refine wpAnyH_take (i := 29) (v := ?_) rfl (by kernel_rfl) (by kernel_rfl) (by kernel_rfl) (fun _ _ _ h => h) (Or.inl ⟨by rfl, ?_⟩) hH ?_
    rotate_left
    · intro w hSw
      clear hSw
      go_simp
      try with_reducible rfl
    try simp only [Act.put, List.getElem_toArray, List.getElem_cons_zero, List.getElem_cons_succ, List.setIfInBounds_toArray, List.set_cons_zero, List.set_cons_succ]
    refine wpAnyH_take (i := 30) (v := ?_) rfl (by kernel_rfl) (by kernel_rfl) (by kernel_rfl) (fun _ _ _ h => h) (Or.inl ⟨by rfl, ?_⟩) hH ?_
    rotate_left
    · intro w hSw
      clear hSw
      go_simp
      try with_reducible rfl
    try simp only [Act.put, List.getElem_toArray, List.getElem_cons_zero, List.getElem_cons_succ, List.setIfInBounds_toArray, List.set_cons_zero, List.set_cons_succ]
    refine wpAnyH_take (i := 31) (v := ?_) rfl (by kernel_rfl) (by kernel_rfl) (by kernel_rfl) (fun _ _ _ h => h) (Or.inl ⟨by rfl, ?_⟩) hH ?_
    rotate_left
    · intro w hSw
      clear hSw
      go_simp
      try with_reducible rfl
    try simp only [Act.put, List.getElem_toArray, List.getElem_cons_zero, List.getElem_cons_succ, List.setIfInBounds_toArray, List.set_cons_zero, List.set_cons_succ]
    refine wpAnyH_done (by kernel_rfl) ?_ _
    clear hH HB17 HDR HSA
    have hY7 := blk_below HY7.out hbX
    have hY9 := blk_below HY9.out hbX
    have hY11 := blk_below HY11.out hbX
    have hY13 := blk_below HY13.out hbX
    have m0 : World.cell? w10 ⟨B7, 0, none⟩ = some (.int .i64 sk) := blk_cell hY7 0 _ rfl
    have m1 : World.cell? w10 ⟨B7, 1, none⟩ = some (.int .i64 sn) := blk_cell hY7 1 _ rfl
    have m2 : World.cell? w10 ⟨B7, 2, none⟩ = some (.string st) := blk_cell hY7 2 _ rfl
    have n0 : World.cell? w10 ⟨B9, 0, none⟩ = some (.int .i64 sk) := blk_cell hY9 0 _ rfl
    have n1 : World.cell? w10 ⟨B9, 1, none⟩ = some (.int .i64 sn) := blk_cell hY9 1 _ rfl
    have n2 : World.cell? w10 ⟨B9, 2, none⟩ = some (.string st) := blk_cell hY9 2 _ rfl
    have g0 : World.cell? w10 ⟨B11, 0, none⟩ = some (.int .i64 pr) := blk_cell hY11 0 _ rfl
    have g1 : World.cell? w10 ⟨B11, 1, none⟩ = some (.slice a1 a2 a3) := blk_cell hY11 1 _ rfl
    have g2 : World.cell? w10 ⟨B11, 2, none⟩ = some (.slice a4 a5 a6) := blk_cell hY11 2 _ rfl
    have j0 : World.cell? w10 ⟨B13, 0, none⟩ = some (.int .i64 pr) := blk_cell hY13 0 _ rfl
    have j1 : World.cell? w10 ⟨B13, 1, none⟩ = some (.slice d1 d2 d3) := blk_cell hY13 1 _ rfl
    have j2 : World.cell? w10 ⟨B13, 2, none⟩ = some (.slice d4 d5 d6) := blk_cell hY13 2 _ rfl
    have HSM := Lib.hid (same_feat (HY1.out.below hbX) (HY3.out.below hbX) (by omega))
    have HBX := Lib.hid (below_step HBW.out hbX)
    clear hY7 hY9 hY11 hY13 hbX HY7 HY9 HY11 HY13 HY1 HY3 HBW
    go_wp2_with fail
    (with_reducible refine Calls.mono HSM.out ?_)
    rintro _ w12 ⟨rfl, hb12⟩
    have HBY := Lib.hid (below_step HBX.out hb12)
    have HLV := Lib.hid (HL.out w12 HBY.out)
    clear hb12 m0 m1 m2 n0 n1 n2 g0 g1 g2 j0 j1 j2
    dsimp only
    go_wp2_with fail
    (with_reducible refine Calls.mono HLV.out ?_)
    rintro _ w13 ⟨rfl, hb13⟩
    have HBZ := Lib.hid (below_step HBY.out hb13)
    clear hb13
    dsimp only
    go_wp2_with fail
    go_ret
    exact ⟨rfl, HBZ.out⟩
  · have HSA := Lib.hid (same_feat (HG17.out.below HDR.out) ((HF19.out rfl).below HDR.out) (by omega))
    obtain ⟨qA, qc, hqc, hqh⟩ := srcR_val HR8.out
    have HQH := Lib.hid (show BlkAt w9 q #[.slice qA fs.2.length qc, .int .i64 fs.1] 57 from hqh)
    clear hfz HF19 HG17 HR8 hqc hqh
    refine wp_region_held_drew (S := fun w' => Below w9.heap.size w9 w') (by kernel_rfl) HDR.out (fun hH => ?_)
    try simp only [Act.put, List.getElem_toArray, List.getElem_cons_zero, List.getElem_cons_succ, List.setIfInBounds_toArray, List.set_cons_zero, List.set_cons_succ]
    refine wpAnyH_take (i := 0) (v := ?_) rfl (by kernel_rfl) (by kernel_rfl) (by kernel_rfl) (fun _ _ _ h => h) (Or.inl ⟨by rfl, ?_⟩) hH ?_
    rotate_left
    · intro w hSw
      clear hSw
      go_simp
      try with_reducible rfl
    try simp only [Act.put, List.getElem_toArray, List.getElem_cons_zero, List.getElem_cons_succ, List.setIfInBounds_toArray, List.set_cons_zero, List.set_cons_succ]
    refine wpAnyH_take (i := 1) (v := ?_) rfl (by kernel_rfl) (by kernel_rfl) (by kernel_rfl) (fun _ _ _ h => h) (Or.inl ⟨by rfl, ?_⟩) hH ?_
    rotate_left
    · intro w hSw
      clear hSw
      go_simp
      try with_reducible rfl
    try simp only [Act.put, List.getElem_toArray, List.getElem_cons_zero, List.getElem_cons_succ, List.setIfInBounds_toArray, List.set_cons_zero, List.set_cons_succ]
    refine wpAnyH_take (i := 2) (v := ?_) rfl (by kernel_rfl) (by kernel_rfl) (by kernel_rfl) (fun _ _ _ h => h) (Or.inl ⟨by rfl, ?_⟩) hH ?_
    rotate_left
    · intro w hSw
      clear hSw
      go_simp
      try with_reducible rfl
    try simp only [Act.put, List.getElem_toArray, List.getElem_cons_zero, List.getElem_cons_succ, List.setIfInBounds_toArray, List.set_cons_zero, List.set_cons_succ]
    refine wpAnyH_take (i := 3) (v := ?_) rfl (by kernel_rfl) (by kernel_rfl) (by kernel_rfl) (fun _ _ _ h => h) (Or.inl ⟨by rfl, ?_⟩) hH ?_
    rotate_left
    · intro w hSw
      clear hSw
      go_simp
      try with_reducible rfl
    try simp only [Act.put, List.getElem_toArray, List.getElem_cons_zero, List.getElem_cons_succ, List.setIfInBounds_toArray, List.set_cons_zero, List.set_cons_succ]
    refine wpAnyH_take (i := 4) (v := ?_) rfl (by kernel_rfl) (by kernel_rfl) (by kernel_rfl) (fun _ _ _ h => h) (Or.inl ⟨by rfl, ?_⟩) hH ?_
    rotate_left
    · intro w hSw
      clear hSw
      go_simp
      try with_reducible rfl
    try simp only [Act.put, List.getElem_toArray, List.getElem_cons_zero, List.getElem_cons_succ, List.setIfInBounds_toArray, List.set_cons_zero, List.set_cons_succ]
    refine wpAnyH_take (i := 5) (v := ?_) rfl (by kernel_rfl) (by kernel_rfl) (by kernel_rfl) (fun _ _ _ h => h) (Or.inl ⟨by rfl, ?_⟩) hH ?_
    rotate_left
    · intro w hSw
      clear hSw
      go_simp
      try with_reducible rfl
    try simp only [Act.put, List.getElem_toArray, List.getElem_cons_zero, List.getElem_cons_succ, List.setIfInBounds_toArray, List.set_cons_zero, List.set_cons_succ]
    refine wpAnyH_take (i := 6) (v := ?_) rfl (by kernel_rfl) (by kernel_rfl) (by kernel_rfl) (fun _ _ _ h => h) (Or.inl ⟨by rfl, ?_⟩) hH ?_
    rotate_left
    · intro w hSw
      have p0 : World.cell? w ⟨B17, 0, none⟩ = some (.int .i64 fr) := blk_cell (blk_below HB17.out hSw) 0 _ rfl
      have p1 : World.cell? w ⟨B17, 1, none⟩ = some (.slice b1 b2 b3) := blk_cell (blk_below HB17.out hSw) 1 _ rfl
      have p2 : World.cell? w ⟨B17, 2, none⟩ = some (.slice b4 b5 b6) := blk_cell (blk_below HB17.out hSw) 2 _ rfl
      clear hSw
      go_simp
      try with_reducible rfl
    try simp only [Act.put, List.getElem_toArray, List.getElem_cons_zero, List.getElem_cons_succ, List.setIfInBounds_toArray, List.set_cons_zero, List.set_cons_succ]
    refine wpAnyH_take (i := 7) (v := ?_) rfl (by kernel_rfl) (by kernel_rfl) (by kernel_rfl) (fun _ _ _ h => h) (Or.inl ⟨by rfl, ?_⟩) hH ?_
    rotate_left
    · intro w hSw
      have r0 : World.cell? w ⟨B19, 0, none⟩ = some (.int .i64 c8) := blk_cell (blk_below HA19.out hSw) 0 _ rfl
      have r1 : World.cell? w ⟨B19, 1, none⟩ = some (.slice e1 e2 e3) := blk_cell (blk_below HA19.out hSw) 1 _ rfl
      have r2 : World.cell? w ⟨B19, 2, none⟩ = some (.slice e4 e5 e6) := blk_cell (blk_below HA19.out hSw) 2 _ rfl
      clear hSw
      go_simp
      try with_reducible rfl
    try simp only [Act.put, List.getElem_toArray, List.getElem_cons_zero, List.getElem_cons_succ, List.setIfInBounds_toArray, List.set_cons_zero, List.set_cons_succ]
    refine wpAnyH_ready (rs := [8]) (by kernel_rfl) (by simp) ?_
    refine AllReadyH.cons rfl (fun K hK => ?_) AllReadyH.nil
    go_simp
    go_wp2_with (go_at_call 21; (with_reducible refine Calls.mono HSA.out ?_); rintro _ w10 ⟨rfl, hb10⟩)
    have hbX := below_step HDR.out hb10
    clear hb10
    refine hK.out _ _ hbX (fun hH => ?_)
    clear hK K
    try simp only [Act.put, List.getElem_toArray, List.getElem_cons_zero, List.getElem_cons_succ, List.setIfInBounds_toArray, List.set_cons_zero, List.set_cons_succ]
    refine wpAnyH_take (i := 9) (v := ?_) rfl (by kernel_rfl) (by kernel_rfl) (by kernel_rfl) (fun _ _ _ h => h) (Or.inl ⟨by rfl, ?_⟩) hH ?_
    rotate_left
    · intro w hSw
      clear hSw
      go_simp
      try with_reducible rfl
    try simp only [Act.put, List.getElem_toArray, List.getElem_cons_zero, List.getElem_cons_succ, List.setIfInBounds_toArray, List.set_cons_zero, List.set_cons_succ]
    refine wpAnyH_take (i := 10) (v := ?_) rfl (by kernel_rfl) (by kernel_rfl) (by kernel_rfl) (fun _ _ _ h => h) (Or.inl ⟨by rfl, ?_⟩) hH ?_
    rotate_left
    · intro w hSw
      clear hSw
      go_simp
      try with_reducible rfl
    try simp only [Act.put, List.getElem_toArray, List.getElem_cons_zero, List.getElem_cons_succ, List.setIfInBounds_toArray, List.set_cons_zero, List.set_cons_succ]
    refine wpAnyH_take (i := 11) (v := ?_) rfl (by kernel_rfl) (by kernel_rfl) (by kernel_rfl) (fun _ _ _ h => h) (Or.inl ⟨by rfl, ?_⟩) hH ?_
    rotate_left
    · intro w hSw
      clear hSw
      go_simp
      try with_reducible rfl
    try simp only [Act.put, List.getElem_toArray, List.getElem_cons_zero, List.getElem_cons_succ, List.setIfInBounds_toArray, List.set_cons_zero, List.set_cons_succ]
    refine wpAnyH_take (i := 13) (v := ?_) rfl (by kernel_rfl) (by kernel_rfl) (by kernel_rfl) (fun _ _ _ h => h) (Or.inl ⟨by rfl, ?_⟩) hH ?_
    rotate_left
    · intro w hSw
      clear hSw
      go_simp
      try with_reducible rfl
    try simp only [Act.put, List.getElem_toArray, List.getElem_cons_zero, List.getElem_cons_succ, List.setIfInBounds_toArray, List.set_cons_zero, List.set_cons_succ]
    refine wpAnyH_take (i := 14) (v := ?_) rfl (by kernel_rfl) (by kernel_rfl) (by kernel_rfl) (fun _ _ _ h => h) (Or.inl ⟨by rfl, ?_⟩) hH ?_
    rotate_left
    · intro w hSw
      clear hSw
      go_simp
      try with_reducible rfl
    try simp only [Act.put, List.getElem_toArray, List.getElem_cons_zero, List.getElem_cons_succ, List.setIfInBounds_toArray, List.set_cons_zero, List.set_cons_succ]
    refine wpAnyH_take (i := 15) (v := ?_) rfl (by kernel_rfl) (by kernel_rfl) (by kernel_rfl) (fun _ _ _ h => h) (Or.inl ⟨by rfl, ?_⟩) hH ?_
    rotate_left
    · intro w hSw
      clear hSw
      go_simp
      try with_reducible rfl
    try simp only [Act.put, List.getElem_toArray, List.getElem_cons_zero, List.getElem_cons_succ, List.setIfInBounds_toArray, List.set_cons_zero, List.set_cons_succ]
    refine wpAnyH_take (i := 16) (v := ?_) rfl (by kernel_rfl) (by kernel_rfl) (by kernel_rfl) (fun _ _ _ h => h) (Or.inl ⟨by rfl, ?_⟩) hH ?_
    rotate_left
    · intro w hSw
      have q0 : World.cell? w ⟨q, 0, none⟩ = some (.slice qA fs.2.length qc) := blk_cell (blk_below HQH.out hSw) 0 _ rfl
      clear hSw
      go_simp
      try with_reducible rfl
    try simp only [Act.put, List.getElem_toArray, List.getElem_cons_zero, List.getElem_cons_succ, List.setIfInBounds_toArray, List.set_cons_zero, List.set_cons_succ]
    refine wpAnyH_take (i := 17) (v := ?_) rfl (by kernel_rfl) (by kernel_rfl) (by kernel_rfl) (fun _ _ _ h => h) (Or.inl ⟨by rfl, ?_⟩) hH ?_
    rotate_left
    · intro w hSw
      clear hSw
      go_simp
      try with_reducible rfl
    try simp only [Act.put, List.getElem_toArray, List.getElem_cons_zero, List.getElem_cons_succ, List.setIfInBounds_toArray, List.set_cons_zero, List.set_cons_succ]
    have HLF := Lib.hid (left_val p fs w10 (src_below HS8.out hbX))
    refine wpAnyH_ready (rs := [12]) (by kernel_rfl) (by simp) ?_
    refine AllReadyH.cons rfl (fun K hK => ?_) AllReadyH.nil
    go_simp
    go_wp2_with (go_at_call 22; (with_reducible refine Calls.mono HLF.out ?_); rintro _ w10 ⟨rfl, rfl⟩)
    refine hK.out _ _ hbX (fun hH => ?_)
    clear hK K HLF
    try simp only [Act.put, List.getElem_toArray, List.getElem_cons_zero, List.getElem_cons_succ, List.setIfInBounds_toArray, List.set_cons_zero, List.set_cons_succ]
    refine wpAnyH_take (i := 18) (v := ?_) rfl (by kernel_rfl) (by kernel_rfl) (by kernel_rfl) (fun _ _ _ h => h) (Or.inl ⟨by rfl, ?_⟩) hH ?_
    rotate_left
    · intro w hSw
      clear hSw
      go_simp
      try with_reducible rfl
    try simp only [Act.put, List.getElem_toArray, List.getElem_cons_zero, List.getElem_cons_succ, List.setIfInBounds_toArray, List.set_cons_zero, List.set_cons_succ]
    refine wpAnyH_take (i := 19) (v := ?_) rfl (by kernel_rfl) (by kernel_rfl) (by kernel_rfl) (fun _ _ _ h => h) (Or.inl ⟨by rfl, ?_⟩) hH ?_
    rotate_left
    · intro w hSw
      clear hSw
      go_simp
      try with_reducible rfl
    try simp only [Act.put, List.getElem_toArray, List.getElem_cons_zero, List.getElem_cons_succ, List.setIfInBounds_toArray, List.set_cons_zero, List.set_cons_succ]
    refine wpAnyH_take (i := 20) (v := ?_) rfl (by kernel_rfl) (by kernel_rfl) (by kernel_rfl) (fun _ _ _ h => h) (Or.inl ⟨by rfl, ?_⟩) hH ?_
    rotate_left
    · intro w hSw
      clear hSw
      go_simp
      try with_reducible rfl
    try simp only [Act.put, List.getElem_toArray, List.getElem_cons_zero, List.getElem_cons_succ, List.setIfInBounds_toArray, List.set_cons_zero, List.set_cons_succ]
    refine wpAnyH_take (i := 21) (v := ?_) rfl (by kernel_rfl) (by kernel_rfl) (by kernel_rfl) (fun _ _ _ h => h) (Or.inl ⟨by rfl, ?_⟩) hH ?_
    rotate_left
    · intro w hSw
      clear hSw
      go_simp
      try with_reducible rfl
    try simp only [Act.put, List.getElem_toArray, List.getElem_cons_zero, List.getElem_cons_succ, List.setIfInBounds_toArray, List.set_cons_zero, List.set_cons_succ]
    refine wpAnyH_take (i := 22) (v := ?_) rfl (by kernel_rfl) (by kernel_rfl) (by kernel_rfl) (fun _ _ _ h => h) (Or.inl ⟨by rfl, ?_⟩) hH ?_
    rotate_left
    · intro w hSw
      clear hSw
      go_simp
      try with_reducible rfl
    try simp only [Act.put, List.getElem_toArray, List.getElem_cons_zero, List.getElem_cons_succ, List.setIfInBounds_toArray, List.set_cons_zero, List.set_cons_succ]
    refine wpAnyH_take (i := 23) (v := ?_) rfl (by kernel_rfl) (by kernel_rfl) (by kernel_rfl) (fun _ _ _ h => h) (Or.inl ⟨by rfl, ?_⟩) hH ?_
    rotate_left
    · intro w hSw
      clear hSw
      go_simp
      try with_reducible rfl
    try simp only [Act.put, List.getElem_toArray, List.getElem_cons_zero, List.getElem_cons_succ, List.setIfInBounds_toArray, List.set_cons_zero, List.set_cons_succ]
    refine wpAnyH_take (i := 24) (v := ?_) rfl (by kernel_rfl) (by kernel_rfl) (by kernel_rfl) (fun _ _ _ h => h) (Or.inl ⟨by rfl, ?_⟩) hH ?_
    rotate_left
    · intro w hSw
      clear hSw
      go_simp
      try with_reducible rfl
    try simp only [Act.put, List.getElem_toArray, List.getElem_cons_zero, List.getElem_cons_succ, List.setIfInBounds_toArray, List.set_cons_zero, List.set_cons_succ]
    refine wpAnyH_take (i := 25) (v := ?_) rfl (by kernel_rfl) (by kernel_rfl) (by kernel_rfl) (fun _ _ _ h => h) (Or.inl ⟨by rfl, ?_⟩) hH ?_
    rotate_left
    · intro w hSw
      clear hSw
      go_simp
      try with_reducible rfl
    try simp only [Act.put, List.getElem_toArray, List.getElem_cons_zero, List.getElem_cons_succ, List.setIfInBounds_toArray, List.set_cons_zero, List.set_cons_succ]
    refine wpAnyH_take (i := 26) (v := undef) rfl (by kernel_rfl) (by kernel_rfl) (by kernel_rfl) (fun _ _ _ h => h) (Or.inr ⟨by rfl, rfl⟩) hH ?_
    try simp only [Act.put, List.getElem_toArray, List.getElem_cons_zero, List.getElem_cons_succ, List.setIfInBounds_toArray, List.set_cons_zero, List.set_cons_succ]
    refine wpAnyH_take (i := 27) (v := undef) rfl (by kernel_rfl) (by kernel_rfl) (by kernel_rfl) (fun _ _ _ h => h) (Or.inr ⟨by rfl, rfl⟩) hH ?_
    try simp only [Act.put, List.getElem_toArray, List.getElem_cons_zero, List.getElem_cons_succ, List.setIfInBounds_toArray, List.set_cons_zero, List.set_cons_succ]
    refine wpAnyH_take (i := 28) (v := undef) rfl (by kernel_rfl) (by kernel_rfl) (by kernel_rfl) (fun _ _ _ h => h) (Or.inr ⟨by rfl, rfl⟩) hH ?_
    try simp only [Act.put, List.getElem_toArray, List.getElem_cons_zero, List.getElem_cons_succ, List.setIfInBounds_toArray, List.set_cons_zero, List.set_cons_succ]
    refine wpAnyH_take (i := 29) (v := undef) rfl (by kernel_rfl) (by kernel_rfl) (by kernel_rfl) (fun _ _ _ h => h) (Or.inr ⟨by rfl, rfl⟩) hH ?_
    try simp only [Act.put, List.getElem_toArray, List.getElem_cons_zero, List.getElem_cons_succ, List.setIfInBounds_toArray, List.set_cons_zero, List.set_cons_succ]
    refine wpAnyH_take (i := 30) (v := ?_) rfl (by kernel_rfl) (by kernel_rfl) (by kernel_rfl) (fun _ _ _ h => h) (Or.inl ⟨by rfl, ?_⟩) hH ?_
    rotate_left
    · intro w hSw
      clear hSw
      go_simp
      try with_reducible rfl
    try simp only [Act.put, List.getElem_toArray, List.getElem_cons_zero, List.getElem_cons_succ, List.setIfInBounds_toArray, List.set_cons_zero, List.set_cons_succ]
    refine wpAnyH_take (i := 31) (v := ?_) rfl (by kernel_rfl) (by kernel_rfl) (by kernel_rfl) (fun _ _ _ h => h) (Or.inl ⟨by rfl, ?_⟩) hH ?_
    rotate_left
    · intro w hSw
      clear hSw
      go_simp
      try with_reducible rfl
    try simp only [Act.put, List.getElem_toArray, List.getElem_cons_zero, List.getElem_cons_succ, List.setIfInBounds_toArray, List.set_cons_zero, List.set_cons_succ]
    refine wpAnyH_done (by kernel_rfl) ?_ _
    clear hH HB17 HA19 HDR HSA HQH HS8
    have hY7 := blk_below HY7.out hbX
    have hY9 := blk_below HY9.out hbX
    have hY11 := blk_below HY11.out hbX
    have hY13 := blk_below HY13.out hbX
    have m0 : World.cell? w10 ⟨B7, 0, none⟩ = some (.int .i64 sk) := blk_cell hY7 0 _ rfl
    have m1 : World.cell? w10 ⟨B7, 1, none⟩ = some (.int .i64 sn) := blk_cell hY7 1 _ rfl
    have m2 : World.cell? w10 ⟨B7, 2, none⟩ = some (.string st) := blk_cell hY7 2 _ rfl
    have n0 : World.cell? w10 ⟨B9, 0, none⟩ = some (.int .i64 sk) := blk_cell hY9 0 _ rfl
    have n1 : World.cell? w10 ⟨B9, 1, none⟩ = some (.int .i64 sn) := blk_cell hY9 1 _ rfl
    have n2 : World.cell? w10 ⟨B9, 2, none⟩ = some (.string st) := blk_cell hY9 2 _ rfl
    have g0 : World.cell? w10 ⟨B11, 0, none⟩ = some (.int .i64 pr) := blk_cell hY11 0 _ rfl
    have g1 : World.cell? w10 ⟨B11, 1, none⟩ = some (.slice a1 a2 a3) := blk_cell hY11 1 _ rfl
    have g2 : World.cell? w10 ⟨B11, 2, none⟩ = some (.slice a4 a5 a6) := blk_cell hY11 2 _ rfl
    have j0 : World.cell? w10 ⟨B13, 0, none⟩ = some (.int .i64 pr) := blk_cell hY13 0 _ rfl
    have j1 : World.cell? w10 ⟨B13, 1, none⟩ = some (.slice d1 d2 d3) := blk_cell hY13 1 _ rfl
    have j2 : World.cell? w10 ⟨B13, 2, none⟩ = some (.slice d4 d5 d6) := blk_cell hY13 2 _ rfl
    have HSM := Lib.hid (same_feat (HY1.out.below hbX) (HY3.out.below hbX) (by omega))
    have HBX := Lib.hid (below_step HBW.out hbX)
    clear hY7 hY9 hY11 hY13 hbX HY7 HY9 HY11 HY13 HY1 HY3 HBW
    go_wp2_with fail
    (with_reducible refine Calls.mono HSM.out ?_)
    rintro _ w12 ⟨rfl, hb12⟩
    have HBY := Lib.hid (below_step HBX.out hb12)
    have HLV := Lib.hid (HL.out w12 HBY.out)
    clear hb12 m0 m1 m2 n0 n1 n2 g0 g1 g2 j0 j1 j2
    dsimp only
    go_wp2_with fail
    (with_reducible refine Calls.mono HLV.out ?_)
    rintro _ w13 ⟨rfl, hb13⟩
    have HBZ := Lib.hid (below_step HBY.out hb13)
    clear hb13
    dsimp only
    go_wp2_with fail
    go_ret
    exact ⟨rfl, HBZ.out⟩
end Go.Proofs.YtcjidlgmbjebjaaGreatDoor
