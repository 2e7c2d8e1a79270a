/- A part of the proof of SchemaForms. -/
import Derived.Test.YtcjidlgmbjebjaaDoorSft
import Derived.Test.YtcjidlgmbjebjaaDoorSfn
import Derived.Test.YtcjidlgmbjebjaaDoorSfp
import Derived.BigQuiet
import Derived.Deep.RegionHeldLaw
set_option linter.unusedVariables false
set_option linter.unusedSimpArgs false
set_option maxRecDepth 100000
namespace Go.Proofs.YtcjidlgmbjebjaaDoor
open Go Go.RowKit Go.Proofs.YtcjidlgmbjebjaaDoorW.PrintWords
theorem colinfo94 : Option.map (fun i => (i.zero, i.size, i.bytes)) (Tryd.prog.info? 94) = some (some (.agg #[.string ⟨#[]⟩, .int .i64 0, .bool false]), 3, 32) := by kernel_rfl
def eF (nm : ByteArray) (kd srs : Int) (cs : List Col) (sr : Sb.Src) : Nat → Ent
  | 0 => ⟨nm, kd, srs, cs, 0, 0, 0, 0, 0, 0, 0, false, 0, 0, 0, 0⟩
  | 1 => ⟨nm, kd, srs, cs, nK sr 0, 0, 0, 0, 0, 0, 0, false, 0, 0, 0, 0⟩
  | 2 => ⟨nm, kd, srs, cs, nK sr 0, nK sr 1, 0, 0, 0, 0, 0, false, 0, 0, 0, 0⟩
  | 3 => ⟨nm, kd, srs, cs, nK sr 0, nK sr 1, nK sr 2, 0, 0, 0, 0, false, 0, 0, 0, 0⟩
  | 4 => ⟨nm, kd, srs, cs, nK sr 0, nK sr 1, nK sr 2, nK sr 3, 0, 0, 0, false, 0, 0, 0, 0⟩
  | 5 => ⟨nm, kd, srs, cs, nK sr 0, nK sr 1, nK sr 2, nK sr 3, nK sr 4, 0, 0, false, 0, 0, 0, 0⟩
  | 6 => ⟨nm, kd, srs, cs, nK sr 0, nK sr 1, nK sr 2, nK sr 3, nK sr 4, nK sr 5, 0, false, 0, 0, 0, 0⟩
  | _ => ⟨nm, kd, srs, cs, nK sr 0, nK sr 1, nK sr 2, nK sr 3, nK sr 4, nK sr 5, nK sr 6, false, 0, 0, 0, 0⟩
/-- Behind the columns' loop. -/
def QcE (nm : ByteArray) (kd srs nc : Int) (s4 : Sb.Src) (W : World) (p E : Nat) (w' : World) : Prop :=
  ∃ (sr : Sb.Src) (cs : List Col) (v : Value), Inv sr ∧ (∀ c ∈ cs, c.1.size ≤ 255) ∧ (cs, sr) = Sb.sCols nc.toNat s4 ∧ PT W W.heap.size p E (E + 1) sr (⟨nm, kd, srs, cs, 0, 0, 0, 0, 0, 0, 0, false, 0, 0, 0, 0⟩ : Ent) v w'
def QcR (nm : ByteArray) (kd srs nc : Int) (s4 : Sb.Src) (W : World) (p E : Nat) (i : Value) (w' : World) : Prop :=
  ∃ (m : Nat) (sr : Sb.Src) (cs : List Col) (v : Value), i = .int .i64 m ∧ (m : Int) ≤ nc ∧ Inv sr ∧ (∀ c ∈ cs, c.1.size ≤ 255) ∧ cs.length + m ≤ 255 ∧ (cs ++ (Sb.sCols m sr).1, (Sb.sCols m sr).2) = Sb.sCols nc.toNat s4 ∧
    PT W W.heap.size p E (E + 1) sr (⟨nm, kd, srs, cs, 0, 0, 0, 0, 0, 0, 0, false, 0, 0, 0, 0⟩ : Ent) v w'
/-- The tree's three numbers. -/
def Q3R (nm : ByteArray) (kd srs : Int) (cs : List Col) (sr : Sb.Src) (v : Value) (W : World) (p E : Nat) (i : Value) (w' : World) : Prop :=
  ∃ j : Nat, j ≤ 3 ∧ i = .int .i64 j ∧ PT W W.heap.size p E (E + 1) (stK sr (2 + j)) (eF nm kd srs cs sr (2 + j)) v w'
def QbE (l : List Int) (W : World) (p E : Nat) (w' : World) : Prop :=
  ∃ (sr : Sb.Src) (en : Ent) (v : Value), Sb.raw l = (some en, sr) ∧ en.nm.size ≤ 255 ∧ (∀ c ∈ en.cs, c.1.size ≤ 255) ∧ Inv sr ∧ PT W W.heap.size p E (E + 1) sr en v w'
theorem QbE.mk {l : List Int} {W : World} {p E : Nat} {w' : World} {sr : Sb.Src} {en : Ent} {v : Value} (h1 : Sb.raw l = (some en, sr)) (h2 : en.nm.size ≤ 255) (h3 : ∀ c ∈ en.cs, c.1.size ≤ 255) (h4 : Inv sr) (h5 : PT W W.heap.size p E (E + 1) sr en v w') : QbE l W p E w' :=
  ⟨sr, en, v, h1, h2, h3, h4, h5⟩
theorem sName_two (s : Sb.Src) : Sb.sName s = (strOfNums (Sb.sTake (Sb.sByte s).1.toNat (Sb.sByte s).2).1, (Sb.sTake (Sb.sByte s).1.toNat (Sb.sByte s).2).2) := rfl
theorem s_pc {W wc w' : World} {R p E B : Nat} {s : Sb.Src} {en : Ent} {va : Option Addr} {vc : Nat} {A0 : Option Addr} {M0 c0 : Nat} {l : List Int} (n : PM W R p E B) (h : PT W R p E B s en (.slice va en.cs.length vc) wc) (hv : SlB W (.slice A0 M0 c0) l) (hb : Below wc.heap.size wc w') :
    BlkAt w' E (entL en (.slice va en.cs.length vc)) 72 ∧ w'.cell? ⟨E, 0, none⟩ = some (.string en.nm) ∧ w'.cell? ⟨E, 1, none⟩ = some (.int .i64 en.kd) ∧ w'.cell? ⟨E, 2, none⟩ = some (.int .i64 en.srs) ∧ w'.cell? ⟨E, 3, none⟩ = some (.slice va en.cs.length vc) ∧ w'.cell? ⟨E, 4, none⟩ = some (.int .i64 en.id) ∧ w'.cell? ⟨E, 5, none⟩ = some (.int .i64 en.tb) ∧ w'.cell? ⟨E, 6, none⟩ = some (.int .i64 en.t0) ∧ w'.cell? ⟨E, 7, none⟩ = some (.int .i64 en.t1) ∧ w'.cell? ⟨E, 8, none⟩ = some (.int .i64 en.t2) ∧ w'.cell? ⟨E, 9, none⟩ = some (.int .i64 en.ct) ∧ w'.cell? ⟨E, 10, none⟩ = some (.int .i64 en.nx) ∧ w'.cell? ⟨E, 11, none⟩ = some (.bool en.bn) ∧ w'.cell? ⟨E, 12, none⟩ = some (.int .i64 en.lx) ∧ w'.cell? ⟨E, 13, none⟩ = some (.int .i64 en.ly) ∧ w'.cell? ⟨E, 14, none⟩ = some (.int .i64 en.hx) ∧ w'.cell? ⟨E, 15, none⟩ = some (.int .i64 en.hy) ∧ (Go.convert 43 9 (.slice A0 M0 c0)).run Tryd.prog w' = .ok (.string (strOfNums l)) w' ∧ Below wc.heap.size wc w' := by
  have h' := h.below n hb
  have hB := h'.eb
  exact ⟨hB, blk_cell hB 0 _ rfl, blk_cell hB 1 _ rfl, blk_cell hB 2 _ rfl, blk_cell hB 3 _ rfl, blk_cell hB 4 _ rfl, blk_cell hB 5 _ rfl, blk_cell hB 6 _ rfl, blk_cell hB 7 _ rfl, blk_cell hB 8 _ rfl, blk_cell hB 9 _ rfl, blk_cell hB 10 _ rfl, blk_cell hB 11 _ rfl, blk_cell hB 12 _ rfl, blk_cell hB 13 _ rfl, blk_cell hB 14 _ rfl, blk_cell hB 15 _ rfl, slb_conv (slb_below hv h'.bel), hb⟩
theorem str_ne {a b : List Int} (h1 : Byt a) (h2 : Byt b) (h : ¬ a = b) : ¬ strOfNums a = strOfNums b := by
  intro e
  have h3 := str_eq h2 h1
  rw [e] at h3
  simp [h] at h3
set_option maxHeartbeats 16000000 in
theorem rparse_val (v0 : Value) (l : List Int) (hb : Byt l) (hl : l.length ≤ 100000) (W : World) (hv : SlB W v0 l) : Calls Tryd.prog 39 #[v0] W (RetPe l W) := by
  have HV := Lib.hid hv
  obtain ⟨A0, c0, rfl, hc0, _⟩ := hv
  generalize hM : l.length = M0 at HV hc0
  have HM := Lib.hid hM
  have HR := Lib.hid (fun w h => rread_val (.slice A0 M0 c0) l w h (by omega))
  obtain ⟨i0, hi, hz0, hz1, hz2⟩ := info_parts colinfo94
  go_enter Tryd.func39, Tryd.ntmps39
  go_wp2_with fail
  refine (HR.out _ (slb_alloc HV.out _)).mono ?_
  rintro e w1 ⟨p, rfl, hp, hs, hbl⟩
  have hpl := srcR_lt hs
  have hrb := blk_below (show BlkAt (W.alloc (.cells (entL zeroE nilS) 72)) W.heap.size (entL zeroE nilS) 72 from hp_new _ _ _ rfl) hbl
  have hB1 := below_step (show Below W.heap.size W _ from (Below.refl W.heap.size W).alloc (Nat.le_refl _) _) hbl
  have hpW : W.heap.size < p := by simp at hp; omega
  obtain ⟨n⟩ : Nonempty (PM W W.heap.size p w1.heap.size (w1.heap.size + 1)) := ⟨⟨by omega, by omega, by omega, by omega, by omega, by omega, by omega, by omega, by omega, by omega⟩⟩
  have HP0 := Lib.hid (show PT W W.heap.size p w1.heap.size (w1.heap.size + 1) (0, l) zeroE nilS (w1.alloc (.cells (entL zeroE nilS) 72)) from
    ⟨srcR_alloc hs _, hp_new _ _ _ rfl, blk_alloc hrb _, World.ownsRow_nil _ _ _ _, hB1.alloc hB1.size _, by simp⟩)
  clear hs hbl hp hrb hB1
  have I0 : Inv (0, l) := ⟨hb, by show l.length ≤ _; omega⟩
  obtain ⟨k1, a1, y1⟩ : ∃ k a, Sb.sByte (0, l) = (k, a) := ⟨_, _, rfl⟩
  have Ia1 := inv_byte I0
  have hk1 := (be_one I0.1).2
  have HCa1 := Lib.hid (rbyte_val p (0, l) I0.1 I0.2 _ HP0.out.src)
  rw [y1] at Ia1 hk1 HCa1
  dsimp only at Ia1 hk1 HCa1
  obtain ⟨t1, b1, x1⟩ : ∃ t b, Sb.sTake k1.toNat a1 = (t, b) := ⟨_, _, rfl⟩
  have Ib1 := inv_take k1.toNat Ia1
  have hln1 := take_len (n := k1.toNat) (s := a1)
  have HCb1 := Lib.hid (fun w h => rbytes_val p k1.toNat (by omega) a1 Ia1.2 w h)
  rw [x1] at Ib1 hln1
  unfold RetBR at HCb1
  rw [x1, show ((k1.toNat : Nat) : Int) = k1 by omega] at HCb1
  dsimp only at Ib1 hln1 HCb1
  have hws1 : IntKind.i64.wrap k1 = k1 := by rw [IntKind.wrap_i64]; omega
  have HNM1 := Lib.hid (show Sb.sName (0, l) = (strOfNums t1, b1) by rw [sName_two, y1]; dsimp only; rw [x1])
  have hsz1 : (strOfNums t1).size ≤ 255 := by rw [strOfNums_size]; omega
  try dsimp only
  go_wp2_with fail
  refine HCa1.out.mono ?_
  rintro e w2 ⟨rfl, hsx, hkx⟩
  have HPa1 := Lib.hid (HP0.out.op n hsx hkx)
  clear hsx hkx
  dsimp only
  go_wp2_with fail
  refine (HCb1.out _ HPa1.out.src).mono ?_
  rintro e w3 ⟨Av1, mv1, cv1, rfl, hmv1, hv1, hsx, hkx⟩
  have HPb1 := Lib.hid (HPa1.out.op n hsx hkx)
  have hcv := slb_conv hv1
  clear hsx hkx hws1 hmv1
  have cE : World.cell? w3 ⟨w1.heap.size, 0, none⟩ = some (.string ⟨#[]⟩) := blk_cell HPb1.out.eb 0 _ rfl
  have fE : World.frozen? w3 ⟨w1.heap.size, 0, none⟩ = false := Lib.frozen_of_heap HPb1.out.eb 0
  generalize strOfNums t1 = nm at hcv HNM1 hsz1
  generalize b1 = s1 at HNM1 HPb1 Ib1
  dsimp only
  go_wp2_with fail
  have HS1 := Lib.hid (show PT W W.heap.size p w1.heap.size (w1.heap.size + 1) s1 (⟨nm, 0, 0, [], 0, 0, 0, 0, 0, 0, 0, false, 0, 0, 0, 0⟩ : Ent) nilS (w3.setCell ⟨w1.heap.size, 0, none⟩ (.string nm)) from HPb1.out.set n 0 _ rfl rfl)
  clear cE fE hcv
  obtain ⟨kd, s2, q2⟩ : ∃ kd s2, Sb.sByte s1 = (kd, s2) := ⟨_, _, rfl⟩
  have I2 := inv_byte Ib1
  have hkd := (be_one Ib1.1).2
  have HC2 := Lib.hid (rbyte_val p s1 Ib1.1 Ib1.2 _ HS1.out.src)
  rw [q2] at I2 hkd HC2
  dsimp only at I2 hkd HC2
  have hwk : IntKind.i64.wrap kd = kd := by rw [IntKind.wrap_i64]; omega
  refine HC2.out.mono ?_
  rintro e w4 ⟨rfl, hsx, hkx⟩
  have HP2 := Lib.hid (HS1.out.op n hsx hkx)
  clear hsx hkx
  have cE : World.cell? w4 ⟨w1.heap.size, 1, none⟩ = some (.int .i64 0) := blk_cell HP2.out.eb 1 _ rfl
  have fE : World.frozen? w4 ⟨w1.heap.size, 1, none⟩ = false := Lib.frozen_of_heap HP2.out.eb 1
  dsimp only
  go_wp2_with fail
  have HS2 := Lib.hid (show PT W W.heap.size p w1.heap.size (w1.heap.size + 1) s2 (⟨nm, kd, 0, [], 0, 0, 0, 0, 0, 0, 0, false, 0, 0, 0, 0⟩ : Ent) nilS (w4.setCell ⟨w1.heap.size, 1, none⟩ (.int .i64 kd)) from HP2.out.set n 1 _ rfl rfl)
  obtain ⟨srs, s3, q3⟩ : ∃ srs s3, Sb.sInt s2 = (srs, s3) := ⟨_, _, rfl⟩
  have I3 := inv_int I2
  have HC3 := Lib.hid (rint_val p s2 I2.1 I2.2 _ HS2.out.src)
  rw [q3] at I3 HC3
  dsimp only at I3 HC3
  refine HC3.out.mono ?_
  rintro e w5 ⟨rfl, hsx, hkx⟩
  have HP3 := Lib.hid (HS2.out.op n hsx hkx)
  clear cE fE hsx hkx hwk
  have cE : World.cell? w5 ⟨w1.heap.size, 2, none⟩ = some (.int .i64 0) := blk_cell HP3.out.eb 2 _ rfl
  have fE : World.frozen? w5 ⟨w1.heap.size, 2, none⟩ = false := Lib.frozen_of_heap HP3.out.eb 2
  dsimp only
  go_wp2_with fail
  have HS3 := Lib.hid (show PT W W.heap.size p w1.heap.size (w1.heap.size + 1) s3 (⟨nm, kd, srs, [], 0, 0, 0, 0, 0, 0, 0, false, 0, 0, 0, 0⟩ : Ent) nilS (w5.setCell ⟨w1.heap.size, 2, none⟩ (.int .i64 srs)) from HP3.out.set n 2 _ rfl rfl)
  obtain ⟨nc, s4, q4⟩ : ∃ nc s4, Sb.sByte s3 = (nc, s4) := ⟨_, _, rfl⟩
  have I4 := inv_byte I3
  have hnc := (be_one I3.1).2
  have HC4 := Lib.hid (rbyte_val p s3 I3.1 I3.2 _ HS3.out.src)
  rw [q4] at I4 hnc HC4
  dsimp only at I4 hnc HC4
  have hwn : IntKind.i64.wrap nc = nc := by rw [IntKind.wrap_i64]; omega
  refine HC4.out.mono ?_
  rintro e w6 ⟨rfl, hsx, hkx⟩
  have HP4 := Lib.hid (HS3.out.op n hsx hkx)
  clear cE fE hsx hkx
  dsimp only
  go_upto_block 0 with fail
  go_cut [] (fun wx => QcE nm kd srs nc s4 W p w1.heap.size wx)
  case first =>
    as_aux_lemma =>
    go_wp2_with fail
    go_loopw [6] (fun i w' => QcR nm kd srs nc s4 W p w1.heap.size i w') (fun i _ => (intOf i).toNat)
    case atStart => exact ⟨nc.toNat, s4, [], nilS, by rw [Int.toNat_of_nonneg hnc.1], by simp; omega, I4, fun c hc => by simp at hc, by simp; omega, by simp, HP4.out⟩
    case round =>
      obtain ⟨m, sr, cs, v, rfl, hm, Ir, hcs, hlen, hco, hps⟩ := hrel
      clear HS1 HS2 HS3 HP0 HP2 HP3 HP4 HC2 HC3 HC4
      have HPS := Lib.hid hps
      obtain ⟨vs, ⟨hsh, _⟩, _⟩ := hps.src
      have cs1 : wr.cell? ⟨p, 1, none⟩ = some (.int .i64 sr.1) := by rw [Lib.cell_of_heap hsh]; rfl
      clear hps hsh
      by_cases hgo : 0 < m ∧ sr.1 = 0
      · obtain ⟨hm0, hs0⟩ := hgo
        rw [hs0] at cs1
        obtain ⟨k2, a2, y2⟩ : ∃ k a, Sb.sByte sr = (k, a) := ⟨_, _, rfl⟩
        have Ia2 := inv_byte Ir
        have hk2 := (be_one Ir.1).2
        have HCa2 := Lib.hid (rbyte_val p sr Ir.1 Ir.2 _ HPS.out.src)
        rw [y2] at Ia2 hk2 HCa2
        dsimp only at Ia2 hk2 HCa2
        obtain ⟨t2, b2, x2⟩ : ∃ t b, Sb.sTake k2.toNat a2 = (t, b) := ⟨_, _, rfl⟩
        have Ib2 := inv_take k2.toNat Ia2
        have hln2 := take_len (n := k2.toNat) (s := a2)
        have HCb2 := Lib.hid (fun w h => rbytes_val p k2.toNat (by omega) a2 Ia2.2 w h)
        rw [x2] at Ib2 hln2
        unfold RetBR at HCb2
        rw [x2, show ((k2.toNat : Nat) : Int) = k2 by omega] at HCb2
        dsimp only at Ib2 hln2 HCb2
        have hws2 : IntKind.i64.wrap k2 = k2 := by rw [IntKind.wrap_i64]; omega
        have HNM2 := Lib.hid (show Sb.sName sr = (strOfNums t2, b2) by rw [sName_two, y2]; dsimp only; rw [x2])
        have hsz2 : (strOfNums t2).size ≤ 255 := by rw [strOfNums_size]; omega
        try dsimp only
        go_wp2_with fail
        refine HCa2.out.mono ?_
        rintro e w7 ⟨rfl, hsx, hkx⟩
        have HPa2 := Lib.hid (HPS.out.op n hsx hkx)
        clear hsx hkx
        dsimp only
        go_wp2_with fail
        refine (HCb2.out _ HPa2.out.src).mono ?_
        rintro e w8 ⟨Av2, mv2, cv2, rfl, hmv2, hv2, hsx, hkx⟩
        have HPb2 := Lib.hid (HPa2.out.op n hsx hkx)
        have hcv := slb_conv hv2
        clear hsx hkx hws2 hmv2
        generalize strOfNums t2 = cn at hcv HNM2 hsz2
        generalize b2 = u1 at HNM2 HPb2 Ib2
        have HQ1 := Lib.hid (HPb2.out.alloc n (.cells #[.string cn, .int .i64 0, .bool false] 94))
        have HCB1 := Lib.hid (show BlkAt (w8.alloc (.cells #[.string cn, .int .i64 0, .bool false] 94)) w8.heap.size #[.string cn, .int .i64 0, .bool false] 94 from hp_new _ _ _ rfl)
        obtain ⟨ck, u2, r2⟩ : ∃ ck u2, Sb.sByte u1 = (ck, u2) := ⟨_, _, rfl⟩
        have J2 := inv_byte Ib2
        have hck := (be_one Ib2.1).2
        have HD2 := Lib.hid (rbyte_val p u1 Ib2.1 Ib2.2 _ HQ1.out.src)
        rw [r2] at J2 hck HD2
        dsimp only at J2 hck HD2
        have hwc : IntKind.i64.wrap ck = ck := by rw [IntKind.wrap_i64]; omega
        have hB8 := HPb2.out.le
        dsimp only
        go_wp2_with fail
        refine HD2.out.mono ?_
        rintro e w9 ⟨rfl, hsx, hkx⟩
        have HQ2 := Lib.hid (HQ1.out.op n hsx hkx)
        have HCB2 := Lib.hid (blk_keep HCB1.out hkx (by have := n.lp; omega))
        clear hsx hkx hcv
        have cC : w9.cell? ⟨w8.heap.size, 1, none⟩ = some (.int .i64 0) := blk_cell HCB2.out 1 _ rfl
        have fC : w9.frozen? ⟨w8.heap.size, 1, none⟩ = false := Lib.frozen_of_heap HCB2.out 1
        have hnv : v.ownBlock ≠ some w8.heap.size := fun e => by have := HPb2.out.own.lt _ e; omega
        have HQ3 := Lib.hid (HQ2.out.put n w8.heap.size 1 (.int .i64 ck) (by omega) hnv (nobyte_col HCB2.out))
        have HCB3 := Lib.hid (show BlkAt (w9.setCell ⟨w8.heap.size, 1, none⟩ (.int .i64 ck)) w8.heap.size #[.string cn, .int .i64 ck, .bool false] 94 from heap_setCell_same w9 _ 1 _ _ _ HCB2.out)
        obtain ⟨cx, u3, r3⟩ : ∃ cx u3, Sb.sByte u2 = (cx, u3) := ⟨_, _, rfl⟩
        have J3 := inv_byte J2
        have hcx := (be_one J2.1).2
        have HD3 := Lib.hid (rbyte_val p u2 J2.1 J2.2 _ HQ3.out.src)
        rw [r3] at J3 hcx HD3
        dsimp only at J3 hcx HD3
        dsimp only
        go_wp2_with fail
        refine HD3.out.mono ?_
        rintro e w10 ⟨rfl, hsx, hkx⟩
        have HQ4 := Lib.hid (HQ3.out.op n hsx hkx)
        have HCB4 := Lib.hid (blk_keep HCB3.out hkx (by have := n.lp; omega))
        clear hsx hkx cC fC hwc
        have d0 : w10.cell? ⟨w8.heap.size, 0, none⟩ = some (.string cn) := blk_cell HCB4.out 0 _ rfl
        have d1 : w10.cell? ⟨w8.heap.size, 1, none⟩ = some (.int .i64 ck) := blk_cell HCB4.out 1 _ rfl
        have d2 : w10.cell? ⟨w8.heap.size, 2, none⟩ = some (.bool false) := blk_cell HCB4.out 2 _ rfl
        have fC : w10.frozen? ⟨w8.heap.size, 2, none⟩ = false := Lib.frozen_of_heap HCB4.out 2
        have hbe : (cx == 1) = decide (cx = 1) := by by_cases h : cx = 1 <;> simp [h]
        obtain ⟨va, vc, rfl⟩ := own_shape HQ4.out.own
        have e3 : w10.cell? ⟨w1.heap.size, 3, none⟩ = some (.slice va cs.length vc) := blk_cell HQ4.out.eb 3 _ rfl
        have hE8 := n.lE
        have HQ5 := Lib.hid (HQ4.out.put n w8.heap.size 2 (.bool (decide (cx = 1))) (by omega) hnv (nobyte_col HCB4.out))
        have hl10 : w8.heap.size < w10.heap.size := blk_lt HCB4.out
        have hwm : wrap64 ((m : Int) - 1) = ((m - 1 : Nat) : Int) := by unfold wrap64; omega
        have HEQ := Lib.hid (show Sb.sCols m sr = ((cn, ck, decide (cx = 1)) :: (Sb.sCols (m - 1) u3).1, (Sb.sCols (m - 1) u3).2) by
          obtain ⟨m', rfl⟩ : ∃ m', m = m' + 1 := ⟨m - 1, by omega⟩
          rw [Sb.sCols, if_pos hs0]
          have hc : Sb.sCol sr = ((cn, ck, decide (cx = 1)), u3) := by unfold Sb.sCol; simp only [HNM2.out, r2, r3]
          rw [hc]; rfl)
        dsimp only
        go_wp2_with (at_builtin; refine wpList_append_own _ rfl _ _ 30 rfl (w1.heap.size + 1) 94 i0 _ 3 32 Tryd.underlying30 hi hz0 hz1 hz2 rfl (by decide) _ _ _ rfl (HQ5.out.own.alloc _) ⟨w10.heap.size, 0, none⟩ 1 1 [.string cn, .int .i64 ck, .bool (decide (cx = 1))] rfl rfl ?d1 ?c2 ?c3 ?c4 ?c5 ?_)
        case c2 => exact ⟨rfl, rfl, rfl⟩
        case c3 => unfold maxLen; omega
        case c4 => omega
        case c5 => have := HQ4.out.le; simp [World.setCell]; omega
        intro v' w11 hown' hgrow _
        obtain ⟨va2, vc2, rfl⟩ := own_shape hown'
        have HA5 := Lib.hid (HQ5.out.alloc n (.cells #[.string cn, .int .i64 ck, .bool (decide (cx = 1))] 94))
        have HQ6 := Lib.hid (HA5.out.cols n (cn, ck, decide (cx = 1)) hgrow hown')
        have hEb : BlkAt w11 w1.heap.size (entL (⟨nm, kd, srs, cs, 0, 0, 0, 0, 0, 0, 0, false, 0, 0, 0, 0⟩ : Ent) (.slice va cs.length vc)) 72 := (hgrow.block _ (blk_lt HA5.out.eb) (fun e => by have := HA5.out.own.lt _ e.symm; omega)).trans HA5.out.eb
        have e4 : w11.cell? ⟨w1.heap.size, 3, none⟩ = some (.slice va cs.length vc) := blk_cell hEb 3 _ rfl
        have f4 : w11.frozen? ⟨w1.heap.size, 3, none⟩ = false := Lib.frozen_of_heap hEb 3
        have hco2 := hco
        rw [HEQ.out] at hco2
        have HREL := Lib.hid (show QcR nm kd srs nc s4 W p w1.heap.size (.int .i64 ((m : Int) - 1)) (w11.setCell ⟨w1.heap.size, 3, none⟩ (.slice va2 (cs.length + 1) vc2)) from
          ⟨m - 1, u3, cs ++ [(cn, ck, decide (cx = 1))], _, by congr 1; omega, by omega, J3, fun c hc => by
            rcases List.mem_append.1 hc with h | h
            · exact hcs c h
            · simp at h; subst h; exact hsz2, by simp; omega, by rw [← hco2, List.append_assoc]; rfl, HQ6.out⟩)
        clear hgrow hown' hEb hco2 hco e3 d0 d1 d2 fC
        go_wp2_with fail
        exact ⟨HREL.out, by simp [intOf]; omega⟩
      · by_cases hm0 : m = 0
        · subst hm0
          have HRR := Lib.hid (show QcE nm kd srs nc s4 W p w1.heap.size wr from ⟨sr, cs, v, Ir, hcs, by rw [← hco]; simp [Sb.sCols], HPS.out⟩)
          clear HPS hco
          go_wp2_with fail
          go_meet
          exact HRR.out
        · have hs0 : sr.1 ≠ 0 := fun h => hgo ⟨by omega, h⟩
          have HRR := Lib.hid (show QcE nm kd srs nc s4 W p w1.heap.size wr from ⟨sr, cs, v, Ir, hcs, by
            rw [← hco]
            obtain ⟨m', rfl⟩ : ∃ m', m = m' + 1 := ⟨m - 1, by omega⟩
            rw [Sb.sCols, if_neg hs0, List.append_nil], HPS.out⟩)
          have hm1 : 0 < m := by omega
          clear hco hgo hm0
          go_wp2_with fail
          go_meet
          exact HRR.out
  case rest =>
    obtain ⟨sr, cs, v, Ir, hcs, q5, hps⟩ := hcut
    have HPS := Lib.hid (show PT W W.heap.size p w1.heap.size (w1.heap.size + 1) (stK sr 0) (eF nm kd srs cs sr 0) v wc from hps)
    clear hps HS1 HS2 HS3 HP0 HP2 HP3 HP4 HC2 HC3 HC4
    have HN0 := Lib.hid (rint_val p (stK sr 0) (stK_inv Ir 0).1 (stK_inv Ir 0).2 wc HPS.out.src)
    go_wp2_with fail
    refine HN0.out.mono ?_
    rintro e x0 ⟨rfl, hsx, hkx⟩
    have HPn0 := Lib.hid (HPS.out.op n hsx hkx)
    clear hsx hkx
    have cE : x0.cell? ⟨w1.heap.size, 4, none⟩ = some (.int .i64 0) := blk_cell HPn0.out.eb 4 _ rfl
    have fE : x0.frozen? ⟨w1.heap.size, 4, none⟩ = false := Lib.frozen_of_heap HPn0.out.eb 4
    have HSn0 := Lib.hid (show PT W W.heap.size p w1.heap.size (w1.heap.size + 1) (stK sr 1) (eF nm kd srs cs sr 1) v (x0.setCell ⟨w1.heap.size, 4, none⟩ (.int .i64 (nK sr 0))) from HPn0.out.set n 4 _ rfl rfl)
    have HN1 := Lib.hid (rint_val p (stK sr 1) (stK_inv Ir 1).1 (stK_inv Ir 1).2 _ HSn0.out.src)
    dsimp only
    go_wp2_with fail
    clear cE fE
    refine HN1.out.mono ?_
    rintro e x1 ⟨rfl, hsx, hkx⟩
    have HPn1 := Lib.hid (HSn0.out.op n hsx hkx)
    clear hsx hkx
    have cE : x1.cell? ⟨w1.heap.size, 5, none⟩ = some (.int .i64 0) := blk_cell HPn1.out.eb 5 _ rfl
    have fE : x1.frozen? ⟨w1.heap.size, 5, none⟩ = false := Lib.frozen_of_heap HPn1.out.eb 5
    have HSn1 := Lib.hid (show PT W W.heap.size p w1.heap.size (w1.heap.size + 1) (stK sr 2) (eF nm kd srs cs sr 2) v (x1.setCell ⟨w1.heap.size, 5, none⟩ (.int .i64 (nK sr 1))) from HPn1.out.set n 5 _ rfl rfl)
    dsimp only
    go_wp2_with fail
    clear cE fE
    go_loopw [72] (fun i w' => Q3R nm kd srs cs sr v W p w1.heap.size i w') (fun i _ => 3 - (intOf i).toNat)
    case atStart => exact ⟨0, by omega, rfl, HSn1.out⟩
    case round =>
      obtain ⟨j, hj, rfl, hps⟩ := hrel
      clear HPS HN0 HPn0 HSn0 HN1 HPn1 HSn1
      have hj8 : j = 0 ∨ j = 1 ∨ j = 2 ∨ j = 3 := by omega
      clear hj
      rcases hj8 with rfl | rfl | rfl | rfl
      · have HPS := Lib.hid (show PT W W.heap.size p w1.heap.size (w1.heap.size + 1) (stK sr 2) (eF nm kd srs cs sr 2) v wr from hps)
        clear hps
        have HN2 := Lib.hid (rint_val p (stK sr 2) (stK_inv Ir 2).1 (stK_inv Ir 2).2 wr HPS.out.src)
        go_wp2_with fail
        refine HN2.out.mono ?_
        rintro e x2 ⟨rfl, hsx, hkx⟩
        have HPn2 := Lib.hid (HPS.out.op n hsx hkx)
        clear hsx hkx
        have cE : x2.cell? ⟨w1.heap.size, 6, none⟩ = some (.int .i64 0) := blk_cell HPn2.out.eb 6 _ rfl
        have fE : x2.frozen? ⟨w1.heap.size, 6, none⟩ = false := Lib.frozen_of_heap HPn2.out.eb 6
        have HSn2 := Lib.hid (show PT W W.heap.size p w1.heap.size (w1.heap.size + 1) (stK sr 3) (eF nm kd srs cs sr 3) v (x2.setCell ⟨w1.heap.size, 6, none⟩ (.int .i64 (nK sr 2))) from HPn2.out.set n 6 _ rfl rfl)
        have HREL := Lib.hid (show Q3R nm kd srs cs sr v W p w1.heap.size (.int .i64 1) (x2.setCell ⟨w1.heap.size, 6, none⟩ (.int .i64 (nK sr 2))) from ⟨1, by omega, rfl, HSn2.out⟩)
        dsimp only
        go_wp2_with fail
        exact ⟨HREL.out, by simp [intOf]⟩
      · have HPS := Lib.hid (show PT W W.heap.size p w1.heap.size (w1.heap.size + 1) (stK sr 3) (eF nm kd srs cs sr 3) v wr from hps)
        clear hps
        have HN3 := Lib.hid (rint_val p (stK sr 3) (stK_inv Ir 3).1 (stK_inv Ir 3).2 wr HPS.out.src)
        go_wp2_with fail
        refine HN3.out.mono ?_
        rintro e x3 ⟨rfl, hsx, hkx⟩
        have HPn3 := Lib.hid (HPS.out.op n hsx hkx)
        clear hsx hkx
        have cE : x3.cell? ⟨w1.heap.size, 7, none⟩ = some (.int .i64 0) := blk_cell HPn3.out.eb 7 _ rfl
        have fE : x3.frozen? ⟨w1.heap.size, 7, none⟩ = false := Lib.frozen_of_heap HPn3.out.eb 7
        have HSn3 := Lib.hid (show PT W W.heap.size p w1.heap.size (w1.heap.size + 1) (stK sr 4) (eF nm kd srs cs sr 4) v (x3.setCell ⟨w1.heap.size, 7, none⟩ (.int .i64 (nK sr 3))) from HPn3.out.set n 7 _ rfl rfl)
        have HREL := Lib.hid (show Q3R nm kd srs cs sr v W p w1.heap.size (.int .i64 2) (x3.setCell ⟨w1.heap.size, 7, none⟩ (.int .i64 (nK sr 3))) from ⟨2, by omega, rfl, HSn3.out⟩)
        dsimp only
        go_wp2_with fail
        exact ⟨HREL.out, by simp [intOf]⟩
      · have HPS := Lib.hid (show PT W W.heap.size p w1.heap.size (w1.heap.size + 1) (stK sr 4) (eF nm kd srs cs sr 4) v wr from hps)
        clear hps
        have HN4 := Lib.hid (rint_val p (stK sr 4) (stK_inv Ir 4).1 (stK_inv Ir 4).2 wr HPS.out.src)
        go_wp2_with fail
        refine HN4.out.mono ?_
        rintro e x4 ⟨rfl, hsx, hkx⟩
        have HPn4 := Lib.hid (HPS.out.op n hsx hkx)
        clear hsx hkx
        have cE : x4.cell? ⟨w1.heap.size, 8, none⟩ = some (.int .i64 0) := blk_cell HPn4.out.eb 8 _ rfl
        have fE : x4.frozen? ⟨w1.heap.size, 8, none⟩ = false := Lib.frozen_of_heap HPn4.out.eb 8
        have HSn4 := Lib.hid (show PT W W.heap.size p w1.heap.size (w1.heap.size + 1) (stK sr 5) (eF nm kd srs cs sr 5) v (x4.setCell ⟨w1.heap.size, 8, none⟩ (.int .i64 (nK sr 4))) from HPn4.out.set n 8 _ rfl rfl)
        have HREL := Lib.hid (show Q3R nm kd srs cs sr v W p w1.heap.size (.int .i64 3) (x4.setCell ⟨w1.heap.size, 8, none⟩ (.int .i64 (nK sr 4))) from ⟨3, by omega, rfl, HSn4.out⟩)
        dsimp only
        go_wp2_with fail
        exact ⟨HREL.out, by simp [intOf]⟩
      · have HPS := Lib.hid (show PT W W.heap.size p w1.heap.size (w1.heap.size + 1) (stK sr 5) (eF nm kd srs cs sr 5) v wr from hps)
        clear hps
        have HN5 := Lib.hid (rint_val p (stK sr 5) (stK_inv Ir 5).1 (stK_inv Ir 5).2 wr HPS.out.src)
        go_wp2_with fail
        refine HN5.out.mono ?_
        rintro e x5 ⟨rfl, hsx, hkx⟩
        have HPn5 := Lib.hid (HPS.out.op n hsx hkx)
        clear hsx hkx
        have cE : x5.cell? ⟨w1.heap.size, 9, none⟩ = some (.int .i64 0) := blk_cell HPn5.out.eb 9 _ rfl
        have fE : x5.frozen? ⟨w1.heap.size, 9, none⟩ = false := Lib.frozen_of_heap HPn5.out.eb 9
        have HSn5 := Lib.hid (show PT W W.heap.size p w1.heap.size (w1.heap.size + 1) (stK sr 6) (eF nm kd srs cs sr 6) v (x5.setCell ⟨w1.heap.size, 9, none⟩ (.int .i64 (nK sr 5))) from HPn5.out.set n 9 _ rfl rfl)
        have HN6 := Lib.hid (rint_val p (stK sr 6) (stK_inv Ir 6).1 (stK_inv Ir 6).2 _ HSn5.out.src)
        dsimp only
        go_wp2_with fail
        clear cE fE
        refine HN6.out.mono ?_
        rintro e x6 ⟨rfl, hsx, hkx⟩
        have HPn6 := Lib.hid (HSn5.out.op n hsx hkx)
        clear hsx hkx
        have cE : x6.cell? ⟨w1.heap.size, 10, none⟩ = some (.int .i64 0) := blk_cell HPn6.out.eb 10 _ rfl
        have fE : x6.frozen? ⟨w1.heap.size, 10, none⟩ = false := Lib.frozen_of_heap HPn6.out.eb 10
        have HSn6 := Lib.hid (show PT W W.heap.size p w1.heap.size (w1.heap.size + 1) (stK sr 7) (eF nm kd srs cs sr 7) v (x6.setCell ⟨w1.heap.size, 10, none⟩ (.int .i64 (nK sr 6))) from HPn6.out.set n 10 _ rfl rfl)
        have e11 : x6.cell? ⟨w1.heap.size, 11, none⟩ = some (.bool false) := blk_cell HPn6.out.eb 11 _ rfl
        have f11 : x6.frozen? ⟨w1.heap.size, 11, none⟩ = false := Lib.frozen_of_heap HPn6.out.eb 11
        have e12 : x6.cell? ⟨w1.heap.size, 12, none⟩ = some (.int .i64 0) := blk_cell HPn6.out.eb 12 _ rfl
        have f12 : x6.frozen? ⟨w1.heap.size, 12, none⟩ = false := Lib.frozen_of_heap HPn6.out.eb 12
        have e13 : x6.cell? ⟨w1.heap.size, 13, none⟩ = some (.int .i64 0) := blk_cell HPn6.out.eb 13 _ rfl
        have f13 : x6.frozen? ⟨w1.heap.size, 13, none⟩ = false := Lib.frozen_of_heap HPn6.out.eb 13
        have e14 : x6.cell? ⟨w1.heap.size, 14, none⟩ = some (.int .i64 0) := blk_cell HPn6.out.eb 14 _ rfl
        have f14 : x6.frozen? ⟨w1.heap.size, 14, none⟩ = false := Lib.frozen_of_heap HPn6.out.eb 14
        have e15 : x6.cell? ⟨w1.heap.size, 15, none⟩ = some (.int .i64 0) := blk_cell HPn6.out.eb 15 _ rfl
        have f15 : x6.frozen? ⟨w1.heap.size, 15, none⟩ = false := Lib.frozen_of_heap HPn6.out.eb 15
        have HS7 := Lib.hid (PT.set (e' := eK nm kd srs cs sr 7) n (PT.set (e' := { (eF nm kd srs cs sr 7) with bn := true }) n (PT.set (e' := { (eF nm kd srs cs sr 7) with bn := true }) n (PT.set (e' := { (eF nm kd srs cs sr 7) with bn := true }) n (PT.set (e' := { (eF nm kd srs cs sr 7) with bn := true }) n HSn6.out 11 (.bool true) rfl rfl) 12 (.int .i64 0) rfl rfl) 13 (.int .i64 0) rfl rfl) 14 (.int .i64 0) rfl rfl) 15 (.int .i64 0) rfl rfl)
        obtain ⟨fb, s9, q9⟩ : ∃ fb s9, Sb.sByte (stK sr 7) = (fb, s9) := ⟨_, _, rfl⟩
        have I9 := inv_byte (stK_inv Ir 7)
        have hfb := (be_one (stK_inv Ir 7).1).2
        have HC9 := Lib.hid (rbyte_val p (stK sr 7) (stK_inv Ir 7).1 (stK_inv Ir 7).2 _ HS7.out.src)
        rw [q9] at I9 hfb HC9
        dsimp only at I9 hfb HC9
        have HHD := Lib.hid (show Sb.rHead l = (eK nm kd srs cs sr 7, stK sr 7) by
          unfold Sb.rHead
          simp only [HNM1.out, q2, q3, q4, ← q5]
          rfl)
        dsimp only
        go_wp2_with fail
        refine HC9.out.mono ?_
        rintro e w5' ⟨rfl, hsx, hkx⟩
        have HP9 := Lib.hid (HS7.out.op n hsx hkx)
        clear hsx hkx HPS HN5 HPn5 HSn5 HN6 HPn6 HSn6 HS7 cE fE e11 e12 e13 e14 e15 f11 f12 f13 f14 f15
        dsimp only
        go_upto_if 91 with fail
        go_cut [] (fun wx => QbE l W p w1.heap.size wx)
        case first =>
          by_cases hf1 : fb = 1
          · have hb1 : (fb == 1) = true := by simp [hf1]
            have HB := Lib.hid (rbytes_val p 32 (by decide) s9 I9.2 w5' HP9.out.src)
            rw [show ((32 : Nat) : Int) = 32 from rfl] at HB
            go_wp2_with fail
            refine HB.out.mono ?_
            rintro e w6' ⟨A6, m6, c6, rfl, hm6, hv6, hsx, hkx⟩
            have HP10 := Lib.hid (HP9.out.op n hsx hkx)
            have HX := Lib.hid (rboxparse_val (.slice A6 m6 c6) (Sb.sTake 32 s9).1 (take_byt I9.1).1 take_len w6' hv6)
            clear hsx hkx hv6 hm6
            dsimp only
            go_wp2_with fail
            refine HX.out.mono ?_
            rintro e w7' (⟨lx, ly, hx, hy, hbo, rfl, hb7⟩ | ⟨er, hbo, hne, rfl, hb7⟩)
            · as_aux_lemma =>
              unfold boxV
              have HP11 := Lib.hid (HP10.out.below n hb7)
              have e11 : w7'.cell? ⟨w1.heap.size, 11, none⟩ = some (.bool true) := blk_cell HP11.out.eb 11 _ rfl
              have f11 : w7'.frozen? ⟨w1.heap.size, 11, none⟩ = false := Lib.frozen_of_heap HP11.out.eb 11
              have e12 : w7'.cell? ⟨w1.heap.size, 12, none⟩ = some (.int .i64 0) := blk_cell HP11.out.eb 12 _ rfl
              have f12 : w7'.frozen? ⟨w1.heap.size, 12, none⟩ = false := Lib.frozen_of_heap HP11.out.eb 12
              have e13 : w7'.cell? ⟨w1.heap.size, 13, none⟩ = some (.int .i64 0) := blk_cell HP11.out.eb 13 _ rfl
              have f13 : w7'.frozen? ⟨w1.heap.size, 13, none⟩ = false := Lib.frozen_of_heap HP11.out.eb 13
              have e14 : w7'.cell? ⟨w1.heap.size, 14, none⟩ = some (.int .i64 0) := blk_cell HP11.out.eb 14 _ rfl
              have f14 : w7'.frozen? ⟨w1.heap.size, 14, none⟩ = false := Lib.frozen_of_heap HP11.out.eb 14
              have e15 : w7'.cell? ⟨w1.heap.size, 15, none⟩ = some (.int .i64 0) := blk_cell HP11.out.eb 15 _ rfl
              have f15 : w7'.frozen? ⟨w1.heap.size, 15, none⟩ = false := Lib.frozen_of_heap HP11.out.eb 15
              have HS5 := Lib.hid (PT.set (e' := Sb.withBox (eK nm kd srs cs sr 7) (lx, ly, hx, hy)) n (PT.set (e' := { (eK nm kd srs cs sr 7) with bn := false, lx := lx, ly := ly, hx := hx }) n (PT.set (e' := { (eK nm kd srs cs sr 7) with bn := false, lx := lx, ly := ly }) n (PT.set (e' := { (eK nm kd srs cs sr 7) with bn := false, lx := lx }) n (PT.set (e' := { (eK nm kd srs cs sr 7) with bn := false }) n HP11.out 11 (.bool false) rfl rfl) 12 (.int .i64 lx) rfl rfl) 13 (.int .i64 ly) rfl rfl) 14 (.int .i64 hx) rfl rfl) 15 (.int .i64 hy) rfl rfl)
              have HRR := Lib.hid (show Sb.raw l = (some (Sb.withBox (eK nm kd srs cs sr 7) (lx, ly, hx, hy)), (Sb.sTake 32 s9).2) by
                unfold Sb.raw
                rw [HHD.out]
                dsimp only
                rw [q9]
                dsimp only
                rw [if_pos hf1, hbo]
                rfl)
              clear hb7
              dsimp only
              go_upto_if 100 with fail
              have HP12 := HS5.out
              clear e11 e12 e13 e14 e15 f11 f12 f13 f14 f15 HS5
              generalize World.setCell (World.setCell (World.setCell (World.setCell (World.setCell w7' ⟨w1.heap.size, 11, none⟩ (.bool false)) ⟨w1.heap.size, 12, none⟩ (.int .i64 lx)) ⟨w1.heap.size, 13, none⟩ (.int .i64 ly)) ⟨w1.heap.size, 14, none⟩ (.int .i64 hx)) ⟨w1.heap.size, 15, none⟩ (.int .i64 hy) = w8 at HP12 ⊢
              have HPB := Lib.hid (QbE.mk HRR.out hsz1 hcs (inv_take 32 I9) HP12)
              clear HP12
              go_wp2_with fail
              go_meet
              exact HPB.out
            · as_aux_lemma =>
              unfold boxV
              have HP11 := Lib.hid (HP10.out.below n hb7)
              have e11 : w7'.cell? ⟨w1.heap.size, 11, none⟩ = some (.bool true) := blk_cell HP11.out.eb 11 _ rfl
              have f11 : w7'.frozen? ⟨w1.heap.size, 11, none⟩ = false := Lib.frozen_of_heap HP11.out.eb 11
              have e12 : w7'.cell? ⟨w1.heap.size, 12, none⟩ = some (.int .i64 0) := blk_cell HP11.out.eb 12 _ rfl
              have f12 : w7'.frozen? ⟨w1.heap.size, 12, none⟩ = false := Lib.frozen_of_heap HP11.out.eb 12
              have e13 : w7'.cell? ⟨w1.heap.size, 13, none⟩ = some (.int .i64 0) := blk_cell HP11.out.eb 13 _ rfl
              have f13 : w7'.frozen? ⟨w1.heap.size, 13, none⟩ = false := Lib.frozen_of_heap HP11.out.eb 13
              have e14 : w7'.cell? ⟨w1.heap.size, 14, none⟩ = some (.int .i64 0) := blk_cell HP11.out.eb 14 _ rfl
              have f14 : w7'.frozen? ⟨w1.heap.size, 14, none⟩ = false := Lib.frozen_of_heap HP11.out.eb 14
              have e15 : w7'.cell? ⟨w1.heap.size, 15, none⟩ = some (.int .i64 0) := blk_cell HP11.out.eb 15 _ rfl
              have f15 : w7'.frozen? ⟨w1.heap.size, 15, none⟩ = false := Lib.frozen_of_heap HP11.out.eb 15
              have hRE := n.RE
              have HNN := Lib.hid (show Sb.parse okE l = none by
                have hr : Sb.raw l = (none, (Sb.sTake 32 s9).2) := by
                  unfold Sb.raw
                  rw [HHD.out]
                  dsimp only
                  rw [q9]
                  dsimp only
                  rw [if_pos hf1, hbo]
                  rfl
                unfold Sb.parse
                rw [hr])
              clear hb7
              dsimp only
              go_upto_if 100 with fail
              have HP12 := PT.set (e' := { (eK nm kd srs cs sr 7) with bn := false }) n (PT.set (e' := { (eK nm kd srs cs sr 7) with bn := false }) n (PT.set (e' := { (eK nm kd srs cs sr 7) with bn := false }) n (PT.set (e' := { (eK nm kd srs cs sr 7) with bn := false }) n (PT.set (e' := { (eK nm kd srs cs sr 7) with bn := false }) n HP11.out 11 (.bool false) rfl rfl) 12 (.int .i64 0) rfl rfl) 13 (.int .i64 0) rfl rfl) 14 (.int .i64 0) rfl rfl) 15 (.int .i64 0) rfl rfl
              clear e11 e12 e13 e14 e15 f11 f12 f13 f14 f15
              generalize World.setCell (World.setCell (World.setCell (World.setCell (World.setCell w7' ⟨w1.heap.size, 11, none⟩ (.bool false)) ⟨w1.heap.size, 12, none⟩ (.int .i64 0)) ⟨w1.heap.size, 13, none⟩ (.int .i64 0)) ⟨w1.heap.size, 14, none⟩ (.int .i64 0)) ⟨w1.heap.size, 15, none⟩ (.int .i64 0) = w8 at HP12 ⊢
              have HP12 := Lib.hid HP12
              have hBL := HP12.out.bel
              go_wp2_with (refine wpList_st16 (by rfl) _ _ 72 (by rfl) (by rfl) (by rfl) HP12.out.rb (by exact size72) (by rfl) (by simp [Value.oneCell']) hBL (Nat.le_refl _) ?_)
              intro wf hbf hBf hOf
              have c0 : World.cell? wf ⟨W.heap.size, 0, none⟩ = some (.string ⟨#[]⟩) := blk_cell hbf 0 _ rfl
              have c1 : World.cell? wf ⟨W.heap.size, 1, none⟩ = some (.int .i64 0) := blk_cell hbf 1 _ rfl
              have c2 : World.cell? wf ⟨W.heap.size, 2, none⟩ = some (.int .i64 0) := blk_cell hbf 2 _ rfl
              have c3 : World.cell? wf ⟨W.heap.size, 3, none⟩ = some (.slice none 0 0) := blk_cell hbf 3 _ rfl
              have c4 : World.cell? wf ⟨W.heap.size, 4, none⟩ = some (.int .i64 0) := blk_cell hbf 4 _ rfl
              have c5 : World.cell? wf ⟨W.heap.size, 5, none⟩ = some (.int .i64 0) := blk_cell hbf 5 _ rfl
              have c6 : World.cell? wf ⟨W.heap.size, 6, none⟩ = some (.int .i64 0) := blk_cell hbf 6 _ rfl
              have c7 : World.cell? wf ⟨W.heap.size, 7, none⟩ = some (.int .i64 0) := blk_cell hbf 7 _ rfl
              have c8 : World.cell? wf ⟨W.heap.size, 8, none⟩ = some (.int .i64 0) := blk_cell hbf 8 _ rfl
              have c9 : World.cell? wf ⟨W.heap.size, 9, none⟩ = some (.int .i64 0) := blk_cell hbf 9 _ rfl
              have c10 : World.cell? wf ⟨W.heap.size, 10, none⟩ = some (.int .i64 0) := blk_cell hbf 10 _ rfl
              have c11 : World.cell? wf ⟨W.heap.size, 11, none⟩ = some (.bool false) := blk_cell hbf 11 _ rfl
              have c12 : World.cell? wf ⟨W.heap.size, 12, none⟩ = some (.int .i64 0) := blk_cell hbf 12 _ rfl
              have c13 : World.cell? wf ⟨W.heap.size, 13, none⟩ = some (.int .i64 0) := blk_cell hbf 13 _ rfl
              have c14 : World.cell? wf ⟨W.heap.size, 14, none⟩ = some (.int .i64 0) := blk_cell hbf 14 _ rfl
              have c15 : World.cell? wf ⟨W.heap.size, 15, none⟩ = some (.int .i64 0) := blk_cell hbf 15 _ rfl
              go_wp2_with fail
              refine bodyPost_ret (v := .tuple #[entV zeroE nilS, .int .i64 9]) (by simp [results, Tryd.results39, go_sem, entV, entL, zeroE, Sb.Ent.zero, nilS, c0, c1, c2, c3, c4, c5, c6, c7, c8, c9, c10, c11, c12, c13, c14, c15]) rfl (.inr ⟨HNN.out, rfl, hBf⟩)
          · have hb1 : (fb == 1) = false := by simp [hf1]
            have HRR := Lib.hid (show Sb.raw l = (some (eK nm kd srs cs sr 7), s9) by
              unfold Sb.raw
              rw [HHD.out]
              dsimp only
              rw [q9]
              dsimp only
              rw [if_neg hf1])
            have HPB := Lib.hid (QbE.mk HRR.out hsz1 hcs I9 HP9.out)
            go_wp2_with fail
            go_meet
            exact HPB.out
        case rest =>
          obtain ⟨sf, en, vf, hraw, hnm2, hcs2, If, hps⟩ := hcut
          have HPF := Lib.hid hps
          clear hps HP9 HC9
          have hB0 : Below wc.heap.size wc wc.drew := below_drew (Below.refl _ _)
          obtain ⟨lb, hlb⟩ : ∃ lb, Sb.entB okE en = lb := ⟨_, rfl⟩
          have hl8 : lb.length ≤ 1000 := by rw [← hlb]; exact entB_len en
          have hEb : Byt lb := by rw [← hlb]; exact entB_byt en
          by_cases hend : sf = (0, [])
          case neg =>
            as_aux_lemma =>
            have hne := endOf_ne hend
            have HNN := Lib.hid (parse_no hraw lb hlb (fun h => hend h.1))
            have HEN := Lib.hid (fun k : Nat => rend_val p sf (wc.drewN k) (srcR_below HPF.out.src ⟨rfl, rfl, rfl, Nat.le_refl _, fun _ _ => rfl⟩))
            have hBL : ∀ k, Below W.heap.size W (wc.drewN k) := fun k => below_step HPF.out.bel ⟨rfl, rfl, rfl, Nat.le_refl _, fun _ _ => rfl⟩
            have hRB : ∀ k, BlkAt (wc.drewN k) W.heap.size (entL zeroE nilS) 72 := fun k => HPF.out.rb
            clear hB0 hraw hlb hend
            generalize endOf sf = E9 at HEN hne
            have hnb : (E9 != 0) = true := by simp [hne]
            go_wp2_with fail
            go_quiet (first | (go_at_call 85; refine Calls.quiet_of_same (HEN.out _)))
            try dsimp only
            go_wp2_with (refine wpList_st16 (by rfl) _ _ 72 (by rfl) (by rfl) (by rfl) (hRB _) (by exact size72) (by rfl) (by simp [Value.oneCell']) (hBL _) (Nat.le_refl _) ?_)
            intro wf hbf hBf hOf
            have c0 : World.cell? wf ⟨W.heap.size, 0, none⟩ = some (.string ⟨#[]⟩) := blk_cell hbf 0 _ rfl
            have c1 : World.cell? wf ⟨W.heap.size, 1, none⟩ = some (.int .i64 0) := blk_cell hbf 1 _ rfl
            have c2 : World.cell? wf ⟨W.heap.size, 2, none⟩ = some (.int .i64 0) := blk_cell hbf 2 _ rfl
            have c3 : World.cell? wf ⟨W.heap.size, 3, none⟩ = some (.slice none 0 0) := blk_cell hbf 3 _ rfl
            have c4 : World.cell? wf ⟨W.heap.size, 4, none⟩ = some (.int .i64 0) := blk_cell hbf 4 _ rfl
            have c5 : World.cell? wf ⟨W.heap.size, 5, none⟩ = some (.int .i64 0) := blk_cell hbf 5 _ rfl
            have c6 : World.cell? wf ⟨W.heap.size, 6, none⟩ = some (.int .i64 0) := blk_cell hbf 6 _ rfl
            have c7 : World.cell? wf ⟨W.heap.size, 7, none⟩ = some (.int .i64 0) := blk_cell hbf 7 _ rfl
            have c8 : World.cell? wf ⟨W.heap.size, 8, none⟩ = some (.int .i64 0) := blk_cell hbf 8 _ rfl
            have c9 : World.cell? wf ⟨W.heap.size, 9, none⟩ = some (.int .i64 0) := blk_cell hbf 9 _ rfl
            have c10 : World.cell? wf ⟨W.heap.size, 10, none⟩ = some (.int .i64 0) := blk_cell hbf 10 _ rfl
            have c11 : World.cell? wf ⟨W.heap.size, 11, none⟩ = some (.bool false) := blk_cell hbf 11 _ rfl
            have c12 : World.cell? wf ⟨W.heap.size, 12, none⟩ = some (.int .i64 0) := blk_cell hbf 12 _ rfl
            have c13 : World.cell? wf ⟨W.heap.size, 13, none⟩ = some (.int .i64 0) := blk_cell hbf 13 _ rfl
            have c14 : World.cell? wf ⟨W.heap.size, 14, none⟩ = some (.int .i64 0) := blk_cell hbf 14 _ rfl
            have c15 : World.cell? wf ⟨W.heap.size, 15, none⟩ = some (.int .i64 0) := blk_cell hbf 15 _ rfl
            go_wp2_with fail
            refine bodyPost_ret (v := .tuple #[entV zeroE nilS, .int .i64 9]) (by simp [results, Tryd.results39, go_sem, entV, entL, zeroE, Sb.Ent.zero, nilS, c0, c1, c2, c3, c4, c5, c6, c7, c8, c9, c10, c11, c12, c13, c14, c15]) rfl (.inr ⟨HNN.out, rfl, hBf⟩)
          have HEN := Lib.hid (show Calls Tryd.prog 85 #[.pointer (some ⟨p, 0, none⟩)] wc.drew (RetS (.int .i64 0) wc.drew) from (rend_val p sf wc.drew (srcR_below HPF.out.src hB0)).mono fun e w' h => ⟨by rw [h.1, hend]; rfl, by rw [h.2]; exact Below.refl _ _⟩)
          obtain ⟨va, vc, rfl⟩ := own_shape HPF.out.own
          have HBY := Lib.hid (fun w h => rsbytes_agg en va vc lb hlb hnm2 hcs2 w h)
          have k0 : World.cell? wc ⟨w1.heap.size, 0, none⟩ = some (.string en.nm) := blk_cell HPF.out.eb 0 _ rfl
          have k1 : World.cell? wc ⟨w1.heap.size, 1, none⟩ = some (.int .i64 en.kd) := blk_cell HPF.out.eb 1 _ rfl
          have k2 : World.cell? wc ⟨w1.heap.size, 2, none⟩ = some (.int .i64 en.srs) := blk_cell HPF.out.eb 2 _ rfl
          have k3 : World.cell? wc ⟨w1.heap.size, 3, none⟩ = some (.slice va en.cs.length vc) := blk_cell HPF.out.eb 3 _ rfl
          have k4 : World.cell? wc ⟨w1.heap.size, 4, none⟩ = some (.int .i64 en.id) := blk_cell HPF.out.eb 4 _ rfl
          have k5 : World.cell? wc ⟨w1.heap.size, 5, none⟩ = some (.int .i64 en.tb) := blk_cell HPF.out.eb 5 _ rfl
          have k6 : World.cell? wc ⟨w1.heap.size, 6, none⟩ = some (.int .i64 en.t0) := blk_cell HPF.out.eb 6 _ rfl
          have k7 : World.cell? wc ⟨w1.heap.size, 7, none⟩ = some (.int .i64 en.t1) := blk_cell HPF.out.eb 7 _ rfl
          have k8 : World.cell? wc ⟨w1.heap.size, 8, none⟩ = some (.int .i64 en.t2) := blk_cell HPF.out.eb 8 _ rfl
          have k9 : World.cell? wc ⟨w1.heap.size, 9, none⟩ = some (.int .i64 en.ct) := blk_cell HPF.out.eb 9 _ rfl
          have k10 : World.cell? wc ⟨w1.heap.size, 10, none⟩ = some (.int .i64 en.nx) := blk_cell HPF.out.eb 10 _ rfl
          have k11 : World.cell? wc ⟨w1.heap.size, 11, none⟩ = some (.bool en.bn) := blk_cell HPF.out.eb 11 _ rfl
          have k12 : World.cell? wc ⟨w1.heap.size, 12, none⟩ = some (.int .i64 en.lx) := blk_cell HPF.out.eb 12 _ rfl
          have k13 : World.cell? wc ⟨w1.heap.size, 13, none⟩ = some (.int .i64 en.ly) := blk_cell HPF.out.eb 13 _ rfl
          have k14 : World.cell? wc ⟨w1.heap.size, 14, none⟩ = some (.int .i64 en.hx) := blk_cell HPF.out.eb 14 _ rfl
          have k15 : World.cell? wc ⟨w1.heap.size, 15, none⟩ = some (.int .i64 en.hy) := blk_cell HPF.out.eb 15 _ rfl
          by_cases heq : lb = l
          · as_aux_lemma =>
            have HPP := Lib.hid (parse_yes hraw hend lb hlb heq)
            have HEQ := Lib.hid heq
            clear heq hraw hlb
            go_wp2_with fail
            go_region_held_law (fun w' => BlkAt w' w1.heap.size (entL en (.slice va en.cs.length vc)) 72 ∧ w'.cell? ⟨w1.heap.size, 0, none⟩ = some (.string en.nm) ∧ w'.cell? ⟨w1.heap.size, 1, none⟩ = some (.int .i64 en.kd) ∧ w'.cell? ⟨w1.heap.size, 2, none⟩ = some (.int .i64 en.srs) ∧ w'.cell? ⟨w1.heap.size, 3, none⟩ = some (.slice va en.cs.length vc) ∧ w'.cell? ⟨w1.heap.size, 4, none⟩ = some (.int .i64 en.id) ∧ w'.cell? ⟨w1.heap.size, 5, none⟩ = some (.int .i64 en.tb) ∧ w'.cell? ⟨w1.heap.size, 6, none⟩ = some (.int .i64 en.t0) ∧ w'.cell? ⟨w1.heap.size, 7, none⟩ = some (.int .i64 en.t1) ∧ w'.cell? ⟨w1.heap.size, 8, none⟩ = some (.int .i64 en.t2) ∧ w'.cell? ⟨w1.heap.size, 9, none⟩ = some (.int .i64 en.ct) ∧ w'.cell? ⟨w1.heap.size, 10, none⟩ = some (.int .i64 en.nx) ∧ w'.cell? ⟨w1.heap.size, 11, none⟩ = some (.bool en.bn) ∧ w'.cell? ⟨w1.heap.size, 12, none⟩ = some (.int .i64 en.lx) ∧ w'.cell? ⟨w1.heap.size, 13, none⟩ = some (.int .i64 en.ly) ∧ w'.cell? ⟨w1.heap.size, 14, none⟩ = some (.int .i64 en.hx) ∧ w'.cell? ⟨w1.heap.size, 15, none⟩ = some (.int .i64 en.hy) ∧ (Go.convert 43 9 (.slice A0 M0 c0)).run Tryd.prog w' = .ok (.string (strOfNums l)) w' ∧ Below wc.heap.size wc w')
              (first
                | (go_keep; done)
                | (exact s_pc n HPF.out HV.out (below_step hB0 (below_step hbx hb8)))
                | (exact s_pc n HPF.out HV.out (below_step hB0 hbx))
                | (exact s_pc n HPF.out HV.out hB0))
              (first
                | (go_at_call 85; (with_reducible apply Calls.mono HEN.out); rintro e5 wx ⟨rfl, hbx⟩)
                | (have hx0 := hbx; go_at_call 41; (with_reducible apply Calls.mono (HBY.out _ (own_cols (HPF.out.below n (below_step hB0 hbx)).own rfl))); rintro e8 w8 ⟨v8, rfl, hr8, hb8⟩; have hs8 := slb_row hr8 (by omega); obtain ⟨A8, c8, rfl, hc8, hC8⟩ := hs8; have hcv8 := (show (Go.convert 43 9 (.slice A8 lb.length c8)).run Tryd.prog w8 = .ok (.string (strOfNums l)) w8 by have hq := slb_conv (show SlB w8 (.slice A8 lb.length c8) lb from ⟨A8, c8, rfl, hc8, hC8⟩); exact hq.trans (by rw [HEQ.out]))))
            rename_i hH
            have HPG := Lib.hid (HPF.out.below n (below_step hB0 (below_step hbx hb8)))
            clear hH hbx hB0 hb8 hr8 hcv8 HBY HEN k0 k1 k2 k3 k4 k5 k6 k7 k8 k9 k10 k11 k12 k13 k14 k15
            have k0 : World.cell? w8 ⟨w1.heap.size, 0, none⟩ = some (.string en.nm) := blk_cell HPG.out.eb 0 _ rfl
            have k1 : World.cell? w8 ⟨w1.heap.size, 1, none⟩ = some (.int .i64 en.kd) := blk_cell HPG.out.eb 1 _ rfl
            have k2 : World.cell? w8 ⟨w1.heap.size, 2, none⟩ = some (.int .i64 en.srs) := blk_cell HPG.out.eb 2 _ rfl
            have k3 : World.cell? w8 ⟨w1.heap.size, 3, none⟩ = some (.slice va en.cs.length vc) := blk_cell HPG.out.eb 3 _ rfl
            have k4 : World.cell? w8 ⟨w1.heap.size, 4, none⟩ = some (.int .i64 en.id) := blk_cell HPG.out.eb 4 _ rfl
            have k5 : World.cell? w8 ⟨w1.heap.size, 5, none⟩ = some (.int .i64 en.tb) := blk_cell HPG.out.eb 5 _ rfl
            have k6 : World.cell? w8 ⟨w1.heap.size, 6, none⟩ = some (.int .i64 en.t0) := blk_cell HPG.out.eb 6 _ rfl
            have k7 : World.cell? w8 ⟨w1.heap.size, 7, none⟩ = some (.int .i64 en.t1) := blk_cell HPG.out.eb 7 _ rfl
            have k8 : World.cell? w8 ⟨w1.heap.size, 8, none⟩ = some (.int .i64 en.t2) := blk_cell HPG.out.eb 8 _ rfl
            have k9 : World.cell? w8 ⟨w1.heap.size, 9, none⟩ = some (.int .i64 en.ct) := blk_cell HPG.out.eb 9 _ rfl
            have k10 : World.cell? w8 ⟨w1.heap.size, 10, none⟩ = some (.int .i64 en.nx) := blk_cell HPG.out.eb 10 _ rfl
            have k11 : World.cell? w8 ⟨w1.heap.size, 11, none⟩ = some (.bool en.bn) := blk_cell HPG.out.eb 11 _ rfl
            have k12 : World.cell? w8 ⟨w1.heap.size, 12, none⟩ = some (.int .i64 en.lx) := blk_cell HPG.out.eb 12 _ rfl
            have k13 : World.cell? w8 ⟨w1.heap.size, 13, none⟩ = some (.int .i64 en.ly) := blk_cell HPG.out.eb 13 _ rfl
            have k14 : World.cell? w8 ⟨w1.heap.size, 14, none⟩ = some (.int .i64 en.hx) := blk_cell HPG.out.eb 14 _ rfl
            have k15 : World.cell? w8 ⟨w1.heap.size, 15, none⟩ = some (.int .i64 en.hy) := blk_cell HPG.out.eb 15 _ rfl
            have hRl := n.hR
            have hEl := n.hE
            have hRB := n.lR
            have hBL := HPG.out.bel
            have hOW := HPG.out.own
            try dsimp only
            go_wp2_with (refine wpList_st16 (by rfl) _ _ 72 (by rfl) (by rfl) (by rfl) HPG.out.rb (by exact size72) (by rfl) (by simp [Value.oneCell']) hBL (Nat.le_refl _) ?_)
            intro wf hbf hBf hOf
            have c0 : World.cell? wf ⟨W.heap.size, 0, none⟩ = some (.string en.nm) := blk_cell hbf 0 _ rfl
            have c1 : World.cell? wf ⟨W.heap.size, 1, none⟩ = some (.int .i64 en.kd) := blk_cell hbf 1 _ rfl
            have c2 : World.cell? wf ⟨W.heap.size, 2, none⟩ = some (.int .i64 en.srs) := blk_cell hbf 2 _ rfl
            have c3 : World.cell? wf ⟨W.heap.size, 3, none⟩ = some (.slice va en.cs.length vc) := blk_cell hbf 3 _ rfl
            have c4 : World.cell? wf ⟨W.heap.size, 4, none⟩ = some (.int .i64 en.id) := blk_cell hbf 4 _ rfl
            have c5 : World.cell? wf ⟨W.heap.size, 5, none⟩ = some (.int .i64 en.tb) := blk_cell hbf 5 _ rfl
            have c6 : World.cell? wf ⟨W.heap.size, 6, none⟩ = some (.int .i64 en.t0) := blk_cell hbf 6 _ rfl
            have c7 : World.cell? wf ⟨W.heap.size, 7, none⟩ = some (.int .i64 en.t1) := blk_cell hbf 7 _ rfl
            have c8 : World.cell? wf ⟨W.heap.size, 8, none⟩ = some (.int .i64 en.t2) := blk_cell hbf 8 _ rfl
            have c9 : World.cell? wf ⟨W.heap.size, 9, none⟩ = some (.int .i64 en.ct) := blk_cell hbf 9 _ rfl
            have c10 : World.cell? wf ⟨W.heap.size, 10, none⟩ = some (.int .i64 en.nx) := blk_cell hbf 10 _ rfl
            have c11 : World.cell? wf ⟨W.heap.size, 11, none⟩ = some (.bool en.bn) := blk_cell hbf 11 _ rfl
            have c12 : World.cell? wf ⟨W.heap.size, 12, none⟩ = some (.int .i64 en.lx) := blk_cell hbf 12 _ rfl
            have c13 : World.cell? wf ⟨W.heap.size, 13, none⟩ = some (.int .i64 en.ly) := blk_cell hbf 13 _ rfl
            have c14 : World.cell? wf ⟨W.heap.size, 14, none⟩ = some (.int .i64 en.hx) := blk_cell hbf 14 _ rfl
            have c15 : World.cell? wf ⟨W.heap.size, 15, none⟩ = some (.int .i64 en.hy) := blk_cell hbf 15 _ rfl
            go_wp2_with fail
            refine bodyPost_ret (v := .tuple #[entV en (.slice va en.cs.length vc), .int .i64 0]) (by simp [results, Tryd.results39, go_sem, entV, entL, zeroE, Sb.Ent.zero, nilS, c0, c1, c2, c3, c4, c5, c6, c7, c8, c9, c10, c11, c12, c13, c14, c15]) rfl (.inl ⟨en, _, HPP.out, rfl, own_cols (base := w1.heap.size + 1) (e := 94) (n := en.cs.length) (hOf _ _ _ _ _ _ hRB HPG.out.own) rfl, hBf⟩)
          · as_aux_lemma =>
            have HPP := Lib.hid (parse_no hraw lb hlb (fun h => heq h.2))
            have hsn : ((strOfNums lb).toList == (strOfNums l).toList) = false := (Option.some.inj (str_eq hEb hb)).trans (decide_eq_false (fun h => heq h.symm))
            clear hraw hlb
            go_wp2_with fail
            go_region_held_law (fun w' => BlkAt w' w1.heap.size (entL en (.slice va en.cs.length vc)) 72 ∧ w'.cell? ⟨w1.heap.size, 0, none⟩ = some (.string en.nm) ∧ w'.cell? ⟨w1.heap.size, 1, none⟩ = some (.int .i64 en.kd) ∧ w'.cell? ⟨w1.heap.size, 2, none⟩ = some (.int .i64 en.srs) ∧ w'.cell? ⟨w1.heap.size, 3, none⟩ = some (.slice va en.cs.length vc) ∧ w'.cell? ⟨w1.heap.size, 4, none⟩ = some (.int .i64 en.id) ∧ w'.cell? ⟨w1.heap.size, 5, none⟩ = some (.int .i64 en.tb) ∧ w'.cell? ⟨w1.heap.size, 6, none⟩ = some (.int .i64 en.t0) ∧ w'.cell? ⟨w1.heap.size, 7, none⟩ = some (.int .i64 en.t1) ∧ w'.cell? ⟨w1.heap.size, 8, none⟩ = some (.int .i64 en.t2) ∧ w'.cell? ⟨w1.heap.size, 9, none⟩ = some (.int .i64 en.ct) ∧ w'.cell? ⟨w1.heap.size, 10, none⟩ = some (.int .i64 en.nx) ∧ w'.cell? ⟨w1.heap.size, 11, none⟩ = some (.bool en.bn) ∧ w'.cell? ⟨w1.heap.size, 12, none⟩ = some (.int .i64 en.lx) ∧ w'.cell? ⟨w1.heap.size, 13, none⟩ = some (.int .i64 en.ly) ∧ w'.cell? ⟨w1.heap.size, 14, none⟩ = some (.int .i64 en.hx) ∧ w'.cell? ⟨w1.heap.size, 15, none⟩ = some (.int .i64 en.hy) ∧ (Go.convert 43 9 (.slice A0 M0 c0)).run Tryd.prog w' = .ok (.string (strOfNums l)) w' ∧ Below wc.heap.size wc w')
              (first
                | (go_keep; done)
                | (exact s_pc n HPF.out HV.out (below_step hB0 (below_step hbx hb8)))
                | (exact s_pc n HPF.out HV.out (below_step hB0 hbx))
                | (exact s_pc n HPF.out HV.out hB0))
              (first
                | (go_at_call 85; (with_reducible apply Calls.mono HEN.out); rintro e5 wx ⟨rfl, hbx⟩)
                | (have hx0 := hbx; go_at_call 41; (with_reducible apply Calls.mono (HBY.out _ (own_cols (HPF.out.below n (below_step hB0 hbx)).own rfl))); rintro e8 w8 ⟨v8, rfl, hr8, hb8⟩; have hs8 := slb_row hr8 (by omega); obtain ⟨A8, c8, rfl, hc8, hC8⟩ := hs8; have hcv8 := slb_conv (show SlB w8 (.slice A8 lb.length c8) lb from ⟨A8, c8, rfl, hc8, hC8⟩)))
            rename_i hH
            have HPG := Lib.hid (HPF.out.below n (below_step hB0 (below_step hbx hb8)))
            clear hH hbx hB0 hb8 hr8 hcv8 HBY HEN k0 k1 k2 k3 k4 k5 k6 k7 k8 k9 k10 k11 k12 k13 k14 k15
            have hBL := HPG.out.bel
            try dsimp only
            go_wp2_with (refine wpList_st16 (by rfl) _ _ 72 (by rfl) (by rfl) (by rfl) HPG.out.rb (by exact size72) (by rfl) (by simp [Value.oneCell']) hBL (Nat.le_refl _) ?_)
            intro wf hbf hBf hOf
            have c0 : World.cell? wf ⟨W.heap.size, 0, none⟩ = some (.string ⟨#[]⟩) := blk_cell hbf 0 _ rfl
            have c1 : World.cell? wf ⟨W.heap.size, 1, none⟩ = some (.int .i64 0) := blk_cell hbf 1 _ rfl
            have c2 : World.cell? wf ⟨W.heap.size, 2, none⟩ = some (.int .i64 0) := blk_cell hbf 2 _ rfl
            have c3 : World.cell? wf ⟨W.heap.size, 3, none⟩ = some (.slice none 0 0) := blk_cell hbf 3 _ rfl
            have c4 : World.cell? wf ⟨W.heap.size, 4, none⟩ = some (.int .i64 0) := blk_cell hbf 4 _ rfl
            have c5 : World.cell? wf ⟨W.heap.size, 5, none⟩ = some (.int .i64 0) := blk_cell hbf 5 _ rfl
            have c6 : World.cell? wf ⟨W.heap.size, 6, none⟩ = some (.int .i64 0) := blk_cell hbf 6 _ rfl
            have c7 : World.cell? wf ⟨W.heap.size, 7, none⟩ = some (.int .i64 0) := blk_cell hbf 7 _ rfl
            have c8 : World.cell? wf ⟨W.heap.size, 8, none⟩ = some (.int .i64 0) := blk_cell hbf 8 _ rfl
            have c9 : World.cell? wf ⟨W.heap.size, 9, none⟩ = some (.int .i64 0) := blk_cell hbf 9 _ rfl
            have c10 : World.cell? wf ⟨W.heap.size, 10, none⟩ = some (.int .i64 0) := blk_cell hbf 10 _ rfl
            have c11 : World.cell? wf ⟨W.heap.size, 11, none⟩ = some (.bool false) := blk_cell hbf 11 _ rfl
            have c12 : World.cell? wf ⟨W.heap.size, 12, none⟩ = some (.int .i64 0) := blk_cell hbf 12 _ rfl
            have c13 : World.cell? wf ⟨W.heap.size, 13, none⟩ = some (.int .i64 0) := blk_cell hbf 13 _ rfl
            have c14 : World.cell? wf ⟨W.heap.size, 14, none⟩ = some (.int .i64 0) := blk_cell hbf 14 _ rfl
            have c15 : World.cell? wf ⟨W.heap.size, 15, none⟩ = some (.int .i64 0) := blk_cell hbf 15 _ rfl
            go_wp2_with fail
            refine bodyPost_ret (v := .tuple #[entV zeroE nilS, .int .i64 9]) (by simp [results, Tryd.results39, go_sem, entV, entL, zeroE, Sb.Ent.zero, nilS, c0, c1, c2, c3, c4, c5, c6, c7, c8, c9, c10, c11, c12, c13, c14, c15]) rfl (.inr ⟨HPP.out, rfl, hBf⟩)
end Go.Proofs.YtcjidlgmbjebjaaDoor
