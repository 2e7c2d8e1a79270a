/- A part of the proof of ValueReads. -/
import Derived.Test.YtcjidlgmbjebjaaGreatDoorVrw
import Derived.Test.YtcjidlgmbjebjaaGreatDoorVrv
import Derived.Test.YtcjidlgmbjebjaaGreatDoorVrc
import Derived.Test.YtcjidlgmbjebjaaGreatDoorVro
import Derived.Lib.AppendStr
set_option linter.unusedVariables false
set_option linter.unusedSimpArgs false
set_option maxRecDepth 100000
namespace Go.Proofs.YtcjidlgmbjebjaaGreatDoor
open Go Go.RowKit Go.Proofs.YtcjidlgmbjebjaaGreatDoorW.PrintWords
def RetFrR (p : Nat) (row : Int) (s : Sb.Src) (W : World) (e : Ending) (w' : World) : Prop :=
  SrcR w' p (Sb.sFrom okV s).2 ∧ Keep1 p W w' ∧ ∃ bA bn bc vA vn vc, ((∃ lb vs B, (Sb.sFrom okV s).1 = some (lb, vs) ∧ e = .returned (.tuple #[.agg #[.int .i64 row, .slice bA bn bc, .slice vA vn vc], .bool true]) ∧ SlB w' (.slice bA bn bc) lb ∧ w'.ownsRow B 32 3 (.slice vA vn vc) vs.length (flat3 vs)) ∨
    ((Sb.sFrom okV s).1 = none ∧ e = .returned (.tuple #[.agg #[.int .i64 row, .slice bA bn bc, .slice vA vn vc], .bool false])))
def RrR (p R F B : Nat) (W : World) (row : Int) (lb : List Int) (bv : Value) (n0 : Int) (s0 : Sb.Src) (i : Value) (w' : World) : Prop :=
  ∃ (m : Nat) (sr : Sb.Src) (vs : List Sb.V3) (v : Value), i = .int .i64 m ∧ (m : Int) ≤ n0 ∧ Inv sr ∧ vs.length + m ≤ 4 ∧ ((Sb.sVals okV m sr).1.map (vs ++ ·), (Sb.sVals okV m sr).2) = Sb.sVals okV n0.toNat s0 ∧ PR p R F B W row lb bv vs v sr w'
def RcE (p R F B : Nat) (W : World) (row : Int) (lb : List Int) (bv : Value) (n0 : Int) (s0 : Sb.Src) (w' : World) : Prop :=
  ∃ (sr : Sb.Src) (vs : List Sb.V3) (v : Value), Inv sr ∧ vs.length ≤ 4 ∧ (some vs, sr) = Sb.sVals okV n0.toNat s0 ∧ PR p R F B W row lb bv vs v sr w'
def MidR (p R F B : Nat) (W : World) (row : Int) (lb : List Int) (bv : Value) (vs : List Sb.V3) (v : Value) (u : Sb.Src) (V : Nat) (x : Sb.V3) (w' : World) : Prop :=
  PR p R F B W row lb bv vs v u w' ∧ BlkAt w' V #[.int .i64 x.1, .int .i64 x.2.1, .string x.2.2] 32
theorem wpList_own32 {w : World} {ops : Array Oper} {rest : List Oper} {o : Oper} {a : Act} {Q : Exit → Act → World → Prop} {i0 : TypeInfo} (hi : Tryz.prog.info? 32 = some i0) (hz0 : i0.zero = some (.agg #[.int .i64 0, .int .i64 0, .string ⟨#[]⟩])) (hz1 : i0.size = 3) (hz2 : i0.bytes = 32)
    (hgd : o.guard = none) (s x : Operand) (ho : o.op = .call { callee := .builtin .append, args := #[s, x], argTypes := #[26, 26] })
    {base n : Nat} {v : Value} {xs : List Value} (hs : a.eval s = v) (h : w.ownsRow base 32 3 v n xs) {ad : Addr} {c : Nat} {k m : Int} {t : ByteArray} (hx : a.eval x = .slice (some ad) 1 c)
    (hnews : ∀ j u, ([.int .i64 k, .int .i64 m, .string t] : List Value)[j]? = some u → w.cell? (ad.add j) = some u) (hn : n ≤ 1000) (hbase : base ≤ w.heap.size)
    (hk : ∀ v' w', w'.ownsRow base 32 3 v' (n + 1) (xs ++ [.int .i64 k, .int .i64 m, .string t]) → w.grownBy w' v.ownBlock → wpList Tryz.prog ops Q rest (a.put o.dst v') w') : wpList Tryz.prog ops Q (o :: rest) a w := by
  refine wpList_plain hgd fun K hK => ?_
  refine wp_append_own w s x 26 ho base 32 i0 _ 3 32 Tryz.underlying26 hi hz0 hz1 hz2 rfl (by decide) v n xs hs h ad 1 c [.int .i64 k, .int .i64 m, .string t] hx rfl hnews ?_ (by unfold maxLen; omega) (by omega) hbase (fun v' w' h1 h2 _ => hK _ _ (hk v' w' h1 h2))
  intro u hu
  simp only [List.mem_cons, List.not_mem_nil, or_false] at hu
  rcases hu with rfl | rfl | rfl <;> rfl
set_option maxHeartbeats 4000000 in
theorem rfrom_val (p : Nat) (row : Int) (s : Sb.Src) (I0 : Inv s) (hsm : s.2.length ≤ 100000) (W : World) (hs : SrcR W p s) : Calls Tryz.prog 20 #[.pointer (some ⟨p, 0, none⟩), .int .i64 row] W (RetFrR p row s W) := by
  have hpl := srcR_lt hs
  obtain ⟨i0, hi, hz0, hz1, hz2⟩ := info_parts vinfo51
  have HV0 := Lib.hid (fun w h => rvar_val p 20000 s I0.1 I0.2 w h)
  obtain ⟨n0, n1⟩ := svar_rng (g := 20000) (by decide) I0.1
  have I1 : Inv (Sb.sVar 20000 s).2 := ⟨svar_byt I0.1, svar_small I0.2⟩
  obtain ⟨x, s1, q1⟩ : ∃ x s1, Sb.sVar 20000 s = (x, s1) := ⟨_, _, rfl⟩
  rw [q1] at HV0 n0 n1 I1
  dsimp only at HV0 n0 n1 I1
  obtain ⟨m1, rfl⟩ : ∃ m : Nat, x = (m : Int) := ⟨x.toNat, by omega⟩
  have HB1 := Lib.hid (fun w h => rbytes_val p m1 (by omega) s1 I1.2 w h)
  have I2 := inv_take m1 I1
  obtain ⟨lb, s2, q2⟩ : ∃ lb s2, Sb.sTake m1 s1 = (lb, s2) := ⟨_, _, rfl⟩
  unfold RetBR at HB1
  rw [q2] at HB1 I2
  dsimp only at HB1 I2
  have hblob : Sb.sBlob s = (lb, s2) := by unfold Sb.sBlob; rw [q1]; dsimp only; rw [Int.toNat_natCast, q2]
  have HN3 := Lib.hid (fun w h => rbyte_val p s2 I2.1 I2.2 w h)
  have h3 := (be_one I2.1).2
  have h30 := h3.1
  have I3 := inv_byte I2
  obtain ⟨n3, s3, q3⟩ : ∃ n3 s3, Sb.sByte s2 = (n3, s3) := ⟨_, _, rfl⟩
  rw [q3] at HN3 h3 h30 I3
  dsimp only at HN3 h3 h30 I3
  have hw3 : wrap64 n3 = n3 := by unfold wrap64; omega
  have hwm : wrap64 (m1 : Int) = (m1 : Int) := by unfold wrap64; omega
  have HS := Lib.hid hs
  clear hs
  go_enter Tryz.func20, Tryz.ntmps20
  go_wp2_with fail
  have hF : BlkAt ((W.alloc (.cells #[.int .i64 0, .slice none 0 0, .slice none 0 0] 28)).alloc (.cells #[.int .i64 row, .slice none 0 0, .slice none 0 0] 28)) (W.heap.size + 1) (ftL row nilS nilS) 28 := hp_new _ _ _ (by simp)
  have hR : BlkAt ((W.alloc (.cells #[.int .i64 0, .slice none 0 0, .slice none 0 0] 28)).alloc (.cells #[.int .i64 row, .slice none 0 0, .slice none 0 0] 28)) W.heap.size (ftL 0 nilS nilS) 28 := hp_old _ _ _ _ (by simp) (hp_new _ _ _ rfl)
  have hs0 := srcR_alloc (srcR_alloc HS.out (.cells #[.int .i64 0, .slice none 0 0, .slice none 0 0] 28)) (.cells #[.int .i64 row, .slice none 0 0, .slice none 0 0] 28)
  have hk0 := ((Keep1.refl p W).alloc (.cells #[.int .i64 0, .slice none 0 0, .slice none 0 0] 28)).alloc (.cells #[.int .i64 row, .slice none 0 0, .slice none 0 0] 28)
  have hz : ((W.alloc (.cells #[.int .i64 0, .slice none 0 0, .slice none 0 0] 28)).alloc (.cells #[.int .i64 row, .slice none 0 0, .slice none 0 0] 28)).heap.size = W.heap.size + 2 := by simp
  generalize (W.alloc (.cells #[.int .i64 0, .slice none 0 0, .slice none 0 0] 28)).alloc (.cells #[.int .i64 row, .slice none 0 0, .slice none 0 0] 28) = W2 at hF hR hs0 hk0 hz ⊢
  (with_reducible refine Calls.mono (HV0.out _ hs0) ?_)
  rintro _ w1 ⟨rfl, hs1, hk1⟩
  have hF1 := blk_keep hF hk1 (by omega)
  have hR1 := blk_keep hR hk1 (by omega)
  have hk01 := hk0.trans hk1
  have hz1 := hk1.size
  clear hF hR hs0 hk0 hk1 HS
  dsimp only
  go_wp2_with fail
  (with_reducible refine Calls.mono (HB1.out _ hs1) ?_)
  rintro _ w2 ⟨bA, bn, bc, rfl, hbn, hbl, hs2, hk2⟩
  have hF2 := blk_keep hF1 hk2 (by omega)
  have hR2 := blk_keep hR1 hk2 (by omega)
  have hk02 := hk01.trans hk2
  have hz2' := hk2.size
  have cF : World.cell? w2 ⟨W.heap.size + 1, 1, none⟩ = some (.slice none 0 0) := blk_cell hF2 1 _ rfl
  have fF : World.frozen? w2 ⟨W.heap.size + 1, 1, none⟩ = false := Lib.frozen_of_heap hF2 1
  have hnb : NoByte w2 (W.heap.size + 1) := nobyte_ft hF2 ⟨_, _, _, rfl⟩ ⟨_, _, _, rfl⟩
  have hF3 : BlkAt (w2.setCell ⟨W.heap.size + 1, 1, none⟩ (.slice bA bn bc)) (W.heap.size + 1) (ftL row (.slice bA bn bc) nilS) 28 := heap_setCell_same w2 _ 1 _ _ _ hF2
  have hR3 := blk_set (i := 1) (u := .slice bA bn bc) hR2 (show W.heap.size ≠ W.heap.size + 1 by omega)
  have hs3 := srcR_set (i := 1) (u := .slice bA bn bc) hs2 (show W.heap.size + 1 ≠ p by omega) hnb
  have hbl3 := slb_keep hbl hnb ((Keep1.refl (W.heap.size + 1) w2).set 1 (.slice bA bn bc))
  have hk03 := hk02.setNew (W.heap.size + 1) 1 (.slice bA bn bc) (by omega)
  have HS3 := Lib.hid hs3
  have HF3 := Lib.hid hF3
  have HR3 := Lib.hid hR3
  have HBL3 := Lib.hid hbl3
  have HK3 := Lib.hid hk03
  have hbb : ∀ ad n c, Value.slice bA bn bc = .slice (some ad) n c → 0 < lb.length → ad.block < w2.heap.size := fun ad n c e hpos => by
    obtain ⟨A', c', e', h1, h2⟩ := hbl
    obtain ⟨ad2, ha, hcell⟩ := kC_at h2 hpos
    injection e with e1 e2 e3
    injection e' with e4 e5 e6
    have := hcell 0 lb[0] (List.getElem?_eq_getElem hpos)
    have h9 := World.block_lt_of_cell? _ _ this
    rw [← e4, e1] at ha
    injection ha with ha
    subst ha
    simpa [Addr.add] using h9
  have HBB := Lib.hid hbb
  clear hF1 hR1 hF2 hR2 hk01 hk02 hbl hs1 hs2 hk2 hs3 hF3 hR3 hbl3 hk03 hnb hbb hbn
  dsimp only
  go_wp2_with fail
  (with_reducible refine Calls.mono (HN3.out _ HS3.out) ?_)
  rintro _ w3 ⟨rfl, hs4, hk4⟩
  have hz3 := hk4.size
  simp only [World.setCell] at hz3
  clear cF fF
  obtain ⟨n⟩ : Nonempty (NF p W.heap.size (W.heap.size + 1) w2.heap.size W) := ⟨⟨hpl, by omega, by omega, by omega, by omega, by omega, by omega⟩⟩
  have HPF := Lib.hid (show PR p W.heap.size (W.heap.size + 1) w2.heap.size W row lb (.slice bA bn bc) [] nilS s3 w3 from
    ⟨hs4, blk_keep HF3.out hk4 (by omega), blk_keep HR3.out hk4 (by omega), World.ownsRow_nil _ _ _ _, slb_keep HBL3.out (srcR_nobyte HS3.out) hk4, HBB.out, HK3.out.trans hk4, by simpa [World.setCell] using hk4.size⟩)
  clear hs4 hk4 HS3 HF3 HR3 HBL3 HK3 HBB hz1 hz2' hz3 hwm HV0 HB1 HN3
  have hn := n.hp
  by_cases h4 : n3 > 4
  · have HFR := Lib.hid (show Sb.sFrom okV s = (none, s3) by
      unfold Sb.sFrom
      rw [hblob]
      dsimp only
      rw [q3]
      dsimp only
      rw [if_pos h4])
    have c0 : World.cell? w3 ⟨W.heap.size + 1, 0, none⟩ = some (.int .i64 row) := blk_cell HPF.out.fb 0 _ rfl
    have c1 : World.cell? w3 ⟨W.heap.size + 1, 1, none⟩ = some (.slice bA bn bc) := blk_cell HPF.out.fb 1 _ rfl
    have c2 : World.cell? w3 ⟨W.heap.size + 1, 2, none⟩ = some (.slice none 0 0) := blk_cell HPF.out.fb 2 _ rfl
    clear h3 hblob q3 q1 q2
    dsimp only
    go_wp2_with (refine wpList_rowK (by rfl) _ _ 28 (by rfl) (by rfl) (by rfl) HPF.out.rb (by exact size46) (by rfl) (by simp [Value.oneCell']) ?_)
    intro wf hbf hkf
    obtain ⟨f1, f2, f3, f4⟩ := HPF.out.fin n hkf
    have d0 : World.cell? wf ⟨W.heap.size, 0, none⟩ = some (.int .i64 row) := blk_cell hbf 0 _ rfl
    have d1 : World.cell? wf ⟨W.heap.size, 1, none⟩ = some (.slice bA bn bc) := blk_cell hbf 1 _ rfl
    have d2 : World.cell? wf ⟨W.heap.size, 2, none⟩ = some (.slice none 0 0) := blk_cell hbf 2 _ rfl
    have HF1 := Lib.hid f1
    have HF2 := Lib.hid f2
    clear f1 f2 f3 f4
    go_wp2_with fail
    refine bodyPost_ret (v := .tuple #[.agg #[.int .i64 row, .slice bA bn bc, .slice none 0 0], .bool false]) (by simp [results, Tryz.results20, go_sem, d0, d1, d2]) rfl ⟨by rw [HFR.out]; exact HF1.out, HF2.out, bA, bn, bc, none, 0, 0, .inr ⟨by rw [HFR.out], rfl⟩⟩
  · clear h3 q1 q2
    dsimp only
    go_upto_block 0 with fail
    go_cut [] (fun wx => RcE p W.heap.size (W.heap.size + 1) w2.heap.size W row lb (.slice bA bn bc) n3 s3 wx)
    case first =>
      go_wp2_with fail
      go_loopw [7] (fun i w' => RrR p W.heap.size (W.heap.size + 1) w2.heap.size W row lb (.slice bA bn bc) n3 s3 i w') (fun i _ => (intOf i).toNat)
      case atStart => exact ⟨n3.toNat, s3, [], nilS, by rw [Int.toNat_of_nonneg h30], by omega, I3, by simp; omega, by simp, HPF.out⟩
      case round =>
        obtain ⟨m, sr, vs, v, rfl, hm, Ir, hlen, hco, hps⟩ := hrel
        clear HPF
        have HPS := Lib.hid hps
        have ce := srcR_err hps.src
        clear hps
        by_cases hm0 : m = 0
        · subst hm0
          have HRR := Lib.hid (show RcE p W.heap.size (W.heap.size + 1) w2.heap.size W row lb (.slice bA bn bc) n3 s3 wr from ⟨sr, vs, v, Ir, by omega, by rw [← hco]; simp [Sb.sVals], HPS.out⟩)
          clear HPS hco
          go_wp2_with fail
          go_meet
          exact HRR.out
        have hm1 : (0 : Int) < (m : Int) := by omega
        by_cases hs0 : sr.1 = 0
        case neg =>
          have HRR := Lib.hid (show RcE p W.heap.size (W.heap.size + 1) w2.heap.size W row lb (.slice bA bn bc) n3 s3 wr from ⟨sr, vs, v, Ir, by omega, by
            rw [← hco]
            obtain ⟨m', rfl⟩ : ∃ m', m = m' + 1 := ⟨m - 1, by omega⟩
            rw [Sb.sVals, if_neg hs0]; simp, HPS.out⟩)
          have he0 : (sr.1 == 0) = false := by rw [beq_eq_false_iff_ne]; exact hs0
          clear HPS hco hs0
          go_wp2_with fail
          go_meet
          exact HRR.out
        rw [hs0] at ce
        obtain ⟨k, u1, r1⟩ : ∃ k u1, Sb.sByte sr = (k, u1) := ⟨_, _, rfl⟩
        have HB := Lib.hid (rbyte_val p sr Ir.1 Ir.2 wr HPS.out.src)
        have hkr := (be_one Ir.1).2
        have J1 := inv_byte Ir
        rw [r1] at HB hkr J1
        dsimp only at HB hkr J1
        have J2 := sraw_inv (k := k) J1
        have hval : Sb.sVal sr = Sb.sRaw k u1 := by unfold Sb.sVal; rw [r1]
        obtain ⟨m', rfl⟩ : ∃ m', m = m' + 1 := ⟨m - 1, by omega⟩
        have hsv : Sb.sVals okV (m' + 1) sr = if okV (Sb.sRaw k u1).1 then ((Sb.sVals okV m' (Sb.sRaw k u1).2).1.map ((Sb.sRaw k u1).1 :: ·), (Sb.sVals okV m' (Sb.sRaw k u1).2).2) else (none, (Sb.sRaw k u1).2) := by
          rw [Sb.sVals, if_pos hs0, hval]
        rw [hsv] at hco
        clear hsv hval r1 hs0
        go_wp2_with fail
        (with_reducible refine Calls.mono HB.out ?_)
        rintro _ w5 ⟨rfl, hs5, hk5⟩
        have HP5 := Lib.hid (HPS.out.op n hs5 hk5)
        clear hk5 hs5 HPS HB ce
        have hwk : wrap64 k = k := by unfold wrap64; omega
        have hsz : (Sb.sRaw k u1).1.2.2.size ≤ 200 := by
          unfold Sb.sRaw
          split
          · exact Nat.zero_le 200
          · split
            · show (strOfNums _).size ≤ 200
              rw [strOfNums_size]
              have h1 := take_len (n := (Sb.sVar 200 u1).1.toNat) (s := (Sb.sVar 200 u1).2)
              have h2 := svar_rng (g := 200) (by decide) J1.1
              omega
            · split <;> exact Nat.zero_le 200
        dsimp only
        go_upto_block 2 with fail
        have hV := (show BlkAt (w5.alloc (.cells #[.int .i64 k, .int .i64 0, .string ⟨#[]⟩] 32)) w5.heap.size #[.int .i64 k, .int .i64 0, .string ⟨#[]⟩] 32 from hp_new _ _ _ rfl)
        have HP6 := Lib.hid (HP5.out.below ((Below.refl _ _).alloc (Nat.le_refl _) (.cells #[.int .i64 k, .int .i64 0, .string ⟨#[]⟩] 32)))
        have hfr := HP5.out.fresh
        have hBV := HP5.out.le
        have hVp : w5.heap.size ≠ p := by have := n.hB; omega
        clear HP5
        generalize w5.alloc (.cells #[.int .i64 k, .int .i64 0, .string ⟨#[]⟩] 32) = w6 at hV HP6 ⊢
        generalize w5.heap.size = V at hV hfr hBV hVp ⊢
        go_cut [] (fun wx => MidR p W.heap.size (W.heap.size + 1) w2.heap.size W row lb (.slice bA bn bc) vs v (Sb.sRaw k u1).2 V (Sb.sRaw k u1).1 wx)
        case first =>
          clear hco
          by_cases hk1 : k = 1
          · subst hk1
            have er : Sb.sRaw 1 u1 = ((1, (Sb.sInt u1).1, ⟨#[]⟩), (Sb.sInt u1).2) := by simp [Sb.sRaw]
            have HI := Lib.hid (rint_val p u1 J1.1 J1.2 w6 HP6.out.src)
            have HER := Lib.hid er
            clear er
            go_wp2_with fail
            (with_reducible refine Calls.mono HI.out ?_)
            rintro _ w7 ⟨rfl, hs7, hk7⟩
            have HP7 := HP6.out.op n hs7 hk7
            have hV7 := blk_keep hV hk7 hVp
            have cV : World.cell? w7 ⟨V, 1, none⟩ = some (.int .i64 0) := blk_cell hV7 1 _ rfl
            have fV : World.frozen? w7 ⟨V, 1, none⟩ = false := Lib.frozen_of_heap hV7 1
            have HM := Lib.hid (show MidR p W.heap.size (W.heap.size + 1) w2.heap.size W row lb (.slice bA bn bc) vs v (Sb.sInt u1).2 V (1, (Sb.sInt u1).1, ⟨#[]⟩) (w7.setCell ⟨V, 1, none⟩ (.int .i64 (Sb.sInt u1).1)) from
              ⟨HP7.put n V 1 _ hBV hfr (nobyte_v (x := (1, 0, ⟨#[]⟩)) hV7), heap_setCell_same w7 V 1 _ _ _ hV7⟩)
            clear HP7 hV7 hV HP6
            dsimp only
            go_wp2_with fail
            go_meet
            rw [HER.out]
            exact HM.out
          have hk1b : (k == 1) = false := by rw [beq_eq_false_iff_ne]; exact hk1
          by_cases hk2 : k = 2
          · subst hk2
            have er : Sb.sRaw 2 u1 = ((2, 0, strOfNums (Sb.sTake (Sb.sVar 200 u1).1.toNat (Sb.sVar 200 u1).2).1), (Sb.sTake (Sb.sVar 200 u1).1.toNat (Sb.sVar 200 u1).2).2) := by simp [Sb.sRaw]
            have HI := Lib.hid (rvar_val p 200 u1 J1.1 J1.2 w6 HP6.out.src)
            obtain ⟨z0, z1⟩ := svar_rng (g := 200) (by decide) J1.1
            have I8 : Inv (Sb.sVar 200 u1).2 := ⟨svar_byt J1.1, svar_small J1.2⟩
            obtain ⟨y, u3, qy⟩ : ∃ y u3, Sb.sVar 200 u1 = (y, u3) := ⟨_, _, rfl⟩
            rw [qy] at HI z0 z1 I8 er
            dsimp only at HI z0 z1 I8 er
            obtain ⟨m8, rfl⟩ : ∃ m : Nat, y = (m : Int) := ⟨y.toNat, by omega⟩
            have HB8 := Lib.hid (fun w h => rbytes_val p m8 (by omega) u3 I8.2 w h)
            unfold RetBR at HB8
            rw [Int.toNat_natCast] at er
            have hw8 : wrap64 (m8 : Int) = (m8 : Int) := by unfold wrap64; omega
            generalize Sb.sTake m8 u3 = tk at HB8 er
            obtain ⟨l8, u8⟩ := tk
            dsimp only at HB8 er
            have HER := Lib.hid er
            clear er hsz qy
            go_wp2_with fail
            (with_reducible refine Calls.mono HI.out ?_)
            rintro _ w7 ⟨rfl, hs7, hk7⟩
            have HP7 := Lib.hid (HP6.out.op n hs7 hk7)
            have hV7 := blk_keep hV hk7 hVp
            clear hk7 HP6 hV
            dsimp only
            go_wp2_with fail
            (with_reducible refine Calls.mono (HB8.out _ hs7) ?_)
            rintro _ w8 ⟨A8, m9, c8, rfl, hm8, hsl, hs8, hk8⟩
            have HP8 := HP7.out.op n hs8 hk8
            have hV8 := blk_keep hV7 hk8 hVp
            have cV : World.cell? w8 ⟨V, 2, none⟩ = some (.string ⟨#[]⟩) := blk_cell hV8 2 _ rfl
            have fV : World.frozen? w8 ⟨V, 2, none⟩ = false := Lib.frozen_of_heap hV8 2
            have hconv := slb_conv hsl
            have HM := Lib.hid (show MidR p W.heap.size (W.heap.size + 1) w2.heap.size W row lb (.slice bA bn bc) vs v u8 V (2, 0, strOfNums l8) (w8.setCell ⟨V, 2, none⟩ (.string (strOfNums l8))) from
              ⟨HP8.put n V 2 _ hBV hfr (nobyte_v (x := (2, 0, ⟨#[]⟩)) hV8), heap_setCell_same w8 V 2 _ _ _ hV8⟩)
            clear HP8 HP7 hV7 hV8 hs7 hs8 hk8 hm8 hsl
            dsimp only
            go_wp2_with fail
            go_meet
            rw [HER.out]
            exact HM.out
          have hk2b : (k == 2) = false := by rw [beq_eq_false_iff_ne]; exact hk2
          by_cases hk3 : k = 3
          · subst hk3
            have er : Sb.sRaw 3 u1 = ((3, (Sb.sByte u1).1, ⟨#[]⟩), (Sb.sByte u1).2) := by simp [Sb.sRaw]
            have HI := Lib.hid (rbyte_val p u1 J1.1 J1.2 w6 HP6.out.src)
            have hby := (be_one J1.1).2
            have hw9 : wrap64 (Sb.sByte u1).1 = (Sb.sByte u1).1 := by unfold wrap64; omega
            clear hby
            generalize Sb.sByte u1 = sb at HI hw9 er
            obtain ⟨b9, u9⟩ := sb
            dsimp only at HI hw9 er
            have HER := Lib.hid er
            clear er
            go_wp2_with fail
            (with_reducible refine Calls.mono HI.out ?_)
            rintro _ w7 ⟨rfl, hs7, hk7⟩
            have HP7 := HP6.out.op n hs7 hk7
            have hV7 := blk_keep hV hk7 hVp
            have cV : World.cell? w7 ⟨V, 1, none⟩ = some (.int .i64 0) := blk_cell hV7 1 _ rfl
            have fV : World.frozen? w7 ⟨V, 1, none⟩ = false := Lib.frozen_of_heap hV7 1
            have HM := Lib.hid (show MidR p W.heap.size (W.heap.size + 1) w2.heap.size W row lb (.slice bA bn bc) vs v u9 V (3, b9, ⟨#[]⟩) (w7.setCell ⟨V, 1, none⟩ (.int .i64 b9)) from
              ⟨HP7.put n V 1 _ hBV hfr (nobyte_v (x := (3, 0, ⟨#[]⟩)) hV7), heap_setCell_same w7 V 1 _ _ _ hV7⟩)
            clear HP7 hV7 hV HP6 hs7 hk7
            dsimp only
            go_wp2_with fail
            go_meet
            rw [HER.out]
            exact HM.out
          have hk3b : (k == 3) = false := by rw [beq_eq_false_iff_ne]; exact hk3
          have er : Sb.sRaw k u1 = ((k, 0, ⟨#[]⟩), u1) := by simp [Sb.sRaw, hk1, hk2, hk3]
          have HM := Lib.hid (show MidR p W.heap.size (W.heap.size + 1) w2.heap.size W row lb (.slice bA bn bc) vs v u1 V (k, 0, ⟨#[]⟩) w6 from ⟨HP6.out, hV⟩)
          have HER := Lib.hid er
          clear er hV HP6 hk1 hk2 hk3
          go_wp2_with fail
          go_meet
          rw [HER.out]
          exact HM.out
        case rest =>
          obtain ⟨hpm, hVm⟩ := hcut
          generalize Sb.sRaw k u1 = vr at hpm hVm hco hsz J2
          obtain ⟨⟨k1, k2, k3⟩, u2⟩ := vr
          dsimp only at hpm hVm hco hsz J2
          have HP6 := Lib.hid hpm
          obtain ⟨vA, vc, rfl⟩ := own_shape hpm.own
          have e0 : World.cell? wc ⟨V, 0, none⟩ = some (.int .i64 k1) := blk_cell hVm 0 _ rfl
          have e1 : World.cell? wc ⟨V, 1, none⟩ = some (.int .i64 k2) := blk_cell hVm 1 _ rfl
          have e2 : World.cell? wc ⟨V, 2, none⟩ = some (.string k3) := blk_cell hVm 2 _ rfl
          have HV6 := Lib.hid hVm
          have HG := Lib.hid (fun w => refgood_val k1 k2 k3 w (by omega))
          rw [show goodV k1 k2 k3 = okV (k1, k2, k3) from rfl] at HG
          clear hpm hVm hV hfr
          cases hb : okV (k1, k2, k3) with
          | false =>
            rw [hb] at hco HG
            have HFR := Lib.hid (from_none hblob q3 (by omega) (show Sb.sVals okV n3.toNat s3 = (none, u2) from hco.symm))
            clear hco hb
            go_wp2_with fail
            (with_reducible refine Calls.mono (HG.out _) ?_)
            rintro _ w7 ⟨rfl, hb7⟩
            have HQ := Lib.hid (HP6.out.below hb7)
            clear hb7 HP6
            have c0 : World.cell? w7 ⟨W.heap.size + 1, 0, none⟩ = some (.int .i64 row) := blk_cell HQ.out.fb 0 _ rfl
            have c1 : World.cell? w7 ⟨W.heap.size + 1, 1, none⟩ = some (.slice bA bn bc) := blk_cell HQ.out.fb 1 _ rfl
            have c2 : World.cell? w7 ⟨W.heap.size + 1, 2, none⟩ = some (.slice vA vs.length vc) := blk_cell HQ.out.fb 2 _ rfl
            dsimp only
            go_wp2_with (refine wpList_rowK (by rfl) _ _ 28 (by rfl) (by rfl) (by rfl) HQ.out.rb (by exact size46) (by rfl) (by simp [Value.oneCell']) ?_)
            intro wf hbf hkf
            obtain ⟨f1, f2, f3, f4⟩ := HQ.out.fin n hkf
            have d0 : World.cell? wf ⟨W.heap.size, 0, none⟩ = some (.int .i64 row) := blk_cell hbf 0 _ rfl
            have d1 : World.cell? wf ⟨W.heap.size, 1, none⟩ = some (.slice bA bn bc) := blk_cell hbf 1 _ rfl
            have d2 : World.cell? wf ⟨W.heap.size, 2, none⟩ = some (.slice vA vs.length vc) := blk_cell hbf 2 _ rfl
            have HF1 := Lib.hid f1
            have HF2 := Lib.hid f2
            clear f1 f2 f3 f4
            go_wp2_with fail
            refine bodyPost_ret (v := .tuple #[.agg #[.int .i64 row, .slice bA bn bc, .slice vA vs.length vc], .bool false]) (by simp [results, Tryz.results20, go_sem, d0, d1, d2]) rfl ⟨by rw [HFR.out]; exact HF1.out, HF2.out, bA, bn, bc, vA, _, vc, .inr ⟨by rw [HFR.out], rfl⟩⟩
          | true =>
            rw [hb, if_pos rfl] at hco
            rw [hb] at HG
            clear hb
            go_wp2_with fail
            (with_reducible refine Calls.mono (HG.out _) ?_)
            rintro _ w8 ⟨rfl, hb8⟩
            have HP8 := HP6.out.below hb8
            have HV8 := blk_below HV6.out hb8
            clear HP6 HV6 hb8 e0 e1 e2
            have e0 : World.cell? w8 ⟨V, 0, none⟩ = some (.int .i64 k1) := blk_cell HV8 0 _ rfl
            have e1 : World.cell? w8 ⟨V, 1, none⟩ = some (.int .i64 k2) := blk_cell HV8 1 _ rfl
            have e2 : World.cell? w8 ⟨V, 2, none⟩ = some (.string k3) := blk_cell HV8 2 _ rfl
            have c2 : World.cell? w8 ⟨W.heap.size + 1, 2, none⟩ = some (.slice vA vs.length vc) := blk_cell HP8.fb 2 _ rfl
            dsimp only
            go_wp2_with (refine wpList_own32 hi hz0 hz1 hz2 (by rfl) _ _ (by rfl) (by rfl) (HP8.own.alloc _) (by rfl) (news_at w8 k1 k2 k3) (by omega) (Nat.le_trans HP8.le (by simp)) ?_)
            intro v9 w9 ho9 hg9
            obtain ⟨A9, q9, rfl⟩ := own_shape ho9
            have hc9 := (HP8.below ((Below.refl _ _).alloc (Nat.le_refl _) _)).grow_cells n hg9
            obtain ⟨c9, f9⟩ := hc9
            have HREL := Lib.hid (show RrR p W.heap.size (W.heap.size + 1) w2.heap.size W row lb (.slice bA bn bc) n3 s3 (.int .i64 m') (w9.setCell ⟨W.heap.size + 1, 2, none⟩ (.slice A9 (vs.length + 1) q9)) from
              ⟨m', u2, vs ++ [(k1, k2, k3)], .slice A9 (vs.length + 1) q9, rfl, by omega, J2, by simp; omega, by rw [← hco]; exact congrArg (·, _) (by rw [Option.map_map]; congr 1; funext l; simp), (HP8.below ((Below.refl _ _).alloc (Nat.le_refl _) _)).vals n (k1, k2, k3) hg9 ho9⟩)
            have hwm' : wrap64 ((m' : Int) + 1 - 1) = (m' : Int) := by unfold wrap64; omega
            clear ho9 hg9 HP8 HV8 e0 e1 e2 c2 hco
            go_wp2_with fail
            exact ⟨HREL.out, by simp [intOf]⟩
    case rest =>
      obtain ⟨sr, vs, v, Ir, hlen, hsv, hps⟩ := hcut
      have HPS := Lib.hid hps
      have HFR := Lib.hid (from_some hblob q3 (by omega) hsv.symm)
      obtain ⟨vA, vc, rfl⟩ := own_shape hps.own
      have HPD := Lib.hid (hps.below (below_drew (Below.refl _ _)))
      have ce := srcR_err HPD.out.src
      have HSC := Lib.hid ce
      have c0 : World.cell? wc.drew ⟨W.heap.size + 1, 0, none⟩ = some (.int .i64 row) := blk_cell HPD.out.fb 0 _ rfl
      have c1 : World.cell? wc.drew ⟨W.heap.size + 1, 1, none⟩ = some (.slice bA bn bc) := blk_cell HPD.out.fb 1 _ rfl
      have c2 : World.cell? wc.drew ⟨W.heap.size + 1, 2, none⟩ = some (.slice vA vs.length vc) := blk_cell HPD.out.fb 2 _ rfl
      clear hps hsv HPS HPF
      go_wp2_with fail
      have hfin := HPD.out.fin n (keep_row (xs := #[.int .i64 row, .slice bA bn bc, .slice vA vs.length vc]))
      refine wp_region_held_drew (S := fun w' => BlkAt w' (W.heap.size + 1) (ftL row (.slice bA bn bc) (.slice vA vs.length vc)) 28 ∧ w'.cell? ⟨p, 1, none⟩ = some (.int .i64 sr.1)) (by kernel_rfl) ⟨HPD.out.fb, ce⟩ (fun hH => ?_)
      refine wpAnyH_take (i := 0) (v := .agg #[.int .i64 row, .slice bA bn bc, .slice vA vs.length vc]) rfl (by kernel_rfl) (by kernel_rfl) (by kernel_rfl) (fun _ _ _ h => h) (yields_ld (by rfl) 28 _ rfl (W.heap.size + 1) 28 rfl (ftL row (.slice bA bn bc) (.slice vA vs.length vc)) (fun w h => h.1) Tryz.underlying28 size46) hH ?_
      try simp only [Act.put, List.getElem_toArray, List.getElem_cons_zero, List.getElem_cons_succ, List.setIfInBounds_toArray, List.set_cons_zero, List.set_cons_succ]
      refine wpAnyH_take (i := 1) (v := ?_) rfl (by kernel_rfl) (by kernel_rfl) (by kernel_rfl) (fun _ _ _ h => h) (Or.inl ⟨by rfl, ?_⟩) hH ?_
      rotate_left
      · intro w hSw
        have h9 := hSw.2
        clear hSw
        go_simp
        try with_reducible rfl
      try simp only [Act.put, List.getElem_toArray, List.getElem_cons_zero, List.getElem_cons_succ, List.setIfInBounds_toArray, List.set_cons_zero, List.set_cons_succ]
      refine wpAnyH_take (i := 2) (v := ?_) rfl (by kernel_rfl) (by kernel_rfl) (by kernel_rfl) (fun _ _ _ h => h) (Or.inl ⟨by rfl, ?_⟩) hH ?_
      rotate_left
      · intro w hSw
        have h9 := hSw.2
        clear hSw
        go_simp
        try with_reducible rfl
      try simp only [Act.put, List.getElem_toArray, List.getElem_cons_zero, List.getElem_cons_succ, List.setIfInBounds_toArray, List.set_cons_zero, List.set_cons_succ]
      refine wpAnyH_take (i := 3) (v := ?_) rfl (by kernel_rfl) (by kernel_rfl) (by kernel_rfl) (fun _ _ _ h => h) (Or.inl ⟨by rfl, ?_⟩) hH ?_
      rotate_left
      · intro w hSw
        have h9 := hSw.2
        clear hSw
        go_simp
        try with_reducible rfl
      try simp only [Act.put, List.getElem_toArray, List.getElem_cons_zero, List.getElem_cons_succ, List.setIfInBounds_toArray, List.set_cons_zero, List.set_cons_succ]
      refine wpAnyH_take (i := 4) (v := ?_) rfl (by kernel_rfl) (by kernel_rfl) (by kernel_rfl) (fun _ _ _ h => h) (Or.inl ⟨by rfl, ?_⟩) hH ?_
      rotate_left
      · intro w hSw
        have h9 := hSw.2
        clear hSw
        go_simp
        try with_reducible rfl
      try simp only [Act.put, List.getElem_toArray, List.getElem_cons_zero, List.getElem_cons_succ, List.setIfInBounds_toArray, List.set_cons_zero, List.set_cons_succ]
      refine wpAnyH_take (i := 5) (v := ?_) rfl (by kernel_rfl) (by kernel_rfl) (by kernel_rfl) (fun _ _ _ h => h) (Or.inl ⟨by rfl, ?_⟩) hH ?_
      rotate_left
      · intro w hSw
        have h9 := hSw.2
        clear hSw
        go_simp
        try with_reducible rfl
      try simp only [Act.put, List.getElem_toArray, List.getElem_cons_zero, List.getElem_cons_succ, List.setIfInBounds_toArray, List.set_cons_zero, List.set_cons_succ]
      refine wpAnyH_ready (rs := [6]) (by kernel_rfl) (by simp) ?_
      refine AllReadyH.cons rfl (fun K hK => ?_) AllReadyH.nil
      rw [if_pos (by rfl)]
      refine wp_store_row 28 _ _ rfl W.heap.size _ rfl rfl 28 _ HPD.out.rb size46 rfl (by simp [Value.oneCell']) ?_
      refine hK.out _ _ ⟨(keep_row.block (blk_lt HPD.out.fb) n.RF.symm).trans HPD.out.fb, srcR_err hfin.1⟩ (fun hH2 => ?_)
      clear hK K hH
      have hbf : BlkAt (wc.drew.setRow W.heap.size #[.int .i64 row, .slice bA bn bc, .slice vA vs.length vc]) W.heap.size #[.int .i64 row, .slice bA bn bc, .slice vA vs.length vc] 28 := setRow_heap wc.drew W.heap.size _ #[.int .i64 row, .slice bA bn bc, .slice vA vs.length vc] 28 (0, 0) HPD.out.rb
      generalize wc.drew.setRow W.heap.size #[.int .i64 row, .slice bA bn bc, .slice vA vs.length vc] = wf at hfin hbf hH2 ⊢
      try simp only [Act.put, List.getElem_toArray, List.getElem_cons_zero, List.getElem_cons_succ, List.setIfInBounds_toArray, List.set_cons_zero, List.set_cons_succ]
      refine wpAnyH_ready (rs := [7]) (by kernel_rfl) (by simp) ?_
      refine AllReadyH.cons rfl (fun K hK => ?_) AllReadyH.nil
      go_simp
      refine hK.out _ _ hH2 (fun hH3 => ?_)
      clear hK K
      refine wpAnyH_done (by kernel_rfl) ?_ _
      obtain ⟨f1, f2, f3, f4⟩ := hfin
      have d0 : World.cell? wf ⟨W.heap.size, 0, none⟩ = some (.int .i64 row) := blk_cell hbf 0 _ rfl
      have d1 : World.cell? wf ⟨W.heap.size, 1, none⟩ = some (.slice bA bn bc) := blk_cell hbf 1 _ rfl
      have d2 : World.cell? wf ⟨W.heap.size, 2, none⟩ = some (.slice vA vs.length vc) := blk_cell hbf 2 _ rfl
      have HF1 := Lib.hid f1
      have HF2 := Lib.hid f2
      have HF3 := Lib.hid f3
      have HF4 := Lib.hid f4
      clear f1 f2 f3 f4 hH2 hH3 hbf
      by_cases he : sr.1 = 0
      · have HFR2 := HFR.out
        rw [if_pos he] at HFR2
        have HFR3 := Lib.hid HFR2
        have heb : (sr.1 == 0) = true := by simp [he]
        clear HFR2 he
        go_wp2_with fail
        refine bodyPost_ret (v := .tuple #[.agg #[.int .i64 row, .slice bA bn bc, .slice vA vs.length vc], .bool true]) (by simp [results, Tryz.results20, go_sem, d0, d1, d2, heb]) rfl ⟨by rw [HFR3.out]; exact HF1.out, HF2.out, bA, bn, bc, vA, _, vc, .inl ⟨lb, vs, _, by rw [HFR3.out], rfl, HF3.out, HF4.out⟩⟩
      · have HFR2 := HFR.out
        rw [if_neg he] at HFR2
        have HFR3 := Lib.hid HFR2
        have heb : (sr.1 == 0) = false := by simp [he]
        clear HFR2 he
        go_wp2_with fail
        refine bodyPost_ret (v := .tuple #[.agg #[.int .i64 row, .slice bA bn bc, .slice vA vs.length vc], .bool false]) (by simp [results, Tryz.results20, go_sem, d0, d1, d2, heb]) rfl ⟨by rw [HFR3.out]; exact HF1.out, HF2.out, bA, bn, bc, vA, _, vc, .inr ⟨by rw [HFR3.out], rfl⟩⟩
end Go.Proofs.YtcjidlgmbjebjaaGreatDoor

namespace Go.Proofs.YtcjidlgmbjebjaaGreatDoor
open Go Go.RowKit Go.Proofs.YtcjidlgmbjebjaaGreatDoorW.PrintWords
theorem own_notR {w wf : World} {R B n : Nat} {v : Value} {xs : List Value} {cs : Array Value} (h : w.ownsRow B 32 3 v n xs) (hR : BlkAt w R cs 28) (hk : Keep1 R w wf) : wf.ownsRow B 32 3 v n xs := by
  refine h.kept (keep_grown hk) ?_
  rcases h.2 with ⟨rfl, _⟩ | ⟨g, cap, cur, rfl, _, hg, _⟩
  · exact .inl rfl
  · refine .inr fun e => ?_
    injection e with e
    subst e
    have := hg.symm.trans hR
    injection this with this
    injection this with _ e2 _
    cases e2
def RetFr (p : Nat) (row : Int) (s : Sb.Src) (W : World) (e : Ending) (w' : World) : Prop :=
  SrcP w' p (Sb.sFrom okV s).2 ∧ Keep1 p W w' ∧ ((∃ lb vs B bA bn bc vA vn vc, (Sb.sFrom okV s).1 = some (lb, vs) ∧ e = .returned (.tuple #[.agg #[.int .i64 row, .slice bA bn bc, .slice vA vn vc], .bool true]) ∧ SlB w' (.slice bA bn bc) lb ∧ w'.ownsRow B 32 3 (.slice vA vn vc) vs.length (flat3 vs)) ∨
    ((Sb.sFrom okV s).1 = none ∧ e = .returned (.tuple #[.agg #[.int .i64 0, .slice none 0 0, .slice none 0 0], .bool false])))
set_option maxHeartbeats 2000000 in
theorem From_val (p : Nat) (row : Int) (s : Sb.Src) (I0 : Inv s) (W : World) (hs : SrcP W p s) : Calls Tryz.prog 19 #[.pointer (some ⟨p, 0, none⟩), .int .i64 row] W (RetFr p row s W) := by
  have hpl := src_lt hs
  have HF := Lib.hid (fun w h => from_val p row s I0 w h)
  unfold RetFrom at HF
  have HS := Lib.hid (src_alloc hs (.cells #[.int .i64 0, .slice none 0 0, .slice none 0 0] 28))
  have HR := Lib.hid (show BlkAt (W.alloc (.cells #[.int .i64 0, .slice none 0 0, .slice none 0 0] 28)) W.heap.size #[.int .i64 0, .slice none 0 0, .slice none 0 0] 28 from hp_new _ _ _ rfl)
  have HK := Lib.hid ((Keep1.refl p W).alloc (.cells #[.int .i64 0, .slice none 0 0, .slice none 0 0] 28))
  clear hs
  go_enter Tryz.func19, Tryz.ntmps19
  go_wp2_with fail
  (with_reducible refine Calls.mono (HF.out _ HS.out) ?_)
  rintro _ w1 ⟨hs1, hk1, bA, bn, bc, vA, vn, vc, ⟨lb, vs, B, hfr, rfl, hb, hv⟩ | ⟨hfr, rfl⟩⟩
  · have hR1 := blk_keep HR.out hk1 (by omega)
    have hz := hk1.size
    simp only [World.alloc, Array.size_push] at hz
    have hlt := blk_lt hR1
    have hs2 := src_alloc hs1 (.cells #[.int .i64 row, .slice bA bn bc, .slice vA vn vc] 28)
    have hR2 := blk_alloc hR1 (.cells #[.int .i64 row, .slice bA bn bc, .slice vA vn vc] 28)
    have hal : Below w1.heap.size w1 (w1.alloc (.cells #[.int .i64 row, .slice bA bn bc, .slice vA vn vc] 28)) := (Below.refl _ _).alloc (Nat.le_refl _) _
    have hb2 := slb_below hb hal
    have hv2 := own_below hv hal
    have hk2 := (HK.out.trans hk1).alloc (.cells #[.int .i64 row, .slice bA bn bc, .slice vA vn vc] 28)
    have hnb : NoByte (w1.alloc (.cells #[.int .i64 row, .slice bA bn bc, .slice vA vn vc] 28)) W.heap.size := nobyte_ft (row := 0) (b := .slice none 0 0) (v := .slice none 0 0) hR2 ⟨_, _, _, rfl⟩ ⟨_, _, _, rfl⟩
    have HS2 := Lib.hid hs2
    have HR2 := Lib.hid hR2
    have HB2 := Lib.hid hb2
    have HV2 := Lib.hid hv2
    have HK2 := Lib.hid hk2
    have HNB := Lib.hid hnb
    have HFR := Lib.hid hfr
    clear hs1 hk1 hb hv hR1 hs2 hR2 hal hb2 hv2 hk2 hnb hfr hz
    dsimp only
    go_wp2_with (refine wpList_rowK (by rfl) _ _ 28 (by rfl) (by rfl) (by rfl) HR2.out (by exact size46) (by rfl) (by simp [Value.oneCell']) ?_)
    intro wf hbf hkf
    have d0 : World.cell? wf ⟨W.heap.size, 0, none⟩ = some (.int .i64 row) := blk_cell hbf 0 _ rfl
    have d1 : World.cell? wf ⟨W.heap.size, 1, none⟩ = some (.slice bA bn bc) := blk_cell hbf 1 _ rfl
    have d2 : World.cell? wf ⟨W.heap.size, 2, none⟩ = some (.slice vA vn vc) := blk_cell hbf 2 _ rfl
    have HF1 := Lib.hid (src_keep HS2.out HNB.out (by omega) hkf)
    have HF2 := Lib.hid (keep_new HK2.out hkf (Nat.le_refl _))
    have HF3 := Lib.hid (slb_keep HB2.out HNB.out hkf)
    have HF4 := Lib.hid (own_notR HV2.out HR2.out hkf)
    clear hbf hkf
    go_wp2_with fail
    refine bodyPost_ret (v := .tuple #[.agg #[.int .i64 row, .slice bA bn bc, .slice vA vn vc], .bool true]) (by simp [results, Tryz.results19, go_sem, d0, d1, d2]) rfl ⟨HF1.out, HF2.out, .inl ⟨lb, vs, B, bA, bn, bc, vA, vn, vc, HFR.out, rfl, HF3.out, HF4.out⟩⟩
  · have hR1 := blk_keep HR.out hk1 (by omega)
    have hlt := blk_lt hR1
    have hs2 := src_alloc hs1 (.cells #[.int .i64 row, .slice bA bn bc, .slice vA vn vc] 28)
    have hR2 := blk_alloc hR1 (.cells #[.int .i64 row, .slice bA bn bc, .slice vA vn vc] 28)
    have hk2 := (HK.out.trans hk1).alloc (.cells #[.int .i64 row, .slice bA bn bc, .slice vA vn vc] 28)
    have hnb : NoByte (w1.alloc (.cells #[.int .i64 row, .slice bA bn bc, .slice vA vn vc] 28)) W.heap.size := nobyte_ft (row := 0) (b := .slice none 0 0) (v := .slice none 0 0) hR2 ⟨_, _, _, rfl⟩ ⟨_, _, _, rfl⟩
    have HS2 := Lib.hid hs2
    have HR2 := Lib.hid hR2
    have HK2 := Lib.hid hk2
    have HNB := Lib.hid hnb
    have HFR := Lib.hid hfr
    clear hs1 hk1 hR1 hs2 hR2 hk2 hnb hfr
    dsimp only
    go_wp2_with (refine wpList_rowK (by rfl) _ _ 28 (by rfl) (by rfl) (by rfl) HR2.out (by exact size46) (by rfl) (by simp [Value.oneCell']) ?_)
    intro wf hbf hkf
    have d0 : World.cell? wf ⟨W.heap.size, 0, none⟩ = some (.int .i64 0) := blk_cell hbf 0 _ rfl
    have d1 : World.cell? wf ⟨W.heap.size, 1, none⟩ = some (.slice none 0 0) := blk_cell hbf 1 _ rfl
    have d2 : World.cell? wf ⟨W.heap.size, 2, none⟩ = some (.slice none 0 0) := blk_cell hbf 2 _ rfl
    have HF1 := Lib.hid (src_keep HS2.out HNB.out (by omega) hkf)
    have HF2 := Lib.hid (keep_new HK2.out hkf (Nat.le_refl _))
    clear hbf hkf
    go_wp2_with fail
    refine bodyPost_ret (v := .tuple #[.agg #[.int .i64 0, .slice none 0 0, .slice none 0 0], .bool false]) (by simp [results, Tryz.results19, go_sem, d0, d1, d2]) rfl ⟨HF1.out, HF2.out, .inr ⟨HFR.out, rfl⟩⟩
end Go.Proofs.YtcjidlgmbjebjaaGreatDoor

namespace Go.Proofs.YtcjidlgmbjebjaaGreatDoor
open Go Go.RowKit Go.Proofs.YtcjidlgmbjebjaaGreatDoorW.PrintWords
def RetPv (row : Int) (l : List Int) (W : World) (e : Ending) (w' : World) : Prop :=
  Below W.heap.size W w' ∧ ((∃ lb vs B bA bn bc vA vn vc, Sb.parseF okV l = some (lb, vs) ∧ e = .returned (.tuple #[.agg #[.int .i64 row, .slice bA bn bc, .slice vA vn vc], .int .i64 0]) ∧ SlB w' (.slice bA bn bc) lb ∧ w'.ownsRow B 32 3 (.slice vA vn vc) vs.length (flat3 vs)) ∨
    (Sb.parseF okV l = none ∧ e = .returned (.tuple #[.agg #[.int .i64 0, .slice none 0 0, .slice none 0 0], .int .i64 9])))
theorem parseF_yes {l : List Int} {s : Sb.Src} {x : List Int × List Sb.V3} (h1 : (Sb.sFrom okV (0, l)).1 = some x) (h2 : (Sb.sFrom okV (0, l)).2 = s) (h : s = (0, [])) : Sb.parseF okV l = some x := by
  unfold Sb.parseF; rw [h2, if_pos h, h1]
theorem parseF_no1 {l : List Int} {s : Sb.Src} (h2 : (Sb.sFrom okV (0, l)).2 = s) (h : s ≠ (0, [])) : Sb.parseF okV l = none := by
  unfold Sb.parseF; rw [h2, if_neg h]
theorem parseF_no2 {l : List Int} (h1 : (Sb.sFrom okV (0, l)).1 = none) : Sb.parseF okV l = none := by
  unfold Sb.parseF; split
  · exact h1
  · rfl
theorem endOf_nz {sf : Sb.Src} (h : sf ≠ (0, [])) : endOf sf ≠ 0 := by
  intro h9
  apply h
  unfold endOf at h9
  by_cases h0 : sf.1 = 0
  · rw [if_pos h0] at h9
    by_cases h1 : sf.2 = []
    · exact Prod.ext h0 h1
    · rw [if_neg h1] at h9; cases h9
  · rw [if_neg h0] at h9; exact absurd h9 h0
set_option maxHeartbeats 2000000 in
theorem vparse_val (row : Int) (v0 : Value) (l : List Int) (hb : Byt l) (hl : l.length ≤ 100000) (W : World) (hv : SlB W v0 l) : Calls Tryz.prog 15 #[.int .i64 row, v0] W (RetPv row l W) := by
  have HV := Lib.hid (slb_alloc hv (.cells #[.int .i64 0, .slice none 0 0, .slice none 0 0] 28))
  obtain ⟨A0, c0, rfl, hc0, _⟩ := hv
  have HR := Lib.hid (fun w h => read_val (.slice A0 l.length c0) l w h (by omega))
  have I0 : Inv (0, l) := ⟨hb, by show l.length ≤ _; omega⟩
  have HFM := Lib.hid (fun p w h => From_val p row (0, l) I0 w h)
  unfold RetFr at HFM
  obtain ⟨sf, hsf⟩ : ∃ sf, (Sb.sFrom okV (0, l)).2 = sf := ⟨_, rfl⟩
  rw [hsf] at HFM
  have HB0 := Lib.hid (show BlkAt (W.alloc (.cells #[.int .i64 0, .slice none 0 0, .slice none 0 0] 28)) W.heap.size #[.int .i64 0, .slice none 0 0, .slice none 0 0] 28 from hp_new _ _ _ rfl)
  have HK0 := Lib.hid ((Below.refl W.heap.size W).alloc (Nat.le_refl _) (.cells #[.int .i64 0, .slice none 0 0, .slice none 0 0] 28))
  generalize l.length = M0 at HV HR hc0
  go_enter Tryz.func15, Tryz.ntmps15
  go_wp2_with fail
  (with_reducible refine Calls.mono (HR.out _ HV.out) ?_)
  rintro _ w1 ⟨p, rfl, hp, hs1, hb1⟩
  have hR1 := blk_below HB0.out hb1
  have hB1 := below_step HK0.out hb1
  have hpl := src_lt hs1
  have hpW : W.heap.size < p := by simp at hp; omega
  clear hb1 hp
  dsimp only
  go_wp2_with fail
  (with_reducible refine Calls.mono (HFM.out p _ hs1) ?_)
  rintro _ w2 ⟨hs2, hk2, ⟨lb, vs, B, bA, bn, bc, vA, vn, vc, hfr, rfl, hbl, hvl⟩ | ⟨hfr, rfl⟩⟩
  · have hR2 := blk_keep hR1 hk2 (by omega)
    have hB2 := hk2.below hB1 (by omega) hB1.size
    have hal : Below w2.heap.size w2 (w2.alloc (.cells #[.int .i64 row, .slice bA bn bc, .slice vA vn vc] 28)) := (Below.refl _ _).alloc (Nat.le_refl _) _
    have hs3 := src_below hs2 hal
    have hR3 := blk_below hR2 hal
    have hB3 := below_step hB2 hal
    have hbl3 := slb_below hbl hal
    have hvl3 := own_below hvl hal
    have HE := Lib.hid (end_val p sf _ hs3)
    have hlt2 := blk_lt hR2
    clear hs1 hs2 hk2 hR1 hR2 hB1 hB2 hal hbl hvl
    have HRR := Lib.hid hR3
    have HBL := Lib.hid hbl3
    have HVL := Lib.hid hvl3
    have hnb : NoByte (w2.alloc (.cells #[.int .i64 row, .slice bA bn bc, .slice vA vn vc] 28)) W.heap.size := nobyte_ft (row := 0) (b := .slice none 0 0) (v := .slice none 0 0) hR3 ⟨_, _, _, rfl⟩ ⟨_, _, _, rfl⟩
    have HNB := Lib.hid hnb
    have HB3 := Lib.hid hB3
    clear hs3 hR3 hbl3 hvl3 hnb hB3
    by_cases hend : sf = (0, [])
    · have HPP := Lib.hid (parseF_yes hfr hsf hend)
      have hez : endOf sf = 0 := by rw [hend]; rfl
      rw [hez] at HE
      clear hez hend hfr hsf
      dsimp only
      go_wp2_with fail
      (with_reducible refine Calls.mono HE.out ?_)
      rintro _ w4 ⟨rfl, rfl⟩
      dsimp only
      go_wp2_with (refine wpList_rowK (by rfl) _ _ 28 (by rfl) (by rfl) (by rfl) HRR.out (by exact size46) (by rfl) (by simp [Value.oneCell']) ?_)
      intro wf hbf hkf
      have d0 : World.cell? wf ⟨W.heap.size, 0, none⟩ = some (.int .i64 row) := blk_cell hbf 0 _ rfl
      have d1 : World.cell? wf ⟨W.heap.size, 1, none⟩ = some (.slice bA bn bc) := blk_cell hbf 1 _ rfl
      have d2 : World.cell? wf ⟨W.heap.size, 2, none⟩ = some (.slice vA vn vc) := blk_cell hbf 2 _ rfl
      have HF2 := Lib.hid (hkf.below HB3.out (Nat.le_refl _) HB3.out.size)
      have HF3 := Lib.hid (slb_keep HBL.out HNB.out hkf)
      have HF4 := Lib.hid (own_notR HVL.out HRR.out hkf)
      clear hbf hkf
      go_wp2_with fail
      refine bodyPost_ret (v := .tuple #[.agg #[.int .i64 row, .slice bA bn bc, .slice vA vn vc], .int .i64 0]) (by simp [results, Tryz.results15, go_sem, d0, d1, d2]) rfl ⟨HF2.out, .inl ⟨lb, vs, B, bA, bn, bc, vA, vn, vc, HPP.out, rfl, HF3.out, HF4.out⟩⟩
    · have HPP := Lib.hid (parseF_no1 hsf hend)
      have hne := endOf_nz hend
      have hnb2 : (endOf sf != 0) = true := by rw [bne_iff_ne]; exact hne
      generalize endOf sf = E9 at HE hne hnb2
      clear hend hfr hsf hne
      dsimp only
      go_wp2_with fail
      (with_reducible refine Calls.mono HE.out ?_)
      rintro _ w4 ⟨rfl, rfl⟩
      dsimp only
      go_wp2_with (refine wpList_rowK (by rfl) _ _ 28 (by rfl) (by rfl) (by rfl) HRR.out (by exact size46) (by rfl) (by simp [Value.oneCell']) ?_)
      intro wf hbf hkf
      have d0 : World.cell? wf ⟨W.heap.size, 0, none⟩ = some (.int .i64 0) := blk_cell hbf 0 _ rfl
      have d1 : World.cell? wf ⟨W.heap.size, 1, none⟩ = some (.slice none 0 0) := blk_cell hbf 1 _ rfl
      have d2 : World.cell? wf ⟨W.heap.size, 2, none⟩ = some (.slice none 0 0) := blk_cell hbf 2 _ rfl
      have HF2 := Lib.hid (hkf.below HB3.out (Nat.le_refl _) HB3.out.size)
      clear hbf hkf
      go_wp2_with fail
      refine bodyPost_ret (v := .tuple #[.agg #[.int .i64 0, .slice none 0 0, .slice none 0 0], .int .i64 9]) (by simp [results, Tryz.results15, go_sem, d0, d1, d2]) rfl ⟨HF2.out, .inr ⟨HPP.out, rfl⟩⟩
  · have hR2 := blk_keep hR1 hk2 (by omega)
    have hB2 := hk2.below hB1 (by omega) hB1.size
    have hal : Below w2.heap.size w2 (w2.alloc (.cells #[.int .i64 0, .slice none 0 0, .slice none 0 0] 28)) := (Below.refl _ _).alloc (Nat.le_refl _) _
    have HRR := Lib.hid (blk_below hR2 hal)
    have HB3 := Lib.hid (below_step hB2 hal)
    have HPP := Lib.hid (parseF_no2 hfr)
    have hlt2 := blk_lt hR2
    clear hs1 hs2 hk2 hR1 hR2 hB1 hB2 hal hfr hsf
    dsimp only
    go_wp2_with (refine wpList_rowK (by rfl) _ _ 28 (by rfl) (by rfl) (by rfl) HRR.out (by exact size46) (by rfl) (by simp [Value.oneCell']) ?_)
    intro wf hbf hkf
    have d0 : World.cell? wf ⟨W.heap.size, 0, none⟩ = some (.int .i64 0) := blk_cell hbf 0 _ rfl
    have d1 : World.cell? wf ⟨W.heap.size, 1, none⟩ = some (.slice none 0 0) := blk_cell hbf 1 _ rfl
    have d2 : World.cell? wf ⟨W.heap.size, 2, none⟩ = some (.slice none 0 0) := blk_cell hbf 2 _ rfl
    have HF2 := Lib.hid (hkf.below HB3.out (Nat.le_refl _) HB3.out.size)
    clear hbf hkf
    go_wp2_with fail
    refine bodyPost_ret (v := .tuple #[.agg #[.int .i64 0, .slice none 0 0, .slice none 0 0], .int .i64 9]) (by simp [results, Tryz.results15, go_sem, d0, d1, d2]) rfl ⟨HF2.out, .inr ⟨HPP.out, rfl⟩⟩
end Go.Proofs.YtcjidlgmbjebjaaGreatDoor

namespace Go.Proofs.YtcjidlgmbjebjaaGreatDoor
open Go Go.RowKit Go.Proofs.YtcjidlgmbjebjaaGreatDoorW.PrintWords
set_option maxHeartbeats 2000000 in
theorem rparse_val (row : Int) (v0 : Value) (l : List Int) (hb : Byt l) (hl : l.length ≤ 100000) (W : World) (hv : SlB W v0 l) : Calls Tryz.prog 16 #[.int .i64 row, v0] W (RetPv row l W) := by
  have HV := Lib.hid (slb_alloc hv (.cells #[.int .i64 0, .slice none 0 0, .slice none 0 0] 28))
  obtain ⟨A0, c0, rfl, hc0, _⟩ := hv
  have HR := Lib.hid (fun w h => rread_val (.slice A0 l.length c0) l w h (by omega))
  have I0 : Inv (0, l) := ⟨hb, by show l.length ≤ _; omega⟩
  have HFM := Lib.hid (fun p w h => rfrom_val p row (0, l) I0 hl w h)
  unfold RetFrR at HFM
  obtain ⟨sf, hsf⟩ : ∃ sf, (Sb.sFrom okV (0, l)).2 = sf := ⟨_, rfl⟩
  rw [hsf] at HFM
  have HB0 := Lib.hid (show BlkAt (W.alloc (.cells #[.int .i64 0, .slice none 0 0, .slice none 0 0] 28)) W.heap.size #[.int .i64 0, .slice none 0 0, .slice none 0 0] 28 from hp_new _ _ _ rfl)
  have HK0 := Lib.hid ((Below.refl W.heap.size W).alloc (Nat.le_refl _) (.cells #[.int .i64 0, .slice none 0 0, .slice none 0 0] 28))
  generalize l.length = M0 at HV HR hc0
  go_enter Tryz.func16, Tryz.ntmps16
  go_wp2_with fail
  (with_reducible refine Calls.mono (HR.out _ HV.out) ?_)
  rintro _ w1 ⟨p, rfl, hp, hs1, hb1⟩
  have hR1 := blk_below HB0.out hb1
  have hB1 := below_step HK0.out hb1
  have hpl := srcR_lt hs1
  have hpW : W.heap.size < p := by simp at hp; omega
  clear hb1 hp
  dsimp only
  go_wp2_with fail
  (with_reducible refine Calls.mono (HFM.out p _ hs1) ?_)
  rintro _ w2 ⟨hs2, hk2, bA, bn, bc, vA, vn, vc, ⟨lb, vs, B, hfr, rfl, hbl, hvl⟩ | ⟨hfr, rfl⟩⟩
  · have hR2 := blk_keep hR1 hk2 (by omega)
    have hB2 := hk2.below hB1 (by omega) hB1.size
    have hal : Below w2.heap.size w2 (w2.alloc (.cells #[.int .i64 row, .slice bA bn bc, .slice vA vn vc] 28)) := (Below.refl _ _).alloc (Nat.le_refl _) _
    have hs3 := srcR_below hs2 hal
    have hR3 := blk_below hR2 hal
    have hB3 := below_step hB2 hal
    have hbl3 := slb_below hbl hal
    have hvl3 := own_below hvl hal
    have HE := Lib.hid (rend_val p sf _ hs3)
    have hlt2 := blk_lt hR2
    clear hs1 hs2 hk2 hR1 hR2 hB1 hB2 hal hbl hvl
    have HRR := Lib.hid hR3
    have HBL := Lib.hid hbl3
    have HVL := Lib.hid hvl3
    have hnb : NoByte (w2.alloc (.cells #[.int .i64 row, .slice bA bn bc, .slice vA vn vc] 28)) W.heap.size := nobyte_ft (row := 0) (b := .slice none 0 0) (v := .slice none 0 0) hR3 ⟨_, _, _, rfl⟩ ⟨_, _, _, rfl⟩
    have HNB := Lib.hid hnb
    have HB3 := Lib.hid hB3
    clear hs3 hR3 hbl3 hvl3 hnb hB3
    by_cases hend : sf = (0, [])
    · have HPP := Lib.hid (parseF_yes hfr hsf hend)
      have hez : endOf sf = 0 := by rw [hend]; rfl
      rw [hez] at HE
      clear hez hend hfr hsf
      dsimp only
      go_wp2_with fail
      (with_reducible refine Calls.mono HE.out ?_)
      rintro _ w4 ⟨rfl, rfl⟩
      dsimp only
      go_wp2_with (refine wpList_rowK (by rfl) _ _ 28 (by rfl) (by rfl) (by rfl) HRR.out (by exact size46) (by rfl) (by simp [Value.oneCell']) ?_)
      intro wf hbf hkf
      have d0 : World.cell? wf ⟨W.heap.size, 0, none⟩ = some (.int .i64 row) := blk_cell hbf 0 _ rfl
      have d1 : World.cell? wf ⟨W.heap.size, 1, none⟩ = some (.slice bA bn bc) := blk_cell hbf 1 _ rfl
      have d2 : World.cell? wf ⟨W.heap.size, 2, none⟩ = some (.slice vA vn vc) := blk_cell hbf 2 _ rfl
      have HF2 := Lib.hid (hkf.below HB3.out (Nat.le_refl _) HB3.out.size)
      have HF3 := Lib.hid (slb_keep HBL.out HNB.out hkf)
      have HF4 := Lib.hid (own_notR HVL.out HRR.out hkf)
      clear hbf hkf
      go_wp2_with fail
      refine bodyPost_ret (v := .tuple #[.agg #[.int .i64 row, .slice bA bn bc, .slice vA vn vc], .int .i64 0]) (by simp [results, Tryz.results16, go_sem, d0, d1, d2]) rfl ⟨HF2.out, .inl ⟨lb, vs, B, bA, bn, bc, vA, vn, vc, HPP.out, rfl, HF3.out, HF4.out⟩⟩
    · have HPP := Lib.hid (parseF_no1 hsf hend)
      have hne := endOf_nz hend
      have hnb2 : (endOf sf != 0) = true := by rw [bne_iff_ne]; exact hne
      generalize endOf sf = E9 at HE hne hnb2
      clear hend hfr hsf hne
      dsimp only
      go_wp2_with fail
      (with_reducible refine Calls.mono HE.out ?_)
      rintro _ w4 ⟨rfl, rfl⟩
      dsimp only
      go_wp2_with (refine wpList_rowK (by rfl) _ _ 28 (by rfl) (by rfl) (by rfl) HRR.out (by exact size46) (by rfl) (by simp [Value.oneCell']) ?_)
      intro wf hbf hkf
      have d0 : World.cell? wf ⟨W.heap.size, 0, none⟩ = some (.int .i64 0) := blk_cell hbf 0 _ rfl
      have d1 : World.cell? wf ⟨W.heap.size, 1, none⟩ = some (.slice none 0 0) := blk_cell hbf 1 _ rfl
      have d2 : World.cell? wf ⟨W.heap.size, 2, none⟩ = some (.slice none 0 0) := blk_cell hbf 2 _ rfl
      have HF2 := Lib.hid (hkf.below HB3.out (Nat.le_refl _) HB3.out.size)
      clear hbf hkf
      go_wp2_with fail
      refine bodyPost_ret (v := .tuple #[.agg #[.int .i64 0, .slice none 0 0, .slice none 0 0], .int .i64 9]) (by simp [results, Tryz.results16, go_sem, d0, d1, d2]) rfl ⟨HF2.out, .inr ⟨HPP.out, rfl⟩⟩
  · have hR2 := blk_keep hR1 hk2 (by omega)
    have hB2 := hk2.below hB1 (by omega) hB1.size
    have hal : Below w2.heap.size w2 (w2.alloc (.cells #[.int .i64 row, .slice bA bn bc, .slice vA vn vc] 28)) := (Below.refl _ _).alloc (Nat.le_refl _) _
    have HRR := Lib.hid (blk_below hR2 hal)
    have HB3 := Lib.hid (below_step hB2 hal)
    have HPP := Lib.hid (parseF_no2 hfr)
    have hlt2 := blk_lt hR2
    clear hs1 hs2 hk2 hR1 hR2 hB1 hB2 hal hfr hsf
    dsimp only
    go_wp2_with (refine wpList_rowK (by rfl) _ _ 28 (by rfl) (by rfl) (by rfl) HRR.out (by exact size46) (by rfl) (by simp [Value.oneCell']) ?_)
    intro wf hbf hkf
    have d0 : World.cell? wf ⟨W.heap.size, 0, none⟩ = some (.int .i64 0) := blk_cell hbf 0 _ rfl
    have d1 : World.cell? wf ⟨W.heap.size, 1, none⟩ = some (.slice none 0 0) := blk_cell hbf 1 _ rfl
    have d2 : World.cell? wf ⟨W.heap.size, 2, none⟩ = some (.slice none 0 0) := blk_cell hbf 2 _ rfl
    have HF2 := Lib.hid (hkf.below HB3.out (Nat.le_refl _) HB3.out.size)
    clear hbf hkf
    go_wp2_with fail
    refine bodyPost_ret (v := .tuple #[.agg #[.int .i64 0, .slice none 0 0, .slice none 0 0], .int .i64 9]) (by simp [results, Tryz.results16, go_sem, d0, d1, d2]) rfl ⟨HF2.out, .inr ⟨HPP.out, rfl⟩⟩
end Go.Proofs.YtcjidlgmbjebjaaGreatDoor

namespace Go.Proofs.YtcjidlgmbjebjaaGreatDoor.Sb
open Go
end Go.Proofs.YtcjidlgmbjebjaaGreatDoor.Sb

namespace Go.Proofs.YtcjidlgmbjebjaaGreatDoor.Sb
open Go
end Go.Proofs.YtcjidlgmbjebjaaGreatDoor.Sb

namespace Go.Proofs.YtcjidlgmbjebjaaGreatDoor
open Go Go.RowKit Go.Proofs.YtcjidlgmbjebjaaGreatDoorW.PrintWords
def toV3 (x : Va) : Sb.V3 := (x.f0, x.f1, x.f2)
end Go.Proofs.YtcjidlgmbjebjaaGreatDoor

namespace Go.Proofs.YtcjidlgmbjebjaaGreatDoor
open Go Go.RowKit Go.Proofs.YtcjidlgmbjebjaaGreatDoorW.PrintWords
def featV (row : Int) (A : Option Addr) (n cb : Nat) (vv : Value) : Value := .agg #[.int .i64 row, .slice A n cb, vv]
def ByR (lb : List Int) (vs : List Va) (W : World) (t i : Value) (w' : World) : Prop :=
  ∃ (j m c : Nat) (p : Option Addr), j ≤ vs.length ∧ i = .int .i64 j ∧ t = .slice p m c ∧ Row w' (W.heap.size + 1) (.slice p m c) (varB lb.length ++ (lb ++ [(vs.length : Int)]) ++ vsB (vs.take j)) ∧
    (∀ x ∈ vs.take j, goodX x = true) ∧ (vsB (vs.take j)).length ≤ j * 221 ∧ Below W.heap.size W w' ∧ W.heap.size + 1 ≤ w'.heap.size
theorem take_va {vs : List Va} {k : Nat} {c : Va} (h : vs[k]? = some c) : vs.take (k + 1) = vs.take k ++ [c] := by
  obtain ⟨hi, rfl⟩ := List.getElem?_eq_some_iff.1 h
  rw [List.take_succ_eq_append_getElem hi]
set_option maxHeartbeats 16000000 in
theorem fbytes_val (row : Int) (A : Option Addr) (cb : Nat) (lb : List Int) (vv : Value) (vs : List Va) (W : World) (hC : Kd.C (Kd.int .u8) W A lb.length lb) (hvv : VsV W vv vs) (hsz : ∀ x ∈ vs, x.f2.size ≤ 9223372036854775807) (hl2 : vs.length ≤ 9223372036854775807) :
    Calls Tryz.prog 37 #[featV row A lb.length cb vv] W (RetRow (featB lb vs) W) := by
  obtain ⟨pa, b, o, cap, rfl, hcap, hpa, hvs⟩ := hvv
  have hl1 : lb.length ≤ 9223372036854775807 := hC.2.1
  have HC := Lib.hid hC; clear hC
  have HP := Lib.hid hpa; clear hpa hcap
  have HVS := Lib.hid hvs; clear hvs
  have HSZ := Lib.hid hsz; clear hsz
  unfold featV
  by_cases c1 : vs.length ≤ 4
  case neg =>
    have HF := Lib.hid (feat_many (lb := lb) c1)
    go_enter Tryz.func37, Tryz.ntmps37
    go_wp2_with fail
    go_ret
    exact ⟨_, rfl, by rw [HF.out]; exact World.ownsRow_nil _ _ _ _, by go_grown⟩
  by_cases c2 : lb.length ≤ 20000
  case neg =>
    have HF := Lib.hid (feat_long (vs := vs) c2)
    go_enter Tryz.func37, Tryz.ntmps37
    go_wp2_with fail
    go_ret
    exact ⟨_, rfl, by rw [HF.out]; exact World.ownsRow_nil _ _ _ _, by go_grown⟩
  have HV := Lib.hid (fun w => var_val (lb.length : Int) (by omega) (by omega) w)
  have hvl := varB_len (lb.length : Int)
  have hwr : IntKind.u64.wrap (lb.length : Int) = (lb.length : Int) := by rw [IntKind.wrap_u64]; omega
  go_enter Tryz.func37, Tryz.ntmps37
  go_wp2_with fail
  go_region_held3 (fun w' => w'.cell? ⟨W.heap.size, 0, none⟩ = some (.int .i64 row) ∧ w'.cell? ⟨W.heap.size, 1, none⟩ = some (.slice A lb.length cb) ∧ w'.cell? ⟨W.heap.size, 2, none⟩ = some (.slice pa vs.length cap) ∧ Below W.heap.size W w')
    (first
      | (go_keep; done)
      | ((repeat' apply And.intro) <;> first | (go_keep; done) | (go_cell; done) | (rw [World.cell?_drew]; go_cell; done) | (go_grown; done))
      | (go_split_ands; (repeat' apply And.intro) <;> first | (exact cell_base hb2 (by simp) (by assumption)) | (exact Below.trans (by assumption) (hb2.mono (by simp))))
      | (go_split_ands; (repeat' apply And.intro) <;> first | (exact cell_later hb1 (by assumption)) | (exact below_step (by assumption) hb1)))
    (first
      | (go_at_call 87; refine (HV.out _).mono ?_; rintro e w1 ⟨v1, rfl, hr1, hb1⟩)
      | (go_split_ands; refine step_app (by rfl) _ _ (by rfl) (by rfl) (by rfl) hr1 (by rfl) (Kd.C_below HC.out (by assumption)) (by omega) (Below.size hb1) ?_; intro v2 w2 hr2 hb2 _))
  rename_i hH
  obtain ⟨_, _, y2, hB2⟩ := hH
  have hr2 : Row w2 (W.heap.size + 1) v2 (varB lb.length ++ lb) := row_lower hr2 (by simp)
  have hz : W.heap.size + 1 ≤ w2.heap.size := by have h1 := hb1.size; have h2 := hb2.size; simp at h1 h2; omega
  obtain ⟨p2, d2, hv2⟩ := row_shape hr2
  generalize (varB (lb.length : Int) ++ lb).length = M2 at hv2
  subst hv2
  have HR2 := Lib.hid hr2
  clear hr1 hr2 hb1 hb2 hwr
  go_wp2_with (at_builtin; refine wpList_app (by rfl) _ _ (by rfl) (by rfl) (by rfl) (row_alloc HR2.out _) (by rfl) (C_one _ _) (by simp; omega) (by simp; omega) ?_)
  intro v3 w3 hr3 hb3 _
  have hB3 : Below W.heap.size W w3 := (hB2.alloc hB2.size _).trans (hb3.mono (by simp))
  have hz3 : W.heap.size + 1 ≤ w3.heap.size := by have h1 := hb3.size; simp at h1; omega
  have y3 : w3.cell? ⟨W.heap.size, 2, none⟩ = some (.slice pa vs.length cap) := cell_base hb3 (by simp) (cell_later ((Below.refl w2.heap.size w2).alloc (Nat.le_refl _) _) y2)
  obtain ⟨p3, d3, hv3⟩ := row_shape hr3
  generalize (varB (lb.length : Int) ++ (lb ++ [(vs.length : Int)])).length = M3 at hv3
  subst hv3
  have HR3 := Lib.hid hr3
  clear hr3 hb3 y2
  go_wp2_with fail
  go_loopw [3, 34] (fun t i w' => ByR lb vs W t i w') (fun _ i _ => vs.length - (intOf i).toNat)
  case atStart => exact ⟨0, _, _, _, by omega, rfl, rfl, by simpa [vsB] using HR3.out, by simp, by simp [vsB], hB3, hz3⟩
  case round =>
    obtain ⟨j, m, c, p, hj, rfl, rfl, hrow, hgood, hvl2, hB, hzr⟩ := hrel
    by_cases hp : j < vs.length
    · obtain rfl := HP.out (by omega)
      obtain ⟨x, hx⟩ : ∃ x, vs[j]? = some x := ⟨vs[j], List.getElem?_eq_getElem hp⟩
      have hxs := HSZ.out x (List.mem_of_getElem? hx)
      obtain ⟨x0, x1, x2⟩ := va_stays (HVS.out j x hx) hB
      have HTK := Lib.hid (take_va hx)
      have HBD := Lib.hid (fun h => feat_bad (lb := lb) hx h)
      clear hx
      have HO := Lib.hid hrow; clear hrow
      have HG := Lib.hid hgood; clear hgood
      have hcg := fun w => good_val x.f0 x.f1 x.f2 w hxs
      cases hgx : goodX x with
      | false =>
        have HF := Lib.hid (HBD.out hgx)
        rw [show goodV x.f0 x.f1 x.f2 = false from hgx] at hcg
        have HGG := Lib.hid hcg; clear hcg hgx
        go_wp2_with fail
        refine (HGG.out _).mono ?_
        rintro e w4 ⟨rfl, hb⟩
        have hB4 := below_step (show Below W.heap.size W _ from hB.alloc hB.size _) hb
        clear hb
        dsimp only
        go_wp2_with fail
        go_ret
        exact ⟨_, rfl, by rw [HF.out]; exact World.ownsRow_nil _ _ _ _, hB4⟩
      | true =>
        rw [show goodV x.f0 x.f1 x.f2 = true from hgx] at hcg
        have HGG := Lib.hid hcg; clear hcg
        obtain ⟨k0, k3⟩ := kind_range hgx
        have hvn := valB_len hgx
        have HGX := Lib.hid hgx
        have HCT := Lib.hid (fun w => content_val x.f0 x.f1 x.f2 hgx w)
        clear hgx
        go_wp2_with fail
        refine (HGG.out _).mono ?_
        rintro e w4 ⟨rfl, hb⟩
        have z0 := cell_later (v := .int .i64 x.f0) hb (show World.cell? _ ⟨wr.heap.size, 0, none⟩ = some (.int .i64 x.f0) from by go_cell)
        have z1 := cell_later (v := .int .i64 x.f1) hb (show World.cell? _ ⟨wr.heap.size, 1, none⟩ = some (.int .i64 x.f1) from by go_cell)
        have z2 := cell_later (v := .string x.f2) hb (show World.cell? _ ⟨wr.heap.size, 2, none⟩ = some (.string x.f2) from by go_cell)
        have hB4 := below_step (show Below W.heap.size W _ from hB.alloc hB.size _) hb
        have HO4 := Lib.hid (row_below (row_alloc HO.out _) hb)
        have HBOX := Lib.hid (show BoxAt w4 wr.heap.size x from box_later (w := wr.alloc (.cells #[.int .i64 x.f0, .int .i64 x.f1, .string x.f2] 32)) (hp_new _ _ _ rfl) hb)
        have hz4 : W.heap.size + 1 ≤ w4.heap.size := by have h1 := hb.size; simp at h1; omega
        clear hb
        dsimp only
        go_wp2_with fail
        have HBX := Lib.hid (show BoxAt w4.drew wr.heap.size x from HBOX.out)
        have hB4' := below_drew hB4
        have hwk : IntKind.u8.wrap x.f0 = x.f0 := by rw [IntKind.wrap_u8]; omega
        clear z0 z1 z2
        go_region_held3 (fun w' => BoxAt w' wr.heap.size x ∧ w'.cell? ⟨wr.heap.size, 0, none⟩ = some (.int .i64 x.f0) ∧ w'.cell? ⟨wr.heap.size, 1, none⟩ = some (.int .i64 x.f1) ∧ w'.cell? ⟨wr.heap.size, 2, none⟩ = some (.string x.f2) ∧ Below W.heap.size W w')
          (first
            | (exact sBox HBX.out hB4')
            | (go_split_ands; exact sBox (box_app (by assumption) hT10) (Below.trans (by assumption) (hb10.mono (by omega))))
            | (go_split_ands; exact sBox (box_later (by assumption) hb6) (below_step (by assumption) hb6))
            | (go_split_ands; exact sBox (box_later (by assumption) hb5) (below_step (by assumption) hb5))
            | (go_split_ands; exact sBox (box_app (by assumption) hT9) (Below.trans (by assumption) (hb9.mono (by omega))))
            | (go_split_ands; exact sBox (box_alloc (by assumption) _) (Below.alloc (by assumption) (Below.size (by assumption)) _)))
          (first
            | (go_at_call 89; refine (of_val _ _ _ _).mono ?_; rintro e w5 ⟨rfl, hb5⟩; have hr9 := row_below hr9 hb5)
            | (go_at_call 88; refine (HCT.out _).mono ?_; rintro e w6 ⟨v6, rfl, hr6, hb6⟩; have hr9 := row_below hr9 hb6; obtain ⟨p6, c6, rfl⟩ := row_shape hr6)
            | (refine step_app (by rfl) _ _ (by rfl) (by rfl) (by rfl) hr9 (by rfl) (row_C hr6 (by omega)).2.2 (by simp; omega) (by have h1 := hb9.size; have h2 := hb5.size; have h3 := hb6.size; simp at h1; omega) ?_; intro v10 w10 hr10 hb10 hT10)
            | (refine step_app (by rfl) _ _ (by rfl) (by rfl) (by rfl) (row_alloc (row_drew HO4.out) _) (by rfl) (C_one _ _) (by simp; omega) (by simp; omega) ?_; intro v9 w9 hr9 hb9 hT9))
        rename_i hH
        have hBn := hH.2.2.2.2
        have hzn : W.heap.size + 1 ≤ w10.heap.size := by have := (Array.getElem?_eq_some_iff.1 hH.1).1; omega
        have hrn : Row w10 (W.heap.size + 1) v10 (varB lb.length ++ (lb ++ [(vs.length : Int)]) ++ vsB (vs.take (j + 1))) := by
          rw [HTK.out, vsB_snoc]
          have e : varB lb.length ++ (lb ++ [(vs.length : Int)]) ++ (vsB (vs.take j) ++ elB x) = varB lb.length ++ (lb ++ [(vs.length : Int)]) ++ vsB (vs.take j) ++ [x.f0] ++ valB x.f0 x.f1 x.f2 := by simp [elB]
          rw [e]
          exact hr10
        have hgn : ∀ y ∈ vs.take (j + 1), goodX y = true := by
          rw [HTK.out]
          intro y hy
          rcases List.mem_append.1 hy with hy | hy
          · exact HG.out y hy
          · simp at hy; subst hy; exact HGX.out
        have hln : (vsB (vs.take (j + 1))).length ≤ (j + 1) * 221 := by
          rw [HTK.out, vsB_snoc, List.length_append]
          simp only [elB, List.length_cons]
          omega
        obtain ⟨p10, c10, rfl⟩ := row_shape hrn
        have HREL := Lib.hid (show ByR lb vs W (.slice p10 (varB lb.length ++ (lb ++ [(vs.length : Int)]) ++ vsB (vs.take (j + 1))).length c10) (.int .i64 ((j + 1 : Nat) : Int)) w10 from
          ⟨j + 1, _, _, _, by omega, rfl, rfl, hrn, hgn, hln, hBn, hzn⟩)
        generalize (varB lb.length ++ (lb ++ [(vs.length : Int)]) ++ vsB (vs.take (j + 1))).length = M at HREL ⊢
        clear hH hBn hzn hrn hgn hln hr10 hb10 hT10 hr6 hb6 hr9 hb5 hb9 hT9
        go_wp2_with fail
        refine ⟨?_, by simp [intOf]; omega⟩
        exact HREL.out
    · obtain rfl : j = vs.length := by omega
      rw [List.take_length] at hrow hgood
      have HF := Lib.hid (feat_ok c1 c2 hgood)
      have HO := Lib.hid (row_lower hrow (Nat.le_succ _))
      clear hrow hgood
      go_wp2_with fail
      go_ret
      exact ⟨_, rfl, by rw [HF.out, List.append_assoc (varB _) lb]; exact HO.out, hB⟩
end Go.Proofs.YtcjidlgmbjebjaaGreatDoor

namespace Go.Proofs.YtcjidlgmbjebjaaGreatDoor
open Go Go.RowKit Go.Proofs.YtcjidlgmbjebjaaGreatDoorW.PrintWords
theorem C_nil (w : World) : Kd.C (Kd.int .u8) w none 0 [] := ⟨rfl, by decide, fun h => absurd h (by decide)⟩
end Go.Proofs.YtcjidlgmbjebjaaGreatDoor

namespace Go.Proofs.YtcjidlgmbjebjaaGreatDoor
open Go Go.RowKit Go.Proofs.YtcjidlgmbjebjaaGreatDoorW.PrintWords
end Go.Proofs.YtcjidlgmbjebjaaGreatDoor
