/- A part of the proof of ValueReads. -/
import Derived.Test.YtcjidlgmbjebjaaGreatDoorVru
import Derived.Deep.RegionHeldLaw
import Derived.Deep.RegionLaw
set_option linter.unusedVariables false
set_option linter.unusedSimpArgs false
set_option maxRecDepth 100000
namespace Go.Proofs.YtcjidlgmbjebjaaGreatDoor
open Go Go.RowKit Go.Proofs.YtcjidlgmbjebjaaGreatDoorW.PrintWords
theorem vinfo51 : Option.map (fun i => (i.zero, i.size, i.bytes)) (Tryz.prog.info? 32) = some (some (.agg #[.int .i64 0, .int .i64 0, .string ⟨#[]⟩]), 3, 32) := by kernel_rfl
theorem size46 : (Tryz.prog.info? 28).map (·.size) = some 3 := by kernel_rfl
theorem keep_row {w : World} {R : Nat} {xs : Array Value} : Keep1 R w (w.setRow R xs) := ⟨rfl, rfl, rfl, by rw [size_setRow]; exact Nat.le_refl _, fun {k} _ hk => setRow_other w R k xs hk⟩
theorem wpList_rowK {P : Program} {w : World} {ops : Array Oper} {rest : List Oper} {op : Oper} {a : Act} {Q : Exit → Act → World → Prop} (hgd : op.guard = none) (x y : Operand) (T : TypeId) (ho : op.op = .store T x y)
    {R : Nat} {os xs : Array Value} (hx : a.eval x = .pointer (some ⟨R, 0, none⟩)) (hy : a.eval y = .agg xs) (h : BlkAt w R os T) (hi : (P.info? T).map (·.size) = some xs.size) (hz : os.size = xs.size) (h1 : xs.all (·.oneCell') = true)
    (hk : ∀ wf, BlkAt wf R xs T → Keep1 R w wf → wpList P ops Q rest (a.put op.dst undef) wf) : wpList P ops Q (op :: rest) a w := by
  refine wpList_plain hgd fun _ hK => ?_
  have hst := run_storeVar_row (P := P) w R T T os xs h hi hz h1
  have hfin := hK _ _ (hk _ (setRow_heap w R os xs T (0, 0) h) keep_row)
  unfold Oper.wp execOp
  simp only [ho, hx, hy, Instr.storeAt, Instr.sureAddr, Sem.run_bind, Sem.run_pure, Result.andThen_ok, hst]
  exact hfin
theorem PF.fin {p R F B : Nat} {W w wf : World} {row : Int} {lb : List Int} {bv : Value} {vs : List Sb.V3} {v : Value} {s : Sb.Src} (n : NF p R F B W) (h : PF p R F B W row lb bv vs v s w) (hk : Keep1 R w wf) : SrcP wf p s ∧ Keep1 p W wf ∧ SlB wf bv lb ∧ wf.ownsRow B 32 3 v vs.length (flat3 vs) := by
  have := n.hp; have := n.hR; have := n.lR
  have hnb : NoByte w R := nobyte_ft h.rb ⟨_, _, _, rfl⟩ ⟨_, _, _, rfl⟩
  refine ⟨src_keep h.src hnb (by omega) hk, keep_new h.kp hk n.hR, slb_keep h.bl hnb hk, h.own.kept (keep_grown hk) ?_⟩
  cases hv : v.ownBlock with
  | none => exact .inl rfl
  | some k => exact .inr fun e => by have := h.own.lt k hv; injection e with e; omega
theorem raw_cases (k : Int) (s : Sb.Src) (hk : 0 ≤ k) (hb : Byt s.2) :
    (thingS k s = .nilIface ∧ okV (Sb.sRaw k s).1 = false) ∨ (thingS k s = .iface 94 (.agg #[]) ∧ okV (Sb.sRaw k s).1 = true ∧ (Sb.sRaw k s).1 = (0, 0, ⟨#[]⟩)) ∨
    (∃ n, thingS k s = .iface 104 (.int .i64 n) ∧ okV (Sb.sRaw k s).1 = true ∧ (Sb.sRaw k s).1 = (1, n, ⟨#[]⟩)) ∨
    (∃ x, thingS k s = .iface 98 (.string x) ∧ x.size ≤ 200 ∧ okV (Sb.sRaw k s).1 = (decide (x.size ≤ 200) && Utf.ok x) ∧ (Sb.sRaw k s).1 = (2, 0, x)) ∨
    (∃ b : Bool, thingS k s = .iface 97 (.bool b) ∧ okV (Sb.sRaw k s).1 = true ∧ (Sb.sRaw k s).1 = (3, if b then 1 else 0, ⟨#[]⟩)) := by
  have hk4 : k = 0 ∨ k = 1 ∨ k = 2 ∨ k = 3 ∨ 3 < k := by omega
  rcases hk4 with rfl | rfl | rfl | rfl | h
  · exact .inr (.inl ⟨by simp [thingS, Sb.sRaw, ofV], by simp [Sb.sRaw, okV, goodV], by simp [Sb.sRaw]⟩)
  · exact .inr (.inr (.inl ⟨(Sb.sInt s).1, by simp [thingS, Sb.sRaw, ofV], by simp [Sb.sRaw, okV, goodV], by simp [Sb.sRaw]⟩))
  · refine .inr (.inr (.inr (.inl ⟨strOfNums (Sb.sTake (Sb.sVar 200 s).1.toNat (Sb.sVar 200 s).2).1, by simp [thingS, Sb.sRaw, ofV], ?_, by simp [Sb.sRaw, okV, goodV], by simp [Sb.sRaw]⟩)))
    rw [strOfNums_size]
    have h1 := take_len (n := (Sb.sVar 200 s).1.toNat) (s := (Sb.sVar 200 s).2)
    have h2 := svar_rng (g := 200) (by decide) hb
    omega
  · have h01 := (be_one hb).2
    have hx : (Sb.sByte s).1 = 0 ∨ (Sb.sByte s).1 = 1 ∨ 1 < (Sb.sByte s).1 := by omega
    have e : (Sb.sRaw 3 s).1 = (3, (Sb.sByte s).1, ⟨#[]⟩) := by simp [Sb.sRaw]
    unfold thingS
    rw [e]
    rcases hx with h | h | h
    · rw [h]; exact .inr (.inr (.inr (.inr ⟨false, by simp [ofV], by simp [okV, goodV], rfl⟩)))
    · rw [h]; exact .inr (.inr (.inr (.inr ⟨true, by simp [ofV], by simp [okV, goodV], rfl⟩)))
    · have h0 : ¬ (Sb.sByte s).1 = 0 := by omega
      have h1 : ¬ (Sb.sByte s).1 = 1 := by omega
      exact .inl ⟨by simp [ofV, h0, h1], by simp [okV, goodV, h0, h1]⟩
  · have e : (Sb.sRaw k s).1 = (k, 0, ⟨#[]⟩) := by unfold Sb.sRaw; rw [if_neg (by omega), if_neg (by omega), if_neg (by omega)]
    unfold thingS
    rw [e]
    have k0 : ¬ k = 0 := by omega
    have k1 : ¬ k = 1 := by omega
    have k2 : ¬ k = 2 := by omega
    have k3 : ¬ k = 3 := by omega
    exact .inl ⟨by simp [ofV, k0, k1, k2, k3], by simp [okV, goodV, k0, k1, k2, k3]⟩
theorem sraw_inv {k : Int} {s : Sb.Src} (h : Inv s) : Inv (Sb.sRaw k s).2 := by
  unfold Sb.sRaw
  split
  · exact inv_int h
  · split
    · exact inv_take _ ⟨svar_byt h.1, svar_small h.2⟩
    · split
      · exact inv_byte h
      · exact h
theorem yields_ld {P : Program} {ops : Array Oper} {S : World → Prop} {op : Oper} {a : Act} (hw : Region.wanted op (yielded ops a.tmps) = true) (ty : TypeId) (x : Operand) (ho : op.op = .load ty x)
    (R T : Nat) (hx : a.eval x = .pointer (some ⟨R, 0, none⟩)) (xs : Array Value) {fs : Array Field} (hS : ∀ w, S w → BlkAt w R xs T) (hu : P.underlying ty = some (.struct fs)) (hi : (P.info? ty).map (·.size) = some xs.size) : YieldsIf P ops S op (.agg xs) a :=
  .inl ⟨hw, fun w hw' => by
    unfold execOp
    simp only [ho, hx, Instr.loadAt, Instr.sureAddr, Sem.run_bind, Sem.run_pure, Result.andThen_ok, run_loadVar_row w R T ty xs (0, 0) _ (hS w hw') hu rfl hi]⟩
def RetFrom (p : Nat) (row : Int) (s : Sb.Src) (W : World) (e : Ending) (w' : World) : Prop :=
  SrcP w' p (Sb.sFrom okV s).2 ∧ Keep1 p W w' ∧ ∃ bA bn bc vA vn vc, ((∃ lb vs B, (Sb.sFrom okV s).1 = some (lb, vs) ∧ e = .returned (.tuple #[.agg #[.int .i64 row, .slice bA bn bc, .slice vA vn vc], .bool true]) ∧ SlB w' (.slice bA bn bc) lb ∧ w'.ownsRow B 32 3 (.slice vA vn vc) vs.length (flat3 vs)) ∨
    ((Sb.sFrom okV s).1 = none ∧ e = .returned (.tuple #[.agg #[.int .i64 row, .slice bA bn bc, .slice vA vn vc], .bool false])))
def FrR (p R F B : Nat) (W : World) (row : Int) (lb : List Int) (bv : Value) (n0 : Int) (s0 : Sb.Src) (i : Value) (w' : World) : Prop :=
  ∃ (m : Nat) (sr : Sb.Src) (vs : List Sb.V3) (v : Value), i = .int .u8 m ∧ (m : Int) ≤ n0 ∧ Inv sr ∧ vs.length + m ≤ 4 ∧ ((Sb.sVals okV m sr).1.map (vs ++ ·), (Sb.sVals okV m sr).2) = Sb.sVals okV n0.toNat s0 ∧ PF p R F B W row lb bv vs v sr w'
theorem PF.grow_cells {p R F B : Nat} {W w w' : World} {row : Int} {lb : List Int} {bv : Value} {vs : List Sb.V3} {v : Value} {s : Sb.Src} (n : NF p R F B W) (h : PF p R F B W row lb bv vs v s w) (hg : w.grownBy w' v.ownBlock) : w'.cell? ⟨F, 2, none⟩ = some v ∧ w'.frozen? ⟨F, 2, none⟩ = false := by
  have lF := n.lF
  have hb : BlkAt w' F (ftL row bv v) 28 := (hg.block _ (blk_lt h.fb) (fun e => by have := h.own.lt _ e.symm; omega)).trans h.fb
  exact ⟨blk_cell hb 2 _ rfl, Lib.frozen_of_heap hb 2⟩
theorem step_own44 {w : World} {ops : Array Oper} {o : Oper} {a : Act} {K : Act → World → Prop} {Q : Exit → Act → World → Prop} {E : Prop} {i0 : TypeInfo} (hi : Tryz.prog.info? 32 = some i0) (hz0 : i0.zero = some (.agg #[.int .i64 0, .int .i64 0, .string ⟨#[]⟩])) (hz1 : i0.size = 3) (hz2 : i0.bytes = 32)
    (hgd : o.guard = none) (s x : Operand) (ho : o.op = .call { callee := .builtin .append, args := #[s, x], argTypes := #[26, 26] })
    {base n : Nat} {v : Value} {xs : List Value} (hs : a.eval s = v) (h : w.ownsRow base 32 3 v n xs) {ad : Addr} {c : Nat} {k m : Int} {t : ByteArray} (hx : a.eval x = .slice (some ad) 1 c)
    (hnews : ∀ j u, ([.int .i64 k, .int .i64 m, .string t] : List Value)[j]? = some u → w.cell? (ad.add j) = some u) (hn : n ≤ 1000) (hbase : base ≤ w.heap.size)
    (hk : ∀ v' w', w'.ownsRow base 32 3 v' (n + 1) (xs ++ [.int .i64 k, .int .i64 m, .string t]) → w.grownBy w' v.ownBlock → K (a.put o.dst v') w') : if Region.wanted o (yielded ops a.tmps) = true then Oper.wp Tryz.prog o a w K Q else E := by
  have hw : Region.wanted o (yielded ops a.tmps) = true := by simp [Region.wanted, hgd]
  rw [if_pos hw]
  refine wp_append_own w s x 26 ho base 32 i0 _ 3 32 Tryz.underlying26 hi hz0 hz1 hz2 rfl (by decide) v n xs hs h ad 1 c [.int .i64 k, .int .i64 m, .string t] hx rfl hnews ?_ (by unfold maxLen; omega) (by omega) hbase (fun v' w' h1 h2 _ => hk v' w' h1 h2)
  intro u hu
  simp only [List.mem_cons, List.not_mem_nil, or_false] at hu
  rcases hu with rfl | rfl | rfl <;> rfl
theorem news_at (w : World) (k m : Int) (t : ByteArray) : ∀ j u, ([.int .i64 k, .int .i64 m, .string t] : List Value)[j]? = some u → (w.alloc (.cells #[.int .i64 k, .int .i64 m, .string t] 32)).cell? ((⟨w.heap.size, 0, none⟩ : Addr).add j) = some u := by
  intro j u hu
  match j, hu with
  | 0, hu => simp at hu; subst hu; simp [Addr.add]
  | 1, hu => simp at hu; subst hu; simp [Addr.add]
  | 2, hu => simp at hu; subst hu; simp [Addr.add]
def FcE (p R F B : Nat) (W : World) (row : Int) (lb : List Int) (bv : Value) (n0 : Int) (s0 : Sb.Src) (w' : World) : Prop :=
  ∃ (sr : Sb.Src) (vs : List Sb.V3) (v : Value), Inv sr ∧ vs.length ≤ 4 ∧ (some vs, sr) = Sb.sVals okV n0.toNat s0 ∧ PF p R F B W row lb bv vs v sr w'
theorem from_none {s s2 s3 s4 : Sb.Src} {lb : List Int} {n3 : Int} (h1 : Sb.sBlob s = (lb, s2)) (h2 : Sb.sByte s2 = (n3, s3)) (h4 : ¬ n3 > 4) (h : Sb.sVals okV n3.toNat s3 = (none, s4)) : Sb.sFrom okV s = (none, s4) := by
  unfold Sb.sFrom
  rw [h1]
  dsimp only
  rw [h2]
  dsimp only
  rw [if_neg h4, h]
  dsimp only
  split <;> rfl
theorem from_some {s s2 s3 s4 : Sb.Src} {lb : List Int} {n3 : Int} {vs : List Sb.V3} (h1 : Sb.sBlob s = (lb, s2)) (h2 : Sb.sByte s2 = (n3, s3)) (h4 : ¬ n3 > 4) (h : Sb.sVals okV n3.toNat s3 = (some vs, s4)) : Sb.sFrom okV s = (if s4.1 = 0 then some (lb, vs) else none, s4) := by
  unfold Sb.sFrom
  rw [h1]
  dsimp only
  rw [h2]
  dsimp only
  rw [if_neg h4, h]
  dsimp only
  split <;> rfl
set_option maxHeartbeats 4000000 in
theorem from_val (p : Nat) (row : Int) (s : Sb.Src) (I0 : Inv s) (W : World) (hs : SrcP W p s) : Calls Tryz.prog 49 #[.pointer (some ⟨p, 0, none⟩), .int .i64 row] W (RetFrom p row s W) := by
  have hpl := src_lt hs
  obtain ⟨i0, hi, hz0, hz1, hz2⟩ := info_parts vinfo51
  have HV0 := Lib.hid (fun w h => svar_val p 20000 s I0.1 w h)
  obtain ⟨n0, n1⟩ := svar_rng (g := 20000) (by decide) I0.1
  have I1 : Inv (Sb.sVar 20000 s).2 := ⟨svar_byt I0.1, svar_small I0.2⟩
  obtain ⟨x, s1, q1⟩ : ∃ x s1, Sb.sVar 20000 s = (x, s1) := ⟨_, _, rfl⟩
  rw [q1] at HV0 n0 n1 I1
  dsimp only at HV0 n0 n1 I1
  obtain ⟨m1, rfl⟩ : ∃ m : Nat, x = (m : Int) := ⟨x.toNat, by omega⟩
  have HB1 := Lib.hid (fun w h => bytes_val p m1 (by omega) s1 I1.2 w h)
  have I2 := inv_take m1 I1
  obtain ⟨lb, s2, q2⟩ : ∃ lb s2, Sb.sTake m1 s1 = (lb, s2) := ⟨_, _, rfl⟩
  unfold RetBy at HB1
  rw [q2] at HB1 I2
  dsimp only at HB1 I2
  have hblob : Sb.sBlob s = (lb, s2) := by unfold Sb.sBlob; rw [q1]; dsimp only; rw [Int.toNat_natCast, q2]
  have HN3 := Lib.hid (fun w h => byte_val p s2 I2.1 w h)
  have h3 := (be_one I2.1).2
  have h30 := h3.1
  have I3 := inv_byte I2
  obtain ⟨n3, s3, q3⟩ : ∃ n3 s3, Sb.sByte s2 = (n3, s3) := ⟨_, _, rfl⟩
  rw [q3] at HN3 h3 h30 I3
  dsimp only at HN3 h3 h30 I3
  have hwm : wrap64 (m1 : Int) = (m1 : Int) := by unfold wrap64; omega
  have HS := Lib.hid hs
  clear hs
  go_enter Tryz.func49, Tryz.ntmps49
  go_wp2_with fail
  have hF : BlkAt ((W.alloc (.cells #[.int .i64 0, .slice none 0 0, .slice none 0 0] 28)).alloc (.cells #[.int .i64 row, .slice none 0 0, .slice none 0 0] 28)) (W.heap.size + 1) (ftL row nilS nilS) 28 := hp_new _ _ _ (by simp)
  have hR : BlkAt ((W.alloc (.cells #[.int .i64 0, .slice none 0 0, .slice none 0 0] 28)).alloc (.cells #[.int .i64 row, .slice none 0 0, .slice none 0 0] 28)) W.heap.size (ftL 0 nilS nilS) 28 := hp_old _ _ _ _ (by simp) (hp_new _ _ _ rfl)
  have hs0 := src_alloc (src_alloc HS.out (.cells #[.int .i64 0, .slice none 0 0, .slice none 0 0] 28)) (.cells #[.int .i64 row, .slice none 0 0, .slice none 0 0] 28)
  have hk0 := ((Keep1.refl p W).alloc (.cells #[.int .i64 0, .slice none 0 0, .slice none 0 0] 28)).alloc (.cells #[.int .i64 row, .slice none 0 0, .slice none 0 0] 28)
  have hz : ((W.alloc (.cells #[.int .i64 0, .slice none 0 0, .slice none 0 0] 28)).alloc (.cells #[.int .i64 row, .slice none 0 0, .slice none 0 0] 28)).heap.size = W.heap.size + 2 := by simp
  generalize (W.alloc (.cells #[.int .i64 0, .slice none 0 0, .slice none 0 0] 28)).alloc (.cells #[.int .i64 row, .slice none 0 0, .slice none 0 0] 28) = W2 at hF hR hs0 hk0 hz ⊢
  (with_reducible refine Calls.mono (HV0.out _ hs0) ?_)
  rintro _ w1 ⟨rfl, hs1, hk1⟩
  have hF1 := blk_keep hF hk1 (by omega)
  have hR1 := blk_keep hR hk1 (by omega)
  have hk01 := hk0.trans hk1
  have hz1 := hk1.size
  clear hF hR hs0 hk0 hk1 HS
  dsimp only
  go_wp2_with fail
  (with_reducible refine Calls.mono (HB1.out _ hs1) ?_)
  rintro _ w2 ⟨bA, bn, bc, rfl, hbl, hs2, hk2⟩
  have hF2 := blk_keep hF1 hk2 (by omega)
  have hR2 := blk_keep hR1 hk2 (by omega)
  have hk02 := hk01.trans hk2
  have hz2' := hk2.size
  have cF : World.cell? w2 ⟨W.heap.size + 1, 1, none⟩ = some (.slice none 0 0) := blk_cell hF2 1 _ rfl
  have fF : World.frozen? w2 ⟨W.heap.size + 1, 1, none⟩ = false := Lib.frozen_of_heap hF2 1
  have hnb : NoByte w2 (W.heap.size + 1) := nobyte_ft hF2 ⟨_, _, _, rfl⟩ ⟨_, _, _, rfl⟩
  have hF3 : BlkAt (w2.setCell ⟨W.heap.size + 1, 1, none⟩ (.slice bA bn bc)) (W.heap.size + 1) (ftL row (.slice bA bn bc) nilS) 28 := heap_setCell_same w2 _ 1 _ _ _ hF2
  have hR3 := blk_set (i := 1) (u := .slice bA bn bc) hR2 (show W.heap.size ≠ W.heap.size + 1 by omega)
  have hs3 := src_set (i := 1) (u := .slice bA bn bc) hs2 (show W.heap.size + 1 ≠ p by omega) hnb
  have hbl3 := slb_keep hbl hnb ((Keep1.refl (W.heap.size + 1) w2).set 1 (.slice bA bn bc))
  have hk03 := hk02.setNew (W.heap.size + 1) 1 (.slice bA bn bc) (by omega)
  have HS3 := Lib.hid hs3
  have HF3 := Lib.hid hF3
  have HR3 := Lib.hid hR3
  have HBL3 := Lib.hid hbl3
  have HK3 := Lib.hid hk03
  have hbb : ∀ ad n c, Value.slice bA bn bc = .slice (some ad) n c → 0 < lb.length → ad.block < w2.heap.size := fun ad n c e hpos => by
    obtain ⟨A', c', e', h1, h2⟩ := hbl
    obtain ⟨ad2, ha, hcell⟩ := kC_at h2 hpos
    injection e with e1 e2 e3
    injection e' with e4 e5 e6
    have := hcell 0 lb[0] (List.getElem?_eq_getElem hpos)
    have h9 := World.block_lt_of_cell? _ _ this
    rw [← e4, e1] at ha
    injection ha with ha
    subst ha
    simpa [Addr.add] using h9
  have HBB := Lib.hid hbb
  clear hF1 hR1 hF2 hR2 hk01 hk02 hbl hs1 hs2 hk2 hs3 hF3 hR3 hbl3 hk03 hnb hbb
  dsimp only
  go_wp2_with fail
  (with_reducible refine Calls.mono (HN3.out _ HS3.out) ?_)
  rintro _ w3 ⟨rfl, hs4, hk4⟩
  have hz3 := hk4.size
  simp only [World.setCell] at hz3
  clear cF fF
  obtain ⟨n⟩ : Nonempty (NF p W.heap.size (W.heap.size + 1) w2.heap.size W) := ⟨⟨hpl, by omega, by omega, by omega, by omega, by omega, by omega⟩⟩
  have HPF := Lib.hid (show PF p W.heap.size (W.heap.size + 1) w2.heap.size W row lb (.slice bA bn bc) [] nilS s3 w3 from
    ⟨hs4, blk_keep HF3.out hk4 (by omega), blk_keep HR3.out hk4 (by omega), World.ownsRow_nil _ _ _ _, slb_keep HBL3.out (src_nobyte HS3.out) hk4, HBB.out, HK3.out.trans hk4, by simpa [World.setCell] using hk4.size⟩)
  clear hs4 hk4 HS3 HF3 HR3 HBL3 HK3 HBB hz1 hz2' hz3 hwm HV0 HB1 HN3
  have hn := n.hp
  by_cases h4 : n3 > 4
  · have HFR := Lib.hid (show Sb.sFrom okV s = (none, s3) by
      unfold Sb.sFrom
      rw [hblob]
      dsimp only
      rw [q3]
      dsimp only
      rw [if_pos h4])
    have c0 : World.cell? w3 ⟨W.heap.size + 1, 0, none⟩ = some (.int .i64 row) := blk_cell HPF.out.fb 0 _ rfl
    have c1 : World.cell? w3 ⟨W.heap.size + 1, 1, none⟩ = some (.slice bA bn bc) := blk_cell HPF.out.fb 1 _ rfl
    have c2 : World.cell? w3 ⟨W.heap.size + 1, 2, none⟩ = some (.slice none 0 0) := blk_cell HPF.out.fb 2 _ rfl
    clear h3 hblob q3 q1 q2
    dsimp only
    go_wp2_with (refine wpList_rowK (by rfl) _ _ 28 (by rfl) (by rfl) (by rfl) HPF.out.rb (by exact size46) (by rfl) (by simp [Value.oneCell']) ?_)
    intro wf hbf hkf
    obtain ⟨f1, f2, f3, f4⟩ := HPF.out.fin n hkf
    have d0 : World.cell? wf ⟨W.heap.size, 0, none⟩ = some (.int .i64 row) := blk_cell hbf 0 _ rfl
    have d1 : World.cell? wf ⟨W.heap.size, 1, none⟩ = some (.slice bA bn bc) := blk_cell hbf 1 _ rfl
    have d2 : World.cell? wf ⟨W.heap.size, 2, none⟩ = some (.slice none 0 0) := blk_cell hbf 2 _ rfl
    have HF1 := Lib.hid f1
    have HF2 := Lib.hid f2
    clear f1 f2 f3 f4
    go_wp2_with fail
    refine bodyPost_ret (v := .tuple #[.agg #[.int .i64 row, .slice bA bn bc, .slice none 0 0], .bool false]) (by simp [results, Tryz.results49, go_sem, d0, d1, d2]) rfl ⟨by rw [HFR.out]; exact HF1.out, HF2.out, bA, bn, bc, none, 0, 0, .inr ⟨by rw [HFR.out], rfl⟩⟩
  · clear h3 q1 q2
    dsimp only
    go_upto_block 0 with fail
    go_cut [] (fun wx => FcE p W.heap.size (W.heap.size + 1) w2.heap.size W row lb (.slice bA bn bc) n3 s3 wx)
    case first =>
      go_wp2_with fail
      go_loopw [7] (fun i w' => FrR p W.heap.size (W.heap.size + 1) w2.heap.size W row lb (.slice bA bn bc) n3 s3 i w') (fun i _ => (intOf i).toNat)
      case atStart => exact ⟨n3.toNat, s3, [], nilS, by rw [Int.toNat_of_nonneg h30], by omega, I3, by simp; omega, by simp, HPF.out⟩
      case round =>
        obtain ⟨m, sr, vs, v, rfl, hm, Ir, hlen, hco, hps⟩ := hrel
        clear HPF
        have HPS := Lib.hid hps
        have HE := Lib.hid (err_val p sr wr hps.src)
        clear hps
        by_cases hm0 : m = 0
        · subst hm0
          have HRR := Lib.hid (show FcE p W.heap.size (W.heap.size + 1) w2.heap.size W row lb (.slice bA bn bc) n3 s3 wr from ⟨sr, vs, v, Ir, by omega, by rw [← hco]; simp [Sb.sVals], HPS.out⟩)
          clear HPS hco HE
          go_wp2_with fail
          go_meet
          exact HRR.out
        have hm1 : (0 : Int) < (m : Int) := by omega
        by_cases hs0 : sr.1 = 0
        case neg =>
          have HRR := Lib.hid (show FcE p W.heap.size (W.heap.size + 1) w2.heap.size W row lb (.slice bA bn bc) n3 s3 wr from ⟨sr, vs, v, Ir, by omega, by
            rw [← hco]
            obtain ⟨m', rfl⟩ : ∃ m', m = m' + 1 := ⟨m - 1, by omega⟩
            rw [Sb.sVals, if_neg hs0]; simp, HPS.out⟩)
          have he0 : (sr.1 == 0) = false := by rw [beq_eq_false_iff_ne]; exact hs0
          clear HPS hco hs0
          go_wp2_with fail
          (with_reducible refine Calls.mono HE.out ?_)
          rintro _ w4 ⟨rfl, rfl⟩
          dsimp only
          go_wp2_with fail
          go_meet
          exact HRR.out
        rw [hs0] at HE
        obtain ⟨k, u1, r1⟩ : ∃ k u1, Sb.sByte sr = (k, u1) := ⟨_, _, rfl⟩
        have HB := Lib.hid (byte_val p sr Ir.1 wr HPS.out.src)
        have hkr := (be_one Ir.1).2
        have J1 := inv_byte Ir
        rw [r1] at HB hkr J1
        dsimp only at HB hkr J1
        have HNX := Lib.hid (fun w h => next_val p k hkr.1 u1 J1.1 J1.2 w h)
        have hcases := raw_cases k u1 hkr.1 J1.1
        have J2 := sraw_inv (k := k) J1
        obtain ⟨v1, u2, r2⟩ : ∃ v1 u2, Sb.sRaw k u1 = (v1, u2) := ⟨_, _, rfl⟩
        have hval : Sb.sVal sr = (v1, u2) := by unfold Sb.sVal; rw [r1]; exact r2
        rw [r2] at hcases J2
        unfold RetSt at HNX
        rw [r2] at HNX
        dsimp only at hcases J2 HNX
        generalize thingS k u1 = th at HNX hcases
        obtain ⟨m', rfl⟩ : ∃ m', m = m' + 1 := ⟨m - 1, by omega⟩
        have hsv : Sb.sVals okV (m' + 1) sr = if okV v1 then ((Sb.sVals okV m' u2).1.map (v1 :: ·), (Sb.sVals okV m' u2).2) else (none, u2) := by
          rw [Sb.sVals, if_pos hs0, hval]
        rw [hsv] at hco
        clear hsv hval r1 r2 hs0
        go_wp2_with fail
        (with_reducible refine Calls.mono HE.out ?_)
        rintro _ w4 ⟨rfl, rfl⟩
        dsimp only
        go_wp2_with fail
        (with_reducible refine Calls.mono HB.out ?_)
        rintro _ w5 ⟨rfl, hs5, hk5⟩
        have HP5 := Lib.hid (HPS.out.op n hs5 hk5)
        clear hk5 HPS HE HB
        dsimp only
        go_wp2_with fail
        (with_reducible refine Calls.mono (HNX.out _ hs5) ?_)
        rintro _ w6 ⟨rfl, hs6, hk6⟩
        have HP6 := Lib.hid (HP5.out.op n hs6 hk6)
        clear hs5 hs6 hk6 HP5 HNX
        obtain ⟨vA, vc, rfl⟩ := own_shape HP6.out.own
        rcases hcases with ⟨rfl, hok⟩ | ⟨rfl, hok, rfl⟩ | ⟨x1, rfl, hok, rfl⟩ | ⟨x1, rfl, hx2, hok, rfl⟩ | ⟨x1, rfl, hok, rfl⟩
        · rw [hok] at hco
          have HFR := Lib.hid (from_none hblob q3 (by omega) (show Sb.sVals okV n3.toNat s3 = (none, u2) from hco.symm))
          have HQ := HP6
          clear hco
          have c0 : World.cell? w6 ⟨W.heap.size + 1, 0, none⟩ = some (.int .i64 row) := blk_cell HQ.out.fb 0 _ rfl
          have c1 : World.cell? w6 ⟨W.heap.size + 1, 1, none⟩ = some (.slice bA bn bc) := blk_cell HQ.out.fb 1 _ rfl
          have c2 : World.cell? w6 ⟨W.heap.size + 1, 2, none⟩ = some (.slice vA vs.length vc) := blk_cell HQ.out.fb 2 _ rfl
          try dsimp only
          go_wp2_with (refine wpList_rowK (by rfl) _ _ 28 (by rfl) (by rfl) (by rfl) HQ.out.rb (by exact size46) (by rfl) (by simp [Value.oneCell']) ?_)
          intro wf hbf hkf
          obtain ⟨f1, f2, f3, f4⟩ := HQ.out.fin n hkf
          have d0 : World.cell? wf ⟨W.heap.size, 0, none⟩ = some (.int .i64 row) := blk_cell hbf 0 _ rfl
          have d1 : World.cell? wf ⟨W.heap.size, 1, none⟩ = some (.slice bA bn bc) := blk_cell hbf 1 _ rfl
          have d2 : World.cell? wf ⟨W.heap.size, 2, none⟩ = some (.slice vA vs.length vc) := blk_cell hbf 2 _ rfl
          have HF1 := Lib.hid f1
          have HF2 := Lib.hid f2
          clear f1 f2 f3 f4
          go_wp2_with fail
          refine bodyPost_ret (v := .tuple #[.agg #[.int .i64 row, .slice bA bn bc, .slice vA vs.length vc], .bool false]) (by simp [results, Tryz.results49, go_sem, d0, d1, d2]) rfl ⟨by rw [HFR.out]; exact HF1.out, HF2.out, bA, bn, bc, vA, _, vc, .inr ⟨by rw [HFR.out], rfl⟩⟩
        · rw [hok, if_pos rfl] at hco
          have HG := Lib.hid (fun w => good_nothing w)
          have HAS := Lib.hid (fun w => as_0 w)
          unfold vV at HAS
          dsimp only
          go_wp2_with fail
          (with_reducible refine Calls.mono (HG.out _) ?_)
          rintro _ w7 ⟨rfl, hb7⟩
          have HP7 := HP6.out.below hb7
          have HPD := Lib.hid (HP7.below (below_drew (Below.refl _ _)))
          have c2 : World.cell? w7.drew ⟨W.heap.size + 1, 2, none⟩ = some (.slice vA vs.length vc) := blk_cell HPD.out.fb 2 _ rfl
          clear hb7 HP7 HP6 HG
          dsimp only
          go_wp2_with fail
          go_region_law (first
            | (go_simp; go_at_call 44; (with_reducible refine Calls.mono (HAS.out _) ?_); rintro _ w8 ⟨rfl, hb8⟩; have HP8 := HPD.out.below hb8; have c2 : World.cell? w8 ⟨W.heap.size + 1, 2, none⟩ = some (.slice vA vs.length vc) := blk_cell HP8.fb 2 _ rfl; have c3 : World.cell? (World.alloc w8 (.cells #[.int .i64 0, .int .i64 0, .string ⟨#[]⟩] 32)) ⟨W.heap.size + 1, 2, none⟩ = some (.slice vA vs.length vc) := blk_cell (blk_alloc HP8.fb _) 2 _ rfl; dsimp only)
            | (refine step_own44 hi hz0 hz1 hz2 (by rfl) _ _ (by rfl) (by rfl) (HP8.own.alloc _) (by rfl) (news_at w8 0 0 ⟨#[]⟩) (by omega) (Nat.le_trans HP8.le (by simp)) ?_; intro v9 w9 ho9 hg9; obtain ⟨A9, q9, rfl⟩ := own_shape ho9; have hc9 := (HP8.below ((Below.refl _ _).alloc (Nat.le_refl _) _)).grow_cells n hg9; obtain ⟨c9, f9⟩ := hc9))
          all_goals
            have HREL := Lib.hid (show FrR p W.heap.size (W.heap.size + 1) w2.heap.size W row lb (.slice bA bn bc) n3 s3 (.int .u8 m') (w9.setCell ⟨W.heap.size + 1, 2, none⟩ (.slice A9 (vs.length + 1) q9)) from
              ⟨m', u2, vs ++ [(0, 0, ⟨#[]⟩)], .slice A9 (vs.length + 1) q9, rfl, by omega, J2, by simp; omega, by rw [← hco]; exact congrArg (·, _) (by rw [Option.map_map]; congr 1; funext l; simp), (HP8.below ((Below.refl _ _).alloc (Nat.le_refl _) _)).vals n (0, 0, ⟨#[]⟩) hg9 ho9⟩)
            clear ho9 hg9 c9 f9
            go_wp2_with fail
            exact ⟨HREL.out, by simp [intOf]⟩
        · rw [hok, if_pos rfl] at hco
          have HG := Lib.hid (fun w => good_number x1 w)
          have HAS := Lib.hid (fun w => as_1 x1 w)
          unfold vV at HAS
          dsimp only
          go_wp2_with fail
          (with_reducible refine Calls.mono (HG.out _) ?_)
          rintro _ w7 ⟨rfl, hb7⟩
          have HP7 := HP6.out.below hb7
          have HPD := Lib.hid (HP7.below (below_drew (Below.refl _ _)))
          have c2 : World.cell? w7.drew ⟨W.heap.size + 1, 2, none⟩ = some (.slice vA vs.length vc) := blk_cell HPD.out.fb 2 _ rfl
          clear hb7 HP7 HP6 HG
          dsimp only
          go_wp2_with fail
          go_region_law (first
            | (go_simp; go_at_call 44; (with_reducible refine Calls.mono (HAS.out _) ?_); rintro _ w8 ⟨rfl, hb8⟩; have HP8 := HPD.out.below hb8; have c2 : World.cell? w8 ⟨W.heap.size + 1, 2, none⟩ = some (.slice vA vs.length vc) := blk_cell HP8.fb 2 _ rfl; have c3 : World.cell? (World.alloc w8 (.cells #[.int .i64 1, .int .i64 x1, .string ⟨#[]⟩] 32)) ⟨W.heap.size + 1, 2, none⟩ = some (.slice vA vs.length vc) := blk_cell (blk_alloc HP8.fb _) 2 _ rfl; dsimp only)
            | (refine step_own44 hi hz0 hz1 hz2 (by rfl) _ _ (by rfl) (by rfl) (HP8.own.alloc _) (by rfl) (news_at w8 1 x1 ⟨#[]⟩) (by omega) (Nat.le_trans HP8.le (by simp)) ?_; intro v9 w9 ho9 hg9; obtain ⟨A9, q9, rfl⟩ := own_shape ho9; have hc9 := (HP8.below ((Below.refl _ _).alloc (Nat.le_refl _) _)).grow_cells n hg9; obtain ⟨c9, f9⟩ := hc9))
          all_goals
            have HREL := Lib.hid (show FrR p W.heap.size (W.heap.size + 1) w2.heap.size W row lb (.slice bA bn bc) n3 s3 (.int .u8 m') (w9.setCell ⟨W.heap.size + 1, 2, none⟩ (.slice A9 (vs.length + 1) q9)) from
              ⟨m', u2, vs ++ [(1, x1, ⟨#[]⟩)], .slice A9 (vs.length + 1) q9, rfl, by omega, J2, by simp; omega, by rw [← hco]; exact congrArg (·, _) (by rw [Option.map_map]; congr 1; funext l; simp), (HP8.below ((Below.refl _ _).alloc (Nat.le_refl _) _)).vals n (1, x1, ⟨#[]⟩) hg9 ho9⟩)
            clear ho9 hg9 c9 f9
            go_wp2_with fail
            exact ⟨HREL.out, by simp [intOf]⟩
        · rw [hok] at hco
          have HGT := Lib.hid (fun w => good_text x1 w (by omega))
          cases hb : (decide (x1.size ≤ 200) && Utf.ok x1) with
          | false =>
            rw [hb] at hco HGT
            have HFR := Lib.hid (from_none hblob q3 (by omega) (show Sb.sVals okV n3.toNat s3 = (none, u2) from hco.symm))
            clear hco hok hb
            dsimp only
            go_wp2_with fail
            (with_reducible refine Calls.mono (HGT.out _) ?_)
            rintro _ w7 ⟨rfl, hb7⟩
            have HQ := Lib.hid (HP6.out.below hb7)
            clear hb7
            have c0 : World.cell? w7 ⟨W.heap.size + 1, 0, none⟩ = some (.int .i64 row) := blk_cell HQ.out.fb 0 _ rfl
            have c1 : World.cell? w7 ⟨W.heap.size + 1, 1, none⟩ = some (.slice bA bn bc) := blk_cell HQ.out.fb 1 _ rfl
            have c2 : World.cell? w7 ⟨W.heap.size + 1, 2, none⟩ = some (.slice vA vs.length vc) := blk_cell HQ.out.fb 2 _ rfl
            try dsimp only
            go_wp2_with (refine wpList_rowK (by rfl) _ _ 28 (by rfl) (by rfl) (by rfl) HQ.out.rb (by exact size46) (by rfl) (by simp [Value.oneCell']) ?_)
            intro wf hbf hkf
            obtain ⟨f1, f2, f3, f4⟩ := HQ.out.fin n hkf
            have d0 : World.cell? wf ⟨W.heap.size, 0, none⟩ = some (.int .i64 row) := blk_cell hbf 0 _ rfl
            have d1 : World.cell? wf ⟨W.heap.size, 1, none⟩ = some (.slice bA bn bc) := blk_cell hbf 1 _ rfl
            have d2 : World.cell? wf ⟨W.heap.size, 2, none⟩ = some (.slice vA vs.length vc) := blk_cell hbf 2 _ rfl
            have HF1 := Lib.hid f1
            have HF2 := Lib.hid f2
            clear f1 f2 f3 f4
            go_wp2_with fail
            refine bodyPost_ret (v := .tuple #[.agg #[.int .i64 row, .slice bA bn bc, .slice vA vs.length vc], .bool false]) (by simp [results, Tryz.results49, go_sem, d0, d1, d2]) rfl ⟨by rw [HFR.out]; exact HF1.out, HF2.out, bA, bn, bc, vA, _, vc, .inr ⟨by rw [HFR.out], rfl⟩⟩
          | true =>
            rw [hb, if_pos rfl] at hco
            rw [hb] at HGT
            clear hok hb
            have HG := Lib.hid (fun w => HGT.out w)
            have HAS := Lib.hid (fun w => as_2 x1 w)
            unfold vV at HAS
            dsimp only
            go_wp2_with fail
            (with_reducible refine Calls.mono (HG.out _) ?_)
            rintro _ w7 ⟨rfl, hb7⟩
            have HP7 := HP6.out.below hb7
            have HPD := Lib.hid (HP7.below (below_drew (Below.refl _ _)))
            have c2 : World.cell? w7.drew ⟨W.heap.size + 1, 2, none⟩ = some (.slice vA vs.length vc) := blk_cell HPD.out.fb 2 _ rfl
            clear hb7 HP7 HP6 HG
            dsimp only
            go_wp2_with fail
            go_region_law (first
              | (go_simp; go_at_call 44; (with_reducible refine Calls.mono (HAS.out _) ?_); rintro _ w8 ⟨rfl, hb8⟩; have HP8 := HPD.out.below hb8; have c2 : World.cell? w8 ⟨W.heap.size + 1, 2, none⟩ = some (.slice vA vs.length vc) := blk_cell HP8.fb 2 _ rfl; have c3 : World.cell? (World.alloc w8 (.cells #[.int .i64 2, .int .i64 0, .string x1] 32)) ⟨W.heap.size + 1, 2, none⟩ = some (.slice vA vs.length vc) := blk_cell (blk_alloc HP8.fb _) 2 _ rfl; dsimp only)
              | (refine step_own44 hi hz0 hz1 hz2 (by rfl) _ _ (by rfl) (by rfl) (HP8.own.alloc _) (by rfl) (news_at w8 2 0 x1) (by omega) (Nat.le_trans HP8.le (by simp)) ?_; intro v9 w9 ho9 hg9; obtain ⟨A9, q9, rfl⟩ := own_shape ho9; have hc9 := (HP8.below ((Below.refl _ _).alloc (Nat.le_refl _) _)).grow_cells n hg9; obtain ⟨c9, f9⟩ := hc9))
            all_goals
              have HREL := Lib.hid (show FrR p W.heap.size (W.heap.size + 1) w2.heap.size W row lb (.slice bA bn bc) n3 s3 (.int .u8 m') (w9.setCell ⟨W.heap.size + 1, 2, none⟩ (.slice A9 (vs.length + 1) q9)) from
                ⟨m', u2, vs ++ [(2, 0, x1)], .slice A9 (vs.length + 1) q9, rfl, by omega, J2, by simp; omega, by rw [← hco]; exact congrArg (·, _) (by rw [Option.map_map]; congr 1; funext l; simp), (HP8.below ((Below.refl _ _).alloc (Nat.le_refl _) _)).vals n (2, 0, x1) hg9 ho9⟩)
              clear ho9 hg9 c9 f9
              go_wp2_with fail
              exact ⟨HREL.out, by simp [intOf]⟩
        · rw [hok, if_pos rfl] at hco
          cases x1 with
          | false =>
            have HG := Lib.hid (fun w => good_flag false w)
            have HAS := Lib.hid (fun w => as_3 false w)
            unfold vV at HAS; rw [if_neg (by decide)] at HAS
            dsimp only
            go_wp2_with fail
            (with_reducible refine Calls.mono (HG.out _) ?_)
            rintro _ w7 ⟨rfl, hb7⟩
            have HP7 := HP6.out.below hb7
            have HPD := Lib.hid (HP7.below (below_drew (Below.refl _ _)))
            have c2 : World.cell? w7.drew ⟨W.heap.size + 1, 2, none⟩ = some (.slice vA vs.length vc) := blk_cell HPD.out.fb 2 _ rfl
            clear hb7 HP7 HP6 HG
            dsimp only
            go_wp2_with fail
            go_region_law (first
              | (go_simp; go_at_call 44; (with_reducible refine Calls.mono (HAS.out _) ?_); rintro _ w8 ⟨rfl, hb8⟩; have HP8 := HPD.out.below hb8; have c2 : World.cell? w8 ⟨W.heap.size + 1, 2, none⟩ = some (.slice vA vs.length vc) := blk_cell HP8.fb 2 _ rfl; have c3 : World.cell? (World.alloc w8 (.cells #[.int .i64 3, .int .i64 0, .string ⟨#[]⟩] 32)) ⟨W.heap.size + 1, 2, none⟩ = some (.slice vA vs.length vc) := blk_cell (blk_alloc HP8.fb _) 2 _ rfl; dsimp only)
              | (refine step_own44 hi hz0 hz1 hz2 (by rfl) _ _ (by rfl) (by rfl) (HP8.own.alloc _) (by rfl) (news_at w8 3 0 ⟨#[]⟩) (by omega) (Nat.le_trans HP8.le (by simp)) ?_; intro v9 w9 ho9 hg9; obtain ⟨A9, q9, rfl⟩ := own_shape ho9; have hc9 := (HP8.below ((Below.refl _ _).alloc (Nat.le_refl _) _)).grow_cells n hg9; obtain ⟨c9, f9⟩ := hc9))
            all_goals
              have HREL := Lib.hid (show FrR p W.heap.size (W.heap.size + 1) w2.heap.size W row lb (.slice bA bn bc) n3 s3 (.int .u8 m') (w9.setCell ⟨W.heap.size + 1, 2, none⟩ (.slice A9 (vs.length + 1) q9)) from
                ⟨m', u2, vs ++ [(3, 0, ⟨#[]⟩)], .slice A9 (vs.length + 1) q9, rfl, by omega, J2, by simp; omega, by rw [← hco]; exact congrArg (·, _) (by rw [Option.map_map]; congr 1; funext l; simp), (HP8.below ((Below.refl _ _).alloc (Nat.le_refl _) _)).vals n (3, 0, ⟨#[]⟩) hg9 ho9⟩)
              clear ho9 hg9 c9 f9
              go_wp2_with fail
              exact ⟨HREL.out, by simp [intOf]⟩
          | true =>
            have HG := Lib.hid (fun w => good_flag true w)
            have HAS := Lib.hid (fun w => as_3 true w)
            unfold vV at HAS; rw [if_pos rfl] at HAS
            dsimp only
            go_wp2_with fail
            (with_reducible refine Calls.mono (HG.out _) ?_)
            rintro _ w7 ⟨rfl, hb7⟩
            have HP7 := HP6.out.below hb7
            have HPD := Lib.hid (HP7.below (below_drew (Below.refl _ _)))
            have c2 : World.cell? w7.drew ⟨W.heap.size + 1, 2, none⟩ = some (.slice vA vs.length vc) := blk_cell HPD.out.fb 2 _ rfl
            clear hb7 HP7 HP6 HG
            dsimp only
            go_wp2_with fail
            go_region_law (first
              | (go_simp; go_at_call 44; (with_reducible refine Calls.mono (HAS.out _) ?_); rintro _ w8 ⟨rfl, hb8⟩; have HP8 := HPD.out.below hb8; have c2 : World.cell? w8 ⟨W.heap.size + 1, 2, none⟩ = some (.slice vA vs.length vc) := blk_cell HP8.fb 2 _ rfl; have c3 : World.cell? (World.alloc w8 (.cells #[.int .i64 3, .int .i64 1, .string ⟨#[]⟩] 32)) ⟨W.heap.size + 1, 2, none⟩ = some (.slice vA vs.length vc) := blk_cell (blk_alloc HP8.fb _) 2 _ rfl; dsimp only)
              | (refine step_own44 hi hz0 hz1 hz2 (by rfl) _ _ (by rfl) (by rfl) (HP8.own.alloc _) (by rfl) (news_at w8 3 1 ⟨#[]⟩) (by omega) (Nat.le_trans HP8.le (by simp)) ?_; intro v9 w9 ho9 hg9; obtain ⟨A9, q9, rfl⟩ := own_shape ho9; have hc9 := (HP8.below ((Below.refl _ _).alloc (Nat.le_refl _) _)).grow_cells n hg9; obtain ⟨c9, f9⟩ := hc9))
            all_goals
              have HREL := Lib.hid (show FrR p W.heap.size (W.heap.size + 1) w2.heap.size W row lb (.slice bA bn bc) n3 s3 (.int .u8 m') (w9.setCell ⟨W.heap.size + 1, 2, none⟩ (.slice A9 (vs.length + 1) q9)) from
                ⟨m', u2, vs ++ [(3, 1, ⟨#[]⟩)], .slice A9 (vs.length + 1) q9, rfl, by omega, J2, by simp; omega, by rw [← hco]; exact congrArg (·, _) (by rw [Option.map_map]; congr 1; funext l; simp), (HP8.below ((Below.refl _ _).alloc (Nat.le_refl _) _)).vals n (3, 1, ⟨#[]⟩) hg9 ho9⟩)
              clear ho9 hg9 c9 f9
              go_wp2_with fail
              exact ⟨HREL.out, by simp [intOf]⟩
    case rest =>
      obtain ⟨sr, vs, v, Ir, hlen, hsv, hps⟩ := hcut
      have HPS := Lib.hid hps
      have HFR := Lib.hid (from_some hblob q3 (by omega) hsv.symm)
      obtain ⟨vA, vc, rfl⟩ := own_shape hps.own
      have HPD := Lib.hid (hps.below (below_drew (Below.refl _ _)))
      have HE := Lib.hid (err_val p sr wc.drew HPD.out.src)
      have c0 : World.cell? wc.drew ⟨W.heap.size + 1, 0, none⟩ = some (.int .i64 row) := blk_cell HPD.out.fb 0 _ rfl
      have c1 : World.cell? wc.drew ⟨W.heap.size + 1, 1, none⟩ = some (.slice bA bn bc) := blk_cell HPD.out.fb 1 _ rfl
      have c2 : World.cell? wc.drew ⟨W.heap.size + 1, 2, none⟩ = some (.slice vA vs.length vc) := blk_cell HPD.out.fb 2 _ rfl
      clear hps hsv HPS HPF
      go_wp2_with fail
      refine wp_region_held_drew (S := fun w' => BlkAt w' (W.heap.size + 1) (ftL row (.slice bA bn bc) (.slice vA vs.length vc)) 28) (by kernel_rfl) HPD.out.fb (fun hH => ?_)
      refine wpAnyH_take (i := 0) (v := .agg #[.int .i64 row, .slice bA bn bc, .slice vA vs.length vc]) rfl (by kernel_rfl) (by kernel_rfl) (by kernel_rfl) (fun _ _ _ h => h) (yields_ld (by rfl) 28 _ rfl (W.heap.size + 1) 28 rfl (ftL row (.slice bA bn bc) (.slice vA vs.length vc)) (fun w h => h) Tryz.underlying28 size46) hH ?_
      try simp only [Act.put, List.getElem_toArray, List.getElem_cons_zero, List.getElem_cons_succ, List.setIfInBounds_toArray, List.set_cons_zero, List.set_cons_succ]
      refine wpAnyH_take (i := 1) (v := ?_) rfl (by kernel_rfl) (by kernel_rfl) (by kernel_rfl) (fun _ _ _ h => h) (Or.inl ⟨by rfl, ?_⟩) hH ?_
      rotate_left
      · intro w hSw
        go_simp
        try with_reducible rfl
      try simp only [Act.put, List.getElem_toArray, List.getElem_cons_zero, List.getElem_cons_succ, List.setIfInBounds_toArray, List.set_cons_zero, List.set_cons_succ]
      refine wpAnyH_ready (rs := [2]) (by kernel_rfl) (by simp) ?_
      refine AllReadyH.cons rfl (fun K hK => ?_) AllReadyH.nil
      go_simp
      go_wp2_with (go_at_call 100; (with_reducible refine Calls.mono HE.out ?_); rintro _ w4 ⟨rfl, rfl⟩)
      refine hK.out _ _ (hH) (fun hH => ?_)
      clear hK K
      try simp only [Act.put, List.getElem_toArray, List.getElem_cons_zero, List.getElem_cons_succ, List.setIfInBounds_toArray, List.set_cons_zero, List.set_cons_succ]
      refine wpAnyH_take (i := 3) (v := ?_) rfl (by kernel_rfl) (by kernel_rfl) (by kernel_rfl) (fun _ _ _ h => h) (Or.inl ⟨by rfl, ?_⟩) hH ?_
      rotate_left
      · intro w hSw
        go_simp
        try with_reducible rfl
      try simp only [Act.put, List.getElem_toArray, List.getElem_cons_zero, List.getElem_cons_succ, List.setIfInBounds_toArray, List.set_cons_zero, List.set_cons_succ]
      refine wpAnyH_ready (rs := [4]) (by kernel_rfl) (by simp) ?_
      refine AllReadyH.cons rfl (fun K hK => ?_) AllReadyH.nil
      rw [if_pos (by rfl)]
      refine wp_store_row 28 _ _ rfl W.heap.size _ rfl rfl 28 _ HPD.out.rb size46 rfl (by simp [Value.oneCell']) ?_
      refine hK.out _ _ ((keep_row.block (blk_lt HPD.out.fb) n.RF.symm).trans HPD.out.fb) (fun hH2 => ?_)
      clear hK K hH
      have hfin := HPD.out.fin n (keep_row (xs := #[.int .i64 row, .slice bA bn bc, .slice vA vs.length vc]))
      have hbf : BlkAt (wc.drew.setRow W.heap.size #[.int .i64 row, .slice bA bn bc, .slice vA vs.length vc]) W.heap.size #[.int .i64 row, .slice bA bn bc, .slice vA vs.length vc] 28 := setRow_heap wc.drew W.heap.size _ #[.int .i64 row, .slice bA bn bc, .slice vA vs.length vc] 28 (0, 0) HPD.out.rb
      generalize wc.drew.setRow W.heap.size #[.int .i64 row, .slice bA bn bc, .slice vA vs.length vc] = wf at hfin hbf hH2 ⊢
      try simp only [Act.put, List.getElem_toArray, List.getElem_cons_zero, List.getElem_cons_succ, List.setIfInBounds_toArray, List.set_cons_zero, List.set_cons_succ]
      refine wpAnyH_ready (rs := [5]) (by kernel_rfl) (by simp) ?_
      refine AllReadyH.cons rfl (fun K hK => ?_) AllReadyH.nil
      go_simp
      refine hK.out _ _ hH2 (fun hH3 => ?_)
      clear hK K
      refine wpAnyH_done (by kernel_rfl) ?_ _
      obtain ⟨f1, f2, f3, f4⟩ := hfin
      have d0 : World.cell? wf ⟨W.heap.size, 0, none⟩ = some (.int .i64 row) := blk_cell hbf 0 _ rfl
      have d1 : World.cell? wf ⟨W.heap.size, 1, none⟩ = some (.slice bA bn bc) := blk_cell hbf 1 _ rfl
      have d2 : World.cell? wf ⟨W.heap.size, 2, none⟩ = some (.slice vA vs.length vc) := blk_cell hbf 2 _ rfl
      have HF1 := Lib.hid f1
      have HF2 := Lib.hid f2
      have HF3 := Lib.hid f3
      have HF4 := Lib.hid f4
      clear f1 f2 f3 f4 hH2 hH3 hbf
      by_cases he : sr.1 = 0
      · have HFR2 := HFR.out
        rw [if_pos he] at HFR2
        have HFR3 := Lib.hid HFR2
        have heb : (sr.1 == 0) = true := by simp [he]
        clear HFR2 he
        go_wp2_with fail
        refine bodyPost_ret (v := .tuple #[.agg #[.int .i64 row, .slice bA bn bc, .slice vA vs.length vc], .bool true]) (by simp [results, Tryz.results49, go_sem, d0, d1, d2, heb]) rfl ⟨by rw [HFR3.out]; exact HF1.out, HF2.out, bA, bn, bc, vA, _, vc, .inl ⟨lb, vs, _, by rw [HFR3.out], rfl, HF3.out, HF4.out⟩⟩
      · have HFR2 := HFR.out
        rw [if_neg he] at HFR2
        have HFR3 := Lib.hid HFR2
        have heb : (sr.1 == 0) = false := by simp [he]
        clear HFR2 he
        go_wp2_with fail
        refine bodyPost_ret (v := .tuple #[.agg #[.int .i64 row, .slice bA bn bc, .slice vA vs.length vc], .bool false]) (by simp [results, Tryz.results49, go_sem, d0, d1, d2, heb]) rfl ⟨by rw [HFR3.out]; exact HF1.out, HF2.out, bA, bn, bc, vA, _, vc, .inr ⟨by rw [HFR3.out], rfl⟩⟩
end Go.Proofs.YtcjidlgmbjebjaaGreatDoor
