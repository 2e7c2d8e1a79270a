/- A part of the proof of ValueBack. -/
import Derived.Test.YtcjidlgmbjebjaaDoorVbj
import Derived.Test.YtcjidlgmbjebjaaDoorVbn
import Derived.Test.YtcjidlgmbjebjaaDoorVbr
set_option linter.unusedVariables false
set_option linter.unusedSimpArgs false
set_option maxRecDepth 100000
namespace Go.Proofs.YtcjidlgmbjebjaaDoor
open Go Go.RowKit Go.Proofs.YtcjidlgmbjebjaaDoorW.PrintWords Go.Proofs.YtcjidlgmbjebjaaDoorW.PrintMore
def inI (x : Va) : Prop := -9223372036854775808 ≤ x.f1 ∧ x.f1 ≤ 9223372036854775807 ∧ x.f2.size ≤ 9223372036854775807
def RetSc (x : Va) (W : World) (e : Ending) (w' : World) : Prop :=
  ((goodX x = true ∧ e = .returned (.tuple #[.agg #[.int .i64 x.f0, .int .i64 x.f1, .string x.f2], .bool true])) ∨
   (goodX x = false ∧ e = .returned (.tuple #[.agg #[.int .i64 0, .int .i64 0, .string ⟨#[]⟩], .bool false]))) ∧ Below W.heap.size W w'
theorem pr_bad {x : Va} (h : goodX x = false) : prV x.f0 x.f1 x.f2 = ⟨#[]⟩ := by
  unfold goodX at h
  simp [prV, h]
theorem scan_any (x : Va) (hx : inI x) (W : World) (hp : PowIs W) (he : ErrIs W) : Calls Tryd.prog 44 #[.string (prV x.f0 x.f1 x.f2)] W (RetSc x W) := by
  cases hg : goodX x with
  | true =>
    refine (scan_good x.f0 x.f1 x.f2 hg hx.2.2 hx.1 hx.2.1 W hp).mono ?_
    rintro e w' ⟨rfl, hb⟩
    exact ⟨.inl ⟨hg, rfl⟩, hb⟩
  | false =>
    rw [pr_bad hg]
    refine (scan_none W he).mono ?_
    rintro e w' ⟨rfl, hb⟩
    exact ⟨.inr ⟨hg, rfl⟩, hb⟩
def VlR (r1 : Int) (A1 : Option Addr) (n1 cb1 : Nat) (pa1 : Option Addr) (m1 cap1 : Nat) (W : World) (n : Value) (w' : World) : Prop :=
  ∃ i : Nat, i ≤ m1 ∧ n = .int .i64 i ∧ Below W.heap.size W w' ∧ w'.cell? ⟨W.heap.size, 0, none⟩ = some (.int .i64 r1) ∧ w'.cell? ⟨W.heap.size, 1, none⟩ = some (.slice A1 n1 cb1) ∧ w'.cell? ⟨W.heap.size, 2, none⟩ = some (.slice pa1 m1 cap1)
def badL (lb : List Int) (vs : List Va) : Bool := decide (vs.length > 4) || decide (lb.length > 20000)
theorem badL_1 {lb : List Int} {vs : List Va} (h : 4 < vs.length) : badL lb vs = true := by unfold badL; rw [decide_eq_true h]; rfl
theorem badL_2 {lb : List Int} {vs : List Va} (h1 : vs.length ≤ 4) (h : 20000 < lb.length) : badL lb vs = true := by unfold badL; rw [decide_eq_true h, Bool.or_true]
theorem badL_3 {lb : List Int} {vs : List Va} (h1 : vs.length ≤ 4) (h : lb.length ≤ 20000) : badL lb vs = false := by unfold badL; rw [decide_eq_false (by omega), decide_eq_false (by omega)]; rfl
theorem bad_of_nil {lb : List Int} {vs : List Va} (h : featB lb vs = []) : (badL lb vs || (vs.take vs.length).any fun x => !goodX x) = true := by
  rw [List.take_length]
  cases hb : (badL lb vs || vs.any fun x => !goodX x) with
  | true => rfl
  | false =>
    rw [Bool.or_eq_false_iff] at hb
    obtain ⟨h1, h2⟩ := hb
    simp only [badL, Bool.or_eq_false_iff, decide_eq_false_iff_not] at h1
    have h3 : ∀ x ∈ vs, goodX x = true := by
      intro x hx
      have := (List.any_eq_false.1 h2) x hx
      simpa using this
    rw [feat_ok (by omega) (by omega) h3] at h
    simp at h
def VmR (lb : List Int) (vs : List Va) (r1 : Int) (A1 : Option Addr) (n1 cb1 : Nat) (pa1 : Option Addr) (cap1 : Nat) (W : World) (n t : Value) (w' : World) : Prop :=
  ∃ i : Nat, i ≤ vs.length ∧ n = .int .i64 i ∧ t = .bool (badL lb vs || (vs.take i).any fun x => !goodX x) ∧ Below W.heap.size W w' ∧ w'.cell? ⟨W.heap.size, 0, none⟩ = some (.int .i64 r1) ∧ w'.cell? ⟨W.heap.size, 1, none⟩ = some (.slice A1 n1 cb1) ∧ w'.cell? ⟨W.heap.size, 2, none⟩ = some (.slice pa1 vs.length cap1)
theorem wrapI64k (k : Int) (h0 : 0 ≤ k) (h : k < 9223372036854775808) : IntKind.i64.wrap k = k := by
  have : IntKind.i64.wrap k = wrap64 k := by simp [IntKind.wrap, IntKind.bits, IntKind.signed, wrap64]; split <;> omega
  rw [this]; unfold wrap64; omega
theorem mod_facts (n : Int) (hn : 0 ≤ n) (M c5 : Nat) (hM : ¬ M = 0) (hm : M ≤ 21000) (hc : M ≤ c5) : ∃ k : Nat, n.tmod (M : Int) = k ∧ k < M ∧ IntKind.i64.wrap (k : Int) = k ∧ (k : Int) ≤ c5 ∧ (0 : Int) ≤ k ∧ wrap64 (k : Int) = k ∧ IntKind.u64.wrap (M : Int) = M ∧ ¬ (c5 : Int) < k ∧ ¬ (M : Int) = 0 := by
  have h1 := Int.emod_nonneg n (show (M : Int) ≠ 0 by omega)
  have h2 := Int.emod_lt_of_pos n (show (0 : Int) < M by omega)
  rw [← Int.tmod_eq_emod_of_nonneg hn] at h1 h2
  generalize n.tmod (M : Int) = x at h1 h2
  refine ⟨x.toNat, by omega, by omega, wrapI64k _ (by omega) (by omega), by omega, by omega, by unfold wrap64; omega, wrapU64' _ (by omega) (by omega), by omega, by omega⟩
theorem obj_new (w : World) (o : Obj) : (w.alloc o).heap[w.heap.size]? = some o := Array.getElem?_push_size
theorem obj_lt {w : World} {k : Nat} {o : Obj} (h : w.heap[k]? = some o) : k < w.heap.size := (Array.getElem?_eq_some_iff.1 h).1
theorem obj_below {w w' : World} {k : Nat} {o : Obj} (h : w.heap[k]? = some o) (hb : Below w.heap.size w w') : w'.heap[k]? = some o := (hb.block k (obj_lt h)).trans h
theorem obj_keptO {w w' : World} {k : Nat} {o : Obj} {v : Value} (h : w.heap[k]? = some o) (hk : KeptO v w w') (hn : some k ≠ v.ownBlock) : w'.heap[k]? = some o := (hk k (obj_lt h) hn).trans h
theorem obj_kept5 {w w' : World} {k : Nat} {o : Obj} (h : w.heap[k]? = some o) (hk : Kept5 w w') (hn : ∀ cells, o ≠ .cells cells 5 (0, 0)) : w'.heap[k]? = some o := (hk k (obj_lt h) (fun ⟨c, hc⟩ => by rw [h] at hc; injection hc with hc; exact hn c hc)).trans h
theorem C_obj {w : World} {g : Nat} {x : Int} (h : w.heap[g]? = some (Obj.cells #[.int .u8 x] 5)) : Kd.C (Kd.int .u8) w (some ⟨g, 0, none⟩) 1 [x] :=
  ⟨rfl, by decide, fun _ => ⟨⟨g, 0, none⟩, rfl, fun j d hd => ⟨[.int .u8 d], rfl, rfl, fun i u hu => by
    obtain ⟨hi, _⟩ := List.getElem?_eq_some_iff.1 hu
    obtain ⟨hj, hj2⟩ := List.getElem?_eq_some_iff.1 hd
    have hi : i = 0 := by simp at hi; exact hi
    have hj : j = 0 := by simp at hj; exact hj
    subst hi hj
    simp at hu hj2
    subst hu hj2
    have := Lib.cell_of_heap h 0
    simpa [Addr.add] using this⟩⟩⟩
theorem slb_C {w : World} {A : Option Addr} {m c : Nat} {l : List Int} (h : SlB w (.slice A m c) l) : Kd.C (Kd.int .u8) w A m l := by
  obtain ⟨A', c', e, h1, h2⟩ := h
  injection e with e1 e2 e3
  subst e1 e2 e3
  exact h2
theorem slb_some {w : World} {A : Option Addr} {m c : Nat} {l : List Int} (h : SlB w (.slice A m c) l) (hm : ¬ m = 0) : ∃ ad, A = some ad := by
  obtain ⟨ad, e, _⟩ := (slb_C h).2.2 (by omega)
  exact ⟨ad, e⟩
theorem step_appK {w : World} {ops : Array Oper} {o : Oper} {a : Act} {K : Act → World → Prop} {Q : Exit → Act → World → Prop} {E : Prop} (hgd : o.guard = none) (s x : Operand) (ho : o.op = .call { callee := .builtin .append, args := #[s, x], argTypes := #[43, 43] }) (hty : o.type = 43)
    {base : Nat} {v : Value} {l : List Int} (hs : a.eval s = v) (h : Row w base v l) {ad : Addr} {m : Nat} {c : Nat} {ys : List Int} (hx : a.eval x = .slice (some ad) m c) (hC : Kd.C (Kd.int .u8) w (some ad) m ys) (h0 : 0 < m) (hlen : l.length + ys.length ≤ 140737488355000) (hbase : base ≤ w.heap.size)
    (hk : ∀ v' w', Row w' base v' (l ++ ys) → Below base w w' → KeptO v w w' → Kept5 w w' → K (a.put o.dst v') w') : if Region.wanted o (yielded ops a.tmps) = true then Oper.wp Tryd.prog o a w K Q else E := by
  have hw : Region.wanted o (yielded ops a.tmps) = true := by simp [Region.wanted, hgd]
  rw [if_pos hw]
  obtain ⟨v', w', hr, h2, h3, h4, h5⟩ := run_app2 h c hC h0 hlen hbase
  unfold Oper.wp execOp
  simp only [ho, hty, resolve, invoke, builtin, Sem.run_bind, Sem.run_pure, Result.andThen_ok, List.map_toArray, List.map_cons, List.map_nil, hs, hx, hr]
  exact hk v' w' h2 h3 h4 (kept5_of h h4)
theorem wrap8 (n : Int) : ∃ x : Int, IntKind.u8.wrap n = x ∧ 0 ≤ x ∧ x < 256 := ⟨_, rfl, by rw [IntKind.wrap_u8]; omega, by rw [IntKind.wrap_u8]; omega⟩
structure SQ (W : World) (r1 : Int) (A1 : Option Addr) (n1 cb1 : Nat) (pa1 : Option Addr) (m1 cap1 B2 : Nat) (bA : Option Addr) (bc : Nat) (vA : Option Addr) (vc : Nat) (lb : List Int) (vs : List Va) (p5 : Option Addr) (M c5 : Nat) (L : List Int) (w : World) : Prop where
  y0 : w.cell? ⟨W.heap.size, 0, none⟩ = some (.int .i64 r1)
  y1 : w.cell? ⟨W.heap.size, 1, none⟩ = some (.slice A1 n1 cb1)
  y2 : w.cell? ⟨W.heap.size, 2, none⟩ = some (.slice pa1 m1 cap1)
  x0 : w.cell? ⟨B2, 0, none⟩ = some (.int .i64 r1)
  x1 : w.cell? ⟨B2, 1, none⟩ = some (.slice bA lb.length bc)
  x2 : w.cell? ⟨B2, 2, none⟩ = some (.slice vA vs.length vc)
  h5 : SlB w (.slice p5 M c5) L
  fc : FeatC w bA bc lb vA vc vs
  bel : Below W.heap.size W w
theorem SQ.step {W : World} {r1 : Int} {A1 : Option Addr} {n1 cb1 : Nat} {pa1 : Option Addr} {m1 cap1 B2 : Nat} {bA : Option Addr} {bc : Nat} {vA : Option Addr} {vc : Nat} {lb : List Int} {vs : List Va} {p5 : Option Addr} {M c5 : Nat} {L : List Int} {w w' : World} (h : SQ W r1 A1 n1 cb1 pa1 m1 cap1 B2 bA bc vA vc lb vs p5 M c5 L w) (hb : Below w.heap.size w w') : SQ W r1 A1 n1 cb1 pa1 m1 cap1 B2 bA bc vA vc lb vs p5 M c5 L w' :=
  ⟨cell_later hb h.y0, cell_later hb h.y1, cell_later hb h.y2, cell_later hb h.x0, cell_later hb h.x1, cell_later hb h.x2, slb_below h.h5 hb, featC_stays h.fc hb, below_step h.bel hb⟩
theorem slb_take2 {w : World} {A : Option Addr} {m c : Nat} {l : List Int} (h : SlB w (.slice A m c) l) (k : Nat) (hk : k ≤ l.length) : SlB w (.slice A k c) (l.take k) := by
  obtain ⟨A', c', e, h1, h2, h3, h4⟩ := h
  injection e with e1 e2 e3
  subst e1 e3
  have hl : (l.take k).length = k := by rw [List.length_take]; omega
  refine ⟨A, c, by rw [hl], by omega, rfl, by omega, fun hp => ?_⟩
  obtain ⟨ad, ha, hc⟩ := h4 (by omega)
  exact ⟨ad, ha, fun j x hx => hc j x (by rw [List.getElem?_take] at hx; (split at hx <;> first | exact hx | cases hx))⟩
set_option maxHeartbeats 16000000 in
theorem back_walk (r1 : Int) (A1 : Option Addr) (cb1 : Nat) (lb1 : List Int) (pa1 : Option Addr) (cap1 : Nat) (vs1 : List Va) (n : Int) (W : World)
    (h1 : FeatOk W A1 cb1 lb1 pa1 cap1 vs1) (hz1 : ∀ x ∈ vs1, inI x) (l1 : vs1.length ≤ 9223372036854775807) (hbyt : Byt lb1) (hn : 0 ≤ n) (hpow : PowIs W) (herr : ErrIs W)
    (hlives : ∀ w', Below W.heap.size W w' → Calls Tryd.prog 24 #[] w' (TrueBelow w')) :
    Calls Tryd.prog 9 #[featV r1 A1 lb1.length cb1 (.slice pa1 vs1.length cap1), .int .u64 n] W (TrueBelow W) := by
  obtain ⟨ka, ra, hla⟩ := light_some r1 lb1 vs1 l1
  have H1 := Lib.hid h1; clear h1
  have HL := Lib.hid hlives; clear hlives
  have HA := Lib.hid (fun (w' : World) (h : Below W.heap.size W w') => have h1 := featOk_stays H1.out h; PValueForms.hachurelaw21_light.calls ka r1 A1 cb1 lb1 pa1 cap1 vs1 ra w' h1.1 h1.2.1 h1.2.2.2.2 h1.2.2.2.1 hla)
  have HB5 := Lib.hid (fun (w' : World) (h : Below W.heap.size W w') => have h1 := featOk_stays H1.out h; fbytes_val r1 A1 cb1 lb1 _ vs1 w' h1.1 h1.2.2.1 (fun x hx => (hz1 x hx).2.2) l1)
  have HPR := Lib.hid (fun (x : Va) (hx : inI x) (w' : World) (h : Below W.heap.size W w') => print_val x.f0 x.f1 x.f2 w' hx.2.2 hx.1 hx.2.1 (pow_stays hpow h))
  have HSC := Lib.hid (fun (x : Va) (hx : inI x) (w' : World) (h : Below W.heap.size W w') => scan_any x hx w' (pow_stays hpow h) (err_stays herr h))
  have HGD := Lib.hid (fun (x : Va) (hx : inI x) (w' : World) => good_val x.f0 x.f1 x.f2 w' hx.2.2)
  have HZ := Lib.hid hz1
  have hfl := Lib.hid (feat_len lb1 vs1)
  clear hla hz1 hpow herr
  unfold featV at HB5 ⊢
  go_enter Tryd.func9, Tryd.ntmps9
  go_wp2_with fail
  refine (HA.out _ (by go_grown)).mono ?_
  rintro e w1 ⟨rfl, hb⟩
  have y0 := cell_later (v := .int .i64 r1) hb (show World.cell? _ ⟨W.heap.size, 0, none⟩ = some (.int .i64 r1) from by go_cell)
  have y1 := cell_later (v := .slice A1 lb1.length cb1) hb (show World.cell? _ ⟨W.heap.size, 1, none⟩ = some (.slice A1 lb1.length cb1) from by go_cell)
  have y2 := cell_later (v := .slice pa1 vs1.length cap1) hb (show World.cell? _ ⟨W.heap.size, 2, none⟩ = some (.slice pa1 vs1.length cap1) from by go_cell)
  have hB1 := below_step (show Below W.heap.size W _ from by go_grown) hb
  clear hb
  cases ra with
  | false =>
    dsimp only
    go_wp2_with fail
    refine (HL.out _ hB1).mono ?_
    rintro e w2 ⟨rfl, hb⟩
    have hB2 := below_step hB1 hb
    clear hb
    dsimp only
    go_wp2_with fail
    go_ret
    exact ⟨rfl, hB2⟩
  | true =>
  dsimp only
  go_wp2_with fail
  go_loopw [27] (fun n w' => VlR r1 A1 lb1.length cb1 pa1 vs1.length cap1 W n w') (fun n _ => vs1.length - (intOf n).toNat)
  case atStart => exact ⟨0, Nat.zero_le _, rfl, hB1, y0, y1, y2⟩
  case round =>
    clear y0 y1 y2 hB1
    obtain ⟨i, hi, rfl, hB, y0, y1, y2⟩ := hrel
    by_cases hp : i < vs1.length
    · obtain ⟨pa, b, o, cap, hpe, hcap, hpa, hvs⟩ := (featOk_stays H1.out hB).2.2.1
      obtain ⟨rfl, _, rfl⟩ := slice_eq hpe
      obtain rfl := hpa (by omega)
      clear hpe hcap hpa
      obtain ⟨x, hx⟩ : ∃ x, vs1[i]? = some x := ⟨vs1[i], List.getElem?_eq_getElem hp⟩
      have hxI := HZ.out x (List.mem_of_getElem? hx)
      obtain ⟨x0, x1, x2⟩ := hvs i x hx
      have HPX := Lib.hid (HPR.out x hxI)
      have HSX := Lib.hid (HSC.out x hxI)
      have HGX := Lib.hid (HGD.out x hxI)
      have HXX := Lib.hid hx
      clear hx hxI hvs
      go_wp2_with fail
      refine (HPX.out _ (below_step hB (show Below wr.heap.size wr _ from by go_grown))).mono ?_
      rintro e w2 ⟨rfl, hb⟩
      have hA := below_step (show Below wr.heap.size wr _ from by go_grown) hb
      have y0 := cell_later hA y0
      have y1 := cell_later hA y1
      have y2 := cell_later hA y2
      have z0 := cell_later (v := .int .i64 x.f0) hb (show World.cell? _ ⟨wr.heap.size, 0, none⟩ = some (.int .i64 x.f0) from by go_cell)
      have z1 := cell_later (v := .int .i64 x.f1) hb (show World.cell? _ ⟨wr.heap.size, 1, none⟩ = some (.int .i64 x.f1) from by go_cell)
      have z2 := cell_later (v := .string x.f2) hb (show World.cell? _ ⟨wr.heap.size, 2, none⟩ = some (.string x.f2) from by go_cell)
      have hB2 := below_step hB hA
      clear hb hA
      dsimp only
      go_wp2_with fail
      refine (HSX.out _ hB2).mono ?_
      rintro e w3 ⟨hcase, hb⟩
      have y0 := cell_later hb y0
      have y1 := cell_later hb y1
      have y2 := cell_later hb y2
      have z0 := cell_later hb z0
      have z1 := cell_later hb z1
      have z2 := cell_later hb z2
      have hB3 := below_step hB2 hb
      clear hb hB2
      have hz0 := cell_lt z0
      have hy0 := cell_lt y0
      have HPB := Lib.hid (fun h => pr_bad (x := x) h)
      rcases hcase with ⟨hg, rfl⟩ | ⟨hg, rfl⟩
      · have hg2 : goodV x.f0 x.f1 x.f2 = true := hg
        rw [hg2] at HGX
        clear hg hg2
        dsimp only
        go_wp2_with fail
        refine (HGX.out _).mono ?_
        rintro e w4 ⟨rfl, hb⟩
        have hA := below_step (show Below w3.heap.size w3 _ from by go_grown) hb
        have y0 := cell_later hA y0
        have y1 := cell_later hA y1
        have y2 := cell_later hA y2
        have z0 := cell_later hA z0
        have z1 := cell_later hA z1
        have z2 := cell_later hA z2
        have q0 := cell_later (v := .int .i64 x.f0) hb (show World.cell? _ ⟨w3.heap.size, 0, none⟩ = some (.int .i64 x.f0) from by go_cell)
        have q1 := cell_later (v := .int .i64 x.f1) hb (show World.cell? _ ⟨w3.heap.size, 1, none⟩ = some (.int .i64 x.f1) from by go_cell)
        have q2 := cell_later (v := .string x.f2) hb (show World.cell? _ ⟨w3.heap.size, 2, none⟩ = some (.string x.f2) from by go_cell)
        have hB4 := below_step hB3 hA
        clear hb hA hB3
        dsimp only
        go_wp2_with fail
        exact ⟨⟨i + 1, by omega, rfl, hB4, y0, y1, y2⟩, by simp [intOf]; omega⟩
      · have hg2 : goodV x.f0 x.f1 x.f2 = false := hg
        rw [hg2] at HGX
        rw [HPB.out hg]
        clear hg hg2
        dsimp only
        go_wp2_with fail
        refine (HGX.out _).mono ?_
        rintro e w4 ⟨rfl, hb⟩
        have hA := below_step (show Below w3.heap.size w3 _ from by go_grown) hb
        have y0 := cell_later hA y0
        have y1 := cell_later hA y1
        have y2 := cell_later hA y2
        have z0 := cell_later hA z0
        have z1 := cell_later hA z1
        have z2 := cell_later hA z2
        have hB4 := below_step hB3 hA
        clear hb hA hB3
        dsimp only
        go_wp2_with fail
        exact ⟨⟨i + 1, by omega, rfl, hB4, y0, y1, y2⟩, by simp [intOf]; omega⟩
    · obtain rfl : i = vs1.length := by omega
      clear hp hi HPR HSC HA
      go_wp2_with fail
      refine (HB5.out _ hB).mono ?_
      rintro e w2 ⟨v5, rfl, hr5, hb⟩
      obtain ⟨p5, c5, rfl⟩ := row_shape hr5
      have y0 := cell_later hb y0
      have y1 := cell_later hb y1
      have y2 := cell_later hb y2
      have hB2 := below_step hB hb
      clear hb hB HB5
      dsimp only
      by_cases hM : (featB lb1 vs1).length = 0
      · have hnil := List.eq_nil_of_length_eq_zero hM
        rw [hM]
        have HN := Lib.hid hnil
        clear hr5 hM hnil
        have hy0 := cell_lt y0
        have hway : (4 < vs1.length ∨ (vs1.length ≤ 4 ∧ 20000 < lb1.length)) ∨ (vs1.length ≤ 4 ∧ lb1.length ≤ 20000) := by omega
        have hstart : ∀ c : Bool, c = badL lb1 vs1 → VmR lb1 vs1 r1 A1 lb1.length cb1 pa1 cap1 W (.int .i64 0) (.bool c) w2 := fun c hc => ⟨0, Nat.zero_le _, rfl, by rw [hc]; simp, hB2, y0, y1, y2⟩
        have HST := Lib.hid hstart
        clear hstart
        rcases hway with (c1 | ⟨c1, c2⟩) | ⟨c1, c2⟩
        all_goals
          go_wp2_with fail
          go_loopw [77, 11] (fun n t w' => VmR lb1 vs1 r1 A1 lb1.length cb1 pa1 cap1 W n t w') (fun n _ _ => vs1.length - (intOf n).toNat)
          case atStart => exact HST.out _ (by first | exact (badL_1 c1).symm | exact (badL_2 c1 c2).symm | exact (badL_3 c1 c2).symm | (rw [badL_1 c1]; simp; omega) | (rw [badL_2 c1 c2]; simp; omega) | (rw [badL_3 c1 c2]; simp; omega))
          case round =>
            clear y0 y1 y2 hB2 c1 hy0
            obtain ⟨i, hi, rfl, rfl, hB, y0, y1, y2⟩ := hrel
            have hy0 := cell_lt y0
            by_cases hp : i < vs1.length
            · obtain ⟨pa, b, o, cap, hpe, hcap, hpa, hvs⟩ := (featOk_stays H1.out hB).2.2.1
              obtain ⟨rfl, _, rfl⟩ := slice_eq hpe
              obtain rfl := hpa (by omega)
              clear hpe hcap hpa
              obtain ⟨x, hx⟩ : ∃ x, vs1[i]? = some x := ⟨vs1[i], List.getElem?_eq_getElem hp⟩
              have hxI := HZ.out x (List.mem_of_getElem? hx)
              obtain ⟨x0, x1, x2⟩ := hvs i x hx
              have HGX := Lib.hid (HGD.out x hxI)
              have HTK := Lib.hid (take_va hx)
              clear hx hxI hvs
              generalize hbad : (badL lb1 vs1 || (vs1.take i).any fun x => !goodX x) = bb
              have HBD := Lib.hid hbad
              clear hbad
              cases bb with
              | true =>
                go_wp2_with fail
                refine ⟨⟨i + 1, by omega, rfl, ?_, below_step hB (by go_grown), by go_cell, by go_cell, by go_cell⟩, by simp [intOf]; omega⟩
                rw [HTK.out, List.any_append, ← Bool.or_assoc, HBD.out]; rfl
              | false =>
                go_wp2_with fail
                refine (HGX.out _).mono ?_
                rintro e w4 ⟨rfl, hb⟩
                have hA := below_step (show Below wr.heap.size wr _ from by go_grown) hb
                have y0 := cell_later hA y0
                have y1 := cell_later hA y1
                have y2 := cell_later hA y2
                have hB4 := below_step hB hA
                clear hb hA hB
                dsimp only
                go_wp2_with fail
                refine ⟨⟨i + 1, by omega, rfl, ?_, hB4, y0, y1, y2⟩, by simp [intOf]; omega⟩
                rw [HTK.out, List.any_append, ← Bool.or_assoc, HBD.out]
                simp [goodX]
            · obtain rfl : i = vs1.length := by omega
              have hbad := bad_of_nil HN.out
              rw [hbad]
              clear hbad
              go_wp2_with fail
              refine (HL.out _ hB).mono ?_
              rintro e w5 ⟨rfl, hb⟩
              have hB5 := below_step hB hb
              clear hb
              dsimp only
              go_wp2_with fail
              go_ret
              exact ⟨rfl, hB5⟩
      · have hne : featB lb1 vs1 ≠ [] := fun h => hM (by rw [h]; rfl)
        have hmx := feat_max lb1 vs1
        have h5 := slb_row hr5 (by omega)
        have hrv : RngV vs1 := fun x hx => ⟨(HZ.out x hx).1, (HZ.out x hx).2.1⟩
        have HP1 := Lib.hid (parse_ok r1 lb1 vs1 hne hbyt hrv w2 _ h5)
        have HP2 := Lib.hid (fun (k : Nat) (hk : k < (featB lb1 vs1).length) (w' : World) (v : Value) (hv : SlB w' v ((featB lb1 vs1).take k)) => parse_cut r1 lb1 vs1 hne hbyt hrv k hk w' v hv)
        have HP3 := Lib.hid (fun (x : Int) (h0 : 0 ≤ x) (h1 : x < 256) (w' : World) (v : Value) (hv : SlB w' v (featB lb1 vs1 ++ [x])) => parse_more r1 lb1 vs1 hne hbyt hrv x h0 h1 w' v hv)
        clear hne hrv hr5 HGD
        have hlen : ∃ M, (featB lb1 vs1).length = M := ⟨_, rfl⟩
        obtain ⟨M, hlen⟩ := hlen
        rw [hlen] at HP1 HP2 hmx hM h5 ⊢
        have hM2 : ((M : Int) == 0) = false := by rw [beq_eq_false_iff_ne]; omega
        have HLEN := Lib.hid hlen
        clear hlen
        have H5 := Lib.hid h5
        clear h5
        have hy0 := cell_lt y0
        go_wp2_with fail
        refine HP1.out.mono ?_
        rintro e w3 ⟨hb, bA, bc, vA, vc, rfl, hFC⟩
        have HFC := Lib.hid hFC
        clear hFC HP1
        have y0 := cell_later hb y0
        have y1 := cell_later hb y1
        have y2 := cell_later hb y2
        have H53 := Lib.hid (slb_below H5.out hb)
        have hB3 := below_step hB2 hb
        have hy3 := cell_lt y0
        clear hb hB2 hM2
        dsimp only
        go_wp2_with fail
        have hM5 : M ≤ c5 := by obtain ⟨A', c', e', h1, _⟩ := H53.out; injection e' with _ _ e3; have := HLEN.out; omega
        obtain ⟨k, hk, hkM, hk2, hkb, hk0, hwk, hwM, hkc, hM0⟩ := mod_facts n hn M c5 hM hmx hM5
        have hbg := (show Below w3.heap.size w3 (w3.alloc (Obj.cells #[.int .i64 r1, .slice bA lb1.length bc, .slice vA vs1.length vc] 46)) from by go_grown)
        have HS0 : SQ W r1 A1 lb1.length cb1 pa1 vs1.length cap1 w3.heap.size bA bc vA vc lb1 vs1 p5 M c5 (featB lb1 vs1) (w3.alloc (Obj.cells #[.int .i64 r1, .slice bA lb1.length bc, .slice vA vs1.length vc] 46)) := ⟨cell_later hbg y0, cell_later hbg y1, cell_later hbg y2, by go_cell, by go_cell, by go_cell, slb_below H53.out hbg, featC_stays HFC.out hbg, below_step hB3 hbg⟩
        generalize w3.heap.size = B2 at HS0 ⊢
        go_cut [17] (fun h wx => h = .int .i64 9 ∧ SQ W r1 A1 lb1.length cb1 pa1 vs1.length cap1 B2 bA bc vA vc lb1 vs1 p5 M c5 (featB lb1 vs1) wx)
        case first =>
          refine wp_region_held_drew (S := SQ W r1 A1 lb1.length cb1 pa1 vs1.length cap1 B2 bA bc vA vc lb1 vs1 p5 M c5 (featB lb1 vs1)) (by kernel_rfl) (HS0.step (below_drew (Below.refl _ _))) (fun hH => ?_)
          generalize (w3.alloc (Obj.cells #[.int .i64 r1, .slice bA lb1.length bc, .slice vA vs1.length vc] 46)).drew = wa at hH ⊢
          clear HS0 hbg y0 y1 y2 hy0 hy3 hB3 H5 H53 HFC
          refine wpAnyH_take (i := 0) (v := ?_) rfl (by kernel_rfl) (by kernel_rfl) (by kernel_rfl) (fun _ _ _ h => h) (Or.inl ⟨by rfl, ?_⟩) hH ?_
          rotate_left
          · intro w hSw
            go_simp
            try with_reducible rfl
          try simp only [Act.put, List.getElem_toArray, List.getElem_cons_zero, List.getElem_cons_succ, List.setIfInBounds_toArray, List.set_cons_zero, List.set_cons_succ]
          refine wpAnyH_take (i := 1) (v := ?_) rfl (by kernel_rfl) (by kernel_rfl) (by kernel_rfl) (fun _ _ _ h => h) (Or.inl ⟨by rfl, ?_⟩) hH ?_
          rotate_left
          · intro w hSw
            have g0 := hSw.y0
            go_simp
            try with_reducible rfl
          try simp only [Act.put, List.getElem_toArray, List.getElem_cons_zero, List.getElem_cons_succ, List.setIfInBounds_toArray, List.set_cons_zero, List.set_cons_succ]
          refine wpAnyH_take (i := 2) (v := ?_) rfl (by kernel_rfl) (by kernel_rfl) (by kernel_rfl) (fun _ _ _ h => h) (Or.inl ⟨by rfl, ?_⟩) hH ?_
          rotate_left
          · intro w hSw
            go_simp
            try with_reducible rfl
          try simp only [Act.put, List.getElem_toArray, List.getElem_cons_zero, List.getElem_cons_succ, List.setIfInBounds_toArray, List.set_cons_zero, List.set_cons_succ]
          refine wpAnyH_take (i := 3) (v := ?_) rfl (by kernel_rfl) (by kernel_rfl) (by kernel_rfl) (fun _ _ _ h => h) (Or.inl ⟨by rfl, ?_⟩) hH ?_
          rotate_left
          · intro w hSw
            go_simp
            try with_reducible rfl
          try simp only [Act.put, List.getElem_toArray, List.getElem_cons_zero, List.getElem_cons_succ, List.setIfInBounds_toArray, List.set_cons_zero, List.set_cons_succ]
          refine wpAnyH_take (i := 4) (v := ?_) rfl (by kernel_rfl) (by kernel_rfl) (by kernel_rfl) (fun _ _ _ h => h) (Or.inl ⟨by rfl, ?_⟩) hH ?_
          rotate_left
          · intro w hSw
            go_simp
            try with_reducible rfl
          try simp only [Act.put, List.getElem_toArray, List.getElem_cons_zero, List.getElem_cons_succ, List.setIfInBounds_toArray, List.set_cons_zero, List.set_cons_succ]
          refine wpAnyH_take (i := 5) (v := ?_) rfl (by kernel_rfl) (by kernel_rfl) (by kernel_rfl) (fun _ _ _ h => h) (Or.inl ⟨by rfl, ?_⟩) hH ?_
          rotate_left
          · intro w hSw
            go_simp
            try with_reducible rfl
          try simp only [Act.put, List.getElem_toArray, List.getElem_cons_zero, List.getElem_cons_succ, List.setIfInBounds_toArray, List.set_cons_zero, List.set_cons_succ]
          refine wpAnyH_take (i := 6) (v := ?_) rfl (by kernel_rfl) (by kernel_rfl) (by kernel_rfl) (fun _ _ _ h => h) (Or.inl ⟨by rfl, ?_⟩) hH ?_
          rotate_left
          · intro w hSw
            go_simp
            try with_reducible rfl
          try simp only [Act.put, List.getElem_toArray, List.getElem_cons_zero, List.getElem_cons_succ, List.setIfInBounds_toArray, List.set_cons_zero, List.set_cons_succ]
          refine wpAnyH_take (i := 7) (v := .int .u64 k) rfl (by kernel_rfl) (by kernel_rfl) (by kernel_rfl) (fun _ _ _ h => h) (Or.inl ⟨by rfl, ?_⟩) hH ?_
          · intro w hSw
            go_simp
            try (first | (rw [hk]; done) | (rw [hk]; rfl))
          try simp only [Act.put, List.getElem_toArray, List.getElem_cons_zero, List.getElem_cons_succ, List.setIfInBounds_toArray, List.set_cons_zero, List.set_cons_succ]
          refine wpAnyH_take (i := 8) (v := .int .i64 k) rfl (by kernel_rfl) (by kernel_rfl) (by kernel_rfl) (fun _ _ _ h => h) (Or.inl ⟨by rfl, ?_⟩) hH ?_
          · intro w hSw
            go_simp
            try (first | rfl | (rw [hk2]; done) | (rw [hk2]; rfl))
          try simp only [Act.put, List.getElem_toArray, List.getElem_cons_zero, List.getElem_cons_succ, List.setIfInBounds_toArray, List.set_cons_zero, List.set_cons_succ]
          refine wpAnyH_take (i := 9) (v := .slice p5 k c5) rfl (by kernel_rfl) (by kernel_rfl) (by kernel_rfl) (fun _ _ _ h => h) (Or.inl ⟨by rfl, ?_⟩) hH ?_
          · intro w hSw
            go_simp
            try (rw [if_pos ⟨hk0, hkb⟩]; first | rfl | (simp; done))
          try simp only [Act.put, List.getElem_toArray, List.getElem_cons_zero, List.getElem_cons_succ, List.setIfInBounds_toArray, List.set_cons_zero, List.set_cons_succ]
          clear hk hk2 hkb hk0 hwk hwM hkc hM0
          have HL2 := HLEN.out
          refine wpAnyH_ready (rs := [10, 14]) (by kernel_rfl) (by simp) ?_
          refine AllReadyH.cons rfl (fun K hK => ?_) (AllReadyH.cons rfl (fun K hK => ?_) AllReadyH.nil)
          · go_simp
            go_wp2_with (go_at_call 45; (with_reducible refine Calls.mono (HP2.out k hkM _ _ (slb_take2 hH.h5 k (by omega))) ?_); rintro _ w4 ⟨hb4, rfl⟩)
            refine hK.out _ _ (hH.step hb4) (fun hH => ?_)
            clear hK K hb4
            refine wpAnyH_take (i := 11) (v := ?_) rfl (by kernel_rfl) (by kernel_rfl) (by kernel_rfl) (fun _ _ _ h => h) (Or.inl ⟨by rfl, ?_⟩) hH ?_
            rotate_left
            · intro w hSw
              go_simp
              try with_reducible rfl
            try simp only [Act.put, List.getElem_toArray, List.getElem_cons_zero, List.getElem_cons_succ, List.setIfInBounds_toArray, List.set_cons_zero, List.set_cons_succ]
            refine wpAnyH_take (i := 12) (v := ?_) rfl (by kernel_rfl) (by kernel_rfl) (by kernel_rfl) (fun _ _ _ h => h) (Or.inl ⟨by rfl, ?_⟩) hH ?_
            rotate_left
            · intro w hSw
              go_simp
              try with_reducible rfl
            try simp only [Act.put, List.getElem_toArray, List.getElem_cons_zero, List.getElem_cons_succ, List.setIfInBounds_toArray, List.set_cons_zero, List.set_cons_succ]
            refine wpAnyH_take (i := 13) (v := ?_) rfl (by kernel_rfl) (by kernel_rfl) (by kernel_rfl) (fun _ _ _ h => h) (Or.inl ⟨by rfl, ?_⟩) hH ?_
            rotate_left
            · intro w hSw
              go_simp
              try with_reducible rfl
            try simp only [Act.put, List.getElem_toArray, List.getElem_cons_zero, List.getElem_cons_succ, List.setIfInBounds_toArray, List.set_cons_zero, List.set_cons_succ]
            refine wpAnyH_ready (rs := [14]) (by kernel_rfl) (by simp) ?_
            refine AllReadyH.cons rfl (fun K hK => ?_) AllReadyH.nil
            go_simp
            refine hK.out _ _ (hH.step ((Below.refl _ _).alloc (Nat.le_refl _) _)) (fun hH => ?_)
            clear hK K
            refine wpAnyH_ready (rs := [15]) (by kernel_rfl) (by simp) ?_
            refine AllReadyH.cons rfl (fun K hK => ?_) AllReadyH.nil
            go_simp
            refine hK.out _ _ (hH.step (by first | exact Below.refl _ _ | (exact (Below.refl _ _).drew))) (fun hH => ?_)
            clear hK K
            refine wpAnyH_ready (rs := [16]) (by kernel_rfl) (by simp) ?_
            refine AllReadyH.cons rfl (fun K hK => ?_) AllReadyH.nil
            go_simp
            refine hK.out _ _ hH (fun hH => ?_)
            clear hK K
            refine wpAnyH_done (by kernel_rfl) ?_ _
            go_wp2_with fail
            go_meet
            exact ⟨rfl, hH⟩
          · go_simp
            have hH0 := hH
            refine hK.out _ _ (hH.step ((Below.refl _ _).alloc (Nat.le_refl _) _)) (fun hH => ?_)
            clear hK K
            have e0 : World.cell? (wa.alloc (Obj.cells #[.int .i64 0, .slice none 0 0, .slice none 0 0] 46)) ⟨wa.heap.size, 0, none⟩ = some (.int .i64 0) := by go_cell
            have e1 : World.cell? (wa.alloc (Obj.cells #[.int .i64 0, .slice none 0 0, .slice none 0 0] 46)) ⟨wa.heap.size, 1, none⟩ = some (.slice none 0 0) := by go_cell
            have e2 : World.cell? (wa.alloc (Obj.cells #[.int .i64 0, .slice none 0 0, .slice none 0 0] 46)) ⟨wa.heap.size, 2, none⟩ = some (.slice none 0 0) := by go_cell
            have eq := frz_new wa #[.int .i64 0, .slice none 0 0, .slice none 0 0] 46
            have elt := cell_lt e0
            refine wpAnyH_ready (rs := [10]) (by kernel_rfl) (by simp) ?_
            refine AllReadyH.cons rfl (fun K hK => ?_) AllReadyH.nil
            go_simp
            go_wp2_with (go_at_call 45; (with_reducible refine Calls.mono (HP2.out k hkM _ _ (slb_take2 hH.h5 k (by omega))) ?_); rintro _ w4 ⟨hb4, rfl⟩)
            have hbw := below_step (show Below wa.heap.size wa (wa.alloc (Obj.cells #[.int .i64 0, .slice none 0 0, .slice none 0 0] 46)) from (Below.refl _ _).alloc (Nat.le_refl _) _) hb4
            have f0 := cell_later hb4 e0
            have f1 := cell_later hb4 e1
            have f2 := cell_later hb4 e2
            have q := frz_on hb4 elt eq
            have q0 := q 0
            have q1 := q 1
            have q2 := q 2
            refine hK.out _ _ (hH.step hb4) (fun hH => ?_)
            clear hK K hb4 e0 e1 e2 eq q elt
            refine wpAnyH_take (i := 11) (v := ?_) rfl (by kernel_rfl) (by kernel_rfl) (by kernel_rfl) (fun _ _ _ h => h) (Or.inl ⟨by rfl, ?_⟩) hH ?_
            rotate_left
            · intro w hSw
              go_simp
              try with_reducible rfl
            try simp only [Act.put, List.getElem_toArray, List.getElem_cons_zero, List.getElem_cons_succ, List.setIfInBounds_toArray, List.set_cons_zero, List.set_cons_succ]
            refine wpAnyH_take (i := 12) (v := ?_) rfl (by kernel_rfl) (by kernel_rfl) (by kernel_rfl) (fun _ _ _ h => h) (Or.inl ⟨by rfl, ?_⟩) hH ?_
            rotate_left
            · intro w hSw
              go_simp
              try with_reducible rfl
            try simp only [Act.put, List.getElem_toArray, List.getElem_cons_zero, List.getElem_cons_succ, List.setIfInBounds_toArray, List.set_cons_zero, List.set_cons_succ]
            refine wpAnyH_take (i := 13) (v := ?_) rfl (by kernel_rfl) (by kernel_rfl) (by kernel_rfl) (fun _ _ _ h => h) (Or.inl ⟨by rfl, ?_⟩) hH ?_
            rotate_left
            · intro w hSw
              go_simp
              try with_reducible rfl
            try simp only [Act.put, List.getElem_toArray, List.getElem_cons_zero, List.getElem_cons_succ, List.setIfInBounds_toArray, List.set_cons_zero, List.set_cons_succ]
            refine wpAnyH_ready (rs := [15]) (by kernel_rfl) (by simp) ?_
            refine AllReadyH.cons rfl (fun K hK => ?_) AllReadyH.nil
            go_simp
            refine hK.out _ _ (hH0.step (((hbw.setCell (Nat.le_refl _) _).setCell (Nat.le_refl _) _).setCell (Nat.le_refl _) _)) (fun hH => ?_)
            clear hK K
            refine wpAnyH_ready (rs := [16]) (by kernel_rfl) (by simp) ?_
            refine AllReadyH.cons rfl (fun K hK => ?_) AllReadyH.nil
            go_simp
            refine hK.out _ _ hH (fun hH => ?_)
            clear hK K
            refine wpAnyH_done (by kernel_rfl) ?_ _
            go_wp2_with fail
            go_meet
            exact ⟨rfl, hH⟩
        case rest =>
        obtain ⟨rfl, hH⟩ := hcut
        obtain ⟨ad5, rfl⟩ := slb_some hH.h5 hM
        obtain ⟨x8, hx8, hx0, hx1⟩ := wrap8 n
        clear HP2 H53 H5 HFC hB3 y0 y1 y2 hy0 hy3 hk hk2 hkb hk0 hwk hwM hkc hM0 hbg HS0
        go_wp2_with fail
        go_cut [19] (fun h wx => h = .int .i64 9 ∧ SQ W r1 A1 lb1.length cb1 pa1 vs1.length cap1 B2 bA bc vA vc lb1 vs1 (some ad5) M c5 (featB lb1 vs1) wx)
        case first =>
          refine wp_region_held_drew (S := SQ W r1 A1 lb1.length cb1 pa1 vs1.length cap1 B2 bA bc vA vc lb1 vs1 (some ad5) M c5 (featB lb1 vs1)) (by kernel_rfl) (hH.step (below_drew (Below.refl _ _))) (fun hH => ?_)
          generalize wc.drew = wr at hH ⊢
          refine wpAnyH_take (i := 0) (v := ?_) rfl (by kernel_rfl) (by kernel_rfl) (by kernel_rfl) (fun _ _ _ h => h) (Or.inl ⟨by rfl, ?_⟩) hH ?_
          rotate_left
          · intro w hSw
            have g0 := hSw.y0
            go_simp
            try with_reducible rfl
          try simp only [Act.put, List.getElem_toArray, List.getElem_cons_zero, List.getElem_cons_succ, List.setIfInBounds_toArray, List.set_cons_zero, List.set_cons_succ]
          refine wpAnyH_take (i := 1) (v := ?_) rfl (by kernel_rfl) (by kernel_rfl) (by kernel_rfl) (fun _ _ _ h => h) (Or.inl ⟨by rfl, ?_⟩) hH ?_
          rotate_left
          · intro w hSw
            have g0 := hSw.y0
            go_simp
            try with_reducible rfl
          try simp only [Act.put, List.getElem_toArray, List.getElem_cons_zero, List.getElem_cons_succ, List.setIfInBounds_toArray, List.set_cons_zero, List.set_cons_succ]
          refine wpAnyH_take (i := 3) (v := ?_) rfl (by kernel_rfl) (by kernel_rfl) (by kernel_rfl) (fun _ _ _ h => h) (Or.inl ⟨by rfl, ?_⟩) hH ?_
          rotate_left
          · intro w hSw
            have g0 := hSw.y0
            go_simp
            try with_reducible rfl
          try simp only [Act.put, List.getElem_toArray, List.getElem_cons_zero, List.getElem_cons_succ, List.setIfInBounds_toArray, List.set_cons_zero, List.set_cons_succ]
          refine wpAnyH_take (i := 5) (v := ?_) rfl (by kernel_rfl) (by kernel_rfl) (by kernel_rfl) (fun _ _ _ h => h) (Or.inl ⟨by rfl, ?_⟩) hH ?_
          rotate_left
          · intro w hSw
            have g0 := hSw.y0
            go_simp
            try with_reducible rfl
          try simp only [Act.put, List.getElem_toArray, List.getElem_cons_zero, List.getElem_cons_succ, List.setIfInBounds_toArray, List.set_cons_zero, List.set_cons_succ]
          refine wpAnyH_take (i := 6) (v := .int .u8 x8) rfl (by kernel_rfl) (by kernel_rfl) (by kernel_rfl) (fun _ _ _ h => h) (Or.inl ⟨by rfl, ?_⟩) hH ?_
          · intro w hSw
            go_simp
            try (first | rfl | (rw [hx8]; done) | (rw [hx8]; rfl))
          try simp only [Act.put, List.getElem_toArray, List.getElem_cons_zero, List.getElem_cons_succ, List.setIfInBounds_toArray, List.set_cons_zero, List.set_cons_succ]
          obtain ⟨z0, hsz, HH0, hBG⟩ : ∃ z, z ≤ wr.heap.size ∧ (∀ w, Below z wr w → SQ W r1 A1 lb1.length cb1 pa1 vs1.length cap1 B2 bA bc vA vc lb1 vs1 (some ad5) M c5 (featB lb1 vs1) w) ∧ Below z wr wr := ⟨wr.heap.size, Nat.le_refl _, fun w h => hH.step h, Below.refl _ _⟩
          have HH0 := Lib.hid HH0
          refine wpAnyH_ready (rs := [2, 7, 13]) (by kernel_rfl) (by simp) ?_
          refine AllReadyH.cons rfl (fun K hK => ?_) (AllReadyH.cons rfl (fun K hK => ?_) (AllReadyH.cons rfl (fun K hK => ?_) AllReadyH.nil))
          · go_simp
            have hbx : Below wr.heap.size wr (wr.alloc (Obj.cells #[] 5)) := (Below.refl _ _).alloc (Nat.le_refl _) _
            have rA : Row (wr.alloc (Obj.cells #[] 5)) wr.heap.size (.slice (some ⟨wr.heap.size, 0, none⟩) 0 0) [] := row_empty (Nat.le_refl _)
            have hBG := hBG.alloc hsz (Obj.cells #[] 5)
            have lgA : z0 ≤ wr.heap.size ∧ wr.heap.size < (wr.alloc (Obj.cells #[] 5)).heap.size := ⟨hsz, by simp⟩
            have kA := lgA.2
            have hsz : z0 ≤ (wr.alloc (Obj.cells #[] 5)).heap.size := Nat.le_trans hsz (Nat.le_of_lt lgA.2)
            refine hK.out _ _ (hH.step hbx) (fun hH => ?_)
            clear hK K hbx
            generalize wr.alloc (Obj.cells #[] 5) = u1 at hH hBG hsz lgA rA kA ⊢
            generalize wr.heap.size = gA at lgA kA rA ⊢
            try simp only [Act.put, List.getElem_toArray, List.getElem_cons_zero, List.getElem_cons_succ, List.setIfInBounds_toArray, List.set_cons_zero, List.set_cons_succ]
            refine wpAnyH_ready (rs := [4, 7, 13]) (by kernel_rfl) (by simp) ?_
            refine AllReadyH.cons rfl (fun K hK => ?_) (AllReadyH.cons rfl (fun K hK => ?_) (AllReadyH.cons rfl (fun K hK => ?_) AllReadyH.nil))
            · refine step_appK (by rfl) _ _ (by rfl) (by rfl) (by rfl) rA (by rfl) (slb_C hH.h5) (by omega) (by have := HLEN.out; simp; omega) (Nat.le_of_lt kA) ?_
              intro vB u2 rB hbx hkO hk5
              rw [List.nil_append] at rB
              have hBG := hBG.trans (hbx.mono lgA.1)
              have hsz := Nat.le_trans hsz hbx.size
              have kA : gA < u2.heap.size := Nat.lt_of_lt_of_le kA hbx.size
              obtain ⟨AB, cB, hvB⟩ := row_shape rB
              rw [HLEN.out] at hvB
              subst hvB
              refine hK.out _ _ (HH0.out _ hBG) (fun hH => ?_)
              clear hK K hbx hkO hk5
              try simp only [Act.put, List.getElem_toArray, List.getElem_cons_zero, List.getElem_cons_succ, List.setIfInBounds_toArray, List.set_cons_zero, List.set_cons_succ]
              refine wpAnyH_ready (rs := [7, 13]) (by kernel_rfl) (by simp) ?_
              refine AllReadyH.cons rfl (fun K hK => ?_) (AllReadyH.cons rfl (fun K hK => ?_) AllReadyH.nil)
              · go_simp
                have hbx : Below u2.heap.size u2 (u2.alloc (Obj.cells #[.int .u8 x8] 5)) := (Below.refl _ _).alloc (Nat.le_refl _) _
                have rB := row_below rB hbx
                have oC := obj_new u2 (Obj.cells #[.int .u8 x8] 5)
                have hBG := hBG.alloc hsz (Obj.cells #[.int .u8 x8] 5)
                have lgC : z0 ≤ u2.heap.size ∧ u2.heap.size < (u2.alloc (Obj.cells #[.int .u8 x8] 5)).heap.size := ⟨hsz, by simp⟩
                have nAC : gA ≠ u2.heap.size := Nat.ne_of_lt kA
                have kA : gA < (u2.alloc (Obj.cells #[.int .u8 x8] 5)).heap.size := Nat.lt_trans kA lgC.2
                have kC := lgC.2
                have hsz : z0 ≤ (u2.alloc (Obj.cells #[.int .u8 x8] 5)).heap.size := Nat.le_trans hsz (Nat.le_of_lt lgC.2)
                refine hK.out _ _ (hH.step hbx) (fun hH => ?_)
                clear hK K hbx
                generalize u2.alloc (Obj.cells #[.int .u8 x8] 5) = u3 at hH hBG hsz lgC rB oC kA kC ⊢
                generalize u2.heap.size = gC at lgC nAC kC oC ⊢
                try simp only [Act.put, List.getElem_toArray, List.getElem_cons_zero, List.getElem_cons_succ, List.setIfInBounds_toArray, List.set_cons_zero, List.set_cons_succ]
                refine wpAnyH_ready (rs := [8, 13]) (by kernel_rfl) (by simp) ?_
                refine AllReadyH.cons rfl (fun K hK => ?_) (AllReadyH.cons rfl (fun K hK => ?_) AllReadyH.nil)
                · have hC1 : Kd.C (Kd.int .u8) u3 (some ⟨gC, 0, none⟩) 1 [x8] := C_obj oC
                  refine step_app (by rfl) _ _ (by rfl) (by rfl) (by rfl) rB (by rfl) hC1 (by rw [HLEN.out]; simp; omega) (Nat.le_of_lt kA) ?_
                  intro vD u4 rD hbx hk5
                  have hBG := hBG.trans (hbx.mono lgA.1)
                  have hsz := Nat.le_trans hsz hbx.size
                  obtain ⟨AD, cD, hvD⟩ := row_shape rD
                  have hl9 : ((featB lb1 vs1) ++ [x8]).length = M + 1 := by rw [List.length_append, HLEN.out]; rfl
                  rw [hl9] at hvD
                  subst hvD
                  refine hK.out _ _ (HH0.out _ hBG) (fun hH => ?_)
                  clear hK K hbx hk5 hC1
                  try simp only [Act.put, List.getElem_toArray, List.getElem_cons_zero, List.getElem_cons_succ, List.setIfInBounds_toArray, List.set_cons_zero, List.set_cons_succ]
                  refine wpAnyH_ready (rs := [9, 13]) (by kernel_rfl) (by simp) ?_
                  refine AllReadyH.cons rfl (fun K hK => ?_) (AllReadyH.cons rfl (fun K hK => ?_) AllReadyH.nil)
                  · go_simp
                    have h8 := slb_row rD (by rw [List.length_append, HLEN.out]; simp; omega)
                    go_wp2_with (go_at_call 45; (with_reducible refine Calls.mono (HP3.out x8 hx0 hx1 _ _ h8) ?_); rintro _ u5 ⟨hbx, rfl⟩)
                    have hBG := hBG.trans (hbx.mono hsz)
                    have hsz := Nat.le_trans hsz hbx.size
                    refine hK.out _ _ (hH.step hbx) (fun hH => ?_)
                    clear hK K hbx h8 rD
                    try simp only [Act.put, List.getElem_toArray, List.getElem_cons_zero, List.getElem_cons_succ, List.setIfInBounds_toArray, List.set_cons_zero, List.set_cons_succ]
                    refine wpAnyH_take (i := 10) (v := ?_) rfl (by kernel_rfl) (by kernel_rfl) (by kernel_rfl) (fun _ _ _ h => h) (Or.inl ⟨by rfl, ?_⟩) hH ?_
                    rotate_left
                    · intro w hSw
                      have g0 := hSw.y0
                      go_simp
                      try with_reducible rfl
                    try simp only [Act.put, List.getElem_toArray, List.getElem_cons_zero, List.getElem_cons_succ, List.setIfInBounds_toArray, List.set_cons_zero, List.set_cons_succ]
                    refine wpAnyH_take (i := 11) (v := ?_) rfl (by kernel_rfl) (by kernel_rfl) (by kernel_rfl) (fun _ _ _ h => h) (Or.inl ⟨by rfl, ?_⟩) hH ?_
                    rotate_left
                    · intro w hSw
                      have g0 := hSw.y0
                      go_simp
                      try with_reducible rfl
                    try simp only [Act.put, List.getElem_toArray, List.getElem_cons_zero, List.getElem_cons_succ, List.setIfInBounds_toArray, List.set_cons_zero, List.set_cons_succ]
                    refine wpAnyH_take (i := 12) (v := ?_) rfl (by kernel_rfl) (by kernel_rfl) (by kernel_rfl) (fun _ _ _ h => h) (Or.inl ⟨by rfl, ?_⟩) hH ?_
                    rotate_left
                    · intro w hSw
                      have g0 := hSw.y0
                      go_simp
                      try with_reducible rfl
                    try simp only [Act.put, List.getElem_toArray, List.getElem_cons_zero, List.getElem_cons_succ, List.setIfInBounds_toArray, List.set_cons_zero, List.set_cons_succ]
                    refine wpAnyH_ready (rs := [13]) (by kernel_rfl) (by simp) ?_
                    refine AllReadyH.cons rfl (fun K hK => ?_) AllReadyH.nil
                    go_simp
                    have hbx : Below u5.heap.size u5 (u5.alloc (Obj.cells #[.int .i64 0, .slice none 0 0, .slice none 0 0] 46)) := (Below.refl _ _).alloc (Nat.le_refl _) _
                    have oF := obj_new u5 (Obj.cells #[.int .i64 0, .slice none 0 0, .slice none 0 0] 46)
                    have hBG := hBG.alloc hsz (Obj.cells #[.int .i64 0, .slice none 0 0, .slice none 0 0] 46)
                    have lgF : z0 ≤ u5.heap.size ∧ u5.heap.size < (u5.alloc (Obj.cells #[.int .i64 0, .slice none 0 0, .slice none 0 0] 46)).heap.size := ⟨hsz, by simp⟩
                    have hsz : z0 ≤ (u5.alloc (Obj.cells #[.int .i64 0, .slice none 0 0, .slice none 0 0] 46)).heap.size := Nat.le_trans hsz (Nat.le_of_lt lgF.2)
                    refine hK.out _ _ (hH.step hbx) (fun hH => ?_)
                    clear hK K hbx
                    generalize u5.alloc (Obj.cells #[.int .i64 0, .slice none 0 0, .slice none 0 0] 46) = u6 at hH hBG hsz lgF oF ⊢
                    generalize u5.heap.size = gF at lgF oF ⊢
                    try simp only [Act.put, List.getElem_toArray, List.getElem_cons_zero, List.getElem_cons_succ, List.setIfInBounds_toArray, List.set_cons_zero, List.set_cons_succ]
                    refine wpAnyH_ready (rs := [14]) (by kernel_rfl) (by simp) ?_
                    refine AllReadyH.cons rfl (fun K hK => ?_) AllReadyH.nil
                    have f0 := Lib.cell_of_heap oF 0
                    have f1 := Lib.cell_of_heap oF 1
                    have f2 := Lib.cell_of_heap oF 2
                    simp only [List.getElem?_toArray, List.getElem?_cons_zero, List.getElem?_cons_succ] at f0 f1 f2
                    have q0 := Lib.frozen_of_heap oF 0
                    have q1 := Lib.frozen_of_heap oF 1
                    have q2 := Lib.frozen_of_heap oF 2
                    go_simp
                    refine hK.out _ _ (HH0.out _ (((hBG.setCell lgF.1 _).setCell lgF.1 _).setCell lgF.1 _)) (fun hH => ?_)
                    clear hK K f0 f1 f2 q0 q1 q2
                    try simp only [Act.put, List.getElem_toArray, List.getElem_cons_zero, List.getElem_cons_succ, List.setIfInBounds_toArray, List.set_cons_zero, List.set_cons_succ]
                    refine wpAnyH_ready (rs := [15]) (by kernel_rfl) (by simp) ?_
                    refine AllReadyH.cons rfl (fun K hK => ?_) AllReadyH.nil
                    go_simp
                    refine hK.out _ _ hH (fun hH => ?_)
                    clear hK K
                    try simp only [Act.put, List.getElem_toArray, List.getElem_cons_zero, List.getElem_cons_succ, List.setIfInBounds_toArray, List.set_cons_zero, List.set_cons_succ]
                    refine wpAnyH_done (by kernel_rfl) ?_ _
                    go_wp2_with fail
                    go_meet
                    exact ⟨rfl, hH⟩
                  · go_simp
                    have hbx : Below u4.heap.size u4 (u4.alloc (Obj.cells #[.int .i64 0, .slice none 0 0, .slice none 0 0] 46)) := (Below.refl _ _).alloc (Nat.le_refl _) _
                    have rD := row_below rD hbx
                    have oF := obj_new u4 (Obj.cells #[.int .i64 0, .slice none 0 0, .slice none 0 0] 46)
                    have hBG := hBG.alloc hsz (Obj.cells #[.int .i64 0, .slice none 0 0, .slice none 0 0] 46)
                    have lgF : z0 ≤ u4.heap.size ∧ u4.heap.size < (u4.alloc (Obj.cells #[.int .i64 0, .slice none 0 0, .slice none 0 0] 46)).heap.size := ⟨hsz, by simp⟩
                    have hsz : z0 ≤ (u4.alloc (Obj.cells #[.int .i64 0, .slice none 0 0, .slice none 0 0] 46)).heap.size := Nat.le_trans hsz (Nat.le_of_lt lgF.2)
                    refine hK.out _ _ (hH.step hbx) (fun hH => ?_)
                    clear hK K hbx
                    generalize u4.alloc (Obj.cells #[.int .i64 0, .slice none 0 0, .slice none 0 0] 46) = u9 at hH hBG hsz lgF rD oF ⊢
                    generalize u4.heap.size = gF at lgF oF ⊢
                    try simp only [Act.put, List.getElem_toArray, List.getElem_cons_zero, List.getElem_cons_succ, List.setIfInBounds_toArray, List.set_cons_zero, List.set_cons_succ]
                    refine wpAnyH_ready (rs := [9]) (by kernel_rfl) (by simp) ?_
                    refine AllReadyH.cons rfl (fun K hK => ?_) AllReadyH.nil
                    go_simp
                    have h8 := slb_row rD (by rw [List.length_append, HLEN.out]; simp; omega)
                    go_wp2_with (go_at_call 45; (with_reducible refine Calls.mono (HP3.out x8 hx0 hx1 _ _ h8) ?_); rintro _ u10 ⟨hbx, rfl⟩)
                    have oF := obj_below oF hbx
                    have hBG := hBG.trans (hbx.mono hsz)
                    have hsz := Nat.le_trans hsz hbx.size
                    refine hK.out _ _ (hH.step hbx) (fun hH => ?_)
                    clear hK K hbx h8 rD
                    try simp only [Act.put, List.getElem_toArray, List.getElem_cons_zero, List.getElem_cons_succ, List.setIfInBounds_toArray, List.set_cons_zero, List.set_cons_succ]
                    refine wpAnyH_take (i := 10) (v := ?_) rfl (by kernel_rfl) (by kernel_rfl) (by kernel_rfl) (fun _ _ _ h => h) (Or.inl ⟨by rfl, ?_⟩) hH ?_
                    rotate_left
                    · intro w hSw
                      have g0 := hSw.y0
                      go_simp
                      try with_reducible rfl
                    try simp only [Act.put, List.getElem_toArray, List.getElem_cons_zero, List.getElem_cons_succ, List.setIfInBounds_toArray, List.set_cons_zero, List.set_cons_succ]
                    refine wpAnyH_take (i := 11) (v := ?_) rfl (by kernel_rfl) (by kernel_rfl) (by kernel_rfl) (fun _ _ _ h => h) (Or.inl ⟨by rfl, ?_⟩) hH ?_
                    rotate_left
                    · intro w hSw
                      have g0 := hSw.y0
                      go_simp
                      try with_reducible rfl
                    try simp only [Act.put, List.getElem_toArray, List.getElem_cons_zero, List.getElem_cons_succ, List.setIfInBounds_toArray, List.set_cons_zero, List.set_cons_succ]
                    refine wpAnyH_take (i := 12) (v := ?_) rfl (by kernel_rfl) (by kernel_rfl) (by kernel_rfl) (fun _ _ _ h => h) (Or.inl ⟨by rfl, ?_⟩) hH ?_
                    rotate_left
                    · intro w hSw
                      have g0 := hSw.y0
                      go_simp
                      try with_reducible rfl
                    try simp only [Act.put, List.getElem_toArray, List.getElem_cons_zero, List.getElem_cons_succ, List.setIfInBounds_toArray, List.set_cons_zero, List.set_cons_succ]
                    refine wpAnyH_ready (rs := [14]) (by kernel_rfl) (by simp) ?_
                    refine AllReadyH.cons rfl (fun K hK => ?_) AllReadyH.nil
                    have f0 := Lib.cell_of_heap oF 0
                    have f1 := Lib.cell_of_heap oF 1
                    have f2 := Lib.cell_of_heap oF 2
                    simp only [List.getElem?_toArray, List.getElem?_cons_zero, List.getElem?_cons_succ] at f0 f1 f2
                    have q0 := Lib.frozen_of_heap oF 0
                    have q1 := Lib.frozen_of_heap oF 1
                    have q2 := Lib.frozen_of_heap oF 2
                    go_simp
                    refine hK.out _ _ (HH0.out _ (((hBG.setCell lgF.1 _).setCell lgF.1 _).setCell lgF.1 _)) (fun hH => ?_)
                    clear hK K f0 f1 f2 q0 q1 q2
                    try simp only [Act.put, List.getElem_toArray, List.getElem_cons_zero, List.getElem_cons_succ, List.setIfInBounds_toArray, List.set_cons_zero, List.set_cons_succ]
                    refine wpAnyH_ready (rs := [15]) (by kernel_rfl) (by simp) ?_
                    refine AllReadyH.cons rfl (fun K hK => ?_) AllReadyH.nil
                    go_simp
                    refine hK.out _ _ hH (fun hH => ?_)
                    clear hK K
                    try simp only [Act.put, List.getElem_toArray, List.getElem_cons_zero, List.getElem_cons_succ, List.setIfInBounds_toArray, List.set_cons_zero, List.set_cons_succ]
                    refine wpAnyH_done (by kernel_rfl) ?_ _
                    go_wp2_with fail
                    go_meet
                    exact ⟨rfl, hH⟩
                · go_simp
                  have hbx : Below u3.heap.size u3 (u3.alloc (Obj.cells #[.int .i64 0, .slice none 0 0, .slice none 0 0] 46)) := (Below.refl _ _).alloc (Nat.le_refl _) _
                  have rB := row_below rB hbx
                  have oC := obj_below oC hbx
                  have oF := obj_new u3 (Obj.cells #[.int .i64 0, .slice none 0 0, .slice none 0 0] 46)
                  have hBG := hBG.alloc hsz (Obj.cells #[.int .i64 0, .slice none 0 0, .slice none 0 0] 46)
                  have lgF : z0 ≤ u3.heap.size ∧ u3.heap.size < (u3.alloc (Obj.cells #[.int .i64 0, .slice none 0 0, .slice none 0 0] 46)).heap.size := ⟨hsz, by simp⟩
                  have kA : gA < (u3.alloc (Obj.cells #[.int .i64 0, .slice none 0 0, .slice none 0 0] 46)).heap.size := Nat.lt_trans kA lgF.2
                  have hsz : z0 ≤ (u3.alloc (Obj.cells #[.int .i64 0, .slice none 0 0, .slice none 0 0] 46)).heap.size := Nat.le_trans hsz (Nat.le_of_lt lgF.2)
                  refine hK.out _ _ (hH.step hbx) (fun hH => ?_)
                  clear hK K hbx
                  generalize u3.alloc (Obj.cells #[.int .i64 0, .slice none 0 0, .slice none 0 0] 46) = u13 at hH hBG hsz lgF rB oC oF kA ⊢
                  generalize u3.heap.size = gF at lgF oF ⊢
                  try simp only [Act.put, List.getElem_toArray, List.getElem_cons_zero, List.getElem_cons_succ, List.setIfInBounds_toArray, List.set_cons_zero, List.set_cons_succ]
                  refine wpAnyH_ready (rs := [8]) (by kernel_rfl) (by simp) ?_
                  refine AllReadyH.cons rfl (fun K hK => ?_) AllReadyH.nil
                  have hC1 : Kd.C (Kd.int .u8) u13 (some ⟨gC, 0, none⟩) 1 [x8] := C_obj oC
                  refine step_app (by rfl) _ _ (by rfl) (by rfl) (by rfl) rB (by rfl) hC1 (by rw [HLEN.out]; simp; omega) (Nat.le_of_lt kA) ?_
                  intro vD u14 rD hbx hk5
                  have oF := obj_kept5 oF hk5 (by simp)
                  have hBG := hBG.trans (hbx.mono lgA.1)
                  have hsz := Nat.le_trans hsz hbx.size
                  obtain ⟨AD, cD, hvD⟩ := row_shape rD
                  have hl9 : ((featB lb1 vs1) ++ [x8]).length = M + 1 := by rw [List.length_append, HLEN.out]; rfl
                  rw [hl9] at hvD
                  subst hvD
                  refine hK.out _ _ (HH0.out _ hBG) (fun hH => ?_)
                  clear hK K hbx hk5 hC1
                  try simp only [Act.put, List.getElem_toArray, List.getElem_cons_zero, List.getElem_cons_succ, List.setIfInBounds_toArray, List.set_cons_zero, List.set_cons_succ]
                  refine wpAnyH_ready (rs := [9]) (by kernel_rfl) (by simp) ?_
                  refine AllReadyH.cons rfl (fun K hK => ?_) AllReadyH.nil
                  go_simp
                  have h8 := slb_row rD (by rw [List.length_append, HLEN.out]; simp; omega)
                  go_wp2_with (go_at_call 45; (with_reducible refine Calls.mono (HP3.out x8 hx0 hx1 _ _ h8) ?_); rintro _ u15 ⟨hbx, rfl⟩)
                  have oF := obj_below oF hbx
                  have hBG := hBG.trans (hbx.mono hsz)
                  have hsz := Nat.le_trans hsz hbx.size
                  refine hK.out _ _ (hH.step hbx) (fun hH => ?_)
                  clear hK K hbx h8 rD
                  try simp only [Act.put, List.getElem_toArray, List.getElem_cons_zero, List.getElem_cons_succ, List.setIfInBounds_toArray, List.set_cons_zero, List.set_cons_succ]
                  refine wpAnyH_take (i := 10) (v := ?_) rfl (by kernel_rfl) (by kernel_rfl) (by kernel_rfl) (fun _ _ _ h => h) (Or.inl ⟨by rfl, ?_⟩) hH ?_
                  rotate_left
                  · intro w hSw
                    have g0 := hSw.y0
                    go_simp
                    try with_reducible rfl
                  try simp only [Act.put, List.getElem_toArray, List.getElem_cons_zero, List.getElem_cons_succ, List.setIfInBounds_toArray, List.set_cons_zero, List.set_cons_succ]
                  refine wpAnyH_take (i := 11) (v := ?_) rfl (by kernel_rfl) (by kernel_rfl) (by kernel_rfl) (fun _ _ _ h => h) (Or.inl ⟨by rfl, ?_⟩) hH ?_
                  rotate_left
                  · intro w hSw
                    have g0 := hSw.y0
                    go_simp
                    try with_reducible rfl
                  try simp only [Act.put, List.getElem_toArray, List.getElem_cons_zero, List.getElem_cons_succ, List.setIfInBounds_toArray, List.set_cons_zero, List.set_cons_succ]
                  refine wpAnyH_take (i := 12) (v := ?_) rfl (by kernel_rfl) (by kernel_rfl) (by kernel_rfl) (fun _ _ _ h => h) (Or.inl ⟨by rfl, ?_⟩) hH ?_
                  rotate_left
                  · intro w hSw
                    have g0 := hSw.y0
                    go_simp
                    try with_reducible rfl
                  try simp only [Act.put, List.getElem_toArray, List.getElem_cons_zero, List.getElem_cons_succ, List.setIfInBounds_toArray, List.set_cons_zero, List.set_cons_succ]
                  refine wpAnyH_ready (rs := [14]) (by kernel_rfl) (by simp) ?_
                  refine AllReadyH.cons rfl (fun K hK => ?_) AllReadyH.nil
                  have f0 := Lib.cell_of_heap oF 0
                  have f1 := Lib.cell_of_heap oF 1
                  have f2 := Lib.cell_of_heap oF 2
                  simp only [List.getElem?_toArray, List.getElem?_cons_zero, List.getElem?_cons_succ] at f0 f1 f2
                  have q0 := Lib.frozen_of_heap oF 0
                  have q1 := Lib.frozen_of_heap oF 1
                  have q2 := Lib.frozen_of_heap oF 2
                  go_simp
                  refine hK.out _ _ (HH0.out _ (((hBG.setCell lgF.1 _).setCell lgF.1 _).setCell lgF.1 _)) (fun hH => ?_)
                  clear hK K f0 f1 f2 q0 q1 q2
                  try simp only [Act.put, List.getElem_toArray, List.getElem_cons_zero, List.getElem_cons_succ, List.setIfInBounds_toArray, List.set_cons_zero, List.set_cons_succ]
                  refine wpAnyH_ready (rs := [15]) (by kernel_rfl) (by simp) ?_
                  refine AllReadyH.cons rfl (fun K hK => ?_) AllReadyH.nil
                  go_simp
                  refine hK.out _ _ hH (fun hH => ?_)
                  clear hK K
                  try simp only [Act.put, List.getElem_toArray, List.getElem_cons_zero, List.getElem_cons_succ, List.setIfInBounds_toArray, List.set_cons_zero, List.set_cons_succ]
                  refine wpAnyH_done (by kernel_rfl) ?_ _
                  go_wp2_with fail
                  go_meet
                  exact ⟨rfl, hH⟩
              · go_simp
                have hbx : Below u2.heap.size u2 (u2.alloc (Obj.cells #[.int .i64 0, .slice none 0 0, .slice none 0 0] 46)) := (Below.refl _ _).alloc (Nat.le_refl _) _
                have rB := row_below rB hbx
                have oF := obj_new u2 (Obj.cells #[.int .i64 0, .slice none 0 0, .slice none 0 0] 46)
                have hBG := hBG.alloc hsz (Obj.cells #[.int .i64 0, .slice none 0 0, .slice none 0 0] 46)
                have lgF : z0 ≤ u2.heap.size ∧ u2.heap.size < (u2.alloc (Obj.cells #[.int .i64 0, .slice none 0 0, .slice none 0 0] 46)).heap.size := ⟨hsz, by simp⟩
                have kA : gA < (u2.alloc (Obj.cells #[.int .i64 0, .slice none 0 0, .slice none 0 0] 46)).heap.size := Nat.lt_trans kA lgF.2
                have hsz : z0 ≤ (u2.alloc (Obj.cells #[.int .i64 0, .slice none 0 0, .slice none 0 0] 46)).heap.size := Nat.le_trans hsz (Nat.le_of_lt lgF.2)
                refine hK.out _ _ (hH.step hbx) (fun hH => ?_)
                clear hK K hbx
                generalize u2.alloc (Obj.cells #[.int .i64 0, .slice none 0 0, .slice none 0 0] 46) = u18 at hH hBG hsz lgF rB oF kA ⊢
                generalize u2.heap.size = gF at lgF oF ⊢
                try simp only [Act.put, List.getElem_toArray, List.getElem_cons_zero, List.getElem_cons_succ, List.setIfInBounds_toArray, List.set_cons_zero, List.set_cons_succ]
                refine wpAnyH_ready (rs := [7]) (by kernel_rfl) (by simp) ?_
                refine AllReadyH.cons rfl (fun K hK => ?_) AllReadyH.nil
                go_simp
                have hbx : Below u18.heap.size u18 (u18.alloc (Obj.cells #[.int .u8 x8] 5)) := (Below.refl _ _).alloc (Nat.le_refl _) _
                have rB := row_below rB hbx
                have oF := obj_below oF hbx
                have oC := obj_new u18 (Obj.cells #[.int .u8 x8] 5)
                have hBG := hBG.alloc hsz (Obj.cells #[.int .u8 x8] 5)
                have lgC : z0 ≤ u18.heap.size ∧ u18.heap.size < (u18.alloc (Obj.cells #[.int .u8 x8] 5)).heap.size := ⟨hsz, by simp⟩
                have nAC : gA ≠ u18.heap.size := Nat.ne_of_lt kA
                have kA : gA < (u18.alloc (Obj.cells #[.int .u8 x8] 5)).heap.size := Nat.lt_trans kA lgC.2
                have kC := lgC.2
                have hsz : z0 ≤ (u18.alloc (Obj.cells #[.int .u8 x8] 5)).heap.size := Nat.le_trans hsz (Nat.le_of_lt lgC.2)
                refine hK.out _ _ (hH.step hbx) (fun hH => ?_)
                clear hK K hbx
                generalize u18.alloc (Obj.cells #[.int .u8 x8] 5) = u19 at hH hBG hsz lgC rB oC oF kA kC ⊢
                generalize u18.heap.size = gC at lgC nAC kC oC ⊢
                try simp only [Act.put, List.getElem_toArray, List.getElem_cons_zero, List.getElem_cons_succ, List.setIfInBounds_toArray, List.set_cons_zero, List.set_cons_succ]
                refine wpAnyH_ready (rs := [8]) (by kernel_rfl) (by simp) ?_
                refine AllReadyH.cons rfl (fun K hK => ?_) AllReadyH.nil
                have hC1 : Kd.C (Kd.int .u8) u19 (some ⟨gC, 0, none⟩) 1 [x8] := C_obj oC
                refine step_app (by rfl) _ _ (by rfl) (by rfl) (by rfl) rB (by rfl) hC1 (by rw [HLEN.out]; simp; omega) (Nat.le_of_lt kA) ?_
                intro vD u20 rD hbx hk5
                have oF := obj_kept5 oF hk5 (by simp)
                have hBG := hBG.trans (hbx.mono lgA.1)
                have hsz := Nat.le_trans hsz hbx.size
                obtain ⟨AD, cD, hvD⟩ := row_shape rD
                have hl9 : ((featB lb1 vs1) ++ [x8]).length = M + 1 := by rw [List.length_append, HLEN.out]; rfl
                rw [hl9] at hvD
                subst hvD
                refine hK.out _ _ (HH0.out _ hBG) (fun hH => ?_)
                clear hK K hbx hk5 hC1
                try simp only [Act.put, List.getElem_toArray, List.getElem_cons_zero, List.getElem_cons_succ, List.setIfInBounds_toArray, List.set_cons_zero, List.set_cons_succ]
                refine wpAnyH_ready (rs := [9]) (by kernel_rfl) (by simp) ?_
                refine AllReadyH.cons rfl (fun K hK => ?_) AllReadyH.nil
                go_simp
                have h8 := slb_row rD (by rw [List.length_append, HLEN.out]; simp; omega)
                go_wp2_with (go_at_call 45; (with_reducible refine Calls.mono (HP3.out x8 hx0 hx1 _ _ h8) ?_); rintro _ u21 ⟨hbx, rfl⟩)
                have oF := obj_below oF hbx
                have hBG := hBG.trans (hbx.mono hsz)
                have hsz := Nat.le_trans hsz hbx.size
                refine hK.out _ _ (hH.step hbx) (fun hH => ?_)
                clear hK K hbx h8 rD
                try simp only [Act.put, List.getElem_toArray, List.getElem_cons_zero, List.getElem_cons_succ, List.setIfInBounds_toArray, List.set_cons_zero, List.set_cons_succ]
                refine wpAnyH_take (i := 10) (v := ?_) rfl (by kernel_rfl) (by kernel_rfl) (by kernel_rfl) (fun _ _ _ h => h) (Or.inl ⟨by rfl, ?_⟩) hH ?_
                rotate_left
                · intro w hSw
                  have g0 := hSw.y0
                  go_simp
                  try with_reducible rfl
                try simp only [Act.put, List.getElem_toArray, List.getElem_cons_zero, List.getElem_cons_succ, List.setIfInBounds_toArray, List.set_cons_zero, List.set_cons_succ]
                refine wpAnyH_take (i := 11) (v := ?_) rfl (by kernel_rfl) (by kernel_rfl) (by kernel_rfl) (fun _ _ _ h => h) (Or.inl ⟨by rfl, ?_⟩) hH ?_
                rotate_left
                · intro w hSw
                  have g0 := hSw.y0
                  go_simp
                  try with_reducible rfl
                try simp only [Act.put, List.getElem_toArray, List.getElem_cons_zero, List.getElem_cons_succ, List.setIfInBounds_toArray, List.set_cons_zero, List.set_cons_succ]
                refine wpAnyH_take (i := 12) (v := ?_) rfl (by kernel_rfl) (by kernel_rfl) (by kernel_rfl) (fun _ _ _ h => h) (Or.inl ⟨by rfl, ?_⟩) hH ?_
                rotate_left
                · intro w hSw
                  have g0 := hSw.y0
                  go_simp
                  try with_reducible rfl
                try simp only [Act.put, List.getElem_toArray, List.getElem_cons_zero, List.getElem_cons_succ, List.setIfInBounds_toArray, List.set_cons_zero, List.set_cons_succ]
                refine wpAnyH_ready (rs := [14]) (by kernel_rfl) (by simp) ?_
                refine AllReadyH.cons rfl (fun K hK => ?_) AllReadyH.nil
                have f0 := Lib.cell_of_heap oF 0
                have f1 := Lib.cell_of_heap oF 1
                have f2 := Lib.cell_of_heap oF 2
                simp only [List.getElem?_toArray, List.getElem?_cons_zero, List.getElem?_cons_succ] at f0 f1 f2
                have q0 := Lib.frozen_of_heap oF 0
                have q1 := Lib.frozen_of_heap oF 1
                have q2 := Lib.frozen_of_heap oF 2
                go_simp
                refine hK.out _ _ (HH0.out _ (((hBG.setCell lgF.1 _).setCell lgF.1 _).setCell lgF.1 _)) (fun hH => ?_)
                clear hK K f0 f1 f2 q0 q1 q2
                try simp only [Act.put, List.getElem_toArray, List.getElem_cons_zero, List.getElem_cons_succ, List.setIfInBounds_toArray, List.set_cons_zero, List.set_cons_succ]
                refine wpAnyH_ready (rs := [15]) (by kernel_rfl) (by simp) ?_
                refine AllReadyH.cons rfl (fun K hK => ?_) AllReadyH.nil
                go_simp
                refine hK.out _ _ hH (fun hH => ?_)
                clear hK K
                try simp only [Act.put, List.getElem_toArray, List.getElem_cons_zero, List.getElem_cons_succ, List.setIfInBounds_toArray, List.set_cons_zero, List.set_cons_succ]
                refine wpAnyH_done (by kernel_rfl) ?_ _
                go_wp2_with fail
                go_meet
                exact ⟨rfl, hH⟩
            · go_simp
              have hbx : Below u1.heap.size u1 (u1.alloc (Obj.cells #[.int .u8 x8] 5)) := (Below.refl _ _).alloc (Nat.le_refl _) _
              have rA := row_below rA hbx
              have oC := obj_new u1 (Obj.cells #[.int .u8 x8] 5)
              have hBG := hBG.alloc hsz (Obj.cells #[.int .u8 x8] 5)
              have lgC : z0 ≤ u1.heap.size ∧ u1.heap.size < (u1.alloc (Obj.cells #[.int .u8 x8] 5)).heap.size := ⟨hsz, by simp⟩
              have nAC : gA ≠ u1.heap.size := Nat.ne_of_lt kA
              have kA : gA < (u1.alloc (Obj.cells #[.int .u8 x8] 5)).heap.size := Nat.lt_trans kA lgC.2
              have kC := lgC.2
              have hsz : z0 ≤ (u1.alloc (Obj.cells #[.int .u8 x8] 5)).heap.size := Nat.le_trans hsz (Nat.le_of_lt lgC.2)
              refine hK.out _ _ (hH.step hbx) (fun hH => ?_)
              clear hK K hbx
              generalize u1.alloc (Obj.cells #[.int .u8 x8] 5) = u24 at hH hBG hsz lgC rA oC kA kC ⊢
              generalize u1.heap.size = gC at lgC nAC kC oC ⊢
              try simp only [Act.put, List.getElem_toArray, List.getElem_cons_zero, List.getElem_cons_succ, List.setIfInBounds_toArray, List.set_cons_zero, List.set_cons_succ]
              refine wpAnyH_ready (rs := [4, 13]) (by kernel_rfl) (by simp) ?_
              refine AllReadyH.cons rfl (fun K hK => ?_) (AllReadyH.cons rfl (fun K hK => ?_) AllReadyH.nil)
              · refine step_appK (by rfl) _ _ (by rfl) (by rfl) (by rfl) rA (by rfl) (slb_C hH.h5) (by omega) (by have := HLEN.out; simp; omega) (Nat.le_of_lt kA) ?_
                intro vB u25 rB hbx hkO hk5
                rw [List.nil_append] at rB
                have oC := obj_keptO oC hkO (by simp [Value.ownBlock]; first | exact nCA | exact fun h => nAC h.symm | omega)
                have hBG := hBG.trans (hbx.mono lgA.1)
                have hsz := Nat.le_trans hsz hbx.size
                have kA : gA < u25.heap.size := Nat.lt_of_lt_of_le kA hbx.size
                obtain ⟨AB, cB, hvB⟩ := row_shape rB
                rw [HLEN.out] at hvB
                subst hvB
                refine hK.out _ _ (HH0.out _ hBG) (fun hH => ?_)
                clear hK K hbx hkO hk5
                try simp only [Act.put, List.getElem_toArray, List.getElem_cons_zero, List.getElem_cons_succ, List.setIfInBounds_toArray, List.set_cons_zero, List.set_cons_succ]
                refine wpAnyH_ready (rs := [8, 13]) (by kernel_rfl) (by simp) ?_
                refine AllReadyH.cons rfl (fun K hK => ?_) (AllReadyH.cons rfl (fun K hK => ?_) AllReadyH.nil)
                · have hC1 : Kd.C (Kd.int .u8) u25 (some ⟨gC, 0, none⟩) 1 [x8] := C_obj oC
                  refine step_app (by rfl) _ _ (by rfl) (by rfl) (by rfl) rB (by rfl) hC1 (by rw [HLEN.out]; simp; omega) (Nat.le_of_lt kA) ?_
                  intro vD u26 rD hbx hk5
                  have hBG := hBG.trans (hbx.mono lgA.1)
                  have hsz := Nat.le_trans hsz hbx.size
                  obtain ⟨AD, cD, hvD⟩ := row_shape rD
                  have hl9 : ((featB lb1 vs1) ++ [x8]).length = M + 1 := by rw [List.length_append, HLEN.out]; rfl
                  rw [hl9] at hvD
                  subst hvD
                  refine hK.out _ _ (HH0.out _ hBG) (fun hH => ?_)
                  clear hK K hbx hk5 hC1
                  try simp only [Act.put, List.getElem_toArray, List.getElem_cons_zero, List.getElem_cons_succ, List.setIfInBounds_toArray, List.set_cons_zero, List.set_cons_succ]
                  refine wpAnyH_ready (rs := [9, 13]) (by kernel_rfl) (by simp) ?_
                  refine AllReadyH.cons rfl (fun K hK => ?_) (AllReadyH.cons rfl (fun K hK => ?_) AllReadyH.nil)
                  · go_simp
                    have h8 := slb_row rD (by rw [List.length_append, HLEN.out]; simp; omega)
                    go_wp2_with (go_at_call 45; (with_reducible refine Calls.mono (HP3.out x8 hx0 hx1 _ _ h8) ?_); rintro _ u27 ⟨hbx, rfl⟩)
                    have hBG := hBG.trans (hbx.mono hsz)
                    have hsz := Nat.le_trans hsz hbx.size
                    refine hK.out _ _ (hH.step hbx) (fun hH => ?_)
                    clear hK K hbx h8 rD
                    try simp only [Act.put, List.getElem_toArray, List.getElem_cons_zero, List.getElem_cons_succ, List.setIfInBounds_toArray, List.set_cons_zero, List.set_cons_succ]
                    refine wpAnyH_take (i := 10) (v := ?_) rfl (by kernel_rfl) (by kernel_rfl) (by kernel_rfl) (fun _ _ _ h => h) (Or.inl ⟨by rfl, ?_⟩) hH ?_
                    rotate_left
                    · intro w hSw
                      have g0 := hSw.y0
                      go_simp
                      try with_reducible rfl
                    try simp only [Act.put, List.getElem_toArray, List.getElem_cons_zero, List.getElem_cons_succ, List.setIfInBounds_toArray, List.set_cons_zero, List.set_cons_succ]
                    refine wpAnyH_take (i := 11) (v := ?_) rfl (by kernel_rfl) (by kernel_rfl) (by kernel_rfl) (fun _ _ _ h => h) (Or.inl ⟨by rfl, ?_⟩) hH ?_
                    rotate_left
                    · intro w hSw
                      have g0 := hSw.y0
                      go_simp
                      try with_reducible rfl
                    try simp only [Act.put, List.getElem_toArray, List.getElem_cons_zero, List.getElem_cons_succ, List.setIfInBounds_toArray, List.set_cons_zero, List.set_cons_succ]
                    refine wpAnyH_take (i := 12) (v := ?_) rfl (by kernel_rfl) (by kernel_rfl) (by kernel_rfl) (fun _ _ _ h => h) (Or.inl ⟨by rfl, ?_⟩) hH ?_
                    rotate_left
                    · intro w hSw
                      have g0 := hSw.y0
                      go_simp
                      try with_reducible rfl
                    try simp only [Act.put, List.getElem_toArray, List.getElem_cons_zero, List.getElem_cons_succ, List.setIfInBounds_toArray, List.set_cons_zero, List.set_cons_succ]
                    refine wpAnyH_ready (rs := [13]) (by kernel_rfl) (by simp) ?_
                    refine AllReadyH.cons rfl (fun K hK => ?_) AllReadyH.nil
                    go_simp
                    have hbx : Below u27.heap.size u27 (u27.alloc (Obj.cells #[.int .i64 0, .slice none 0 0, .slice none 0 0] 46)) := (Below.refl _ _).alloc (Nat.le_refl _) _
                    have oF := obj_new u27 (Obj.cells #[.int .i64 0, .slice none 0 0, .slice none 0 0] 46)
                    have hBG := hBG.alloc hsz (Obj.cells #[.int .i64 0, .slice none 0 0, .slice none 0 0] 46)
                    have lgF : z0 ≤ u27.heap.size ∧ u27.heap.size < (u27.alloc (Obj.cells #[.int .i64 0, .slice none 0 0, .slice none 0 0] 46)).heap.size := ⟨hsz, by simp⟩
                    have hsz : z0 ≤ (u27.alloc (Obj.cells #[.int .i64 0, .slice none 0 0, .slice none 0 0] 46)).heap.size := Nat.le_trans hsz (Nat.le_of_lt lgF.2)
                    refine hK.out _ _ (hH.step hbx) (fun hH => ?_)
                    clear hK K hbx
                    generalize u27.alloc (Obj.cells #[.int .i64 0, .slice none 0 0, .slice none 0 0] 46) = u28 at hH hBG hsz lgF oF ⊢
                    generalize u27.heap.size = gF at lgF oF ⊢
                    try simp only [Act.put, List.getElem_toArray, List.getElem_cons_zero, List.getElem_cons_succ, List.setIfInBounds_toArray, List.set_cons_zero, List.set_cons_succ]
                    refine wpAnyH_ready (rs := [14]) (by kernel_rfl) (by simp) ?_
                    refine AllReadyH.cons rfl (fun K hK => ?_) AllReadyH.nil
                    have f0 := Lib.cell_of_heap oF 0
                    have f1 := Lib.cell_of_heap oF 1
                    have f2 := Lib.cell_of_heap oF 2
                    simp only [List.getElem?_toArray, List.getElem?_cons_zero, List.getElem?_cons_succ] at f0 f1 f2
                    have q0 := Lib.frozen_of_heap oF 0
                    have q1 := Lib.frozen_of_heap oF 1
                    have q2 := Lib.frozen_of_heap oF 2
                    go_simp
                    refine hK.out _ _ (HH0.out _ (((hBG.setCell lgF.1 _).setCell lgF.1 _).setCell lgF.1 _)) (fun hH => ?_)
                    clear hK K f0 f1 f2 q0 q1 q2
                    try simp only [Act.put, List.getElem_toArray, List.getElem_cons_zero, List.getElem_cons_succ, List.setIfInBounds_toArray, List.set_cons_zero, List.set_cons_succ]
                    refine wpAnyH_ready (rs := [15]) (by kernel_rfl) (by simp) ?_
                    refine AllReadyH.cons rfl (fun K hK => ?_) AllReadyH.nil
                    go_simp
                    refine hK.out _ _ hH (fun hH => ?_)
                    clear hK K
                    try simp only [Act.put, List.getElem_toArray, List.getElem_cons_zero, List.getElem_cons_succ, List.setIfInBounds_toArray, List.set_cons_zero, List.set_cons_succ]
                    refine wpAnyH_done (by kernel_rfl) ?_ _
                    go_wp2_with fail
                    go_meet
                    exact ⟨rfl, hH⟩
                  · go_simp
                    have hbx : Below u26.heap.size u26 (u26.alloc (Obj.cells #[.int .i64 0, .slice none 0 0, .slice none 0 0] 46)) := (Below.refl _ _).alloc (Nat.le_refl _) _
                    have rD := row_below rD hbx
                    have oF := obj_new u26 (Obj.cells #[.int .i64 0, .slice none 0 0, .slice none 0 0] 46)
                    have hBG := hBG.alloc hsz (Obj.cells #[.int .i64 0, .slice none 0 0, .slice none 0 0] 46)
                    have lgF : z0 ≤ u26.heap.size ∧ u26.heap.size < (u26.alloc (Obj.cells #[.int .i64 0, .slice none 0 0, .slice none 0 0] 46)).heap.size := ⟨hsz, by simp⟩
                    have hsz : z0 ≤ (u26.alloc (Obj.cells #[.int .i64 0, .slice none 0 0, .slice none 0 0] 46)).heap.size := Nat.le_trans hsz (Nat.le_of_lt lgF.2)
                    refine hK.out _ _ (hH.step hbx) (fun hH => ?_)
                    clear hK K hbx
                    generalize u26.alloc (Obj.cells #[.int .i64 0, .slice none 0 0, .slice none 0 0] 46) = u31 at hH hBG hsz lgF rD oF ⊢
                    generalize u26.heap.size = gF at lgF oF ⊢
                    try simp only [Act.put, List.getElem_toArray, List.getElem_cons_zero, List.getElem_cons_succ, List.setIfInBounds_toArray, List.set_cons_zero, List.set_cons_succ]
                    refine wpAnyH_ready (rs := [9]) (by kernel_rfl) (by simp) ?_
                    refine AllReadyH.cons rfl (fun K hK => ?_) AllReadyH.nil
                    go_simp
                    have h8 := slb_row rD (by rw [List.length_append, HLEN.out]; simp; omega)
                    go_wp2_with (go_at_call 45; (with_reducible refine Calls.mono (HP3.out x8 hx0 hx1 _ _ h8) ?_); rintro _ u32 ⟨hbx, rfl⟩)
                    have oF := obj_below oF hbx
                    have hBG := hBG.trans (hbx.mono hsz)
                    have hsz := Nat.le_trans hsz hbx.size
                    refine hK.out _ _ (hH.step hbx) (fun hH => ?_)
                    clear hK K hbx h8 rD
                    try simp only [Act.put, List.getElem_toArray, List.getElem_cons_zero, List.getElem_cons_succ, List.setIfInBounds_toArray, List.set_cons_zero, List.set_cons_succ]
                    refine wpAnyH_take (i := 10) (v := ?_) rfl (by kernel_rfl) (by kernel_rfl) (by kernel_rfl) (fun _ _ _ h => h) (Or.inl ⟨by rfl, ?_⟩) hH ?_
                    rotate_left
                    · intro w hSw
                      have g0 := hSw.y0
                      go_simp
                      try with_reducible rfl
                    try simp only [Act.put, List.getElem_toArray, List.getElem_cons_zero, List.getElem_cons_succ, List.setIfInBounds_toArray, List.set_cons_zero, List.set_cons_succ]
                    refine wpAnyH_take (i := 11) (v := ?_) rfl (by kernel_rfl) (by kernel_rfl) (by kernel_rfl) (fun _ _ _ h => h) (Or.inl ⟨by rfl, ?_⟩) hH ?_
                    rotate_left
                    · intro w hSw
                      have g0 := hSw.y0
                      go_simp
                      try with_reducible rfl
                    try simp only [Act.put, List.getElem_toArray, List.getElem_cons_zero, List.getElem_cons_succ, List.setIfInBounds_toArray, List.set_cons_zero, List.set_cons_succ]
                    refine wpAnyH_take (i := 12) (v := ?_) rfl (by kernel_rfl) (by kernel_rfl) (by kernel_rfl) (fun _ _ _ h => h) (Or.inl ⟨by rfl, ?_⟩) hH ?_
                    rotate_left
                    · intro w hSw
                      have g0 := hSw.y0
                      go_simp
                      try with_reducible rfl
                    try simp only [Act.put, List.getElem_toArray, List.getElem_cons_zero, List.getElem_cons_succ, List.setIfInBounds_toArray, List.set_cons_zero, List.set_cons_succ]
                    refine wpAnyH_ready (rs := [14]) (by kernel_rfl) (by simp) ?_
                    refine AllReadyH.cons rfl (fun K hK => ?_) AllReadyH.nil
                    have f0 := Lib.cell_of_heap oF 0
                    have f1 := Lib.cell_of_heap oF 1
                    have f2 := Lib.cell_of_heap oF 2
                    simp only [List.getElem?_toArray, List.getElem?_cons_zero, List.getElem?_cons_succ] at f0 f1 f2
                    have q0 := Lib.frozen_of_heap oF 0
                    have q1 := Lib.frozen_of_heap oF 1
                    have q2 := Lib.frozen_of_heap oF 2
                    go_simp
                    refine hK.out _ _ (HH0.out _ (((hBG.setCell lgF.1 _).setCell lgF.1 _).setCell lgF.1 _)) (fun hH => ?_)
                    clear hK K f0 f1 f2 q0 q1 q2
                    try simp only [Act.put, List.getElem_toArray, List.getElem_cons_zero, List.getElem_cons_succ, List.setIfInBounds_toArray, List.set_cons_zero, List.set_cons_succ]
                    refine wpAnyH_ready (rs := [15]) (by kernel_rfl) (by simp) ?_
                    refine AllReadyH.cons rfl (fun K hK => ?_) AllReadyH.nil
                    go_simp
                    refine hK.out _ _ hH (fun hH => ?_)
                    clear hK K
                    try simp only [Act.put, List.getElem_toArray, List.getElem_cons_zero, List.getElem_cons_succ, List.setIfInBounds_toArray, List.set_cons_zero, List.set_cons_succ]
                    refine wpAnyH_done (by kernel_rfl) ?_ _
                    go_wp2_with fail
                    go_meet
                    exact ⟨rfl, hH⟩
                · go_simp
                  have hbx : Below u25.heap.size u25 (u25.alloc (Obj.cells #[.int .i64 0, .slice none 0 0, .slice none 0 0] 46)) := (Below.refl _ _).alloc (Nat.le_refl _) _
                  have rB := row_below rB hbx
                  have oC := obj_below oC hbx
                  have oF := obj_new u25 (Obj.cells #[.int .i64 0, .slice none 0 0, .slice none 0 0] 46)
                  have hBG := hBG.alloc hsz (Obj.cells #[.int .i64 0, .slice none 0 0, .slice none 0 0] 46)
                  have lgF : z0 ≤ u25.heap.size ∧ u25.heap.size < (u25.alloc (Obj.cells #[.int .i64 0, .slice none 0 0, .slice none 0 0] 46)).heap.size := ⟨hsz, by simp⟩
                  have kA : gA < (u25.alloc (Obj.cells #[.int .i64 0, .slice none 0 0, .slice none 0 0] 46)).heap.size := Nat.lt_trans kA lgF.2
                  have hsz : z0 ≤ (u25.alloc (Obj.cells #[.int .i64 0, .slice none 0 0, .slice none 0 0] 46)).heap.size := Nat.le_trans hsz (Nat.le_of_lt lgF.2)
                  refine hK.out _ _ (hH.step hbx) (fun hH => ?_)
                  clear hK K hbx
                  generalize u25.alloc (Obj.cells #[.int .i64 0, .slice none 0 0, .slice none 0 0] 46) = u35 at hH hBG hsz lgF rB oC oF kA ⊢
                  generalize u25.heap.size = gF at lgF oF ⊢
                  try simp only [Act.put, List.getElem_toArray, List.getElem_cons_zero, List.getElem_cons_succ, List.setIfInBounds_toArray, List.set_cons_zero, List.set_cons_succ]
                  refine wpAnyH_ready (rs := [8]) (by kernel_rfl) (by simp) ?_
                  refine AllReadyH.cons rfl (fun K hK => ?_) AllReadyH.nil
                  have hC1 : Kd.C (Kd.int .u8) u35 (some ⟨gC, 0, none⟩) 1 [x8] := C_obj oC
                  refine step_app (by rfl) _ _ (by rfl) (by rfl) (by rfl) rB (by rfl) hC1 (by rw [HLEN.out]; simp; omega) (Nat.le_of_lt kA) ?_
                  intro vD u36 rD hbx hk5
                  have oF := obj_kept5 oF hk5 (by simp)
                  have hBG := hBG.trans (hbx.mono lgA.1)
                  have hsz := Nat.le_trans hsz hbx.size
                  obtain ⟨AD, cD, hvD⟩ := row_shape rD
                  have hl9 : ((featB lb1 vs1) ++ [x8]).length = M + 1 := by rw [List.length_append, HLEN.out]; rfl
                  rw [hl9] at hvD
                  subst hvD
                  refine hK.out _ _ (HH0.out _ hBG) (fun hH => ?_)
                  clear hK K hbx hk5 hC1
                  try simp only [Act.put, List.getElem_toArray, List.getElem_cons_zero, List.getElem_cons_succ, List.setIfInBounds_toArray, List.set_cons_zero, List.set_cons_succ]
                  refine wpAnyH_ready (rs := [9]) (by kernel_rfl) (by simp) ?_
                  refine AllReadyH.cons rfl (fun K hK => ?_) AllReadyH.nil
                  go_simp
                  have h8 := slb_row rD (by rw [List.length_append, HLEN.out]; simp; omega)
                  go_wp2_with (go_at_call 45; (with_reducible refine Calls.mono (HP3.out x8 hx0 hx1 _ _ h8) ?_); rintro _ u37 ⟨hbx, rfl⟩)
                  have oF := obj_below oF hbx
                  have hBG := hBG.trans (hbx.mono hsz)
                  have hsz := Nat.le_trans hsz hbx.size
                  refine hK.out _ _ (hH.step hbx) (fun hH => ?_)
                  clear hK K hbx h8 rD
                  try simp only [Act.put, List.getElem_toArray, List.getElem_cons_zero, List.getElem_cons_succ, List.setIfInBounds_toArray, List.set_cons_zero, List.set_cons_succ]
                  refine wpAnyH_take (i := 10) (v := ?_) rfl (by kernel_rfl) (by kernel_rfl) (by kernel_rfl) (fun _ _ _ h => h) (Or.inl ⟨by rfl, ?_⟩) hH ?_
                  rotate_left
                  · intro w hSw
                    have g0 := hSw.y0
                    go_simp
                    try with_reducible rfl
                  try simp only [Act.put, List.getElem_toArray, List.getElem_cons_zero, List.getElem_cons_succ, List.setIfInBounds_toArray, List.set_cons_zero, List.set_cons_succ]
                  refine wpAnyH_take (i := 11) (v := ?_) rfl (by kernel_rfl) (by kernel_rfl) (by kernel_rfl) (fun _ _ _ h => h) (Or.inl ⟨by rfl, ?_⟩) hH ?_
                  rotate_left
                  · intro w hSw
                    have g0 := hSw.y0
                    go_simp
                    try with_reducible rfl
                  try simp only [Act.put, List.getElem_toArray, List.getElem_cons_zero, List.getElem_cons_succ, List.setIfInBounds_toArray, List.set_cons_zero, List.set_cons_succ]
                  refine wpAnyH_take (i := 12) (v := ?_) rfl (by kernel_rfl) (by kernel_rfl) (by kernel_rfl) (fun _ _ _ h => h) (Or.inl ⟨by rfl, ?_⟩) hH ?_
                  rotate_left
                  · intro w hSw
                    have g0 := hSw.y0
                    go_simp
                    try with_reducible rfl
                  try simp only [Act.put, List.getElem_toArray, List.getElem_cons_zero, List.getElem_cons_succ, List.setIfInBounds_toArray, List.set_cons_zero, List.set_cons_succ]
                  refine wpAnyH_ready (rs := [14]) (by kernel_rfl) (by simp) ?_
                  refine AllReadyH.cons rfl (fun K hK => ?_) AllReadyH.nil
                  have f0 := Lib.cell_of_heap oF 0
                  have f1 := Lib.cell_of_heap oF 1
                  have f2 := Lib.cell_of_heap oF 2
                  simp only [List.getElem?_toArray, List.getElem?_cons_zero, List.getElem?_cons_succ] at f0 f1 f2
                  have q0 := Lib.frozen_of_heap oF 0
                  have q1 := Lib.frozen_of_heap oF 1
                  have q2 := Lib.frozen_of_heap oF 2
                  go_simp
                  refine hK.out _ _ (HH0.out _ (((hBG.setCell lgF.1 _).setCell lgF.1 _).setCell lgF.1 _)) (fun hH => ?_)
                  clear hK K f0 f1 f2 q0 q1 q2
                  try simp only [Act.put, List.getElem_toArray, List.getElem_cons_zero, List.getElem_cons_succ, List.setIfInBounds_toArray, List.set_cons_zero, List.set_cons_succ]
                  refine wpAnyH_ready (rs := [15]) (by kernel_rfl) (by simp) ?_
                  refine AllReadyH.cons rfl (fun K hK => ?_) AllReadyH.nil
                  go_simp
                  refine hK.out _ _ hH (fun hH => ?_)
                  clear hK K
                  try simp only [Act.put, List.getElem_toArray, List.getElem_cons_zero, List.getElem_cons_succ, List.setIfInBounds_toArray, List.set_cons_zero, List.set_cons_succ]
                  refine wpAnyH_done (by kernel_rfl) ?_ _
                  go_wp2_with fail
                  go_meet
                  exact ⟨rfl, hH⟩
              · go_simp
                have hbx : Below u24.heap.size u24 (u24.alloc (Obj.cells #[.int .i64 0, .slice none 0 0, .slice none 0 0] 46)) := (Below.refl _ _).alloc (Nat.le_refl _) _
                have rA := row_below rA hbx
                have oC := obj_below oC hbx
                have oF := obj_new u24 (Obj.cells #[.int .i64 0, .slice none 0 0, .slice none 0 0] 46)
                have hBG := hBG.alloc hsz (Obj.cells #[.int .i64 0, .slice none 0 0, .slice none 0 0] 46)
                have lgF : z0 ≤ u24.heap.size ∧ u24.heap.size < (u24.alloc (Obj.cells #[.int .i64 0, .slice none 0 0, .slice none 0 0] 46)).heap.size := ⟨hsz, by simp⟩
                have kA : gA < (u24.alloc (Obj.cells #[.int .i64 0, .slice none 0 0, .slice none 0 0] 46)).heap.size := Nat.lt_trans kA lgF.2
                have hsz : z0 ≤ (u24.alloc (Obj.cells #[.int .i64 0, .slice none 0 0, .slice none 0 0] 46)).heap.size := Nat.le_trans hsz (Nat.le_of_lt lgF.2)
                refine hK.out _ _ (hH.step hbx) (fun hH => ?_)
                clear hK K hbx
                generalize u24.alloc (Obj.cells #[.int .i64 0, .slice none 0 0, .slice none 0 0] 46) = u40 at hH hBG hsz lgF rA oC oF kA ⊢
                generalize u24.heap.size = gF at lgF oF ⊢
                try simp only [Act.put, List.getElem_toArray, List.getElem_cons_zero, List.getElem_cons_succ, List.setIfInBounds_toArray, List.set_cons_zero, List.set_cons_succ]
                refine wpAnyH_ready (rs := [4]) (by kernel_rfl) (by simp) ?_
                refine AllReadyH.cons rfl (fun K hK => ?_) AllReadyH.nil
                refine step_appK (by rfl) _ _ (by rfl) (by rfl) (by rfl) rA (by rfl) (slb_C hH.h5) (by omega) (by have := HLEN.out; simp; omega) (Nat.le_of_lt kA) ?_
                intro vB u41 rB hbx hkO hk5
                rw [List.nil_append] at rB
                have oC := obj_keptO oC hkO (by simp [Value.ownBlock]; first | exact nCA | exact fun h => nAC h.symm | omega)
                have oF := obj_kept5 oF hk5 (by simp)
                have hBG := hBG.trans (hbx.mono lgA.1)
                have hsz := Nat.le_trans hsz hbx.size
                have kA : gA < u41.heap.size := Nat.lt_of_lt_of_le kA hbx.size
                obtain ⟨AB, cB, hvB⟩ := row_shape rB
                rw [HLEN.out] at hvB
                subst hvB
                refine hK.out _ _ (HH0.out _ hBG) (fun hH => ?_)
                clear hK K hbx hkO hk5
                try simp only [Act.put, List.getElem_toArray, List.getElem_cons_zero, List.getElem_cons_succ, List.setIfInBounds_toArray, List.set_cons_zero, List.set_cons_succ]
                refine wpAnyH_ready (rs := [8]) (by kernel_rfl) (by simp) ?_
                refine AllReadyH.cons rfl (fun K hK => ?_) AllReadyH.nil
                have hC1 : Kd.C (Kd.int .u8) u41 (some ⟨gC, 0, none⟩) 1 [x8] := C_obj oC
                refine step_app (by rfl) _ _ (by rfl) (by rfl) (by rfl) rB (by rfl) hC1 (by rw [HLEN.out]; simp; omega) (Nat.le_of_lt kA) ?_
                intro vD u42 rD hbx hk5
                have oF := obj_kept5 oF hk5 (by simp)
                have hBG := hBG.trans (hbx.mono lgA.1)
                have hsz := Nat.le_trans hsz hbx.size
                obtain ⟨AD, cD, hvD⟩ := row_shape rD
                have hl9 : ((featB lb1 vs1) ++ [x8]).length = M + 1 := by rw [List.length_append, HLEN.out]; rfl
                rw [hl9] at hvD
                subst hvD
                refine hK.out _ _ (HH0.out _ hBG) (fun hH => ?_)
                clear hK K hbx hk5 hC1
                try simp only [Act.put, List.getElem_toArray, List.getElem_cons_zero, List.getElem_cons_succ, List.setIfInBounds_toArray, List.set_cons_zero, List.set_cons_succ]
                refine wpAnyH_ready (rs := [9]) (by kernel_rfl) (by simp) ?_
                refine AllReadyH.cons rfl (fun K hK => ?_) AllReadyH.nil
                go_simp
                have h8 := slb_row rD (by rw [List.length_append, HLEN.out]; simp; omega)
                go_wp2_with (go_at_call 45; (with_reducible refine Calls.mono (HP3.out x8 hx0 hx1 _ _ h8) ?_); rintro _ u43 ⟨hbx, rfl⟩)
                have oF := obj_below oF hbx
                have hBG := hBG.trans (hbx.mono hsz)
                have hsz := Nat.le_trans hsz hbx.size
                refine hK.out _ _ (hH.step hbx) (fun hH => ?_)
                clear hK K hbx h8 rD
                try simp only [Act.put, List.getElem_toArray, List.getElem_cons_zero, List.getElem_cons_succ, List.setIfInBounds_toArray, List.set_cons_zero, List.set_cons_succ]
                refine wpAnyH_take (i := 10) (v := ?_) rfl (by kernel_rfl) (by kernel_rfl) (by kernel_rfl) (fun _ _ _ h => h) (Or.inl ⟨by rfl, ?_⟩) hH ?_
                rotate_left
                · intro w hSw
                  have g0 := hSw.y0
                  go_simp
                  try with_reducible rfl
                try simp only [Act.put, List.getElem_toArray, List.getElem_cons_zero, List.getElem_cons_succ, List.setIfInBounds_toArray, List.set_cons_zero, List.set_cons_succ]
                refine wpAnyH_take (i := 11) (v := ?_) rfl (by kernel_rfl) (by kernel_rfl) (by kernel_rfl) (fun _ _ _ h => h) (Or.inl ⟨by rfl, ?_⟩) hH ?_
                rotate_left
                · intro w hSw
                  have g0 := hSw.y0
                  go_simp
                  try with_reducible rfl
                try simp only [Act.put, List.getElem_toArray, List.getElem_cons_zero, List.getElem_cons_succ, List.setIfInBounds_toArray, List.set_cons_zero, List.set_cons_succ]
                refine wpAnyH_take (i := 12) (v := ?_) rfl (by kernel_rfl) (by kernel_rfl) (by kernel_rfl) (fun _ _ _ h => h) (Or.inl ⟨by rfl, ?_⟩) hH ?_
                rotate_left
                · intro w hSw
                  have g0 := hSw.y0
                  go_simp
                  try with_reducible rfl
                try simp only [Act.put, List.getElem_toArray, List.getElem_cons_zero, List.getElem_cons_succ, List.setIfInBounds_toArray, List.set_cons_zero, List.set_cons_succ]
                refine wpAnyH_ready (rs := [14]) (by kernel_rfl) (by simp) ?_
                refine AllReadyH.cons rfl (fun K hK => ?_) AllReadyH.nil
                have f0 := Lib.cell_of_heap oF 0
                have f1 := Lib.cell_of_heap oF 1
                have f2 := Lib.cell_of_heap oF 2
                simp only [List.getElem?_toArray, List.getElem?_cons_zero, List.getElem?_cons_succ] at f0 f1 f2
                have q0 := Lib.frozen_of_heap oF 0
                have q1 := Lib.frozen_of_heap oF 1
                have q2 := Lib.frozen_of_heap oF 2
                go_simp
                refine hK.out _ _ (HH0.out _ (((hBG.setCell lgF.1 _).setCell lgF.1 _).setCell lgF.1 _)) (fun hH => ?_)
                clear hK K f0 f1 f2 q0 q1 q2
                try simp only [Act.put, List.getElem_toArray, List.getElem_cons_zero, List.getElem_cons_succ, List.setIfInBounds_toArray, List.set_cons_zero, List.set_cons_succ]
                refine wpAnyH_ready (rs := [15]) (by kernel_rfl) (by simp) ?_
                refine AllReadyH.cons rfl (fun K hK => ?_) AllReadyH.nil
                go_simp
                refine hK.out _ _ hH (fun hH => ?_)
                clear hK K
                try simp only [Act.put, List.getElem_toArray, List.getElem_cons_zero, List.getElem_cons_succ, List.setIfInBounds_toArray, List.set_cons_zero, List.set_cons_succ]
                refine wpAnyH_done (by kernel_rfl) ?_ _
                go_wp2_with fail
                go_meet
                exact ⟨rfl, hH⟩
            · go_simp
              have hbx : Below u1.heap.size u1 (u1.alloc (Obj.cells #[.int .i64 0, .slice none 0 0, .slice none 0 0] 46)) := (Below.refl _ _).alloc (Nat.le_refl _) _
              have rA := row_below rA hbx
              have oF := obj_new u1 (Obj.cells #[.int .i64 0, .slice none 0 0, .slice none 0 0] 46)
              have hBG := hBG.alloc hsz (Obj.cells #[.int .i64 0, .slice none 0 0, .slice none 0 0] 46)
              have lgF : z0 ≤ u1.heap.size ∧ u1.heap.size < (u1.alloc (Obj.cells #[.int .i64 0, .slice none 0 0, .slice none 0 0] 46)).heap.size := ⟨hsz, by simp⟩
              have kA : gA < (u1.alloc (Obj.cells #[.int .i64 0, .slice none 0 0, .slice none 0 0] 46)).heap.size := Nat.lt_trans kA lgF.2
              have hsz : z0 ≤ (u1.alloc (Obj.cells #[.int .i64 0, .slice none 0 0, .slice none 0 0] 46)).heap.size := Nat.le_trans hsz (Nat.le_of_lt lgF.2)
              refine hK.out _ _ (hH.step hbx) (fun hH => ?_)
              clear hK K hbx
              generalize u1.alloc (Obj.cells #[.int .i64 0, .slice none 0 0, .slice none 0 0] 46) = u46 at hH hBG hsz lgF rA oF kA ⊢
              generalize u1.heap.size = gF at lgF oF ⊢
              try simp only [Act.put, List.getElem_toArray, List.getElem_cons_zero, List.getElem_cons_succ, List.setIfInBounds_toArray, List.set_cons_zero, List.set_cons_succ]
              refine wpAnyH_ready (rs := [4, 7]) (by kernel_rfl) (by simp) ?_
              refine AllReadyH.cons rfl (fun K hK => ?_) (AllReadyH.cons rfl (fun K hK => ?_) AllReadyH.nil)
              · refine step_appK (by rfl) _ _ (by rfl) (by rfl) (by rfl) rA (by rfl) (slb_C hH.h5) (by omega) (by have := HLEN.out; simp; omega) (Nat.le_of_lt kA) ?_
                intro vB u47 rB hbx hkO hk5
                rw [List.nil_append] at rB
                have oF := obj_kept5 oF hk5 (by simp)
                have hBG := hBG.trans (hbx.mono lgA.1)
                have hsz := Nat.le_trans hsz hbx.size
                have kA : gA < u47.heap.size := Nat.lt_of_lt_of_le kA hbx.size
                obtain ⟨AB, cB, hvB⟩ := row_shape rB
                rw [HLEN.out] at hvB
                subst hvB
                refine hK.out _ _ (HH0.out _ hBG) (fun hH => ?_)
                clear hK K hbx hkO hk5
                try simp only [Act.put, List.getElem_toArray, List.getElem_cons_zero, List.getElem_cons_succ, List.setIfInBounds_toArray, List.set_cons_zero, List.set_cons_succ]
                refine wpAnyH_ready (rs := [7]) (by kernel_rfl) (by simp) ?_
                refine AllReadyH.cons rfl (fun K hK => ?_) AllReadyH.nil
                go_simp
                have hbx : Below u47.heap.size u47 (u47.alloc (Obj.cells #[.int .u8 x8] 5)) := (Below.refl _ _).alloc (Nat.le_refl _) _
                have rB := row_below rB hbx
                have oF := obj_below oF hbx
                have oC := obj_new u47 (Obj.cells #[.int .u8 x8] 5)
                have hBG := hBG.alloc hsz (Obj.cells #[.int .u8 x8] 5)
                have lgC : z0 ≤ u47.heap.size ∧ u47.heap.size < (u47.alloc (Obj.cells #[.int .u8 x8] 5)).heap.size := ⟨hsz, by simp⟩
                have nAC : gA ≠ u47.heap.size := Nat.ne_of_lt kA
                have kA : gA < (u47.alloc (Obj.cells #[.int .u8 x8] 5)).heap.size := Nat.lt_trans kA lgC.2
                have kC := lgC.2
                have hsz : z0 ≤ (u47.alloc (Obj.cells #[.int .u8 x8] 5)).heap.size := Nat.le_trans hsz (Nat.le_of_lt lgC.2)
                refine hK.out _ _ (hH.step hbx) (fun hH => ?_)
                clear hK K hbx
                generalize u47.alloc (Obj.cells #[.int .u8 x8] 5) = u48 at hH hBG hsz lgC rB oC oF kA kC ⊢
                generalize u47.heap.size = gC at lgC nAC kC oC ⊢
                try simp only [Act.put, List.getElem_toArray, List.getElem_cons_zero, List.getElem_cons_succ, List.setIfInBounds_toArray, List.set_cons_zero, List.set_cons_succ]
                refine wpAnyH_ready (rs := [8]) (by kernel_rfl) (by simp) ?_
                refine AllReadyH.cons rfl (fun K hK => ?_) AllReadyH.nil
                have hC1 : Kd.C (Kd.int .u8) u48 (some ⟨gC, 0, none⟩) 1 [x8] := C_obj oC
                refine step_app (by rfl) _ _ (by rfl) (by rfl) (by rfl) rB (by rfl) hC1 (by rw [HLEN.out]; simp; omega) (Nat.le_of_lt kA) ?_
                intro vD u49 rD hbx hk5
                have oF := obj_kept5 oF hk5 (by simp)
                have hBG := hBG.trans (hbx.mono lgA.1)
                have hsz := Nat.le_trans hsz hbx.size
                obtain ⟨AD, cD, hvD⟩ := row_shape rD
                have hl9 : ((featB lb1 vs1) ++ [x8]).length = M + 1 := by rw [List.length_append, HLEN.out]; rfl
                rw [hl9] at hvD
                subst hvD
                refine hK.out _ _ (HH0.out _ hBG) (fun hH => ?_)
                clear hK K hbx hk5 hC1
                try simp only [Act.put, List.getElem_toArray, List.getElem_cons_zero, List.getElem_cons_succ, List.setIfInBounds_toArray, List.set_cons_zero, List.set_cons_succ]
                refine wpAnyH_ready (rs := [9]) (by kernel_rfl) (by simp) ?_
                refine AllReadyH.cons rfl (fun K hK => ?_) AllReadyH.nil
                go_simp
                have h8 := slb_row rD (by rw [List.length_append, HLEN.out]; simp; omega)
                go_wp2_with (go_at_call 45; (with_reducible refine Calls.mono (HP3.out x8 hx0 hx1 _ _ h8) ?_); rintro _ u50 ⟨hbx, rfl⟩)
                have oF := obj_below oF hbx
                have hBG := hBG.trans (hbx.mono hsz)
                have hsz := Nat.le_trans hsz hbx.size
                refine hK.out _ _ (hH.step hbx) (fun hH => ?_)
                clear hK K hbx h8 rD
                try simp only [Act.put, List.getElem_toArray, List.getElem_cons_zero, List.getElem_cons_succ, List.setIfInBounds_toArray, List.set_cons_zero, List.set_cons_succ]
                refine wpAnyH_take (i := 10) (v := ?_) rfl (by kernel_rfl) (by kernel_rfl) (by kernel_rfl) (fun _ _ _ h => h) (Or.inl ⟨by rfl, ?_⟩) hH ?_
                rotate_left
                · intro w hSw
                  have g0 := hSw.y0
                  go_simp
                  try with_reducible rfl
                try simp only [Act.put, List.getElem_toArray, List.getElem_cons_zero, List.getElem_cons_succ, List.setIfInBounds_toArray, List.set_cons_zero, List.set_cons_succ]
                refine wpAnyH_take (i := 11) (v := ?_) rfl (by kernel_rfl) (by kernel_rfl) (by kernel_rfl) (fun _ _ _ h => h) (Or.inl ⟨by rfl, ?_⟩) hH ?_
                rotate_left
                · intro w hSw
                  have g0 := hSw.y0
                  go_simp
                  try with_reducible rfl
                try simp only [Act.put, List.getElem_toArray, List.getElem_cons_zero, List.getElem_cons_succ, List.setIfInBounds_toArray, List.set_cons_zero, List.set_cons_succ]
                refine wpAnyH_take (i := 12) (v := ?_) rfl (by kernel_rfl) (by kernel_rfl) (by kernel_rfl) (fun _ _ _ h => h) (Or.inl ⟨by rfl, ?_⟩) hH ?_
                rotate_left
                · intro w hSw
                  have g0 := hSw.y0
                  go_simp
                  try with_reducible rfl
                try simp only [Act.put, List.getElem_toArray, List.getElem_cons_zero, List.getElem_cons_succ, List.setIfInBounds_toArray, List.set_cons_zero, List.set_cons_succ]
                refine wpAnyH_ready (rs := [14]) (by kernel_rfl) (by simp) ?_
                refine AllReadyH.cons rfl (fun K hK => ?_) AllReadyH.nil
                have f0 := Lib.cell_of_heap oF 0
                have f1 := Lib.cell_of_heap oF 1
                have f2 := Lib.cell_of_heap oF 2
                simp only [List.getElem?_toArray, List.getElem?_cons_zero, List.getElem?_cons_succ] at f0 f1 f2
                have q0 := Lib.frozen_of_heap oF 0
                have q1 := Lib.frozen_of_heap oF 1
                have q2 := Lib.frozen_of_heap oF 2
                go_simp
                refine hK.out _ _ (HH0.out _ (((hBG.setCell lgF.1 _).setCell lgF.1 _).setCell lgF.1 _)) (fun hH => ?_)
                clear hK K f0 f1 f2 q0 q1 q2
                try simp only [Act.put, List.getElem_toArray, List.getElem_cons_zero, List.getElem_cons_succ, List.setIfInBounds_toArray, List.set_cons_zero, List.set_cons_succ]
                refine wpAnyH_ready (rs := [15]) (by kernel_rfl) (by simp) ?_
                refine AllReadyH.cons rfl (fun K hK => ?_) AllReadyH.nil
                go_simp
                refine hK.out _ _ hH (fun hH => ?_)
                clear hK K
                try simp only [Act.put, List.getElem_toArray, List.getElem_cons_zero, List.getElem_cons_succ, List.setIfInBounds_toArray, List.set_cons_zero, List.set_cons_succ]
                refine wpAnyH_done (by kernel_rfl) ?_ _
                go_wp2_with fail
                go_meet
                exact ⟨rfl, hH⟩
              · go_simp
                have hbx : Below u46.heap.size u46 (u46.alloc (Obj.cells #[.int .u8 x8] 5)) := (Below.refl _ _).alloc (Nat.le_refl _) _
                have rA := row_below rA hbx
                have oF := obj_below oF hbx
                have oC := obj_new u46 (Obj.cells #[.int .u8 x8] 5)
                have hBG := hBG.alloc hsz (Obj.cells #[.int .u8 x8] 5)
                have lgC : z0 ≤ u46.heap.size ∧ u46.heap.size < (u46.alloc (Obj.cells #[.int .u8 x8] 5)).heap.size := ⟨hsz, by simp⟩
                have nAC : gA ≠ u46.heap.size := Nat.ne_of_lt kA
                have kA : gA < (u46.alloc (Obj.cells #[.int .u8 x8] 5)).heap.size := Nat.lt_trans kA lgC.2
                have kC := lgC.2
                have hsz : z0 ≤ (u46.alloc (Obj.cells #[.int .u8 x8] 5)).heap.size := Nat.le_trans hsz (Nat.le_of_lt lgC.2)
                refine hK.out _ _ (hH.step hbx) (fun hH => ?_)
                clear hK K hbx
                generalize u46.alloc (Obj.cells #[.int .u8 x8] 5) = u53 at hH hBG hsz lgC rA oC oF kA kC ⊢
                generalize u46.heap.size = gC at lgC nAC kC oC ⊢
                try simp only [Act.put, List.getElem_toArray, List.getElem_cons_zero, List.getElem_cons_succ, List.setIfInBounds_toArray, List.set_cons_zero, List.set_cons_succ]
                refine wpAnyH_ready (rs := [4]) (by kernel_rfl) (by simp) ?_
                refine AllReadyH.cons rfl (fun K hK => ?_) AllReadyH.nil
                refine step_appK (by rfl) _ _ (by rfl) (by rfl) (by rfl) rA (by rfl) (slb_C hH.h5) (by omega) (by have := HLEN.out; simp; omega) (Nat.le_of_lt kA) ?_
                intro vB u54 rB hbx hkO hk5
                rw [List.nil_append] at rB
                have oC := obj_keptO oC hkO (by simp [Value.ownBlock]; first | exact nCA | exact fun h => nAC h.symm | omega)
                have oF := obj_kept5 oF hk5 (by simp)
                have hBG := hBG.trans (hbx.mono lgA.1)
                have hsz := Nat.le_trans hsz hbx.size
                have kA : gA < u54.heap.size := Nat.lt_of_lt_of_le kA hbx.size
                obtain ⟨AB, cB, hvB⟩ := row_shape rB
                rw [HLEN.out] at hvB
                subst hvB
                refine hK.out _ _ (HH0.out _ hBG) (fun hH => ?_)
                clear hK K hbx hkO hk5
                try simp only [Act.put, List.getElem_toArray, List.getElem_cons_zero, List.getElem_cons_succ, List.setIfInBounds_toArray, List.set_cons_zero, List.set_cons_succ]
                refine wpAnyH_ready (rs := [8]) (by kernel_rfl) (by simp) ?_
                refine AllReadyH.cons rfl (fun K hK => ?_) AllReadyH.nil
                have hC1 : Kd.C (Kd.int .u8) u54 (some ⟨gC, 0, none⟩) 1 [x8] := C_obj oC
                refine step_app (by rfl) _ _ (by rfl) (by rfl) (by rfl) rB (by rfl) hC1 (by rw [HLEN.out]; simp; omega) (Nat.le_of_lt kA) ?_
                intro vD u55 rD hbx hk5
                have oF := obj_kept5 oF hk5 (by simp)
                have hBG := hBG.trans (hbx.mono lgA.1)
                have hsz := Nat.le_trans hsz hbx.size
                obtain ⟨AD, cD, hvD⟩ := row_shape rD
                have hl9 : ((featB lb1 vs1) ++ [x8]).length = M + 1 := by rw [List.length_append, HLEN.out]; rfl
                rw [hl9] at hvD
                subst hvD
                refine hK.out _ _ (HH0.out _ hBG) (fun hH => ?_)
                clear hK K hbx hk5 hC1
                try simp only [Act.put, List.getElem_toArray, List.getElem_cons_zero, List.getElem_cons_succ, List.setIfInBounds_toArray, List.set_cons_zero, List.set_cons_succ]
                refine wpAnyH_ready (rs := [9]) (by kernel_rfl) (by simp) ?_
                refine AllReadyH.cons rfl (fun K hK => ?_) AllReadyH.nil
                go_simp
                have h8 := slb_row rD (by rw [List.length_append, HLEN.out]; simp; omega)
                go_wp2_with (go_at_call 45; (with_reducible refine Calls.mono (HP3.out x8 hx0 hx1 _ _ h8) ?_); rintro _ u56 ⟨hbx, rfl⟩)
                have oF := obj_below oF hbx
                have hBG := hBG.trans (hbx.mono hsz)
                have hsz := Nat.le_trans hsz hbx.size
                refine hK.out _ _ (hH.step hbx) (fun hH => ?_)
                clear hK K hbx h8 rD
                try simp only [Act.put, List.getElem_toArray, List.getElem_cons_zero, List.getElem_cons_succ, List.setIfInBounds_toArray, List.set_cons_zero, List.set_cons_succ]
                refine wpAnyH_take (i := 10) (v := ?_) rfl (by kernel_rfl) (by kernel_rfl) (by kernel_rfl) (fun _ _ _ h => h) (Or.inl ⟨by rfl, ?_⟩) hH ?_
                rotate_left
                · intro w hSw
                  have g0 := hSw.y0
                  go_simp
                  try with_reducible rfl
                try simp only [Act.put, List.getElem_toArray, List.getElem_cons_zero, List.getElem_cons_succ, List.setIfInBounds_toArray, List.set_cons_zero, List.set_cons_succ]
                refine wpAnyH_take (i := 11) (v := ?_) rfl (by kernel_rfl) (by kernel_rfl) (by kernel_rfl) (fun _ _ _ h => h) (Or.inl ⟨by rfl, ?_⟩) hH ?_
                rotate_left
                · intro w hSw
                  have g0 := hSw.y0
                  go_simp
                  try with_reducible rfl
                try simp only [Act.put, List.getElem_toArray, List.getElem_cons_zero, List.getElem_cons_succ, List.setIfInBounds_toArray, List.set_cons_zero, List.set_cons_succ]
                refine wpAnyH_take (i := 12) (v := ?_) rfl (by kernel_rfl) (by kernel_rfl) (by kernel_rfl) (fun _ _ _ h => h) (Or.inl ⟨by rfl, ?_⟩) hH ?_
                rotate_left
                · intro w hSw
                  have g0 := hSw.y0
                  go_simp
                  try with_reducible rfl
                try simp only [Act.put, List.getElem_toArray, List.getElem_cons_zero, List.getElem_cons_succ, List.setIfInBounds_toArray, List.set_cons_zero, List.set_cons_succ]
                refine wpAnyH_ready (rs := [14]) (by kernel_rfl) (by simp) ?_
                refine AllReadyH.cons rfl (fun K hK => ?_) AllReadyH.nil
                have f0 := Lib.cell_of_heap oF 0
                have f1 := Lib.cell_of_heap oF 1
                have f2 := Lib.cell_of_heap oF 2
                simp only [List.getElem?_toArray, List.getElem?_cons_zero, List.getElem?_cons_succ] at f0 f1 f2
                have q0 := Lib.frozen_of_heap oF 0
                have q1 := Lib.frozen_of_heap oF 1
                have q2 := Lib.frozen_of_heap oF 2
                go_simp
                refine hK.out _ _ (HH0.out _ (((hBG.setCell lgF.1 _).setCell lgF.1 _).setCell lgF.1 _)) (fun hH => ?_)
                clear hK K f0 f1 f2 q0 q1 q2
                try simp only [Act.put, List.getElem_toArray, List.getElem_cons_zero, List.getElem_cons_succ, List.setIfInBounds_toArray, List.set_cons_zero, List.set_cons_succ]
                refine wpAnyH_ready (rs := [15]) (by kernel_rfl) (by simp) ?_
                refine AllReadyH.cons rfl (fun K hK => ?_) AllReadyH.nil
                go_simp
                refine hK.out _ _ hH (fun hH => ?_)
                clear hK K
                try simp only [Act.put, List.getElem_toArray, List.getElem_cons_zero, List.getElem_cons_succ, List.setIfInBounds_toArray, List.set_cons_zero, List.set_cons_succ]
                refine wpAnyH_done (by kernel_rfl) ?_ _
                go_wp2_with fail
                go_meet
                exact ⟨rfl, hH⟩
          · go_simp
            have hbx : Below wr.heap.size wr (wr.alloc (Obj.cells #[.int .u8 x8] 5)) := (Below.refl _ _).alloc (Nat.le_refl _) _
            have oC := obj_new wr (Obj.cells #[.int .u8 x8] 5)
            have hBG := hBG.alloc hsz (Obj.cells #[.int .u8 x8] 5)
            have lgC : z0 ≤ wr.heap.size ∧ wr.heap.size < (wr.alloc (Obj.cells #[.int .u8 x8] 5)).heap.size := ⟨hsz, by simp⟩
            have kC := lgC.2
            have hsz : z0 ≤ (wr.alloc (Obj.cells #[.int .u8 x8] 5)).heap.size := Nat.le_trans hsz (Nat.le_of_lt lgC.2)
            refine hK.out _ _ (hH.step hbx) (fun hH => ?_)
            clear hK K hbx
            generalize wr.alloc (Obj.cells #[.int .u8 x8] 5) = u59 at hH hBG hsz lgC oC kC ⊢
            generalize wr.heap.size = gC at lgC kC oC ⊢
            try simp only [Act.put, List.getElem_toArray, List.getElem_cons_zero, List.getElem_cons_succ, List.setIfInBounds_toArray, List.set_cons_zero, List.set_cons_succ]
            refine wpAnyH_ready (rs := [2, 13]) (by kernel_rfl) (by simp) ?_
            refine AllReadyH.cons rfl (fun K hK => ?_) (AllReadyH.cons rfl (fun K hK => ?_) AllReadyH.nil)
            · go_simp
              have hbx : Below u59.heap.size u59 (u59.alloc (Obj.cells #[] 5)) := (Below.refl _ _).alloc (Nat.le_refl _) _
              have oC := obj_below oC hbx
              have rA : Row (u59.alloc (Obj.cells #[] 5)) u59.heap.size (.slice (some ⟨u59.heap.size, 0, none⟩) 0 0) [] := row_empty (Nat.le_refl _)
              have hBG := hBG.alloc hsz (Obj.cells #[] 5)
              have lgA : z0 ≤ u59.heap.size ∧ u59.heap.size < (u59.alloc (Obj.cells #[] 5)).heap.size := ⟨hsz, by simp⟩
              have nCA : gC ≠ u59.heap.size := Nat.ne_of_lt kC
              have kA := lgA.2
              have hsz : z0 ≤ (u59.alloc (Obj.cells #[] 5)).heap.size := Nat.le_trans hsz (Nat.le_of_lt lgA.2)
              refine hK.out _ _ (hH.step hbx) (fun hH => ?_)
              clear hK K hbx
              generalize u59.alloc (Obj.cells #[] 5) = u60 at hH hBG hsz lgA rA oC kA ⊢
              generalize u59.heap.size = gA at lgA nCA kA rA ⊢
              try simp only [Act.put, List.getElem_toArray, List.getElem_cons_zero, List.getElem_cons_succ, List.setIfInBounds_toArray, List.set_cons_zero, List.set_cons_succ]
              refine wpAnyH_ready (rs := [4, 13]) (by kernel_rfl) (by simp) ?_
              refine AllReadyH.cons rfl (fun K hK => ?_) (AllReadyH.cons rfl (fun K hK => ?_) AllReadyH.nil)
              · refine step_appK (by rfl) _ _ (by rfl) (by rfl) (by rfl) rA (by rfl) (slb_C hH.h5) (by omega) (by have := HLEN.out; simp; omega) (Nat.le_of_lt kA) ?_
                intro vB u61 rB hbx hkO hk5
                rw [List.nil_append] at rB
                have oC := obj_keptO oC hkO (by simp [Value.ownBlock]; first | exact nCA | exact fun h => nAC h.symm | omega)
                have hBG := hBG.trans (hbx.mono lgA.1)
                have hsz := Nat.le_trans hsz hbx.size
                have kA : gA < u61.heap.size := Nat.lt_of_lt_of_le kA hbx.size
                obtain ⟨AB, cB, hvB⟩ := row_shape rB
                rw [HLEN.out] at hvB
                subst hvB
                refine hK.out _ _ (HH0.out _ hBG) (fun hH => ?_)
                clear hK K hbx hkO hk5
                try simp only [Act.put, List.getElem_toArray, List.getElem_cons_zero, List.getElem_cons_succ, List.setIfInBounds_toArray, List.set_cons_zero, List.set_cons_succ]
                refine wpAnyH_ready (rs := [8, 13]) (by kernel_rfl) (by simp) ?_
                refine AllReadyH.cons rfl (fun K hK => ?_) (AllReadyH.cons rfl (fun K hK => ?_) AllReadyH.nil)
                · have hC1 : Kd.C (Kd.int .u8) u61 (some ⟨gC, 0, none⟩) 1 [x8] := C_obj oC
                  refine step_app (by rfl) _ _ (by rfl) (by rfl) (by rfl) rB (by rfl) hC1 (by rw [HLEN.out]; simp; omega) (Nat.le_of_lt kA) ?_
                  intro vD u62 rD hbx hk5
                  have hBG := hBG.trans (hbx.mono lgA.1)
                  have hsz := Nat.le_trans hsz hbx.size
                  obtain ⟨AD, cD, hvD⟩ := row_shape rD
                  have hl9 : ((featB lb1 vs1) ++ [x8]).length = M + 1 := by rw [List.length_append, HLEN.out]; rfl
                  rw [hl9] at hvD
                  subst hvD
                  refine hK.out _ _ (HH0.out _ hBG) (fun hH => ?_)
                  clear hK K hbx hk5 hC1
                  try simp only [Act.put, List.getElem_toArray, List.getElem_cons_zero, List.getElem_cons_succ, List.setIfInBounds_toArray, List.set_cons_zero, List.set_cons_succ]
                  refine wpAnyH_ready (rs := [9, 13]) (by kernel_rfl) (by simp) ?_
                  refine AllReadyH.cons rfl (fun K hK => ?_) (AllReadyH.cons rfl (fun K hK => ?_) AllReadyH.nil)
                  · go_simp
                    have h8 := slb_row rD (by rw [List.length_append, HLEN.out]; simp; omega)
                    go_wp2_with (go_at_call 45; (with_reducible refine Calls.mono (HP3.out x8 hx0 hx1 _ _ h8) ?_); rintro _ u63 ⟨hbx, rfl⟩)
                    have hBG := hBG.trans (hbx.mono hsz)
                    have hsz := Nat.le_trans hsz hbx.size
                    refine hK.out _ _ (hH.step hbx) (fun hH => ?_)
                    clear hK K hbx h8 rD
                    try simp only [Act.put, List.getElem_toArray, List.getElem_cons_zero, List.getElem_cons_succ, List.setIfInBounds_toArray, List.set_cons_zero, List.set_cons_succ]
                    refine wpAnyH_take (i := 10) (v := ?_) rfl (by kernel_rfl) (by kernel_rfl) (by kernel_rfl) (fun _ _ _ h => h) (Or.inl ⟨by rfl, ?_⟩) hH ?_
                    rotate_left
                    · intro w hSw
                      have g0 := hSw.y0
                      go_simp
                      try with_reducible rfl
                    try simp only [Act.put, List.getElem_toArray, List.getElem_cons_zero, List.getElem_cons_succ, List.setIfInBounds_toArray, List.set_cons_zero, List.set_cons_succ]
                    refine wpAnyH_take (i := 11) (v := ?_) rfl (by kernel_rfl) (by kernel_rfl) (by kernel_rfl) (fun _ _ _ h => h) (Or.inl ⟨by rfl, ?_⟩) hH ?_
                    rotate_left
                    · intro w hSw
                      have g0 := hSw.y0
                      go_simp
                      try with_reducible rfl
                    try simp only [Act.put, List.getElem_toArray, List.getElem_cons_zero, List.getElem_cons_succ, List.setIfInBounds_toArray, List.set_cons_zero, List.set_cons_succ]
                    refine wpAnyH_take (i := 12) (v := ?_) rfl (by kernel_rfl) (by kernel_rfl) (by kernel_rfl) (fun _ _ _ h => h) (Or.inl ⟨by rfl, ?_⟩) hH ?_
                    rotate_left
                    · intro w hSw
                      have g0 := hSw.y0
                      go_simp
                      try with_reducible rfl
                    try simp only [Act.put, List.getElem_toArray, List.getElem_cons_zero, List.getElem_cons_succ, List.setIfInBounds_toArray, List.set_cons_zero, List.set_cons_succ]
                    refine wpAnyH_ready (rs := [13]) (by kernel_rfl) (by simp) ?_
                    refine AllReadyH.cons rfl (fun K hK => ?_) AllReadyH.nil
                    go_simp
                    have hbx : Below u63.heap.size u63 (u63.alloc (Obj.cells #[.int .i64 0, .slice none 0 0, .slice none 0 0] 46)) := (Below.refl _ _).alloc (Nat.le_refl _) _
                    have oF := obj_new u63 (Obj.cells #[.int .i64 0, .slice none 0 0, .slice none 0 0] 46)
                    have hBG := hBG.alloc hsz (Obj.cells #[.int .i64 0, .slice none 0 0, .slice none 0 0] 46)
                    have lgF : z0 ≤ u63.heap.size ∧ u63.heap.size < (u63.alloc (Obj.cells #[.int .i64 0, .slice none 0 0, .slice none 0 0] 46)).heap.size := ⟨hsz, by simp⟩
                    have hsz : z0 ≤ (u63.alloc (Obj.cells #[.int .i64 0, .slice none 0 0, .slice none 0 0] 46)).heap.size := Nat.le_trans hsz (Nat.le_of_lt lgF.2)
                    refine hK.out _ _ (hH.step hbx) (fun hH => ?_)
                    clear hK K hbx
                    generalize u63.alloc (Obj.cells #[.int .i64 0, .slice none 0 0, .slice none 0 0] 46) = u64 at hH hBG hsz lgF oF ⊢
                    generalize u63.heap.size = gF at lgF oF ⊢
                    try simp only [Act.put, List.getElem_toArray, List.getElem_cons_zero, List.getElem_cons_succ, List.setIfInBounds_toArray, List.set_cons_zero, List.set_cons_succ]
                    refine wpAnyH_ready (rs := [14]) (by kernel_rfl) (by simp) ?_
                    refine AllReadyH.cons rfl (fun K hK => ?_) AllReadyH.nil
                    have f0 := Lib.cell_of_heap oF 0
                    have f1 := Lib.cell_of_heap oF 1
                    have f2 := Lib.cell_of_heap oF 2
                    simp only [List.getElem?_toArray, List.getElem?_cons_zero, List.getElem?_cons_succ] at f0 f1 f2
                    have q0 := Lib.frozen_of_heap oF 0
                    have q1 := Lib.frozen_of_heap oF 1
                    have q2 := Lib.frozen_of_heap oF 2
                    go_simp
                    refine hK.out _ _ (HH0.out _ (((hBG.setCell lgF.1 _).setCell lgF.1 _).setCell lgF.1 _)) (fun hH => ?_)
                    clear hK K f0 f1 f2 q0 q1 q2
                    try simp only [Act.put, List.getElem_toArray, List.getElem_cons_zero, List.getElem_cons_succ, List.setIfInBounds_toArray, List.set_cons_zero, List.set_cons_succ]
                    refine wpAnyH_ready (rs := [15]) (by kernel_rfl) (by simp) ?_
                    refine AllReadyH.cons rfl (fun K hK => ?_) AllReadyH.nil
                    go_simp
                    refine hK.out _ _ hH (fun hH => ?_)
                    clear hK K
                    try simp only [Act.put, List.getElem_toArray, List.getElem_cons_zero, List.getElem_cons_succ, List.setIfInBounds_toArray, List.set_cons_zero, List.set_cons_succ]
                    refine wpAnyH_done (by kernel_rfl) ?_ _
                    go_wp2_with fail
                    go_meet
                    exact ⟨rfl, hH⟩
                  · go_simp
                    have hbx : Below u62.heap.size u62 (u62.alloc (Obj.cells #[.int .i64 0, .slice none 0 0, .slice none 0 0] 46)) := (Below.refl _ _).alloc (Nat.le_refl _) _
                    have rD := row_below rD hbx
                    have oF := obj_new u62 (Obj.cells #[.int .i64 0, .slice none 0 0, .slice none 0 0] 46)
                    have hBG := hBG.alloc hsz (Obj.cells #[.int .i64 0, .slice none 0 0, .slice none 0 0] 46)
                    have lgF : z0 ≤ u62.heap.size ∧ u62.heap.size < (u62.alloc (Obj.cells #[.int .i64 0, .slice none 0 0, .slice none 0 0] 46)).heap.size := ⟨hsz, by simp⟩
                    have hsz : z0 ≤ (u62.alloc (Obj.cells #[.int .i64 0, .slice none 0 0, .slice none 0 0] 46)).heap.size := Nat.le_trans hsz (Nat.le_of_lt lgF.2)
                    refine hK.out _ _ (hH.step hbx) (fun hH => ?_)
                    clear hK K hbx
                    generalize u62.alloc (Obj.cells #[.int .i64 0, .slice none 0 0, .slice none 0 0] 46) = u67 at hH hBG hsz lgF rD oF ⊢
                    generalize u62.heap.size = gF at lgF oF ⊢
                    try simp only [Act.put, List.getElem_toArray, List.getElem_cons_zero, List.getElem_cons_succ, List.setIfInBounds_toArray, List.set_cons_zero, List.set_cons_succ]
                    refine wpAnyH_ready (rs := [9]) (by kernel_rfl) (by simp) ?_
                    refine AllReadyH.cons rfl (fun K hK => ?_) AllReadyH.nil
                    go_simp
                    have h8 := slb_row rD (by rw [List.length_append, HLEN.out]; simp; omega)
                    go_wp2_with (go_at_call 45; (with_reducible refine Calls.mono (HP3.out x8 hx0 hx1 _ _ h8) ?_); rintro _ u68 ⟨hbx, rfl⟩)
                    have oF := obj_below oF hbx
                    have hBG := hBG.trans (hbx.mono hsz)
                    have hsz := Nat.le_trans hsz hbx.size
                    refine hK.out _ _ (hH.step hbx) (fun hH => ?_)
                    clear hK K hbx h8 rD
                    try simp only [Act.put, List.getElem_toArray, List.getElem_cons_zero, List.getElem_cons_succ, List.setIfInBounds_toArray, List.set_cons_zero, List.set_cons_succ]
                    refine wpAnyH_take (i := 10) (v := ?_) rfl (by kernel_rfl) (by kernel_rfl) (by kernel_rfl) (fun _ _ _ h => h) (Or.inl ⟨by rfl, ?_⟩) hH ?_
                    rotate_left
                    · intro w hSw
                      have g0 := hSw.y0
                      go_simp
                      try with_reducible rfl
                    try simp only [Act.put, List.getElem_toArray, List.getElem_cons_zero, List.getElem_cons_succ, List.setIfInBounds_toArray, List.set_cons_zero, List.set_cons_succ]
                    refine wpAnyH_take (i := 11) (v := ?_) rfl (by kernel_rfl) (by kernel_rfl) (by kernel_rfl) (fun _ _ _ h => h) (Or.inl ⟨by rfl, ?_⟩) hH ?_
                    rotate_left
                    · intro w hSw
                      have g0 := hSw.y0
                      go_simp
                      try with_reducible rfl
                    try simp only [Act.put, List.getElem_toArray, List.getElem_cons_zero, List.getElem_cons_succ, List.setIfInBounds_toArray, List.set_cons_zero, List.set_cons_succ]
                    refine wpAnyH_take (i := 12) (v := ?_) rfl (by kernel_rfl) (by kernel_rfl) (by kernel_rfl) (fun _ _ _ h => h) (Or.inl ⟨by rfl, ?_⟩) hH ?_
                    rotate_left
                    · intro w hSw
                      have g0 := hSw.y0
                      go_simp
                      try with_reducible rfl
                    try simp only [Act.put, List.getElem_toArray, List.getElem_cons_zero, List.getElem_cons_succ, List.setIfInBounds_toArray, List.set_cons_zero, List.set_cons_succ]
                    refine wpAnyH_ready (rs := [14]) (by kernel_rfl) (by simp) ?_
                    refine AllReadyH.cons rfl (fun K hK => ?_) AllReadyH.nil
                    have f0 := Lib.cell_of_heap oF 0
                    have f1 := Lib.cell_of_heap oF 1
                    have f2 := Lib.cell_of_heap oF 2
                    simp only [List.getElem?_toArray, List.getElem?_cons_zero, List.getElem?_cons_succ] at f0 f1 f2
                    have q0 := Lib.frozen_of_heap oF 0
                    have q1 := Lib.frozen_of_heap oF 1
                    have q2 := Lib.frozen_of_heap oF 2
                    go_simp
                    refine hK.out _ _ (HH0.out _ (((hBG.setCell lgF.1 _).setCell lgF.1 _).setCell lgF.1 _)) (fun hH => ?_)
                    clear hK K f0 f1 f2 q0 q1 q2
                    try simp only [Act.put, List.getElem_toArray, List.getElem_cons_zero, List.getElem_cons_succ, List.setIfInBounds_toArray, List.set_cons_zero, List.set_cons_succ]
                    refine wpAnyH_ready (rs := [15]) (by kernel_rfl) (by simp) ?_
                    refine AllReadyH.cons rfl (fun K hK => ?_) AllReadyH.nil
                    go_simp
                    refine hK.out _ _ hH (fun hH => ?_)
                    clear hK K
                    try simp only [Act.put, List.getElem_toArray, List.getElem_cons_zero, List.getElem_cons_succ, List.setIfInBounds_toArray, List.set_cons_zero, List.set_cons_succ]
                    refine wpAnyH_done (by kernel_rfl) ?_ _
                    go_wp2_with fail
                    go_meet
                    exact ⟨rfl, hH⟩
                · go_simp
                  have hbx : Below u61.heap.size u61 (u61.alloc (Obj.cells #[.int .i64 0, .slice none 0 0, .slice none 0 0] 46)) := (Below.refl _ _).alloc (Nat.le_refl _) _
                  have rB := row_below rB hbx
                  have oC := obj_below oC hbx
                  have oF := obj_new u61 (Obj.cells #[.int .i64 0, .slice none 0 0, .slice none 0 0] 46)
                  have hBG := hBG.alloc hsz (Obj.cells #[.int .i64 0, .slice none 0 0, .slice none 0 0] 46)
                  have lgF : z0 ≤ u61.heap.size ∧ u61.heap.size < (u61.alloc (Obj.cells #[.int .i64 0, .slice none 0 0, .slice none 0 0] 46)).heap.size := ⟨hsz, by simp⟩
                  have kA : gA < (u61.alloc (Obj.cells #[.int .i64 0, .slice none 0 0, .slice none 0 0] 46)).heap.size := Nat.lt_trans kA lgF.2
                  have hsz : z0 ≤ (u61.alloc (Obj.cells #[.int .i64 0, .slice none 0 0, .slice none 0 0] 46)).heap.size := Nat.le_trans hsz (Nat.le_of_lt lgF.2)
                  refine hK.out _ _ (hH.step hbx) (fun hH => ?_)
                  clear hK K hbx
                  generalize u61.alloc (Obj.cells #[.int .i64 0, .slice none 0 0, .slice none 0 0] 46) = u71 at hH hBG hsz lgF rB oC oF kA ⊢
                  generalize u61.heap.size = gF at lgF oF ⊢
                  try simp only [Act.put, List.getElem_toArray, List.getElem_cons_zero, List.getElem_cons_succ, List.setIfInBounds_toArray, List.set_cons_zero, List.set_cons_succ]
                  refine wpAnyH_ready (rs := [8]) (by kernel_rfl) (by simp) ?_
                  refine AllReadyH.cons rfl (fun K hK => ?_) AllReadyH.nil
                  have hC1 : Kd.C (Kd.int .u8) u71 (some ⟨gC, 0, none⟩) 1 [x8] := C_obj oC
                  refine step_app (by rfl) _ _ (by rfl) (by rfl) (by rfl) rB (by rfl) hC1 (by rw [HLEN.out]; simp; omega) (Nat.le_of_lt kA) ?_
                  intro vD u72 rD hbx hk5
                  have oF := obj_kept5 oF hk5 (by simp)
                  have hBG := hBG.trans (hbx.mono lgA.1)
                  have hsz := Nat.le_trans hsz hbx.size
                  obtain ⟨AD, cD, hvD⟩ := row_shape rD
                  have hl9 : ((featB lb1 vs1) ++ [x8]).length = M + 1 := by rw [List.length_append, HLEN.out]; rfl
                  rw [hl9] at hvD
                  subst hvD
                  refine hK.out _ _ (HH0.out _ hBG) (fun hH => ?_)
                  clear hK K hbx hk5 hC1
                  try simp only [Act.put, List.getElem_toArray, List.getElem_cons_zero, List.getElem_cons_succ, List.setIfInBounds_toArray, List.set_cons_zero, List.set_cons_succ]
                  refine wpAnyH_ready (rs := [9]) (by kernel_rfl) (by simp) ?_
                  refine AllReadyH.cons rfl (fun K hK => ?_) AllReadyH.nil
                  go_simp
                  have h8 := slb_row rD (by rw [List.length_append, HLEN.out]; simp; omega)
                  go_wp2_with (go_at_call 45; (with_reducible refine Calls.mono (HP3.out x8 hx0 hx1 _ _ h8) ?_); rintro _ u73 ⟨hbx, rfl⟩)
                  have oF := obj_below oF hbx
                  have hBG := hBG.trans (hbx.mono hsz)
                  have hsz := Nat.le_trans hsz hbx.size
                  refine hK.out _ _ (hH.step hbx) (fun hH => ?_)
                  clear hK K hbx h8 rD
                  try simp only [Act.put, List.getElem_toArray, List.getElem_cons_zero, List.getElem_cons_succ, List.setIfInBounds_toArray, List.set_cons_zero, List.set_cons_succ]
                  refine wpAnyH_take (i := 10) (v := ?_) rfl (by kernel_rfl) (by kernel_rfl) (by kernel_rfl) (fun _ _ _ h => h) (Or.inl ⟨by rfl, ?_⟩) hH ?_
                  rotate_left
                  · intro w hSw
                    have g0 := hSw.y0
                    go_simp
                    try with_reducible rfl
                  try simp only [Act.put, List.getElem_toArray, List.getElem_cons_zero, List.getElem_cons_succ, List.setIfInBounds_toArray, List.set_cons_zero, List.set_cons_succ]
                  refine wpAnyH_take (i := 11) (v := ?_) rfl (by kernel_rfl) (by kernel_rfl) (by kernel_rfl) (fun _ _ _ h => h) (Or.inl ⟨by rfl, ?_⟩) hH ?_
                  rotate_left
                  · intro w hSw
                    have g0 := hSw.y0
                    go_simp
                    try with_reducible rfl
                  try simp only [Act.put, List.getElem_toArray, List.getElem_cons_zero, List.getElem_cons_succ, List.setIfInBounds_toArray, List.set_cons_zero, List.set_cons_succ]
                  refine wpAnyH_take (i := 12) (v := ?_) rfl (by kernel_rfl) (by kernel_rfl) (by kernel_rfl) (fun _ _ _ h => h) (Or.inl ⟨by rfl, ?_⟩) hH ?_
                  rotate_left
                  · intro w hSw
                    have g0 := hSw.y0
                    go_simp
                    try with_reducible rfl
                  try simp only [Act.put, List.getElem_toArray, List.getElem_cons_zero, List.getElem_cons_succ, List.setIfInBounds_toArray, List.set_cons_zero, List.set_cons_succ]
                  refine wpAnyH_ready (rs := [14]) (by kernel_rfl) (by simp) ?_
                  refine AllReadyH.cons rfl (fun K hK => ?_) AllReadyH.nil
                  have f0 := Lib.cell_of_heap oF 0
                  have f1 := Lib.cell_of_heap oF 1
                  have f2 := Lib.cell_of_heap oF 2
                  simp only [List.getElem?_toArray, List.getElem?_cons_zero, List.getElem?_cons_succ] at f0 f1 f2
                  have q0 := Lib.frozen_of_heap oF 0
                  have q1 := Lib.frozen_of_heap oF 1
                  have q2 := Lib.frozen_of_heap oF 2
                  go_simp
                  refine hK.out _ _ (HH0.out _ (((hBG.setCell lgF.1 _).setCell lgF.1 _).setCell lgF.1 _)) (fun hH => ?_)
                  clear hK K f0 f1 f2 q0 q1 q2
                  try simp only [Act.put, List.getElem_toArray, List.getElem_cons_zero, List.getElem_cons_succ, List.setIfInBounds_toArray, List.set_cons_zero, List.set_cons_succ]
                  refine wpAnyH_ready (rs := [15]) (by kernel_rfl) (by simp) ?_
                  refine AllReadyH.cons rfl (fun K hK => ?_) AllReadyH.nil
                  go_simp
                  refine hK.out _ _ hH (fun hH => ?_)
                  clear hK K
                  try simp only [Act.put, List.getElem_toArray, List.getElem_cons_zero, List.getElem_cons_succ, List.setIfInBounds_toArray, List.set_cons_zero, List.set_cons_succ]
                  refine wpAnyH_done (by kernel_rfl) ?_ _
                  go_wp2_with fail
                  go_meet
                  exact ⟨rfl, hH⟩
              · go_simp
                have hbx : Below u60.heap.size u60 (u60.alloc (Obj.cells #[.int .i64 0, .slice none 0 0, .slice none 0 0] 46)) := (Below.refl _ _).alloc (Nat.le_refl _) _
                have rA := row_below rA hbx
                have oC := obj_below oC hbx
                have oF := obj_new u60 (Obj.cells #[.int .i64 0, .slice none 0 0, .slice none 0 0] 46)
                have hBG := hBG.alloc hsz (Obj.cells #[.int .i64 0, .slice none 0 0, .slice none 0 0] 46)
                have lgF : z0 ≤ u60.heap.size ∧ u60.heap.size < (u60.alloc (Obj.cells #[.int .i64 0, .slice none 0 0, .slice none 0 0] 46)).heap.size := ⟨hsz, by simp⟩
                have kA : gA < (u60.alloc (Obj.cells #[.int .i64 0, .slice none 0 0, .slice none 0 0] 46)).heap.size := Nat.lt_trans kA lgF.2
                have hsz : z0 ≤ (u60.alloc (Obj.cells #[.int .i64 0, .slice none 0 0, .slice none 0 0] 46)).heap.size := Nat.le_trans hsz (Nat.le_of_lt lgF.2)
                refine hK.out _ _ (hH.step hbx) (fun hH => ?_)
                clear hK K hbx
                generalize u60.alloc (Obj.cells #[.int .i64 0, .slice none 0 0, .slice none 0 0] 46) = u76 at hH hBG hsz lgF rA oC oF kA ⊢
                generalize u60.heap.size = gF at lgF oF ⊢
                try simp only [Act.put, List.getElem_toArray, List.getElem_cons_zero, List.getElem_cons_succ, List.setIfInBounds_toArray, List.set_cons_zero, List.set_cons_succ]
                refine wpAnyH_ready (rs := [4]) (by kernel_rfl) (by simp) ?_
                refine AllReadyH.cons rfl (fun K hK => ?_) AllReadyH.nil
                refine step_appK (by rfl) _ _ (by rfl) (by rfl) (by rfl) rA (by rfl) (slb_C hH.h5) (by omega) (by have := HLEN.out; simp; omega) (Nat.le_of_lt kA) ?_
                intro vB u77 rB hbx hkO hk5
                rw [List.nil_append] at rB
                have oC := obj_keptO oC hkO (by simp [Value.ownBlock]; first | exact nCA | exact fun h => nAC h.symm | omega)
                have oF := obj_kept5 oF hk5 (by simp)
                have hBG := hBG.trans (hbx.mono lgA.1)
                have hsz := Nat.le_trans hsz hbx.size
                have kA : gA < u77.heap.size := Nat.lt_of_lt_of_le kA hbx.size
                obtain ⟨AB, cB, hvB⟩ := row_shape rB
                rw [HLEN.out] at hvB
                subst hvB
                refine hK.out _ _ (HH0.out _ hBG) (fun hH => ?_)
                clear hK K hbx hkO hk5
                try simp only [Act.put, List.getElem_toArray, List.getElem_cons_zero, List.getElem_cons_succ, List.setIfInBounds_toArray, List.set_cons_zero, List.set_cons_succ]
                refine wpAnyH_ready (rs := [8]) (by kernel_rfl) (by simp) ?_
                refine AllReadyH.cons rfl (fun K hK => ?_) AllReadyH.nil
                have hC1 : Kd.C (Kd.int .u8) u77 (some ⟨gC, 0, none⟩) 1 [x8] := C_obj oC
                refine step_app (by rfl) _ _ (by rfl) (by rfl) (by rfl) rB (by rfl) hC1 (by rw [HLEN.out]; simp; omega) (Nat.le_of_lt kA) ?_
                intro vD u78 rD hbx hk5
                have oF := obj_kept5 oF hk5 (by simp)
                have hBG := hBG.trans (hbx.mono lgA.1)
                have hsz := Nat.le_trans hsz hbx.size
                obtain ⟨AD, cD, hvD⟩ := row_shape rD
                have hl9 : ((featB lb1 vs1) ++ [x8]).length = M + 1 := by rw [List.length_append, HLEN.out]; rfl
                rw [hl9] at hvD
                subst hvD
                refine hK.out _ _ (HH0.out _ hBG) (fun hH => ?_)
                clear hK K hbx hk5 hC1
                try simp only [Act.put, List.getElem_toArray, List.getElem_cons_zero, List.getElem_cons_succ, List.setIfInBounds_toArray, List.set_cons_zero, List.set_cons_succ]
                refine wpAnyH_ready (rs := [9]) (by kernel_rfl) (by simp) ?_
                refine AllReadyH.cons rfl (fun K hK => ?_) AllReadyH.nil
                go_simp
                have h8 := slb_row rD (by rw [List.length_append, HLEN.out]; simp; omega)
                go_wp2_with (go_at_call 45; (with_reducible refine Calls.mono (HP3.out x8 hx0 hx1 _ _ h8) ?_); rintro _ u79 ⟨hbx, rfl⟩)
                have oF := obj_below oF hbx
                have hBG := hBG.trans (hbx.mono hsz)
                have hsz := Nat.le_trans hsz hbx.size
                refine hK.out _ _ (hH.step hbx) (fun hH => ?_)
                clear hK K hbx h8 rD
                try simp only [Act.put, List.getElem_toArray, List.getElem_cons_zero, List.getElem_cons_succ, List.setIfInBounds_toArray, List.set_cons_zero, List.set_cons_succ]
                refine wpAnyH_take (i := 10) (v := ?_) rfl (by kernel_rfl) (by kernel_rfl) (by kernel_rfl) (fun _ _ _ h => h) (Or.inl ⟨by rfl, ?_⟩) hH ?_
                rotate_left
                · intro w hSw
                  have g0 := hSw.y0
                  go_simp
                  try with_reducible rfl
                try simp only [Act.put, List.getElem_toArray, List.getElem_cons_zero, List.getElem_cons_succ, List.setIfInBounds_toArray, List.set_cons_zero, List.set_cons_succ]
                refine wpAnyH_take (i := 11) (v := ?_) rfl (by kernel_rfl) (by kernel_rfl) (by kernel_rfl) (fun _ _ _ h => h) (Or.inl ⟨by rfl, ?_⟩) hH ?_
                rotate_left
                · intro w hSw
                  have g0 := hSw.y0
                  go_simp
                  try with_reducible rfl
                try simp only [Act.put, List.getElem_toArray, List.getElem_cons_zero, List.getElem_cons_succ, List.setIfInBounds_toArray, List.set_cons_zero, List.set_cons_succ]
                refine wpAnyH_take (i := 12) (v := ?_) rfl (by kernel_rfl) (by kernel_rfl) (by kernel_rfl) (fun _ _ _ h => h) (Or.inl ⟨by rfl, ?_⟩) hH ?_
                rotate_left
                · intro w hSw
                  have g0 := hSw.y0
                  go_simp
                  try with_reducible rfl
                try simp only [Act.put, List.getElem_toArray, List.getElem_cons_zero, List.getElem_cons_succ, List.setIfInBounds_toArray, List.set_cons_zero, List.set_cons_succ]
                refine wpAnyH_ready (rs := [14]) (by kernel_rfl) (by simp) ?_
                refine AllReadyH.cons rfl (fun K hK => ?_) AllReadyH.nil
                have f0 := Lib.cell_of_heap oF 0
                have f1 := Lib.cell_of_heap oF 1
                have f2 := Lib.cell_of_heap oF 2
                simp only [List.getElem?_toArray, List.getElem?_cons_zero, List.getElem?_cons_succ] at f0 f1 f2
                have q0 := Lib.frozen_of_heap oF 0
                have q1 := Lib.frozen_of_heap oF 1
                have q2 := Lib.frozen_of_heap oF 2
                go_simp
                refine hK.out _ _ (HH0.out _ (((hBG.setCell lgF.1 _).setCell lgF.1 _).setCell lgF.1 _)) (fun hH => ?_)
                clear hK K f0 f1 f2 q0 q1 q2
                try simp only [Act.put, List.getElem_toArray, List.getElem_cons_zero, List.getElem_cons_succ, List.setIfInBounds_toArray, List.set_cons_zero, List.set_cons_succ]
                refine wpAnyH_ready (rs := [15]) (by kernel_rfl) (by simp) ?_
                refine AllReadyH.cons rfl (fun K hK => ?_) AllReadyH.nil
                go_simp
                refine hK.out _ _ hH (fun hH => ?_)
                clear hK K
                try simp only [Act.put, List.getElem_toArray, List.getElem_cons_zero, List.getElem_cons_succ, List.setIfInBounds_toArray, List.set_cons_zero, List.set_cons_succ]
                refine wpAnyH_done (by kernel_rfl) ?_ _
                go_wp2_with fail
                go_meet
                exact ⟨rfl, hH⟩
            · go_simp
              have hbx : Below u59.heap.size u59 (u59.alloc (Obj.cells #[.int .i64 0, .slice none 0 0, .slice none 0 0] 46)) := (Below.refl _ _).alloc (Nat.le_refl _) _
              have oC := obj_below oC hbx
              have oF := obj_new u59 (Obj.cells #[.int .i64 0, .slice none 0 0, .slice none 0 0] 46)
              have hBG := hBG.alloc hsz (Obj.cells #[.int .i64 0, .slice none 0 0, .slice none 0 0] 46)
              have lgF : z0 ≤ u59.heap.size ∧ u59.heap.size < (u59.alloc (Obj.cells #[.int .i64 0, .slice none 0 0, .slice none 0 0] 46)).heap.size := ⟨hsz, by simp⟩
              have kC : gC < (u59.alloc (Obj.cells #[.int .i64 0, .slice none 0 0, .slice none 0 0] 46)).heap.size := Nat.lt_trans kC lgF.2
              have hsz : z0 ≤ (u59.alloc (Obj.cells #[.int .i64 0, .slice none 0 0, .slice none 0 0] 46)).heap.size := Nat.le_trans hsz (Nat.le_of_lt lgF.2)
              refine hK.out _ _ (hH.step hbx) (fun hH => ?_)
              clear hK K hbx
              generalize u59.alloc (Obj.cells #[.int .i64 0, .slice none 0 0, .slice none 0 0] 46) = u82 at hH hBG hsz lgF oC oF kC ⊢
              generalize u59.heap.size = gF at lgF oF ⊢
              try simp only [Act.put, List.getElem_toArray, List.getElem_cons_zero, List.getElem_cons_succ, List.setIfInBounds_toArray, List.set_cons_zero, List.set_cons_succ]
              refine wpAnyH_ready (rs := [2]) (by kernel_rfl) (by simp) ?_
              refine AllReadyH.cons rfl (fun K hK => ?_) AllReadyH.nil
              go_simp
              have hbx : Below u82.heap.size u82 (u82.alloc (Obj.cells #[] 5)) := (Below.refl _ _).alloc (Nat.le_refl _) _
              have oC := obj_below oC hbx
              have oF := obj_below oF hbx
              have rA : Row (u82.alloc (Obj.cells #[] 5)) u82.heap.size (.slice (some ⟨u82.heap.size, 0, none⟩) 0 0) [] := row_empty (Nat.le_refl _)
              have hBG := hBG.alloc hsz (Obj.cells #[] 5)
              have lgA : z0 ≤ u82.heap.size ∧ u82.heap.size < (u82.alloc (Obj.cells #[] 5)).heap.size := ⟨hsz, by simp⟩
              have nCA : gC ≠ u82.heap.size := Nat.ne_of_lt kC
              have kA := lgA.2
              have hsz : z0 ≤ (u82.alloc (Obj.cells #[] 5)).heap.size := Nat.le_trans hsz (Nat.le_of_lt lgA.2)
              refine hK.out _ _ (hH.step hbx) (fun hH => ?_)
              clear hK K hbx
              generalize u82.alloc (Obj.cells #[] 5) = u83 at hH hBG hsz lgA rA oC oF kA ⊢
              generalize u82.heap.size = gA at lgA nCA kA rA ⊢
              try simp only [Act.put, List.getElem_toArray, List.getElem_cons_zero, List.getElem_cons_succ, List.setIfInBounds_toArray, List.set_cons_zero, List.set_cons_succ]
              refine wpAnyH_ready (rs := [4]) (by kernel_rfl) (by simp) ?_
              refine AllReadyH.cons rfl (fun K hK => ?_) AllReadyH.nil
              refine step_appK (by rfl) _ _ (by rfl) (by rfl) (by rfl) rA (by rfl) (slb_C hH.h5) (by omega) (by have := HLEN.out; simp; omega) (Nat.le_of_lt kA) ?_
              intro vB u84 rB hbx hkO hk5
              rw [List.nil_append] at rB
              have oC := obj_keptO oC hkO (by simp [Value.ownBlock]; first | exact nCA | exact fun h => nAC h.symm | omega)
              have oF := obj_kept5 oF hk5 (by simp)
              have hBG := hBG.trans (hbx.mono lgA.1)
              have hsz := Nat.le_trans hsz hbx.size
              have kA : gA < u84.heap.size := Nat.lt_of_lt_of_le kA hbx.size
              obtain ⟨AB, cB, hvB⟩ := row_shape rB
              rw [HLEN.out] at hvB
              subst hvB
              refine hK.out _ _ (HH0.out _ hBG) (fun hH => ?_)
              clear hK K hbx hkO hk5
              try simp only [Act.put, List.getElem_toArray, List.getElem_cons_zero, List.getElem_cons_succ, List.setIfInBounds_toArray, List.set_cons_zero, List.set_cons_succ]
              refine wpAnyH_ready (rs := [8]) (by kernel_rfl) (by simp) ?_
              refine AllReadyH.cons rfl (fun K hK => ?_) AllReadyH.nil
              have hC1 : Kd.C (Kd.int .u8) u84 (some ⟨gC, 0, none⟩) 1 [x8] := C_obj oC
              refine step_app (by rfl) _ _ (by rfl) (by rfl) (by rfl) rB (by rfl) hC1 (by rw [HLEN.out]; simp; omega) (Nat.le_of_lt kA) ?_
              intro vD u85 rD hbx hk5
              have oF := obj_kept5 oF hk5 (by simp)
              have hBG := hBG.trans (hbx.mono lgA.1)
              have hsz := Nat.le_trans hsz hbx.size
              obtain ⟨AD, cD, hvD⟩ := row_shape rD
              have hl9 : ((featB lb1 vs1) ++ [x8]).length = M + 1 := by rw [List.length_append, HLEN.out]; rfl
              rw [hl9] at hvD
              subst hvD
              refine hK.out _ _ (HH0.out _ hBG) (fun hH => ?_)
              clear hK K hbx hk5 hC1
              try simp only [Act.put, List.getElem_toArray, List.getElem_cons_zero, List.getElem_cons_succ, List.setIfInBounds_toArray, List.set_cons_zero, List.set_cons_succ]
              refine wpAnyH_ready (rs := [9]) (by kernel_rfl) (by simp) ?_
              refine AllReadyH.cons rfl (fun K hK => ?_) AllReadyH.nil
              go_simp
              have h8 := slb_row rD (by rw [List.length_append, HLEN.out]; simp; omega)
              go_wp2_with (go_at_call 45; (with_reducible refine Calls.mono (HP3.out x8 hx0 hx1 _ _ h8) ?_); rintro _ u86 ⟨hbx, rfl⟩)
              have oF := obj_below oF hbx
              have hBG := hBG.trans (hbx.mono hsz)
              have hsz := Nat.le_trans hsz hbx.size
              refine hK.out _ _ (hH.step hbx) (fun hH => ?_)
              clear hK K hbx h8 rD
              try simp only [Act.put, List.getElem_toArray, List.getElem_cons_zero, List.getElem_cons_succ, List.setIfInBounds_toArray, List.set_cons_zero, List.set_cons_succ]
              refine wpAnyH_take (i := 10) (v := ?_) rfl (by kernel_rfl) (by kernel_rfl) (by kernel_rfl) (fun _ _ _ h => h) (Or.inl ⟨by rfl, ?_⟩) hH ?_
              rotate_left
              · intro w hSw
                have g0 := hSw.y0
                go_simp
                try with_reducible rfl
              try simp only [Act.put, List.getElem_toArray, List.getElem_cons_zero, List.getElem_cons_succ, List.setIfInBounds_toArray, List.set_cons_zero, List.set_cons_succ]
              refine wpAnyH_take (i := 11) (v := ?_) rfl (by kernel_rfl) (by kernel_rfl) (by kernel_rfl) (fun _ _ _ h => h) (Or.inl ⟨by rfl, ?_⟩) hH ?_
              rotate_left
              · intro w hSw
                have g0 := hSw.y0
                go_simp
                try with_reducible rfl
              try simp only [Act.put, List.getElem_toArray, List.getElem_cons_zero, List.getElem_cons_succ, List.setIfInBounds_toArray, List.set_cons_zero, List.set_cons_succ]
              refine wpAnyH_take (i := 12) (v := ?_) rfl (by kernel_rfl) (by kernel_rfl) (by kernel_rfl) (fun _ _ _ h => h) (Or.inl ⟨by rfl, ?_⟩) hH ?_
              rotate_left
              · intro w hSw
                have g0 := hSw.y0
                go_simp
                try with_reducible rfl
              try simp only [Act.put, List.getElem_toArray, List.getElem_cons_zero, List.getElem_cons_succ, List.setIfInBounds_toArray, List.set_cons_zero, List.set_cons_succ]
              refine wpAnyH_ready (rs := [14]) (by kernel_rfl) (by simp) ?_
              refine AllReadyH.cons rfl (fun K hK => ?_) AllReadyH.nil
              have f0 := Lib.cell_of_heap oF 0
              have f1 := Lib.cell_of_heap oF 1
              have f2 := Lib.cell_of_heap oF 2
              simp only [List.getElem?_toArray, List.getElem?_cons_zero, List.getElem?_cons_succ] at f0 f1 f2
              have q0 := Lib.frozen_of_heap oF 0
              have q1 := Lib.frozen_of_heap oF 1
              have q2 := Lib.frozen_of_heap oF 2
              go_simp
              refine hK.out _ _ (HH0.out _ (((hBG.setCell lgF.1 _).setCell lgF.1 _).setCell lgF.1 _)) (fun hH => ?_)
              clear hK K f0 f1 f2 q0 q1 q2
              try simp only [Act.put, List.getElem_toArray, List.getElem_cons_zero, List.getElem_cons_succ, List.setIfInBounds_toArray, List.set_cons_zero, List.set_cons_succ]
              refine wpAnyH_ready (rs := [15]) (by kernel_rfl) (by simp) ?_
              refine AllReadyH.cons rfl (fun K hK => ?_) AllReadyH.nil
              go_simp
              refine hK.out _ _ hH (fun hH => ?_)
              clear hK K
              try simp only [Act.put, List.getElem_toArray, List.getElem_cons_zero, List.getElem_cons_succ, List.setIfInBounds_toArray, List.set_cons_zero, List.set_cons_succ]
              refine wpAnyH_done (by kernel_rfl) ?_ _
              go_wp2_with fail
              go_meet
              exact ⟨rfl, hH⟩
          · go_simp
            have hbx : Below wr.heap.size wr (wr.alloc (Obj.cells #[.int .i64 0, .slice none 0 0, .slice none 0 0] 46)) := (Below.refl _ _).alloc (Nat.le_refl _) _
            have oF := obj_new wr (Obj.cells #[.int .i64 0, .slice none 0 0, .slice none 0 0] 46)
            have hBG := hBG.alloc hsz (Obj.cells #[.int .i64 0, .slice none 0 0, .slice none 0 0] 46)
            have lgF : z0 ≤ wr.heap.size ∧ wr.heap.size < (wr.alloc (Obj.cells #[.int .i64 0, .slice none 0 0, .slice none 0 0] 46)).heap.size := ⟨hsz, by simp⟩
            have hsz : z0 ≤ (wr.alloc (Obj.cells #[.int .i64 0, .slice none 0 0, .slice none 0 0] 46)).heap.size := Nat.le_trans hsz (Nat.le_of_lt lgF.2)
            refine hK.out _ _ (hH.step hbx) (fun hH => ?_)
            clear hK K hbx
            generalize wr.alloc (Obj.cells #[.int .i64 0, .slice none 0 0, .slice none 0 0] 46) = u89 at hH hBG hsz lgF oF ⊢
            generalize wr.heap.size = gF at lgF oF ⊢
            try simp only [Act.put, List.getElem_toArray, List.getElem_cons_zero, List.getElem_cons_succ, List.setIfInBounds_toArray, List.set_cons_zero, List.set_cons_succ]
            refine wpAnyH_ready (rs := [2, 7]) (by kernel_rfl) (by simp) ?_
            refine AllReadyH.cons rfl (fun K hK => ?_) (AllReadyH.cons rfl (fun K hK => ?_) AllReadyH.nil)
            · go_simp
              have hbx : Below u89.heap.size u89 (u89.alloc (Obj.cells #[] 5)) := (Below.refl _ _).alloc (Nat.le_refl _) _
              have oF := obj_below oF hbx
              have rA : Row (u89.alloc (Obj.cells #[] 5)) u89.heap.size (.slice (some ⟨u89.heap.size, 0, none⟩) 0 0) [] := row_empty (Nat.le_refl _)
              have hBG := hBG.alloc hsz (Obj.cells #[] 5)
              have lgA : z0 ≤ u89.heap.size ∧ u89.heap.size < (u89.alloc (Obj.cells #[] 5)).heap.size := ⟨hsz, by simp⟩
              have kA := lgA.2
              have hsz : z0 ≤ (u89.alloc (Obj.cells #[] 5)).heap.size := Nat.le_trans hsz (Nat.le_of_lt lgA.2)
              refine hK.out _ _ (hH.step hbx) (fun hH => ?_)
              clear hK K hbx
              generalize u89.alloc (Obj.cells #[] 5) = u90 at hH hBG hsz lgA rA oF kA ⊢
              generalize u89.heap.size = gA at lgA kA rA ⊢
              try simp only [Act.put, List.getElem_toArray, List.getElem_cons_zero, List.getElem_cons_succ, List.setIfInBounds_toArray, List.set_cons_zero, List.set_cons_succ]
              refine wpAnyH_ready (rs := [4, 7]) (by kernel_rfl) (by simp) ?_
              refine AllReadyH.cons rfl (fun K hK => ?_) (AllReadyH.cons rfl (fun K hK => ?_) AllReadyH.nil)
              · refine step_appK (by rfl) _ _ (by rfl) (by rfl) (by rfl) rA (by rfl) (slb_C hH.h5) (by omega) (by have := HLEN.out; simp; omega) (Nat.le_of_lt kA) ?_
                intro vB u91 rB hbx hkO hk5
                rw [List.nil_append] at rB
                have oF := obj_kept5 oF hk5 (by simp)
                have hBG := hBG.trans (hbx.mono lgA.1)
                have hsz := Nat.le_trans hsz hbx.size
                have kA : gA < u91.heap.size := Nat.lt_of_lt_of_le kA hbx.size
                obtain ⟨AB, cB, hvB⟩ := row_shape rB
                rw [HLEN.out] at hvB
                subst hvB
                refine hK.out _ _ (HH0.out _ hBG) (fun hH => ?_)
                clear hK K hbx hkO hk5
                try simp only [Act.put, List.getElem_toArray, List.getElem_cons_zero, List.getElem_cons_succ, List.setIfInBounds_toArray, List.set_cons_zero, List.set_cons_succ]
                refine wpAnyH_ready (rs := [7]) (by kernel_rfl) (by simp) ?_
                refine AllReadyH.cons rfl (fun K hK => ?_) AllReadyH.nil
                go_simp
                have hbx : Below u91.heap.size u91 (u91.alloc (Obj.cells #[.int .u8 x8] 5)) := (Below.refl _ _).alloc (Nat.le_refl _) _
                have rB := row_below rB hbx
                have oF := obj_below oF hbx
                have oC := obj_new u91 (Obj.cells #[.int .u8 x8] 5)
                have hBG := hBG.alloc hsz (Obj.cells #[.int .u8 x8] 5)
                have lgC : z0 ≤ u91.heap.size ∧ u91.heap.size < (u91.alloc (Obj.cells #[.int .u8 x8] 5)).heap.size := ⟨hsz, by simp⟩
                have nAC : gA ≠ u91.heap.size := Nat.ne_of_lt kA
                have kA : gA < (u91.alloc (Obj.cells #[.int .u8 x8] 5)).heap.size := Nat.lt_trans kA lgC.2
                have kC := lgC.2
                have hsz : z0 ≤ (u91.alloc (Obj.cells #[.int .u8 x8] 5)).heap.size := Nat.le_trans hsz (Nat.le_of_lt lgC.2)
                refine hK.out _ _ (hH.step hbx) (fun hH => ?_)
                clear hK K hbx
                generalize u91.alloc (Obj.cells #[.int .u8 x8] 5) = u92 at hH hBG hsz lgC rB oC oF kA kC ⊢
                generalize u91.heap.size = gC at lgC nAC kC oC ⊢
                try simp only [Act.put, List.getElem_toArray, List.getElem_cons_zero, List.getElem_cons_succ, List.setIfInBounds_toArray, List.set_cons_zero, List.set_cons_succ]
                refine wpAnyH_ready (rs := [8]) (by kernel_rfl) (by simp) ?_
                refine AllReadyH.cons rfl (fun K hK => ?_) AllReadyH.nil
                have hC1 : Kd.C (Kd.int .u8) u92 (some ⟨gC, 0, none⟩) 1 [x8] := C_obj oC
                refine step_app (by rfl) _ _ (by rfl) (by rfl) (by rfl) rB (by rfl) hC1 (by rw [HLEN.out]; simp; omega) (Nat.le_of_lt kA) ?_
                intro vD u93 rD hbx hk5
                have oF := obj_kept5 oF hk5 (by simp)
                have hBG := hBG.trans (hbx.mono lgA.1)
                have hsz := Nat.le_trans hsz hbx.size
                obtain ⟨AD, cD, hvD⟩ := row_shape rD
                have hl9 : ((featB lb1 vs1) ++ [x8]).length = M + 1 := by rw [List.length_append, HLEN.out]; rfl
                rw [hl9] at hvD
                subst hvD
                refine hK.out _ _ (HH0.out _ hBG) (fun hH => ?_)
                clear hK K hbx hk5 hC1
                try simp only [Act.put, List.getElem_toArray, List.getElem_cons_zero, List.getElem_cons_succ, List.setIfInBounds_toArray, List.set_cons_zero, List.set_cons_succ]
                refine wpAnyH_ready (rs := [9]) (by kernel_rfl) (by simp) ?_
                refine AllReadyH.cons rfl (fun K hK => ?_) AllReadyH.nil
                go_simp
                have h8 := slb_row rD (by rw [List.length_append, HLEN.out]; simp; omega)
                go_wp2_with (go_at_call 45; (with_reducible refine Calls.mono (HP3.out x8 hx0 hx1 _ _ h8) ?_); rintro _ u94 ⟨hbx, rfl⟩)
                have oF := obj_below oF hbx
                have hBG := hBG.trans (hbx.mono hsz)
                have hsz := Nat.le_trans hsz hbx.size
                refine hK.out _ _ (hH.step hbx) (fun hH => ?_)
                clear hK K hbx h8 rD
                try simp only [Act.put, List.getElem_toArray, List.getElem_cons_zero, List.getElem_cons_succ, List.setIfInBounds_toArray, List.set_cons_zero, List.set_cons_succ]
                refine wpAnyH_take (i := 10) (v := ?_) rfl (by kernel_rfl) (by kernel_rfl) (by kernel_rfl) (fun _ _ _ h => h) (Or.inl ⟨by rfl, ?_⟩) hH ?_
                rotate_left
                · intro w hSw
                  have g0 := hSw.y0
                  go_simp
                  try with_reducible rfl
                try simp only [Act.put, List.getElem_toArray, List.getElem_cons_zero, List.getElem_cons_succ, List.setIfInBounds_toArray, List.set_cons_zero, List.set_cons_succ]
                refine wpAnyH_take (i := 11) (v := ?_) rfl (by kernel_rfl) (by kernel_rfl) (by kernel_rfl) (fun _ _ _ h => h) (Or.inl ⟨by rfl, ?_⟩) hH ?_
                rotate_left
                · intro w hSw
                  have g0 := hSw.y0
                  go_simp
                  try with_reducible rfl
                try simp only [Act.put, List.getElem_toArray, List.getElem_cons_zero, List.getElem_cons_succ, List.setIfInBounds_toArray, List.set_cons_zero, List.set_cons_succ]
                refine wpAnyH_take (i := 12) (v := ?_) rfl (by kernel_rfl) (by kernel_rfl) (by kernel_rfl) (fun _ _ _ h => h) (Or.inl ⟨by rfl, ?_⟩) hH ?_
                rotate_left
                · intro w hSw
                  have g0 := hSw.y0
                  go_simp
                  try with_reducible rfl
                try simp only [Act.put, List.getElem_toArray, List.getElem_cons_zero, List.getElem_cons_succ, List.setIfInBounds_toArray, List.set_cons_zero, List.set_cons_succ]
                refine wpAnyH_ready (rs := [14]) (by kernel_rfl) (by simp) ?_
                refine AllReadyH.cons rfl (fun K hK => ?_) AllReadyH.nil
                have f0 := Lib.cell_of_heap oF 0
                have f1 := Lib.cell_of_heap oF 1
                have f2 := Lib.cell_of_heap oF 2
                simp only [List.getElem?_toArray, List.getElem?_cons_zero, List.getElem?_cons_succ] at f0 f1 f2
                have q0 := Lib.frozen_of_heap oF 0
                have q1 := Lib.frozen_of_heap oF 1
                have q2 := Lib.frozen_of_heap oF 2
                go_simp
                refine hK.out _ _ (HH0.out _ (((hBG.setCell lgF.1 _).setCell lgF.1 _).setCell lgF.1 _)) (fun hH => ?_)
                clear hK K f0 f1 f2 q0 q1 q2
                try simp only [Act.put, List.getElem_toArray, List.getElem_cons_zero, List.getElem_cons_succ, List.setIfInBounds_toArray, List.set_cons_zero, List.set_cons_succ]
                refine wpAnyH_ready (rs := [15]) (by kernel_rfl) (by simp) ?_
                refine AllReadyH.cons rfl (fun K hK => ?_) AllReadyH.nil
                go_simp
                refine hK.out _ _ hH (fun hH => ?_)
                clear hK K
                try simp only [Act.put, List.getElem_toArray, List.getElem_cons_zero, List.getElem_cons_succ, List.setIfInBounds_toArray, List.set_cons_zero, List.set_cons_succ]
                refine wpAnyH_done (by kernel_rfl) ?_ _
                go_wp2_with fail
                go_meet
                exact ⟨rfl, hH⟩
              · go_simp
                have hbx : Below u90.heap.size u90 (u90.alloc (Obj.cells #[.int .u8 x8] 5)) := (Below.refl _ _).alloc (Nat.le_refl _) _
                have rA := row_below rA hbx
                have oF := obj_below oF hbx
                have oC := obj_new u90 (Obj.cells #[.int .u8 x8] 5)
                have hBG := hBG.alloc hsz (Obj.cells #[.int .u8 x8] 5)
                have lgC : z0 ≤ u90.heap.size ∧ u90.heap.size < (u90.alloc (Obj.cells #[.int .u8 x8] 5)).heap.size := ⟨hsz, by simp⟩
                have nAC : gA ≠ u90.heap.size := Nat.ne_of_lt kA
                have kA : gA < (u90.alloc (Obj.cells #[.int .u8 x8] 5)).heap.size := Nat.lt_trans kA lgC.2
                have kC := lgC.2
                have hsz : z0 ≤ (u90.alloc (Obj.cells #[.int .u8 x8] 5)).heap.size := Nat.le_trans hsz (Nat.le_of_lt lgC.2)
                refine hK.out _ _ (hH.step hbx) (fun hH => ?_)
                clear hK K hbx
                generalize u90.alloc (Obj.cells #[.int .u8 x8] 5) = u97 at hH hBG hsz lgC rA oC oF kA kC ⊢
                generalize u90.heap.size = gC at lgC nAC kC oC ⊢
                try simp only [Act.put, List.getElem_toArray, List.getElem_cons_zero, List.getElem_cons_succ, List.setIfInBounds_toArray, List.set_cons_zero, List.set_cons_succ]
                refine wpAnyH_ready (rs := [4]) (by kernel_rfl) (by simp) ?_
                refine AllReadyH.cons rfl (fun K hK => ?_) AllReadyH.nil
                refine step_appK (by rfl) _ _ (by rfl) (by rfl) (by rfl) rA (by rfl) (slb_C hH.h5) (by omega) (by have := HLEN.out; simp; omega) (Nat.le_of_lt kA) ?_
                intro vB u98 rB hbx hkO hk5
                rw [List.nil_append] at rB
                have oC := obj_keptO oC hkO (by simp [Value.ownBlock]; first | exact nCA | exact fun h => nAC h.symm | omega)
                have oF := obj_kept5 oF hk5 (by simp)
                have hBG := hBG.trans (hbx.mono lgA.1)
                have hsz := Nat.le_trans hsz hbx.size
                have kA : gA < u98.heap.size := Nat.lt_of_lt_of_le kA hbx.size
                obtain ⟨AB, cB, hvB⟩ := row_shape rB
                rw [HLEN.out] at hvB
                subst hvB
                refine hK.out _ _ (HH0.out _ hBG) (fun hH => ?_)
                clear hK K hbx hkO hk5
                try simp only [Act.put, List.getElem_toArray, List.getElem_cons_zero, List.getElem_cons_succ, List.setIfInBounds_toArray, List.set_cons_zero, List.set_cons_succ]
                refine wpAnyH_ready (rs := [8]) (by kernel_rfl) (by simp) ?_
                refine AllReadyH.cons rfl (fun K hK => ?_) AllReadyH.nil
                have hC1 : Kd.C (Kd.int .u8) u98 (some ⟨gC, 0, none⟩) 1 [x8] := C_obj oC
                refine step_app (by rfl) _ _ (by rfl) (by rfl) (by rfl) rB (by rfl) hC1 (by rw [HLEN.out]; simp; omega) (Nat.le_of_lt kA) ?_
                intro vD u99 rD hbx hk5
                have oF := obj_kept5 oF hk5 (by simp)
                have hBG := hBG.trans (hbx.mono lgA.1)
                have hsz := Nat.le_trans hsz hbx.size
                obtain ⟨AD, cD, hvD⟩ := row_shape rD
                have hl9 : ((featB lb1 vs1) ++ [x8]).length = M + 1 := by rw [List.length_append, HLEN.out]; rfl
                rw [hl9] at hvD
                subst hvD
                refine hK.out _ _ (HH0.out _ hBG) (fun hH => ?_)
                clear hK K hbx hk5 hC1
                try simp only [Act.put, List.getElem_toArray, List.getElem_cons_zero, List.getElem_cons_succ, List.setIfInBounds_toArray, List.set_cons_zero, List.set_cons_succ]
                refine wpAnyH_ready (rs := [9]) (by kernel_rfl) (by simp) ?_
                refine AllReadyH.cons rfl (fun K hK => ?_) AllReadyH.nil
                go_simp
                have h8 := slb_row rD (by rw [List.length_append, HLEN.out]; simp; omega)
                go_wp2_with (go_at_call 45; (with_reducible refine Calls.mono (HP3.out x8 hx0 hx1 _ _ h8) ?_); rintro _ u100 ⟨hbx, rfl⟩)
                have oF := obj_below oF hbx
                have hBG := hBG.trans (hbx.mono hsz)
                have hsz := Nat.le_trans hsz hbx.size
                refine hK.out _ _ (hH.step hbx) (fun hH => ?_)
                clear hK K hbx h8 rD
                try simp only [Act.put, List.getElem_toArray, List.getElem_cons_zero, List.getElem_cons_succ, List.setIfInBounds_toArray, List.set_cons_zero, List.set_cons_succ]
                refine wpAnyH_take (i := 10) (v := ?_) rfl (by kernel_rfl) (by kernel_rfl) (by kernel_rfl) (fun _ _ _ h => h) (Or.inl ⟨by rfl, ?_⟩) hH ?_
                rotate_left
                · intro w hSw
                  have g0 := hSw.y0
                  go_simp
                  try with_reducible rfl
                try simp only [Act.put, List.getElem_toArray, List.getElem_cons_zero, List.getElem_cons_succ, List.setIfInBounds_toArray, List.set_cons_zero, List.set_cons_succ]
                refine wpAnyH_take (i := 11) (v := ?_) rfl (by kernel_rfl) (by kernel_rfl) (by kernel_rfl) (fun _ _ _ h => h) (Or.inl ⟨by rfl, ?_⟩) hH ?_
                rotate_left
                · intro w hSw
                  have g0 := hSw.y0
                  go_simp
                  try with_reducible rfl
                try simp only [Act.put, List.getElem_toArray, List.getElem_cons_zero, List.getElem_cons_succ, List.setIfInBounds_toArray, List.set_cons_zero, List.set_cons_succ]
                refine wpAnyH_take (i := 12) (v := ?_) rfl (by kernel_rfl) (by kernel_rfl) (by kernel_rfl) (fun _ _ _ h => h) (Or.inl ⟨by rfl, ?_⟩) hH ?_
                rotate_left
                · intro w hSw
                  have g0 := hSw.y0
                  go_simp
                  try with_reducible rfl
                try simp only [Act.put, List.getElem_toArray, List.getElem_cons_zero, List.getElem_cons_succ, List.setIfInBounds_toArray, List.set_cons_zero, List.set_cons_succ]
                refine wpAnyH_ready (rs := [14]) (by kernel_rfl) (by simp) ?_
                refine AllReadyH.cons rfl (fun K hK => ?_) AllReadyH.nil
                have f0 := Lib.cell_of_heap oF 0
                have f1 := Lib.cell_of_heap oF 1
                have f2 := Lib.cell_of_heap oF 2
                simp only [List.getElem?_toArray, List.getElem?_cons_zero, List.getElem?_cons_succ] at f0 f1 f2
                have q0 := Lib.frozen_of_heap oF 0
                have q1 := Lib.frozen_of_heap oF 1
                have q2 := Lib.frozen_of_heap oF 2
                go_simp
                refine hK.out _ _ (HH0.out _ (((hBG.setCell lgF.1 _).setCell lgF.1 _).setCell lgF.1 _)) (fun hH => ?_)
                clear hK K f0 f1 f2 q0 q1 q2
                try simp only [Act.put, List.getElem_toArray, List.getElem_cons_zero, List.getElem_cons_succ, List.setIfInBounds_toArray, List.set_cons_zero, List.set_cons_succ]
                refine wpAnyH_ready (rs := [15]) (by kernel_rfl) (by simp) ?_
                refine AllReadyH.cons rfl (fun K hK => ?_) AllReadyH.nil
                go_simp
                refine hK.out _ _ hH (fun hH => ?_)
                clear hK K
                try simp only [Act.put, List.getElem_toArray, List.getElem_cons_zero, List.getElem_cons_succ, List.setIfInBounds_toArray, List.set_cons_zero, List.set_cons_succ]
                refine wpAnyH_done (by kernel_rfl) ?_ _
                go_wp2_with fail
                go_meet
                exact ⟨rfl, hH⟩
            · go_simp
              have hbx : Below u89.heap.size u89 (u89.alloc (Obj.cells #[.int .u8 x8] 5)) := (Below.refl _ _).alloc (Nat.le_refl _) _
              have oF := obj_below oF hbx
              have oC := obj_new u89 (Obj.cells #[.int .u8 x8] 5)
              have hBG := hBG.alloc hsz (Obj.cells #[.int .u8 x8] 5)
              have lgC : z0 ≤ u89.heap.size ∧ u89.heap.size < (u89.alloc (Obj.cells #[.int .u8 x8] 5)).heap.size := ⟨hsz, by simp⟩
              have kC := lgC.2
              have hsz : z0 ≤ (u89.alloc (Obj.cells #[.int .u8 x8] 5)).heap.size := Nat.le_trans hsz (Nat.le_of_lt lgC.2)
              refine hK.out _ _ (hH.step hbx) (fun hH => ?_)
              clear hK K hbx
              generalize u89.alloc (Obj.cells #[.int .u8 x8] 5) = u103 at hH hBG hsz lgC oC oF kC ⊢
              generalize u89.heap.size = gC at lgC kC oC ⊢
              try simp only [Act.put, List.getElem_toArray, List.getElem_cons_zero, List.getElem_cons_succ, List.setIfInBounds_toArray, List.set_cons_zero, List.set_cons_succ]
              refine wpAnyH_ready (rs := [2]) (by kernel_rfl) (by simp) ?_
              refine AllReadyH.cons rfl (fun K hK => ?_) AllReadyH.nil
              go_simp
              have hbx : Below u103.heap.size u103 (u103.alloc (Obj.cells #[] 5)) := (Below.refl _ _).alloc (Nat.le_refl _) _
              have oC := obj_below oC hbx
              have oF := obj_below oF hbx
              have rA : Row (u103.alloc (Obj.cells #[] 5)) u103.heap.size (.slice (some ⟨u103.heap.size, 0, none⟩) 0 0) [] := row_empty (Nat.le_refl _)
              have hBG := hBG.alloc hsz (Obj.cells #[] 5)
              have lgA : z0 ≤ u103.heap.size ∧ u103.heap.size < (u103.alloc (Obj.cells #[] 5)).heap.size := ⟨hsz, by simp⟩
              have nCA : gC ≠ u103.heap.size := Nat.ne_of_lt kC
              have kA := lgA.2
              have hsz : z0 ≤ (u103.alloc (Obj.cells #[] 5)).heap.size := Nat.le_trans hsz (Nat.le_of_lt lgA.2)
              refine hK.out _ _ (hH.step hbx) (fun hH => ?_)
              clear hK K hbx
              generalize u103.alloc (Obj.cells #[] 5) = u104 at hH hBG hsz lgA rA oC oF kA ⊢
              generalize u103.heap.size = gA at lgA nCA kA rA ⊢
              try simp only [Act.put, List.getElem_toArray, List.getElem_cons_zero, List.getElem_cons_succ, List.setIfInBounds_toArray, List.set_cons_zero, List.set_cons_succ]
              refine wpAnyH_ready (rs := [4]) (by kernel_rfl) (by simp) ?_
              refine AllReadyH.cons rfl (fun K hK => ?_) AllReadyH.nil
              refine step_appK (by rfl) _ _ (by rfl) (by rfl) (by rfl) rA (by rfl) (slb_C hH.h5) (by omega) (by have := HLEN.out; simp; omega) (Nat.le_of_lt kA) ?_
              intro vB u105 rB hbx hkO hk5
              rw [List.nil_append] at rB
              have oC := obj_keptO oC hkO (by simp [Value.ownBlock]; first | exact nCA | exact fun h => nAC h.symm | omega)
              have oF := obj_kept5 oF hk5 (by simp)
              have hBG := hBG.trans (hbx.mono lgA.1)
              have hsz := Nat.le_trans hsz hbx.size
              have kA : gA < u105.heap.size := Nat.lt_of_lt_of_le kA hbx.size
              obtain ⟨AB, cB, hvB⟩ := row_shape rB
              rw [HLEN.out] at hvB
              subst hvB
              refine hK.out _ _ (HH0.out _ hBG) (fun hH => ?_)
              clear hK K hbx hkO hk5
              try simp only [Act.put, List.getElem_toArray, List.getElem_cons_zero, List.getElem_cons_succ, List.setIfInBounds_toArray, List.set_cons_zero, List.set_cons_succ]
              refine wpAnyH_ready (rs := [8]) (by kernel_rfl) (by simp) ?_
              refine AllReadyH.cons rfl (fun K hK => ?_) AllReadyH.nil
              have hC1 : Kd.C (Kd.int .u8) u105 (some ⟨gC, 0, none⟩) 1 [x8] := C_obj oC
              refine step_app (by rfl) _ _ (by rfl) (by rfl) (by rfl) rB (by rfl) hC1 (by rw [HLEN.out]; simp; omega) (Nat.le_of_lt kA) ?_
              intro vD u106 rD hbx hk5
              have oF := obj_kept5 oF hk5 (by simp)
              have hBG := hBG.trans (hbx.mono lgA.1)
              have hsz := Nat.le_trans hsz hbx.size
              obtain ⟨AD, cD, hvD⟩ := row_shape rD
              have hl9 : ((featB lb1 vs1) ++ [x8]).length = M + 1 := by rw [List.length_append, HLEN.out]; rfl
              rw [hl9] at hvD
              subst hvD
              refine hK.out _ _ (HH0.out _ hBG) (fun hH => ?_)
              clear hK K hbx hk5 hC1
              try simp only [Act.put, List.getElem_toArray, List.getElem_cons_zero, List.getElem_cons_succ, List.setIfInBounds_toArray, List.set_cons_zero, List.set_cons_succ]
              refine wpAnyH_ready (rs := [9]) (by kernel_rfl) (by simp) ?_
              refine AllReadyH.cons rfl (fun K hK => ?_) AllReadyH.nil
              go_simp
              have h8 := slb_row rD (by rw [List.length_append, HLEN.out]; simp; omega)
              go_wp2_with (go_at_call 45; (with_reducible refine Calls.mono (HP3.out x8 hx0 hx1 _ _ h8) ?_); rintro _ u107 ⟨hbx, rfl⟩)
              have oF := obj_below oF hbx
              have hBG := hBG.trans (hbx.mono hsz)
              have hsz := Nat.le_trans hsz hbx.size
              refine hK.out _ _ (hH.step hbx) (fun hH => ?_)
              clear hK K hbx h8 rD
              try simp only [Act.put, List.getElem_toArray, List.getElem_cons_zero, List.getElem_cons_succ, List.setIfInBounds_toArray, List.set_cons_zero, List.set_cons_succ]
              refine wpAnyH_take (i := 10) (v := ?_) rfl (by kernel_rfl) (by kernel_rfl) (by kernel_rfl) (fun _ _ _ h => h) (Or.inl ⟨by rfl, ?_⟩) hH ?_
              rotate_left
              · intro w hSw
                have g0 := hSw.y0
                go_simp
                try with_reducible rfl
              try simp only [Act.put, List.getElem_toArray, List.getElem_cons_zero, List.getElem_cons_succ, List.setIfInBounds_toArray, List.set_cons_zero, List.set_cons_succ]
              refine wpAnyH_take (i := 11) (v := ?_) rfl (by kernel_rfl) (by kernel_rfl) (by kernel_rfl) (fun _ _ _ h => h) (Or.inl ⟨by rfl, ?_⟩) hH ?_
              rotate_left
              · intro w hSw
                have g0 := hSw.y0
                go_simp
                try with_reducible rfl
              try simp only [Act.put, List.getElem_toArray, List.getElem_cons_zero, List.getElem_cons_succ, List.setIfInBounds_toArray, List.set_cons_zero, List.set_cons_succ]
              refine wpAnyH_take (i := 12) (v := ?_) rfl (by kernel_rfl) (by kernel_rfl) (by kernel_rfl) (fun _ _ _ h => h) (Or.inl ⟨by rfl, ?_⟩) hH ?_
              rotate_left
              · intro w hSw
                have g0 := hSw.y0
                go_simp
                try with_reducible rfl
              try simp only [Act.put, List.getElem_toArray, List.getElem_cons_zero, List.getElem_cons_succ, List.setIfInBounds_toArray, List.set_cons_zero, List.set_cons_succ]
              refine wpAnyH_ready (rs := [14]) (by kernel_rfl) (by simp) ?_
              refine AllReadyH.cons rfl (fun K hK => ?_) AllReadyH.nil
              have f0 := Lib.cell_of_heap oF 0
              have f1 := Lib.cell_of_heap oF 1
              have f2 := Lib.cell_of_heap oF 2
              simp only [List.getElem?_toArray, List.getElem?_cons_zero, List.getElem?_cons_succ] at f0 f1 f2
              have q0 := Lib.frozen_of_heap oF 0
              have q1 := Lib.frozen_of_heap oF 1
              have q2 := Lib.frozen_of_heap oF 2
              go_simp
              refine hK.out _ _ (HH0.out _ (((hBG.setCell lgF.1 _).setCell lgF.1 _).setCell lgF.1 _)) (fun hH => ?_)
              clear hK K f0 f1 f2 q0 q1 q2
              try simp only [Act.put, List.getElem_toArray, List.getElem_cons_zero, List.getElem_cons_succ, List.setIfInBounds_toArray, List.set_cons_zero, List.set_cons_succ]
              refine wpAnyH_ready (rs := [15]) (by kernel_rfl) (by simp) ?_
              refine AllReadyH.cons rfl (fun K hK => ?_) AllReadyH.nil
              go_simp
              refine hK.out _ _ hH (fun hH => ?_)
              clear hK K
              try simp only [Act.put, List.getElem_toArray, List.getElem_cons_zero, List.getElem_cons_succ, List.setIfInBounds_toArray, List.set_cons_zero, List.set_cons_succ]
              refine wpAnyH_done (by kernel_rfl) ?_ _
              go_wp2_with fail
              go_meet
              exact ⟨rfl, hH⟩
        case rest =>
        obtain ⟨rfl, hH⟩ := hcut
        obtain ⟨ks, hks⟩ := same_self r1 lb1 vs1 l1
        have h1 := featOk_stays H1.out hH.bel
        have hfc := hH.fc
        have HSM := Lib.hid (PValueForms.value_Same.calls ks r1 A1 cb1 lb1 pa1 cap1 vs1 r1 bA bc lb1 vA vc vs1 true wc h1.1 h1.2.1 h1.2.2.2.2 h1.2.2.2.1 hfc.1 hfc.2.1 hfc.2.2.1 hfc.2.2.2 hks)
        have y0 := hH.y0
        have y1 := hH.y1
        have y2 := hH.y2
        have x0 := hH.x0
        have x1 := hH.x1
        have x2 := hH.x2
        have hB := hH.bel
        clear hH h1 hfc hks HP3 hx8 hx0 hx1
        go_wp2_with fail
        refine HSM.out.mono ?_
        rintro e w8 ⟨rfl, hb⟩
        have hB8 := below_step hB hb
        clear hb HSM
        dsimp only
        go_wp2_with fail
        refine (HL.out _ hB8).mono ?_
        rintro e w9 ⟨rfl, hb⟩
        have hB9 := below_step hB8 hb
        clear hb
        dsimp only
        go_wp2_with fail
        go_ret
        exact ⟨rfl, hB9⟩
end Go.Proofs.YtcjidlgmbjebjaaDoor
