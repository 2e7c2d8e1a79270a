/- A part of the proof of ValueForms. -/
import Derived.Test.YtcjidlgmbjebjaaDoorVfI
import Derived.Lib.AppendStr
set_option linter.unusedVariables false
set_option linter.unusedSimpArgs false
set_option maxRecDepth 100000
namespace Go.Proofs.YtcjidlgmbjebjaaDoor
open Go Go.RowKit Go.Proofs.YtcjidlgmbjebjaaDoorW.PrintWords
theorem C_nil (w : World) : Kd.C (Kd.int .u8) w none 0 [] := ⟨rfl, by decide, fun h => absurd h (by decide)⟩
theorem run_str {w : World} {base : Nat} {v : Value} {l : List Int} (h : Row w base v l) (s : ByteArray) (hlen : l.length + s.size ≤ 140737488355000) (hbase : base ≤ w.heap.size) :
    ∃ v' w', (Builtin.append_ #[43, 9] 43 #[v, .string s]).run Tryd.prog w = .ok v' w' ∧ Row w' base v' (l ++ bytesOf s) ∧ Below base w w' ∧ Kept5 w w' := by
  obtain ⟨i0, hi, hz0, hz1, hz2⟩ := info_parts byteinfo
  obtain ⟨v', w', hr, h2, h3, _⟩ := Lib.run_append_own_string (P := Tryd.prog) w base 43 9 43 5 i0 Tryd.underlying43 Tryd.underlying9 hi hz0 hz1 hz2 v l.length (u8s l) h s (by unfold maxLen; omega) (by omega) hbase
  refine ⟨v', w', hr, ?_, (Below.refl _ _).grown h3 hbase (fun q hq => (h.lt q hq).1), kept5_grown h h3⟩
  unfold Row
  have e : u8s (l ++ bytesOf s) = u8s l ++ Lib.strCells s := by simp [u8s, bytesOf, Lib.strCells]
  rw [e, List.length_append, bytesOf_length]
  exact h2
theorem step_str {w : World} {ops : Array Oper} {o : Oper} {a : Act} {K : Act → World → Prop} {Q : Exit → Act → World → Prop} {E : Prop} (hgd : o.guard = none) (s x : Operand) (ho : o.op = .call { callee := .builtin .append, args := #[s, x], argTypes := #[43, 9] }) (hty : o.type = 43)
    {base : Nat} {v : Value} {l : List Int} (hs : a.eval s = v) (h : Row w base v l) {y : ByteArray} (hx : a.eval x = .string y) (hlen : l.length + y.size ≤ 140737488355000) (hbase : base ≤ w.heap.size)
    (hk : ∀ v' w', Row w' base v' (l ++ bytesOf y) → Below base w w' → Kept5 w w' → K (a.put o.dst v') w') : if Region.wanted o (yielded ops a.tmps) = true then Oper.wp Tryd.prog o a w K Q else E := by
  have hw : Region.wanted o (yielded ops a.tmps) = true := by simp [Region.wanted, hgd]
  rw [if_pos hw]
  obtain ⟨v', w', hr, h2, h3, h4⟩ := run_str h y hlen hbase
  unfold Oper.wp execOp
  simp only [ho, hty, resolve, invoke, builtin, Sem.run_bind, Sem.run_pure, Result.andThen_ok, List.map_toArray, List.map_cons, List.map_nil, hs, hx, hr]
  exact hk v' w' h2 h3 h4
theorem refvar_nil (n : Int) (h0 : 0 ≤ n) (h1 : n < 2097152) (w : World) : Calls Tryd.prog 61 #[.slice none 0 0, .int .u64 n] w (RetRow (varB n) w) :=
  refvar_row none 0 [] n h0 h1 w (C_nil w) (Nat.le_refl _) (by decide)
end Go.Proofs.YtcjidlgmbjebjaaDoor

namespace Go.Proofs.YtcjidlgmbjebjaaDoor
open Go Go.RowKit Go.Proofs.YtcjidlgmbjebjaaDoorW.PrintWords
theorem by_next {lb : List Int} {vs : List Va} {W w : World} {j m c : Nat} {p : Option Addr} {x : Va} (hx : vs[j]? = some x) (hg : goodX x = true) (hgs : ∀ y ∈ vs.take j, goodX y = true) (hl : (vsB (vs.take j)).length ≤ j * 221)
    (hr : Row w (W.heap.size + 1) (.slice p m c) (varB lb.length ++ (lb ++ [(vs.length : Int)]) ++ vsB (vs.take j) ++ [x.f0] ++ valB x.f0 x.f1 x.f2)) (hb : Below W.heap.size W w) (hz : W.heap.size + 1 ≤ w.heap.size) :
    ByR lb vs W (.slice p m c) (.int .i64 ((j + 1 : Nat) : Int)) w := by
  have ht := take_va hx
  have hj : j < vs.length := (List.getElem?_eq_some_iff.1 hx).1
  have hv := valB_len hg
  refine ⟨j + 1, _, _, _, by omega, rfl, rfl, ?_, ?_, ?_, hb, hz⟩
  · rw [ht, vsB_snoc]
    have e : varB lb.length ++ (lb ++ [(vs.length : Int)]) ++ (vsB (vs.take j) ++ elB x) = varB lb.length ++ (lb ++ [(vs.length : Int)]) ++ vsB (vs.take j) ++ [x.f0] ++ valB x.f0 x.f1 x.f2 := by simp [elB]
    rw [e]
    exact hr
  · rw [ht]
    intro y hy
    rcases List.mem_append.1 hy with hy | hy
    · exact hgs y hy
    · simp at hy; subst hy; exact hg
  · rw [ht, vsB_snoc, List.length_append]
    simp only [elB, List.length_cons]
    omega
set_option maxHeartbeats 16000000 in
theorem refbytes_val (row : Int) (A : Option Addr) (cb : Nat) (lb : List Int) (vv : Value) (vs : List Va) (W : World) (hC : Kd.C (Kd.int .u8) W A lb.length lb) (hvv : VsV W vv vs) (hsz : ∀ x ∈ vs, x.f2.size ≤ 9223372036854775807) (hl2 : vs.length ≤ 9223372036854775807) :
    Calls Tryd.prog 26 #[featV row A lb.length cb vv] W (RetRow (featB lb vs) W) := by
  obtain ⟨pa, b, o, cap, rfl, hcap, hpa, hvs⟩ := hvv
  have hl1 : lb.length ≤ 9223372036854775807 := hC.2.1
  have HC := Lib.hid hC; clear hC
  have HP := Lib.hid hpa; clear hpa hcap
  have HVS := Lib.hid hvs; clear hvs
  have HSZ := Lib.hid hsz; clear hsz
  unfold featV
  by_cases c1 : vs.length ≤ 4
  case neg =>
    have HF := Lib.hid (feat_many (lb := lb) c1)
    go_enter Tryd.func26, Tryd.ntmps26
    go_wp2_with fail
    go_ret
    exact ⟨_, rfl, by rw [HF.out]; exact World.ownsRow_nil _ _ _ _, by go_grown⟩
  by_cases c2 : lb.length ≤ 20000
  case neg =>
    have HF := Lib.hid (feat_long (vs := vs) c2)
    go_enter Tryd.func26, Tryd.ntmps26
    go_wp2_with fail
    go_ret
    exact ⟨_, rfl, by rw [HF.out]; exact World.ownsRow_nil _ _ _ _, by go_grown⟩
  have HV := Lib.hid (fun w => refvar_nil (lb.length : Int) (by omega) (by omega) w)
  have hvl := varB_len (lb.length : Int)
  have hwr : IntKind.u64.wrap (lb.length : Int) = (lb.length : Int) := by rw [IntKind.wrap_u64]; omega
  go_enter Tryd.func26, Tryd.ntmps26
  go_wp2_with fail
  go_region_held3 (fun w' => w'.cell? ⟨W.heap.size, 0, none⟩ = some (.int .i64 row) ∧ w'.cell? ⟨W.heap.size, 1, none⟩ = some (.slice A lb.length cb) ∧ w'.cell? ⟨W.heap.size, 2, none⟩ = some (.slice pa vs.length cap) ∧ Below W.heap.size W w')
    (first
      | (go_keep; done)
      | ((repeat' apply And.intro) <;> first | (go_keep; done) | (go_cell; done) | (rw [World.cell?_drew]; go_cell; done) | (go_grown; done))
      | (go_split_ands; (repeat' apply And.intro) <;> first | (exact cell_base hb2 (by simp) (by assumption)) | (exact Below.trans (by assumption) (hb2.mono (by simp))))
      | (go_split_ands; (repeat' apply And.intro) <;> first | (exact cell_later hb1 (by assumption)) | (exact below_step (by assumption) hb1)))
    (first
      | (go_at_call 61; refine (HV.out _).mono ?_; rintro e w1 ⟨v1, rfl, hr1, hb1⟩)
      | (go_split_ands; refine step_app (by rfl) _ _ (by rfl) (by rfl) (by rfl) hr1 (by rfl) (Kd.C_below HC.out (by assumption)) (by omega) (Below.size hb1) ?_; intro v2 w2 hr2 hb2 _))
  rename_i hH
  obtain ⟨_, _, y2, hB2⟩ := hH
  have hr2 : Row w2 (W.heap.size + 1) v2 (varB lb.length ++ lb) := row_lower hr2 (by simp)
  have hz : W.heap.size + 1 ≤ w2.heap.size := by have h1 := hb1.size; have h2 := hb2.size; simp at h1 h2; omega
  obtain ⟨p2, d2, hv2⟩ := row_shape hr2
  generalize (varB (lb.length : Int) ++ lb).length = M2 at hv2
  subst hv2
  have HR2 := Lib.hid hr2
  clear hr1 hr2 hb1 hb2 hwr
  go_wp2_with (at_builtin; refine wpList_app (by rfl) _ _ (by rfl) (by rfl) (by rfl) (row_alloc HR2.out _) (by rfl) (C_one _ _) (by simp; omega) (by simp; omega) ?_)
  intro v3 w3 hr3 hb3 _
  have hB3 : Below W.heap.size W w3 := (hB2.alloc hB2.size _).trans (hb3.mono (by simp))
  have hz3 : W.heap.size + 1 ≤ w3.heap.size := by have h1 := hb3.size; simp at h1; omega
  have y3 : w3.cell? ⟨W.heap.size, 2, none⟩ = some (.slice pa vs.length cap) := cell_base hb3 (by simp) (cell_later ((Below.refl w2.heap.size w2).alloc (Nat.le_refl _) _) y2)
  obtain ⟨p3, d3, hv3⟩ := row_shape hr3
  generalize (varB (lb.length : Int) ++ (lb ++ [(vs.length : Int)])).length = M3 at hv3
  subst hv3
  have HR3 := Lib.hid hr3
  clear hr3 hb3 y2
  go_wp2_with fail
  go_loopw [3, 34] (fun t i w' => ByR lb vs W t i w') (fun _ i _ => vs.length - (intOf i).toNat)
  case atStart => exact ⟨0, _, _, _, by omega, rfl, rfl, by simpa [vsB] using HR3.out, by simp, by simp [vsB], hB3, hz3⟩
  case round =>
    obtain ⟨j, m, c, p, hj, rfl, rfl, hrow, hgood, hvl2, hB, hzr⟩ := hrel
    by_cases hp : j < vs.length
    · obtain rfl := HP.out (by omega)
      obtain ⟨x, hx⟩ : ∃ x, vs[j]? = some x := ⟨vs[j], List.getElem?_eq_getElem hp⟩
      have hxs := HSZ.out x (List.mem_of_getElem? hx)
      obtain ⟨x0, x1, x2⟩ := va_stays (HVS.out j x hx) hB
      have HX := Lib.hid hx
      have HBD := Lib.hid (fun h => feat_bad (lb := lb) hx h)
      clear hx
      have HO := Lib.hid hrow; clear hrow
      have HG := Lib.hid hgood; clear hgood
      have hcg := fun w => refgood_val x.f0 x.f1 x.f2 w hxs
      cases hgx : goodX x with
      | false =>
        have HF := Lib.hid (HBD.out hgx)
        rw [show goodV x.f0 x.f1 x.f2 = false from hgx] at hcg
        have HGG := Lib.hid hcg; clear hcg hgx
        go_wp2_with fail
        refine (HGG.out _).mono ?_
        rintro e w4 ⟨rfl, hb⟩
        have hB4 := below_step (show Below W.heap.size W _ from hB.alloc hB.size _) hb
        clear hb
        dsimp only
        go_wp2_with fail
        go_ret
        exact ⟨_, rfl, by rw [HF.out]; exact World.ownsRow_nil _ _ _ _, hB4⟩
      | true =>
        rw [show goodV x.f0 x.f1 x.f2 = true from hgx] at hcg
        have HGG := Lib.hid hcg; clear hcg
        obtain ⟨k0, k3⟩ := kind_range hgx
        have hvn := valB_len hgx
        have HGX := Lib.hid hgx
        have HCT := Lib.hid (fun w => content_val x.f0 x.f1 x.f2 hgx w)
        clear hgx
        go_wp2_with fail
        refine (HGG.out _).mono ?_
        rintro e w4 ⟨rfl, hb⟩
        have z0 := cell_later (v := .int .i64 x.f0) hb (show World.cell? _ ⟨wr.heap.size, 0, none⟩ = some (.int .i64 x.f0) from by go_cell)
        have z1 := cell_later (v := .int .i64 x.f1) hb (show World.cell? _ ⟨wr.heap.size, 1, none⟩ = some (.int .i64 x.f1) from by go_cell)
        have z2 := cell_later (v := .string x.f2) hb (show World.cell? _ ⟨wr.heap.size, 2, none⟩ = some (.string x.f2) from by go_cell)
        have hB4 := below_step (show Below W.heap.size W _ from hB.alloc hB.size _) hb
        have HO4 := Lib.hid (row_below (row_alloc HO.out _) hb)
        have HBOX := Lib.hid (show BoxAt w4 wr.heap.size x from box_later (w := wr.alloc (.cells #[.int .i64 x.f0, .int .i64 x.f1, .string x.f2] 51)) (hp_new _ _ _ rfl) hb)
        have hz4 : W.heap.size + 1 ≤ w4.heap.size := by have h1 := hb.size; simp at h1; omega
        clear hb
        dsimp only
        clear z0 z1 z2
        have hwk : IntKind.u8.wrap x.f0 = x.f0 := by rw [IntKind.wrap_u8]; omega
        have z0 : w4.cell? ⟨wr.heap.size, 0, none⟩ = some (.int .i64 x.f0) := by rw [Lib.cell_of_heap HBOX.out]; rfl
        have HLN := Lib.hid (show (varB (lb.length : Int) ++ (lb ++ [(vs.length : Int)]) ++ vsB (vs.take j)).length + [x.f0].length ≤ 140737488355000 by simp; omega)
        have HBA := Lib.hid (fun o : Obj => (show W.heap.size + 1 ≤ (w4.alloc o).heap.size by simp; omega))
        go_wp2_with (at_builtin; refine wpList_app (by rfl) _ _ (by rfl) (by rfl) (by rfl) (row_alloc HO4.out _) (by rfl) (C_one _ _) HLN.out (HBA.out _) ?_)
        intro v9 w9 hr9 hb9 hT9
        have hB9 : Below W.heap.size W w9 := (hB4.alloc hB4.size _).trans (hb9.mono (by omega))
        have hz9 : W.heap.size + 1 ≤ w9.heap.size := by have h1 := hb9.size; simp at h1; omega
        have HB9 := Lib.hid (box_app (box_alloc HBOX.out _) hT9)
        obtain ⟨L9, hL9⟩ : ∃ L, L = varB lb.length ++ (lb ++ [(vs.length : Int)]) ++ vsB (vs.take j) ++ [x.f0] := ⟨_, rfl⟩
        have hr9 : Row w9 (W.heap.size + 1) v9 L9 := by
          have e : varB (lb.length : Int) ++ (lb ++ (vs.length : Int) :: (vsB (vs.take j) ++ [x.f0])) = L9 := by rw [hL9]; simp
          rw [← e]; exact hr9
        have hl9 : L9.length ≤ 30000 := by rw [hL9]; simp; omega
        have HL9 := Lib.hid hL9
        clear hb9 hT9 hL9 z0 hwk
        obtain ⟨p9, c9, rfl⟩ := row_shape hr9
        have HR9 := Lib.hid hr9; clear hr9
        have HC9 := Lib.hid (row_C HR9.out (by omega)).2
        have hk4 : x.f0 = 0 ∨ x.f0 = 1 ∨ x.f0 = 2 ∨ x.f0 = 3 := by omega
        have HGK := Lib.hid (good_kind HGX.out)
        rcases hk4 with hk | hk | hk | hk
        · have HVB := Lib.hid (show valB x.f0 x.f1 x.f2 = [] by unfold valB; rw [if_neg (by omega), if_neg (by omega), if_neg (by omega)])
          have z0 : w9.cell? ⟨wr.heap.size, 0, none⟩ = some (.int .i64 0) := by rw [Lib.cell_of_heap HB9.out, ← hk]; rfl
          clear hk
          have HREL := Lib.hid (by_next HX.out HGX.out HG.out hvl2 (p := p9) (m := L9.length) (c := c9) (by rw [HVB.out, ← HL9.out, List.append_nil]; exact HR9.out) hB9 hz9)
          clear hB9 hz9
          go_wp2_with fail
          exact ⟨HREL.out, by simp [intOf]; omega⟩
        · have HVB := Lib.hid (show valB x.f0 x.f1 x.f2 = putB (u64of x.f1) by unfold valB; rw [if_pos hk])
          have z0 : w9.cell? ⟨wr.heap.size, 0, none⟩ = some (.int .i64 1) := by rw [Lib.cell_of_heap HB9.out, ← hk]; rfl
          have z1 : w9.cell? ⟨wr.heap.size, 1, none⟩ = some (.int .i64 x.f1) := by rw [Lib.cell_of_heap HB9.out]; rfl
          clear hk
          have HPU := Lib.hid (refput_row p9 c9 L9 (u64of x.f1) w9 HC9.out.2 HC9.out.1 (by omega))
          unfold u64of at HPU
          go_wp2_with fail
          refine HPU.out.mono ?_
          rintro e wn ⟨vn, rfl, hrn, hbn⟩
          obtain ⟨pn, cn, hvn⟩ := row_shape hrn
          have HRN := Lib.hid (row_lower hrn hz9)
          generalize (L9 ++ putB (x.f1 % 18446744073709551616)).length = MN at hvn
          subst hvn
          have hBN := below_step hB9 hbn
          have hzN : W.heap.size + 1 ≤ wn.heap.size := by have := hbn.size; omega
          clear hrn hbn z0 z1
          dsimp only
          have HREL := Lib.hid (by_next HX.out HGX.out HG.out hvl2 (p := pn) (m := MN) (c := cn) (by rw [HVB.out, ← HL9.out]; exact HRN.out) hBN hzN)
          clear hBN hzN
          go_wp2_with fail
          exact ⟨HREL.out, by simp [intOf]; omega⟩
        · have hsz2 : x.f2.size ≤ 200 := by rcases HGK.out with h | h | ⟨_, h⟩ | ⟨h, _⟩ <;> omega
          have HVB := Lib.hid (show valB x.f0 x.f1 x.f2 = varB x.f2.size ++ bytesOf x.f2 by unfold valB; rw [if_neg (by omega), if_pos hk])
          have z0 : w9.cell? ⟨wr.heap.size, 0, none⟩ = some (.int .i64 2) := by rw [Lib.cell_of_heap HB9.out, ← hk]; rfl
          have HPU := Lib.hid (fun w hr => refvar_row p9 c9 L9 (x.f2.size : Int) (by omega) (by omega) w hr HC9.out.1 (by omega))
          have hvv := varB_len (x.f2.size : Int)
          have hws : IntKind.u64.wrap (x.f2.size : Int) = (x.f2.size : Int) := by rw [IntKind.wrap_u64]; omega
          clear hk
          go_wp2_with fail
          have HBX := Lib.hid (show BoxAt w9.drew wr.heap.size x from HB9.out)
          have HCD := Lib.hid (show Kd.C (Kd.int .u8) w9.drew p9 L9.length L9 from HC9.out.2)
          have hzd : W.heap.size + 1 ≤ w9.drew.heap.size := hz9
          have hB9' := below_drew hB9
          go_region_held3 (fun w' => BoxAt w' wr.heap.size x ∧ w'.cell? ⟨wr.heap.size, 0, none⟩ = some (.int .i64 x.f0) ∧ w'.cell? ⟨wr.heap.size, 1, none⟩ = some (.int .i64 x.f1) ∧ w'.cell? ⟨wr.heap.size, 2, none⟩ = some (.string x.f2) ∧ Below W.heap.size W w')
            (first
              | (exact sBox HBX.out hB9')
              | (go_split_ands; exact sBox (box_app (by assumption) hT10) (Below.trans (by assumption) (hb10.mono (by omega))))
              | (go_split_ands; exact sBox (box_later (by assumption) hb6) (below_step (by assumption) hb6)))
            (first
              | (go_at_call 61; refine (HPU.out _ HCD.out).mono ?_; rintro e w6 ⟨v6, rfl, hr6, hb6⟩; have hr6 := row_lower hr6 hzd)
              | (refine step_str (by rfl) _ _ (by rfl) (by rfl) (by rfl) hr6 (by rfl) (by rw [List.length_append]; omega) (Nat.le_trans hzd hb6.size) ?_; intro vn wn hrn hb10 hT10))
          rename_i hH
          have hBN := hH.2.2.2.2
          have hzN : W.heap.size + 1 ≤ wn.heap.size := by have := (Array.getElem?_eq_some_iff.1 hH.1).1; omega
          obtain ⟨pn, cn, hvn⟩ := row_shape hrn
          have HRN := Lib.hid (show Row wn (W.heap.size + 1) vn (L9 ++ (varB x.f2.size ++ bytesOf x.f2)) by rw [← List.append_assoc]; exact hrn)
          generalize (L9 ++ varB (x.f2.size : Int) ++ bytesOf x.f2).length = MN at hvn
          subst hvn
          clear hH hrn hb10 hT10 hr6 hb6 hws
          have HREL := Lib.hid (by_next HX.out HGX.out HG.out hvl2 (p := pn) (m := MN) (c := cn) (by rw [HVB.out, ← HL9.out]; exact HRN.out) hBN hzN)
          clear hBN hzN
          go_wp2_with fail
          exact ⟨HREL.out, by simp [intOf]; omega⟩
        · have hn01 : 0 ≤ x.f1 ∧ x.f1 ≤ 1 := by rcases HGK.out with h | h | ⟨h, _⟩ | ⟨_, h⟩ <;> omega
          obtain ⟨n0, n1⟩ := hn01
          have HVB := Lib.hid (show valB x.f0 x.f1 x.f2 = [x.f1] by unfold valB; rw [if_neg (by omega), if_neg (by omega), if_pos hk])
          have z0 : w9.cell? ⟨wr.heap.size, 0, none⟩ = some (.int .i64 3) := by rw [Lib.cell_of_heap HB9.out, ← hk]; rfl
          have z1 : w9.cell? ⟨wr.heap.size, 1, none⟩ = some (.int .i64 x.f1) := by rw [Lib.cell_of_heap HB9.out]; rfl
          clear hk
          have HLN := Lib.hid (show L9.length + [x.f1].length ≤ 140737488355000 by simp; omega)
          have HBA := Lib.hid (fun o : Obj => (show W.heap.size + 1 ≤ (w9.alloc o).heap.size by simp; omega))
          go_wp2_with (at_builtin; refine wpList_app (by rfl) _ _ (by rfl) (by rfl) (by rfl) (row_alloc HR9.out _) (by rfl) (C_one _ _) HLN.out (HBA.out _) ?_)
          intro vn wn hrn hbn _
          obtain ⟨pn, cn, hvn⟩ := row_shape hrn
          have HRN := Lib.hid hrn
          generalize (L9 ++ [x.f1]).length = MN at hvn
          subst hvn
          have hBN : Below W.heap.size W wn := (hB9.alloc hB9.size _).trans (hbn.mono (by omega))
          have hzN : W.heap.size + 1 ≤ wn.heap.size := by have h1 := hbn.size; simp at h1; omega
          clear hrn hbn z0 z1
          have HREL := Lib.hid (by_next HX.out HGX.out HG.out hvl2 (p := pn) (m := MN) (c := cn) (by rw [HVB.out, ← HL9.out]; exact HRN.out) hBN hzN)
          clear hBN hzN
          go_wp2_with fail
          exact ⟨HREL.out, by simp [intOf]; omega⟩
    · obtain rfl : j = vs.length := by omega
      rw [List.take_length] at hrow hgood
      have HF := Lib.hid (feat_ok c1 c2 hgood)
      have HO := Lib.hid (row_lower hrow (Nat.le_succ _))
      clear hrow hgood
      go_wp2_with fail
      go_ret
      exact ⟨_, rfl, by rw [HF.out, List.append_assoc (varB _) lb]; exact HO.out, hB⟩
end Go.Proofs.YtcjidlgmbjebjaaDoor
