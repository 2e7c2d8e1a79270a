import Derived.Test.YtcjidlgmbjebjaaDoorAskBc
set_option linter.unusedVariables false
set_option linter.unusedSimpArgs false
set_option maxRecDepth 100000
namespace Go.Proofs.YtcjidlgmbjebjaaDoor
open Go Go.RowKit
def EsR (n : Nat) (cs ds : List Col) (W : World) (p1 p2 : Value) (v : Value) (w' : World) : Prop :=
  ∃ i : Nat, i ≤ n ∧ v = .int .i64 i ∧ cs.take i = ds.take i ∧ Below W.heap.size W w' ∧ w'.cell? ⟨W.heap.size, 3, none⟩ = some p1 ∧ w'.cell? ⟨W.heap.size + 1, 3, none⟩ = some p2
theorem bne_no {l m : List UInt8} (h : l = m) : (l != m) = false := by subst h; simp
theorem bne_yes {l m : List UInt8} (h : ¬ l = m) : (l != m) = true := by rw [bne_iff_ne]; exact h
theorem bnei_yes {l m : Int} (h : ¬ l = m) : (l != m) = true := by rw [bne_iff_ne]; exact h
set_option maxHeartbeats 8000000 in
theorem refsame_val (n1 : ByteArray) (k1 r1 : Int) (v : Value) (cs : List Col) (n2 : ByteArray) (k2 r2 : Int) (v2 : Value) (ds : List Col) (W : World) (hl1 : cs.length ≤ 50) (hl2 : ds.length ≤ 50) (hv1 : ColsV W v cs) (hv2 : ColsV W v2 ds) :
    Calls Tryd.prog 20 #[schV n1 k1 r1 v, schV n2 k2 r2 v2] W (RetBool (sameSch n1 k1 r1 cs n2 k2 r2 ds) W) := by
  unfold schV
  obtain ⟨pa, b, o, cap, rfl, hcap, hpa, h1⟩ := hv1
  obtain ⟨pa2, b2, o2, cap2, rfl, hcap2, hpa2, h2⟩ := hv2
  have HP := Lib.hid hpa; clear hpa
  have HP2 := Lib.hid hpa2; clear hpa2
  clear hcap hcap2
  have H1 := Lib.hid h1; clear h1
  have H2 := Lib.hid h2; clear h2
  by_cases e1 : n1.toList = n2.toList
  case neg =>
    have f1 := beq_no e1
    have HR := Lib.hid (show sameSch n1 k1 r1 cs n2 k2 r2 ds = false by simp [sameSch, beq_no e1])
    clear e1
    go_enter Tryd.func20, Tryd.ntmps20
    go_wp2
    go_ret
    exact ⟨by rw [HR.out]; rfl, by go_grown⟩
  have g1 := beq_yes e1
  clear e1
  by_cases e2 : k1 = k2
  case neg =>
    have f2 := bnei_yes e2
    have HR := Lib.hid (show sameSch n1 k1 r1 cs n2 k2 r2 ds = false by simp [sameSch, e2])
    clear e2
    go_enter Tryd.func20, Tryd.ntmps20
    go_wp2
    go_ret
    exact ⟨by rw [HR.out]; rfl, by go_grown⟩
  subst e2
  by_cases e3 : r1 = r2
  case neg =>
    have f2 := bnei_yes e3
    have HR := Lib.hid (show sameSch n1 k1 r1 cs n2 k1 r2 ds = false by simp [sameSch, e3])
    clear e3
    go_enter Tryd.func20, Tryd.ntmps20
    go_wp2
    go_ret
    exact ⟨by rw [HR.out]; rfl, by go_grown⟩
  subst e3
  have HS := Lib.hid (show sameSch n1 k1 r1 cs n2 k1 r1 ds = decide (cs = ds) by simp [sameSch, g1])
  by_cases hl : cs.length = ds.length
  case neg =>
    have HR := Lib.hid (show decide (cs = ds) = false by rw [decide_eq_false_iff_not]; intro h; exact hl (by rw [h]))
    have hl3 : ((cs.length : Int) != (ds.length : Int)) = true := by rw [bne_iff_ne]; omega
    clear hl
    go_enter Tryd.func20, Tryd.ntmps20
    go_wp2
    go_ret
    exact ⟨by rw [HS.out, HR.out]; rfl, by go_grown⟩
  rw [HS.out]
  go_enter Tryd.func20, Tryd.ntmps20
  rw [← hl]
  have HLn := Lib.hid hl; clear hl
  go_wp2
  go_loopw [37] (fun v w' => EsR cs.length cs ds W (.slice pa cs.length cap) (.slice pa2 cs.length cap2) v w') (fun v _ => cs.length - (intOf v).toNat)
  case atStart => exact ⟨0, by omega, rfl, by simp, by go_grown, by go_cell, by go_cell⟩
  case round =>
    obtain ⟨i, hi, rfl, ht, hB, p3, q3⟩ := hrel
    by_cases hp : i < cs.length
    · have hp2 : i < ds.length := by have := HLn.out; omega
      obtain rfl := HP.out (by omega)
      obtain rfl := HP2.out (by omega)
      obtain ⟨c, hc⟩ : ∃ c, cs[i]? = some c := ⟨cs[i], List.getElem?_eq_getElem hp⟩
      obtain ⟨d, hd⟩ : ∃ d, ds[i]? = some d := ⟨ds[i]'hp2, List.getElem?_eq_getElem hp2⟩
      clear hp2
      obtain ⟨x0, x1, x2⟩ := cols_stays H1.out hB i c hc
      obtain ⟨y0, y1, y2⟩ := cols_stays H2.out hB i d hd
      have hnx := Lib.hid (fun he => take_next ht hc hd he)
      have hno : c ≠ d → decide (cs = ds) = false := fun hne => by
        rw [decide_eq_false_iff_not]; rintro rfl; rw [hc] at hd; exact hne (Option.some.inj hd)
      have hNO := Lib.hid hno
      clear hno hc hd ht
      obtain ⟨cn, ck, cm⟩ := c
      obtain ⟨dn, dk, dm⟩ := d
      dsimp only at x0 x1 x2 y0 y1 y2
      by_cases e1 : cn.toList = dn.toList
      · obtain rfl := byte_inj e1
        clear e1
        by_cases e2 : ck = dk
        · subst e2
          by_cases e3 : cm = dm
          · subst e3
            go_wp2_with fail
            go_region_held3 (fun w' => w'.cell? ⟨b, o + i * 3, none⟩ = some (.string cn) ∧ w'.cell? ⟨b, o + i * 3 + 1, none⟩ = some (.int .i64 ck) ∧ w'.cell? ⟨b, o + i * 3 + 2, none⟩ = some (.bool cm) ∧
    w'.cell? ⟨b2, o2 + i * 3, none⟩ = some (.string cn) ∧ w'.cell? ⟨b2, o2 + i * 3 + 1, none⟩ = some (.int .i64 ck) ∧ w'.cell? ⟨b2, o2 + i * 3 + 2, none⟩ = some (.bool cm) ∧
    w'.cell? ⟨W.heap.size, 3, none⟩ = some (.slice (some ⟨b, o, none⟩) cs.length cap) ∧ w'.cell? ⟨W.heap.size + 1, 3, none⟩ = some (.slice (some ⟨b2, o2, none⟩) cs.length cap2) ∧ Below W.heap.size W w')
              (first | (go_keep; done) | ((repeat' apply And.intro) <;> first | assumption | (rw [World.cell?_drew]; assumption) | (exact hB) | (exact below_drew hB)))
              (fail)
            rename_i hH
            obtain ⟨_, _, _, _, _, _, z3, z4, hB3⟩ := hH
            go_wp2_with fail
            exact ⟨⟨i + 1, by omega, rfl, by first | exact hnx.out rfl | exact hnx.out trivial | simpa using hnx.out, by first | exact hB3 | exact below_drew hB, by first | exact z3 | exact p3, by first | exact z4 | exact q3⟩, by simp [intOf]; omega⟩
          · have HF := Lib.hid (hNO.out (by simp [e3]))
            go_wp2_with fail
            go_region_held3 (fun w' => w'.cell? ⟨b, o + i * 3, none⟩ = some (.string cn) ∧ w'.cell? ⟨b, o + i * 3 + 1, none⟩ = some (.int .i64 ck) ∧ w'.cell? ⟨b, o + i * 3 + 2, none⟩ = some (.bool cm) ∧
    w'.cell? ⟨b2, o2 + i * 3, none⟩ = some (.string cn) ∧ w'.cell? ⟨b2, o2 + i * 3 + 1, none⟩ = some (.int .i64 ck) ∧ w'.cell? ⟨b2, o2 + i * 3 + 2, none⟩ = some (.bool dm) ∧
    w'.cell? ⟨W.heap.size, 3, none⟩ = some (.slice (some ⟨b, o, none⟩) cs.length cap) ∧ w'.cell? ⟨W.heap.size + 1, 3, none⟩ = some (.slice (some ⟨b2, o2, none⟩) cs.length cap2) ∧ Below W.heap.size W w')
              (first | (go_keep; done) | ((repeat' apply And.intro) <;> first | assumption | (rw [World.cell?_drew]; assumption) | (exact hB) | (exact below_drew hB)))
              (fail)
            rename_i hH
            obtain ⟨_, _, _, _, _, _, z3, z4, hB3⟩ := hH
            go_wp2_with fail
            go_ret
            exact ⟨by rw [HF.out]; rfl, hB3⟩
        · have HF := Lib.hid (hNO.out (by simp [e2]))
          go_wp2_with fail
          go_region_held3 (fun w' => w'.cell? ⟨b, o + i * 3, none⟩ = some (.string cn) ∧ w'.cell? ⟨b, o + i * 3 + 1, none⟩ = some (.int .i64 ck) ∧ w'.cell? ⟨b, o + i * 3 + 2, none⟩ = some (.bool cm) ∧
    w'.cell? ⟨b2, o2 + i * 3, none⟩ = some (.string cn) ∧ w'.cell? ⟨b2, o2 + i * 3 + 1, none⟩ = some (.int .i64 dk) ∧ w'.cell? ⟨b2, o2 + i * 3 + 2, none⟩ = some (.bool dm) ∧
    w'.cell? ⟨W.heap.size, 3, none⟩ = some (.slice (some ⟨b, o, none⟩) cs.length cap) ∧ w'.cell? ⟨W.heap.size + 1, 3, none⟩ = some (.slice (some ⟨b2, o2, none⟩) cs.length cap2) ∧ Below W.heap.size W w')
            (first | (go_keep; done) | ((repeat' apply And.intro) <;> first | assumption | (rw [World.cell?_drew]; assumption) | (exact hB) | (exact below_drew hB)))
            (fail)
          rename_i hH
          obtain ⟨_, _, _, _, _, _, z3, z4, hB3⟩ := hH
          go_wp2_with fail
          go_ret
          exact ⟨by rw [HF.out]; rfl, hB3⟩
      · have HF := Lib.hid (hNO.out (by intro h; exact e1 (by rw [(Prod.mk.inj h).1])))
        have e2 := beq_no e1
        go_wp2_with fail
        go_region_held3 (fun w' => w'.cell? ⟨b, o + i * 3, none⟩ = some (.string cn) ∧ w'.cell? ⟨b, o + i * 3 + 1, none⟩ = some (.int .i64 ck) ∧ w'.cell? ⟨b, o + i * 3 + 2, none⟩ = some (.bool cm) ∧
    w'.cell? ⟨b2, o2 + i * 3, none⟩ = some (.string dn) ∧ w'.cell? ⟨b2, o2 + i * 3 + 1, none⟩ = some (.int .i64 dk) ∧ w'.cell? ⟨b2, o2 + i * 3 + 2, none⟩ = some (.bool dm) ∧
    w'.cell? ⟨W.heap.size, 3, none⟩ = some (.slice (some ⟨b, o, none⟩) cs.length cap) ∧ w'.cell? ⟨W.heap.size + 1, 3, none⟩ = some (.slice (some ⟨b2, o2, none⟩) cs.length cap2) ∧ Below W.heap.size W w')
          (first | (go_keep; done) | ((repeat' apply And.intro) <;> first | assumption | (rw [World.cell?_drew]; assumption) | (exact hB) | (exact below_drew hB)))
          (fail)
        rename_i hH
        obtain ⟨_, _, _, _, _, _, z3, z4, hB3⟩ := hH
        go_wp2_with fail
        go_ret
        exact ⟨by rw [HF.out]; rfl, hB3⟩
    · obtain rfl : i = cs.length := by omega
      have HR := Lib.hid (show decide (cs = ds) = true by rw [decide_eq_true_iff, ← List.take_length (l := cs), ht, HLn.out, List.take_length])
      go_wp2
      go_ret
      exact ⟨by rw [HR.out]; rfl, hB⟩
end Go.Proofs.YtcjidlgmbjebjaaDoor
