import Derived.Test.YtcjidlgmbjebjaaDoorAskAt
set_option linter.unusedVariables false
set_option linter.unusedSimpArgs false
set_option maxRecDepth 100000
namespace Go.Proofs.YtcjidlgmbjebjaaDoor
open Go Go.RowKit
def EqR (n : Nat) (cs ds : List Col) (w : World) (v : Value) (w' : World) : Prop :=
  ∃ i : Nat, i ≤ n ∧ v = .int .i64 i ∧ cs.take i = ds.take i ∧ Below w.heap.size w w'
theorem take_next {cs ds : List Col} {i : Nat} {c d : Col} (h : cs.take i = ds.take i) (hc : cs[i]? = some c) (hd : ds[i]? = some d) (he : c = d) : cs.take (i + 1) = ds.take (i + 1) := by
  obtain ⟨hi, rfl⟩ := List.getElem?_eq_some_iff.1 hc
  obtain ⟨hj, rfl⟩ := List.getElem?_eq_some_iff.1 hd
  rw [List.take_succ_eq_append_getElem hi, List.take_succ_eq_append_getElem hj, h, he]
theorem below_drew {B : Nat} {a w : World} (h : Below B a w) : Below B a w.drew := ⟨h.os, h.tape, h.output, h.size, h.block⟩
theorem byte_inj {a b : ByteArray} (h : a.toList = b.toList) : a = b := by
  apply ByteArray.ext
  rw [ByteArray.toList_eq, ByteArray.toList_eq] at h
  exact Array.toList_inj.1 h
set_option maxHeartbeats 4000000 in
theorem eqcols_val (v v2 : Value) (cs ds : List Col) (W : World) (hl1 : cs.length ≤ 50) (hl2 : ds.length ≤ 50) (hv1 : ColsV W v cs) (hv2 : ColsV W v2 ds) :
    Calls Tryd.prog 51 #[v, v2] W (RetBool (decide (cs = ds)) W) := by
  obtain ⟨pa, b, o, cap, rfl, hcap, hpa, h1⟩ := hv1
  obtain ⟨pa2, b2, o2, cap2, rfl, hcap2, hpa2, h2⟩ := hv2
  have HP := Lib.hid hpa; clear hpa
  have HP2 := Lib.hid hpa2; clear hpa2
  clear hcap hcap2
  by_cases hl : cs.length = ds.length
  case neg =>
    have HR := Lib.hid (show decide (cs = ds) = false by rw [decide_eq_false_iff_not]; intro h; exact hl (by rw [h]))
    go_enter Tryd.func51, Tryd.ntmps51
    have hl3 : ((cs.length : Int) != (ds.length : Int)) = true := by rw [bne_iff_ne]; omega
    go_wp2
    go_ret
    exact ⟨by rw [HR.out]; rfl, Below.refl _ _⟩
  have H1 := Lib.hid h1; clear h1
  have H2 := Lib.hid h2; clear h2
  go_enter Tryd.func51, Tryd.ntmps51
  rw [← hl]
  have HLn := Lib.hid hl; clear hl
  go_wp2
  go_loopw [13] (fun v w' => EqR cs.length cs ds W v w') (fun v _ => cs.length - (intOf v).toNat)
  case atStart => exact ⟨0, by omega, rfl, by simp, by go_grown⟩
  case round =>
    obtain ⟨i, hi, rfl, ht, hB⟩ := hrel
    by_cases hp : i < cs.length
    · have hp2 : i < ds.length := by have := HLn.out; omega
      obtain rfl := HP.out (by omega)
      obtain rfl := HP2.out (by omega)
      obtain ⟨c, hc⟩ : ∃ c, cs[i]? = some c := ⟨cs[i], List.getElem?_eq_getElem hp⟩
      obtain ⟨d, hd⟩ : ∃ d, ds[i]? = some d := ⟨ds[i]'hp2, List.getElem?_eq_getElem hp2⟩
      clear hp2
      obtain ⟨x0, x1, x2⟩ := cols_stays H1.out hB i c hc
      obtain ⟨y0, y1, y2⟩ := cols_stays H2.out hB i d hd
      have hnx := Lib.hid (fun he => take_next ht hc hd he)
      have hno : c ≠ d → decide (cs = ds) = false := fun hne => by
        rw [decide_eq_false_iff_not]; rintro rfl; rw [hc] at hd; exact hne (Option.some.inj hd)
      have hNO := Lib.hid hno
      clear hno hc hd ht
      obtain ⟨cn, ck, cm⟩ := c
      obtain ⟨dn, dk, dm⟩ := d
      dsimp only at x0 x1 x2 y0 y1 y2
      by_cases e1 : cn.toList = dn.toList
      · obtain rfl := byte_inj e1
        clear e1
        by_cases e2 : ck = dk
        · subst e2
          by_cases e3 : cm = dm
          · subst e3
            go_wp2_with fail
            go_region_held3 (fun w' => w'.cell? ⟨b, o + i * 3, none⟩ = some (.string cn) ∧ w'.cell? ⟨b, o + i * 3 + 1, none⟩ = some (.int .i64 ck) ∧ w'.cell? ⟨b, o + i * 3 + 2, none⟩ = some (.bool cm) ∧
                w'.cell? ⟨b2, o2 + i * 3, none⟩ = some (.string cn) ∧ w'.cell? ⟨b2, o2 + i * 3 + 1, none⟩ = some (.int .i64 ck) ∧ w'.cell? ⟨b2, o2 + i * 3 + 2, none⟩ = some (.bool cm) ∧ Below W.heap.size W w')
              (first | (go_keep; done) | ((repeat' apply And.intro) <;> first | assumption | (rw [World.cell?_drew]; assumption) | (exact hB) | (exact below_drew hB)))
              (fail)
            rename_i hH
            have hB3 := hH.2.2.2.2.2.2
            go_wp2_with fail
            first
              | exact ⟨⟨i + 1, by omega, rfl, by first | exact hnx.out rfl | exact hnx.out trivial | simpa using hnx.out, by first | exact hB3 | exact below_drew hB⟩, by simp [intOf]; omega⟩
              | (go_roundw
                 case rel => exact ⟨i + 1, by omega, rfl, by first | exact hnx.out rfl | exact hnx.out trivial | simpa using hnx.out, by first | exact hB3 | exact below_drew hB⟩
                 case measure => simp [intOf]; omega)
          · have HF := Lib.hid (hNO.out (by simp [e3]))
            go_wp2_with fail
            go_region_held3 (fun w' => w'.cell? ⟨b, o + i * 3, none⟩ = some (.string cn) ∧ w'.cell? ⟨b, o + i * 3 + 1, none⟩ = some (.int .i64 ck) ∧ w'.cell? ⟨b, o + i * 3 + 2, none⟩ = some (.bool cm) ∧
                w'.cell? ⟨b2, o2 + i * 3, none⟩ = some (.string cn) ∧ w'.cell? ⟨b2, o2 + i * 3 + 1, none⟩ = some (.int .i64 ck) ∧ w'.cell? ⟨b2, o2 + i * 3 + 2, none⟩ = some (.bool dm) ∧ Below W.heap.size W w')
              (first | (go_keep; done) | ((repeat' apply And.intro) <;> first | assumption | (rw [World.cell?_drew]; assumption) | (exact hB) | (exact below_drew hB)))
              (fail)
            rename_i hH
            have hB3 := hH.2.2.2.2.2.2
            go_wp2_with fail
            go_ret
            exact ⟨by rw [HF.out]; rfl, hB3⟩
        · have HF := Lib.hid (hNO.out (by simp [e2]))
          go_wp2_with fail
          go_region_held3 (fun w' => w'.cell? ⟨b, o + i * 3, none⟩ = some (.string cn) ∧ w'.cell? ⟨b, o + i * 3 + 1, none⟩ = some (.int .i64 ck) ∧ w'.cell? ⟨b, o + i * 3 + 2, none⟩ = some (.bool cm) ∧
              w'.cell? ⟨b2, o2 + i * 3, none⟩ = some (.string cn) ∧ w'.cell? ⟨b2, o2 + i * 3 + 1, none⟩ = some (.int .i64 dk) ∧ w'.cell? ⟨b2, o2 + i * 3 + 2, none⟩ = some (.bool dm) ∧ Below W.heap.size W w')
            (first | (go_keep; done) | ((repeat' apply And.intro) <;> first | assumption | (rw [World.cell?_drew]; assumption) | (exact hB) | (exact below_drew hB)))
            (fail)
          rename_i hH
          have hB3 := hH.2.2.2.2.2.2
          go_wp2_with fail
          go_ret
          exact ⟨by rw [HF.out]; rfl, hB3⟩
      · have HF := Lib.hid (hNO.out (by intro h; exact e1 (by rw [(Prod.mk.inj h).1])))
        have e2 := beq_no e1
        go_wp2_with fail
        go_region_held3 (fun w' => w'.cell? ⟨b, o + i * 3, none⟩ = some (.string cn) ∧ w'.cell? ⟨b, o + i * 3 + 1, none⟩ = some (.int .i64 ck) ∧ w'.cell? ⟨b, o + i * 3 + 2, none⟩ = some (.bool cm) ∧
            w'.cell? ⟨b2, o2 + i * 3, none⟩ = some (.string dn) ∧ w'.cell? ⟨b2, o2 + i * 3 + 1, none⟩ = some (.int .i64 dk) ∧ w'.cell? ⟨b2, o2 + i * 3 + 2, none⟩ = some (.bool dm) ∧ Below W.heap.size W w')
          (first | (go_keep; done) | ((repeat' apply And.intro) <;> first | assumption | (rw [World.cell?_drew]; assumption) | (exact hB) | (exact below_drew hB)))
          (fail)
        rename_i hH
        have hB3 := hH.2.2.2.2.2.2
        go_wp2_with fail
        go_ret
        exact ⟨by rw [HF.out]; rfl, hB3⟩
    · obtain rfl : i = cs.length := by omega
      have HR := Lib.hid (show decide (cs = ds) = true by rw [decide_eq_true_iff, ← List.take_length (l := cs), ht, HLn.out, List.take_length])
      go_wp2
      go_ret
      exact ⟨by rw [HR.out]; rfl, hB⟩
end Go.Proofs.YtcjidlgmbjebjaaDoor
