import Derived.Test.YtcjidlgmbjebjaaDoorAskBb
set_option linter.unusedVariables false
set_option linter.unusedSimpArgs false
set_option maxRecDepth 100000
namespace Go.Proofs.YtcjidlgmbjebjaaDoor
open Go Go.RowKit
def RgR (cs : List Col) (W : World) (pa : Option Addr) (cap : Nat) (i : Value) (w' : World) : Prop :=
  ∃ k : Nat, k ≤ cs.length ∧ i = .int .i64 k ∧ (∀ j, j < k → okAt cs j = true) ∧ Below W.heap.size W w' ∧ w'.cell? ⟨W.heap.size, 3, none⟩ = some (.slice pa cs.length cap) ∧ W.heap.size < w'.heap.size
def RiR (cs : List Col) (W : World) (pa : Option Addr) (cap : Nat) (cn : ByteArray) (b i : Nat) (v : Value) (w' : World) : Prop :=
  ∃ j : Nat, j ≤ i ∧ v = .int .i64 j ∧ (¬ cn.toList ∈ (cs.take j).map (fun d => d.1.toList)) ∧ Below W.heap.size W w' ∧ w'.cell? ⟨W.heap.size, 3, none⟩ = some (.slice pa cs.length cap) ∧ w'.cell? ⟨b, 0, none⟩ = some (.string cn) ∧ b < w'.heap.size ∧ W.heap.size < w'.heap.size
theorem mem_take_of {cs : List Col} {i j : Nat} {d : Col} (hd : cs[j]? = some d) (hj : j < i) : d.1.toList ∈ (cs.take i).map (fun d => d.1.toList) := by
  refine List.mem_map.2 ⟨d, ?_, rfl⟩
  exact List.mem_of_getElem? (i := j) (by rw [List.getElem?_take, if_pos hj]; exact hd)
set_option maxHeartbeats 8000000 in
theorem srefgood_val (nm : ByteArray) (k srs : Int) (v0 : Value) (cs : List Col) (W : World) (hs : nm.size ≤ 9223372036854775807) (hcs : ∀ c ∈ cs, c.1.size ≤ 9223372036854775807) (hlen : cs.length ≤ 50) (hv0 : ColsV W v0 cs) :
    Calls Tryd.prog 16 #[schV nm k srs v0] W (RetS (.int .i64 (goodSch nm k srs cs)) W) := by
  cases hh : headOk nm k srs cs.length with
  | false =>
    rw [good_head hh]
    exact refgood_bad nm k srs v0 cs W hs hv0 hh
  | true =>
    rw [good_tail hh]
    obtain ⟨pa, b, o, cap, rfl, hcap, hpa, h0⟩ := hv0
    have hc := fun w => refname_val nm w hs
    unfold headOk at hh
    simp only [Bool.and_eq_true, decide_eq_true_eq] at hh
    obtain ⟨hg, k1, k2, k3, k4, k5⟩ := hh
    rw [hg] at hc
    have HC := Lib.hid hc; clear hc hg
    have H0 := Lib.hid h0; clear h0
    have HP := Lib.hid hpa; clear hpa
    have HS := Lib.hid hcs; clear hcs
    unfold schV
    go_enter Tryd.func16, Tryd.ntmps16
    go_wp2_with fail
    refine (HC.out _).mono ?_
    rintro e w1 ⟨rfl, hb⟩
    have c1 := cell_later (v := .int .i64 k) hb (show World.cell? _ ⟨W.heap.size, 1, none⟩ = some (.int .i64 k) from by go_cell)
    have c2 := cell_later (v := .int .i64 srs) hb (show World.cell? _ ⟨W.heap.size, 2, none⟩ = some (.int .i64 srs) from by go_cell)
    have c3 := cell_later (v := .slice pa cs.length cap) hb (show World.cell? _ ⟨W.heap.size, 3, none⟩ = some (.slice pa cs.length cap) from by go_cell)
    have hB := below_step (show Below W.heap.size W _ from by go_grown) hb
    have hz : W.heap.size < w1.heap.size := by have := hb.size; simp at this; omega
    clear hb
    dsimp only
    go_wp2_with fail
    go_loopw [40] (fun i w' => RgR cs W pa cap i w') (fun i _ => cs.length - (intOf i).toNat)
    case atStart => exact ⟨0, by omega, rfl, fun j hj => absurd hj (by omega), hB, c3, hz⟩
    case round =>
      obtain ⟨i, hi, rfl, hok, hBr, c3r, hzo⟩ := hrel
      obtain ⟨wo, rfl⟩ : ∃ wo : World, wo = wr := ⟨_, rfl⟩
      by_cases hp : i < cs.length
      · obtain rfl := HP.out (by omega)
        obtain ⟨c, hc⟩ : ∃ c, cs[i]? = some c := ⟨cs[i], List.getElem?_eq_getElem hp⟩
        have hsz := HS.out c (List.mem_of_getElem? hc)
        obtain ⟨x0, x1, x2⟩ := cols_stays H0.out hBr i c hc
        have HN1 := Lib.hid (fun h => okAt_bad hc h)
        have HN2 := Lib.hid (fun h => okAt_dup hc h)
        have HN3 := Lib.hid (fun h1 h2 => okAt_ok hc h1 h2)
        clear hc
        obtain ⟨cn, ck, cm⟩ := c
        have HOK := Lib.hid hok; clear hok
        have hcg := fun w => refname_val cn w hsz
        dsimp only at x0 x1 x2
        cases hcol : Utf.nmOk cn with
        | false =>
          have HF := Lib.hid (allOk_false hp (HN1.out (by show colOk cn ck = false; unfold colOk; rw [hcol]; rfl)))
          rw [hcol] at hcg
          have HG := Lib.hid hcg; clear hcg hcol
          go_wp2_with fail
          refine (HG.out _).mono ?_
          rintro e w2 ⟨rfl, hb⟩
          have hB2 := below_step (show Below W.heap.size W _ from hBr.alloc hBr.size _) hb
          clear hb
          dsimp only
          go_wp2_with fail
          go_ret
          exact ⟨by rw [HF.out]; rfl, hB2⟩
        | true =>
          rw [hcol] at hcg
          have HG := Lib.hid hcg
          by_cases hk : ck < 1 ∨ 3 < ck
          · have HF := Lib.hid (allOk_false hp (HN1.out (by show colOk cn ck = false; unfold colOk; rw [hcol]; simp; omega)))
            have hk' : ck < 1 ∨ (1 ≤ ck ∧ 3 < ck) := by omega
            clear hcg hcol hk
            rcases hk' with q1 | ⟨q1, q2⟩
            all_goals
              go_wp2_with fail
              refine (HG.out _).mono ?_
              rintro e w2 ⟨rfl, hb⟩
              have d1 := cell_later (v := .int .i64 ck) hb (show World.cell? _ ⟨wo.heap.size, 1, none⟩ = some (.int .i64 ck) from by go_cell)
              have hB2 := below_step (show Below W.heap.size W _ from hBr.alloc hBr.size _) hb
              clear hb
              dsimp only
              go_wp2_with fail
              go_ret
              exact ⟨by rw [HF.out]; rfl, hB2⟩
          · have q1 : 1 ≤ ck := by omega
            have q2 : ck ≤ 3 := by omega
            have HCL := Lib.hid (show colOk cn ck = true by unfold colOk; rw [hcol]; simp; omega)
            clear hcg hcol hk
            go_wp2_with fail
            refine (HG.out _).mono ?_
            rintro e w2 ⟨rfl, hb⟩
            have d0 := cell_later (v := .string cn) hb (show World.cell? _ ⟨wo.heap.size, 0, none⟩ = some (.string cn) from by go_cell)
            have d1 := cell_later (v := .int .i64 ck) hb (show World.cell? _ ⟨wo.heap.size, 1, none⟩ = some (.int .i64 ck) from by go_cell)
            have d3 := cell_later (v := .slice (some ⟨b, o, none⟩) cs.length cap) hb (show World.cell? _ ⟨W.heap.size, 3, none⟩ = some (.slice (some ⟨b, o, none⟩) cs.length cap) from by go_cell)
            have hB2 := below_step (show Below W.heap.size W _ from hBr.alloc hBr.size _) hb
            have hz2 : wo.heap.size < w2.heap.size := by have := hb.size; simp at this; omega
            have hz3 : W.heap.size < w2.heap.size := by omega
            clear hb
            dsimp only
            go_wp2_with fail
            go_loopw [64] (fun v w' => RiR cs W (some ⟨b, o, none⟩) cap cn wo.heap.size i v w') (fun v _ => i - (intOf v).toNat)
            case atStart => exact ⟨0, by omega, rfl, by simp, hB2, d3, d0, hz2, hz3⟩
            case round =>
              obtain ⟨j, hj, rfl, hno, hBj, e3, e0, hzb, hzw⟩ := hrel
              have HNO := Lib.hid hno; clear hno
              by_cases hq : j < i
              · obtain ⟨d, hd⟩ : ∃ d, cs[j]? = some d := ⟨cs[j]'(by omega), List.getElem?_eq_getElem (by omega)⟩
                obtain ⟨y0, y1, y2⟩ := cols_stays H0.out hBj j d hd
                have HM := Lib.hid (mem_take_of hd hq)
                have HT := Lib.hid (take_snocL hd)
                clear hd
                obtain ⟨dn, dk, dm⟩ := d
                dsimp only at y0 y1 y2
                have hBj2 := hBj.alloc hBj.size (.cells #[.string dn, .int .i64 dk, .bool dm] 94)
                by_cases he : cn.toList = dn.toList
                · have HF := Lib.hid (allOk_false hp (HN2.out (by have := HM.out; rw [show ((dn, dk, dm) : Col).1.toList = cn.toList from he.symm] at this; exact this)))
                  have he2 := beq_yes he
                  clear he
                  go_wp2_with fail
                  go_ret
                  exact ⟨by rw [HF.out]; rfl, hBj2⟩
                · have he2 := beq_no he
                  have HREL := Lib.hid (show ¬ cn.toList ∈ (cs.take (j + 1)).map (fun d => d.1.toList) by
                    rw [HT.out, List.map_append, List.mem_append]
                    rintro (h | h)
                    · exact HNO.out h
                    · simp at h; exact he h)
                  clear he
                  go_wp2_with fail
                  exact ⟨⟨j + 1, by omega, rfl, HREL.out, hBj2, by go_cell, by go_cell, by simp; omega, by simp; omega⟩, by simp [intOf]; omega⟩
              · obtain rfl : j = i := by omega
                have HREL := Lib.hid (show RgR cs W (some ⟨b, o, none⟩) cap (.int .i64 ((j + 1 : Nat) : Int)) wr from
                  ⟨j + 1, by omega, rfl, fun q hq => by
                    by_cases e : q = j
                    · subst e; exact HN3.out HCL.out HNO.out
                    · exact HOK.out q (by omega), hBj, e3, hzw⟩)
                go_wp2_with fail
                exact ⟨HREL.out, by simp [intOf]; omega⟩
      · obtain rfl : i = cs.length := by omega
        have HF := Lib.hid (allOk_true hok)
        clear hok
        go_wp2_with fail
        go_ret
        exact ⟨by rw [HF.out]; rfl, hBr⟩
end Go.Proofs.YtcjidlgmbjebjaaDoor
