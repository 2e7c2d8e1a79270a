import Derived.Test.YtcjidlgmbjebjaaDoorAskAz
set_option linter.unusedVariables false
set_option linter.unusedSimpArgs false
set_option maxRecDepth 100000
namespace Go.Proofs.YtcjidlgmbjebjaaDoor
open Go Go.RowKit
def nmsR (cs : List Col) : List (List UInt8) := (cs.map (fun d => d.1.toList)).reverse
def GdR (cs : List Col) (W : World) (b : Nat) (i : Value) (w' : World) : Prop :=
  ∃ k : Nat, k ≤ cs.length ∧ i = .int .i64 k ∧ MapB.Seen Tryd.prog 9 4 b k (nmsR (cs.take k)) w' ∧ (∀ j, j < k → okAt cs j = true) ∧ Below W.heap.size W w' ∧ b < w'.heap.size
theorem zero4 (w : World) : (zeroValue 4).run Tryd.prog w = .ok (.bool false) w := by kernel_rfl
theorem und95 : Tryd.prog.underlying 95 = some (.map 9 4) := by kernel_rfl
theorem mem_nmsR (cs : List Col) (x : List UInt8) : x ∈ nmsR cs ↔ x ∈ cs.map (fun d => d.1.toList) := by unfold nmsR; exact List.mem_reverse
theorem nmsR_snoc (cs : List Col) (c : Col) : nmsR (cs ++ [c]) = c.1.toList :: nmsR cs := by unfold nmsR; simp
set_option maxHeartbeats 8000000 in
theorem sgood_val (nm : ByteArray) (k srs : Int) (v0 : Value) (cs : List Col) (W : World) (hs : nm.size ≤ 9223372036854775807) (hcs : ∀ c ∈ cs, c.1.size ≤ 9223372036854775807) (hlen : cs.length ≤ 50) (hv0 : ColsV W v0 cs) :
    Calls Tryd.prog 15 #[schV nm k srs v0] W (RetS (.int .i64 (goodSch nm k srs cs)) W) := by
  cases hh : headOk nm k srs cs.length with
  | false =>
    rw [good_head hh]
    exact good_bad nm k srs v0 cs W hs hv0 hh
  | true =>
    rw [good_tail hh]
    obtain ⟨pa, b, o, cap, rfl, hcap, hpa, h0⟩ := hv0
    have hc := fun w => name_val nm w hs
    unfold headOk at hh
    simp only [Bool.and_eq_true, decide_eq_true_eq] at hh
    obtain ⟨hg, k1, k2, k3, k4, k5⟩ := hh
    rw [hg] at hc
    have HC := Lib.hid hc; clear hc hg
    have H0 := Lib.hid h0; clear h0
    have HP := Lib.hid hpa; clear hpa hcap
    have HS := Lib.hid hcs; clear hcs
    have hmm := @run_makeMap Tryd.prog
    unfold schV
    go_enter Tryd.func15, Tryd.ntmps15
    go_wp2_with fail
    refine (HC.out _).mono ?_
    rintro e w1 ⟨rfl, hb⟩
    have c1 := cell_later (v := .int .i64 k) hb (show World.cell? _ ⟨W.heap.size, 1, none⟩ = some (.int .i64 k) from by go_cell)
    have c2 := cell_later (v := .int .i64 srs) hb (show World.cell? _ ⟨W.heap.size, 2, none⟩ = some (.int .i64 srs) from by go_cell)
    have c3 := cell_later (v := .slice pa cs.length cap) hb (show World.cell? _ ⟨W.heap.size, 3, none⟩ = some (.slice pa cs.length cap) from by go_cell)
    have hB := below_step (show Below W.heap.size W _ from by go_grown) hb
    have hz : W.heap.size < w1.heap.size := by have := hb.size; simp at this; omega
    clear hb
    dsimp only
    go_wp2_with fail
    go_loopw [40] (fun i w' => GdR cs W w1.heap.size i w') (fun i _ => cs.length - (intOf i).toNat)
    case atStart => exact ⟨0, by omega, rfl, MapB.seen_made _ _ _ _, fun j hj => absurd hj (by omega), hB.alloc hB.size _, by simp⟩
    case round =>
      obtain ⟨i, hi, rfl, hseen, hok, hBr, hbl⟩ := hrel
      by_cases hp : i < cs.length
      · obtain rfl := HP.out (by omega)
        obtain ⟨c, hc⟩ : ∃ c, cs[i]? = some c := ⟨cs[i], List.getElem?_eq_getElem hp⟩
        have hsz := HS.out c (List.mem_of_getElem? hc)
        obtain ⟨x0, x1, x2⟩ := cols_stays H0.out hBr i c hc
        have HN1 := Lib.hid (fun h => okAt_bad hc h)
        have HN2 := Lib.hid (fun h => okAt_dup hc h)
        have HN3 := Lib.hid (fun h1 h2 => okAt_ok hc h1 h2)
        have HTK := Lib.hid (take_snocL hc)
        clear hc
        obtain ⟨cn, ck, cm⟩ := c
        have HSE := Lib.hid hseen; clear hseen
        have HOK := Lib.hid hok; clear hok
        have hcg := fun w => colgood_val cn ck cm w hsz
        dsimp only at x0 x1 x2
        cases hcol : colOk cn ck with
        | false =>
          have HF := Lib.hid (allOk_false hp (HN1.out hcol))
          rw [hcol] at hcg
          have HG := Lib.hid hcg; clear hcg hcol
          go_wp2_with fail
          refine (HG.out _).mono ?_
          rintro e w2 ⟨rfl, hb⟩
          have hB2 := below_step (show Below W.heap.size W _ from hBr.alloc hBr.size _) hb
          clear hb
          dsimp only
          go_wp2_with fail
          go_ret
          exact ⟨by rw [HF.out]; rfl, hB2⟩
        | true =>
          rw [hcol] at hcg
          have HG := Lib.hid hcg
          have HCL := Lib.hid hcol
          clear hcg hcol
          go_wp2_with fail
          refine (HG.out _).mono ?_
          rintro e w2 ⟨rfl, hb⟩
          have d0 := cell_later (v := .string cn) hb (show World.cell? _ ⟨wr.heap.size, 0, none⟩ = some (.string cn) from by go_cell)
          have hB2 := below_step (show Below W.heap.size W _ from hBr.alloc hBr.size _) hb
          have hsee : MapB.Seen Tryd.prog 9 4 w1.heap.size i (nmsR (cs.take i)) w2 := MapB.seen_block HSE.out ((hb.block _ (by simp; omega)).trans (hp_old _ _ _ _ hbl rfl))
          have hbl2 : w1.heap.size < w2.heap.size := by have := hb.size; simp at this; omega
          clear hb
          have hlk := MapB.seen_look hsee und95 Tryd.underlying9 Tryd.underlying4 (zero4 w2) cn hsz
          obtain ⟨w3, hput, hsee3, hgrow⟩ := MapB.seen_put hsee und95 Tryd.underlying9 Tryd.underlying4 (by omega) cn hsz
          have HSE3 := Lib.hid hsee3
          clear hsee hsee3
          by_cases hin : cn.toList ∈ nmsR (cs.take i)
          · rw [decide_eq_true hin] at hlk
            have HF := Lib.hid (allOk_false hp (HN2.out ((mem_nmsR _ _).1 hin)))
            clear hin hput hgrow
            dsimp only
            go_wp2_with fail
            go_ret
            exact ⟨by rw [HF.out]; rfl, hB2⟩
          · rw [decide_eq_false hin] at hlk
            have HREL := Lib.hid (show GdR cs W w1.heap.size (.int .i64 ((i + 1 : Nat) : Int)) w3 from
              ⟨i + 1, by omega, rfl, by rw [HTK.out, nmsR_snoc]; exact HSE3.out,
                fun j hj => by
                  by_cases e : j = i
                  · subst e; exact HN3.out HCL.out (fun h => hin ((mem_nmsR _ _).2 h))
                  · exact HOK.out j (by omega),
                hB2.grown hgrow hB2.size (fun q hq => by injection hq with hq; have := hB.size; omega), by have := hgrow.size; omega⟩)
            clear hin hgrow
            dsimp only
            go_wp2_with fail
            exact ⟨HREL.out, by simp [intOf]; omega⟩
      · obtain rfl : i = cs.length := by omega
        have HF := Lib.hid (allOk_true hok)
        clear hok
        go_wp2_with fail
        go_ret
        exact ⟨by rw [HF.out]; rfl, hBr⟩
end Go.Proofs.YtcjidlgmbjebjaaDoor
