/- A part of the proof of SchemaForms. -/
import Derived.Test.YtcjidlgmbjebjaaDoorSfb
import Derived.Shelf.Strings.Builder1
import Derived.Shelf.Strings.Builder2
import Derived.Shelf.Strings.OnBuilder
import Derived.Test.YtcjidlgmbjebjaaDoorProg
set_option linter.unusedVariables false
set_option linter.unusedSimpArgs false
set_option maxRecDepth 100000
namespace Go.Proofs.YtcjidlgmbjebjaaDoor
open Go Go.RowKit
def okAt (cs : List Col) (i : Nat) : Bool := match cs[i]? with | none => true | some c => colOk c.1 c.2.1 && !decide (c.1.toList ∈ (cs.take i).map (fun d => d.1.toList))
def allOk (cs : List Col) : Bool := (List.range cs.length).all (okAt cs)
theorem allOk_true {cs : List Col} (h : ∀ j, j < cs.length → okAt cs j = true) : allOk cs = true := by
  unfold allOk; rw [List.all_eq_true]; intro j hj; exact h j (List.mem_range.1 hj)
theorem allOk_false {cs : List Col} {i : Nat} (hi : i < cs.length) (h : okAt cs i = false) : allOk cs = false := by
  unfold allOk; rw [List.all_eq_false]; exact ⟨i, List.mem_range.2 hi, by rw [h]; simp⟩
theorem okAt_bad {cs : List Col} {i : Nat} {c : Col} (hc : cs[i]? = some c) (h : colOk c.1 c.2.1 = false) : okAt cs i = false := by unfold okAt; rw [hc]; simp [h]
theorem okAt_dup {cs : List Col} {i : Nat} {c : Col} (hc : cs[i]? = some c) (h : c.1.toList ∈ (cs.take i).map (fun d => d.1.toList)) : okAt cs i = false := by
  unfold okAt; rw [hc]; simp only [decide_eq_true h]; simp
theorem okAt_ok {cs : List Col} {i : Nat} {c : Col} (hc : cs[i]? = some c) (h1 : colOk c.1 c.2.1 = true) (h : ¬ c.1.toList ∈ (cs.take i).map (fun d => d.1.toList)) : okAt cs i = true := by
  unfold okAt; rw [hc]; simp only [decide_eq_false h, h1]; rfl
def headOk (nm : ByteArray) (k srs : Int) (n : Nat) : Bool := Utf.nmOk nm && (decide (0 ≤ k) && (decide (k ≤ 7) && (decide (-2147483648 ≤ srs) && (decide (srs ≤ 2147483647) && decide (n ≤ 4)))))
def goodSch (nm : ByteArray) (k srs : Int) (cs : List Col) : Int := bif headOk nm k srs cs.length then (bif allOk cs then 0 else 2) else 2
theorem good_head {nm : ByteArray} {k srs : Int} {cs : List Col} (h : headOk nm k srs cs.length = false) : goodSch nm k srs cs = 2 := by unfold goodSch; rw [h]; rfl
theorem good_tail {nm : ByteArray} {k srs : Int} {cs : List Col} (h : headOk nm k srs cs.length = true) : goodSch nm k srs cs = (bif allOk cs then 0 else 2) := by unfold goodSch; rw [h]; rfl
set_option maxHeartbeats 4000000 in
theorem good_bad (nm : ByteArray) (k srs : Int) (v0 : Value) (cs : List Col) (W : World) (hs : nm.size ≤ 9223372036854775807) (hv0 : ColsV W v0 cs) (hh : headOk nm k srs cs.length = false) :
    Calls Tryd.prog 15 #[schV nm k srs v0] W (RetS (.int .i64 2) W) := by
  obtain ⟨pa, b, o, cap, rfl, _⟩ := hv0
  have hc := fun w => name_val nm w hs
  unfold headOk at hh
  unfold schV
  cases hg : Utf.nmOk nm with
  | false =>
    rw [hg] at hc
    have HC := Lib.hid hc; clear hc hg hh
    go_enter Tryd.func15, Tryd.ntmps15
    go_wp2_with fail
    refine (HC.out _).mono ?_
    rintro e w1 ⟨rfl, hb⟩
    have hB := below_step (show Below W.heap.size W _ from by go_grown) hb
    clear hb
    dsimp only
    go_wp2_with fail
    go_ret
    exact ⟨rfl, hB⟩
  | true =>
    rw [hg, Bool.true_and] at hh
    rw [hg] at hc
    have HC := Lib.hid hc; clear hc hg
    have h5 : k < 0 ∨ (0 ≤ k ∧ 7 < k) ∨ (0 ≤ k ∧ k ≤ 7 ∧ srs < -2147483648) ∨ (0 ≤ k ∧ k ≤ 7 ∧ -2147483648 ≤ srs ∧ 2147483647 < srs) ∨ (0 ≤ k ∧ k ≤ 7 ∧ -2147483648 ≤ srs ∧ srs ≤ 2147483647 ∧ 4 < cs.length) := by
      simp only [Bool.and_eq_false_iff, decide_eq_false_iff_not] at hh
      omega
    clear hh
    rcases h5 with k1 | ⟨k1, k2⟩ | ⟨k1, k2, k3⟩ | ⟨k1, k2, k3, k4⟩ | ⟨k1, k2, k3, k4, k5⟩
    all_goals
      go_enter Tryd.func15, Tryd.ntmps15
      go_wp2_with fail
      refine (HC.out _).mono ?_
      rintro e w1 ⟨rfl, hb⟩
      have c1 := cell_later (v := .int .i64 k) hb (show World.cell? _ ⟨W.heap.size, 1, none⟩ = some (.int .i64 k) from by go_cell)
      have c2 := cell_later (v := .int .i64 srs) hb (show World.cell? _ ⟨W.heap.size, 2, none⟩ = some (.int .i64 srs) from by go_cell)
      have c3 := cell_later (v := .slice pa cs.length cap) hb (show World.cell? _ ⟨W.heap.size, 3, none⟩ = some (.slice pa cs.length cap) from by go_cell)
      have hB := below_step (show Below W.heap.size W _ from by go_grown) hb
      clear hb
      dsimp only
      go_wp2_with fail
      go_ret
      exact ⟨rfl, hB⟩
end Go.Proofs.YtcjidlgmbjebjaaDoor

namespace Go.Proofs.YtcjidlgmbjebjaaDoor
open Go Go.RowKit
def nmsR (cs : List Col) : List (List UInt8) := (cs.map (fun d => d.1.toList)).reverse
def GdR (cs : List Col) (W : World) (b : Nat) (i : Value) (w' : World) : Prop :=
  ∃ k : Nat, k ≤ cs.length ∧ i = .int .i64 k ∧ MapB.Seen Tryd.prog 9 4 b k (nmsR (cs.take k)) w' ∧ (∀ j, j < k → okAt cs j = true) ∧ Below W.heap.size W w' ∧ b < w'.heap.size
theorem zero4 (w : World) : (zeroValue 4).run Tryd.prog w = .ok (.bool false) w := by kernel_rfl
theorem und95 : Tryd.prog.underlying 95 = some (.map 9 4) := by kernel_rfl
theorem mem_nmsR (cs : List Col) (x : List UInt8) : x ∈ nmsR cs ↔ x ∈ cs.map (fun d => d.1.toList) := by unfold nmsR; exact List.mem_reverse
theorem nmsR_snoc (cs : List Col) (c : Col) : nmsR (cs ++ [c]) = c.1.toList :: nmsR cs := by unfold nmsR; simp
set_option maxHeartbeats 8000000 in
theorem sgood_val (nm : ByteArray) (k srs : Int) (v0 : Value) (cs : List Col) (W : World) (hs : nm.size ≤ 9223372036854775807) (hcs : ∀ c ∈ cs, c.1.size ≤ 9223372036854775807) (hlen : cs.length ≤ 50) (hv0 : ColsV W v0 cs) :
    Calls Tryd.prog 15 #[schV nm k srs v0] W (RetS (.int .i64 (goodSch nm k srs cs)) W) := by
  cases hh : headOk nm k srs cs.length with
  | false =>
    rw [good_head hh]
    exact good_bad nm k srs v0 cs W hs hv0 hh
  | true =>
    rw [good_tail hh]
    obtain ⟨pa, b, o, cap, rfl, hcap, hpa, h0⟩ := hv0
    have hc := fun w => name_val nm w hs
    unfold headOk at hh
    simp only [Bool.and_eq_true, decide_eq_true_eq] at hh
    obtain ⟨hg, k1, k2, k3, k4, k5⟩ := hh
    rw [hg] at hc
    have HC := Lib.hid hc; clear hc hg
    have H0 := Lib.hid h0; clear h0
    have HP := Lib.hid hpa; clear hpa hcap
    have HS := Lib.hid hcs; clear hcs
    have hmm := @run_makeMap Tryd.prog
    unfold schV
    go_enter Tryd.func15, Tryd.ntmps15
    go_wp2_with fail
    refine (HC.out _).mono ?_
    rintro e w1 ⟨rfl, hb⟩
    have c1 := cell_later (v := .int .i64 k) hb (show World.cell? _ ⟨W.heap.size, 1, none⟩ = some (.int .i64 k) from by go_cell)
    have c2 := cell_later (v := .int .i64 srs) hb (show World.cell? _ ⟨W.heap.size, 2, none⟩ = some (.int .i64 srs) from by go_cell)
    have c3 := cell_later (v := .slice pa cs.length cap) hb (show World.cell? _ ⟨W.heap.size, 3, none⟩ = some (.slice pa cs.length cap) from by go_cell)
    have hB := below_step (show Below W.heap.size W _ from by go_grown) hb
    have hz : W.heap.size < w1.heap.size := by have := hb.size; simp at this; omega
    clear hb
    dsimp only
    go_wp2_with fail
    go_loopw [40] (fun i w' => GdR cs W w1.heap.size i w') (fun i _ => cs.length - (intOf i).toNat)
    case atStart => exact ⟨0, by omega, rfl, MapB.seen_made _ _ _ _, fun j hj => absurd hj (by omega), hB.alloc hB.size _, by simp⟩
    case round =>
      obtain ⟨i, hi, rfl, hseen, hok, hBr, hbl⟩ := hrel
      by_cases hp : i < cs.length
      · obtain rfl := HP.out (by omega)
        obtain ⟨c, hc⟩ : ∃ c, cs[i]? = some c := ⟨cs[i], List.getElem?_eq_getElem hp⟩
        have hsz := HS.out c (List.mem_of_getElem? hc)
        obtain ⟨x0, x1, x2⟩ := cols_stays H0.out hBr i c hc
        have HN1 := Lib.hid (fun h => okAt_bad hc h)
        have HN2 := Lib.hid (fun h => okAt_dup hc h)
        have HN3 := Lib.hid (fun h1 h2 => okAt_ok hc h1 h2)
        have HTK := Lib.hid (take_snocL hc)
        clear hc
        obtain ⟨cn, ck, cm⟩ := c
        have HSE := Lib.hid hseen; clear hseen
        have HOK := Lib.hid hok; clear hok
        have hcg := fun w => colgood_val cn ck cm w hsz
        dsimp only at x0 x1 x2
        cases hcol : colOk cn ck with
        | false =>
          have HF := Lib.hid (allOk_false hp (HN1.out hcol))
          rw [hcol] at hcg
          have HG := Lib.hid hcg; clear hcg hcol
          go_wp2_with fail
          refine (HG.out _).mono ?_
          rintro e w2 ⟨rfl, hb⟩
          have hB2 := below_step (show Below W.heap.size W _ from hBr.alloc hBr.size _) hb
          clear hb
          dsimp only
          go_wp2_with fail
          go_ret
          exact ⟨by rw [HF.out]; rfl, hB2⟩
        | true =>
          rw [hcol] at hcg
          have HG := Lib.hid hcg
          have HCL := Lib.hid hcol
          clear hcg hcol
          go_wp2_with fail
          refine (HG.out _).mono ?_
          rintro e w2 ⟨rfl, hb⟩
          have d0 := cell_later (v := .string cn) hb (show World.cell? _ ⟨wr.heap.size, 0, none⟩ = some (.string cn) from by go_cell)
          have hB2 := below_step (show Below W.heap.size W _ from hBr.alloc hBr.size _) hb
          have hsee : MapB.Seen Tryd.prog 9 4 w1.heap.size i (nmsR (cs.take i)) w2 := MapB.seen_block HSE.out ((hb.block _ (by simp; omega)).trans (hp_old _ _ _ _ hbl rfl))
          have hbl2 : w1.heap.size < w2.heap.size := by have := hb.size; simp at this; omega
          clear hb
          have hlk := MapB.seen_look hsee und95 Tryd.underlying9 Tryd.underlying4 (zero4 w2) cn hsz
          obtain ⟨w3, hput, hsee3, hgrow⟩ := MapB.seen_put hsee und95 Tryd.underlying9 Tryd.underlying4 (by omega) cn hsz
          have HSE3 := Lib.hid hsee3
          clear hsee hsee3
          by_cases hin : cn.toList ∈ nmsR (cs.take i)
          · rw [decide_eq_true hin] at hlk
            have HF := Lib.hid (allOk_false hp (HN2.out ((mem_nmsR _ _).1 hin)))
            clear hin hput hgrow
            dsimp only
            go_wp2_with fail
            go_ret
            exact ⟨by rw [HF.out]; rfl, hB2⟩
          · rw [decide_eq_false hin] at hlk
            have HREL := Lib.hid (show GdR cs W w1.heap.size (.int .i64 ((i + 1 : Nat) : Int)) w3 from
              ⟨i + 1, by omega, rfl, by rw [HTK.out, nmsR_snoc]; exact HSE3.out,
                fun j hj => by
                  by_cases e : j = i
                  · subst e; exact HN3.out HCL.out (fun h => hin ((mem_nmsR _ _).2 h))
                  · exact HOK.out j (by omega),
                hB2.grown hgrow hB2.size (fun q hq => by injection hq with hq; have := hB.size; omega), by have := hgrow.size; omega⟩)
            clear hin hgrow
            dsimp only
            go_wp2_with fail
            exact ⟨HREL.out, by simp [intOf]; omega⟩
      · obtain rfl : i = cs.length := by omega
        have HF := Lib.hid (allOk_true hok)
        clear hok
        go_wp2_with fail
        go_ret
        exact ⟨by rw [HF.out]; rfl, hBr⟩
end Go.Proofs.YtcjidlgmbjebjaaDoor

namespace Go.Proofs.YtcjidlgmbjebjaaDoor
open Go Go.RowKit
set_option maxHeartbeats 4000000 in
theorem refgood_bad (nm : ByteArray) (k srs : Int) (v0 : Value) (cs : List Col) (W : World) (hs : nm.size ≤ 9223372036854775807) (hv0 : ColsV W v0 cs) (hh : headOk nm k srs cs.length = false) :
    Calls Tryd.prog 16 #[schV nm k srs v0] W (RetS (.int .i64 2) W) := by
  obtain ⟨pa, b, o, cap, rfl, _⟩ := hv0
  have hc := fun w => refname_val nm w hs
  unfold headOk at hh
  unfold schV
  cases hg : Utf.nmOk nm with
  | false =>
    rw [hg] at hc
    have HC := Lib.hid hc; clear hc hg hh
    go_enter Tryd.func16, Tryd.ntmps16
    go_wp2_with fail
    refine (HC.out _).mono ?_
    rintro e w1 ⟨rfl, hb⟩
    have hB := below_step (show Below W.heap.size W _ from by go_grown) hb
    clear hb
    dsimp only
    go_wp2_with fail
    go_ret
    exact ⟨rfl, hB⟩
  | true =>
    rw [hg, Bool.true_and] at hh
    rw [hg] at hc
    have HC := Lib.hid hc; clear hc hg
    have h5 : k < 0 ∨ (0 ≤ k ∧ 7 < k) ∨ (0 ≤ k ∧ k ≤ 7 ∧ srs < -2147483648) ∨ (0 ≤ k ∧ k ≤ 7 ∧ -2147483648 ≤ srs ∧ 2147483647 < srs) ∨ (0 ≤ k ∧ k ≤ 7 ∧ -2147483648 ≤ srs ∧ srs ≤ 2147483647 ∧ 4 < cs.length) := by
      simp only [Bool.and_eq_false_iff, decide_eq_false_iff_not] at hh
      omega
    clear hh
    rcases h5 with k1 | ⟨k1, k2⟩ | ⟨k1, k2, k3⟩ | ⟨k1, k2, k3, k4⟩ | ⟨k1, k2, k3, k4, k5⟩
    all_goals
      go_enter Tryd.func16, Tryd.ntmps16
      go_wp2_with fail
      refine (HC.out _).mono ?_
      rintro e w1 ⟨rfl, hb⟩
      have c1 := cell_later (v := .int .i64 k) hb (show World.cell? _ ⟨W.heap.size, 1, none⟩ = some (.int .i64 k) from by go_cell)
      have c2 := cell_later (v := .int .i64 srs) hb (show World.cell? _ ⟨W.heap.size, 2, none⟩ = some (.int .i64 srs) from by go_cell)
      have c3 := cell_later (v := .slice pa cs.length cap) hb (show World.cell? _ ⟨W.heap.size, 3, none⟩ = some (.slice pa cs.length cap) from by go_cell)
      have hB := below_step (show Below W.heap.size W _ from by go_grown) hb
      clear hb
      dsimp only
      go_wp2_with fail
      go_ret
      exact ⟨rfl, hB⟩
end Go.Proofs.YtcjidlgmbjebjaaDoor

namespace Go.Proofs.YtcjidlgmbjebjaaDoor
open Go Go.RowKit
def RgR (cs : List Col) (W : World) (pa : Option Addr) (cap : Nat) (i : Value) (w' : World) : Prop :=
  ∃ k : Nat, k ≤ cs.length ∧ i = .int .i64 k ∧ (∀ j, j < k → okAt cs j = true) ∧ Below W.heap.size W w' ∧ w'.cell? ⟨W.heap.size, 3, none⟩ = some (.slice pa cs.length cap) ∧ W.heap.size < w'.heap.size
def RiR (cs : List Col) (W : World) (pa : Option Addr) (cap : Nat) (cn : ByteArray) (b i : Nat) (v : Value) (w' : World) : Prop :=
  ∃ j : Nat, j ≤ i ∧ v = .int .i64 j ∧ (¬ cn.toList ∈ (cs.take j).map (fun d => d.1.toList)) ∧ Below W.heap.size W w' ∧ w'.cell? ⟨W.heap.size, 3, none⟩ = some (.slice pa cs.length cap) ∧ w'.cell? ⟨b, 0, none⟩ = some (.string cn) ∧ b < w'.heap.size ∧ W.heap.size < w'.heap.size
theorem mem_take_of {cs : List Col} {i j : Nat} {d : Col} (hd : cs[j]? = some d) (hj : j < i) : d.1.toList ∈ (cs.take i).map (fun d => d.1.toList) := by
  refine List.mem_map.2 ⟨d, ?_, rfl⟩
  exact List.mem_of_getElem? (i := j) (by rw [List.getElem?_take, if_pos hj]; exact hd)
set_option maxHeartbeats 8000000 in
theorem srefgood_val (nm : ByteArray) (k srs : Int) (v0 : Value) (cs : List Col) (W : World) (hs : nm.size ≤ 9223372036854775807) (hcs : ∀ c ∈ cs, c.1.size ≤ 9223372036854775807) (hlen : cs.length ≤ 50) (hv0 : ColsV W v0 cs) :
    Calls Tryd.prog 16 #[schV nm k srs v0] W (RetS (.int .i64 (goodSch nm k srs cs)) W) := by
  cases hh : headOk nm k srs cs.length with
  | false =>
    rw [good_head hh]
    exact refgood_bad nm k srs v0 cs W hs hv0 hh
  | true =>
    rw [good_tail hh]
    obtain ⟨pa, b, o, cap, rfl, hcap, hpa, h0⟩ := hv0
    have hc := fun w => refname_val nm w hs
    unfold headOk at hh
    simp only [Bool.and_eq_true, decide_eq_true_eq] at hh
    obtain ⟨hg, k1, k2, k3, k4, k5⟩ := hh
    rw [hg] at hc
    have HC := Lib.hid hc; clear hc hg
    have H0 := Lib.hid h0; clear h0
    have HP := Lib.hid hpa; clear hpa
    have HS := Lib.hid hcs; clear hcs
    unfold schV
    go_enter Tryd.func16, Tryd.ntmps16
    go_wp2_with fail
    refine (HC.out _).mono ?_
    rintro e w1 ⟨rfl, hb⟩
    have c1 := cell_later (v := .int .i64 k) hb (show World.cell? _ ⟨W.heap.size, 1, none⟩ = some (.int .i64 k) from by go_cell)
    have c2 := cell_later (v := .int .i64 srs) hb (show World.cell? _ ⟨W.heap.size, 2, none⟩ = some (.int .i64 srs) from by go_cell)
    have c3 := cell_later (v := .slice pa cs.length cap) hb (show World.cell? _ ⟨W.heap.size, 3, none⟩ = some (.slice pa cs.length cap) from by go_cell)
    have hB := below_step (show Below W.heap.size W _ from by go_grown) hb
    have hz : W.heap.size < w1.heap.size := by have := hb.size; simp at this; omega
    clear hb
    dsimp only
    go_wp2_with fail
    go_loopw [40] (fun i w' => RgR cs W pa cap i w') (fun i _ => cs.length - (intOf i).toNat)
    case atStart => exact ⟨0, by omega, rfl, fun j hj => absurd hj (by omega), hB, c3, hz⟩
    case round =>
      obtain ⟨i, hi, rfl, hok, hBr, c3r, hzo⟩ := hrel
      obtain ⟨wo, rfl⟩ : ∃ wo : World, wo = wr := ⟨_, rfl⟩
      by_cases hp : i < cs.length
      · obtain rfl := HP.out (by omega)
        obtain ⟨c, hc⟩ : ∃ c, cs[i]? = some c := ⟨cs[i], List.getElem?_eq_getElem hp⟩
        have hsz := HS.out c (List.mem_of_getElem? hc)
        obtain ⟨x0, x1, x2⟩ := cols_stays H0.out hBr i c hc
        have HN1 := Lib.hid (fun h => okAt_bad hc h)
        have HN2 := Lib.hid (fun h => okAt_dup hc h)
        have HN3 := Lib.hid (fun h1 h2 => okAt_ok hc h1 h2)
        clear hc
        obtain ⟨cn, ck, cm⟩ := c
        have HOK := Lib.hid hok; clear hok
        have hcg := fun w => refname_val cn w hsz
        dsimp only at x0 x1 x2
        cases hcol : Utf.nmOk cn with
        | false =>
          have HF := Lib.hid (allOk_false hp (HN1.out (by show colOk cn ck = false; unfold colOk; rw [hcol]; rfl)))
          rw [hcol] at hcg
          have HG := Lib.hid hcg; clear hcg hcol
          go_wp2_with fail
          refine (HG.out _).mono ?_
          rintro e w2 ⟨rfl, hb⟩
          have hB2 := below_step (show Below W.heap.size W _ from hBr.alloc hBr.size _) hb
          clear hb
          dsimp only
          go_wp2_with fail
          go_ret
          exact ⟨by rw [HF.out]; rfl, hB2⟩
        | true =>
          rw [hcol] at hcg
          have HG := Lib.hid hcg
          by_cases hk : ck < 1 ∨ 3 < ck
          · have HF := Lib.hid (allOk_false hp (HN1.out (by show colOk cn ck = false; unfold colOk; rw [hcol]; simp; omega)))
            have hk' : ck < 1 ∨ (1 ≤ ck ∧ 3 < ck) := by omega
            clear hcg hcol hk
            rcases hk' with q1 | ⟨q1, q2⟩
            all_goals
              go_wp2_with fail
              refine (HG.out _).mono ?_
              rintro e w2 ⟨rfl, hb⟩
              have d1 := cell_later (v := .int .i64 ck) hb (show World.cell? _ ⟨wo.heap.size, 1, none⟩ = some (.int .i64 ck) from by go_cell)
              have hB2 := below_step (show Below W.heap.size W _ from hBr.alloc hBr.size _) hb
              clear hb
              dsimp only
              go_wp2_with fail
              go_ret
              exact ⟨by rw [HF.out]; rfl, hB2⟩
          · have q1 : 1 ≤ ck := by omega
            have q2 : ck ≤ 3 := by omega
            have HCL := Lib.hid (show colOk cn ck = true by unfold colOk; rw [hcol]; simp; omega)
            clear hcg hcol hk
            go_wp2_with fail
            refine (HG.out _).mono ?_
            rintro e w2 ⟨rfl, hb⟩
            have d0 := cell_later (v := .string cn) hb (show World.cell? _ ⟨wo.heap.size, 0, none⟩ = some (.string cn) from by go_cell)
            have d1 := cell_later (v := .int .i64 ck) hb (show World.cell? _ ⟨wo.heap.size, 1, none⟩ = some (.int .i64 ck) from by go_cell)
            have d3 := cell_later (v := .slice (some ⟨b, o, none⟩) cs.length cap) hb (show World.cell? _ ⟨W.heap.size, 3, none⟩ = some (.slice (some ⟨b, o, none⟩) cs.length cap) from by go_cell)
            have hB2 := below_step (show Below W.heap.size W _ from hBr.alloc hBr.size _) hb
            have hz2 : wo.heap.size < w2.heap.size := by have := hb.size; simp at this; omega
            have hz3 : W.heap.size < w2.heap.size := by omega
            clear hb
            dsimp only
            go_wp2_with fail
            go_loopw [64] (fun v w' => RiR cs W (some ⟨b, o, none⟩) cap cn wo.heap.size i v w') (fun v _ => i - (intOf v).toNat)
            case atStart => exact ⟨0, by omega, rfl, by simp, hB2, d3, d0, hz2, hz3⟩
            case round =>
              obtain ⟨j, hj, rfl, hno, hBj, e3, e0, hzb, hzw⟩ := hrel
              have HNO := Lib.hid hno; clear hno
              by_cases hq : j < i
              · obtain ⟨d, hd⟩ : ∃ d, cs[j]? = some d := ⟨cs[j]'(by omega), List.getElem?_eq_getElem (by omega)⟩
                obtain ⟨y0, y1, y2⟩ := cols_stays H0.out hBj j d hd
                have HM := Lib.hid (mem_take_of hd hq)
                have HT := Lib.hid (take_snocL hd)
                clear hd
                obtain ⟨dn, dk, dm⟩ := d
                dsimp only at y0 y1 y2
                have hBj2 := hBj.alloc hBj.size (.cells #[.string dn, .int .i64 dk, .bool dm] 94)
                by_cases he : cn.toList = dn.toList
                · have HF := Lib.hid (allOk_false hp (HN2.out (by have := HM.out; rw [show ((dn, dk, dm) : Col).1.toList = cn.toList from he.symm] at this; exact this)))
                  have he2 := beq_yes he
                  clear he
                  go_wp2_with fail
                  go_ret
                  exact ⟨by rw [HF.out]; rfl, hBj2⟩
                · have he2 := beq_no he
                  have HREL := Lib.hid (show ¬ cn.toList ∈ (cs.take (j + 1)).map (fun d => d.1.toList) by
                    rw [HT.out, List.map_append, List.mem_append]
                    rintro (h | h)
                    · exact HNO.out h
                    · simp at h; exact he h)
                  clear he
                  go_wp2_with fail
                  exact ⟨⟨j + 1, by omega, rfl, HREL.out, hBj2, by go_cell, by go_cell, by simp; omega, by simp; omega⟩, by simp [intOf]; omega⟩
              · obtain rfl : j = i := by omega
                have HREL := Lib.hid (show RgR cs W (some ⟨b, o, none⟩) cap (.int .i64 ((j + 1 : Nat) : Int)) wr from
                  ⟨j + 1, by omega, rfl, fun q hq => by
                    by_cases e : q = j
                    · subst e; exact HN3.out HCL.out HNO.out
                    · exact HOK.out q (by omega), hBj, e3, hzw⟩)
                go_wp2_with fail
                exact ⟨HREL.out, by simp [intOf]; omega⟩
      · obtain rfl : i = cs.length := by omega
        have HF := Lib.hid (allOk_true hok)
        clear hok
        go_wp2_with fail
        go_ret
        exact ⟨by rw [HF.out]; rfl, hBr⟩
end Go.Proofs.YtcjidlgmbjebjaaDoor

namespace Go.Proofs.YtcjidlgmbjebjaaDoor
open Go Go.RowKit
def EsR (n : Nat) (cs ds : List Col) (W : World) (p1 p2 : Value) (v : Value) (w' : World) : Prop :=
  ∃ i : Nat, i ≤ n ∧ v = .int .i64 i ∧ cs.take i = ds.take i ∧ Below W.heap.size W w' ∧ w'.cell? ⟨W.heap.size, 3, none⟩ = some p1 ∧ w'.cell? ⟨W.heap.size + 1, 3, none⟩ = some p2
theorem bne_no {l m : List UInt8} (h : l = m) : (l != m) = false := by subst h; simp
theorem bne_yes {l m : List UInt8} (h : ¬ l = m) : (l != m) = true := by rw [bne_iff_ne]; exact h
theorem bnei_yes {l m : Int} (h : ¬ l = m) : (l != m) = true := by rw [bne_iff_ne]; exact h
set_option maxHeartbeats 8000000 in
theorem refsame_val (n1 : ByteArray) (k1 r1 : Int) (v : Value) (cs : List Col) (n2 : ByteArray) (k2 r2 : Int) (v2 : Value) (ds : List Col) (W : World) (hl1 : cs.length ≤ 50) (hl2 : ds.length ≤ 50) (hv1 : ColsV W v cs) (hv2 : ColsV W v2 ds) :
    Calls Tryd.prog 20 #[schV n1 k1 r1 v, schV n2 k2 r2 v2] W (RetBool (sameSch n1 k1 r1 cs n2 k2 r2 ds) W) := by
  unfold schV
  obtain ⟨pa, b, o, cap, rfl, hcap, hpa, h1⟩ := hv1
  obtain ⟨pa2, b2, o2, cap2, rfl, hcap2, hpa2, h2⟩ := hv2
  have HP := Lib.hid hpa; clear hpa
  have HP2 := Lib.hid hpa2; clear hpa2
  clear hcap hcap2
  have H1 := Lib.hid h1; clear h1
  have H2 := Lib.hid h2; clear h2
  by_cases e1 : n1.toList = n2.toList
  case neg =>
    have f1 := beq_no e1
    have HR := Lib.hid (show sameSch n1 k1 r1 cs n2 k2 r2 ds = false by simp [sameSch, beq_no e1])
    clear e1
    go_enter Tryd.func20, Tryd.ntmps20
    go_wp2
    go_ret
    exact ⟨by rw [HR.out]; rfl, by go_grown⟩
  have g1 := beq_yes e1
  clear e1
  by_cases e2 : k1 = k2
  case neg =>
    have f2 := bnei_yes e2
    have HR := Lib.hid (show sameSch n1 k1 r1 cs n2 k2 r2 ds = false by simp [sameSch, e2])
    clear e2
    go_enter Tryd.func20, Tryd.ntmps20
    go_wp2
    go_ret
    exact ⟨by rw [HR.out]; rfl, by go_grown⟩
  subst e2
  by_cases e3 : r1 = r2
  case neg =>
    have f2 := bnei_yes e3
    have HR := Lib.hid (show sameSch n1 k1 r1 cs n2 k1 r2 ds = false by simp [sameSch, e3])
    clear e3
    go_enter Tryd.func20, Tryd.ntmps20
    go_wp2
    go_ret
    exact ⟨by rw [HR.out]; rfl, by go_grown⟩
  subst e3
  have HS := Lib.hid (show sameSch n1 k1 r1 cs n2 k1 r1 ds = decide (cs = ds) by simp [sameSch, g1])
  by_cases hl : cs.length = ds.length
  case neg =>
    have HR := Lib.hid (show decide (cs = ds) = false by rw [decide_eq_false_iff_not]; intro h; exact hl (by rw [h]))
    have hl3 : ((cs.length : Int) != (ds.length : Int)) = true := by rw [bne_iff_ne]; omega
    clear hl
    go_enter Tryd.func20, Tryd.ntmps20
    go_wp2
    go_ret
    exact ⟨by rw [HS.out, HR.out]; rfl, by go_grown⟩
  rw [HS.out]
  go_enter Tryd.func20, Tryd.ntmps20
  rw [← hl]
  have HLn := Lib.hid hl; clear hl
  go_wp2
  go_loopw [37] (fun v w' => EsR cs.length cs ds W (.slice pa cs.length cap) (.slice pa2 cs.length cap2) v w') (fun v _ => cs.length - (intOf v).toNat)
  case atStart => exact ⟨0, by omega, rfl, by simp, by go_grown, by go_cell, by go_cell⟩
  case round =>
    obtain ⟨i, hi, rfl, ht, hB, p3, q3⟩ := hrel
    by_cases hp : i < cs.length
    · have hp2 : i < ds.length := by have := HLn.out; omega
      obtain rfl := HP.out (by omega)
      obtain rfl := HP2.out (by omega)
      obtain ⟨c, hc⟩ : ∃ c, cs[i]? = some c := ⟨cs[i], List.getElem?_eq_getElem hp⟩
      obtain ⟨d, hd⟩ : ∃ d, ds[i]? = some d := ⟨ds[i]'hp2, List.getElem?_eq_getElem hp2⟩
      clear hp2
      obtain ⟨x0, x1, x2⟩ := cols_stays H1.out hB i c hc
      obtain ⟨y0, y1, y2⟩ := cols_stays H2.out hB i d hd
      have hnx := Lib.hid (fun he => take_next ht hc hd he)
      have hno : c ≠ d → decide (cs = ds) = false := fun hne => by
        rw [decide_eq_false_iff_not]; rintro rfl; rw [hc] at hd; exact hne (Option.some.inj hd)
      have hNO := Lib.hid hno
      clear hno hc hd ht
      obtain ⟨cn, ck, cm⟩ := c
      obtain ⟨dn, dk, dm⟩ := d
      dsimp only at x0 x1 x2 y0 y1 y2
      by_cases e1 : cn.toList = dn.toList
      · obtain rfl := byte_inj e1
        clear e1
        by_cases e2 : ck = dk
        · subst e2
          by_cases e3 : cm = dm
          · subst e3
            go_wp2_with fail
            go_region_held3 (fun w' => w'.cell? ⟨b, o + i * 3, none⟩ = some (.string cn) ∧ w'.cell? ⟨b, o + i * 3 + 1, none⟩ = some (.int .i64 ck) ∧ w'.cell? ⟨b, o + i * 3 + 2, none⟩ = some (.bool cm) ∧
    w'.cell? ⟨b2, o2 + i * 3, none⟩ = some (.string cn) ∧ w'.cell? ⟨b2, o2 + i * 3 + 1, none⟩ = some (.int .i64 ck) ∧ w'.cell? ⟨b2, o2 + i * 3 + 2, none⟩ = some (.bool cm) ∧
    w'.cell? ⟨W.heap.size, 3, none⟩ = some (.slice (some ⟨b, o, none⟩) cs.length cap) ∧ w'.cell? ⟨W.heap.size + 1, 3, none⟩ = some (.slice (some ⟨b2, o2, none⟩) cs.length cap2) ∧ Below W.heap.size W w')
              (first | (go_keep; done) | ((repeat' apply And.intro) <;> first | assumption | (rw [World.cell?_drew]; assumption) | (exact hB) | (exact below_drew hB)))
              (fail)
            rename_i hH
            obtain ⟨_, _, _, _, _, _, z3, z4, hB3⟩ := hH
            go_wp2_with fail
            exact ⟨⟨i + 1, by omega, rfl, by first | exact hnx.out rfl | exact hnx.out trivial | simpa using hnx.out, by first | exact hB3 | exact below_drew hB, by first | exact z3 | exact p3, by first | exact z4 | exact q3⟩, by simp [intOf]; omega⟩
          · have HF := Lib.hid (hNO.out (by simp [e3]))
            go_wp2_with fail
            go_region_held3 (fun w' => w'.cell? ⟨b, o + i * 3, none⟩ = some (.string cn) ∧ w'.cell? ⟨b, o + i * 3 + 1, none⟩ = some (.int .i64 ck) ∧ w'.cell? ⟨b, o + i * 3 + 2, none⟩ = some (.bool cm) ∧
    w'.cell? ⟨b2, o2 + i * 3, none⟩ = some (.string cn) ∧ w'.cell? ⟨b2, o2 + i * 3 + 1, none⟩ = some (.int .i64 ck) ∧ w'.cell? ⟨b2, o2 + i * 3 + 2, none⟩ = some (.bool dm) ∧
    w'.cell? ⟨W.heap.size, 3, none⟩ = some (.slice (some ⟨b, o, none⟩) cs.length cap) ∧ w'.cell? ⟨W.heap.size + 1, 3, none⟩ = some (.slice (some ⟨b2, o2, none⟩) cs.length cap2) ∧ Below W.heap.size W w')
              (first | (go_keep; done) | ((repeat' apply And.intro) <;> first | assumption | (rw [World.cell?_drew]; assumption) | (exact hB) | (exact below_drew hB)))
              (fail)
            rename_i hH
            obtain ⟨_, _, _, _, _, _, z3, z4, hB3⟩ := hH
            go_wp2_with fail
            go_ret
            exact ⟨by rw [HF.out]; rfl, hB3⟩
        · have HF := Lib.hid (hNO.out (by simp [e2]))
          go_wp2_with fail
          go_region_held3 (fun w' => w'.cell? ⟨b, o + i * 3, none⟩ = some (.string cn) ∧ w'.cell? ⟨b, o + i * 3 + 1, none⟩ = some (.int .i64 ck) ∧ w'.cell? ⟨b, o + i * 3 + 2, none⟩ = some (.bool cm) ∧
    w'.cell? ⟨b2, o2 + i * 3, none⟩ = some (.string cn) ∧ w'.cell? ⟨b2, o2 + i * 3 + 1, none⟩ = some (.int .i64 dk) ∧ w'.cell? ⟨b2, o2 + i * 3 + 2, none⟩ = some (.bool dm) ∧
    w'.cell? ⟨W.heap.size, 3, none⟩ = some (.slice (some ⟨b, o, none⟩) cs.length cap) ∧ w'.cell? ⟨W.heap.size + 1, 3, none⟩ = some (.slice (some ⟨b2, o2, none⟩) cs.length cap2) ∧ Below W.heap.size W w')
            (first | (go_keep; done) | ((repeat' apply And.intro) <;> first | assumption | (rw [World.cell?_drew]; assumption) | (exact hB) | (exact below_drew hB)))
            (fail)
          rename_i hH
          obtain ⟨_, _, _, _, _, _, z3, z4, hB3⟩ := hH
          go_wp2_with fail
          go_ret
          exact ⟨by rw [HF.out]; rfl, hB3⟩
      · have HF := Lib.hid (hNO.out (by intro h; exact e1 (by rw [(Prod.mk.inj h).1])))
        have e2 := beq_no e1
        go_wp2_with fail
        go_region_held3 (fun w' => w'.cell? ⟨b, o + i * 3, none⟩ = some (.string cn) ∧ w'.cell? ⟨b, o + i * 3 + 1, none⟩ = some (.int .i64 ck) ∧ w'.cell? ⟨b, o + i * 3 + 2, none⟩ = some (.bool cm) ∧
    w'.cell? ⟨b2, o2 + i * 3, none⟩ = some (.string dn) ∧ w'.cell? ⟨b2, o2 + i * 3 + 1, none⟩ = some (.int .i64 dk) ∧ w'.cell? ⟨b2, o2 + i * 3 + 2, none⟩ = some (.bool dm) ∧
    w'.cell? ⟨W.heap.size, 3, none⟩ = some (.slice (some ⟨b, o, none⟩) cs.length cap) ∧ w'.cell? ⟨W.heap.size + 1, 3, none⟩ = some (.slice (some ⟨b2, o2, none⟩) cs.length cap2) ∧ Below W.heap.size W w')
          (first | (go_keep; done) | ((repeat' apply And.intro) <;> first | assumption | (rw [World.cell?_drew]; assumption) | (exact hB) | (exact below_drew hB)))
          (fail)
        rename_i hH
        obtain ⟨_, _, _, _, _, _, z3, z4, hB3⟩ := hH
        go_wp2_with fail
        go_ret
        exact ⟨by rw [HF.out]; rfl, hB3⟩
    · obtain rfl : i = cs.length := by omega
      have HR := Lib.hid (show decide (cs = ds) = true by rw [decide_eq_true_iff, ← List.take_length (l := cs), ht, HLn.out, List.take_length])
      go_wp2
      go_ret
      exact ⟨by rw [HR.out]; rfl, hB⟩
end Go.Proofs.YtcjidlgmbjebjaaDoor

namespace Go.Proofs.YtcjidlgmbjebjaaDoor
open Go Go.Shelf
def Tryd.lays156_ren : Go.Shelf.Ren := ⟨fun | 156 => 55 | 165 => 110 | 166 => 111 | 169 => 112 | 240 => 147 | 241 => 148 | 276 => 180 | 277 => 181 | n => n, fun | 31 => 92 | 9 => 9 | 3 => 3 | 4 => 4 | 0 => 0 | 20 => 20 | 72 => 171 | 76 => 147 | 70 => 169 | 37 => 43 | 75 => 146 | 127 => 207 | 164 => 248 | 5 => 5 | 80 => 97 | n => n, fun | n => n⟩
theorem Tryd.lays156 : Go.Proofs.Lays.n156 Tryd.prog Tryd.lays156_ren := {
  mixed := by kernel_rfl
  f156 := Tryd.func55.trans (congrArg some (by kernel_rfl))
  f165 := Tryd.func110.trans (congrArg some (by kernel_rfl))
  f166 := Tryd.func111.trans (congrArg some (by kernel_rfl))
  f169 := Tryd.func112.trans (congrArg some (by kernel_rfl))
  f240 := Tryd.func147.trans (congrArg some (by kernel_rfl))
  f241 := Tryd.func148.trans (congrArg some (by kernel_rfl))
  f276 := Tryd.func180.trans (congrArg some (by kernel_rfl))
  f277 := Tryd.func181.trans (congrArg some (by kernel_rfl))
  t0 := Tryd.underlying0
  a0 := Tryd.isAgg0
  z0 := Tryd.sizeOf0
  v0 := Tryd.zeroValue0
  t3 := Tryd.underlying3
  a3 := Tryd.isAgg3
  z3 := Tryd.sizeOf3
  v3 := Tryd.zeroValue3
  t4 := Tryd.underlying4
  a4 := Tryd.isAgg4
  z4 := Tryd.sizeOf4
  v4 := Tryd.zeroValue4
  t9 := Tryd.underlying9
  a9 := Tryd.isAgg9
  z9 := Tryd.sizeOf9
  v9 := Tryd.zeroValue9
  t20 := Tryd.underlying20
  a20 := Tryd.isAgg20
  z20 := Tryd.sizeOf20
  v20 := Tryd.zeroValue20
  t31 := Tryd.underlying92
  a31 := Tryd.isAgg92
  z31 := Tryd.sizeOf92
  v31 := Tryd.zeroValue92
  t37 := Tryd.underlying43
  a37 := Tryd.isAgg43
  z37 := Tryd.sizeOf43
  v37 := Tryd.zeroValue43
  t70 := Tryd.underlying169
  a70 := Tryd.isAgg169
  z70 := Tryd.sizeOf169
  v70 := Tryd.zeroValue169
  t72 := Tryd.underlying171
  a72 := Tryd.isAgg171
  z72 := Tryd.sizeOf171
  v72 := Tryd.zeroValue171
  t75 := Tryd.underlying146
  a75 := Tryd.isAgg146
  z75 := Tryd.sizeOf146
  v75 := Tryd.zeroValue146
  t76 := Tryd.underlying147
  a76 := Tryd.isAgg147
  z76 := Tryd.sizeOf147
  v76 := Tryd.zeroValue147
  t127 := Tryd.underlying207
  a127 := Tryd.isAgg207
  z127 := Tryd.sizeOf207
  v127 := Tryd.zeroValue207
  t164 := Tryd.underlying248
  a164 := Tryd.isAgg248
  z164 := Tryd.sizeOf248
  v164 := Tryd.zeroValue248 }
theorem Tryd.Builder_Extra_156 : Builder.Extra Tryd.prog Tryd.lays156_ren := {
  sizeBuilder := by kernel_rfl
  liesBuilder := by kernel_rfl
  t5 := Tryd.underlying5
  a5 := Tryd.isAgg5
  z5 := Tryd.sizeOf5
  v5 := Tryd.zeroValue5
  infoByte := by kernel_rfl
  cellsByte := by kernel_rfl
  sizeByte := by kernel_rfl
  neB5 := by decide }
open Go.RowKit in
/-- No element: the empty string; the world is as it was. (Whatever the slice's address and capacity: a nil slice too.) (LAID: no walk: one application.) -/
theorem Tryd.strings_Join_none (a : Option Addr) (c : Nat) (sep : ByteArray) (w : World) :
    Calls Tryd.prog 55 #[.slice a 0 c, .string sep] w fun e w' => e = .returned (.string ⟨#[]⟩) ∧ w' = w := Any.strings_Join_none Tryd.lays156 Tryd.Builder_Extra_156 a c sep w
open Go.RowKit in
/-- strings.Join: "Join concatenates the elements of its first argument to create a single string. The separator string sep is placed between elements in the resulting string.": HOWEVER MANY ELEMENTS. Below the heap's end the world is as it was. (LAID: no walk: one application.) -/
theorem Tryd.strings_Join (bk o c : Nat) (xs : List ByteArray) (sep : ByteArray) (w : World) (hcells : ∀ (j : Nat) x, xs[j]? = some x → w.cell? ⟨bk, o + j, none⟩ = some (.string x)) (hbk : bk < w.heap.size) (hN : xs.length ≤ 140737488355328) (hcap : xs.length ≤ c) (hlen : (Lib.join (xs.map (·.data.toList)) sep.data.toList).length ≤ 140737488355328) :
    Calls Tryd.prog 55 #[.slice (some ⟨bk, o, none⟩) xs.length c, .string sep] w fun e w' => e = .returned (.string ⟨(Lib.join (xs.map (·.data.toList)) sep.data.toList).toArray⟩) ∧ Below w.heap.size w w' := Any.strings_Join Tryd.lays156 Tryd.Builder_Extra_156 bk o c xs sep w hcells hbk hN hcap hlen
end Go.Proofs.YtcjidlgmbjebjaaDoor
