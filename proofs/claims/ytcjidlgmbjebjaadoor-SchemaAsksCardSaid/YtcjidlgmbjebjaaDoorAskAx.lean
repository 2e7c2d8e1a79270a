import Derived.Test.YtcjidlgmbjebjaaDoorAskAw
set_option linter.unusedVariables false
set_option linter.unusedSimpArgs false
set_option maxRecDepth 100000
namespace Go.Proofs.YtcjidlgmbjebjaaDoor
open Go Go.RowKit
theorem colinfo : Option.map (fun i => (i.zero, i.size, i.bytes)) (Tryd.prog.info? 94) = some (some (.agg #[.string ⟨#[]⟩, .int .i64 0, .bool false]), 3, 32) := by kernel_rfl
def PlR (nm : ByteArray) (kd srs : Int) (cs : List Col) (W : World) (i : Value) (w' : World) : Prop :=
  ∃ (k : Nat) (v : Value), k ≤ cs.length ∧ i = .int .i64 k ∧ w'.heap[W.heap.size + 1 + 1]? = some (.cells #[.string nm, .int .i64 kd, .int .i64 srs, v] 32 (0, 0)) ∧
    w'.heap[W.heap.size + 1]? = some (.cells #[.string ⟨#[]⟩, .int .i64 0, .int .i64 0, .slice none 0 0] 32 (0, 0)) ∧ w'.ownsRow (W.heap.size + 3) 94 3 v k (flat (cs.take k)) ∧ Below W.heap.size W w'
def RetPlain (nm : ByteArray) (kd srs : Int) (cs : List Col) (W : World) (e : Ending) (w' : World) : Prop := ∃ v, e = .returned (.agg #[.string nm, .int .i64 kd, .int .i64 srs, v]) ∧ ColsV w' v cs ∧ Below W.heap.size W w'
theorem take_snocL {cs : List Col} {k : Nat} {c : Col} (h : cs[k]? = some c) : cs.take (k + 1) = cs.take k ++ [c] := by
  obtain ⟨hi, rfl⟩ := List.getElem?_eq_some_iff.1 h
  rw [List.take_succ_eq_append_getElem hi]
theorem hp_new (w : World) (o : Obj) (n : Nat) (h : n = w.heap.size) : (w.alloc o).heap[n]? = some o := by subst h; exact (MapKept.heap_alloc w o).1
theorem hp_old (w : World) (o : Obj) (i : Nat) (x : Option Obj) (h : i < w.heap.size) (hx : w.heap[i]? = x) : (w.alloc o).heap[i]? = x := by rw [Lib.alloc_old w o i h]; exact hx
theorem own_set {w : World} {base e s n : Nat} {v : Value} {xs : List Value} (h : w.ownsRow base e s v n xs) (b i : Nat) (u : Value) (hb : b < base) : (w.setCell ⟨b, i, none⟩ u).ownsRow base e s v n xs :=
  h.kept (row := some b) ⟨rfl, rfl, rfl, by simp [World.setCell], fun k _ hk => heap_setCell_other _ _ _ _ (fun e => hk (by simp [e]))⟩ (by
    cases hv : v.ownBlock with
    | none => exact .inl rfl
    | some k =>
      refine .inr fun e => ?_
      have := h.lt k hv
      injection e with e
      omega)
set_option maxHeartbeats 2000000 in
theorem plain_val (nm : ByteArray) (kd srs : Int) (v0 : Value) (cs : List Col) (W : World) (hlen : cs.length ≤ 50) (hv0 : ColsV W v0 cs) :
    Calls Tryd.prog 14 #[schV nm kd srs v0] W (RetPlain nm kd srs cs W) := by
  obtain ⟨pa, b, o, cap, rfl, hcap, hpa, h0⟩ := hv0
  obtain ⟨i0, hi, hz0, hz1, hz2⟩ := info_parts colinfo
  unfold schV
  have H0 := Lib.hid h0; clear h0
  have HP := Lib.hid hpa; clear hpa hcap
  go_enter Tryd.func14, Tryd.ntmps14
  go_wp2
  go_loopw [16] (fun i w' => PlR nm kd srs cs W i w') (fun i _ => cs.length - (intOf i).toNat)
  case atStart =>
    refine ⟨0, .slice none 0 0, by omega, rfl, ?_, ?_, World.ownsRow_nil _ _ _ _, by go_grown⟩
    · exact hp_new _ _ _ (by simp)
    · exact hp_old _ _ _ _ (by simp) (hp_new _ _ _ (by simp))
  case round =>
    obtain ⟨k, v, hk, rfl, hb2, hb1, hown, hB⟩ := hrel
    by_cases hp : k < cs.length
    · obtain rfl := HP.out (by omega)
      obtain ⟨c, hc⟩ : ∃ c, cs[k]? = some c := ⟨cs[k], List.getElem?_eq_getElem hp⟩
      have HC := Lib.hid hc
      obtain ⟨x0, x1, x2⟩ := cols_stays H0.out hB k c hc
      clear hc
      obtain ⟨cn, ck, cm⟩ := c
      dsimp only at x0 x1 x2
      have lt2 : W.heap.size + 1 + 1 < wr.heap.size := (Array.getElem?_eq_some_iff.1 hb2).1
      have c3 : wr.cell? ⟨W.heap.size + 1 + 1, 3, none⟩ = some v := by rw [Lib.cell_of_heap hb2]; rfl
      have HB1 := Lib.hid hb1; have HB2 := Lib.hid hb2; clear hb1 hb2
      have HO := Lib.hid hown; clear hown
      go_wp2_with (at_builtin; refine wpList_append_own _ rfl _ _ 30 rfl (W.heap.size + 3) 94 i0 _ 3 32 Tryd.underlying30 hi hz0 hz1 hz2 rfl (by decide) _ _ _ rfl ((HO.out.alloc _).alloc _) ⟨wr.heap.size + 1, 0, none⟩ 1 1 [.string cn, .int .i64 ck, .bool cm] rfl rfl ?d1 ?c2 ?c3 ?c4 ?c5 ?_)
      case c2 => exact ⟨rfl, rfl, rfl⟩
      case c3 => unfold maxLen; omega
      case c4 => omega
      case c5 => have := hB.size; simp; omega
      intro v' w2 hown' hgrow _
      obtain ⟨g, cap', rfl⟩ : ∃ g cap', v' = .slice (some ⟨g, 0, none⟩) (k + 1) cap' := by
        rcases hown'.2 with ⟨_, h0⟩ | ⟨g, cap, cur, hv, _⟩
        · omega
        · exact ⟨g, cap, hv⟩
      have hno : ∀ q : Nat, q < W.heap.size + 3 → some q ≠ v.ownBlock := fun q hq e => by have := HO.out.lt q e.symm; omega
      have hb2 : w2.heap[W.heap.size + 1 + 1]? = some (.cells #[.string nm, .int .i64 kd, .int .i64 srs, v] 32 (0, 0)) :=
        (hgrow.block _ (by simp; omega) (hno _ (by omega))).trans (hp_old _ _ _ _ (by simp; omega) (hp_old _ _ _ _ (by omega) HB2.out))
      have hb1 : w2.heap[W.heap.size + 1]? = some (.cells #[.string ⟨#[]⟩, .int .i64 0, .int .i64 0, .slice none 0 0] 32 (0, 0)) :=
        (hgrow.block _ (by simp; omega) (hno _ (by omega))).trans (hp_old _ _ _ _ (by simp; omega) (hp_old _ _ _ _ (by omega) HB1.out))
      have hB2 : Below W.heap.size W w2 := ((hB.alloc (by omega) _).alloc (by simp; omega) _).grown hgrow (by simp; omega) (fun q hq => by have := HO.out.lt q hq; omega)
      have d3 : w2.cell? ⟨W.heap.size + 1 + 1, 3, none⟩ = some v := by rw [Lib.cell_of_heap hb2]; rfl
      have f3 : w2.frozen? ⟨W.heap.size + 1 + 1, 3, none⟩ = false := Lib.frozen_of_heap hb2 3
      have HREL := Lib.hid (show PlR nm kd srs cs W (.int .i64 ((k + 1 : Nat) : Int)) (w2.setCell ⟨W.heap.size + 1 + 1, 3, none⟩ (.slice (some ⟨g, 0, none⟩) (k + 1) cap')) from
        ⟨k + 1, _, by omega, rfl, heap_setCell_same _ _ _ _ _ _ hb2, by rw [heap_setCell_other _ _ _ _ (by simp)]; exact hb1,
          by rw [take_snocL HC.out, flat_snoc]; exact own_set hown' _ _ _ (by omega), hB2.setCell (by simp; omega) _⟩)
      clear hb1 hb2 hB2 hown' hgrow hno
      go_wp2
      exact ⟨HREL.out, by simp [intOf]; omega⟩
    · obtain rfl : k = cs.length := by omega
      rw [List.take_length] at hown
      obtain ⟨p, q, c, rfl⟩ : ∃ p q c, v = .slice p q c := by
        rcases hown.2 with ⟨hv, _⟩ | ⟨g, cap, cur, hv, _⟩
        · exact ⟨_, _, _, hv⟩
        · exact ⟨_, _, _, hv⟩
      have a0 : wr.cell? ⟨W.heap.size + 1 + 1, 0, none⟩ = some (.string nm) := by rw [Lib.cell_of_heap hb2]; rfl
      have a1 : wr.cell? ⟨W.heap.size + 1 + 1, 1, none⟩ = some (.int .i64 kd) := by rw [Lib.cell_of_heap hb2]; rfl
      have a2 : wr.cell? ⟨W.heap.size + 1 + 1, 2, none⟩ = some (.int .i64 srs) := by rw [Lib.cell_of_heap hb2]; rfl
      have a3 : wr.cell? ⟨W.heap.size + 1 + 1, 3, none⟩ = some (.slice p q c) := by rw [Lib.cell_of_heap hb2]; rfl
      have b0 : wr.cell? ⟨W.heap.size + 1, 0, none⟩ = some (.string ⟨#[]⟩) := by rw [Lib.cell_of_heap hb1]; rfl
      have b1 : wr.cell? ⟨W.heap.size + 1, 1, none⟩ = some (.int .i64 0) := by rw [Lib.cell_of_heap hb1]; rfl
      have b2 : wr.cell? ⟨W.heap.size + 1, 2, none⟩ = some (.int .i64 0) := by rw [Lib.cell_of_heap hb1]; rfl
      have b3 : wr.cell? ⟨W.heap.size + 1, 3, none⟩ = some (.slice none 0 0) := by rw [Lib.cell_of_heap hb1]; rfl
      have f0 : wr.frozen? ⟨W.heap.size + 1, 0, none⟩ = false := Lib.frozen_of_heap hb1 0
      have f1 : wr.frozen? ⟨W.heap.size + 1, 1, none⟩ = false := Lib.frozen_of_heap hb1 1
      have f2 : wr.frozen? ⟨W.heap.size + 1, 2, none⟩ = false := Lib.frozen_of_heap hb1 2
      have f3 : wr.frozen? ⟨W.heap.size + 1, 3, none⟩ = false := Lib.frozen_of_heap hb1 3
      have HC := Lib.hid hown
      clear hb1 hb2 hown
      go_wp2
      refine bodyPost_ret (v := schV nm kd srs (.slice p q c)) (by simp [results, Tryd.results14, go_sem, schV, b0, b1, b2, b3]) rfl ⟨_, rfl, own_cols (own_set (own_set (own_set (own_set HC.out _ _ _ ?_) _ _ _ ?_) _ _ _ ?_) _ _ _ ?_) rfl, (((hB.setCell ?_ _).setCell ?_ _).setCell ?_ _).setCell ?_ _⟩
      all_goals (simp; try omega)
end Go.Proofs.YtcjidlgmbjebjaaDoor
