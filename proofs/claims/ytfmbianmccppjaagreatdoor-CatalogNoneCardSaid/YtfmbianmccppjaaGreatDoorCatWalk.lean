import Derived.Test.YtfmbianmccppjaaGreatDoorCatRest
set_option linter.unusedVariables false
set_option linter.unusedSimpArgs false
namespace Go.Proofs.YtfmbianmccppjaaGreatDoor
open Go Go.RowKit
def TrueBelow (W : World) (e : Ending) (w' : World) : Prop := e = .returned (.bool true) ∧ Below W.heap.size W w'
/-- What light is asked of: the columns of the entry. -/
def ColsOk (W : World) (ca : Option Addr) (cl : Nat) : Prop :=
  cl = 0 ∨ ∃ cb co, ca = some ⟨cb, co, none⟩ ∧ ∀ i, i < cl → ∃ (s : ByteArray) (kk : Int) (mm : Bool), s.size ≤ 9223372036854775807 ∧ W.cell? ⟨cb, co + i * 3, none⟩ = some (.string s) ∧ W.cell? ⟨cb, co + i * 3 + 1, none⟩ = some (.int .i64 kk) ∧ W.cell? ⟨cb, co + i * 3 + 2, none⟩ = some (.bool mm)
theorem ColsOk.later {W W' : World} {ca : Option Addr} {cl : Nat} (hb : Below W.heap.size W W') (h : ColsOk W ca cl) : ColsOk W' ca cl := by
  rcases h with h | ⟨cb, co, h1, h2⟩
  · exact .inl h
  · refine .inr ⟨cb, co, h1, fun i hi => ?_⟩
    obtain ⟨s, kk, mm, hs, c0, c1, c2⟩ := h2 i hi
    exact ⟨s, kk, mm, hs, cell_later hb c0, cell_later hb c1, cell_later hb c2⟩
theorem light_any (W : World) (b o : Nat) (kd id sk sr : Int) (nm sn : ByteArray) (ca : Option Addr) (cl cc : Nat)
    (hbl : b < W.heap.size) (hn : nm.size ≤ 9223372036854775807) (hs : sn.size ≤ 9223372036854775807) (hl : cl ≤ 9223372036854775807)
    (h0 : W.cell? ⟨b, o, none⟩ = some (.int .i64 kd)) (h1 : W.cell? ⟨b, o + 1, none⟩ = some (.int .i64 id)) (h2 : W.cell? ⟨b, o + 2, none⟩ = some (.string nm))
    (h3 : W.cell? ⟨b, o + 3, none⟩ = some (.string sn)) (h4 : W.cell? ⟨b, o + 4, none⟩ = some (.int .i64 sk)) (h5 : W.cell? ⟨b, o + 5, none⟩ = some (.int .i64 sr)) (h6 : W.cell? ⟨b, o + 6, none⟩ = some (.slice ca cl cc))
    (hcol : ColsOk W ca cl) : Calls Tryz.prog 5 #[.slice (some ⟨b, o, none⟩) 1 1] W (BoolBelow W) := by
  rcases hcol with rfl | ⟨cb, co, rfl, h⟩
  · exact light_nil W b o kd id sk sr nm sn ca cc hbl hn hs h0 h1 h2 h3 h4 h5 h6
  · exact light_total W b o kd id sk sr nm sn cb co cl cc hbl hn hs hl h0 h1 h2 h3 h4 h5 h6 h
set_option maxHeartbeats 1000000 in
theorem catalog_walk (W : World) (kd id sk sr : Int) (nm sn : ByteArray) (ca : Option Addr) (cl cc : Nat)
    (hn : nm.size ≤ 9223372036854775807) (hs : sn.size ≤ 9223372036854775807) (hl : cl ≤ 9223372036854775807) (hcol : ColsOk W ca cl)
    (hglob : ∀ w', Below W.heap.size W w' → ∀ base, Ev.GlobOk (Ev.Tryz.E base) w' 0 Ev.Tryz.g0)
    (hlives : ∀ w', Below W.heap.size W w' → Calls Tryz.prog 6 #[] w' (TrueBelow w')) :
    Calls Tryz.prog 3 #[.agg #[.int .i64 kd, .int .i64 id, .string nm, .string sn, .int .i64 sk, .int .i64 sr, .slice ca cl cc]] W (TrueBelow W) := by
  go_enter Tryz.func3, Tryz.ntmps3
  go_wp2_with fail
  have hb2 : Below W.heap.size W ((W.alloc (Obj.cells #[Value.int IntKind.i64 kd, Value.int IntKind.i64 id, Value.string nm, Value.string sn, Value.int IntKind.i64 sk, Value.int IntKind.i64 sr, Value.slice ca cl cc] 26)).alloc
      (Obj.cells #[Value.int IntKind.i64 kd, Value.int IntKind.i64 id, Value.string nm, Value.string sn, Value.int IntKind.i64 sk, Value.int IntKind.i64 sr, Value.slice ca cl cc] 26)) := by go_grown
  refine (light_any _ _ 0 kd id sk sr nm sn ca cl cc ?_ hn hs hl ?_ ?_ ?_ ?_ ?_ ?_ ?_ (hcol.later hb2)).mono ?_
  · simp
  iterate 7 (· go_cell)
  rintro _ w1 ⟨⟨r, rfl⟩, hb3⟩
  dsimp only
  rename_i K2 h2 K1 h1 K0 h0
  have H2 := Lib.hid h2; clear h2
  cases r with
  | false =>
    go_wp2_with fail
    refine (hlives w1 (hb2.trans (hb3.mono hb2.size))).mono ?_
    rintro _ w2 ⟨rfl, hb4⟩
    dsimp only
    go_wp2_with fail
    go_ret
    exact ⟨rfl, (hb2.trans (hb3.mono hb2.size)).trans (hb4.mono (hb2.trans (hb3.mono hb2.size)).size)⟩
  | true =>
    go_wp2_with fail
    refine H2.out _ _ ?_
    clear H2 K2
    have hbl : W.heap.size < w1.heap.size := Nat.lt_of_lt_of_le (by simp; omega) hb3.size
    have hcell : ∀ i v, (#[Value.int .i64 kd, Value.int .i64 id, Value.string nm, Value.string sn, Value.int .i64 sk, Value.int .i64 sr, Value.slice ca cl cc][i]? = some v) → w1.cell? ⟨W.heap.size, i, none⟩ = some v := fun i v hv => by
      rw [hb3.cell (by simp; omega)]
      rcases i with _ | _ | _ | _ | _ | _ | _ | i
      all_goals first | (obtain rfl := Option.some.inj hv; go_cell) | (simp at hv)
    have := Ev.Tryz.rest_wp (Q := bodyPost Tryz.prog Tryz.f3 (TrueBelow W)) (.slice (some ⟨W.heap.size + 1, 0, none⟩) 1 1) (.int .i64 kd) (.int .i64 id) (.string nm) (.string sn) (.int .i64 sk) (.int .i64 sr) (.slice ca cl cc) rfl rfl rfl rfl rfl rfl rfl rfl
      W.heap.size w1 hbl (hglob w1 (hb2.trans (hb3.mono hb2.size))) (hcell 0 _ rfl) (hcell 1 _ rfl) (hcell 2 _ rfl) (hcell 3 _ rfl) (hcell 4 _ rfl) (hcell 5 _ rfl) (hcell 6 _ rfl)
      (fun a' W' hd ht hb => by
        refine bodyPost_ret (results_tmp rfl _ _ _) hd ?_
        exact ⟨by rw [ht], (hb2.trans (hb3.mono hb2.size)).trans (hb.mono (hb2.trans (hb3.mono hb2.size)).size)⟩)
    exact this
end Go.Proofs.YtfmbianmccppjaaGreatDoor
