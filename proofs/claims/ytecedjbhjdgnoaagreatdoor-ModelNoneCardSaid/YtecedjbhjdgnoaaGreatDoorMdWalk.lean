/- ModelNone: the walk up to the test, the rest by the evaluator. -/
import Derived.Test.YtecedjbhjdgnoaaGreatDoorMdRest
import Derived.Test.YtecedjbhjdgnoaaGreatDoorMdLight
set_option linter.unusedVariables false
set_option linter.unusedSimpArgs false
set_option maxRecDepth 100000
namespace Go.Proofs.YtecedjbhjdgnoaaGreatDoor
open Go Go.RowKit
def TrueBelow (W : World) (e : Ending) (w' : World) : Prop := e = .returned (.bool true) ∧ Below W.heap.size W w'
set_option maxHeartbeats 4000000 in
theorem law_walk (W : World) (x0 : Int) (x1 : ByteArray) (x2 : Int) (x3 : Int) (x4 : ByteArray) (x5 : Int) (x6 : Int) (a7 : Option Addr) (l7 c7 : Nat) (x8 : Int) (a9 : Option Addr) (l9 c9 : Nat) (a10 : Option Addr) (l10 c10 : Nat) (x11 : Bool) (x12 : Int) (x13 : Int) (x14 : Int) (x15 : Int)
    (hs1 : x1.size ≤ 9223372036854775807) (hs4 : x4.size ≤ 9223372036854775807) (hs7 : l7 ≤ 9223372036854775807) (hs9 : l9 ≤ 9223372036854775807) (hs10 : l10 ≤ 9223372036854775807) 
    (hglob : ∀ w', Below W.heap.size W w' → ∀ base g x, Ev.Tryz.gsOf g = some x → Ev.GlobOk (Ev.Tryz.E base) w' g x)
    (hlives : ∀ w', Below W.heap.size W w' → Calls Tryz.prog 5 #[] w' (TrueBelow w')) :
    Calls Tryz.prog 3 #[.agg #[.int .i64 x0, .string x1, .int .i64 x2, .int .i64 x3, .string x4, .int .i64 x5, .int .i64 x6, .slice a7 l7 c7, .int .i64 x8, .slice a9 l9 c9, .slice a10 l10 c10, .bool x11, .int .i64 x12, .int .i64 x13, .int .i64 x14, .int .i64 x15]] W (TrueBelow W) := by
  go_enter Tryz.func3, Tryz.ntmps3
  go_wp2_with fail
  have hb2 : Below W.heap.size W ((W.alloc (Obj.cells #[Value.int IntKind.i64 x0, Value.string x1, Value.int IntKind.i64 x2, Value.int IntKind.i64 x3, Value.string x4, Value.int IntKind.i64 x5, Value.int IntKind.i64 x6, Value.slice a7 l7 c7, Value.int IntKind.i64 x8, Value.slice a9 l9 c9, Value.slice a10 l10 c10, Value.bool x11, Value.int IntKind.i64 x12, Value.int IntKind.i64 x13, Value.int IntKind.i64 x14, Value.int IntKind.i64 x15] 34)).alloc
      (Obj.cells #[Value.int IntKind.i64 x0, Value.string x1, Value.int IntKind.i64 x2, Value.int IntKind.i64 x3, Value.string x4, Value.int IntKind.i64 x5, Value.int IntKind.i64 x6, Value.slice a7 l7 c7, Value.int IntKind.i64 x8, Value.slice a9 l9 c9, Value.slice a10 l10 c10, Value.bool x11, Value.int IntKind.i64 x12, Value.int IntKind.i64 x13, Value.int IntKind.i64 x14, Value.int IntKind.i64 x15] 34)) := by go_grown
  refine (light_total _ _ 0 x0 x1 x2 x3 x4 x5 x6 a7 l7 c7 x8 a9 l9 c9 a10 l10 c10 x11 x12 x13 x14 x15 ?_ hs1 hs4 hs7 hs9 hs10 ?_ ?_ ?_ ?_ ?_ ?_ ?_ ?_ ?_ ?_ ?_ ?_ ?_ ?_ ?_ ?_).mono ?_
  · simp
  iterate 16 (· go_cell)
  rintro _ w1 ⟨⟨r, rfl⟩, hb3⟩
  dsimp only
  rename_i K2 h2 K1 h1 K0 h0
  have H2 := Lib.hid h2; clear h2
  cases r with
  | false =>
    go_wp2_with fail
    refine (hlives w1 (hb2.trans (hb3.mono hb2.size))).mono ?_
    rintro _ w2 ⟨rfl, hb4⟩
    dsimp only
    go_wp2_with fail
    go_ret
    exact ⟨rfl, (hb2.trans (hb3.mono hb2.size)).trans (hb4.mono (hb2.trans (hb3.mono hb2.size)).size)⟩
  | true =>
    go_wp2_with fail
    refine H2.out _ _ ?_
    clear H2 K2
    have hbl : W.heap.size < w1.heap.size := Nat.lt_of_lt_of_le (by simp; omega) hb3.size
    have hcell : ∀ (i : Nat) (v : Value), (#[Value.int IntKind.i64 x0, Value.string x1, Value.int IntKind.i64 x2, Value.int IntKind.i64 x3, Value.string x4, Value.int IntKind.i64 x5, Value.int IntKind.i64 x6, Value.slice a7 l7 c7, Value.int IntKind.i64 x8, Value.slice a9 l9 c9, Value.slice a10 l10 c10, Value.bool x11, Value.int IntKind.i64 x12, Value.int IntKind.i64 x13, Value.int IntKind.i64 x14, Value.int IntKind.i64 x15][i]? = some v) → w1.cell? ⟨W.heap.size, i, none⟩ = some v := fun i v hv => by
      rw [hb3.cell (by simp; omega)]
      rcases i with _ | _ | _ | _ | _ | _ | _ | _ | _ | _ | _ | _ | _ | _ | _ | _ | i
      all_goals first | (obtain rfl := Option.some.inj hv; go_cell) | (simp at hv)
    have := Ev.Tryz.rest_wp (Q := bodyPost Tryz.prog Tryz.f3 (TrueBelow W)) (.slice (some ⟨W.heap.size + 1, 0, none⟩) 1 1) x0 (.string x1) (.int .i64 x2) (.int .i64 x3) (.string x4) (.int .i64 x5) (.int .i64 x6) (.slice a7 l7 c7) (.int .i64 x8) (.slice a9 l9 c9) (.slice a10 l10 c10) (.bool x11) (.int .i64 x12) (.int .i64 x13) (.int .i64 x14) (.int .i64 x15) rfl rfl rfl rfl rfl rfl rfl rfl rfl rfl rfl rfl rfl rfl rfl rfl
      W.heap.size w1 hbl (hglob w1 (hb2.trans (hb3.mono hb2.size))) (hcell 0 _ rfl) (hcell 1 _ rfl) (hcell 2 _ rfl) (hcell 3 _ rfl) (hcell 4 _ rfl) (hcell 5 _ rfl) (hcell 6 _ rfl) (hcell 7 _ rfl) (hcell 8 _ rfl) (hcell 9 _ rfl) (hcell 10 _ rfl) (hcell 11 _ rfl) (hcell 12 _ rfl) (hcell 13 _ rfl) (hcell 14 _ rfl) (hcell 15 _ rfl)
      (fun a' W' hd ht hb => by
        refine bodyPost_ret (results_tmp rfl _ _ _) hd ?_
        exact ⟨by rw [ht], (hb2.trans (hb3.mono hb2.size)).trans (hb.mono (hb2.trans (hb3.mono hb2.size)).size)⟩)
    exact this
end Go.Proofs.YtecedjbhjdgnoaaGreatDoor
