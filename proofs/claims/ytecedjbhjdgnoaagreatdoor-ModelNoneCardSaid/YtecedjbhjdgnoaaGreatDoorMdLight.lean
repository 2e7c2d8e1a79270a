/- ModelNone's light: whatever the command, a bool comes back, and nothing that was there is changed. -/
import Derived.Test.YtecedjbhjdgnoaaGreatDoorProg
import Derived.WalkKit
import Derived.WalkSpells
import Derived.Below
import Derived.Outline
import Derived.Lib.Hide
import Derived.LoopTactic
set_option linter.unusedVariables false
set_option linter.unusedSimpArgs false
set_option maxRecDepth 100000
namespace Go.Proofs.YtecedjbhjdgnoaaGreatDoor
open Go Go.RowKit
def BoolBelow (W : World) (e : Ending) (w' : World) : Prop := (∃ r, e = .returned (.bool r)) ∧ Below W.heap.size W w'
def SomeInt (v : Value) : Prop := ∃ z, v = .int .i64 z
set_option maxHeartbeats 4000000 in
theorem light_total (W : World) (b o : Nat) (x0 : Int) (x1 : ByteArray) (x2 : Int) (x3 : Int) (x4 : ByteArray) (x5 : Int) (x6 : Int) (a7 : Option Addr) (l7 c7 : Nat) (x8 : Int) (a9 : Option Addr) (l9 c9 : Nat) (a10 : Option Addr) (l10 c10 : Nat) (x11 : Bool) (x12 : Int) (x13 : Int) (x14 : Int) (x15 : Int)
    (hbl : b < W.heap.size) (hs1 : x1.size ≤ 9223372036854775807) (hs4 : x4.size ≤ 9223372036854775807) (hs7 : l7 ≤ 9223372036854775807) (hs9 : l9 ≤ 9223372036854775807) (hs10 : l10 ≤ 9223372036854775807)
    (h0 : W.cell? ⟨b, o, none⟩ = some (.int .i64 x0))
    (h1 : W.cell? ⟨b, o + 1, none⟩ = some (.string x1))
    (h2 : W.cell? ⟨b, o + 2, none⟩ = some (.int .i64 x2))
    (h3 : W.cell? ⟨b, o + 3, none⟩ = some (.int .i64 x3))
    (h4 : W.cell? ⟨b, o + 4, none⟩ = some (.string x4))
    (h5 : W.cell? ⟨b, o + 5, none⟩ = some (.int .i64 x5))
    (h6 : W.cell? ⟨b, o + 6, none⟩ = some (.int .i64 x6))
    (h7 : W.cell? ⟨b, o + 7, none⟩ = some (.slice a7 l7 c7))
    (h8 : W.cell? ⟨b, o + 8, none⟩ = some (.int .i64 x8))
    (h9 : W.cell? ⟨b, o + 9, none⟩ = some (.slice a9 l9 c9))
    (h10 : W.cell? ⟨b, o + 10, none⟩ = some (.slice a10 l10 c10))
    (h11 : W.cell? ⟨b, o + 11, none⟩ = some (.bool x11))
    (h12 : W.cell? ⟨b, o + 12, none⟩ = some (.int .i64 x12))
    (h13 : W.cell? ⟨b, o + 13, none⟩ = some (.int .i64 x13))
    (h14 : W.cell? ⟨b, o + 14, none⟩ = some (.int .i64 x14))
    (h15 : W.cell? ⟨b, o + 15, none⟩ = some (.int .i64 x15)) :
    Calls Tryz.prog 4 #[.slice (some ⟨b, o, none⟩) 1 1, .int .i64 1] W (BoolBelow W) := by
  go_enter Tryz.func4, Tryz.ntmps4
  go_wp2
  go_loopw [5, 14] (fun z i wr => ∃ k : Nat, k ≤ 1 ∧ i = .int .i64 k ∧ SomeInt z ∧ Below W.heap.size W wr) (fun _ i _ => 1 - (intOf i).toNat)
  case atStart => exact ⟨0, by omega, rfl, ⟨_, rfl⟩, Below.refl _ _⟩
  case round =>
    obtain ⟨k, hk, rfl, ⟨z, rfl⟩, hb⟩ := hrel
    by_cases hlt : k < 1
    · obtain rfl : k = 0 := by omega
      have e0 := cell_later hb h0
      have e1 := cell_later hb h1
      have e2 := cell_later hb h2
      have e3 := cell_later hb h3
      have e4 := cell_later hb h4
      have e5 := cell_later hb h5
      have e6 := cell_later hb h6
      have e7 := cell_later hb h7
      have e8 := cell_later hb h8
      have e9 := cell_later hb h9
      have e10 := cell_later hb h10
      have e11 := cell_later hb h11
      have e12 := cell_later hb h12
      have e13 := cell_later hb h13
      have e14 := cell_later hb h14
      have e15 := cell_later hb h15
      clear h0 h1 h2 h3 h4 h5 h6 h7 h8 h9 h10 h11 h12 h13 h14 h15
      go_wp2
      all_goals first
        | (go_ret; exact ⟨⟨_, rfl⟩, hb.trans ((Below.refl _ _).alloc (by simpa using hb.size) _)⟩)
        | exact ⟨⟨1, by omega, rfl, ⟨_, rfl⟩, hb.alloc hb.size _⟩, by simp [intOf]⟩
    · go_wp2
      go_ret
      exact ⟨⟨_, rfl⟩, hb⟩
end Go.Proofs.YtecedjbhjdgnoaaGreatDoor
