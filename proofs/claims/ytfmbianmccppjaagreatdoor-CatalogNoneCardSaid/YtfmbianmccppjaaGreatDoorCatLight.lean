import Derived.Test.YtfmbianmccppjaaGreatDoorProg
import Derived.WalkKit
import Derived.WalkSpells
import Derived.Below
import Derived.Outline
import Derived.Lib.Hide
import Derived.LoopTactic
set_option linter.unusedVariables false
set_option linter.unusedSimpArgs false
namespace Go.Proofs.YtfmbianmccppjaaGreatDoor
open Go Go.RowKit
def BoolBelow (W : World) (e : Ending) (w' : World) : Prop := (∃ r, e = .returned (.bool r)) ∧ Below W.heap.size W w'
set_option maxHeartbeats 1000000 in
theorem light_total (W : World) (b o : Nat) (kd id sk sr : Int) (nm sn : ByteArray) (cb co cl cc : Nat)
    (hbl : b < W.heap.size) (hn : nm.size ≤ 9223372036854775807) (hs : sn.size ≤ 9223372036854775807) (hl : cl ≤ 9223372036854775807)
    (h0 : W.cell? ⟨b, o, none⟩ = some (.int .i64 kd)) (h1 : W.cell? ⟨b, o + 1, none⟩ = some (.int .i64 id)) (h2 : W.cell? ⟨b, o + 2, none⟩ = some (.string nm))
    (h3 : W.cell? ⟨b, o + 3, none⟩ = some (.string sn)) (h4 : W.cell? ⟨b, o + 4, none⟩ = some (.int .i64 sk)) (h5 : W.cell? ⟨b, o + 5, none⟩ = some (.int .i64 sr)) (h6 : W.cell? ⟨b, o + 6, none⟩ = some (.slice (some ⟨cb, co, none⟩) cl cc))
    (hcol : ∀ i, i < cl → ∃ (s : ByteArray) (kk : Int) (mm : Bool), s.size ≤ 9223372036854775807 ∧ W.cell? ⟨cb, co + i * 3, none⟩ = some (.string s) ∧ W.cell? ⟨cb, co + i * 3 + 1, none⟩ = some (.int .i64 kk) ∧ W.cell? ⟨cb, co + i * 3 + 2, none⟩ = some (.bool mm)) :
    Calls Tryz.prog 5 #[.slice (some ⟨b, o, none⟩) 1 1] W (BoolBelow W) := by
  go_enter Tryz.func5, Tryz.ntmps5
  go_wp2
  go_loopw [12] (fun i wr => ∃ k : Nat, k ≤ 1 ∧ i = .int .i64 k ∧ Below W.heap.size W wr) (fun i _ => 1 - (intOf i).toNat)
  case atStart => exact ⟨0, by omega, rfl, Below.refl _ _⟩
  case round =>
    obtain ⟨k, hk, rfl, hb⟩ := hrel
    by_cases hlt : k < 1
    · obtain rfl : k = 0 := by omega
      have e0 := cell_later hb h0
      have e1 := cell_later hb h1
      have e2 := cell_later hb h2
      have e3 := cell_later hb h3
      have e4 := cell_later hb h4
      have e5 := cell_later hb h5
      have e6 := cell_later hb h6
      clear h0 h1 h2 h3 h4 h5 h6
      have HC := Lib.hid hcol; clear hcol
      go_wp2
      all_goals try (go_ret; exact ⟨⟨_, rfl⟩, hb.trans ((Below.refl _ _).alloc (by simpa using hb.size) _)⟩)
      go_loopw [38] (fun j wr2 => ∃ m : Nat, m ≤ cl ∧ j = .int .i64 m ∧ Below W.heap.size W wr2) (fun j _ => cl - (intOf j).toNat)
      case atStart => exact ⟨0, by omega, rfl, hb.alloc hb.size _⟩
      case round =>
        obtain ⟨m, hm, rfl, hb2⟩ := hrel
        by_cases hm2 : m < cl
        · obtain ⟨s, kk, mm, hss, c0, c1, c2⟩ := HC.out m hm2
          have c0 := cell_later hb2 c0
          have c1 := cell_later hb2 c1
          have c2 := cell_later hb2 c2
          go_wp2
          · go_ret
            exact ⟨⟨_, rfl⟩, hb2.alloc hb2.size _⟩
          · exact ⟨⟨m + 1, by omega, by go_num, hb2.alloc hb2.size _⟩, by simp [intOf]; omega⟩
        · go_wp2
          exact ⟨⟨1, by omega, rfl, hb2⟩, by simp [intOf]⟩
    · go_wp2
      go_ret
      exact ⟨⟨_, rfl⟩, hb⟩
set_option maxHeartbeats 1000000 in
theorem light_nil (W : World) (b o : Nat) (kd id sk sr : Int) (nm sn : ByteArray) (ca : Option Addr) (cc : Nat)
    (hbl : b < W.heap.size) (hn : nm.size ≤ 9223372036854775807) (hs : sn.size ≤ 9223372036854775807)
    (h0 : W.cell? ⟨b, o, none⟩ = some (.int .i64 kd)) (h1 : W.cell? ⟨b, o + 1, none⟩ = some (.int .i64 id)) (h2 : W.cell? ⟨b, o + 2, none⟩ = some (.string nm))
    (h3 : W.cell? ⟨b, o + 3, none⟩ = some (.string sn)) (h4 : W.cell? ⟨b, o + 4, none⟩ = some (.int .i64 sk)) (h5 : W.cell? ⟨b, o + 5, none⟩ = some (.int .i64 sr)) (h6 : W.cell? ⟨b, o + 6, none⟩ = some (.slice ca 0 cc)) :
    Calls Tryz.prog 5 #[.slice (some ⟨b, o, none⟩) 1 1] W (BoolBelow W) := by
  go_enter Tryz.func5, Tryz.ntmps5
  go_wp2
  go_loopw [12] (fun i wr => ∃ k : Nat, k ≤ 1 ∧ i = .int .i64 k ∧ Below W.heap.size W wr) (fun i _ => 1 - (intOf i).toNat)
  case atStart => exact ⟨0, by omega, rfl, Below.refl _ _⟩
  case round =>
    obtain ⟨k, hk, rfl, hb⟩ := hrel
    by_cases hlt : k < 1
    · obtain rfl : k = 0 := by omega
      have e0 := cell_later hb h0
      have e1 := cell_later hb h1
      have e2 := cell_later hb h2
      have e3 := cell_later hb h3
      have e4 := cell_later hb h4
      have e5 := cell_later hb h5
      have e6 := cell_later hb h6
      clear h0 h1 h2 h3 h4 h5 h6
      go_wp2
      all_goals try (go_ret; exact ⟨⟨_, rfl⟩, hb.trans ((Below.refl _ _).alloc (by simpa using hb.size) _)⟩)
      go_loopw [38] (fun j wr2 => ∃ m : Nat, m ≤ 0 ∧ j = .int .i64 m ∧ Below W.heap.size W wr2) (fun j _ => 0 - (intOf j).toNat)
      case atStart => exact ⟨0, by omega, rfl, hb.alloc hb.size _⟩
      case round =>
        obtain ⟨m, hm, rfl, hb2⟩ := hrel
        obtain rfl : m = 0 := by omega
        go_wp2
        exact ⟨⟨1, by omega, rfl, hb2⟩, by simp [intOf]⟩
    · go_wp2
      go_ret
      exact ⟨⟨_, rfl⟩, hb⟩
end Go.Proofs.YtfmbianmccppjaaGreatDoor
