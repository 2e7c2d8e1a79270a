import Derived.Test.YtcjidlgmbjebjaaDoorAskAo
import Derived.Test.YtcjidlgmbjebjaaDoorAskAr
set_option linter.unusedVariables false
set_option linter.unusedSimpArgs false
set_option maxRecDepth 100000
namespace Go.Proofs.YtcjidlgmbjebjaaDoor
open Go Go.RowKit
theorem types_stays {w w' : World} (h : TypesAt w) (hb : Below w.heap.size w w') : TypesAt w' :=
  ⟨cell_later hb h.1, cell_later hb h.2.1, cell_later hb h.2.2.1, cell_later hb h.2.2.2⟩
theorem forms_stays {w w' : World} (h : FormsAt w) (hb : Below w.heap.size w w') : FormsAt w' :=
  ⟨cell_later hb h.1, cell_later hb h.2.1, cell_later hb h.2.2.1, cell_later hb h.2.2.2.1, cell_later hb h.2.2.2.2.1, cell_later hb h.2.2.2.2.2.1, cell_later hb h.2.2.2.2.2.2⟩
def tyName (k : Int) : ByteArray := if k = 1 then ⟨#[105, 110, 116]⟩ else if k = 2 then ⟨#[116, 101, 120, 116]⟩ else if k = 3 then ⟨#[102, 108, 97, 103]⟩ else ⟨#[]⟩
def colText (nm : ByteArray) (k : Int) (m : Bool) : ByteArray := bif m then nm ++ ⟨#[58]⟩ ++ tyName k ++ ⟨#[33]⟩ else nm ++ ⟨#[58]⟩ ++ tyName k
theorem append_nil (a : ByteArray) : a ++ ⟨#[]⟩ = a := by
  apply ByteArray.ext; simp
set_option maxHeartbeats 2000000 in
theorem coltext_val (nm : ByteArray) (k : Int) (m : Bool) (W : World) (hs : nm.size ≤ 2000) (ht : TypesAt W) :
    Calls Tryd.prog 54 #[colV nm k m] W (RetS (.string (colText nm k m)) W) := by
  unfold colV
  have hT := types_stays ht ((Below.refl W.heap.size W).alloc (Nat.le_refl _) (.cells #[.string nm, .int .i64 k, .bool m] 90))
  obtain ⟨c0, c1, c2, c3⟩ := hT
  have hk : k < 0 ∨ k = 0 ∨ k = 1 ∨ k = 2 ∨ k = 3 ∨ 4 ≤ k := by omega
  have hn : k < 0 ∨ 4 ≤ k → tyName k = ⟨#[]⟩ := fun h => by unfold tyName; rw [if_neg (by omega), if_neg (by omega), if_neg (by omega)]
  rcases hk with hk | rfl | rfl | rfl | rfl | hk
  case inl =>
    have HN := Lib.hid (hn (.inl hk)); clear hn
    cases m
    all_goals
      go_enter Tryd.func54, Tryd.ntmps54
      go_wp2
      go_ret
      refine ⟨?_, ?_⟩
      · unfold colText; rw [HN.out, append_nil]; rfl
      · go_grown
  case inr.inr.inr.inr.inr =>
    have HN := Lib.hid (hn (.inr hk)); clear hn
    cases m
    all_goals
      go_enter Tryd.func54, Tryd.ntmps54
      go_wp2
      go_ret
      refine ⟨?_, ?_⟩
      · unfold colText; rw [HN.out, append_nil]; rfl
      · go_grown
  all_goals
    clear hn
    cases m
    all_goals
      go_enter Tryd.func54, Tryd.ntmps54
      go_wp2
      go_ret
      refine ⟨?_, ?_⟩
      · first | rfl | (unfold colText; simp [tyName, append_nil]; done)
      · go_grown
end Go.Proofs.YtcjidlgmbjebjaaDoor
