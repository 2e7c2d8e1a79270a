import Derived.Test.YtcjidlgmbjebjaaDoorAskAv
import Derived.Test.YtcjidlgmbjebjaaDoorAskAq
set_option linter.unusedVariables false
set_option linter.unusedSimpArgs false
set_option maxRecDepth 100000
namespace Go.Proofs.YtcjidlgmbjebjaaDoor
open Go Go.RowKit
def flat (cs : List Col) : List Value := cs.flatMap fun c => [.string c.1, .int .i64 c.2.1, .bool c.2.2]
theorem flat_len (cs : List Col) : (flat cs).length = cs.length * 3 := by
  induction cs with
  | nil => rfl
  | cons c cs ih => simp [flat] at *; omega
theorem flat_snoc (cs : List Col) (c : Col) : flat (cs ++ [c]) = flat cs ++ [.string c.1, .int .i64 c.2.1, .bool c.2.2] := by simp [flat]
theorem flat_get (cs : List Col) : ∀ (i : Nat) (c : Col), cs[i]? = some c → (flat cs)[i * 3]? = some (.string c.1) ∧ (flat cs)[i * 3 + 1]? = some (.int .i64 c.2.1) ∧ (flat cs)[i * 3 + 2]? = some (.bool c.2.2) := by
  induction cs with
  | nil => intro i c h; simp at h
  | cons d cs ih =>
    intro i c h
    cases i with
    | zero => simp at h; subst h; simp [flat]
    | succ i =>
      simp at h
      obtain ⟨h1, h2, h3⟩ := ih i c h
      have e : ∀ j, (flat (d :: cs))[j + 3]? = (flat cs)[j]? := fun j => by
        show ([Value.string d.1, .int .i64 d.2.1, .bool d.2.2] ++ flat cs)[j + 3]? = _
        rw [List.getElem?_append_right (by simp)]; simp
      rw [show (i + 1) * 3 = i * 3 + 3 by omega, show i * 3 + 3 + 1 = i * 3 + 1 + 3 by omega, show i * 3 + 3 + 2 = i * 3 + 2 + 3 by omega, e, e, e]
      exact ⟨h1, h2, h3⟩
theorem own_cols {w : World} {base e n : Nat} {v : Value} {cs : List Col} (h : w.ownsRow base e 3 v n (flat cs)) (hn : cs.length = n) : ColsV w v cs := by
  have h0 := h
  obtain ⟨_, ⟨hv, h2⟩ | ⟨g, cap, cur, hv, hg, hb, hcap, _⟩⟩ := h
  · obtain rfl : cs = [] := List.eq_nil_of_length_eq_zero (by omega)
    exact ⟨none, 0, 0, 0, hv, Nat.le_refl _, fun h => absurd h (by simp), fun i c hc => by simp at hc⟩
  · subst hn
    refine ⟨some ⟨g, 0, none⟩, g, 0, cap, hv, hcap, fun _ => rfl, fun i c hc => ?_⟩
    obtain ⟨h1, h2, h3⟩ := flat_get cs i c hc
    have hgc := h0.cells (g := g) (by rw [hv]; rfl)
    have g1 := hgc _ _ h1
    have g2 := hgc _ _ h2
    have g3 := hgc _ _ h3
    have ha : ∀ j, (⟨g, 0, none⟩ : Addr).add j = ⟨g, 0 + j, none⟩ := fun j => by
      unfold Addr.add
      split <;> simp_all
    rw [ha] at g1 g2 g3
    exact ⟨g1, by rw [Nat.add_assoc]; exact g2, by rw [Nat.add_assoc]; exact g3⟩
end Go.Proofs.YtcjidlgmbjebjaaDoor
