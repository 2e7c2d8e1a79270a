import Derived.Maps.OwnSet
set_option linter.unusedVariables false
set_option linter.unusedSimpArgs false
namespace Go.Proofs.YtcjidlgmbjebjaaDoor.MapB
open Go Go.Maps Go.WideMaps
theorem plainElem_bool_inv {P : Program} {e : TypeId} (he : P.underlying e = some .bool) {v : Value} {z : DataW Unit × List MemPlace} (h : plainElem P e v = some z) : ∃ b, v = .bool b ∧ z = (.lit (.bool b), []) := by
  unfold plainElem at h
  rw [he] at h
  cases v <;> simp at h
  exact ⟨_, rfl, h.symm⟩
/-- Block b is a map of at most n entries, names to truth values: true at just the names of l. -/
def Seen (P : Program) (k e : TypeId) (b n : Nat) (l : List (List UInt8)) (w : World) : Prop :=
  ∃ D : DataW Unit, w.ownsMap P k (plainElem P e) b n D ∧ ∀ x, D.atKey (.string x) (.lit (.bool false)) = .lit (.bool (decide (x ∈ l)))
theorem seen_made (P : Program) (k e : TypeId) (w : World) : Seen P k e w.heap.size 0 [] (w.alloc (.map #[] 0)) :=
  ⟨.map [], World.ownsMap_made w P k _, fun x => by simp; rfl⟩
theorem seen_kept {P : Program} {k e : TypeId} {b n : Nat} {l : List (List UInt8)} {w w' : World} (h : Seen P k e b n l w) {row : Option Nat} (hg : w.grownBy w' row) (hne : some b ≠ row) : Seen P k e b n l w' := by
  obtain ⟨D, h, hD⟩ := h; exact ⟨D, h.kept hg hne, hD⟩
theorem seen_block {P : Program} {k e : TypeId} {b n : Nat} {l : List (List UInt8)} {w w' : World} (h : Seen P k e b n l w) (hb : w'.heap[b]? = w.heap[b]?) : Seen P k e b n l w' := by
  obtain ⟨D, ⟨es, clock, h1, h2⟩, hD⟩ := h; exact ⟨D, ⟨es, clock, hb.trans h1, h2⟩, hD⟩
theorem seen_look {P : Program} {k e t : TypeId} {b n : Nat} {l : List (List UInt8)} {w : World} (h : Seen P k e b n l w) (ht : P.underlying t = some (.map k e)) (hk : P.underlying k = some .string) (he : P.underlying e = some .bool)
    (hz : (zeroValue e).run P w = .ok (.bool false) w) (s : ByteArray) (hs : s.size ≤ 9223372036854775807) :
    (Instr.lookup t (.map (some b)) (.string s) false).run P w = .ok (.bool (decide (s.toList ∈ l))) w := by
  obtain ⟨D, h, hD⟩ := h
  obtain ⟨v, ps, hrun, hv⟩ := h.lookup (Maps.string_keyed hk) ht hz (plainElem_bool he false) (keyOf_string_mk hk (by unfold maxLen; omega))
  obtain ⟨c, rfl, hc⟩ := plainElem_bool_inv he hv
  rw [hD] at hc
  simp only [Prod.mk.injEq, DataW.lit.injEq, Lit.bool.injEq] at hc
  rw [hrun, ← hc.1, ByteArray.toList_eq]
theorem seen_put {P : Program} {k e t : TypeId} {b n : Nat} {l : List (List UInt8)} {w : World} (h : Seen P k e b n l w) (ht : P.underlying t = some (.map k e)) (hk : P.underlying k = some .string) (he : P.underlying e = some .bool)
    (hn : n < 9223372036854775807) (s : ByteArray) (hs : s.size ≤ 9223372036854775807) :
    ∃ w', (Instr.mapUpdate t (.map (some b)) (.string s) (.bool true)).run P w = .ok () w' ∧ Seen P k e b (n + 1) (s.toList :: l) w' ∧ w.grownBy w' (some b) := by
  obtain ⟨D, h, hD⟩ := h
  obtain ⟨w', h1, h2, h3⟩ := h.update (Maps.string_keyed hk) ht (by unfold maxLen; omega) (keyOf_string_mk hk (by unfold maxLen; omega)) (plainElem_bool he true)
  refine ⟨w', h1, ⟨_, h2, fun x => ?_⟩, h3⟩
  by_cases hx : x = s.toList
  · subst hx
    rw [ByteArray.toList_eq, atKey_put_same h.isMap (by trivial)]
    simp
  · rw [atKey_put_other (by rw [← ByteArray.toList_eq]; intro hh; exact hx (by injection hh)), hD]
    simp [hx]
end Go.Proofs.YtcjidlgmbjebjaaDoor.MapB
