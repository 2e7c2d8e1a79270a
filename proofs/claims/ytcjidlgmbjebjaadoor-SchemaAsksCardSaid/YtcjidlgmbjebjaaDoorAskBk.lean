import Derived.Test.YtcjidlgmbjebjaaDoorAskBd
import Derived.Test.YtcjidlgmbjebjaaDoorAskBe
import Derived.Test.YtcjidlgmbjebjaaDoorAskBj
set_option linter.unusedVariables false
set_option linter.unusedSimpArgs false
set_option maxRecDepth 100000
namespace Go.Proofs.YtcjidlgmbjebjaaDoor
open Go Go.RowKit
def kdName (k : Int) : ByteArray := if k = 0 then ⟨#[65, 78, 89]⟩ else formName k
def ct (c : Col) : ByteArray := colText c.1 c.2.1 c.2.2
def wordsOf (nm : ByteArray) (k srs : Int) (cs : List Col) : List ByteArray := [nm, kdName k, numS srs] ++ cs.map ct
def textB (nm : ByteArray) (k srs : Int) (cs : List Col) : ByteArray := ⟨(Lib.join ((wordsOf nm k srs cs).map (·.data.toList)) [32]).toArray⟩
theorem bsize_append (a b : ByteArray) : (a ++ b).size = a.size + b.size := ByteArray.size_append
theorem tyName_size (k : Int) : (tyName k).size ≤ 4 := by
  unfold tyName; repeat' split
  all_goals decide
theorem formName_size (k : Int) : (formName k).size ≤ 18 := by
  unfold formName; repeat' split
  all_goals decide
theorem kdName_size (k : Int) : (kdName k).size ≤ 18 := by
  unfold kdName; split
  · decide
  · exact formName_size k
theorem ct_size (c : Col) (h : c.1.size ≤ 12) : (ct c).size ≤ 20 := by
  have := tyName_size c.2.1
  have e1 : (ByteArray.mk #[58]).size = 1 := rfl
  have e2 : (ByteArray.mk #[33]).size = 1 := rfl
  unfold ct colText
  cases c.2.2
  · simp only [cond_false, bsize_append, e1]; omega
  · simp only [cond_true, bsize_append, e1, e2]; omega
theorem lens_le (l : List (List UInt8)) (n : Nat) (h : ∀ x ∈ l, x.length ≤ n) : Lib.lens l ≤ l.length * n := by
  induction l with
  | nil => simp [Lib.lens]
  | cons a l ih =>
    have h1 := ih fun x hx => h x (List.mem_cons_of_mem _ hx)
    have h2 := h a List.mem_cons_self
    simp only [Lib.lens, List.map_cons, List.sum_cons, List.length_cons] at *
    rw [Nat.add_mul]; omega
theorem words_len (nm : ByteArray) (k srs : Int) (cs : List Col) (h1 : nm.size ≤ 12) (h0 : -9223372036854775808 ≤ srs) (h2 : srs ≤ 9223372036854775807) (hcs : ∀ c ∈ cs, c.1.size ≤ 12) (hl : cs.length ≤ 50) :
    (Lib.join ((wordsOf nm k srs cs).map (·.data.toList)) [32]).length ≤ 2000 := by
  have hall : ∀ x ∈ (wordsOf nm k srs cs).map (·.data.toList), x.length ≤ 22 := by
    intro x hx
    obtain ⟨b, hb, rfl⟩ := List.mem_map.1 hx
    have : b.size ≤ 22 := by
      simp only [wordsOf, List.cons_append, List.nil_append, List.mem_cons, List.mem_map] at hb
      rcases hb with rfl | rfl | rfl | ⟨c, hc, rfl⟩
      · omega
      · have := kdName_size k; omega
      · have := numS_size srs h0 h2; omega
      · have := ct_size c (hcs c hc); omega
    rw [Array.length_toList]; exact this
  have hlen : ((wordsOf nm k srs cs).map (·.data.toList)).length = cs.length + 3 := by simp [wordsOf]
  have h3 := lens_le _ 22 hall
  rw [hlen] at h3
  have e : (wordsOf nm k srs cs).map (·.data.toList) = nm.data.toList :: ((kdName k).data.toList :: (numS srs).data.toList :: (cs.map ct).map (·.data.toList)) := rfl
  rw [e] at h3 ⊢
  rw [Lib.join_length]
  simp only [List.length_cons, List.length_nil, List.length_map]
  omega
theorem own_full {w : World} {base e : Nat} (cur : Array Value) (n : Nat) (hn : cur.size = n) (hb : base ≤ w.heap.size) (hm : n ≤ maxLen) :
    (w.alloc (.cells cur e)).ownsRow base e 1 (.slice (some ⟨w.heap.size, 0, none⟩) n n) n cur.toList :=
  ⟨by simp [hn], .inr ⟨w.heap.size, n, cur, rfl, hb, hp_new w _ _ rfl, Nat.le_refl _, hm, by simp [hn], by simp [hn, List.take_of_length_le]⟩⟩
end Go.Proofs.YtcjidlgmbjebjaaDoor
