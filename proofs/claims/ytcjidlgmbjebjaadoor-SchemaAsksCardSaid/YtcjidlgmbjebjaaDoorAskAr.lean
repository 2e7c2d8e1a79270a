import Derived.Test.YtcjidlgmbjebjaaDoorAskAq
set_option linter.unusedVariables false
set_option linter.unusedSimpArgs false
set_option maxRecDepth 100000
namespace Go.Proofs.YtcjidlgmbjebjaaDoor
open Go Go.RowKit
def q1 (c : UInt8) : List UInt8 := if c.toNat = 34 ∨ c.toNat = 92 then [92, c] else [c]
def qB : List UInt8 → List UInt8
  | [] => []
  | c :: l => q1 c ++ qB l
theorem qB_append (a b : List UInt8) : qB (a ++ b) = qB a ++ qB b := by
  induction a with
  | nil => rfl
  | cons c l ih => simp [qB, ih]
theorem qB_len (a : List UInt8) : (qB a).length ≤ 2 * a.length := by
  induction a with
  | nil => simp [qB]
  | cons c l ih =>
    have : (q1 c).length ≤ 2 := by unfold q1; split <;> simp
    simp [qB]; omega
def BL (w : World) (l : List UInt8) (w' : World) : Prop := Lib.IsBuilder 171 5 w.heap.size w.heap.size (Lib.byteCells l) w' ∧ Below w.heap.size w w'
theorem bl_write (w w1 : World) (l : List UInt8) (c : UInt8) (n : Int) (hn : n = c.toNat) (h : BL w l w1) (hl : l.length ≤ 10000) :
    Calls Tryd.prog 119 #[.pointer (some ⟨w.heap.size, 0, none⟩), .int .u8 n] w1 (fun e w' => e = .returned .nilIface ∧ BL w (l ++ [c]) w') := by
  subst hn
  refine (write_byte w.heap.size w.heap.size _ _ w1 h.1 (by simp [Lib.byteCells]; omega) h.2.size).mono ?_
  rintro e w' ⟨rfl, h1, h2⟩
  refine ⟨rfl, Or.inr ?_, h.2.trans h2⟩
  simpa [Lib.byteCells] using h1
theorem take_one (s : ByteArray) (i : Nat) (h : i < s.size) : s.data.toList.take (i + 1) = s.data.toList.take i ++ [s[i]] := by
  have h2 : i < s.data.toList.length := by simpa using h
  rw [List.take_succ_eq_append_getElem h2]
  rfl
def QuR (s : ByteArray) (w : World) (n : Value) (w' : World) : Prop := ∃ i : Nat, i ≤ s.size ∧ n = .int .i64 i ∧ BL w (34 :: qB (s.data.toList.take i)) w'
def qS (s : ByteArray) : ByteArray := ⟨(34 :: qB s.data.toList ++ [34]).toArray⟩
def RetS (v : Value) (w : World) (e : Ending) (w' : World) : Prop := e = .returned v ∧ Below w.heap.size w w'
set_option maxHeartbeats 1000000 in
theorem quoted_val (s : ByteArray) (w : World) (hs : s.size ≤ 2000) :
    Calls Tryd.prog 69 #[.string s] w (RetS (.string (qS s)) w) := by
  have hB0 : BL w [] (w.alloc (.cells #[.pointer none, .slice none 0 0] 171)) := ⟨Lib.fresh_isBuilder 171 5 w, (Below.refl _ w).alloc (Nat.le_refl _) _⟩
  go_enter Tryd.func69, Tryd.ntmps69
  go_wp2_with (first | (go_at_call 119; refine (bl_write w _ _ 34 _ ?_ hB0 ?_).mono ?_; (· rfl); (· simp); rintro e w1 ⟨rfl, h1⟩))
  go_loopw [8] (fun n w' => QuR s w n w') (fun n _ => s.size - (intOf n).toNat)
  case atStart => exact ⟨0, by omega, rfl, by simpa [qB] using h1⟩
  case round =>
    obtain ⟨i, hi, rfl, hb⟩ := hrel
    clear h1 hB0
    by_cases hp : i < s.size
    · have hl := qB_len (s.data.toList.take i)
      have hl2 : (s.data.toList.take i).length ≤ 2000 := by simp; omega
      have ht := take_one s i hp
      have hq := qB_append (s.data.toList.take i) [s[i]]
      rw [← ht] at hq
      by_cases hc : (s[i]).toNat = 34 ∨ (s[i]).toNat = 92
      · have h1c : qB [s[i]] = [92] ++ [s[i]] := by simp [qB, q1, hc]
        rw [h1c] at hq
        have HQ := Lib.hid hq
        clear hq ht h1c
        rcases hc with hc | hc
        all_goals
          go_wp2_with (first
            | (go_at_call 119; refine (bl_write w _ _ s[i] _ ?_ h2 ?_).mono ?_; (· first | rfl | omega); (· simp; omega); rintro e w3 ⟨rfl, h3⟩)
            | (go_at_call 119; refine (bl_write w _ _ 92 _ ?_ hb ?_).mono ?_; (· rfl); (· simp; omega); rintro e w2 ⟨rfl, h2⟩))
          refine ⟨⟨i + 1, by omega, rfl, ?_⟩, by simp [intOf]; omega⟩
          rw [HQ.out]
          simpa using h3
      · have h1c : qB [s[i]] = [s[i]] := by simp [qB, q1, hc]
        rw [h1c] at hq
        have HQ := Lib.hid hq
        clear hq ht h1c
        have hc1 : (((s[i]).toNat : Int) == 34) = false := by rw [beq_eq_false_iff_ne]; omega
        have hc2 : (((s[i]).toNat : Int) == 92) = false := by rw [beq_eq_false_iff_ne]; omega
        clear hc
        go_wp2_with (first
            | (go_at_call 119; refine (bl_write w _ _ s[i] _ ?_ hb ?_).mono ?_; (· first | rfl | omega); (· simp; omega); rintro e w3 ⟨rfl, h3⟩))
        refine ⟨⟨i + 1, by omega, rfl, ?_⟩, by simp [intOf]; omega⟩
        rw [HQ.out]
        simpa using h3
    · obtain rfl : i = s.size := by omega
      have hl := qB_len (s.data.toList.take s.size)
      have hl2 : (s.data.toList.take s.size).length ≤ 2000 := by simp; omega
      go_wp2_with (first
            | (go_at_call 119; refine (bl_write w _ _ 34 _ ?_ hb ?_).mono ?_; (· rfl); (· simp; omega); rintro e w3 ⟨rfl, h3⟩)
            | (go_at_call 112; refine (Tryd.Builder_String _ _ (34 :: qB (s.data.toList.take s.size) ++ [34]) _ h3.1 (by simp)).mono ?_; rintro e w4 ⟨rfl, h4⟩))
      go_ret
      refine ⟨?_, ?_⟩
      · have : s.data.toList.take s.size = s.data.toList := List.take_of_length_le (by simp)
        rw [this]
        rfl
      · exact h3.2.trans h4
end Go.Proofs.YtcjidlgmbjebjaaDoor
