/- A part of the proof of ValueForms. -/
import Derived.Test.YtcjidlgmbjebjaaDoorVfB
import Derived.Test.YtcjidlgmbjebjaaDoorVfC
set_option linter.unusedVariables false
set_option linter.unusedSimpArgs false
set_option maxRecDepth 100000
namespace Go.Proofs.YtcjidlgmbjebjaaDoor
open Go Go.RowKit
/-- A value as what it is. -/
def ofV (k n : Int) (s : ByteArray) : Value :=
  if k = 0 then (if n = 0 ∧ s.toList = [] then .iface 142 (.agg #[]) else .nilIface)
  else if k = 1 then (if s.toList = [] then .iface 149 (.int .i64 n) else .nilIface)
  else if k = 2 then (if n = 0 then .iface 144 (.string s) else .nilIface)
  else if k = 3 then (if s.toList = [] then (if n = 0 then .iface 143 (.bool false) else if n = 1 then .iface 143 (.bool true) else .nilIface) else .nilIface)
  else .nilIface
def RetV (v : Value) (W : World) (e : Ending) (w' : World) : Prop := e = .returned v ∧ Below W.heap.size W w'
set_option maxHeartbeats 2000000 in
theorem of_val (k n : Int) (s : ByteArray) (W : World) : Calls Tryd.prog 60 #[.agg #[.int .i64 k, .int .i64 n, .string s]] W (RetV (ofV k n s) W) := by
  have hk : k = 0 ∨ k = 1 ∨ k = 2 ∨ k = 3 ∨ (k ≠ 0 ∧ k ≠ 1 ∧ k ≠ 2 ∧ k ≠ 3) := by omega
  have hn : n = 0 ∨ n = 1 ∨ (n ≠ 0 ∧ n ≠ 1) := by omega
  rcases hk with rfl | rfl | rfl | rfl | ⟨k0, k1, k2, k3⟩
  all_goals (by_cases hs : s.toList = []
             · have hs2 : s.toList.isEmpty = true := by rw [hs]; rfl
               rcases hn with rfl | rfl | ⟨n0, n1⟩
               all_goals
                 (go_enter Tryd.func60, Tryd.ntmps60
                  go_wp2
                  all_goals (go_ret; refine ⟨?_, ?_⟩; focus (simp_all [ofV]; done))
                  all_goals go_grown)
             · have hs2 : s.toList.isEmpty = false := by
                 cases h : s.toList with
                 | nil => exact absurd h hs
                 | cons a b => rfl
               rcases hn with rfl | rfl | ⟨n0, n1⟩
               all_goals
                 (go_enter Tryd.func60, Tryd.ntmps60
                  go_wp2
                  all_goals (go_ret; refine ⟨?_, ?_⟩; focus (simp_all [ofV]; done))
                  all_goals go_grown))
end Go.Proofs.YtcjidlgmbjebjaaDoor

namespace Go.Proofs.YtcjidlgmbjebjaaDoor
open Go Go.RowKit
theorem good_nothing (W : World) : Calls Tryd.prog 246 #[.agg #[]] W (RetBool true W) := by
  go_enter Tryd.func246, Tryd.ntmps246
  go_wp2
  go_ret
  refine ⟨rfl, ?_⟩
  go_grown
theorem good_number (n : Int) (W : World) : Calls Tryd.prog 250 #[.int .i64 n] W (RetBool true W) := by
  go_enter Tryd.func250, Tryd.ntmps250
  go_wp2
  go_ret
  exact ⟨rfl, Below.refl _ _⟩
theorem good_flag (b : Bool) (W : World) : Calls Tryd.prog 247 #[.bool b] W (RetBool true W) := by
  go_enter Tryd.func247, Tryd.ntmps247
  go_wp2
  go_ret
  exact ⟨rfl, Below.refl _ _⟩
theorem good_text (s : ByteArray) (W : World) (hs : s.size ≤ 9223372036854775807) : Calls Tryd.prog 248 #[.string s] W (RetBool (decide (s.size ≤ 200) && Utf.ok s) W) := by
  by_cases h : s.size ≤ 200
  · rw [decide_eq_true h, Bool.true_and]
    go_enter Tryd.func248, Tryd.ntmps248
    go_wp2_with (first | (go_at_call 249; refine (right_val s _ hs).mono ?_; rintro e w' ⟨rfl, hb⟩))
    go_ret
    exact ⟨rfl, hb⟩
  · rw [decide_eq_false h, Bool.false_and]
    go_enter Tryd.func248, Tryd.ntmps248
    go_wp2
    go_ret
    exact ⟨rfl, Below.refl _ _⟩
def goodV (k n : Int) (s : ByteArray) : Bool :=
  if k = 0 then decide (n = 0 ∧ s.toList = [])
  else if k = 1 then decide (s.toList = [])
  else if k = 2 then decide (n = 0) && (decide (s.size ≤ 200) && Utf.ok s)
  else if k = 3 then decide (s.toList = []) && decide (n = 0 ∨ n = 1)
  else false

theorem good0 (s : ByteArray) (W : World) (hsz : s.size ≤ 9223372036854775807) (hs : s.toList = []) : Calls Tryd.prog 31 #[.agg #[.int .i64 0, .int .i64 0, .string s]] W (RetBool (true) W) := by
  have ho : ofV 0 0 s = .iface 142 (.agg #[]) := by simp [ofV, *]
  have hc := fun w => of_val 0 0 s w
  rw [ho] at hc
  have HC := Lib.hid hc; clear hc ho
  go_enter Tryd.func31, Tryd.ntmps31
  go_wp2_with fail
  refine (HC.out _).mono ?_
  rintro e w1 ⟨rfl, hb⟩
  have hb := below_step (show Below W.heap.size W _ from by go_grown) hb
  dsimp only
  go_wp2_with fail
  refine (good_nothing _).mono ?_
  rintro e w2 ⟨rfl, hb2⟩
  have hb := below_step hb hb2
  dsimp only
  go_wp2_with fail
  go_ret
  exact ⟨by first | rfl | simp, hb⟩

theorem good1 (n : Int) (s : ByteArray) (W : World) (hsz : s.size ≤ 9223372036854775807) (hs : s.toList = []) : Calls Tryd.prog 31 #[.agg #[.int .i64 1, .int .i64 n, .string s]] W (RetBool (true) W) := by
  have ho : ofV 1 n s = .iface 149 (.int .i64 n) := by simp [ofV, *]
  have hc := fun w => of_val 1 n s w
  rw [ho] at hc
  have HC := Lib.hid hc; clear hc ho
  go_enter Tryd.func31, Tryd.ntmps31
  go_wp2_with fail
  refine (HC.out _).mono ?_
  rintro e w1 ⟨rfl, hb⟩
  have hb := below_step (show Below W.heap.size W _ from by go_grown) hb
  dsimp only
  go_wp2_with fail
  refine (good_number _ _).mono ?_
  rintro e w2 ⟨rfl, hb2⟩
  have hb := below_step hb hb2
  dsimp only
  go_wp2_with fail
  go_ret
  exact ⟨by first | rfl | simp, hb⟩

theorem good2 (s : ByteArray) (W : World) (hsz : s.size ≤ 9223372036854775807) : Calls Tryd.prog 31 #[.agg #[.int .i64 2, .int .i64 0, .string s]] W (RetBool (decide (s.size ≤ 200) && Utf.ok s) W) := by
  have ho : ofV 2 0 s = .iface 144 (.string s) := by simp [ofV, *]
  have hc := fun w => of_val 2 0 s w
  rw [ho] at hc
  have HC := Lib.hid hc; clear hc ho
  go_enter Tryd.func31, Tryd.ntmps31
  go_wp2_with fail
  refine (HC.out _).mono ?_
  rintro e w1 ⟨rfl, hb⟩
  have hb := below_step (show Below W.heap.size W _ from by go_grown) hb
  dsimp only
  go_wp2_with fail
  refine (good_text s _ hsz).mono ?_
  rintro e w2 ⟨rfl, hb2⟩
  have hb := below_step hb hb2
  dsimp only
  go_wp2_with fail
  go_ret
  exact ⟨by first | rfl | simp, hb⟩

theorem good3 (s : ByteArray) (W : World) (hsz : s.size ≤ 9223372036854775807) (hs : s.toList = []) : Calls Tryd.prog 31 #[.agg #[.int .i64 3, .int .i64 0, .string s]] W (RetBool (true) W) := by
  have ho : ofV 3 0 s = .iface 143 (.bool false) := by simp [ofV, *]
  have hc := fun w => of_val 3 0 s w
  rw [ho] at hc
  have HC := Lib.hid hc; clear hc ho
  go_enter Tryd.func31, Tryd.ntmps31
  go_wp2_with fail
  refine (HC.out _).mono ?_
  rintro e w1 ⟨rfl, hb⟩
  have hb := below_step (show Below W.heap.size W _ from by go_grown) hb
  dsimp only
  go_wp2_with fail
  refine (good_flag _ _).mono ?_
  rintro e w2 ⟨rfl, hb2⟩
  have hb := below_step hb hb2
  dsimp only
  go_wp2_with fail
  go_ret
  exact ⟨by first | rfl | simp, hb⟩

theorem good4 (s : ByteArray) (W : World) (hsz : s.size ≤ 9223372036854775807) (hs : s.toList = []) : Calls Tryd.prog 31 #[.agg #[.int .i64 3, .int .i64 1, .string s]] W (RetBool (true) W) := by
  have ho : ofV 3 1 s = .iface 143 (.bool true) := by simp [ofV, *]
  have hc := fun w => of_val 3 1 s w
  rw [ho] at hc
  have HC := Lib.hid hc; clear hc ho
  go_enter Tryd.func31, Tryd.ntmps31
  go_wp2_with fail
  refine (HC.out _).mono ?_
  rintro e w1 ⟨rfl, hb⟩
  have hb := below_step (show Below W.heap.size W _ from by go_grown) hb
  dsimp only
  go_wp2_with fail
  refine (good_flag _ _).mono ?_
  rintro e w2 ⟨rfl, hb2⟩
  have hb := below_step hb hb2
  dsimp only
  go_wp2_with fail
  go_ret
  exact ⟨by first | rfl | simp, hb⟩

theorem good_nil (k n : Int) (s : ByteArray) (W : World) (ho : ofV k n s = .nilIface) : Calls Tryd.prog 31 #[.agg #[.int .i64 k, .int .i64 n, .string s]] W (RetBool false W) := by
  have hc := fun w => of_val k n s w
  rw [ho] at hc
  have HC := Lib.hid hc; clear hc ho
  go_enter Tryd.func31, Tryd.ntmps31
  go_wp2_with fail
  refine (HC.out _).mono ?_
  rintro e w1 ⟨rfl, hb⟩
  have hb := below_step (show Below W.heap.size W _ from by go_grown) hb
  dsimp only
  go_wp2_with fail
  go_ret
  exact ⟨rfl, hb⟩
theorem good_val (k n : Int) (s : ByteArray) (W : World) (hsz : s.size ≤ 9223372036854775807) : Calls Tryd.prog 31 #[.agg #[.int .i64 k, .int .i64 n, .string s]] W (RetBool (goodV k n s) W) := by
  have hk : k = 0 ∨ k = 1 ∨ k = 2 ∨ k = 3 ∨ (k ≠ 0 ∧ k ≠ 1 ∧ k ≠ 2 ∧ k ≠ 3) := by omega
  rcases hk with rfl | rfl | rfl | rfl | ⟨k0, k1, k2, k3⟩
  · by_cases h : n = 0 ∧ s.toList = []
    · obtain ⟨rfl, hs⟩ := h
      have : goodV 0 0 s = true := by simp [goodV, hs]
      rw [this]; exact good0 s W hsz hs
    · have : goodV 0 n s = false := by simp only [goodV, if_true]; exact decide_eq_false h
      rw [this]; exact good_nil 0 n s W (by simp only [ofV, if_true]; rw [if_neg h])
  · by_cases hs : s.toList = []
    · have : goodV 1 n s = true := by simp [goodV, hs]
      rw [this]; exact good1 n s W hsz hs
    · have : goodV 1 n s = false := by simp [goodV, hs]
      rw [this]; exact good_nil 1 n s W (by simp [ofV, hs])
  · by_cases hn : n = 0
    · subst hn
      have : goodV 2 0 s = (decide (s.size ≤ 200) && Utf.ok s) := by simp [goodV]
      rw [this]; exact good2 s W hsz
    · have : goodV 2 n s = false := by simp [goodV, hn]
      rw [this]; exact good_nil 2 n s W (by simp [ofV, hn])
  · by_cases hs : s.toList = []
    · by_cases h0 : n = 0
      · subst h0
        have : goodV 3 0 s = true := by simp [goodV, hs]
        rw [this]; exact good3 s W hsz hs
      · by_cases h1 : n = 1
        · subst h1
          have : goodV 3 1 s = true := by simp [goodV, hs]
          rw [this]; exact good4 s W hsz hs
        · have : goodV 3 n s = false := by simp [goodV, hs, h0, h1]
          rw [this]; exact good_nil 3 n s W (by simp [ofV, hs, h0, h1])
    · have : goodV 3 n s = false := by simp [goodV, hs]
      rw [this]; exact good_nil 3 n s W (by simp [ofV, hs])
  · have : goodV k n s = false := by simp [goodV, k0, k1, k2, k3]
    rw [this]; exact good_nil k n s W (by simp [ofV, k0, k1, k2, k3])
end Go.Proofs.YtcjidlgmbjebjaaDoor

namespace Go.Proofs.YtcjidlgmbjebjaaDoor
open Go Go.RowKit
theorem isEmpty_of {l : List UInt8} (h : ¬ l = []) : l.isEmpty = false := by cases l with | nil => exact absurd rfl h | cons a b => rfl
set_option maxHeartbeats 2000000 in
theorem refgood_val (k n : Int) (s : ByteArray) (W : World) (hsz : s.size ≤ 9223372036854775807) : Calls Tryd.prog 32 #[.agg #[.int .i64 k, .int .i64 n, .string s]] W (RetBool (goodV k n s) W) := by
  have hk : k = 0 ∨ k = 1 ∨ k = 2 ∨ k = 3 ∨ (k ≠ 0 ∧ k ≠ 1 ∧ k ≠ 2 ∧ k ≠ 3) := by omega
  have hn : n = 0 ∨ n = 1 ∨ (n ≠ 0 ∧ n ≠ 1) := by omega
  rcases hk with rfl | rfl | rfl | rfl | ⟨k0, k1, k2, k3⟩
  case inr.inr.inl =>
    by_cases hn0 : n = 0
    · subst hn0
      by_cases h2 : s.size ≤ 200
      · have hg : goodV 2 0 s = Utf.ok s := by simp [goodV, h2]
        rw [hg]
        clear hg hn
        go_enter Tryd.func32, Tryd.ntmps32
        go_wp2_with fail
        refine (utf_val s _ hsz).mono ?_
        rintro e w1 ⟨rfl, hb⟩
        have hb := below_step (show Below W.heap.size W _ from by go_grown) hb
        dsimp only
        go_wp2_with fail
        go_ret
        exact ⟨rfl, hb⟩
      · have hg : goodV 2 0 s = false := by simp [goodV, h2]
        rw [hg]
        clear hg hn
        go_enter Tryd.func32, Tryd.ntmps32
        go_wp2
        go_ret
        refine ⟨rfl, ?_⟩
        go_grown
    · have hg : goodV 2 n s = false := by simp [goodV, hn0]
      rw [hg]
      clear hg hn
      go_enter Tryd.func32, Tryd.ntmps32
      go_wp2
      go_ret
      refine ⟨rfl, ?_⟩
      go_grown
  all_goals (by_cases hs : s.toList = []
             · have hs2 : s.toList.isEmpty = true := by rw [hs]; rfl
               rcases hn with rfl | rfl | ⟨n0, n1⟩
               all_goals
                 (go_enter Tryd.func32, Tryd.ntmps32
                  go_wp2
                  all_goals (go_ret; refine ⟨?_, ?_⟩; focus (simp_all [goodV]; done))
                  all_goals go_grown)
             · have hs2 := isEmpty_of hs
               rcases hn with rfl | rfl | ⟨n0, n1⟩
               all_goals
                 (go_enter Tryd.func32, Tryd.ntmps32
                  go_wp2
                  all_goals (go_ret; refine ⟨?_, ?_⟩; focus (simp_all [goodV]; done))
                  all_goals go_grown))
def fitsV (k n : Int) (s : ByteArray) (kind : Int) (must : Bool) : Int :=
  if goodV k n s = false then 9 else if kind < 1 ∨ 3 < kind then 2 else if (k = 0 ∧ must = true) ∨ (k ≠ 0 ∧ k ≠ kind) then 13 else 0
end Go.Proofs.YtcjidlgmbjebjaaDoor
