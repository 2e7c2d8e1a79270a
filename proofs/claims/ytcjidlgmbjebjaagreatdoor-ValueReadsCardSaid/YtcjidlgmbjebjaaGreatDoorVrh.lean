/- A part of the proof of ValueReads. -/
import Derived.Test.YtcjidlgmbjebjaaGreatDoorVrg
import Derived.Test.YtcjidlgmbjebjaaGreatDoorVre
import Derived.Test.YtcjidlgmbjebjaaGreatDoorVrf
import Derived.Test.YtcjidlgmbjebjaaGreatDoorVrc
import Derived.Lib.SmallJoins
set_option linter.unusedVariables false
set_option linter.unusedSimpArgs false
set_option maxRecDepth 100000
namespace Go.Proofs.YtcjidlgmbjebjaaGreatDoor
open Go Go.RowKit
theorem good_nothing (W : World) : Calls Tryz.prog 266 #[.agg #[]] W (RetBool true W) := by
  go_enter Tryz.func266, Tryz.ntmps266
  go_wp2
  go_ret
  refine ⟨rfl, ?_⟩
  go_grown
theorem good_number (n : Int) (W : World) : Calls Tryz.prog 270 #[.int .i64 n] W (RetBool true W) := by
  go_enter Tryz.func270, Tryz.ntmps270
  go_wp2
  go_ret
  exact ⟨rfl, Below.refl _ _⟩
theorem good_flag (b : Bool) (W : World) : Calls Tryz.prog 267 #[.bool b] W (RetBool true W) := by
  go_enter Tryz.func267, Tryz.ntmps267
  go_wp2
  go_ret
  exact ⟨rfl, Below.refl _ _⟩
theorem good_text (s : ByteArray) (W : World) (hs : s.size ≤ 9223372036854775807) : Calls Tryz.prog 268 #[.string s] W (RetBool (decide (s.size ≤ 200) && Utf.ok s) W) := by
  by_cases h : s.size ≤ 200
  · rw [decide_eq_true h, Bool.true_and]
    go_enter Tryz.func268, Tryz.ntmps268
    go_wp2_with (first | (go_at_call 269; refine (right_val s _ hs).mono ?_; rintro e w' ⟨rfl, hb⟩))
    go_ret
    exact ⟨rfl, hb⟩
  · rw [decide_eq_false h, Bool.false_and]
    go_enter Tryz.func268, Tryz.ntmps268
    go_wp2
    go_ret
    exact ⟨rfl, Below.refl _ _⟩
def goodV (k n : Int) (s : ByteArray) : Bool :=
  if k = 0 then decide (n = 0 ∧ s.toList = [])
  else if k = 1 then decide (s.toList = [])
  else if k = 2 then decide (n = 0) && (decide (s.size ≤ 200) && Utf.ok s)
  else if k = 3 then decide (s.toList = []) && decide (n = 0 ∨ n = 1)
  else false

theorem good0 (s : ByteArray) (W : World) (hsz : s.size ≤ 9223372036854775807) (hs : s.toList = []) : Calls Tryz.prog 86 #[.agg #[.int .i64 0, .int .i64 0, .string s]] W (RetBool (true) W) := by
  have ho : ofV 0 0 s = .iface 94 (.agg #[]) := by simp [ofV, *]
  have hc := fun w => of_val 0 0 s w
  rw [ho] at hc
  have HC := Lib.hid hc; clear hc ho
  go_enter Tryz.func86, Tryz.ntmps86
  go_wp2_with fail
  refine (HC.out _).mono ?_
  rintro e w1 ⟨rfl, hb⟩
  have hb := below_step (show Below W.heap.size W _ from by go_grown) hb
  dsimp only
  go_wp2_with fail
  refine (good_nothing _).mono ?_
  rintro e w2 ⟨rfl, hb2⟩
  have hb := below_step hb hb2
  dsimp only
  go_wp2_with fail
  go_ret
  exact ⟨by first | rfl | simp, hb⟩

theorem good1 (n : Int) (s : ByteArray) (W : World) (hsz : s.size ≤ 9223372036854775807) (hs : s.toList = []) : Calls Tryz.prog 86 #[.agg #[.int .i64 1, .int .i64 n, .string s]] W (RetBool (true) W) := by
  have ho : ofV 1 n s = .iface 104 (.int .i64 n) := by simp [ofV, *]
  have hc := fun w => of_val 1 n s w
  rw [ho] at hc
  have HC := Lib.hid hc; clear hc ho
  go_enter Tryz.func86, Tryz.ntmps86
  go_wp2_with fail
  refine (HC.out _).mono ?_
  rintro e w1 ⟨rfl, hb⟩
  have hb := below_step (show Below W.heap.size W _ from by go_grown) hb
  dsimp only
  go_wp2_with fail
  refine (good_number _ _).mono ?_
  rintro e w2 ⟨rfl, hb2⟩
  have hb := below_step hb hb2
  dsimp only
  go_wp2_with fail
  go_ret
  exact ⟨by first | rfl | simp, hb⟩

theorem good2 (s : ByteArray) (W : World) (hsz : s.size ≤ 9223372036854775807) : Calls Tryz.prog 86 #[.agg #[.int .i64 2, .int .i64 0, .string s]] W (RetBool (decide (s.size ≤ 200) && Utf.ok s) W) := by
  have ho : ofV 2 0 s = .iface 98 (.string s) := by simp [ofV, *]
  have hc := fun w => of_val 2 0 s w
  rw [ho] at hc
  have HC := Lib.hid hc; clear hc ho
  go_enter Tryz.func86, Tryz.ntmps86
  go_wp2_with fail
  refine (HC.out _).mono ?_
  rintro e w1 ⟨rfl, hb⟩
  have hb := below_step (show Below W.heap.size W _ from by go_grown) hb
  dsimp only
  go_wp2_with fail
  refine (good_text s _ hsz).mono ?_
  rintro e w2 ⟨rfl, hb2⟩
  have hb := below_step hb hb2
  dsimp only
  go_wp2_with fail
  go_ret
  exact ⟨by first | rfl | simp, hb⟩

theorem good3 (s : ByteArray) (W : World) (hsz : s.size ≤ 9223372036854775807) (hs : s.toList = []) : Calls Tryz.prog 86 #[.agg #[.int .i64 3, .int .i64 0, .string s]] W (RetBool (true) W) := by
  have ho : ofV 3 0 s = .iface 97 (.bool false) := by simp [ofV, *]
  have hc := fun w => of_val 3 0 s w
  rw [ho] at hc
  have HC := Lib.hid hc; clear hc ho
  go_enter Tryz.func86, Tryz.ntmps86
  go_wp2_with fail
  refine (HC.out _).mono ?_
  rintro e w1 ⟨rfl, hb⟩
  have hb := below_step (show Below W.heap.size W _ from by go_grown) hb
  dsimp only
  go_wp2_with fail
  refine (good_flag _ _).mono ?_
  rintro e w2 ⟨rfl, hb2⟩
  have hb := below_step hb hb2
  dsimp only
  go_wp2_with fail
  go_ret
  exact ⟨by first | rfl | simp, hb⟩

theorem good4 (s : ByteArray) (W : World) (hsz : s.size ≤ 9223372036854775807) (hs : s.toList = []) : Calls Tryz.prog 86 #[.agg #[.int .i64 3, .int .i64 1, .string s]] W (RetBool (true) W) := by
  have ho : ofV 3 1 s = .iface 97 (.bool true) := by simp [ofV, *]
  have hc := fun w => of_val 3 1 s w
  rw [ho] at hc
  have HC := Lib.hid hc; clear hc ho
  go_enter Tryz.func86, Tryz.ntmps86
  go_wp2_with fail
  refine (HC.out _).mono ?_
  rintro e w1 ⟨rfl, hb⟩
  have hb := below_step (show Below W.heap.size W _ from by go_grown) hb
  dsimp only
  go_wp2_with fail
  refine (good_flag _ _).mono ?_
  rintro e w2 ⟨rfl, hb2⟩
  have hb := below_step hb hb2
  dsimp only
  go_wp2_with fail
  go_ret
  exact ⟨by first | rfl | simp, hb⟩

theorem good_nil (k n : Int) (s : ByteArray) (W : World) (ho : ofV k n s = .nilIface) : Calls Tryz.prog 86 #[.agg #[.int .i64 k, .int .i64 n, .string s]] W (RetBool false W) := by
  have hc := fun w => of_val k n s w
  rw [ho] at hc
  have HC := Lib.hid hc; clear hc ho
  go_enter Tryz.func86, Tryz.ntmps86
  go_wp2_with fail
  refine (HC.out _).mono ?_
  rintro e w1 ⟨rfl, hb⟩
  have hb := below_step (show Below W.heap.size W _ from by go_grown) hb
  dsimp only
  go_wp2_with fail
  go_ret
  exact ⟨rfl, hb⟩
theorem good_val (k n : Int) (s : ByteArray) (W : World) (hsz : s.size ≤ 9223372036854775807) : Calls Tryz.prog 86 #[.agg #[.int .i64 k, .int .i64 n, .string s]] W (RetBool (goodV k n s) W) := by
  have hk : k = 0 ∨ k = 1 ∨ k = 2 ∨ k = 3 ∨ (k ≠ 0 ∧ k ≠ 1 ∧ k ≠ 2 ∧ k ≠ 3) := by omega
  rcases hk with rfl | rfl | rfl | rfl | ⟨k0, k1, k2, k3⟩
  · by_cases h : n = 0 ∧ s.toList = []
    · obtain ⟨rfl, hs⟩ := h
      have : goodV 0 0 s = true := by simp [goodV, hs]
      rw [this]; exact good0 s W hsz hs
    · have : goodV 0 n s = false := by simp only [goodV, if_true]; exact decide_eq_false h
      rw [this]; exact good_nil 0 n s W (by simp only [ofV, if_true]; rw [if_neg h])
  · by_cases hs : s.toList = []
    · have : goodV 1 n s = true := by simp [goodV, hs]
      rw [this]; exact good1 n s W hsz hs
    · have : goodV 1 n s = false := by simp [goodV, hs]
      rw [this]; exact good_nil 1 n s W (by simp [ofV, hs])
  · by_cases hn : n = 0
    · subst hn
      have : goodV 2 0 s = (decide (s.size ≤ 200) && Utf.ok s) := by simp [goodV]
      rw [this]; exact good2 s W hsz
    · have : goodV 2 n s = false := by simp [goodV, hn]
      rw [this]; exact good_nil 2 n s W (by simp [ofV, hn])
  · by_cases hs : s.toList = []
    · by_cases h0 : n = 0
      · subst h0
        have : goodV 3 0 s = true := by simp [goodV, hs]
        rw [this]; exact good3 s W hsz hs
      · by_cases h1 : n = 1
        · subst h1
          have : goodV 3 1 s = true := by simp [goodV, hs]
          rw [this]; exact good4 s W hsz hs
        · have : goodV 3 n s = false := by simp [goodV, hs, h0, h1]
          rw [this]; exact good_nil 3 n s W (by simp [ofV, hs, h0, h1])
    · have : goodV 3 n s = false := by simp [goodV, hs]
      rw [this]; exact good_nil 3 n s W (by simp [ofV, hs])
  · have : goodV k n s = false := by simp [goodV, k0, k1, k2, k3]
    rw [this]; exact good_nil k n s W (by simp [ofV, k0, k1, k2, k3])
end Go.Proofs.YtcjidlgmbjebjaaGreatDoor

namespace Go.Proofs.YtcjidlgmbjebjaaGreatDoor
open Go Go.RowKit
theorem isEmpty_of {l : List UInt8} (h : ¬ l = []) : l.isEmpty = false := by cases l with | nil => exact absurd rfl h | cons a b => rfl
set_option maxHeartbeats 2000000 in
theorem refgood_val (k n : Int) (s : ByteArray) (W : World) (hsz : s.size ≤ 9223372036854775807) : Calls Tryz.prog 54 #[.agg #[.int .i64 k, .int .i64 n, .string s]] W (RetBool (goodV k n s) W) := by
  have hk : k = 0 ∨ k = 1 ∨ k = 2 ∨ k = 3 ∨ (k ≠ 0 ∧ k ≠ 1 ∧ k ≠ 2 ∧ k ≠ 3) := by omega
  have hn : n = 0 ∨ n = 1 ∨ (n ≠ 0 ∧ n ≠ 1) := by omega
  rcases hk with rfl | rfl | rfl | rfl | ⟨k0, k1, k2, k3⟩
  case inr.inr.inl =>
    by_cases hn0 : n = 0
    · subst hn0
      by_cases h2 : s.size ≤ 200
      · have hg : goodV 2 0 s = Utf.ok s := by simp [goodV, h2]
        rw [hg]
        clear hg hn
        go_enter Tryz.func54, Tryz.ntmps54
        go_wp2_with fail
        refine (utf_val s _ hsz).mono ?_
        rintro e w1 ⟨rfl, hb⟩
        have hb := below_step (show Below W.heap.size W _ from by go_grown) hb
        dsimp only
        go_wp2_with fail
        go_ret
        exact ⟨rfl, hb⟩
      · have hg : goodV 2 0 s = false := by simp [goodV, h2]
        rw [hg]
        clear hg hn
        go_enter Tryz.func54, Tryz.ntmps54
        go_wp2
        go_ret
        refine ⟨rfl, ?_⟩
        go_grown
    · have hg : goodV 2 n s = false := by simp [goodV, hn0]
      rw [hg]
      clear hg hn
      go_enter Tryz.func54, Tryz.ntmps54
      go_wp2
      go_ret
      refine ⟨rfl, ?_⟩
      go_grown
  all_goals (by_cases hs : s.toList = []
             · have hs2 : s.toList.isEmpty = true := by rw [hs]; rfl
               rcases hn with rfl | rfl | ⟨n0, n1⟩
               all_goals
                 (go_enter Tryz.func54, Tryz.ntmps54
                  go_wp2
                  all_goals (go_ret; refine ⟨?_, ?_⟩; focus (simp_all [goodV]; done))
                  all_goals go_grown)
             · have hs2 := isEmpty_of hs
               rcases hn with rfl | rfl | ⟨n0, n1⟩
               all_goals
                 (go_enter Tryz.func54, Tryz.ntmps54
                  go_wp2
                  all_goals (go_ret; refine ⟨?_, ?_⟩; focus (simp_all [goodV]; done))
                  all_goals go_grown))
end Go.Proofs.YtcjidlgmbjebjaaGreatDoor

namespace Go.Proofs.YtcjidlgmbjebjaaGreatDoor
open Go Go.RowKit
def sTrue : ByteArray := ⟨#[116, 114, 117, 101]⟩
def sFalse : ByteArray := ⟨#[102, 97, 108, 115, 101]⟩
def sNull : ByteArray := ⟨#[110, 117, 108, 108]⟩
def prV (k n : Int) (s : ByteArray) : ByteArray :=
  if goodV k n s = false then ⟨#[]⟩ else if k = 1 then numS n else if k = 2 then qS s else if k = 3 then (if n = 1 then sTrue else sFalse) else sNull
def PowIs (w : World) : Prop := Lib.TabIs Tryz.prog w "internal/strconv.uint64pow10" .u64 Lib.pow10Tab
theorem good_kind {k n : Int} {s : ByteArray} (h : goodV k n s = true) : k = 0 ∨ k = 1 ∨ (k = 2 ∧ s.size ≤ 200) ∨ (k = 3 ∧ (n = 0 ∨ n = 1)) := by
  unfold goodV at h
  split at h
  · exact .inl ‹_›
  · split at h
    · exact .inr (.inl ‹_›)
    · split at h
      · simp at h; exact .inr (.inr (.inl ⟨‹_›, h.2.1⟩))
      · split at h
        · simp at h; exact .inr (.inr (.inr ⟨‹_›, h.2⟩))
        · simp at h
theorem pow_named {w : World} (h : PowIs w) : ∃ g, Tryz.prog.globalNamed "internal/strconv.uint64pow10" = some g := by
  cases hg : Tryz.prog.globalNamed "internal/strconv.uint64pow10" with
  | some g => exact ⟨g, rfl⟩
  | none =>
    unfold PowIs Lib.TabIs World.var? at h
    rw [hg] at h
    simp at h
theorem pow_stays {w w' : World} (h : PowIs w) (hb : Below w.heap.size w w') : PowIs w' := by
  obtain ⟨g, hg⟩ := pow_named h
  exact Joins.tab_stays hg h hb (Nat.le_refl _)
theorem below_gr (w : World) (q : Nat) (os : Array Obj) : Below w.heap.size w (Sort.grow (w.drewN q) os) := by
  refine ⟨rfl, rfl, rfl, ?_, ?_⟩
  · show w.heap.size ≤ (w.heap ++ os).size
    simp
  · intro k hk
    show (w.heap ++ os)[k]? = w.heap[k]?
    rw [Array.getElem?_append_left hk]
theorem itoa_val (n : Int) (h0 : -9223372036854775808 ≤ n) (h1 : n ≤ 9223372036854775807) (w : World) (htab : PowIs w) :
    Calls Tryz.prog 78 #[.int .i64 n] w (RetS (.string (numS n)) w) := by
  refine (Tryz.strconv_Itoa n h0 h1 w htab).mono ?_
  rintro e w' ⟨rfl, k, os, rfl⟩
  exact ⟨rfl, below_gr w k os⟩
set_option maxHeartbeats 1000000 in
theorem print_val (k n : Int) (s : ByteArray) (W : World) (hsz : s.size ≤ 9223372036854775807) (h0 : -9223372036854775808 ≤ n) (h1 : n ≤ 9223372036854775807) (ht : PowIs W) :
    Calls Tryz.prog 41 #[.agg #[.int .i64 k, .int .i64 n, .string s]] W (RetS (.string (prV k n s)) W) := by
  have hc := fun w => good_val k n s w hsz
  cases hg : goodV k n s with
  | false =>
    rw [hg] at hc
    have HC := Lib.hid hc; clear hc
    have hp : prV k n s = ⟨#[]⟩ := by simp [prV, hg]
    rw [hp]; clear hp hg
    go_enter Tryz.func41, Tryz.ntmps41
    go_wp2_with fail
    refine (HC.out _).mono ?_
    rintro e w1 ⟨rfl, hb⟩
    have hb := below_step (show Below W.heap.size W _ from by go_grown) hb
    dsimp only
    go_wp2_with fail
    go_ret
    exact ⟨rfl, hb⟩
  | true =>
    rw [hg] at hc
    have HC := Lib.hid hc; clear hc
    have HG := Lib.hid hg
    have hk := Lib.hid (good_kind hg)
    clear hg
    go_enter Tryz.func41, Tryz.ntmps41
    go_wp2_with fail
    refine (HC.out _).mono ?_
    rintro e w1 ⟨rfl, hb⟩
    have c0 := cell_later (v := .int .i64 k) hb (show World.cell? _ ⟨W.heap.size, 0, none⟩ = some (.int .i64 k) from by go_cell)
    have c1 := cell_later (v := .int .i64 n) hb (show World.cell? _ ⟨W.heap.size, 1, none⟩ = some (.int .i64 n) from by go_cell)
    have c2 := cell_later (v := .string s) hb (show World.cell? _ ⟨W.heap.size, 2, none⟩ = some (.string s) from by go_cell)
    have hB := below_step (show Below W.heap.size W _ from by go_grown) hb
    clear hb
    have ht1 := pow_stays ht hB
    clear ht
    dsimp only
    rcases hk.out with rfl | rfl | ⟨rfl, h2⟩ | ⟨rfl, rfl | rfl⟩
    all_goals clear hk
    · go_wp2_with fail
      go_ret
      exact ⟨by simp [prV, HG.out, sTrue, sFalse, sNull], hB⟩
    · go_wp2_with fail
      refine (itoa_val n h0 h1 w1 ht1).mono ?_
      rintro e w2 ⟨rfl, hb2⟩
      have hB := below_step hB hb2
      dsimp only
      go_wp2_with fail
      go_ret
      exact ⟨by simp [prV, HG.out, sTrue, sFalse, sNull], hB⟩
    · go_wp2_with fail
      refine (quoted_val s w1 (by omega)).mono ?_
      rintro e w2 ⟨rfl, hb2⟩
      have hB := below_step hB hb2
      dsimp only
      go_wp2_with fail
      go_ret
      exact ⟨by simp [prV, HG.out, sTrue, sFalse, sNull], hB⟩
    · go_wp2_with fail
      go_ret
      exact ⟨by simp [prV, HG.out, sTrue, sFalse, sNull], hB⟩
    · go_wp2_with fail
      go_ret
      exact ⟨by simp [prV, HG.out, sTrue, sFalse, sNull], hB⟩
end Go.Proofs.YtcjidlgmbjebjaaGreatDoor
