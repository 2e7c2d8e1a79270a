/- A part of the proof of SchemaBack. -/
import Derived.Test.YtcjidlgmbjebjaaDoorSbe
import Derived.Test.YtcjidlgmbjebjaaDoorSba
import Derived.Test.YtcjidlgmbjebjaaDoorSbd
import Derived.Test.YtcjidlgmbjebjaaDoorSbb
import Derived.Lib.SmallJoins
import Derived.Test.YtcjidlgmbjebjaaDoorSbc
set_option linter.unusedVariables false
set_option linter.unusedSimpArgs false
set_option maxRecDepth 100000
namespace Go.Proofs.YtcjidlgmbjebjaaDoor
open Go Go.RowKit
theorem good_nothing (W : World) : Calls Tryd.prog 246 #[.agg #[]] W (RetBool true W) := by
  go_enter Tryd.func246, Tryd.ntmps246
  go_wp2
  go_ret
  refine ⟨rfl, ?_⟩
  go_grown
theorem good_number (n : Int) (W : World) : Calls Tryd.prog 250 #[.int .i64 n] W (RetBool true W) := by
  go_enter Tryd.func250, Tryd.ntmps250
  go_wp2
  go_ret
  exact ⟨rfl, Below.refl _ _⟩
theorem good_flag (b : Bool) (W : World) : Calls Tryd.prog 247 #[.bool b] W (RetBool true W) := by
  go_enter Tryd.func247, Tryd.ntmps247
  go_wp2
  go_ret
  exact ⟨rfl, Below.refl _ _⟩
theorem good_text (s : ByteArray) (W : World) (hs : s.size ≤ 9223372036854775807) : Calls Tryd.prog 248 #[.string s] W (RetBool (decide (s.size ≤ 200) && Utf.ok s) W) := by
  by_cases h : s.size ≤ 200
  · rw [decide_eq_true h, Bool.true_and]
    go_enter Tryd.func248, Tryd.ntmps248
    go_wp2_with (first | (go_at_call 249; refine (right_val s _ hs).mono ?_; rintro e w' ⟨rfl, hb⟩))
    go_ret
    exact ⟨rfl, hb⟩
  · rw [decide_eq_false h, Bool.false_and]
    go_enter Tryd.func248, Tryd.ntmps248
    go_wp2
    go_ret
    exact ⟨rfl, Below.refl _ _⟩
def goodV (k n : Int) (s : ByteArray) : Bool :=
  if k = 0 then decide (n = 0 ∧ s.toList = [])
  else if k = 1 then decide (s.toList = [])
  else if k = 2 then decide (n = 0) && (decide (s.size ≤ 200) && Utf.ok s)
  else if k = 3 then decide (s.toList = []) && decide (n = 0 ∨ n = 1)
  else false

theorem good0 (s : ByteArray) (W : World) (hsz : s.size ≤ 9223372036854775807) (hs : s.toList = []) : Calls Tryd.prog 31 #[.agg #[.int .i64 0, .int .i64 0, .string s]] W (RetBool (true) W) := by
  have ho : ofV 0 0 s = .iface 142 (.agg #[]) := by simp [ofV, *]
  have hc := fun w => of_val 0 0 s w
  rw [ho] at hc
  have HC := Lib.hid hc; clear hc ho
  go_enter Tryd.func31, Tryd.ntmps31
  go_wp2_with fail
  refine (HC.out _).mono ?_
  rintro e w1 ⟨rfl, hb⟩
  have hb := below_step (show Below W.heap.size W _ from by go_grown) hb
  dsimp only
  go_wp2_with fail
  refine (good_nothing _).mono ?_
  rintro e w2 ⟨rfl, hb2⟩
  have hb := below_step hb hb2
  dsimp only
  go_wp2_with fail
  go_ret
  exact ⟨by first | rfl | simp, hb⟩

theorem good1 (n : Int) (s : ByteArray) (W : World) (hsz : s.size ≤ 9223372036854775807) (hs : s.toList = []) : Calls Tryd.prog 31 #[.agg #[.int .i64 1, .int .i64 n, .string s]] W (RetBool (true) W) := by
  have ho : ofV 1 n s = .iface 149 (.int .i64 n) := by simp [ofV, *]
  have hc := fun w => of_val 1 n s w
  rw [ho] at hc
  have HC := Lib.hid hc; clear hc ho
  go_enter Tryd.func31, Tryd.ntmps31
  go_wp2_with fail
  refine (HC.out _).mono ?_
  rintro e w1 ⟨rfl, hb⟩
  have hb := below_step (show Below W.heap.size W _ from by go_grown) hb
  dsimp only
  go_wp2_with fail
  refine (good_number _ _).mono ?_
  rintro e w2 ⟨rfl, hb2⟩
  have hb := below_step hb hb2
  dsimp only
  go_wp2_with fail
  go_ret
  exact ⟨by first | rfl | simp, hb⟩

theorem good2 (s : ByteArray) (W : World) (hsz : s.size ≤ 9223372036854775807) : Calls Tryd.prog 31 #[.agg #[.int .i64 2, .int .i64 0, .string s]] W (RetBool (decide (s.size ≤ 200) && Utf.ok s) W) := by
  have ho : ofV 2 0 s = .iface 144 (.string s) := by simp [ofV, *]
  have hc := fun w => of_val 2 0 s w
  rw [ho] at hc
  have HC := Lib.hid hc; clear hc ho
  go_enter Tryd.func31, Tryd.ntmps31
  go_wp2_with fail
  refine (HC.out _).mono ?_
  rintro e w1 ⟨rfl, hb⟩
  have hb := below_step (show Below W.heap.size W _ from by go_grown) hb
  dsimp only
  go_wp2_with fail
  refine (good_text s _ hsz).mono ?_
  rintro e w2 ⟨rfl, hb2⟩
  have hb := below_step hb hb2
  dsimp only
  go_wp2_with fail
  go_ret
  exact ⟨by first | rfl | simp, hb⟩

theorem good3 (s : ByteArray) (W : World) (hsz : s.size ≤ 9223372036854775807) (hs : s.toList = []) : Calls Tryd.prog 31 #[.agg #[.int .i64 3, .int .i64 0, .string s]] W (RetBool (true) W) := by
  have ho : ofV 3 0 s = .iface 143 (.bool false) := by simp [ofV, *]
  have hc := fun w => of_val 3 0 s w
  rw [ho] at hc
  have HC := Lib.hid hc; clear hc ho
  go_enter Tryd.func31, Tryd.ntmps31
  go_wp2_with fail
  refine (HC.out _).mono ?_
  rintro e w1 ⟨rfl, hb⟩
  have hb := below_step (show Below W.heap.size W _ from by go_grown) hb
  dsimp only
  go_wp2_with fail
  refine (good_flag _ _).mono ?_
  rintro e w2 ⟨rfl, hb2⟩
  have hb := below_step hb hb2
  dsimp only
  go_wp2_with fail
  go_ret
  exact ⟨by first | rfl | simp, hb⟩

theorem good4 (s : ByteArray) (W : World) (hsz : s.size ≤ 9223372036854775807) (hs : s.toList = []) : Calls Tryd.prog 31 #[.agg #[.int .i64 3, .int .i64 1, .string s]] W (RetBool (true) W) := by
  have ho : ofV 3 1 s = .iface 143 (.bool true) := by simp [ofV, *]
  have hc := fun w => of_val 3 1 s w
  rw [ho] at hc
  have HC := Lib.hid hc; clear hc ho
  go_enter Tryd.func31, Tryd.ntmps31
  go_wp2_with fail
  refine (HC.out _).mono ?_
  rintro e w1 ⟨rfl, hb⟩
  have hb := below_step (show Below W.heap.size W _ from by go_grown) hb
  dsimp only
  go_wp2_with fail
  refine (good_flag _ _).mono ?_
  rintro e w2 ⟨rfl, hb2⟩
  have hb := below_step hb hb2
  dsimp only
  go_wp2_with fail
  go_ret
  exact ⟨by first | rfl | simp, hb⟩

theorem good_nil (k n : Int) (s : ByteArray) (W : World) (ho : ofV k n s = .nilIface) : Calls Tryd.prog 31 #[.agg #[.int .i64 k, .int .i64 n, .string s]] W (RetBool false W) := by
  have hc := fun w => of_val k n s w
  rw [ho] at hc
  have HC := Lib.hid hc; clear hc ho
  go_enter Tryd.func31, Tryd.ntmps31
  go_wp2_with fail
  refine (HC.out _).mono ?_
  rintro e w1 ⟨rfl, hb⟩
  have hb := below_step (show Below W.heap.size W _ from by go_grown) hb
  dsimp only
  go_wp2_with fail
  go_ret
  exact ⟨rfl, hb⟩
theorem good_val (k n : Int) (s : ByteArray) (W : World) (hsz : s.size ≤ 9223372036854775807) : Calls Tryd.prog 31 #[.agg #[.int .i64 k, .int .i64 n, .string s]] W (RetBool (goodV k n s) W) := by
  have hk : k = 0 ∨ k = 1 ∨ k = 2 ∨ k = 3 ∨ (k ≠ 0 ∧ k ≠ 1 ∧ k ≠ 2 ∧ k ≠ 3) := by omega
  rcases hk with rfl | rfl | rfl | rfl | ⟨k0, k1, k2, k3⟩
  · by_cases h : n = 0 ∧ s.toList = []
    · obtain ⟨rfl, hs⟩ := h
      have : goodV 0 0 s = true := by simp [goodV, hs]
      rw [this]; exact good0 s W hsz hs
    · have : goodV 0 n s = false := by simp only [goodV, if_true]; exact decide_eq_false h
      rw [this]; exact good_nil 0 n s W (by simp only [ofV, if_true]; rw [if_neg h])
  · by_cases hs : s.toList = []
    · have : goodV 1 n s = true := by simp [goodV, hs]
      rw [this]; exact good1 n s W hsz hs
    · have : goodV 1 n s = false := by simp [goodV, hs]
      rw [this]; exact good_nil 1 n s W (by simp [ofV, hs])
  · by_cases hn : n = 0
    · subst hn
      have : goodV 2 0 s = (decide (s.size ≤ 200) && Utf.ok s) := by simp [goodV]
      rw [this]; exact good2 s W hsz
    · have : goodV 2 n s = false := by simp [goodV, hn]
      rw [this]; exact good_nil 2 n s W (by simp [ofV, hn])
  · by_cases hs : s.toList = []
    · by_cases h0 : n = 0
      · subst h0
        have : goodV 3 0 s = true := by simp [goodV, hs]
        rw [this]; exact good3 s W hsz hs
      · by_cases h1 : n = 1
        · subst h1
          have : goodV 3 1 s = true := by simp [goodV, hs]
          rw [this]; exact good4 s W hsz hs
        · have : goodV 3 n s = false := by simp [goodV, hs, h0, h1]
          rw [this]; exact good_nil 3 n s W (by simp [ofV, hs, h0, h1])
    · have : goodV 3 n s = false := by simp [goodV, hs]
      rw [this]; exact good_nil 3 n s W (by simp [ofV, hs])
  · have : goodV k n s = false := by simp [goodV, k0, k1, k2, k3]
    rw [this]; exact good_nil k n s W (by simp [ofV, k0, k1, k2, k3])
end Go.Proofs.YtcjidlgmbjebjaaDoor

namespace Go.Proofs.YtcjidlgmbjebjaaDoor
open Go Go.RowKit
theorem isEmpty_of {l : List UInt8} (h : ¬ l = []) : l.isEmpty = false := by cases l with | nil => exact absurd rfl h | cons a b => rfl
set_option maxHeartbeats 2000000 in
theorem refgood_val (k n : Int) (s : ByteArray) (W : World) (hsz : s.size ≤ 9223372036854775807) : Calls Tryd.prog 32 #[.agg #[.int .i64 k, .int .i64 n, .string s]] W (RetBool (goodV k n s) W) := by
  have hk : k = 0 ∨ k = 1 ∨ k = 2 ∨ k = 3 ∨ (k ≠ 0 ∧ k ≠ 1 ∧ k ≠ 2 ∧ k ≠ 3) := by omega
  have hn : n = 0 ∨ n = 1 ∨ (n ≠ 0 ∧ n ≠ 1) := by omega
  rcases hk with rfl | rfl | rfl | rfl | ⟨k0, k1, k2, k3⟩
  case inr.inr.inl =>
    by_cases hn0 : n = 0
    · subst hn0
      by_cases h2 : s.size ≤ 200
      · have hg : goodV 2 0 s = Utf.ok s := by simp [goodV, h2]
        rw [hg]
        clear hg hn
        go_enter Tryd.func32, Tryd.ntmps32
        go_wp2_with fail
        refine (utf_val s _ hsz).mono ?_
        rintro e w1 ⟨rfl, hb⟩
        have hb := below_step (show Below W.heap.size W _ from by go_grown) hb
        dsimp only
        go_wp2_with fail
        go_ret
        exact ⟨rfl, hb⟩
      · have hg : goodV 2 0 s = false := by simp [goodV, h2]
        rw [hg]
        clear hg hn
        go_enter Tryd.func32, Tryd.ntmps32
        go_wp2
        go_ret
        refine ⟨rfl, ?_⟩
        go_grown
    · have hg : goodV 2 n s = false := by simp [goodV, hn0]
      rw [hg]
      clear hg hn
      go_enter Tryd.func32, Tryd.ntmps32
      go_wp2
      go_ret
      refine ⟨rfl, ?_⟩
      go_grown
  all_goals (by_cases hs : s.toList = []
             · have hs2 : s.toList.isEmpty = true := by rw [hs]; rfl
               rcases hn with rfl | rfl | ⟨n0, n1⟩
               all_goals
                 (go_enter Tryd.func32, Tryd.ntmps32
                  go_wp2
                  all_goals (go_ret; refine ⟨?_, ?_⟩; focus (simp_all [goodV]; done))
                  all_goals go_grown)
             · have hs2 := isEmpty_of hs
               rcases hn with rfl | rfl | ⟨n0, n1⟩
               all_goals
                 (go_enter Tryd.func32, Tryd.ntmps32
                  go_wp2
                  all_goals (go_ret; refine ⟨?_, ?_⟩; focus (simp_all [goodV]; done))
                  all_goals go_grown))
def fitsV (k n : Int) (s : ByteArray) (kind : Int) (must : Bool) : Int :=
  if goodV k n s = false then 9 else if kind < 1 ∨ 3 < kind then 2 else if (k = 0 ∧ must = true) ∨ (k ≠ 0 ∧ k ≠ kind) then 13 else 0
end Go.Proofs.YtcjidlgmbjebjaaDoor

namespace Go.Proofs.YtcjidlgmbjebjaaDoor
open Go Go.RowKit
def sTrue : ByteArray := ⟨#[116, 114, 117, 101]⟩
def sFalse : ByteArray := ⟨#[102, 97, 108, 115, 101]⟩
def sNull : ByteArray := ⟨#[110, 117, 108, 108]⟩
def prV (k n : Int) (s : ByteArray) : ByteArray :=
  if goodV k n s = false then ⟨#[]⟩ else if k = 1 then numS n else if k = 2 then qS s else if k = 3 then (if n = 1 then sTrue else sFalse) else sNull
def PowIs (w : World) : Prop := Lib.TabIs Tryd.prog w "internal/strconv.uint64pow10" .u64 Lib.pow10Tab
theorem good_kind {k n : Int} {s : ByteArray} (h : goodV k n s = true) : k = 0 ∨ k = 1 ∨ (k = 2 ∧ s.size ≤ 200) ∨ (k = 3 ∧ (n = 0 ∨ n = 1)) := by
  unfold goodV at h
  split at h
  · exact .inl ‹_›
  · split at h
    · exact .inr (.inl ‹_›)
    · split at h
      · simp at h; exact .inr (.inr (.inl ⟨‹_›, h.2.1⟩))
      · split at h
        · simp at h; exact .inr (.inr (.inr ⟨‹_›, h.2⟩))
        · simp at h
theorem pow_named {w : World} (h : PowIs w) : ∃ g, Tryd.prog.globalNamed "internal/strconv.uint64pow10" = some g := by
  cases hg : Tryd.prog.globalNamed "internal/strconv.uint64pow10" with
  | some g => exact ⟨g, rfl⟩
  | none =>
    unfold PowIs Lib.TabIs World.var? at h
    rw [hg] at h
    simp at h
theorem pow_stays {w w' : World} (h : PowIs w) (hb : Below w.heap.size w w') : PowIs w' := by
  obtain ⟨g, hg⟩ := pow_named h
  exact Joins.tab_stays hg h hb (Nat.le_refl _)
theorem below_gr (w : World) (q : Nat) (os : Array Obj) : Below w.heap.size w (Sort.grow (w.drewN q) os) := by
  refine ⟨rfl, rfl, rfl, ?_, ?_⟩
  · show w.heap.size ≤ (w.heap ++ os).size
    simp
  · intro k hk
    show (w.heap ++ os)[k]? = w.heap[k]?
    rw [Array.getElem?_append_left hk]
theorem itoa_val (n : Int) (h0 : -9223372036854775808 ≤ n) (h1 : n ≤ 9223372036854775807) (w : World) (htab : PowIs w) :
    Calls Tryd.prog 53 #[.int .i64 n] w (RetS (.string (numS n)) w) := by
  refine (Tryd.strconv_Itoa n h0 h1 w htab).mono ?_
  rintro e w' ⟨rfl, k, os, rfl⟩
  exact ⟨rfl, below_gr w k os⟩
set_option maxHeartbeats 1000000 in
theorem print_val (k n : Int) (s : ByteArray) (W : World) (hsz : s.size ≤ 9223372036854775807) (h0 : -9223372036854775808 ≤ n) (h1 : n ≤ 9223372036854775807) (ht : PowIs W) :
    Calls Tryd.prog 36 #[.agg #[.int .i64 k, .int .i64 n, .string s]] W (RetS (.string (prV k n s)) W) := by
  have hc := fun w => good_val k n s w hsz
  cases hg : goodV k n s with
  | false =>
    rw [hg] at hc
    have HC := Lib.hid hc; clear hc
    have hp : prV k n s = ⟨#[]⟩ := by simp [prV, hg]
    rw [hp]; clear hp hg
    go_enter Tryd.func36, Tryd.ntmps36
    go_wp2_with fail
    refine (HC.out _).mono ?_
    rintro e w1 ⟨rfl, hb⟩
    have hb := below_step (show Below W.heap.size W _ from by go_grown) hb
    dsimp only
    go_wp2_with fail
    go_ret
    exact ⟨rfl, hb⟩
  | true =>
    rw [hg] at hc
    have HC := Lib.hid hc; clear hc
    have HG := Lib.hid hg
    have hk := Lib.hid (good_kind hg)
    clear hg
    go_enter Tryd.func36, Tryd.ntmps36
    go_wp2_with fail
    refine (HC.out _).mono ?_
    rintro e w1 ⟨rfl, hb⟩
    have c0 := cell_later (v := .int .i64 k) hb (show World.cell? _ ⟨W.heap.size, 0, none⟩ = some (.int .i64 k) from by go_cell)
    have c1 := cell_later (v := .int .i64 n) hb (show World.cell? _ ⟨W.heap.size, 1, none⟩ = some (.int .i64 n) from by go_cell)
    have c2 := cell_later (v := .string s) hb (show World.cell? _ ⟨W.heap.size, 2, none⟩ = some (.string s) from by go_cell)
    have hB := below_step (show Below W.heap.size W _ from by go_grown) hb
    clear hb
    have ht1 := pow_stays ht hB
    clear ht
    dsimp only
    rcases hk.out with rfl | rfl | ⟨rfl, h2⟩ | ⟨rfl, rfl | rfl⟩
    all_goals clear hk
    · go_wp2_with fail
      go_ret
      exact ⟨by simp [prV, HG.out, sTrue, sFalse, sNull], hB⟩
    · go_wp2_with fail
      refine (itoa_val n h0 h1 w1 ht1).mono ?_
      rintro e w2 ⟨rfl, hb2⟩
      have hB := below_step hB hb2
      dsimp only
      go_wp2_with fail
      go_ret
      exact ⟨by simp [prV, HG.out, sTrue, sFalse, sNull], hB⟩
    · go_wp2_with fail
      refine (quoted_val s w1 (by omega)).mono ?_
      rintro e w2 ⟨rfl, hb2⟩
      have hB := below_step hB hb2
      dsimp only
      go_wp2_with fail
      go_ret
      exact ⟨by simp [prV, HG.out, sTrue, sFalse, sNull], hB⟩
    · go_wp2_with fail
      go_ret
      exact ⟨by simp [prV, HG.out, sTrue, sFalse, sNull], hB⟩
    · go_wp2_with fail
      go_ret
      exact ⟨by simp [prV, HG.out, sTrue, sFalse, sNull], hB⟩
end Go.Proofs.YtcjidlgmbjebjaaDoor

namespace Go.Proofs.YtcjidlgmbjebjaaDoor
open Go Go.RowKit
def kdName (k : Int) : ByteArray := if k = 0 then ⟨#[65, 78, 89]⟩ else formName k
def ct (c : Col) : ByteArray := colText c.1 c.2.1 c.2.2
def wordsOf (nm : ByteArray) (k srs : Int) (cs : List Col) : List ByteArray := [nm, kdName k, numS srs] ++ cs.map ct
def textB (nm : ByteArray) (k srs : Int) (cs : List Col) : ByteArray := ⟨(Lib.join ((wordsOf nm k srs cs).map (·.data.toList)) [32]).toArray⟩
theorem bsize_append (a b : ByteArray) : (a ++ b).size = a.size + b.size := ByteArray.size_append
theorem tyName_size (k : Int) : (tyName k).size ≤ 4 := by
  unfold tyName; repeat' split
  all_goals decide
theorem formName_size (k : Int) : (formName k).size ≤ 18 := by
  unfold formName; repeat' split
  all_goals decide
theorem kdName_size (k : Int) : (kdName k).size ≤ 18 := by
  unfold kdName; split
  · decide
  · exact formName_size k
theorem ct_size (c : Col) (h : c.1.size ≤ 12) : (ct c).size ≤ 20 := by
  have := tyName_size c.2.1
  have e1 : (ByteArray.mk #[58]).size = 1 := rfl
  have e2 : (ByteArray.mk #[33]).size = 1 := rfl
  unfold ct colText
  cases c.2.2
  · simp only [cond_false, bsize_append, e1]; omega
  · simp only [cond_true, bsize_append, e1, e2]; omega
theorem lens_le (l : List (List UInt8)) (n : Nat) (h : ∀ x ∈ l, x.length ≤ n) : Lib.lens l ≤ l.length * n := by
  induction l with
  | nil => simp [Lib.lens]
  | cons a l ih =>
    have h1 := ih fun x hx => h x (List.mem_cons_of_mem _ hx)
    have h2 := h a List.mem_cons_self
    simp only [Lib.lens, List.map_cons, List.sum_cons, List.length_cons] at *
    rw [Nat.add_mul]; omega
theorem words_len (nm : ByteArray) (k srs : Int) (cs : List Col) (h1 : nm.size ≤ 12) (h0 : -9223372036854775808 ≤ srs) (h2 : srs ≤ 9223372036854775807) (hcs : ∀ c ∈ cs, c.1.size ≤ 12) (hl : cs.length ≤ 50) :
    (Lib.join ((wordsOf nm k srs cs).map (·.data.toList)) [32]).length ≤ 2000 := by
  have hall : ∀ x ∈ (wordsOf nm k srs cs).map (·.data.toList), x.length ≤ 22 := by
    intro x hx
    obtain ⟨b, hb, rfl⟩ := List.mem_map.1 hx
    have : b.size ≤ 22 := by
      simp only [wordsOf, List.cons_append, List.nil_append, List.mem_cons, List.mem_map] at hb
      rcases hb with rfl | rfl | rfl | ⟨c, hc, rfl⟩
      · omega
      · have := kdName_size k; omega
      · have := numS_size srs h0 h2; omega
      · have := ct_size c (hcs c hc); omega
    rw [Array.length_toList]; exact this
  have hlen : ((wordsOf nm k srs cs).map (·.data.toList)).length = cs.length + 3 := by simp [wordsOf]
  have h3 := lens_le _ 22 hall
  rw [hlen] at h3
  have e : (wordsOf nm k srs cs).map (·.data.toList) = nm.data.toList :: ((kdName k).data.toList :: (numS srs).data.toList :: (cs.map ct).map (·.data.toList)) := rfl
  rw [e] at h3 ⊢
  rw [Lib.join_length]
  simp only [List.length_cons, List.length_nil, List.length_map]
  omega
theorem own_full {w : World} {base e : Nat} (cur : Array Value) (n : Nat) (hn : cur.size = n) (hb : base ≤ w.heap.size) (hm : n ≤ maxLen) :
    (w.alloc (.cells cur e)).ownsRow base e 1 (.slice (some ⟨w.heap.size, 0, none⟩) n n) n cur.toList :=
  ⟨by simp [hn], .inr ⟨w.heap.size, n, cur, rfl, hb, hp_new w _ _ rfl, Nat.le_refl _, hm, by simp [hn], by simp [hn, List.take_of_length_le]⟩⟩
end Go.Proofs.YtcjidlgmbjebjaaDoor

namespace Go.Proofs.YtcjidlgmbjebjaaDoor
open Go Go.RowKit
theorem form_b (k : Int) (w : World) (ht : FormsAt w) : Calls Tryd.prog 52 #[.int .i64 k] w (RetS (.string (formName k)) w) :=
  (form_val k w ht).mono fun e w' h => ⟨h.1, by rw [h.2]; exact Below.refl _ _⟩
theorem strinfo : Option.map (fun i => (i.zero, i.size, i.bytes)) (Tryd.prog.info? 9) = some (some (.string ⟨#[]⟩), 1, 16) := by kernel_rfl
def TxR (nm : ByteArray) (k srs : Int) (cs : List Col) (W : World) (t n : Value) (w' : World) : Prop :=
  ∃ i g capx : Nat, i ≤ cs.length ∧ n = .int .i64 i ∧ t = .slice (some ⟨g, 0, none⟩) (3 + i) capx ∧ w'.ownsRow W.heap.size 9 1 (.slice (some ⟨g, 0, none⟩) (3 + i) capx) (3 + i) ((wordsOf nm k srs (cs.take i)).map Value.string) ∧ Below W.heap.size W w'
theorem words_snoc (nm : ByteArray) (k srs : Int) (cs : List Col) (c : Col) : (wordsOf nm k srs (cs ++ [c])).map Value.string = (wordsOf nm k srs cs).map Value.string ++ [.string (ct c)] := by
  simp [wordsOf]
theorem cell_lt {w : World} {b o : Nat} {v : Value} (h : w.cell? ⟨b, o, none⟩ = some v) : b < w.heap.size := by
  rcases Nat.lt_or_ge b w.heap.size with h' | h'
  · exact h'
  · simp [World.cell?, Array.getElem?_eq_none h'] at h
theorem own_below {w w' : World} {base e s n : Nat} {v : Value} {xs : List Value} (h : w.ownsRow base e s v n xs) (hb : Below w.heap.size w w') : w'.ownsRow base e s v n xs := by
  obtain ⟨h1, h2 | ⟨g, cap, cur, hv, hg, hk, r⟩⟩ := h
  · exact ⟨h1, .inl h2⟩
  · exact ⟨h1, .inr ⟨g, cap, cur, hv, hg, (hb.block _ (Array.getElem?_eq_some_iff.1 hk).1).trans hk, r⟩⟩
theorem words_length (nm : ByteArray) (k srs : Int) (cs : List Col) : (wordsOf nm k srs cs).length = 3 + cs.length := by simp [wordsOf]; omega
theorem join_of {w : World} {base g cap : Nat} {nm : ByteArray} {k srs : Int} {cs : List Col} (h : w.ownsRow base 9 1 (.slice (some ⟨g, 0, none⟩) (3 + cs.length) cap) (3 + cs.length) ((wordsOf nm k srs cs).map Value.string))
    (hl : (Lib.join ((wordsOf nm k srs cs).map (·.data.toList)) [32]).length ≤ 2000) (hlen : cs.length ≤ 50) :
    Calls Tryd.prog 55 #[.slice (some ⟨g, 0, none⟩) (3 + cs.length) cap, .string ⟨#[32]⟩] w (RetS (.string (textB nm k srs cs)) w) := by
  have hc := h.cells (g := g) rfl
  have hlt := (h.lt g rfl).2
  have hcap : 3 + cs.length ≤ cap := by
    rcases h.2 with ⟨hv, _⟩ | ⟨g', cap', cur, hv, _, _, h3, _⟩
    · cases hv
    · injection hv with _ _ e; rw [e]; exact h3
  have hJ := Tryd.strings_Join g 0 cap (wordsOf nm k srs cs) ⟨#[32]⟩ w (fun j x hx => by
    have := hc j (.string x) (by rw [List.getElem?_map, hx]; rfl)
    have ha : (⟨g, 0, none⟩ : Addr).add j = ⟨g, 0 + j, none⟩ := by unfold Addr.add; split <;> simp_all
    rw [ha] at this; exact this) hlt (by rw [words_length]; omega) (by rw [words_length]; exact hcap) (Nat.le_trans hl (by decide))
  rw [words_length] at hJ
  exact hJ
set_option maxHeartbeats 8000000 in
theorem text_val (nm : ByteArray) (k srs : Int) (v0 : Value) (cs : List Col) (W : World) (hs : nm.size ≤ 12) (h0 : -9223372036854775808 ≤ srs) (h1 : srs ≤ 9223372036854775807) (hcs : ∀ c ∈ cs, c.1.size ≤ 12) (hlen : cs.length ≤ 50) (hv0 : ColsV W v0 cs)
    (ht : TypesAt W) (hf : FormsAt W) (hpw : PowIs W) :
    Calls Tryd.prog 21 #[schV nm k srs v0] W (RetS (.string (textB nm k srs cs)) W) := by
  obtain ⟨pa, b, o, cap, rfl, hcap, hpa, hc0⟩ := hv0
  obtain ⟨i0, hi, hz0, hz1, hz2⟩ := info_parts strinfo
  have H0 := Lib.hid hc0; clear hc0
  have HP := Lib.hid hpa; clear hpa hcap
  have HL := Lib.hid (words_len nm k srs cs hs h0 h1 hcs hlen)
  have HS := Lib.hid hcs; clear hcs
  have HT := Lib.hid ht; clear ht
  have HF := Lib.hid hf; clear hf
  have HW := Lib.hid hpw; clear hpw
  unfold schV
  by_cases hk : k = 0
  · have HK := Lib.hid (show kdName k = ⟨#[65, 78, 89]⟩ by unfold kdName; rw [if_pos hk])
    have hk1 : (k == 0) = true := by rw [beq_iff_eq]; exact hk
    clear hk
    go_enter Tryd.func21, Tryd.ntmps21
    go_wp2_with fail
    go_region_held3 (fun w' => w'.cell? ⟨W.heap.size, 0, none⟩ = some (.string nm) ∧ w'.cell? ⟨W.heap.size, 1, none⟩ = some (.int .i64 k) ∧ w'.cell? ⟨W.heap.size, 2, none⟩ = some (.int .i64 srs) ∧ w'.cell? ⟨W.heap.size, 3, none⟩ = some (.slice pa cs.length cap) ∧ Below W.heap.size W w')
      (first
        | (go_keep; done)
        | ((repeat' apply And.intro) <;> first | (go_cell; done) | (rw [World.cell?_drew]; go_cell; done) | (go_grown; done))
        | (go_split_ands; (repeat' apply And.intro) <;> first | (go_keep; done) | (go_cell; done) | (exact Below.alloc (by assumption) (Below.size (by assumption)) _))
        | (go_split_ands; (repeat' apply And.intro) <;> first | (exact cell_later hb1 (by assumption)) | (exact below_step (by assumption) hb1)))
      (first
        | (go_at_call 52; go_split_ands; refine (form_b _ _ (forms_stays HF.out (by assumption))).mono ?_; rintro e w1 ⟨rfl, hb1⟩)
        | (go_at_call 53; go_split_ands; refine (itoa_val _ h0 h1 _ (pow_stays HW.out (by assumption))).mono ?_; rintro e w1 ⟨rfl, hb1⟩))
    rename_i hH
    have y1 : w1.cell? ⟨W.heap.size, 1, none⟩ = some (.int .i64 k) := cell_later hb1 (by assumption)
    have y3 : w1.cell? ⟨W.heap.size, 3, none⟩ = some (.slice pa cs.length cap) := cell_later hb1 (by assumption)
    have hBw : Below W.heap.size W w1 := below_step (by assumption) hb1
    have hz := cell_lt y1
    clear hb1 hH
    go_wp2_with fail
    go_loopw [3, 23] (fun t n w' => TxR nm k srs cs W t n w') (fun _ n _ => cs.length - (intOf n).toNat)
    case atStart => exact ⟨0, w1.heap.size, 3, by omega, rfl, rfl, by rw [List.take_zero]; have := own_full (w := w1) (base := W.heap.size) (e := 9) #[.string nm, .string (kdName k), .string (numS srs)] 3 rfl hBw.size (by decide); rw [HK.out] at this; simpa [wordsOf, HK.out] using this, hBw.alloc hBw.size _⟩
    case round =>
      obtain ⟨i, g, capx, hi', rfl, rfl, hown, hB⟩ := hrel
      by_cases hp : i < cs.length
      · obtain rfl := HP.out (by omega)
        obtain ⟨c, hc⟩ : ∃ c, cs[i]? = some c := ⟨cs[i], List.getElem?_eq_getElem hp⟩
        have hsz := HS.out c (List.mem_of_getElem? hc)
        obtain ⟨x0, x1, x2⟩ := cols_stays H0.out hB i c hc
        have HTK := Lib.hid (take_snocL hc)
        have HCT := Lib.hid (show ct c = colText c.1 c.2.1 c.2.2 from rfl)
        clear hc
        obtain ⟨cn, ck, cm⟩ := c
        have HO := Lib.hid hown; clear hown
        dsimp only at x0 x1 x2 hsz
        go_wp2_with fail
        refine (coltext_val cn ck cm _ (by omega) (types_stays HT.out (hB.alloc hB.size _))).mono ?_
        rintro e w2 ⟨rfl, hb⟩
        have hB2 := below_step (show Below W.heap.size W _ from hB.alloc hB.size _) hb
        have HO2 := Lib.hid (own_below (HO.out.alloc _) hb)
        clear hb
        dsimp only
        go_wp2_with (at_builtin; refine wpList_append_own _ rfl _ _ 92 rfl W.heap.size 9 i0 _ 1 16 Tryd.underlying92 hi hz0 hz1 hz2 rfl (by decide) _ _ _ rfl (HO2.out.alloc _) ⟨w2.heap.size, 0, none⟩ 1 1 [.string (colText cn ck cm)] rfl rfl ?c1 ?c2 ?c3 ?c4 ?c5 ?_)
        case c1 =>
          intro j u hj
          match j, hj with
          | 0, hj => simp at hj; subst hj; simp [Addr.add]
        case c2 => intro u hu; simp at hu; subst hu; rfl
        case c3 => unfold maxLen; omega
        case c4 => omega
        case c5 => have := hB2.size; simp; omega
        intro v' w3 hown' hgrow _
        obtain ⟨g', cap', rfl⟩ : ∃ g' cap', v' = .slice (some ⟨g', 0, none⟩) (3 + i + 1) cap' := by
          rcases hown'.2 with ⟨_, h0⟩ | ⟨g', cap, cur, hv, _⟩
          · omega
          · exact ⟨g', cap, hv⟩
        have HREL := Lib.hid (show TxR nm k srs cs W (.slice (some ⟨g', 0, none⟩) (3 + i + 1) cap') (.int .i64 ((i + 1 : Nat) : Int)) w3 from
          ⟨i + 1, g', cap', by omega, rfl, rfl, by rw [HTK.out, words_snoc, HCT.out]; exact hown', (hB2.alloc hB2.size _).grown hgrow (by have := hB2.size; simp; omega) (fun q hq => (HO2.out.lt q hq).1)⟩)
        clear hown' hgrow
        go_wp2_with fail
        exact ⟨HREL.out, by simp [intOf]; omega⟩
      · obtain rfl : i = cs.length := by omega
        rw [List.take_length] at hown
        have HJ := Lib.hid (join_of hown HL.out hlen)
        clear hown
        go_wp2_with fail
        refine HJ.out.mono ?_
        rintro e w2 ⟨rfl, hb⟩
        have hB2 := below_step hB hb
        clear hb
        dsimp only
        go_wp2_with fail
        go_ret
        exact ⟨rfl, hB2⟩
  · have HK := Lib.hid (show kdName k = formName k by unfold kdName; rw [if_neg hk])
    have hk1 : (k == 0) = false := by rw [beq_eq_false_iff_ne]; exact hk
    clear hk
    go_enter Tryd.func21, Tryd.ntmps21
    go_wp2_with fail
    go_region_held3 (fun w' => w'.cell? ⟨W.heap.size, 0, none⟩ = some (.string nm) ∧ w'.cell? ⟨W.heap.size, 1, none⟩ = some (.int .i64 k) ∧ w'.cell? ⟨W.heap.size, 2, none⟩ = some (.int .i64 srs) ∧ w'.cell? ⟨W.heap.size, 3, none⟩ = some (.slice pa cs.length cap) ∧ Below W.heap.size W w')
      (first
        | (go_keep; done)
        | ((repeat' apply And.intro) <;> first | (go_cell; done) | (rw [World.cell?_drew]; go_cell; done) | (go_grown; done))
        | (go_split_ands; (repeat' apply And.intro) <;> first | (go_keep; done) | (go_cell; done) | (exact Below.alloc (by assumption) (Below.size (by assumption)) _))
        | (go_split_ands; (repeat' apply And.intro) <;> first | (exact cell_later hb1 (by assumption)) | (exact below_step (by assumption) hb1)))
      (first
        | (go_at_call 52; go_split_ands; refine (form_b _ _ (forms_stays HF.out (by assumption))).mono ?_; rintro e w1 ⟨rfl, hb1⟩)
        | (go_at_call 53; go_split_ands; refine (itoa_val _ h0 h1 _ (pow_stays HW.out (by assumption))).mono ?_; rintro e w1 ⟨rfl, hb1⟩))
    rename_i hH
    have y1 : w1.cell? ⟨W.heap.size, 1, none⟩ = some (.int .i64 k) := cell_later hb1 (by assumption)
    have y3 : w1.cell? ⟨W.heap.size, 3, none⟩ = some (.slice pa cs.length cap) := cell_later hb1 (by assumption)
    have hBw : Below W.heap.size W w1 := below_step (by assumption) hb1
    have hz := cell_lt y1
    clear hb1 hH
    go_wp2_with fail
    go_loopw [3, 23] (fun t n w' => TxR nm k srs cs W t n w') (fun _ n _ => cs.length - (intOf n).toNat)
    case atStart => exact ⟨0, w1.heap.size, 3, by omega, rfl, rfl, by rw [List.take_zero]; have := own_full (w := w1) (base := W.heap.size) (e := 9) #[.string nm, .string (kdName k), .string (numS srs)] 3 rfl hBw.size (by decide); rw [HK.out] at this; simpa [wordsOf, HK.out] using this, hBw.alloc hBw.size _⟩
    case round =>
      obtain ⟨i, g, capx, hi', rfl, rfl, hown, hB⟩ := hrel
      by_cases hp : i < cs.length
      · obtain rfl := HP.out (by omega)
        obtain ⟨c, hc⟩ : ∃ c, cs[i]? = some c := ⟨cs[i], List.getElem?_eq_getElem hp⟩
        have hsz := HS.out c (List.mem_of_getElem? hc)
        obtain ⟨x0, x1, x2⟩ := cols_stays H0.out hB i c hc
        have HTK := Lib.hid (take_snocL hc)
        have HCT := Lib.hid (show ct c = colText c.1 c.2.1 c.2.2 from rfl)
        clear hc
        obtain ⟨cn, ck, cm⟩ := c
        have HO := Lib.hid hown; clear hown
        dsimp only at x0 x1 x2 hsz
        go_wp2_with fail
        refine (coltext_val cn ck cm _ (by omega) (types_stays HT.out (hB.alloc hB.size _))).mono ?_
        rintro e w2 ⟨rfl, hb⟩
        have hB2 := below_step (show Below W.heap.size W _ from hB.alloc hB.size _) hb
        have HO2 := Lib.hid (own_below (HO.out.alloc _) hb)
        clear hb
        dsimp only
        go_wp2_with (at_builtin; refine wpList_append_own _ rfl _ _ 92 rfl W.heap.size 9 i0 _ 1 16 Tryd.underlying92 hi hz0 hz1 hz2 rfl (by decide) _ _ _ rfl (HO2.out.alloc _) ⟨w2.heap.size, 0, none⟩ 1 1 [.string (colText cn ck cm)] rfl rfl ?e1 ?e2 ?e3 ?e4 ?e5 ?_)
        case e1 =>
          intro j u hj
          match j, hj with
          | 0, hj => simp at hj; subst hj; simp [Addr.add]
        case e2 => intro u hu; simp at hu; subst hu; rfl
        case e3 => unfold maxLen; omega
        case e4 => omega
        case e5 => have := hB2.size; simp; omega
        intro v' w3 hown' hgrow _
        obtain ⟨g', cap', rfl⟩ : ∃ g' cap', v' = .slice (some ⟨g', 0, none⟩) (3 + i + 1) cap' := by
          rcases hown'.2 with ⟨_, h0⟩ | ⟨g', cap, cur, hv, _⟩
          · omega
          · exact ⟨g', cap, hv⟩
        have HREL := Lib.hid (show TxR nm k srs cs W (.slice (some ⟨g', 0, none⟩) (3 + i + 1) cap') (.int .i64 ((i + 1 : Nat) : Int)) w3 from
          ⟨i + 1, g', cap', by omega, rfl, rfl, by rw [HTK.out, words_snoc, HCT.out]; exact hown', (hB2.alloc hB2.size _).grown hgrow (by have := hB2.size; simp; omega) (fun q hq => (HO2.out.lt q hq).1)⟩)
        clear hown' hgrow
        go_wp2_with fail
        exact ⟨HREL.out, by simp [intOf]; omega⟩
      · obtain rfl : i = cs.length := by omega
        rw [List.take_length] at hown
        have HJ := Lib.hid (join_of hown HL.out hlen)
        clear hown
        go_wp2_with fail
        refine HJ.out.mono ?_
        rintro e w2 ⟨rfl, hb⟩
        have hB2 := below_step hB hb
        clear hb
        dsimp only
        go_wp2_with fail
        go_ret
        exact ⟨rfl, hB2⟩
end Go.Proofs.YtcjidlgmbjebjaaDoor

namespace Go.Proofs.YtcjidlgmbjebjaaDoor
open Go Go.RowKit
def refHead (nm : ByteArray) (k srs : Int) : ByteArray := nm ++ ⟨#[32]⟩ ++ kdName k ++ ⟨#[32]⟩ ++ numS srs
def refStep (out : ByteArray) (c : Col) : ByteArray := bif c.2.2 then out ++ (⟨#[32]⟩ ++ c.1 ++ ⟨#[58]⟩ ++ tyName c.2.1) ++ ⟨#[33]⟩ else out ++ (⟨#[32]⟩ ++ c.1 ++ ⟨#[58]⟩ ++ tyName c.2.1)
def refT (nm : ByteArray) (k srs : Int) (cs : List Col) : ByteArray := cs.foldl refStep (refHead nm k srs)
theorem dl_append (a b : ByteArray) : (a ++ b).data.toList = a.data.toList ++ b.data.toList := by simp
theorem refStep_l (out : ByteArray) (c : Col) : (refStep out c).data.toList = out.data.toList ++ ([32] ++ (ct c).data.toList) := by
  unfold refStep ct colText
  cases c.2.2
  · simp only [cond_false, dl_append]; simp
  · simp only [cond_true, dl_append]; simp
theorem foldl_l (cs : List Col) : ∀ h : ByteArray, (cs.foldl refStep h).data.toList = h.data.toList ++ (cs.map (fun c => [32] ++ (ct c).data.toList)).flatten := by
  induction cs with
  | nil => intro h; simp
  | cons c cs ih =>
    intro h
    rw [List.foldl_cons, ih, refStep_l]
    simp
theorem refT_eq (nm : ByteArray) (k srs : Int) (cs : List Col) : refT nm k srs cs = textB nm k srs cs := by
  apply ByteArray.ext
  apply Array.toList_inj.1
  unfold refT textB wordsOf refHead
  rw [foldl_l]
  simp only [List.map_append, List.map_cons, List.map_nil, List.cons_append, List.nil_append]
  rw [Lib.join_cons]
  unfold Lib.joinTail
  simp only [dl_append]
  simp [List.map_map, Function.comp_def]
theorem refT_snoc (nm : ByteArray) (k srs : Int) (cs : List Col) (c : Col) : refT nm k srs (cs ++ [c]) = refStep (refT nm k srs cs) c := by unfold refT; rw [List.foldl_append]; rfl
theorem refT_size (nm : ByteArray) (k srs : Int) (cs : List Col) (h1 : nm.size ≤ 12) (h0 : -9223372036854775808 ≤ srs) (h2 : srs ≤ 9223372036854775807) (hcs : ∀ c ∈ cs, c.1.size ≤ 12) (hl : cs.length ≤ 50) : (refT nm k srs cs).size ≤ 2000 := by
  rw [refT_eq]
  have := words_len nm k srs cs h1 h0 h2 hcs hl
  show (Lib.join _ _).toArray.size ≤ 2000
  simpa using this
theorem digits_b (n : Int) (h0 : -9223372036854775808 ≤ n) (h1 : n ≤ 9223372036854775807) (w : World) : Calls Tryd.prog 57 #[.int .i64 n] w (RetS (.string (numS n)) w) :=
  (digits_val n.natAbs n (Nat.le_refl _) h0 h1 w).mono fun e w' h => ⟨h.1, by rw [h.2]; exact Below.refl _ _⟩
theorem sadd (a b : ByteArray) (n m : Nat) (ha : a.size ≤ n) (hb : b.size ≤ m) (h : n + m ≤ 100000) : (∀ w, (Op.stringOp .add a b).run Tryd.prog w = .ok (.string (a ++ b)) w) ∧ (a ++ b).size ≤ n + m :=
  ⟨fun w => run_string_add_sum w a b (by omega), by rw [bsize_append]; omega⟩
theorem idx93 (ck : Int) (h1 : 1 ≤ ck) (h3 : ck ≤ 3) (w : World) : (Instr.index 93 (.agg #[.string ⟨#[]⟩, .string ⟨#[105, 110, 116]⟩, .string ⟨#[116, 101, 120, 116]⟩, .string ⟨#[102, 108, 97, 103]⟩]) (.int .i64 ck)).run Tryd.prog w = .ok (.string (tyName ck)) w := by
  have h : ck = 1 ∨ ck = 2 ∨ ck = 3 := by omega
  rcases h with rfl | rfl | rfl
  · exact index_arr 93 4 _ 1 1 rfl _ Tryd.underlying93 (by omega) rfl w
  · exact index_arr 93 4 _ 2 2 rfl _ Tryd.underlying93 (by omega) rfl w
  · exact index_arr 93 4 _ 3 3 rfl _ Tryd.underlying93 (by omega) rfl w
def RtR (nm : ByteArray) (k srs : Int) (cs : List Col) (W : World) (t n : Value) (w' : World) : Prop :=
  ∃ i : Nat, i ≤ cs.length ∧ n = .int .i64 i ∧ t = .string (refT nm k srs (cs.take i)) ∧ Below W.heap.size W w'
set_option maxHeartbeats 8000000 in
theorem reftext_val (nm : ByteArray) (k srs : Int) (v0 : Value) (cs : List Col) (W : World) (hs : nm.size ≤ 12) (h0 : -9223372036854775808 ≤ srs) (h1 : srs ≤ 9223372036854775807) (hcs : ∀ c ∈ cs, c.1.size ≤ 12 ∧ 1 ≤ c.2.1 ∧ c.2.1 ≤ 3) (hlen : cs.length ≤ 50) (hv0 : ColsV W v0 cs) :
    Calls Tryd.prog 22 #[schV nm k srs v0] W (RetS (.string (textB nm k srs cs)) W) := by
  obtain ⟨pa, b, o, cap, rfl, hcap, hpa, hc0⟩ := hv0
  have H0 := Lib.hid hc0; clear hc0
  have HP := Lib.hid hpa; clear hpa hcap
  have HZ := Lib.hid (fun i => refT_size nm k srs (cs.take i) hs h0 h1 (fun c hc => (hcs c (List.mem_of_mem_take hc)).1) (by simp; omega))
  have HS := Lib.hid hcs; clear hcs
  have z1 := numS_size srs h0 h1
  have HE := Lib.hid (refT_eq nm k srs cs)
  have hc := fun w => refform_val k w
  have HC := Lib.hid hc; clear hc
  unfold schV
  by_cases hk : k = 0
  · have HK := Lib.hid (show kdName k = ⟨#[65, 78, 89]⟩ by unfold kdName; rw [if_pos hk])
    have hk1 : (k == 0) = true := by rw [beq_iff_eq]; exact hk
    obtain ⟨a1, s1⟩ := sadd nm ⟨#[32]⟩ 12 1 hs (Nat.le_refl _) (by decide)
    obtain ⟨a2, s2⟩ := sadd (nm ++ ⟨#[32]⟩) ⟨#[65, 78, 89]⟩ 13 18 s1 (by decide) (by decide)
    obtain ⟨a3, s3⟩ := sadd (nm ++ ⟨#[32]⟩ ++ ⟨#[65, 78, 89]⟩) ⟨#[32]⟩ 31 1 s2 (Nat.le_refl _) (by decide)
    obtain ⟨a4, s4⟩ := sadd (nm ++ ⟨#[32]⟩ ++ ⟨#[65, 78, 89]⟩ ++ ⟨#[32]⟩) (numS srs) 32 21 s3 z1 (by decide)
    clear hk
    go_enter Tryd.func22, Tryd.ntmps22
    go_wp2_with fail
    refine (HC.out _).mono ?_
    rintro e w1 ⟨rfl, rfl⟩
    dsimp only
    go_wp2_with fail
    go_region_held3 (fun w' => w'.cell? ⟨W.heap.size, 0, none⟩ = some (.string nm) ∧ w'.cell? ⟨W.heap.size, 2, none⟩ = some (.int .i64 srs) ∧ w'.cell? ⟨W.heap.size, 3, none⟩ = some (.slice pa cs.length cap) ∧ Below W.heap.size W w')
      (first
        | (go_keep; done)
        | ((repeat' apply And.intro) <;> first | (go_cell; done) | (rw [World.cell?_drew]; go_cell; done) | (go_grown; done))
        | (go_split_ands; (repeat' apply And.intro) <;> first | (exact cell_later hb1 (by assumption)) | (exact below_step (by assumption) hb1)))
      (first
        | (go_at_call 57; refine (digits_b _ h0 h1 _).mono ?_; rintro e w1 ⟨rfl, hb1⟩))
    rename_i hH
    obtain ⟨_, _, y3, hBw⟩ := hH
    clear a1 a2 a3 a4 s1 s2 s3 s4
    go_wp2_with fail
    go_loopw [4, 26] (fun t n w' => RtR nm k srs cs W t n w') (fun _ n _ => cs.length - (intOf n).toNat)
    case atStart => exact ⟨0, by omega, rfl, by rw [List.take_zero]; show _ = Value.string (refHead nm k srs); unfold refHead; rw [HK.out], hBw⟩
    case round =>
      obtain ⟨i, hi', rfl, rfl, hB⟩ := hrel
      have z3 := HZ.out i
      by_cases hp : i < cs.length
      · obtain rfl := HP.out (by omega)
        obtain ⟨c, hc⟩ : ∃ c, cs[i]? = some c := ⟨cs[i], List.getElem?_eq_getElem hp⟩
        obtain ⟨hsz, q1, q2⟩ := HS.out c (List.mem_of_getElem? hc)
        obtain ⟨x0, x1, x2⟩ := cols_stays H0.out hB i c hc
        have HTK := Lib.hid (show refT nm k srs (cs.take (i + 1)) = refStep (refT nm k srs (cs.take i)) c by rw [take_snocL hc, refT_snoc])
        clear hc
        obtain ⟨cn, ck, cm⟩ := c
        dsimp only at x0 x1 x2 hsz q1 q2
        have hx := fun w => idx93 ck q1 q2 w
        clear q1 q2
        have s0 := tyName_size ck
        obtain ⟨a1, s1⟩ := sadd ⟨#[32]⟩ cn 1 12 (Nat.le_refl _) hsz (by decide)
        obtain ⟨a2, s2⟩ := sadd (⟨#[32]⟩ ++ cn) ⟨#[58]⟩ 13 1 s1 (Nat.le_refl _) (by decide)
        obtain ⟨a3, s3⟩ := sadd (⟨#[32]⟩ ++ cn ++ ⟨#[58]⟩) (tyName ck) 14 4 s2 s0 (by decide)
        obtain ⟨a4, s4⟩ := sadd (refT nm k srs (cs.take i)) (⟨#[32]⟩ ++ cn ++ ⟨#[58]⟩ ++ tyName ck) 2000 18 z3 s3 (by decide)
        obtain ⟨a5, s5⟩ := sadd (refT nm k srs (cs.take i) ++ (⟨#[32]⟩ ++ cn ++ ⟨#[58]⟩ ++ tyName ck)) ⟨#[33]⟩ 2018 1 s4 (Nat.le_refl _) (by decide)
        go_wp2_with fail
        go_region_held3 (fun w' => w'.cell? ⟨wr.heap.size, 0, none⟩ = some (.string cn) ∧ w'.cell? ⟨wr.heap.size, 1, none⟩ = some (.int .i64 ck) ∧ w'.cell? ⟨wr.heap.size, 2, none⟩ = some (.bool cm) ∧ Below W.heap.size W w')
          (first
            | (go_keep; done)
            | ((repeat' apply And.intro) <;> first | (go_cell; done) | (rw [World.cell?_drew]; go_cell; done) | (exact below_drew (hB.alloc hB.size _))))
          (fail)
        rename_i hH
        obtain ⟨_, _, y2, hB2⟩ := hH
        clear a1 a2 a3 a4
        cases cm
        all_goals
          go_wp2_with fail
          exact ⟨⟨i + 1, by omega, rfl, by rw [HTK.out]; rfl, hB2⟩, by simp [intOf]; omega⟩
      · obtain rfl : i = cs.length := by omega
        go_wp2_with fail
        go_ret
        exact ⟨by rw [List.take_length, HE.out]; rfl, hB⟩
  · have HK := Lib.hid (show kdName k = formName k by unfold kdName; rw [if_neg hk])
    have hk1 : (k == 0) = false := by rw [beq_eq_false_iff_ne]; exact hk
    have z2 := formName_size k
    obtain ⟨a1, s1⟩ := sadd nm ⟨#[32]⟩ 12 1 hs (Nat.le_refl _) (by decide)
    obtain ⟨a2, s2⟩ := sadd (nm ++ ⟨#[32]⟩) (formName k) 13 18 s1 z2 (by decide)
    obtain ⟨a3, s3⟩ := sadd (nm ++ ⟨#[32]⟩ ++ (formName k)) ⟨#[32]⟩ 31 1 s2 (Nat.le_refl _) (by decide)
    obtain ⟨a4, s4⟩ := sadd (nm ++ ⟨#[32]⟩ ++ (formName k) ++ ⟨#[32]⟩) (numS srs) 32 21 s3 z1 (by decide)
    clear hk
    go_enter Tryd.func22, Tryd.ntmps22
    go_wp2_with fail
    refine (HC.out _).mono ?_
    rintro e w1 ⟨rfl, rfl⟩
    dsimp only
    go_wp2_with fail
    go_region_held3 (fun w' => w'.cell? ⟨W.heap.size, 0, none⟩ = some (.string nm) ∧ w'.cell? ⟨W.heap.size, 2, none⟩ = some (.int .i64 srs) ∧ w'.cell? ⟨W.heap.size, 3, none⟩ = some (.slice pa cs.length cap) ∧ Below W.heap.size W w')
      (first
        | (go_keep; done)
        | ((repeat' apply And.intro) <;> first | (go_cell; done) | (rw [World.cell?_drew]; go_cell; done) | (go_grown; done))
        | (go_split_ands; (repeat' apply And.intro) <;> first | (exact cell_later hb1 (by assumption)) | (exact below_step (by assumption) hb1)))
      (first
        | (go_at_call 57; refine (digits_b _ h0 h1 _).mono ?_; rintro e w1 ⟨rfl, hb1⟩))
    rename_i hH
    obtain ⟨_, _, y3, hBw⟩ := hH
    clear a1 a2 a3 a4 s1 s2 s3 s4
    go_wp2_with fail
    go_loopw [4, 26] (fun t n w' => RtR nm k srs cs W t n w') (fun _ n _ => cs.length - (intOf n).toNat)
    case atStart => exact ⟨0, by omega, rfl, by rw [List.take_zero]; show _ = Value.string (refHead nm k srs); unfold refHead; rw [HK.out], hBw⟩
    case round =>
      obtain ⟨i, hi', rfl, rfl, hB⟩ := hrel
      have z3 := HZ.out i
      by_cases hp : i < cs.length
      · obtain rfl := HP.out (by omega)
        obtain ⟨c, hc⟩ : ∃ c, cs[i]? = some c := ⟨cs[i], List.getElem?_eq_getElem hp⟩
        obtain ⟨hsz, q1, q2⟩ := HS.out c (List.mem_of_getElem? hc)
        obtain ⟨x0, x1, x2⟩ := cols_stays H0.out hB i c hc
        have HTK := Lib.hid (show refT nm k srs (cs.take (i + 1)) = refStep (refT nm k srs (cs.take i)) c by rw [take_snocL hc, refT_snoc])
        clear hc
        obtain ⟨cn, ck, cm⟩ := c
        dsimp only at x0 x1 x2 hsz q1 q2
        have hx := fun w => idx93 ck q1 q2 w
        clear q1 q2
        have s0 := tyName_size ck
        obtain ⟨a1, s1⟩ := sadd ⟨#[32]⟩ cn 1 12 (Nat.le_refl _) hsz (by decide)
        obtain ⟨a2, s2⟩ := sadd (⟨#[32]⟩ ++ cn) ⟨#[58]⟩ 13 1 s1 (Nat.le_refl _) (by decide)
        obtain ⟨a3, s3⟩ := sadd (⟨#[32]⟩ ++ cn ++ ⟨#[58]⟩) (tyName ck) 14 4 s2 s0 (by decide)
        obtain ⟨a4, s4⟩ := sadd (refT nm k srs (cs.take i)) (⟨#[32]⟩ ++ cn ++ ⟨#[58]⟩ ++ tyName ck) 2000 18 z3 s3 (by decide)
        obtain ⟨a5, s5⟩ := sadd (refT nm k srs (cs.take i) ++ (⟨#[32]⟩ ++ cn ++ ⟨#[58]⟩ ++ tyName ck)) ⟨#[33]⟩ 2018 1 s4 (Nat.le_refl _) (by decide)
        go_wp2_with fail
        go_region_held3 (fun w' => w'.cell? ⟨wr.heap.size, 0, none⟩ = some (.string cn) ∧ w'.cell? ⟨wr.heap.size, 1, none⟩ = some (.int .i64 ck) ∧ w'.cell? ⟨wr.heap.size, 2, none⟩ = some (.bool cm) ∧ Below W.heap.size W w')
          (first
            | (go_keep; done)
            | ((repeat' apply And.intro) <;> first | (go_cell; done) | (rw [World.cell?_drew]; go_cell; done) | (exact below_drew (hB.alloc hB.size _))))
          (fail)
        rename_i hH
        obtain ⟨_, _, y2, hB2⟩ := hH
        clear a1 a2 a3 a4
        cases cm
        all_goals
          go_wp2_with fail
          exact ⟨⟨i + 1, by omega, rfl, by rw [HTK.out]; rfl, hB2⟩, by simp [intOf]; omega⟩
      · obtain rfl : i = cs.length := by omega
        go_wp2_with fail
        go_ret
        exact ⟨by rw [List.take_length, HE.out]; rfl, hB⟩
end Go.Proofs.YtcjidlgmbjebjaaDoor

namespace Go.Proofs.YtcjidlgmbjebjaaDoor
open Go Go.RowKit
def LvS : ByteArray := ⟨#[97, 32, 80, 79, 73, 78, 84, 32, 48, 32, 110, 58, 105, 110, 116, 33]⟩
theorem num0 : numS 0 = ⟨#[48]⟩ := by
  have := numS_small 0 (by decide) (by decide)
  rw [← this]; decide
theorem lives_text : textB ⟨#[97]⟩ 1 0 [(⟨#[110]⟩, 1, true)] = LvS := by
  unfold textB wordsOf
  rw [num0]
  rfl
set_option maxHeartbeats 1000000 in
theorem lives_val (W : World) (ht : TypesAt W) (hf : FormsAt W) (hpw : PowIs W) : Calls Tryd.prog 12 #[] W (RetBool true W) := by
  have hT := types_stays ht ((Below.refl W.heap.size W).alloc (Nat.le_refl _) (.cells #[.string ⟨#[110]⟩, .int .i64 1, .bool true] 90))
  have hF := forms_stays hf ((Below.refl W.heap.size W).alloc (Nat.le_refl _) (.cells #[.string ⟨#[110]⟩, .int .i64 1, .bool true] 90))
  have hP := pow_stays hpw ((Below.refl W.heap.size W).alloc (Nat.le_refl _) (.cells #[.string ⟨#[110]⟩, .int .i64 1, .bool true] 90))
  have hv : ColsV (W.alloc (.cells #[.string ⟨#[110]⟩, .int .i64 1, .bool true] 90)) (.slice (some ⟨W.heap.size, 0, none⟩) 1 1) [(⟨#[110]⟩, 1, true)] :=
    ⟨_, W.heap.size, 0, 1, rfl, Nat.le_refl _, fun _ => rfl, fun i c hc => by
      match i, hc with
      | 0, hc => simp at hc; subst hc; exact ⟨by simp, by simp, by simp⟩⟩
  have hx := text_val ⟨#[97]⟩ 1 0 _ [(⟨#[110]⟩, 1, true)] _ (by decide) (by decide) (by decide) (by intro c hc; simp at hc; subst hc; decide) (by decide) hv hT hF hP
  rw [lives_text] at hx
  have HX := Lib.hid hx
  clear hx hv hT hF hP ht hf hpw
  unfold schV LvS at HX
  go_enter Tryd.func12, Tryd.ntmps12
  go_wp2_with fail
  refine HX.out.mono ?_
  rintro e w1 ⟨rfl, hb⟩
  have hB := below_step (show Below W.heap.size W _ from by go_grown) hb
  clear hb
  dsimp only
  go_wp2_with fail
  go_ret
  exact ⟨rfl, hB⟩
def wantOf (l : List UInt8) : Nat → Int
  | 0 => 0
  | 1 => if l = [105, 110, 116] then 1 else 0
  | 2 => if l = [116, 101, 120, 116] then 2 else if l = [105, 110, 116] then 1 else 0
  | _ => if l = [102, 108, 97, 103] then 3 else if l = [116, 101, 120, 116] then 2 else if l = [105, 110, 116] then 1 else 0
theorem wantOf_3 (l : List UInt8) : wantOf l 3 = typeOf l := by
  unfold wantOf typeOf
  by_cases h1 : l = [105, 110, 116]
  · subst h1; simp
  · by_cases h2 : l = [116, 101, 120, 116]
    · subst h2; simp
    · by_cases h3 : l = [102, 108, 97, 103]
      · subst h3; simp
      · simp [h1, h2, h3]
theorem nm_size {s : ByteArray} (h : Utf.nmOk s = true) : s.size ≤ 12 := by
  unfold Utf.nmOk at h; simp at h; omega
theorem good_facts {nm : ByteArray} {k srs : Int} {cs : List Col} (h : goodSch nm k srs cs = 0) : nm.size ≤ 12 ∧ -9223372036854775808 ≤ srs ∧ srs ≤ 9223372036854775807 ∧ (∀ c ∈ cs, c.1.size ≤ 12 ∧ 1 ≤ c.2.1 ∧ c.2.1 ≤ 3) := by
  cases hh : headOk nm k srs cs.length with
  | false => rw [good_head hh] at h; cases h
  | true =>
    rw [good_tail hh] at h
    cases ha : allOk cs with
    | false => rw [ha] at h; cases h
    | true =>
      unfold headOk at hh
      simp only [Bool.and_eq_true, decide_eq_true_eq] at hh
      refine ⟨nm_size hh.1, by omega, by omega, fun c hc => ?_⟩
      obtain ⟨i, hi, rfl⟩ := List.getElem_of_mem hc
      unfold allOk at ha
      have h1 := List.all_eq_true.1 ha i (List.mem_range.2 hi)
      unfold okAt at h1
      rw [List.getElem?_eq_getElem hi] at h1
      dsimp only at h1
      rw [Bool.and_eq_true] at h1
      have h2 := h1.1
      unfold colOk at h2
      simp only [Bool.and_eq_true, decide_eq_true_eq] at h2
      exact ⟨nm_size h2.1, h2.2.1, h2.2.2⟩
theorem colsV_shape {w : World} {v : Value} {cs : List Col} (h : ColsV w v cs) : ∃ p n c, v = .slice p n c := by
  obtain ⟨pa, b, o, cap, hv, _⟩ := h; exact ⟨_, _, _, hv⟩
theorem colsV_drew {w : World} {v : Value} {cs : List Col} (h : ColsV w v cs) : ColsV w.drew v cs := by
  obtain ⟨pa, b, o, cap, hv, h1, h2, h3⟩ := h
  exact ⟨pa, b, o, cap, hv, h1, h2, fun i c hc => by
    obtain ⟨a, b, c⟩ := h3 i c hc
    exact ⟨by rw [World.cell?_drew]; exact a, by rw [World.cell?_drew]; exact b, by rw [World.cell?_drew]; exact c⟩⟩
end Go.Proofs.YtcjidlgmbjebjaaDoor
