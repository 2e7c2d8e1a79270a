/- A part of the proof of ValueBack. -/
import Derived.Test.YtcjidlgmbjebjaaDoorVbf
import Derived.Test.YtcjidlgmbjebjaaDoorVbc
import Derived.Test.YtcjidlgmbjebjaaDoorVbe
import Derived.Maps.OwnSet
import Derived.Shelf.Strings.Builder1
import Derived.Shelf.Strings.Builder2
import Derived.Shelf.Strings.OnBuilder
import Derived.Test.YtcjidlgmbjebjaaDoorProg
import Derived.Lib.SmallJoins
import Derived.Test.YtcjidlgmbjebjaaDoorVbd
import Derived.Deep.RegionHeld3
import Derived.Lib.AppendStr
set_option linter.unusedVariables false
set_option linter.unusedSimpArgs false
set_option maxRecDepth 100000
namespace Go.Proofs.YtcjidlgmbjebjaaDoor
open Go Go.RowKit
theorem good_nothing (W : World) : Calls Tryd.prog 246 #[.agg #[]] W (RetBool true W) := by
  go_enter Tryd.func246, Tryd.ntmps246
  go_wp2
  go_ret
  refine ⟨rfl, ?_⟩
  go_grown
theorem good_number (n : Int) (W : World) : Calls Tryd.prog 250 #[.int .i64 n] W (RetBool true W) := by
  go_enter Tryd.func250, Tryd.ntmps250
  go_wp2
  go_ret
  exact ⟨rfl, Below.refl _ _⟩
theorem good_flag (b : Bool) (W : World) : Calls Tryd.prog 247 #[.bool b] W (RetBool true W) := by
  go_enter Tryd.func247, Tryd.ntmps247
  go_wp2
  go_ret
  exact ⟨rfl, Below.refl _ _⟩
theorem good_text (s : ByteArray) (W : World) (hs : s.size ≤ 9223372036854775807) : Calls Tryd.prog 248 #[.string s] W (RetBool (decide (s.size ≤ 200) && Utf.ok s) W) := by
  by_cases h : s.size ≤ 200
  · rw [decide_eq_true h, Bool.true_and]
    go_enter Tryd.func248, Tryd.ntmps248
    go_wp2_with (first | (go_at_call 249; refine (right_val s _ hs).mono ?_; rintro e w' ⟨rfl, hb⟩))
    go_ret
    exact ⟨rfl, hb⟩
  · rw [decide_eq_false h, Bool.false_and]
    go_enter Tryd.func248, Tryd.ntmps248
    go_wp2
    go_ret
    exact ⟨rfl, Below.refl _ _⟩
def goodV (k n : Int) (s : ByteArray) : Bool :=
  if k = 0 then decide (n = 0 ∧ s.toList = [])
  else if k = 1 then decide (s.toList = [])
  else if k = 2 then decide (n = 0) && (decide (s.size ≤ 200) && Utf.ok s)
  else if k = 3 then decide (s.toList = []) && decide (n = 0 ∨ n = 1)
  else false

theorem good0 (s : ByteArray) (W : World) (hsz : s.size ≤ 9223372036854775807) (hs : s.toList = []) : Calls Tryd.prog 31 #[.agg #[.int .i64 0, .int .i64 0, .string s]] W (RetBool (true) W) := by
  have ho : ofV 0 0 s = .iface 142 (.agg #[]) := by simp [ofV, *]
  have hc := fun w => of_val 0 0 s w
  rw [ho] at hc
  have HC := Lib.hid hc; clear hc ho
  go_enter Tryd.func31, Tryd.ntmps31
  go_wp2_with fail
  refine (HC.out _).mono ?_
  rintro e w1 ⟨rfl, hb⟩
  have hb := below_step (show Below W.heap.size W _ from by go_grown) hb
  dsimp only
  go_wp2_with fail
  refine (good_nothing _).mono ?_
  rintro e w2 ⟨rfl, hb2⟩
  have hb := below_step hb hb2
  dsimp only
  go_wp2_with fail
  go_ret
  exact ⟨by first | rfl | simp, hb⟩

theorem good1 (n : Int) (s : ByteArray) (W : World) (hsz : s.size ≤ 9223372036854775807) (hs : s.toList = []) : Calls Tryd.prog 31 #[.agg #[.int .i64 1, .int .i64 n, .string s]] W (RetBool (true) W) := by
  have ho : ofV 1 n s = .iface 149 (.int .i64 n) := by simp [ofV, *]
  have hc := fun w => of_val 1 n s w
  rw [ho] at hc
  have HC := Lib.hid hc; clear hc ho
  go_enter Tryd.func31, Tryd.ntmps31
  go_wp2_with fail
  refine (HC.out _).mono ?_
  rintro e w1 ⟨rfl, hb⟩
  have hb := below_step (show Below W.heap.size W _ from by go_grown) hb
  dsimp only
  go_wp2_with fail
  refine (good_number _ _).mono ?_
  rintro e w2 ⟨rfl, hb2⟩
  have hb := below_step hb hb2
  dsimp only
  go_wp2_with fail
  go_ret
  exact ⟨by first | rfl | simp, hb⟩

theorem good2 (s : ByteArray) (W : World) (hsz : s.size ≤ 9223372036854775807) : Calls Tryd.prog 31 #[.agg #[.int .i64 2, .int .i64 0, .string s]] W (RetBool (decide (s.size ≤ 200) && Utf.ok s) W) := by
  have ho : ofV 2 0 s = .iface 144 (.string s) := by simp [ofV, *]
  have hc := fun w => of_val 2 0 s w
  rw [ho] at hc
  have HC := Lib.hid hc; clear hc ho
  go_enter Tryd.func31, Tryd.ntmps31
  go_wp2_with fail
  refine (HC.out _).mono ?_
  rintro e w1 ⟨rfl, hb⟩
  have hb := below_step (show Below W.heap.size W _ from by go_grown) hb
  dsimp only
  go_wp2_with fail
  refine (good_text s _ hsz).mono ?_
  rintro e w2 ⟨rfl, hb2⟩
  have hb := below_step hb hb2
  dsimp only
  go_wp2_with fail
  go_ret
  exact ⟨by first | rfl | simp, hb⟩

theorem good3 (s : ByteArray) (W : World) (hsz : s.size ≤ 9223372036854775807) (hs : s.toList = []) : Calls Tryd.prog 31 #[.agg #[.int .i64 3, .int .i64 0, .string s]] W (RetBool (true) W) := by
  have ho : ofV 3 0 s = .iface 143 (.bool false) := by simp [ofV, *]
  have hc := fun w => of_val 3 0 s w
  rw [ho] at hc
  have HC := Lib.hid hc; clear hc ho
  go_enter Tryd.func31, Tryd.ntmps31
  go_wp2_with fail
  refine (HC.out _).mono ?_
  rintro e w1 ⟨rfl, hb⟩
  have hb := below_step (show Below W.heap.size W _ from by go_grown) hb
  dsimp only
  go_wp2_with fail
  refine (good_flag _ _).mono ?_
  rintro e w2 ⟨rfl, hb2⟩
  have hb := below_step hb hb2
  dsimp only
  go_wp2_with fail
  go_ret
  exact ⟨by first | rfl | simp, hb⟩

theorem good4 (s : ByteArray) (W : World) (hsz : s.size ≤ 9223372036854775807) (hs : s.toList = []) : Calls Tryd.prog 31 #[.agg #[.int .i64 3, .int .i64 1, .string s]] W (RetBool (true) W) := by
  have ho : ofV 3 1 s = .iface 143 (.bool true) := by simp [ofV, *]
  have hc := fun w => of_val 3 1 s w
  rw [ho] at hc
  have HC := Lib.hid hc; clear hc ho
  go_enter Tryd.func31, Tryd.ntmps31
  go_wp2_with fail
  refine (HC.out _).mono ?_
  rintro e w1 ⟨rfl, hb⟩
  have hb := below_step (show Below W.heap.size W _ from by go_grown) hb
  dsimp only
  go_wp2_with fail
  refine (good_flag _ _).mono ?_
  rintro e w2 ⟨rfl, hb2⟩
  have hb := below_step hb hb2
  dsimp only
  go_wp2_with fail
  go_ret
  exact ⟨by first | rfl | simp, hb⟩

theorem good_nil (k n : Int) (s : ByteArray) (W : World) (ho : ofV k n s = .nilIface) : Calls Tryd.prog 31 #[.agg #[.int .i64 k, .int .i64 n, .string s]] W (RetBool false W) := by
  have hc := fun w => of_val k n s w
  rw [ho] at hc
  have HC := Lib.hid hc; clear hc ho
  go_enter Tryd.func31, Tryd.ntmps31
  go_wp2_with fail
  refine (HC.out _).mono ?_
  rintro e w1 ⟨rfl, hb⟩
  have hb := below_step (show Below W.heap.size W _ from by go_grown) hb
  dsimp only
  go_wp2_with fail
  go_ret
  exact ⟨rfl, hb⟩
theorem good_val (k n : Int) (s : ByteArray) (W : World) (hsz : s.size ≤ 9223372036854775807) : Calls Tryd.prog 31 #[.agg #[.int .i64 k, .int .i64 n, .string s]] W (RetBool (goodV k n s) W) := by
  have hk : k = 0 ∨ k = 1 ∨ k = 2 ∨ k = 3 ∨ (k ≠ 0 ∧ k ≠ 1 ∧ k ≠ 2 ∧ k ≠ 3) := by omega
  rcases hk with rfl | rfl | rfl | rfl | ⟨k0, k1, k2, k3⟩
  · by_cases h : n = 0 ∧ s.toList = []
    · obtain ⟨rfl, hs⟩ := h
      have : goodV 0 0 s = true := by simp [goodV, hs]
      rw [this]; exact good0 s W hsz hs
    · have : goodV 0 n s = false := by simp only [goodV, if_true]; exact decide_eq_false h
      rw [this]; exact good_nil 0 n s W (by simp only [ofV, if_true]; rw [if_neg h])
  · by_cases hs : s.toList = []
    · have : goodV 1 n s = true := by simp [goodV, hs]
      rw [this]; exact good1 n s W hsz hs
    · have : goodV 1 n s = false := by simp [goodV, hs]
      rw [this]; exact good_nil 1 n s W (by simp [ofV, hs])
  · by_cases hn : n = 0
    · subst hn
      have : goodV 2 0 s = (decide (s.size ≤ 200) && Utf.ok s) := by simp [goodV]
      rw [this]; exact good2 s W hsz
    · have : goodV 2 n s = false := by simp [goodV, hn]
      rw [this]; exact good_nil 2 n s W (by simp [ofV, hn])
  · by_cases hs : s.toList = []
    · by_cases h0 : n = 0
      · subst h0
        have : goodV 3 0 s = true := by simp [goodV, hs]
        rw [this]; exact good3 s W hsz hs
      · by_cases h1 : n = 1
        · subst h1
          have : goodV 3 1 s = true := by simp [goodV, hs]
          rw [this]; exact good4 s W hsz hs
        · have : goodV 3 n s = false := by simp [goodV, hs, h0, h1]
          rw [this]; exact good_nil 3 n s W (by simp [ofV, hs, h0, h1])
    · have : goodV 3 n s = false := by simp [goodV, hs]
      rw [this]; exact good_nil 3 n s W (by simp [ofV, hs])
  · have : goodV k n s = false := by simp [goodV, k0, k1, k2, k3]
    rw [this]; exact good_nil k n s W (by simp [ofV, k0, k1, k2, k3])
end Go.Proofs.YtcjidlgmbjebjaaDoor

namespace Go.Proofs.YtcjidlgmbjebjaaDoor
open Go Go.RowKit
end Go.Proofs.YtcjidlgmbjebjaaDoor

namespace Go.Proofs.YtcjidlgmbjebjaaDoor.MapB
open Go Go.Maps Go.WideMaps
end Go.Proofs.YtcjidlgmbjebjaaDoor.MapB

namespace Go.Proofs.YtcjidlgmbjebjaaDoor
open Go Go.RowKit
end Go.Proofs.YtcjidlgmbjebjaaDoor

namespace Go.Proofs.YtcjidlgmbjebjaaDoor
open Go Go.RowKit
end Go.Proofs.YtcjidlgmbjebjaaDoor

namespace Go.Proofs.YtcjidlgmbjebjaaDoor
open Go Go.RowKit
end Go.Proofs.YtcjidlgmbjebjaaDoor

namespace Go.Proofs.YtcjidlgmbjebjaaDoor
open Go Go.RowKit
end Go.Proofs.YtcjidlgmbjebjaaDoor

namespace Go.Proofs.YtcjidlgmbjebjaaDoor
open Go Go.Shelf
end Go.Proofs.YtcjidlgmbjebjaaDoor

namespace Go.Proofs.YtcjidlgmbjebjaaDoor
open Go Go.RowKit
def sTrue : ByteArray := ⟨#[116, 114, 117, 101]⟩
def sFalse : ByteArray := ⟨#[102, 97, 108, 115, 101]⟩
def sNull : ByteArray := ⟨#[110, 117, 108, 108]⟩
def prV (k n : Int) (s : ByteArray) : ByteArray :=
  if goodV k n s = false then ⟨#[]⟩ else if k = 1 then numS n else if k = 2 then qS s else if k = 3 then (if n = 1 then sTrue else sFalse) else sNull
def PowIs (w : World) : Prop := Lib.TabIs Tryd.prog w "internal/strconv.uint64pow10" .u64 Lib.pow10Tab
theorem good_kind {k n : Int} {s : ByteArray} (h : goodV k n s = true) : k = 0 ∨ k = 1 ∨ (k = 2 ∧ s.size ≤ 200) ∨ (k = 3 ∧ (n = 0 ∨ n = 1)) := by
  unfold goodV at h
  split at h
  · exact .inl ‹_›
  · split at h
    · exact .inr (.inl ‹_›)
    · split at h
      · simp at h; exact .inr (.inr (.inl ⟨‹_›, h.2.1⟩))
      · split at h
        · simp at h; exact .inr (.inr (.inr ⟨‹_›, h.2⟩))
        · simp at h
theorem pow_named {w : World} (h : PowIs w) : ∃ g, Tryd.prog.globalNamed "internal/strconv.uint64pow10" = some g := by
  cases hg : Tryd.prog.globalNamed "internal/strconv.uint64pow10" with
  | some g => exact ⟨g, rfl⟩
  | none =>
    unfold PowIs Lib.TabIs World.var? at h
    rw [hg] at h
    simp at h
theorem pow_stays {w w' : World} (h : PowIs w) (hb : Below w.heap.size w w') : PowIs w' := by
  obtain ⟨g, hg⟩ := pow_named h
  exact Joins.tab_stays hg h hb (Nat.le_refl _)
theorem below_gr (w : World) (q : Nat) (os : Array Obj) : Below w.heap.size w (Sort.grow (w.drewN q) os) := by
  refine ⟨rfl, rfl, rfl, ?_, ?_⟩
  · show w.heap.size ≤ (w.heap ++ os).size
    simp
  · intro k hk
    show (w.heap ++ os)[k]? = w.heap[k]?
    rw [Array.getElem?_append_left hk]
theorem itoa_val (n : Int) (h0 : -9223372036854775808 ≤ n) (h1 : n ≤ 9223372036854775807) (w : World) (htab : PowIs w) :
    Calls Tryd.prog 53 #[.int .i64 n] w (RetS (.string (numS n)) w) := by
  refine (Tryd.strconv_Itoa n h0 h1 w htab).mono ?_
  rintro e w' ⟨rfl, k, os, rfl⟩
  exact ⟨rfl, below_gr w k os⟩
set_option maxHeartbeats 1000000 in
theorem print_val (k n : Int) (s : ByteArray) (W : World) (hsz : s.size ≤ 9223372036854775807) (h0 : -9223372036854775808 ≤ n) (h1 : n ≤ 9223372036854775807) (ht : PowIs W) :
    Calls Tryd.prog 36 #[.agg #[.int .i64 k, .int .i64 n, .string s]] W (RetS (.string (prV k n s)) W) := by
  have hc := fun w => good_val k n s w hsz
  cases hg : goodV k n s with
  | false =>
    rw [hg] at hc
    have HC := Lib.hid hc; clear hc
    have hp : prV k n s = ⟨#[]⟩ := by simp [prV, hg]
    rw [hp]; clear hp hg
    go_enter Tryd.func36, Tryd.ntmps36
    go_wp2_with fail
    refine (HC.out _).mono ?_
    rintro e w1 ⟨rfl, hb⟩
    have hb := below_step (show Below W.heap.size W _ from by go_grown) hb
    dsimp only
    go_wp2_with fail
    go_ret
    exact ⟨rfl, hb⟩
  | true =>
    rw [hg] at hc
    have HC := Lib.hid hc; clear hc
    have HG := Lib.hid hg
    have hk := Lib.hid (good_kind hg)
    clear hg
    go_enter Tryd.func36, Tryd.ntmps36
    go_wp2_with fail
    refine (HC.out _).mono ?_
    rintro e w1 ⟨rfl, hb⟩
    have c0 := cell_later (v := .int .i64 k) hb (show World.cell? _ ⟨W.heap.size, 0, none⟩ = some (.int .i64 k) from by go_cell)
    have c1 := cell_later (v := .int .i64 n) hb (show World.cell? _ ⟨W.heap.size, 1, none⟩ = some (.int .i64 n) from by go_cell)
    have c2 := cell_later (v := .string s) hb (show World.cell? _ ⟨W.heap.size, 2, none⟩ = some (.string s) from by go_cell)
    have hB := below_step (show Below W.heap.size W _ from by go_grown) hb
    clear hb
    have ht1 := pow_stays ht hB
    clear ht
    dsimp only
    rcases hk.out with rfl | rfl | ⟨rfl, h2⟩ | ⟨rfl, rfl | rfl⟩
    all_goals clear hk
    · go_wp2_with fail
      go_ret
      exact ⟨by simp [prV, HG.out, sTrue, sFalse, sNull], hB⟩
    · go_wp2_with fail
      refine (itoa_val n h0 h1 w1 ht1).mono ?_
      rintro e w2 ⟨rfl, hb2⟩
      have hB := below_step hB hb2
      dsimp only
      go_wp2_with fail
      go_ret
      exact ⟨by simp [prV, HG.out, sTrue, sFalse, sNull], hB⟩
    · go_wp2_with fail
      refine (quoted_val s w1 (by omega)).mono ?_
      rintro e w2 ⟨rfl, hb2⟩
      have hB := below_step hB hb2
      dsimp only
      go_wp2_with fail
      go_ret
      exact ⟨by simp [prV, HG.out, sTrue, sFalse, sNull], hB⟩
    · go_wp2_with fail
      go_ret
      exact ⟨by simp [prV, HG.out, sTrue, sFalse, sNull], hB⟩
    · go_wp2_with fail
      go_ret
      exact ⟨by simp [prV, HG.out, sTrue, sFalse, sNull], hB⟩
end Go.Proofs.YtcjidlgmbjebjaaDoor

namespace Go.Proofs.YtcjidlgmbjebjaaDoor
open Go Go.RowKit
def ct (c : Col) : ByteArray := colText c.1 c.2.1 c.2.2
theorem own_full {w : World} {base e : Nat} (cur : Array Value) (n : Nat) (hn : cur.size = n) (hb : base ≤ w.heap.size) (hm : n ≤ maxLen) :
    (w.alloc (.cells cur e)).ownsRow base e 1 (.slice (some ⟨w.heap.size, 0, none⟩) n n) n cur.toList :=
  ⟨by simp [hn], .inr ⟨w.heap.size, n, cur, rfl, hb, hp_new w _ _ rfl, Nat.le_refl _, hm, by simp [hn], by simp [hn, List.take_of_length_le]⟩⟩
end Go.Proofs.YtcjidlgmbjebjaaDoor

namespace Go.Proofs.YtcjidlgmbjebjaaDoor
open Go Go.RowKit Go.Proofs.YtcjidlgmbjebjaaDoorW.PrintWords
def u64of (n : Int) : Int := n % 18446744073709551616
def valB (k n : Int) (s : ByteArray) : List Int := if k = 1 then putB (u64of n) else if k = 2 then varB s.size ++ bytesOf s else if k = 3 then [n] else []
theorem as_int (n : Int) (w : World) : (Instr.typeAssert (.iface 149 (.int .i64 n)) 103 149 true).run Tryd.prog w = .ok (.tuple #[.int .i64 n, .bool true]) w := by kernel_rfl
theorem as_no1 (x : Value) (w : World) : (Instr.typeAssert (.iface 142 x) 103 149 true).run Tryd.prog w = .ok (.tuple #[.int .i64 0, .bool false]) w := by kernel_rfl
theorem as_no2 (x : Value) (w : World) : (Instr.typeAssert (.iface 142 x) 103 144 true).run Tryd.prog w = .ok (.tuple #[.string ⟨#[]⟩, .bool false]) w := by kernel_rfl
theorem as_no3 (x : Value) (w : World) : (Instr.typeAssert (.iface 142 x) 103 143 true).run Tryd.prog w = .ok (.tuple #[.bool false, .bool false]) w := by kernel_rfl
theorem as_str0 (x : Value) (w : World) : (Instr.typeAssert (.iface 144 x) 103 149 true).run Tryd.prog w = .ok (.tuple #[.int .i64 0, .bool false]) w := by kernel_rfl
theorem as_str (s : ByteArray) (w : World) : (Instr.typeAssert (.iface 144 (.string s)) 103 144 true).run Tryd.prog w = .ok (.tuple #[.string s, .bool true]) w := by kernel_rfl
theorem as_b1 (x : Value) (w : World) : (Instr.typeAssert (.iface 143 x) 103 149 true).run Tryd.prog w = .ok (.tuple #[.int .i64 0, .bool false]) w := by kernel_rfl
theorem as_b2 (x : Value) (w : World) : (Instr.typeAssert (.iface 143 x) 103 144 true).run Tryd.prog w = .ok (.tuple #[.string ⟨#[]⟩, .bool false]) w := by kernel_rfl
theorem as_b3 (b : Bool) (w : World) : (Instr.typeAssert (.iface 143 (.bool b)) 103 143 true).run Tryd.prog w = .ok (.tuple #[.bool b, .bool true]) w := by kernel_rfl
set_option maxHeartbeats 2000000 in
theorem content_0 (w : World) : Calls Tryd.prog 59 #[.iface 142 (.agg #[])] w (RetRow [] w) := by
  have a1 := fun w => as_no1 (.agg #[]) w
  have a2 := fun w => as_no2 (.agg #[]) w
  have a3 := fun w => as_no3 (.agg #[]) w
  go_enter Tryd.func59, Tryd.ntmps59
  go_wp2_with fail
  go_ret
  exact ⟨_, rfl, World.ownsRow_nil _ _ _ _, Below.refl _ _⟩
set_option maxHeartbeats 2000000 in
theorem content_1 (n : Int) (w : World) : Calls Tryd.prog 59 #[.iface 149 (.int .i64 n)] w (RetRow (putB (u64of n)) w) := by
  have HP := Lib.hid (fun w => put_val (u64of n) (by unfold u64of; omega) (by unfold u64of; omega) w)
  unfold u64of at HP
  have a1 := fun w => as_int n w
  go_enter Tryd.func59, Tryd.ntmps59
  go_wp2_with fail
  refine (HP.out _).mono ?_
  rintro e w1 ⟨v, rfl, hr, hb⟩
  dsimp only
  have HR := Lib.hid hr; clear hr
  go_wp2_with fail
  go_ret
  exact ⟨_, rfl, HR.out, hb⟩
set_option maxHeartbeats 2000000 in
theorem content_2 (s : ByteArray) (hs : s.size ≤ 200) (w : World) : Calls Tryd.prog 59 #[.iface 144 (.string s)] w (RetRow (varB s.size ++ bytesOf s) w) := by
  have HP := Lib.hid (fun w => var_val (s.size : Int) (by omega) (by omega) w)
  have hvl : (varB (s.size : Int)).length ≤ 3 := by unfold varB; split <;> (try split) <;> simp
  have a1 := fun w => as_str0 (.string s) w
  have a2 := fun w => as_str s w
  go_enter Tryd.func59, Tryd.ntmps59
  go_wp2_with fail
  refine (HP.out _).mono ?_
  rintro e w1 ⟨v, rfl, hr, hb⟩
  dsimp only
  have HR := Lib.hid hr; clear hr
  go_wp2_with (at_builtin; refine print_append_str (w0 := w) w.heap.size rfl _ _ 43 144 5 rfl Tryd.underlying43 Tryd.underlying144 byteinfo v (varB s.size) s rfl rfl HR.out (by assumption) (Below.size (by assumption)) ?c1 ?_)
  case c1 => omega
  intro v1 w2 hown hb2 _
  have HR2 := Lib.hid hown; clear hown
  have HB2 := Lib.hid hb2; clear hb2 hb
  go_wp2_with fail
  go_ret
  exact ⟨v1, rfl, by have h := HR2.out; unfold Row; rw [List.length_append]; exact h, HB2.out⟩
set_option maxHeartbeats 2000000 in
theorem content_3 (b : Bool) (w : World) : Calls Tryd.prog 59 #[.iface 143 (.bool b)] w (RetRow [if b then 1 else 0] w) := by
  cases b
  all_goals
    have a1 := fun w x => as_b1 (.bool x) w
    have a2 := fun w x => as_b2 (.bool x) w
    have a3 := fun w x => as_b3 x w
    go_enter Tryd.func59, Tryd.ntmps59
    go_wp2_with fail
    go_ret
    refine ⟨_, rfl, ?_, by go_grown⟩
    exact own_full (w := w) (base := w.heap.size) (e := 5) #[_] 1 rfl (Nat.le_refl _) (by decide)
end Go.Proofs.YtcjidlgmbjebjaaDoor

namespace Go.Proofs.YtcjidlgmbjebjaaDoor
open Go Go.RowKit
theorem cell_lt {w : World} {b o : Nat} {v : Value} (h : w.cell? ⟨b, o, none⟩ = some v) : b < w.heap.size := by
  rcases Nat.lt_or_ge b w.heap.size with h' | h'
  · exact h'
  · simp [World.cell?, Array.getElem?_eq_none h'] at h
theorem own_below {w w' : World} {base e s n : Nat} {v : Value} {xs : List Value} (h : w.ownsRow base e s v n xs) (hb : Below w.heap.size w w') : w'.ownsRow base e s v n xs := by
  obtain ⟨h1, h2 | ⟨g, cap, cur, hv, hg, hk, r⟩⟩ := h
  · exact ⟨h1, .inl h2⟩
  · exact ⟨h1, .inr ⟨g, cap, cur, hv, hg, (hb.block _ (Array.getElem?_eq_some_iff.1 hk).1).trans hk, r⟩⟩
end Go.Proofs.YtcjidlgmbjebjaaDoor

namespace Go.Proofs.YtcjidlgmbjebjaaDoor
open Go Go.RowKit Go.Proofs.YtcjidlgmbjebjaaDoorW.PrintWords
theorem content_val (k n : Int) (s : ByteArray) (hg : goodV k n s = true) (w : World) : Calls Tryd.prog 59 #[ofV k n s] w (RetRow (valB k n s) w) := by
  unfold goodV at hg
  by_cases h0 : k = 0
  · subst h0
    simp only [if_true, decide_eq_true_eq] at hg
    have ho : ofV 0 n s = .iface 142 (.agg #[]) := by simp [ofV, hg]
    rw [ho]
    exact content_0 w
  by_cases h1 : k = 1
  · subst h1
    simp at hg
    have ho : ofV 1 n s = .iface 149 (.int .i64 n) := by simp [ofV, hg]
    rw [ho]
    exact content_1 n w
  by_cases h2 : k = 2
  · subst h2
    simp at hg
    have ho : ofV 2 n s = .iface 144 (.string s) := by simp [ofV, hg]
    rw [ho]
    exact content_2 s (by omega) w
  by_cases h3 : k = 3
  · subst h3
    simp at hg
    rcases hg.2 with hn | hn
    · subst hn
      have ho : ofV 3 0 s = .iface 143 (.bool false) := by simp [ofV, hg]
      rw [ho]
      exact content_3 false w
    · subst hn
      have ho : ofV 3 1 s = .iface 143 (.bool true) := by simp [ofV, hg]
      rw [ho]
      exact content_3 true w
  · simp [h0, h1, h2, h3] at hg
def Kept5 (w w' : World) : Prop := ∀ b, b < w.heap.size → (¬ ∃ cells, w.heap[b]? = some (.cells cells 5 (0, 0))) → w'.heap[b]? = w.heap[b]?
theorem kept5_refl (w : World) : Kept5 w w := fun _ _ _ => rfl
theorem kept5_grown {w w' : World} {base : Nat} {v : Value} {l : List Int} (h : Row w base v l) (hg : w.grownBy w' v.ownBlock) : Kept5 w w' := fun b hb hn =>
  hg.block b hb fun e => hn (own_typed h b e.symm)
theorem run_app {w : World} {base : Nat} {v : Value} {l : List Int} (h : Row w base v l) {A : Option Addr} {m : Nat} (c : Nat) {ys : List Int} (hC : Kd.C (Kd.int .u8) w A m ys) (hlen : l.length + ys.length ≤ 140737488355000) (hbase : base ≤ w.heap.size) :
    ∃ v' w', (Builtin.append_ #[43, 43] 43 #[v, .slice A m c]).run Tryd.prog w = .ok v' w' ∧ Row w' base v' (l ++ ys) ∧ Below base w w' ∧ Kept5 w w' := by
  obtain ⟨i0, hi, hz0, hz1, hz2⟩ := info_parts byteinfo
  have hm : ys.length = m := hC.1
  by_cases h0 : m = 0
  · subst h0
    obtain rfl : ys = [] := List.eq_nil_of_length_eq_zero hm
    rw [List.append_nil]
    cases A with
    | none =>
      refine ⟨v, w, ?_, h, Below.refl _ _, kept5_refl w⟩
      rcases h.2 with ⟨rfl, _⟩ | ⟨g, cap, cur, rfl, _, _, hnc, _⟩
      · simp [Builtin.append_, run_underlying Tryd.underlying43, sizeOf, typeInfo, hi, Builtin.lenOf, Builtin.firstCells]
      · simp [Builtin.append_, run_underlying Tryd.underlying43, sizeOf, typeInfo, hi, Builtin.lenOf, Builtin.firstCells, hnc, storeCells]
    | some ad =>
      obtain ⟨v', w', hr, h2, h3, _⟩ := run_append_own (P := Tryd.prog) w base 43 43 5 i0 (.int .u8 0) 1 1 Tryd.underlying43 hi hz0 hz1 hz2 rfl (by decide) v l.length (u8s l) h ad 0 c [] rfl (fun j u hu => by simp at hu) (fun u hu => by simp at hu) (by unfold maxLen; omega) (by omega) hbase
      rw [List.append_nil] at h2
      exact ⟨v', w', hr, h2, (Below.refl _ _).grown h3 hbase (fun q hq => (h.lt q hq).1), kept5_grown h h3⟩
  · obtain ⟨ad, rfl, hcell⟩ := hC.2.2 (by omega)
    have hnews : ∀ (j : Nat) (u : Value), (u8s ys)[j]? = some u → w.cell? (ad.add j) = some u := by
      intro j u hu
      unfold u8s at hu
      rw [List.getElem?_map] at hu
      obtain ⟨y, hy, rfl⟩ := Option.map_eq_some_iff.1 hu
      obtain ⟨cc, _, hcc, hx⟩ := hcell j y hy
      have hcc : cc = [.int .u8 y] := hcc
      subst hcc
      have hx0 := hx 0 (.int .u8 y) rfl
      rw [show j * (Kd.int .u8).sz + 0 = j from by show j * 1 + 0 = j; omega] at hx0
      exact hx0
    obtain ⟨v', w', hr, h2, h3, _⟩ := run_append_own (P := Tryd.prog) w base 43 43 5 i0 (.int .u8 0) 1 1 Tryd.underlying43 hi hz0 hz1 hz2 rfl (by decide) v l.length (u8s l) h ad m c (u8s ys) (by simp [u8s]; omega) hnews
      (fun u hu => by unfold u8s at hu; obtain ⟨y, _, rfl⟩ := List.mem_map.1 hu; rfl) (by unfold maxLen; omega) (by omega) hbase
    refine ⟨v', w', hr, ?_, (Below.refl _ _).grown h3 hbase (fun q hq => (h.lt q hq).1), kept5_grown h h3⟩
    unfold Row
    have e : u8s (l ++ ys) = u8s l ++ u8s ys := by simp [u8s]
    rw [e, List.length_append, hm]
    exact h2
theorem wp_app {w : World} {o : Oper} {a : Act} {K : Act → World → Prop} {Q : Exit → Act → World → Prop} (s x : Operand) (ho : o.op = .call { callee := .builtin .append, args := #[s, x], argTypes := #[43, 43] }) (hty : o.type = 43)
    {base : Nat} {v : Value} {l : List Int} (hs : a.eval s = v) (h : Row w base v l) {A : Option Addr} {m : Nat} {c : Nat} {ys : List Int} (hx : a.eval x = .slice A m c) (hC : Kd.C (Kd.int .u8) w A m ys) (hlen : l.length + ys.length ≤ 140737488355000) (hbase : base ≤ w.heap.size)
    (hk : ∀ v' w', Row w' base v' (l ++ ys) → Below base w w' → Kept5 w w' → K (a.put o.dst v') w') : o.wp Tryd.prog a w K Q := by
  obtain ⟨v', w', hr, h2, h3, h4⟩ := run_app h c hC hlen hbase
  unfold Oper.wp execOp
  simp only [ho, hty, resolve, invoke, builtin, Sem.run_bind, Sem.run_pure, Result.andThen_ok, List.map_toArray, List.map_cons, List.map_nil, hs, hx, hr]
  exact hk v' w' h2 h3 h4
theorem step_app {w : World} {ops : Array Oper} {o : Oper} {a : Act} {K : Act → World → Prop} {Q : Exit → Act → World → Prop} {E : Prop} (hgd : o.guard = none) (s x : Operand) (ho : o.op = .call { callee := .builtin .append, args := #[s, x], argTypes := #[43, 43] }) (hty : o.type = 43)
    {base : Nat} {v : Value} {l : List Int} (hs : a.eval s = v) (h : Row w base v l) {A : Option Addr} {m : Nat} {c : Nat} {ys : List Int} (hx : a.eval x = .slice A m c) (hC : Kd.C (Kd.int .u8) w A m ys) (hlen : l.length + ys.length ≤ 140737488355000) (hbase : base ≤ w.heap.size)
    (hk : ∀ v' w', Row w' base v' (l ++ ys) → Below base w w' → Kept5 w w' → K (a.put o.dst v') w') : if Region.wanted o (yielded ops a.tmps) = true then Oper.wp Tryd.prog o a w K Q else E := by
  have hw : Region.wanted o (yielded ops a.tmps) = true := by simp [Region.wanted, hgd]
  rw [if_pos hw]
  exact wp_app s x ho hty hs h hx hC hlen hbase hk
theorem wpList_app {w : World} {ops : Array Oper} {rest : List Oper} {o : Oper} {a : Act} {Q : Exit → Act → World → Prop} (hgd : o.guard = none) (s x : Operand) (ho : o.op = .call { callee := .builtin .append, args := #[s, x], argTypes := #[43, 43] }) (hty : o.type = 43)
    {base : Nat} {v : Value} {l : List Int} (hs : a.eval s = v) (h : Row w base v l) {A : Option Addr} {m : Nat} {c : Nat} {ys : List Int} (hx : a.eval x = .slice A m c) (hC : Kd.C (Kd.int .u8) w A m ys) (hlen : l.length + ys.length ≤ 140737488355000) (hbase : base ≤ w.heap.size)
    (hk : ∀ v' w', Row w' base v' (l ++ ys) → Below base w w' → Kept5 w w' → wpList Tryd.prog ops Q rest (a.put o.dst v') w') : wpList Tryd.prog ops Q (o :: rest) a w :=
  wpList_plain hgd fun _ hK => wp_app s x ho hty hs h hx hC hlen hbase fun v' w' h2 h3 h4 => hK _ _ (hk v' w' h2 h3 h4)
theorem cell_base {B : Nat} {w w' : World} (hb : Below B w w') {b o : Nat} {v : Value} (hlt : b < B) (h : w.cell? ⟨b, o, none⟩ = some v) : w'.cell? ⟨b, o, none⟩ = some v := (hb.cell (p := ⟨b, o, none⟩) hlt).trans h
theorem row_below {w w' : World} {base : Nat} {v : Value} {l : List Int} (h : Row w base v l) (hb : Below w.heap.size w w') : Row w' base v l := own_below h hb
end Go.Proofs.YtcjidlgmbjebjaaDoor

namespace Go.Proofs.YtcjidlgmbjebjaaDoor
open Go Go.RowKit Go.Proofs.YtcjidlgmbjebjaaDoorW.PrintWords
abbrev Va := PValueForms.S51
def goodX (x : Va) : Bool := goodV x.f0 x.f1 x.f2
def elB (x : Va) : List Int := x.f0 :: valB x.f0 x.f1 x.f2
def vsB (vs : List Va) : List Int := vs.flatMap elB
def featB (lb : List Int) (vs : List Va) : List Int := bif decide (vs.length ≤ 4) && (decide (lb.length ≤ 20000) && vs.all goodX) then varB lb.length ++ lb ++ [(vs.length : Int)] ++ vsB vs else []
theorem feat_many {lb : List Int} {vs : List Va} (h : ¬ vs.length ≤ 4) : featB lb vs = [] := by unfold featB; rw [decide_eq_false h]; rfl
theorem feat_long {lb : List Int} {vs : List Va} (h : ¬ lb.length ≤ 20000) : featB lb vs = [] := by unfold featB; rw [decide_eq_false h]; simp
theorem feat_bad {lb : List Int} {vs : List Va} {i : Nat} {x : Va} (h : vs[i]? = some x) (hb : goodX x = false) : featB lb vs = [] := by
  have : vs.all goodX = false := by rw [List.all_eq_false]; exact ⟨x, List.mem_of_getElem? h, by rw [hb]; simp⟩
  unfold featB; rw [this]; simp
theorem feat_ok {lb : List Int} {vs : List Va} (h1 : vs.length ≤ 4) (h2 : lb.length ≤ 20000) (h : ∀ x ∈ vs, goodX x = true) : featB lb vs = varB lb.length ++ lb ++ [(vs.length : Int)] ++ vsB vs := by
  unfold featB; rw [decide_eq_true h1, decide_eq_true h2, List.all_eq_true.2 h]; rfl
theorem vsB_snoc (vs : List Va) (x : Va) : vsB (vs ++ [x]) = vsB vs ++ elB x := by simp [vsB]
theorem varB_len (n : Int) : (varB n).length ≤ 3 := by unfold varB; split <;> (try split) <;> simp
theorem valB_len {x : Va} (h : goodX x = true) : (valB x.f0 x.f1 x.f2).length ≤ 220 := by
  have hk := good_kind h
  unfold valB
  split
  · simp [putB]
  · split
    · rename_i h1 h2
      have := varB_len (x.f2.size : Int)
      rw [List.length_append, bytesOf_length]
      rcases hk with h | h | ⟨_, h⟩ | ⟨h, _⟩ <;> omega
    · split <;> simp
theorem kind_range {x : Va} (h : goodX x = true) : 0 ≤ x.f0 ∧ x.f0 ≤ 3 := by
  have hk := good_kind h
  rcases hk with h | h | ⟨h, _⟩ | ⟨h, _⟩ <;> omega
def VaAt (w : World) (b o i : Nat) (x : Va) : Prop := w.cell? ⟨b, o + i * 3, none⟩ = some (.int .i64 x.f0) ∧ w.cell? ⟨b, o + i * 3 + 1, none⟩ = some (.int .i64 x.f1) ∧ w.cell? ⟨b, o + i * 3 + 2, none⟩ = some (.string x.f2)
def VsV (w : World) (v : Value) (vs : List Va) : Prop := ∃ pa b o cap, v = .slice pa vs.length cap ∧ vs.length ≤ cap ∧ (0 < vs.length → pa = some ⟨b, o, none⟩) ∧ ∀ i x, vs[i]? = some x → VaAt w b o i x
theorem va_stays {w w' : World} {b o i : Nat} {x : Va} (h : VaAt w b o i x) (hb : Below w.heap.size w w') : VaAt w' b o i x := ⟨cell_later hb h.1, cell_later hb h.2.1, cell_later hb h.2.2⟩
theorem C_one (w : World) (x : Int) : Kd.C (Kd.int .u8) (w.alloc (.cells #[.int .u8 x] 5)) (some ⟨w.heap.size, 0, none⟩) 1 [x] := by
  refine ⟨rfl, by decide, fun _ => ⟨_, rfl, fun j p hp => ?_⟩⟩
  have hj : j = 0 := by have := (List.getElem?_eq_some_iff.1 hp).1; simp at this; exact this
  subst hj
  simp at hp
  subst hp
  refine ⟨[.int .u8 x], rfl, rfl, fun i u hu => ?_⟩
  have hi : i = 0 := by have := (List.getElem?_eq_some_iff.1 hu).1; simp at this; exact this
  subst hi
  simp at hu
  subst hu
  simp [Addr.add]
theorem row_alloc {w : World} {base : Nat} {v : Value} {l : List Int} (h : Row w base v l) (o : Obj) : Row (w.alloc o) base v l := h.alloc o
theorem row_drew {w : World} {base : Nat} {v : Value} {l : List Int} (h : Row w base v l) : Row w.drew base v l := h
theorem row_lower {w : World} {base base' : Nat} {v : Value} {l : List Int} (h : Row w base v l) (hb : base' ≤ base) : Row w base' v l := own_weaken h hb
def BoxAt (w : World) (b : Nat) (x : Va) : Prop := w.heap[b]? = some (.cells #[.int .i64 x.f0, .int .i64 x.f1, .string x.f2] 51 (0, 0))
theorem box_later {w w' : World} {b : Nat} {x : Va} (h : BoxAt w b x) (hb : Below w.heap.size w w') : BoxAt w' b x := (hb.block b (Array.getElem?_eq_some_iff.1 h).1).trans h
theorem box_alloc {w : World} {b : Nat} {x : Va} (h : BoxAt w b x) (o : Obj) : BoxAt (w.alloc o) b x := hp_old _ _ _ _ (Array.getElem?_eq_some_iff.1 h).1 h
theorem box_app {w w' : World} {b : Nat} {x : Va} (h : BoxAt w b x) (hk : Kept5 w w') : BoxAt w' b x :=
  (hk b (Array.getElem?_eq_some_iff.1 h).1 (fun ⟨cells, e⟩ => by have := h.symm.trans e; injection this with this; injection this with _ e2; cases e2)).trans h
theorem sBox {w : World} {b : Nat} {x : Va} {B : Nat} {W : World} (h : BoxAt w b x) (hb : Below B W w) : BoxAt w b x ∧ w.cell? ⟨b, 0, none⟩ = some (.int .i64 x.f0) ∧ w.cell? ⟨b, 1, none⟩ = some (.int .i64 x.f1) ∧ w.cell? ⟨b, 2, none⟩ = some (.string x.f2) ∧ Below B W w :=
  ⟨h, by rw [Lib.cell_of_heap h]; rfl, by rw [Lib.cell_of_heap h]; rfl, by rw [Lib.cell_of_heap h]; rfl, hb⟩
end Go.Proofs.YtcjidlgmbjebjaaDoor

namespace Go.Proofs.YtcjidlgmbjebjaaDoor
open Go Go.RowKit Go.Proofs.YtcjidlgmbjebjaaDoorW.PrintWords
def featV (row : Int) (A : Option Addr) (n cb : Nat) (vv : Value) : Value := .agg #[.int .i64 row, .slice A n cb, vv]
def ByR (lb : List Int) (vs : List Va) (W : World) (t i : Value) (w' : World) : Prop :=
  ∃ (j m c : Nat) (p : Option Addr), j ≤ vs.length ∧ i = .int .i64 j ∧ t = .slice p m c ∧ Row w' (W.heap.size + 1) (.slice p m c) (varB lb.length ++ (lb ++ [(vs.length : Int)]) ++ vsB (vs.take j)) ∧
    (∀ x ∈ vs.take j, goodX x = true) ∧ (vsB (vs.take j)).length ≤ j * 221 ∧ Below W.heap.size W w' ∧ W.heap.size + 1 ≤ w'.heap.size
theorem take_va {vs : List Va} {k : Nat} {c : Va} (h : vs[k]? = some c) : vs.take (k + 1) = vs.take k ++ [c] := by
  obtain ⟨hi, rfl⟩ := List.getElem?_eq_some_iff.1 h
  rw [List.take_succ_eq_append_getElem hi]
set_option maxHeartbeats 16000000 in
theorem fbytes_val (row : Int) (A : Option Addr) (cb : Nat) (lb : List Int) (vv : Value) (vs : List Va) (W : World) (hC : Kd.C (Kd.int .u8) W A lb.length lb) (hvv : VsV W vv vs) (hsz : ∀ x ∈ vs, x.f2.size ≤ 9223372036854775807) (hl2 : vs.length ≤ 9223372036854775807) :
    Calls Tryd.prog 25 #[featV row A lb.length cb vv] W (RetRow (featB lb vs) W) := by
  obtain ⟨pa, b, o, cap, rfl, hcap, hpa, hvs⟩ := hvv
  have hl1 : lb.length ≤ 9223372036854775807 := hC.2.1
  have HC := Lib.hid hC; clear hC
  have HP := Lib.hid hpa; clear hpa hcap
  have HVS := Lib.hid hvs; clear hvs
  have HSZ := Lib.hid hsz; clear hsz
  unfold featV
  by_cases c1 : vs.length ≤ 4
  case neg =>
    have HF := Lib.hid (feat_many (lb := lb) c1)
    go_enter Tryd.func25, Tryd.ntmps25
    go_wp2_with fail
    go_ret
    exact ⟨_, rfl, by rw [HF.out]; exact World.ownsRow_nil _ _ _ _, by go_grown⟩
  by_cases c2 : lb.length ≤ 20000
  case neg =>
    have HF := Lib.hid (feat_long (vs := vs) c2)
    go_enter Tryd.func25, Tryd.ntmps25
    go_wp2_with fail
    go_ret
    exact ⟨_, rfl, by rw [HF.out]; exact World.ownsRow_nil _ _ _ _, by go_grown⟩
  have HV := Lib.hid (fun w => var_val (lb.length : Int) (by omega) (by omega) w)
  have hvl := varB_len (lb.length : Int)
  have hwr : IntKind.u64.wrap (lb.length : Int) = (lb.length : Int) := by rw [IntKind.wrap_u64]; omega
  go_enter Tryd.func25, Tryd.ntmps25
  go_wp2_with fail
  go_region_held3 (fun w' => w'.cell? ⟨W.heap.size, 0, none⟩ = some (.int .i64 row) ∧ w'.cell? ⟨W.heap.size, 1, none⟩ = some (.slice A lb.length cb) ∧ w'.cell? ⟨W.heap.size, 2, none⟩ = some (.slice pa vs.length cap) ∧ Below W.heap.size W w')
    (first
      | (go_keep; done)
      | ((repeat' apply And.intro) <;> first | (go_keep; done) | (go_cell; done) | (rw [World.cell?_drew]; go_cell; done) | (go_grown; done))
      | (go_split_ands; (repeat' apply And.intro) <;> first | (exact cell_base hb2 (by simp) (by assumption)) | (exact Below.trans (by assumption) (hb2.mono (by simp))))
      | (go_split_ands; (repeat' apply And.intro) <;> first | (exact cell_later hb1 (by assumption)) | (exact below_step (by assumption) hb1)))
    (first
      | (go_at_call 58; refine (HV.out _).mono ?_; rintro e w1 ⟨v1, rfl, hr1, hb1⟩)
      | (go_split_ands; refine step_app (by rfl) _ _ (by rfl) (by rfl) (by rfl) hr1 (by rfl) (Kd.C_below HC.out (by assumption)) (by omega) (Below.size hb1) ?_; intro v2 w2 hr2 hb2 _))
  rename_i hH
  obtain ⟨_, _, y2, hB2⟩ := hH
  have hr2 : Row w2 (W.heap.size + 1) v2 (varB lb.length ++ lb) := row_lower hr2 (by simp)
  have hz : W.heap.size + 1 ≤ w2.heap.size := by have h1 := hb1.size; have h2 := hb2.size; simp at h1 h2; omega
  obtain ⟨p2, d2, hv2⟩ := row_shape hr2
  generalize (varB (lb.length : Int) ++ lb).length = M2 at hv2
  subst hv2
  have HR2 := Lib.hid hr2
  clear hr1 hr2 hb1 hb2 hwr
  go_wp2_with (at_builtin; refine wpList_app (by rfl) _ _ (by rfl) (by rfl) (by rfl) (row_alloc HR2.out _) (by rfl) (C_one _ _) (by simp; omega) (by simp; omega) ?_)
  intro v3 w3 hr3 hb3 _
  have hB3 : Below W.heap.size W w3 := (hB2.alloc hB2.size _).trans (hb3.mono (by simp))
  have hz3 : W.heap.size + 1 ≤ w3.heap.size := by have h1 := hb3.size; simp at h1; omega
  have y3 : w3.cell? ⟨W.heap.size, 2, none⟩ = some (.slice pa vs.length cap) := cell_base hb3 (by simp) (cell_later ((Below.refl w2.heap.size w2).alloc (Nat.le_refl _) _) y2)
  obtain ⟨p3, d3, hv3⟩ := row_shape hr3
  generalize (varB (lb.length : Int) ++ (lb ++ [(vs.length : Int)])).length = M3 at hv3
  subst hv3
  have HR3 := Lib.hid hr3
  clear hr3 hb3 y2
  go_wp2_with fail
  go_loopw [3, 34] (fun t i w' => ByR lb vs W t i w') (fun _ i _ => vs.length - (intOf i).toNat)
  case atStart => exact ⟨0, _, _, _, by omega, rfl, rfl, by simpa [vsB] using HR3.out, by simp, by simp [vsB], hB3, hz3⟩
  case round =>
    obtain ⟨j, m, c, p, hj, rfl, rfl, hrow, hgood, hvl2, hB, hzr⟩ := hrel
    by_cases hp : j < vs.length
    · obtain rfl := HP.out (by omega)
      obtain ⟨x, hx⟩ : ∃ x, vs[j]? = some x := ⟨vs[j], List.getElem?_eq_getElem hp⟩
      have hxs := HSZ.out x (List.mem_of_getElem? hx)
      obtain ⟨x0, x1, x2⟩ := va_stays (HVS.out j x hx) hB
      have HTK := Lib.hid (take_va hx)
      have HBD := Lib.hid (fun h => feat_bad (lb := lb) hx h)
      clear hx
      have HO := Lib.hid hrow; clear hrow
      have HG := Lib.hid hgood; clear hgood
      have hcg := fun w => good_val x.f0 x.f1 x.f2 w hxs
      cases hgx : goodX x with
      | false =>
        have HF := Lib.hid (HBD.out hgx)
        rw [show goodV x.f0 x.f1 x.f2 = false from hgx] at hcg
        have HGG := Lib.hid hcg; clear hcg hgx
        go_wp2_with fail
        refine (HGG.out _).mono ?_
        rintro e w4 ⟨rfl, hb⟩
        have hB4 := below_step (show Below W.heap.size W _ from hB.alloc hB.size _) hb
        clear hb
        dsimp only
        go_wp2_with fail
        go_ret
        exact ⟨_, rfl, by rw [HF.out]; exact World.ownsRow_nil _ _ _ _, hB4⟩
      | true =>
        rw [show goodV x.f0 x.f1 x.f2 = true from hgx] at hcg
        have HGG := Lib.hid hcg; clear hcg
        obtain ⟨k0, k3⟩ := kind_range hgx
        have hvn := valB_len hgx
        have HGX := Lib.hid hgx
        have HCT := Lib.hid (fun w => content_val x.f0 x.f1 x.f2 hgx w)
        clear hgx
        go_wp2_with fail
        refine (HGG.out _).mono ?_
        rintro e w4 ⟨rfl, hb⟩
        have z0 := cell_later (v := .int .i64 x.f0) hb (show World.cell? _ ⟨wr.heap.size, 0, none⟩ = some (.int .i64 x.f0) from by go_cell)
        have z1 := cell_later (v := .int .i64 x.f1) hb (show World.cell? _ ⟨wr.heap.size, 1, none⟩ = some (.int .i64 x.f1) from by go_cell)
        have z2 := cell_later (v := .string x.f2) hb (show World.cell? _ ⟨wr.heap.size, 2, none⟩ = some (.string x.f2) from by go_cell)
        have hB4 := below_step (show Below W.heap.size W _ from hB.alloc hB.size _) hb
        have HO4 := Lib.hid (row_below (row_alloc HO.out _) hb)
        have HBOX := Lib.hid (show BoxAt w4 wr.heap.size x from box_later (w := wr.alloc (.cells #[.int .i64 x.f0, .int .i64 x.f1, .string x.f2] 51)) (hp_new _ _ _ rfl) hb)
        have hz4 : W.heap.size + 1 ≤ w4.heap.size := by have h1 := hb.size; simp at h1; omega
        clear hb
        dsimp only
        go_wp2_with fail
        have HBX := Lib.hid (show BoxAt w4.drew wr.heap.size x from HBOX.out)
        have hB4' := below_drew hB4
        have hwk : IntKind.u8.wrap x.f0 = x.f0 := by rw [IntKind.wrap_u8]; omega
        clear z0 z1 z2
        go_region_held3 (fun w' => BoxAt w' wr.heap.size x ∧ w'.cell? ⟨wr.heap.size, 0, none⟩ = some (.int .i64 x.f0) ∧ w'.cell? ⟨wr.heap.size, 1, none⟩ = some (.int .i64 x.f1) ∧ w'.cell? ⟨wr.heap.size, 2, none⟩ = some (.string x.f2) ∧ Below W.heap.size W w')
          (first
            | (exact sBox HBX.out hB4')
            | (go_split_ands; exact sBox (box_app (by assumption) hT10) (Below.trans (by assumption) (hb10.mono (by omega))))
            | (go_split_ands; exact sBox (box_later (by assumption) hb6) (below_step (by assumption) hb6))
            | (go_split_ands; exact sBox (box_later (by assumption) hb5) (below_step (by assumption) hb5))
            | (go_split_ands; exact sBox (box_app (by assumption) hT9) (Below.trans (by assumption) (hb9.mono (by omega))))
            | (go_split_ands; exact sBox (box_alloc (by assumption) _) (Below.alloc (by assumption) (Below.size (by assumption)) _)))
          (first
            | (go_at_call 60; refine (of_val _ _ _ _).mono ?_; rintro e w5 ⟨rfl, hb5⟩; have hr9 := row_below hr9 hb5)
            | (go_at_call 59; refine (HCT.out _).mono ?_; rintro e w6 ⟨v6, rfl, hr6, hb6⟩; have hr9 := row_below hr9 hb6; obtain ⟨p6, c6, rfl⟩ := row_shape hr6)
            | (refine step_app (by rfl) _ _ (by rfl) (by rfl) (by rfl) hr9 (by rfl) (row_C hr6 (by omega)).2.2 (by simp; omega) (by have h1 := hb9.size; have h2 := hb5.size; have h3 := hb6.size; simp at h1; omega) ?_; intro v10 w10 hr10 hb10 hT10)
            | (refine step_app (by rfl) _ _ (by rfl) (by rfl) (by rfl) (row_alloc (row_drew HO4.out) _) (by rfl) (C_one _ _) (by simp; omega) (by simp; omega) ?_; intro v9 w9 hr9 hb9 hT9))
        rename_i hH
        have hBn := hH.2.2.2.2
        have hzn : W.heap.size + 1 ≤ w10.heap.size := by have := (Array.getElem?_eq_some_iff.1 hH.1).1; omega
        have hrn : Row w10 (W.heap.size + 1) v10 (varB lb.length ++ (lb ++ [(vs.length : Int)]) ++ vsB (vs.take (j + 1))) := by
          rw [HTK.out, vsB_snoc]
          have e : varB lb.length ++ (lb ++ [(vs.length : Int)]) ++ (vsB (vs.take j) ++ elB x) = varB lb.length ++ (lb ++ [(vs.length : Int)]) ++ vsB (vs.take j) ++ [x.f0] ++ valB x.f0 x.f1 x.f2 := by simp [elB]
          rw [e]
          exact hr10
        have hgn : ∀ y ∈ vs.take (j + 1), goodX y = true := by
          rw [HTK.out]
          intro y hy
          rcases List.mem_append.1 hy with hy | hy
          · exact HG.out y hy
          · simp at hy; subst hy; exact HGX.out
        have hln : (vsB (vs.take (j + 1))).length ≤ (j + 1) * 221 := by
          rw [HTK.out, vsB_snoc, List.length_append]
          simp only [elB, List.length_cons]
          omega
        obtain ⟨p10, c10, rfl⟩ := row_shape hrn
        have HREL := Lib.hid (show ByR lb vs W (.slice p10 (varB lb.length ++ (lb ++ [(vs.length : Int)]) ++ vsB (vs.take (j + 1))).length c10) (.int .i64 ((j + 1 : Nat) : Int)) w10 from
          ⟨j + 1, _, _, _, by omega, rfl, rfl, hrn, hgn, hln, hBn, hzn⟩)
        generalize (varB lb.length ++ (lb ++ [(vs.length : Int)]) ++ vsB (vs.take (j + 1))).length = M at HREL ⊢
        clear hH hBn hzn hrn hgn hln hr10 hb10 hT10 hr6 hb6 hr9 hb5 hb9 hT9
        go_wp2_with fail
        refine ⟨?_, by simp [intOf]; omega⟩
        exact HREL.out
    · obtain rfl : j = vs.length := by omega
      rw [List.take_length] at hrow hgood
      have HF := Lib.hid (feat_ok c1 c2 hgood)
      have HO := Lib.hid (row_lower hrow (Nat.le_succ _))
      clear hrow hgood
      go_wp2_with fail
      go_ret
      exact ⟨_, rfl, by rw [HF.out, List.append_assoc (varB _) lb]; exact HO.out, hB⟩
end Go.Proofs.YtcjidlgmbjebjaaDoor

namespace Go.Proofs.YtcjidlgmbjebjaaDoor
open Go Go.RowKit Go.Proofs.YtcjidlgmbjebjaaDoorW.PrintWords
theorem C_nil (w : World) : Kd.C (Kd.int .u8) w none 0 [] := ⟨rfl, by decide, fun h => absurd h (by decide)⟩
end Go.Proofs.YtcjidlgmbjebjaaDoor

namespace Go.Proofs.YtcjidlgmbjebjaaDoor
open Go Go.RowKit Go.Proofs.YtcjidlgmbjebjaaDoorW.PrintWords
end Go.Proofs.YtcjidlgmbjebjaaDoor
