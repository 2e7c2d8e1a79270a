import Derived.Test.YtcjidlgmbjebjaaDoorAskAr
import Derived.Test.YtcjidlgmbjebjaaDoorAskAl
import Derived.Test.YtcjidlgmbjebjaaDoorAskBi
import Derived.Lib.SmallJoins
set_option linter.unusedVariables false
set_option linter.unusedSimpArgs false
set_option maxRecDepth 100000
namespace Go.Proofs.YtcjidlgmbjebjaaDoor
open Go Go.RowKit
def sTrue : ByteArray := ⟨#[116, 114, 117, 101]⟩
def sFalse : ByteArray := ⟨#[102, 97, 108, 115, 101]⟩
def sNull : ByteArray := ⟨#[110, 117, 108, 108]⟩
def prV (k n : Int) (s : ByteArray) : ByteArray :=
  if goodV k n s = false then ⟨#[]⟩ else if k = 1 then numS n else if k = 2 then qS s else if k = 3 then (if n = 1 then sTrue else sFalse) else sNull
def PowIs (w : World) : Prop := Lib.TabIs Tryd.prog w "internal/strconv.uint64pow10" .u64 Lib.pow10Tab
theorem good_kind {k n : Int} {s : ByteArray} (h : goodV k n s = true) : k = 0 ∨ k = 1 ∨ (k = 2 ∧ s.size ≤ 200) ∨ (k = 3 ∧ (n = 0 ∨ n = 1)) := by
  unfold goodV at h
  split at h
  · exact .inl ‹_›
  · split at h
    · exact .inr (.inl ‹_›)
    · split at h
      · simp at h; exact .inr (.inr (.inl ⟨‹_›, h.2.1⟩))
      · split at h
        · simp at h; exact .inr (.inr (.inr ⟨‹_›, h.2⟩))
        · simp at h
theorem pow_named {w : World} (h : PowIs w) : ∃ g, Tryd.prog.globalNamed "internal/strconv.uint64pow10" = some g := by
  cases hg : Tryd.prog.globalNamed "internal/strconv.uint64pow10" with
  | some g => exact ⟨g, rfl⟩
  | none =>
    unfold PowIs Lib.TabIs World.var? at h
    rw [hg] at h
    simp at h
theorem pow_stays {w w' : World} (h : PowIs w) (hb : Below w.heap.size w w') : PowIs w' := by
  obtain ⟨g, hg⟩ := pow_named h
  exact Joins.tab_stays hg h hb (Nat.le_refl _)
theorem below_gr (w : World) (q : Nat) (os : Array Obj) : Below w.heap.size w (Sort.grow (w.drewN q) os) := by
  refine ⟨rfl, rfl, rfl, ?_, ?_⟩
  · show w.heap.size ≤ (w.heap ++ os).size
    simp
  · intro k hk
    show (w.heap ++ os)[k]? = w.heap[k]?
    rw [Array.getElem?_append_left hk]
theorem itoa_val (n : Int) (h0 : -9223372036854775808 ≤ n) (h1 : n ≤ 9223372036854775807) (w : World) (htab : PowIs w) :
    Calls Tryd.prog 53 #[.int .i64 n] w (RetS (.string (numS n)) w) := by
  refine (Tryd.strconv_Itoa n h0 h1 w htab).mono ?_
  rintro e w' ⟨rfl, k, os, rfl⟩
  exact ⟨rfl, below_gr w k os⟩
set_option maxHeartbeats 1000000 in
theorem print_val (k n : Int) (s : ByteArray) (W : World) (hsz : s.size ≤ 9223372036854775807) (h0 : -9223372036854775808 ≤ n) (h1 : n ≤ 9223372036854775807) (ht : PowIs W) :
    Calls Tryd.prog 36 #[.agg #[.int .i64 k, .int .i64 n, .string s]] W (RetS (.string (prV k n s)) W) := by
  have hc := fun w => good_val k n s w hsz
  cases hg : goodV k n s with
  | false =>
    rw [hg] at hc
    have HC := Lib.hid hc; clear hc
    have hp : prV k n s = ⟨#[]⟩ := by simp [prV, hg]
    rw [hp]; clear hp hg
    go_enter Tryd.func36, Tryd.ntmps36
    go_wp2_with fail
    refine (HC.out _).mono ?_
    rintro e w1 ⟨rfl, hb⟩
    have hb := below_step (show Below W.heap.size W _ from by go_grown) hb
    dsimp only
    go_wp2_with fail
    go_ret
    exact ⟨rfl, hb⟩
  | true =>
    rw [hg] at hc
    have HC := Lib.hid hc; clear hc
    have HG := Lib.hid hg
    have hk := Lib.hid (good_kind hg)
    clear hg
    go_enter Tryd.func36, Tryd.ntmps36
    go_wp2_with fail
    refine (HC.out _).mono ?_
    rintro e w1 ⟨rfl, hb⟩
    have c0 := cell_later (v := .int .i64 k) hb (show World.cell? _ ⟨W.heap.size, 0, none⟩ = some (.int .i64 k) from by go_cell)
    have c1 := cell_later (v := .int .i64 n) hb (show World.cell? _ ⟨W.heap.size, 1, none⟩ = some (.int .i64 n) from by go_cell)
    have c2 := cell_later (v := .string s) hb (show World.cell? _ ⟨W.heap.size, 2, none⟩ = some (.string s) from by go_cell)
    have hB := below_step (show Below W.heap.size W _ from by go_grown) hb
    clear hb
    have ht1 := pow_stays ht hB
    clear ht
    dsimp only
    rcases hk.out with rfl | rfl | ⟨rfl, h2⟩ | ⟨rfl, rfl | rfl⟩
    all_goals clear hk
    · go_wp2_with fail
      go_ret
      exact ⟨by simp [prV, HG.out, sTrue, sFalse, sNull], hB⟩
    · go_wp2_with fail
      refine (itoa_val n h0 h1 w1 ht1).mono ?_
      rintro e w2 ⟨rfl, hb2⟩
      have hB := below_step hB hb2
      dsimp only
      go_wp2_with fail
      go_ret
      exact ⟨by simp [prV, HG.out, sTrue, sFalse, sNull], hB⟩
    · go_wp2_with fail
      refine (quoted_val s w1 (by omega)).mono ?_
      rintro e w2 ⟨rfl, hb2⟩
      have hB := below_step hB hb2
      dsimp only
      go_wp2_with fail
      go_ret
      exact ⟨by simp [prV, HG.out, sTrue, sFalse, sNull], hB⟩
    · go_wp2_with fail
      go_ret
      exact ⟨by simp [prV, HG.out, sTrue, sFalse, sNull], hB⟩
    · go_wp2_with fail
      go_ret
      exact ⟨by simp [prV, HG.out, sTrue, sFalse, sNull], hB⟩
end Go.Proofs.YtcjidlgmbjebjaaDoor
