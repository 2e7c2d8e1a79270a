/- A part of the proof of SchemaForms. -/
import Derived.Test.YtcjidlgmbjebjaaDoorSfd
import Derived.Test.YtcjidlgmbjebjaaDoorSfa
import Derived.Test.YtcjidlgmbjebjaaDoorSfb
import Derived.Laws.BitsAllLaws
import Derived.Laws.Bits64
import Derived.Lib.SmallJoins
import Derived.Test.YtcjidlgmbjebjaaDoorSfc
import Derived.ChangeSame
import Derived.ChangeVars
import Derived.ProofKit
import Derived.Deep.Strs
import Derived.OpenShut
import Derived.Lib.LaidTab
import Derived.Test.YtcjidlgmbjebjaaDoorRows
set_option linter.unusedVariables false
set_option linter.unusedSimpArgs false
set_option maxRecDepth 100000
namespace Go.Proofs.YtcjidlgmbjebjaaDoor
open Go Go.RowKit
theorem good_nothing (W : World) : Calls Tryd.prog 246 #[.agg #[]] W (RetBool true W) := by
  go_enter Tryd.func246, Tryd.ntmps246
  go_wp2
  go_ret
  refine ⟨rfl, ?_⟩
  go_grown
theorem good_number (n : Int) (W : World) : Calls Tryd.prog 250 #[.int .i64 n] W (RetBool true W) := by
  go_enter Tryd.func250, Tryd.ntmps250
  go_wp2
  go_ret
  exact ⟨rfl, Below.refl _ _⟩
theorem good_flag (b : Bool) (W : World) : Calls Tryd.prog 247 #[.bool b] W (RetBool true W) := by
  go_enter Tryd.func247, Tryd.ntmps247
  go_wp2
  go_ret
  exact ⟨rfl, Below.refl _ _⟩
theorem good_text (s : ByteArray) (W : World) (hs : s.size ≤ 9223372036854775807) : Calls Tryd.prog 248 #[.string s] W (RetBool (decide (s.size ≤ 200) && Utf.ok s) W) := by
  by_cases h : s.size ≤ 200
  · rw [decide_eq_true h, Bool.true_and]
    go_enter Tryd.func248, Tryd.ntmps248
    go_wp2_with (first | (go_at_call 249; refine (right_val s _ hs).mono ?_; rintro e w' ⟨rfl, hb⟩))
    go_ret
    exact ⟨rfl, hb⟩
  · rw [decide_eq_false h, Bool.false_and]
    go_enter Tryd.func248, Tryd.ntmps248
    go_wp2
    go_ret
    exact ⟨rfl, Below.refl _ _⟩
def goodV (k n : Int) (s : ByteArray) : Bool :=
  if k = 0 then decide (n = 0 ∧ s.toList = [])
  else if k = 1 then decide (s.toList = [])
  else if k = 2 then decide (n = 0) && (decide (s.size ≤ 200) && Utf.ok s)
  else if k = 3 then decide (s.toList = []) && decide (n = 0 ∨ n = 1)
  else false

theorem good0 (s : ByteArray) (W : World) (hsz : s.size ≤ 9223372036854775807) (hs : s.toList = []) : Calls Tryd.prog 31 #[.agg #[.int .i64 0, .int .i64 0, .string s]] W (RetBool (true) W) := by
  have ho : ofV 0 0 s = .iface 142 (.agg #[]) := by simp [ofV, *]
  have hc := fun w => of_val 0 0 s w
  rw [ho] at hc
  have HC := Lib.hid hc; clear hc ho
  go_enter Tryd.func31, Tryd.ntmps31
  go_wp2_with fail
  refine (HC.out _).mono ?_
  rintro e w1 ⟨rfl, hb⟩
  have hb := below_step (show Below W.heap.size W _ from by go_grown) hb
  dsimp only
  go_wp2_with fail
  refine (good_nothing _).mono ?_
  rintro e w2 ⟨rfl, hb2⟩
  have hb := below_step hb hb2
  dsimp only
  go_wp2_with fail
  go_ret
  exact ⟨by first | rfl | simp, hb⟩

theorem good1 (n : Int) (s : ByteArray) (W : World) (hsz : s.size ≤ 9223372036854775807) (hs : s.toList = []) : Calls Tryd.prog 31 #[.agg #[.int .i64 1, .int .i64 n, .string s]] W (RetBool (true) W) := by
  have ho : ofV 1 n s = .iface 149 (.int .i64 n) := by simp [ofV, *]
  have hc := fun w => of_val 1 n s w
  rw [ho] at hc
  have HC := Lib.hid hc; clear hc ho
  go_enter Tryd.func31, Tryd.ntmps31
  go_wp2_with fail
  refine (HC.out _).mono ?_
  rintro e w1 ⟨rfl, hb⟩
  have hb := below_step (show Below W.heap.size W _ from by go_grown) hb
  dsimp only
  go_wp2_with fail
  refine (good_number _ _).mono ?_
  rintro e w2 ⟨rfl, hb2⟩
  have hb := below_step hb hb2
  dsimp only
  go_wp2_with fail
  go_ret
  exact ⟨by first | rfl | simp, hb⟩

theorem good2 (s : ByteArray) (W : World) (hsz : s.size ≤ 9223372036854775807) : Calls Tryd.prog 31 #[.agg #[.int .i64 2, .int .i64 0, .string s]] W (RetBool (decide (s.size ≤ 200) && Utf.ok s) W) := by
  have ho : ofV 2 0 s = .iface 144 (.string s) := by simp [ofV, *]
  have hc := fun w => of_val 2 0 s w
  rw [ho] at hc
  have HC := Lib.hid hc; clear hc ho
  go_enter Tryd.func31, Tryd.ntmps31
  go_wp2_with fail
  refine (HC.out _).mono ?_
  rintro e w1 ⟨rfl, hb⟩
  have hb := below_step (show Below W.heap.size W _ from by go_grown) hb
  dsimp only
  go_wp2_with fail
  refine (good_text s _ hsz).mono ?_
  rintro e w2 ⟨rfl, hb2⟩
  have hb := below_step hb hb2
  dsimp only
  go_wp2_with fail
  go_ret
  exact ⟨by first | rfl | simp, hb⟩

theorem good3 (s : ByteArray) (W : World) (hsz : s.size ≤ 9223372036854775807) (hs : s.toList = []) : Calls Tryd.prog 31 #[.agg #[.int .i64 3, .int .i64 0, .string s]] W (RetBool (true) W) := by
  have ho : ofV 3 0 s = .iface 143 (.bool false) := by simp [ofV, *]
  have hc := fun w => of_val 3 0 s w
  rw [ho] at hc
  have HC := Lib.hid hc; clear hc ho
  go_enter Tryd.func31, Tryd.ntmps31
  go_wp2_with fail
  refine (HC.out _).mono ?_
  rintro e w1 ⟨rfl, hb⟩
  have hb := below_step (show Below W.heap.size W _ from by go_grown) hb
  dsimp only
  go_wp2_with fail
  refine (good_flag _ _).mono ?_
  rintro e w2 ⟨rfl, hb2⟩
  have hb := below_step hb hb2
  dsimp only
  go_wp2_with fail
  go_ret
  exact ⟨by first | rfl | simp, hb⟩

theorem good4 (s : ByteArray) (W : World) (hsz : s.size ≤ 9223372036854775807) (hs : s.toList = []) : Calls Tryd.prog 31 #[.agg #[.int .i64 3, .int .i64 1, .string s]] W (RetBool (true) W) := by
  have ho : ofV 3 1 s = .iface 143 (.bool true) := by simp [ofV, *]
  have hc := fun w => of_val 3 1 s w
  rw [ho] at hc
  have HC := Lib.hid hc; clear hc ho
  go_enter Tryd.func31, Tryd.ntmps31
  go_wp2_with fail
  refine (HC.out _).mono ?_
  rintro e w1 ⟨rfl, hb⟩
  have hb := below_step (show Below W.heap.size W _ from by go_grown) hb
  dsimp only
  go_wp2_with fail
  refine (good_flag _ _).mono ?_
  rintro e w2 ⟨rfl, hb2⟩
  have hb := below_step hb hb2
  dsimp only
  go_wp2_with fail
  go_ret
  exact ⟨by first | rfl | simp, hb⟩

theorem good_nil (k n : Int) (s : ByteArray) (W : World) (ho : ofV k n s = .nilIface) : Calls Tryd.prog 31 #[.agg #[.int .i64 k, .int .i64 n, .string s]] W (RetBool false W) := by
  have hc := fun w => of_val k n s w
  rw [ho] at hc
  have HC := Lib.hid hc; clear hc ho
  go_enter Tryd.func31, Tryd.ntmps31
  go_wp2_with fail
  refine (HC.out _).mono ?_
  rintro e w1 ⟨rfl, hb⟩
  have hb := below_step (show Below W.heap.size W _ from by go_grown) hb
  dsimp only
  go_wp2_with fail
  go_ret
  exact ⟨rfl, hb⟩
theorem good_val (k n : Int) (s : ByteArray) (W : World) (hsz : s.size ≤ 9223372036854775807) : Calls Tryd.prog 31 #[.agg #[.int .i64 k, .int .i64 n, .string s]] W (RetBool (goodV k n s) W) := by
  have hk : k = 0 ∨ k = 1 ∨ k = 2 ∨ k = 3 ∨ (k ≠ 0 ∧ k ≠ 1 ∧ k ≠ 2 ∧ k ≠ 3) := by omega
  rcases hk with rfl | rfl | rfl | rfl | ⟨k0, k1, k2, k3⟩
  · by_cases h : n = 0 ∧ s.toList = []
    · obtain ⟨rfl, hs⟩ := h
      have : goodV 0 0 s = true := by simp [goodV, hs]
      rw [this]; exact good0 s W hsz hs
    · have : goodV 0 n s = false := by simp only [goodV, if_true]; exact decide_eq_false h
      rw [this]; exact good_nil 0 n s W (by simp only [ofV, if_true]; rw [if_neg h])
  · by_cases hs : s.toList = []
    · have : goodV 1 n s = true := by simp [goodV, hs]
      rw [this]; exact good1 n s W hsz hs
    · have : goodV 1 n s = false := by simp [goodV, hs]
      rw [this]; exact good_nil 1 n s W (by simp [ofV, hs])
  · by_cases hn : n = 0
    · subst hn
      have : goodV 2 0 s = (decide (s.size ≤ 200) && Utf.ok s) := by simp [goodV]
      rw [this]; exact good2 s W hsz
    · have : goodV 2 n s = false := by simp [goodV, hn]
      rw [this]; exact good_nil 2 n s W (by simp [ofV, hn])
  · by_cases hs : s.toList = []
    · by_cases h0 : n = 0
      · subst h0
        have : goodV 3 0 s = true := by simp [goodV, hs]
        rw [this]; exact good3 s W hsz hs
      · by_cases h1 : n = 1
        · subst h1
          have : goodV 3 1 s = true := by simp [goodV, hs]
          rw [this]; exact good4 s W hsz hs
        · have : goodV 3 n s = false := by simp [goodV, hs, h0, h1]
          rw [this]; exact good_nil 3 n s W (by simp [ofV, hs, h0, h1])
    · have : goodV 3 n s = false := by simp [goodV, hs]
      rw [this]; exact good_nil 3 n s W (by simp [ofV, hs])
  · have : goodV k n s = false := by simp [goodV, k0, k1, k2, k3]
    rw [this]; exact good_nil k n s W (by simp [ofV, k0, k1, k2, k3])
end Go.Proofs.YtcjidlgmbjebjaaDoor

namespace Go.Proofs.YtcjidlgmbjebjaaDoor
open Go Go.RowKit
def sTrue : ByteArray := ⟨#[116, 114, 117, 101]⟩
def sFalse : ByteArray := ⟨#[102, 97, 108, 115, 101]⟩
def sNull : ByteArray := ⟨#[110, 117, 108, 108]⟩
def prV (k n : Int) (s : ByteArray) : ByteArray :=
  if goodV k n s = false then ⟨#[]⟩ else if k = 1 then numS n else if k = 2 then qS s else if k = 3 then (if n = 1 then sTrue else sFalse) else sNull
def PowIs (w : World) : Prop := Lib.TabIs Tryd.prog w "internal/strconv.uint64pow10" .u64 Lib.pow10Tab
theorem good_kind {k n : Int} {s : ByteArray} (h : goodV k n s = true) : k = 0 ∨ k = 1 ∨ (k = 2 ∧ s.size ≤ 200) ∨ (k = 3 ∧ (n = 0 ∨ n = 1)) := by
  unfold goodV at h
  split at h
  · exact .inl ‹_›
  · split at h
    · exact .inr (.inl ‹_›)
    · split at h
      · simp at h; exact .inr (.inr (.inl ⟨‹_›, h.2.1⟩))
      · split at h
        · simp at h; exact .inr (.inr (.inr ⟨‹_›, h.2⟩))
        · simp at h
theorem pow_named {w : World} (h : PowIs w) : ∃ g, Tryd.prog.globalNamed "internal/strconv.uint64pow10" = some g := by
  cases hg : Tryd.prog.globalNamed "internal/strconv.uint64pow10" with
  | some g => exact ⟨g, rfl⟩
  | none =>
    unfold PowIs Lib.TabIs World.var? at h
    rw [hg] at h
    simp at h
theorem pow_stays {w w' : World} (h : PowIs w) (hb : Below w.heap.size w w') : PowIs w' := by
  obtain ⟨g, hg⟩ := pow_named h
  exact Joins.tab_stays hg h hb (Nat.le_refl _)
theorem below_gr (w : World) (q : Nat) (os : Array Obj) : Below w.heap.size w (Sort.grow (w.drewN q) os) := by
  refine ⟨rfl, rfl, rfl, ?_, ?_⟩
  · show w.heap.size ≤ (w.heap ++ os).size
    simp
  · intro k hk
    show (w.heap ++ os)[k]? = w.heap[k]?
    rw [Array.getElem?_append_left hk]
theorem itoa_val (n : Int) (h0 : -9223372036854775808 ≤ n) (h1 : n ≤ 9223372036854775807) (w : World) (htab : PowIs w) :
    Calls Tryd.prog 53 #[.int .i64 n] w (RetS (.string (numS n)) w) := by
  refine (Tryd.strconv_Itoa n h0 h1 w htab).mono ?_
  rintro e w' ⟨rfl, k, os, rfl⟩
  exact ⟨rfl, below_gr w k os⟩
set_option maxHeartbeats 1000000 in
theorem print_val (k n : Int) (s : ByteArray) (W : World) (hsz : s.size ≤ 9223372036854775807) (h0 : -9223372036854775808 ≤ n) (h1 : n ≤ 9223372036854775807) (ht : PowIs W) :
    Calls Tryd.prog 36 #[.agg #[.int .i64 k, .int .i64 n, .string s]] W (RetS (.string (prV k n s)) W) := by
  have hc := fun w => good_val k n s w hsz
  cases hg : goodV k n s with
  | false =>
    rw [hg] at hc
    have HC := Lib.hid hc; clear hc
    have hp : prV k n s = ⟨#[]⟩ := by simp [prV, hg]
    rw [hp]; clear hp hg
    go_enter Tryd.func36, Tryd.ntmps36
    go_wp2_with fail
    refine (HC.out _).mono ?_
    rintro e w1 ⟨rfl, hb⟩
    have hb := below_step (show Below W.heap.size W _ from by go_grown) hb
    dsimp only
    go_wp2_with fail
    go_ret
    exact ⟨rfl, hb⟩
  | true =>
    rw [hg] at hc
    have HC := Lib.hid hc; clear hc
    have HG := Lib.hid hg
    have hk := Lib.hid (good_kind hg)
    clear hg
    go_enter Tryd.func36, Tryd.ntmps36
    go_wp2_with fail
    refine (HC.out _).mono ?_
    rintro e w1 ⟨rfl, hb⟩
    have c0 := cell_later (v := .int .i64 k) hb (show World.cell? _ ⟨W.heap.size, 0, none⟩ = some (.int .i64 k) from by go_cell)
    have c1 := cell_later (v := .int .i64 n) hb (show World.cell? _ ⟨W.heap.size, 1, none⟩ = some (.int .i64 n) from by go_cell)
    have c2 := cell_later (v := .string s) hb (show World.cell? _ ⟨W.heap.size, 2, none⟩ = some (.string s) from by go_cell)
    have hB := below_step (show Below W.heap.size W _ from by go_grown) hb
    clear hb
    have ht1 := pow_stays ht hB
    clear ht
    dsimp only
    rcases hk.out with rfl | rfl | ⟨rfl, h2⟩ | ⟨rfl, rfl | rfl⟩
    all_goals clear hk
    · go_wp2_with fail
      go_ret
      exact ⟨by simp [prV, HG.out, sTrue, sFalse, sNull], hB⟩
    · go_wp2_with fail
      refine (itoa_val n h0 h1 w1 ht1).mono ?_
      rintro e w2 ⟨rfl, hb2⟩
      have hB := below_step hB hb2
      dsimp only
      go_wp2_with fail
      go_ret
      exact ⟨by simp [prV, HG.out, sTrue, sFalse, sNull], hB⟩
    · go_wp2_with fail
      refine (quoted_val s w1 (by omega)).mono ?_
      rintro e w2 ⟨rfl, hb2⟩
      have hB := below_step hB hb2
      dsimp only
      go_wp2_with fail
      go_ret
      exact ⟨by simp [prV, HG.out, sTrue, sFalse, sNull], hB⟩
    · go_wp2_with fail
      go_ret
      exact ⟨by simp [prV, HG.out, sTrue, sFalse, sNull], hB⟩
    · go_wp2_with fail
      go_ret
      exact ⟨by simp [prV, HG.out, sTrue, sFalse, sNull], hB⟩
end Go.Proofs.YtcjidlgmbjebjaaDoor

namespace Go.Proofs.YtcjidlgmbjebjaaDoor
open Go Go.RowKit
def kdName (k : Int) : ByteArray := if k = 0 then ⟨#[65, 78, 89]⟩ else formName k
def ct (c : Col) : ByteArray := colText c.1 c.2.1 c.2.2
def wordsOf (nm : ByteArray) (k srs : Int) (cs : List Col) : List ByteArray := [nm, kdName k, numS srs] ++ cs.map ct
def textB (nm : ByteArray) (k srs : Int) (cs : List Col) : ByteArray := ⟨(Lib.join ((wordsOf nm k srs cs).map (·.data.toList)) [32]).toArray⟩
theorem bsize_append (a b : ByteArray) : (a ++ b).size = a.size + b.size := ByteArray.size_append
theorem tyName_size (k : Int) : (tyName k).size ≤ 4 := by
  unfold tyName; repeat' split
  all_goals decide
theorem formName_size (k : Int) : (formName k).size ≤ 18 := by
  unfold formName; repeat' split
  all_goals decide
theorem kdName_size (k : Int) : (kdName k).size ≤ 18 := by
  unfold kdName; split
  · decide
  · exact formName_size k
theorem ct_size (c : Col) (h : c.1.size ≤ 12) : (ct c).size ≤ 20 := by
  have := tyName_size c.2.1
  have e1 : (ByteArray.mk #[58]).size = 1 := rfl
  have e2 : (ByteArray.mk #[33]).size = 1 := rfl
  unfold ct colText
  cases c.2.2
  · simp only [cond_false, bsize_append, e1]; omega
  · simp only [cond_true, bsize_append, e1, e2]; omega
theorem lens_le (l : List (List UInt8)) (n : Nat) (h : ∀ x ∈ l, x.length ≤ n) : Lib.lens l ≤ l.length * n := by
  induction l with
  | nil => simp [Lib.lens]
  | cons a l ih =>
    have h1 := ih fun x hx => h x (List.mem_cons_of_mem _ hx)
    have h2 := h a List.mem_cons_self
    simp only [Lib.lens, List.map_cons, List.sum_cons, List.length_cons] at *
    rw [Nat.add_mul]; omega
theorem words_len (nm : ByteArray) (k srs : Int) (cs : List Col) (h1 : nm.size ≤ 12) (h0 : -9223372036854775808 ≤ srs) (h2 : srs ≤ 9223372036854775807) (hcs : ∀ c ∈ cs, c.1.size ≤ 12) (hl : cs.length ≤ 50) :
    (Lib.join ((wordsOf nm k srs cs).map (·.data.toList)) [32]).length ≤ 2000 := by
  have hall : ∀ x ∈ (wordsOf nm k srs cs).map (·.data.toList), x.length ≤ 22 := by
    intro x hx
    obtain ⟨b, hb, rfl⟩ := List.mem_map.1 hx
    have : b.size ≤ 22 := by
      simp only [wordsOf, List.cons_append, List.nil_append, List.mem_cons, List.mem_map] at hb
      rcases hb with rfl | rfl | rfl | ⟨c, hc, rfl⟩
      · omega
      · have := kdName_size k; omega
      · have := numS_size srs h0 h2; omega
      · have := ct_size c (hcs c hc); omega
    rw [Array.length_toList]; exact this
  have hlen : ((wordsOf nm k srs cs).map (·.data.toList)).length = cs.length + 3 := by simp [wordsOf]
  have h3 := lens_le _ 22 hall
  rw [hlen] at h3
  have e : (wordsOf nm k srs cs).map (·.data.toList) = nm.data.toList :: ((kdName k).data.toList :: (numS srs).data.toList :: (cs.map ct).map (·.data.toList)) := rfl
  rw [e] at h3 ⊢
  rw [Lib.join_length]
  simp only [List.length_cons, List.length_nil, List.length_map]
  omega
theorem own_full {w : World} {base e : Nat} (cur : Array Value) (n : Nat) (hn : cur.size = n) (hb : base ≤ w.heap.size) (hm : n ≤ maxLen) :
    (w.alloc (.cells cur e)).ownsRow base e 1 (.slice (some ⟨w.heap.size, 0, none⟩) n n) n cur.toList :=
  ⟨by simp [hn], .inr ⟨w.heap.size, n, cur, rfl, hb, hp_new w _ _ rfl, Nat.le_refl _, hm, by simp [hn], by simp [hn, List.take_of_length_le]⟩⟩
end Go.Proofs.YtcjidlgmbjebjaaDoor

namespace Go.Proofs.YtcjidlgmbjebjaaDoor
open Go Go.RowKit
theorem form_b (k : Int) (w : World) (ht : FormsAt w) : Calls Tryd.prog 52 #[.int .i64 k] w (RetS (.string (formName k)) w) :=
  (form_val k w ht).mono fun e w' h => ⟨h.1, by rw [h.2]; exact Below.refl _ _⟩
theorem strinfo : Option.map (fun i => (i.zero, i.size, i.bytes)) (Tryd.prog.info? 9) = some (some (.string ⟨#[]⟩), 1, 16) := by kernel_rfl
def TxR (nm : ByteArray) (k srs : Int) (cs : List Col) (W : World) (t n : Value) (w' : World) : Prop :=
  ∃ i g capx : Nat, i ≤ cs.length ∧ n = .int .i64 i ∧ t = .slice (some ⟨g, 0, none⟩) (3 + i) capx ∧ w'.ownsRow W.heap.size 9 1 (.slice (some ⟨g, 0, none⟩) (3 + i) capx) (3 + i) ((wordsOf nm k srs (cs.take i)).map Value.string) ∧ Below W.heap.size W w'
theorem words_snoc (nm : ByteArray) (k srs : Int) (cs : List Col) (c : Col) : (wordsOf nm k srs (cs ++ [c])).map Value.string = (wordsOf nm k srs cs).map Value.string ++ [.string (ct c)] := by
  simp [wordsOf]
theorem cell_lt {w : World} {b o : Nat} {v : Value} (h : w.cell? ⟨b, o, none⟩ = some v) : b < w.heap.size := by
  rcases Nat.lt_or_ge b w.heap.size with h' | h'
  · exact h'
  · simp [World.cell?, Array.getElem?_eq_none h'] at h
theorem own_below {w w' : World} {base e s n : Nat} {v : Value} {xs : List Value} (h : w.ownsRow base e s v n xs) (hb : Below w.heap.size w w') : w'.ownsRow base e s v n xs := by
  obtain ⟨h1, h2 | ⟨g, cap, cur, hv, hg, hk, r⟩⟩ := h
  · exact ⟨h1, .inl h2⟩
  · exact ⟨h1, .inr ⟨g, cap, cur, hv, hg, (hb.block _ (Array.getElem?_eq_some_iff.1 hk).1).trans hk, r⟩⟩
theorem words_length (nm : ByteArray) (k srs : Int) (cs : List Col) : (wordsOf nm k srs cs).length = 3 + cs.length := by simp [wordsOf]; omega
theorem join_of {w : World} {base g cap : Nat} {nm : ByteArray} {k srs : Int} {cs : List Col} (h : w.ownsRow base 9 1 (.slice (some ⟨g, 0, none⟩) (3 + cs.length) cap) (3 + cs.length) ((wordsOf nm k srs cs).map Value.string))
    (hl : (Lib.join ((wordsOf nm k srs cs).map (·.data.toList)) [32]).length ≤ 2000) (hlen : cs.length ≤ 50) :
    Calls Tryd.prog 55 #[.slice (some ⟨g, 0, none⟩) (3 + cs.length) cap, .string ⟨#[32]⟩] w (RetS (.string (textB nm k srs cs)) w) := by
  have hc := h.cells (g := g) rfl
  have hlt := (h.lt g rfl).2
  have hcap : 3 + cs.length ≤ cap := by
    rcases h.2 with ⟨hv, _⟩ | ⟨g', cap', cur, hv, _, _, h3, _⟩
    · cases hv
    · injection hv with _ _ e; rw [e]; exact h3
  have hJ := Tryd.strings_Join g 0 cap (wordsOf nm k srs cs) ⟨#[32]⟩ w (fun j x hx => by
    have := hc j (.string x) (by rw [List.getElem?_map, hx]; rfl)
    have ha : (⟨g, 0, none⟩ : Addr).add j = ⟨g, 0 + j, none⟩ := by unfold Addr.add; split <;> simp_all
    rw [ha] at this; exact this) hlt (by rw [words_length]; omega) (by rw [words_length]; exact hcap) (Nat.le_trans hl (by decide))
  rw [words_length] at hJ
  exact hJ
set_option maxHeartbeats 8000000 in
theorem text_val (nm : ByteArray) (k srs : Int) (v0 : Value) (cs : List Col) (W : World) (hs : nm.size ≤ 12) (h0 : -9223372036854775808 ≤ srs) (h1 : srs ≤ 9223372036854775807) (hcs : ∀ c ∈ cs, c.1.size ≤ 12) (hlen : cs.length ≤ 50) (hv0 : ColsV W v0 cs)
    (ht : TypesAt W) (hf : FormsAt W) (hpw : PowIs W) :
    Calls Tryd.prog 21 #[schV nm k srs v0] W (RetS (.string (textB nm k srs cs)) W) := by
  obtain ⟨pa, b, o, cap, rfl, hcap, hpa, hc0⟩ := hv0
  obtain ⟨i0, hi, hz0, hz1, hz2⟩ := info_parts strinfo
  have H0 := Lib.hid hc0; clear hc0
  have HP := Lib.hid hpa; clear hpa hcap
  have HL := Lib.hid (words_len nm k srs cs hs h0 h1 hcs hlen)
  have HS := Lib.hid hcs; clear hcs
  have HT := Lib.hid ht; clear ht
  have HF := Lib.hid hf; clear hf
  have HW := Lib.hid hpw; clear hpw
  unfold schV
  by_cases hk : k = 0
  · have HK := Lib.hid (show kdName k = ⟨#[65, 78, 89]⟩ by unfold kdName; rw [if_pos hk])
    have hk1 : (k == 0) = true := by rw [beq_iff_eq]; exact hk
    clear hk
    go_enter Tryd.func21, Tryd.ntmps21
    go_wp2_with fail
    go_region_held3 (fun w' => w'.cell? ⟨W.heap.size, 0, none⟩ = some (.string nm) ∧ w'.cell? ⟨W.heap.size, 1, none⟩ = some (.int .i64 k) ∧ w'.cell? ⟨W.heap.size, 2, none⟩ = some (.int .i64 srs) ∧ w'.cell? ⟨W.heap.size, 3, none⟩ = some (.slice pa cs.length cap) ∧ Below W.heap.size W w')
      (first
        | (go_keep; done)
        | ((repeat' apply And.intro) <;> first | (go_cell; done) | (rw [World.cell?_drew]; go_cell; done) | (go_grown; done))
        | (go_split_ands; (repeat' apply And.intro) <;> first | (go_keep; done) | (go_cell; done) | (exact Below.alloc (by assumption) (Below.size (by assumption)) _))
        | (go_split_ands; (repeat' apply And.intro) <;> first | (exact cell_later hb1 (by assumption)) | (exact below_step (by assumption) hb1)))
      (first
        | (go_at_call 52; go_split_ands; refine (form_b _ _ (forms_stays HF.out (by assumption))).mono ?_; rintro e w1 ⟨rfl, hb1⟩)
        | (go_at_call 53; go_split_ands; refine (itoa_val _ h0 h1 _ (pow_stays HW.out (by assumption))).mono ?_; rintro e w1 ⟨rfl, hb1⟩))
    rename_i hH
    have y1 : w1.cell? ⟨W.heap.size, 1, none⟩ = some (.int .i64 k) := cell_later hb1 (by assumption)
    have y3 : w1.cell? ⟨W.heap.size, 3, none⟩ = some (.slice pa cs.length cap) := cell_later hb1 (by assumption)
    have hBw : Below W.heap.size W w1 := below_step (by assumption) hb1
    have hz := cell_lt y1
    clear hb1 hH
    go_wp2_with fail
    go_loopw [3, 23] (fun t n w' => TxR nm k srs cs W t n w') (fun _ n _ => cs.length - (intOf n).toNat)
    case atStart => exact ⟨0, w1.heap.size, 3, by omega, rfl, rfl, by rw [List.take_zero]; have := own_full (w := w1) (base := W.heap.size) (e := 9) #[.string nm, .string (kdName k), .string (numS srs)] 3 rfl hBw.size (by decide); rw [HK.out] at this; simpa [wordsOf, HK.out] using this, hBw.alloc hBw.size _⟩
    case round =>
      obtain ⟨i, g, capx, hi', rfl, rfl, hown, hB⟩ := hrel
      by_cases hp : i < cs.length
      · obtain rfl := HP.out (by omega)
        obtain ⟨c, hc⟩ : ∃ c, cs[i]? = some c := ⟨cs[i], List.getElem?_eq_getElem hp⟩
        have hsz := HS.out c (List.mem_of_getElem? hc)
        obtain ⟨x0, x1, x2⟩ := cols_stays H0.out hB i c hc
        have HTK := Lib.hid (take_snocL hc)
        have HCT := Lib.hid (show ct c = colText c.1 c.2.1 c.2.2 from rfl)
        clear hc
        obtain ⟨cn, ck, cm⟩ := c
        have HO := Lib.hid hown; clear hown
        dsimp only at x0 x1 x2 hsz
        go_wp2_with fail
        refine (coltext_val cn ck cm _ (by omega) (types_stays HT.out (hB.alloc hB.size _))).mono ?_
        rintro e w2 ⟨rfl, hb⟩
        have hB2 := below_step (show Below W.heap.size W _ from hB.alloc hB.size _) hb
        have HO2 := Lib.hid (own_below (HO.out.alloc _) hb)
        clear hb
        dsimp only
        go_wp2_with (at_builtin; refine wpList_append_own _ rfl _ _ 92 rfl W.heap.size 9 i0 _ 1 16 Tryd.underlying92 hi hz0 hz1 hz2 rfl (by decide) _ _ _ rfl (HO2.out.alloc _) ⟨w2.heap.size, 0, none⟩ 1 1 [.string (colText cn ck cm)] rfl rfl ?c1 ?c2 ?c3 ?c4 ?c5 ?_)
        case c1 =>
          intro j u hj
          match j, hj with
          | 0, hj => simp at hj; subst hj; simp [Addr.add]
        case c2 => intro u hu; simp at hu; subst hu; rfl
        case c3 => unfold maxLen; omega
        case c4 => omega
        case c5 => have := hB2.size; simp; omega
        intro v' w3 hown' hgrow _
        obtain ⟨g', cap', rfl⟩ : ∃ g' cap', v' = .slice (some ⟨g', 0, none⟩) (3 + i + 1) cap' := by
          rcases hown'.2 with ⟨_, h0⟩ | ⟨g', cap, cur, hv, _⟩
          · omega
          · exact ⟨g', cap, hv⟩
        have HREL := Lib.hid (show TxR nm k srs cs W (.slice (some ⟨g', 0, none⟩) (3 + i + 1) cap') (.int .i64 ((i + 1 : Nat) : Int)) w3 from
          ⟨i + 1, g', cap', by omega, rfl, rfl, by rw [HTK.out, words_snoc, HCT.out]; exact hown', (hB2.alloc hB2.size _).grown hgrow (by have := hB2.size; simp; omega) (fun q hq => (HO2.out.lt q hq).1)⟩)
        clear hown' hgrow
        go_wp2_with fail
        exact ⟨HREL.out, by simp [intOf]; omega⟩
      · obtain rfl : i = cs.length := by omega
        rw [List.take_length] at hown
        have HJ := Lib.hid (join_of hown HL.out hlen)
        clear hown
        go_wp2_with fail
        refine HJ.out.mono ?_
        rintro e w2 ⟨rfl, hb⟩
        have hB2 := below_step hB hb
        clear hb
        dsimp only
        go_wp2_with fail
        go_ret
        exact ⟨rfl, hB2⟩
  · have HK := Lib.hid (show kdName k = formName k by unfold kdName; rw [if_neg hk])
    have hk1 : (k == 0) = false := by rw [beq_eq_false_iff_ne]; exact hk
    clear hk
    go_enter Tryd.func21, Tryd.ntmps21
    go_wp2_with fail
    go_region_held3 (fun w' => w'.cell? ⟨W.heap.size, 0, none⟩ = some (.string nm) ∧ w'.cell? ⟨W.heap.size, 1, none⟩ = some (.int .i64 k) ∧ w'.cell? ⟨W.heap.size, 2, none⟩ = some (.int .i64 srs) ∧ w'.cell? ⟨W.heap.size, 3, none⟩ = some (.slice pa cs.length cap) ∧ Below W.heap.size W w')
      (first
        | (go_keep; done)
        | ((repeat' apply And.intro) <;> first | (go_cell; done) | (rw [World.cell?_drew]; go_cell; done) | (go_grown; done))
        | (go_split_ands; (repeat' apply And.intro) <;> first | (go_keep; done) | (go_cell; done) | (exact Below.alloc (by assumption) (Below.size (by assumption)) _))
        | (go_split_ands; (repeat' apply And.intro) <;> first | (exact cell_later hb1 (by assumption)) | (exact below_step (by assumption) hb1)))
      (first
        | (go_at_call 52; go_split_ands; refine (form_b _ _ (forms_stays HF.out (by assumption))).mono ?_; rintro e w1 ⟨rfl, hb1⟩)
        | (go_at_call 53; go_split_ands; refine (itoa_val _ h0 h1 _ (pow_stays HW.out (by assumption))).mono ?_; rintro e w1 ⟨rfl, hb1⟩))
    rename_i hH
    have y1 : w1.cell? ⟨W.heap.size, 1, none⟩ = some (.int .i64 k) := cell_later hb1 (by assumption)
    have y3 : w1.cell? ⟨W.heap.size, 3, none⟩ = some (.slice pa cs.length cap) := cell_later hb1 (by assumption)
    have hBw : Below W.heap.size W w1 := below_step (by assumption) hb1
    have hz := cell_lt y1
    clear hb1 hH
    go_wp2_with fail
    go_loopw [3, 23] (fun t n w' => TxR nm k srs cs W t n w') (fun _ n _ => cs.length - (intOf n).toNat)
    case atStart => exact ⟨0, w1.heap.size, 3, by omega, rfl, rfl, by rw [List.take_zero]; have := own_full (w := w1) (base := W.heap.size) (e := 9) #[.string nm, .string (kdName k), .string (numS srs)] 3 rfl hBw.size (by decide); rw [HK.out] at this; simpa [wordsOf, HK.out] using this, hBw.alloc hBw.size _⟩
    case round =>
      obtain ⟨i, g, capx, hi', rfl, rfl, hown, hB⟩ := hrel
      by_cases hp : i < cs.length
      · obtain rfl := HP.out (by omega)
        obtain ⟨c, hc⟩ : ∃ c, cs[i]? = some c := ⟨cs[i], List.getElem?_eq_getElem hp⟩
        have hsz := HS.out c (List.mem_of_getElem? hc)
        obtain ⟨x0, x1, x2⟩ := cols_stays H0.out hB i c hc
        have HTK := Lib.hid (take_snocL hc)
        have HCT := Lib.hid (show ct c = colText c.1 c.2.1 c.2.2 from rfl)
        clear hc
        obtain ⟨cn, ck, cm⟩ := c
        have HO := Lib.hid hown; clear hown
        dsimp only at x0 x1 x2 hsz
        go_wp2_with fail
        refine (coltext_val cn ck cm _ (by omega) (types_stays HT.out (hB.alloc hB.size _))).mono ?_
        rintro e w2 ⟨rfl, hb⟩
        have hB2 := below_step (show Below W.heap.size W _ from hB.alloc hB.size _) hb
        have HO2 := Lib.hid (own_below (HO.out.alloc _) hb)
        clear hb
        dsimp only
        go_wp2_with (at_builtin; refine wpList_append_own _ rfl _ _ 92 rfl W.heap.size 9 i0 _ 1 16 Tryd.underlying92 hi hz0 hz1 hz2 rfl (by decide) _ _ _ rfl (HO2.out.alloc _) ⟨w2.heap.size, 0, none⟩ 1 1 [.string (colText cn ck cm)] rfl rfl ?e1 ?e2 ?e3 ?e4 ?e5 ?_)
        case e1 =>
          intro j u hj
          match j, hj with
          | 0, hj => simp at hj; subst hj; simp [Addr.add]
        case e2 => intro u hu; simp at hu; subst hu; rfl
        case e3 => unfold maxLen; omega
        case e4 => omega
        case e5 => have := hB2.size; simp; omega
        intro v' w3 hown' hgrow _
        obtain ⟨g', cap', rfl⟩ : ∃ g' cap', v' = .slice (some ⟨g', 0, none⟩) (3 + i + 1) cap' := by
          rcases hown'.2 with ⟨_, h0⟩ | ⟨g', cap, cur, hv, _⟩
          · omega
          · exact ⟨g', cap, hv⟩
        have HREL := Lib.hid (show TxR nm k srs cs W (.slice (some ⟨g', 0, none⟩) (3 + i + 1) cap') (.int .i64 ((i + 1 : Nat) : Int)) w3 from
          ⟨i + 1, g', cap', by omega, rfl, rfl, by rw [HTK.out, words_snoc, HCT.out]; exact hown', (hB2.alloc hB2.size _).grown hgrow (by have := hB2.size; simp; omega) (fun q hq => (HO2.out.lt q hq).1)⟩)
        clear hown' hgrow
        go_wp2_with fail
        exact ⟨HREL.out, by simp [intOf]; omega⟩
      · obtain rfl : i = cs.length := by omega
        rw [List.take_length] at hown
        have HJ := Lib.hid (join_of hown HL.out hlen)
        clear hown
        go_wp2_with fail
        refine HJ.out.mono ?_
        rintro e w2 ⟨rfl, hb⟩
        have hB2 := below_step hB hb
        clear hb
        dsimp only
        go_wp2_with fail
        go_ret
        exact ⟨rfl, hB2⟩
end Go.Proofs.YtcjidlgmbjebjaaDoor

namespace Go.Proofs.YtcjidlgmbjebjaaDoor
open Go Go.RowKit
def LvS : ByteArray := ⟨#[97, 32, 80, 79, 73, 78, 84, 32, 48, 32, 110, 58, 105, 110, 116, 33]⟩
theorem num0 : numS 0 = ⟨#[48]⟩ := by
  have := numS_small 0 (by decide) (by decide)
  rw [← this]; decide
theorem lives_text : textB ⟨#[97]⟩ 1 0 [(⟨#[110]⟩, 1, true)] = LvS := by
  unfold textB wordsOf
  rw [num0]
  rfl
set_option maxHeartbeats 1000000 in
theorem lives_val (W : World) (ht : TypesAt W) (hf : FormsAt W) (hpw : PowIs W) : Calls Tryd.prog 12 #[] W (RetBool true W) := by
  have hT := types_stays ht ((Below.refl W.heap.size W).alloc (Nat.le_refl _) (.cells #[.string ⟨#[110]⟩, .int .i64 1, .bool true] 90))
  have hF := forms_stays hf ((Below.refl W.heap.size W).alloc (Nat.le_refl _) (.cells #[.string ⟨#[110]⟩, .int .i64 1, .bool true] 90))
  have hP := pow_stays hpw ((Below.refl W.heap.size W).alloc (Nat.le_refl _) (.cells #[.string ⟨#[110]⟩, .int .i64 1, .bool true] 90))
  have hv : ColsV (W.alloc (.cells #[.string ⟨#[110]⟩, .int .i64 1, .bool true] 90)) (.slice (some ⟨W.heap.size, 0, none⟩) 1 1) [(⟨#[110]⟩, 1, true)] :=
    ⟨_, W.heap.size, 0, 1, rfl, Nat.le_refl _, fun _ => rfl, fun i c hc => by
      match i, hc with
      | 0, hc => simp at hc; subst hc; exact ⟨by simp, by simp, by simp⟩⟩
  have hx := text_val ⟨#[97]⟩ 1 0 _ [(⟨#[110]⟩, 1, true)] _ (by decide) (by decide) (by decide) (by intro c hc; simp at hc; subst hc; decide) (by decide) hv hT hF hP
  rw [lives_text] at hx
  have HX := Lib.hid hx
  clear hx hv hT hF hP ht hf hpw
  unfold schV LvS at HX
  go_enter Tryd.func12, Tryd.ntmps12
  go_wp2_with fail
  refine HX.out.mono ?_
  rintro e w1 ⟨rfl, hb⟩
  have hB := below_step (show Below W.heap.size W _ from by go_grown) hb
  clear hb
  dsimp only
  go_wp2_with fail
  go_ret
  exact ⟨rfl, hB⟩
def wantOf (l : List UInt8) : Nat → Int
  | 0 => 0
  | 1 => if l = [105, 110, 116] then 1 else 0
  | 2 => if l = [116, 101, 120, 116] then 2 else if l = [105, 110, 116] then 1 else 0
  | _ => if l = [102, 108, 97, 103] then 3 else if l = [116, 101, 120, 116] then 2 else if l = [105, 110, 116] then 1 else 0
theorem wantOf_3 (l : List UInt8) : wantOf l 3 = typeOf l := by
  unfold wantOf typeOf
  by_cases h1 : l = [105, 110, 116]
  · subst h1; simp
  · by_cases h2 : l = [116, 101, 120, 116]
    · subst h2; simp
    · by_cases h3 : l = [102, 108, 97, 103]
      · subst h3; simp
      · simp [h1, h2, h3]
theorem nm_size {s : ByteArray} (h : Utf.nmOk s = true) : s.size ≤ 12 := by
  unfold Utf.nmOk at h; simp at h; omega
theorem good_facts {nm : ByteArray} {k srs : Int} {cs : List Col} (h : goodSch nm k srs cs = 0) : nm.size ≤ 12 ∧ -9223372036854775808 ≤ srs ∧ srs ≤ 9223372036854775807 ∧ (∀ c ∈ cs, c.1.size ≤ 12 ∧ 1 ≤ c.2.1 ∧ c.2.1 ≤ 3) := by
  cases hh : headOk nm k srs cs.length with
  | false => rw [good_head hh] at h; cases h
  | true =>
    rw [good_tail hh] at h
    cases ha : allOk cs with
    | false => rw [ha] at h; cases h
    | true =>
      unfold headOk at hh
      simp only [Bool.and_eq_true, decide_eq_true_eq] at hh
      refine ⟨nm_size hh.1, by omega, by omega, fun c hc => ?_⟩
      obtain ⟨i, hi, rfl⟩ := List.getElem_of_mem hc
      unfold allOk at ha
      have h1 := List.all_eq_true.1 ha i (List.mem_range.2 hi)
      unfold okAt at h1
      rw [List.getElem?_eq_getElem hi] at h1
      dsimp only at h1
      rw [Bool.and_eq_true] at h1
      have h2 := h1.1
      unfold colOk at h2
      simp only [Bool.and_eq_true, decide_eq_true_eq] at h2
      exact ⟨nm_size h2.1, h2.2.1, h2.2.2⟩
theorem colsV_shape {w : World} {v : Value} {cs : List Col} (h : ColsV w v cs) : ∃ p n c, v = .slice p n c := by
  obtain ⟨pa, b, o, cap, hv, _⟩ := h; exact ⟨_, _, _, hv⟩
theorem colsV_drew {w : World} {v : Value} {cs : List Col} (h : ColsV w v cs) : ColsV w.drew v cs := by
  obtain ⟨pa, b, o, cap, hv, h1, h2, h3⟩ := h
  exact ⟨pa, b, o, cap, hv, h1, h2, fun i c hc => by
    obtain ⟨a, b, c⟩ := h3 i c hc
    exact ⟨by rw [World.cell?_drew]; exact a, by rw [World.cell?_drew]; exact b, by rw [World.cell?_drew]; exact c⟩⟩
end Go.Proofs.YtcjidlgmbjebjaaDoor

namespace Go.Proofs.YtcjidlgmbjebjaaDoor.sa
open Go Go.ChangeShapes Go.WideShapes Go.RowKit Go.Joins
theorem c3 : Tryd.prog.cellsOf 3 = 1 := by kernel_rfl
theorem c9 : Tryd.prog.cellsOf 9 = 1 := by kernel_rfl
theorem c4 : Tryd.prog.cellsOf 4 = 1 := by kernel_rfl
theorem c22 : Tryd.prog.cellsOf 22 = 1 := by kernel_rfl
theorem c24 : Tryd.prog.cellsOf 24 = 4 := by kernel_rfl
theorem c90 : Tryd.prog.cellsOf 90 = 3 := by kernel_rfl
theorem c93 : Tryd.prog.cellsOf 93 = 4 := by kernel_rfl
theorem c167 : Tryd.prog.cellsOf 167 = 2 := by kernel_rfl
theorem c168 : Tryd.prog.cellsOf 168 = 16 := by kernel_rfl
theorem array4 {α : Type} {cs : Array α} (h : cs.size = 4) : ∃ c0 c1 c2 c3, cs = #[c0, c1, c2, c3] := by
  obtain ⟨l⟩ := cs
  match l, h with
  | [c0, c1, c2, c3], _ => exact ⟨c0, c1, c2, c3, rfl⟩
theorem list3 {α : Type} {cs : List α} (h : cs.length = 3) : ∃ c0 c1 c2, cs = [c0, c1, c2] := by
  match cs, h with
  | [c0, c1, c2], _ => exact ⟨c0, c1, c2, rfl⟩
theorem gather {P : Nat → Col → Prop} {len : Nat} (h : ∀ i, i < len → ∃ c, P i c) : ∀ n, n ≤ len → ∃ l : List Col, l.length = n ∧ ∀ i c, l[i]? = some c → P i c
  | 0, _ => ⟨[], rfl, fun i c hc => by simp at hc⟩
  | n + 1, hn => by
    obtain ⟨l, hl, hp⟩ := gather h n (by omega)
    obtain ⟨c, hc⟩ := h n (by omega)
    refine ⟨l ++ [c], by simp [hl], fun i d hd => ?_⟩
    by_cases hi : i < n
    · rw [List.getElem?_append_left (by omega)] at hd
      exact hp i d hd
    · have hlt : i < (l ++ [c]).length := (List.getElem?_eq_some_iff.1 hd).1
      have : i = n := by simp [hl] at hlt; omega
      subst this
      rw [List.getElem?_append_right (by omega), hl] at hd
      simp at hd
      subst hd
      exact hc
section
variable {H : Type} {enc : TypeId × Value → H} {W : World} {b0 : Nat} {sp : Nat → Bool} {held : Bool}
theorem open_cols {n : Nat} {c : Value} {y : DataW H × List MemPlace} (h : DataW.trod enc Tryd.prog W b0 sp held n 22 [c] = some y) : ∃ cs : List Col, ColsV W c cs ∧ cs.length ≤ 9223372036854775807 ∧ ∀ d ∈ cs, d.1.size ≤ 9223372036854775807 := by
  rcases DataW.trod_slice Tryd.underlying22 h with ⟨hc, _⟩ | ⟨a, len, cap, elems, rest, m, _, hc, _, hb, hl, hcap, he, hel, _⟩
  · exact ⟨[], ⟨none, 0, 0, 0, by simpa using hc, Nat.le_refl _, fun h => absurd h (by simp), fun i d hd => by simp at hd⟩, by simp, fun d hd => by simp at hd⟩
  · have hcap : cap ≤ 9223372036854775807 := hcap
    rw [c90] at hel
    have hcell : ∀ i, i < len → ∃ d : Col, d.1.size ≤ 9223372036854775807 ∧ W.cell? ((a.add (i * 3)).add 0) = some (.string d.1) ∧ W.cell? ((a.add (i * 3)).add 1) = some (.int .i64 d.2.1) ∧ W.cell? ((a.add (i * 3)).add 2) = some (.bool d.2.2) := fun i hi => by
      have h1 := hel i hi
      rw [List.getElem?_eq_getElem (by omega)] at h1
      obtain ⟨cs, h2, h3⟩ := Option.bind_eq_some_iff.1 h1
      obtain ⟨_, hlen, hcs⟩ := World.cells?_some h2
      obtain ⟨y0, y1, y2, n', _, hl3, f0, f1, f2⟩ := Go.Deep.trod_struct3 Tryd.underlying90 h3
      rw [c90] at hl3
      obtain ⟨x0, x1, x2, rfl⟩ := list3 hl3
      simp only [c3, c4, c9, List.drop_zero, List.drop_succ_cons, List.take_succ_cons, List.take_zero] at f0 f1 f2
      obtain ⟨s, e0, _, hs⟩ := DataW.trod_string Tryd.underlying9 f0
      obtain ⟨kk, e1, _, _⟩ := DataW.trod_int Tryd.underlying3 f1
      obtain ⟨mm, e2, _⟩ := DataW.trod_bool Tryd.underlying4 f2
      simp only [List.cons.injEq, and_true] at e0 e1 e2
      subst e0 e1 e2
      exact ⟨(s, kk, mm), hs, hcs 0 (by omega), hcs 1 (by omega), hcs 2 (by omega)⟩
    obtain ⟨l, hll, hlp⟩ := gather hcell len (Nat.le_refl _)
    obtain ⟨cb, co, spot⟩ := a
    have hsp : 0 < len → spot = none := fun h0 => by
      obtain ⟨d, hd⟩ : ∃ d, l[0]? = some d := ⟨l[0]'(by omega), List.getElem?_eq_getElem (by omega)⟩
      obtain ⟨_, g, _⟩ := hlp 0 d hd
      simpa [Addr.add] using World.cell?_spot g
    refine ⟨l, ⟨some ⟨cb, co, spot⟩, cb, co, cap, by rw [hll]; simpa using hc, by omega, fun h0 => by rw [hsp (by omega)], fun i d hd => ?_⟩, by omega, fun d hd => ?_⟩
    · obtain ⟨_, g0, g1, g2⟩ := hlp i d hd
      have hi : i < len := by have := (List.getElem?_eq_some_iff.1 hd).1; omega
      have hspot := hsp (by omega)
      subst hspot
      have hadd : ∀ j, ((⟨cb, co, none⟩ : Addr).add (i * 3)).add j = ⟨cb, co + i * 3 + j, none⟩ := fun j => by
        unfold Addr.add
        split <;> split <;> simp_all <;> omega
      rw [hadd] at g0 g1 g2
      exact ⟨g0, g1, g2⟩
    · obtain ⟨i, hi, rfl⟩ := List.getElem_of_mem hd
      exact (hlp i _ (List.getElem?_eq_getElem hi)).1
theorem open_sch {r : Reach} {v : Value} {d : DataW H} {p : List MemPlace} (hv : Value.okWide Tryd.prog W r b0 24 v) (h : DataW.Trod enc Tryd.prog W 0 sp held 24 v d p) :
    ∃ (nm : ByteArray) (k srs : Int) (c : Value) (cs : List Col), v = schV nm k srs c ∧ nm.size ≤ 9223372036854775807 ∧ ColsV W c cs ∧ cs.length ≤ 9223372036854775807 ∧ ∀ d ∈ cs, d.1.size ≤ 9223372036854775807 := by
  obtain ⟨cs, rfl, hsz⟩ := okWide_struct Tryd.underlying24 hv
  obtain ⟨v0, v1, v2, v3, rfl⟩ := array4 (hsz.trans c24)
  obtain ⟨fuel, hf⟩ := h
  obtain ⟨z0, z1, z2, z3, m, _, _, k0, k1, k2, k3⟩ := trod_struct4 Tryd.underlying24 hf
  simp only [Value.cells, c3, c9, c22, List.drop_zero, List.drop_succ_cons, List.take_succ_cons, List.take_zero] at k0 k1 k2 k3
  obtain ⟨sn, e3, _, hs⟩ := DataW.trod_string Tryd.underlying9 k0
  obtain ⟨sk, e4, _, _⟩ := DataW.trod_int Tryd.underlying3 k1
  obtain ⟨sr, e5, _, _⟩ := DataW.trod_int Tryd.underlying3 k2
  obtain ⟨cs, hco, hl, hz⟩ := open_cols k3
  simp only [List.cons.injEq, and_true] at e3 e4 e5
  subst e3 e4 e5
  exact ⟨sn, sk, sr, _, cs, rfl, hs, hco, hl, hz⟩
theorem open_name {r : Reach} {v : Value} {d : DataW H} {p : List MemPlace} (hv : Value.okWide Tryd.prog W r b0 9 v) (h : DataW.Trod enc Tryd.prog W 0 sp held 9 v d p) : ∃ s : ByteArray, v = .string s ∧ s.size ≤ 9223372036854775807 := by
  obtain ⟨s, rfl⟩ := okWide_string Tryd.underlying9 hv
  obtain ⟨fuel, hf⟩ := h
  obtain ⟨s', e, _, hs⟩ := DataW.trod_string Tryd.underlying9 hf
  simp [Value.cells] at e
  subst e
  exact ⟨s, rfl, hs⟩
end
end Go.Proofs.YtcjidlgmbjebjaaDoor.sa

namespace Go.Proofs.YtcjidlgmbjebjaaDoor.sa
open Go Go.ChangeShapes Go.WideShapes Go.RowKit Go.Joins
section
variable {H : Type} {enc : TypeId × Value → H} {P : Program} {w : World} {base : Nat} {sp : Nat → Bool} {held : Bool} {fuel : Nat}
theorem str_at {t e n : Nat} {cs : List Value} {ds : List (DataW H)} {ps : List MemPlace} (ht : P.underlying t = some (.array n e)) (he : P.underlying e = some .string) (hc : P.cellsOf e = 1) (hC : P.cellsOf t = n)
    (h : DataW.trod enc P w base sp held fuel t cs = some (.agg ds, ps)) (i : Nat) (z : List UInt8) (hd : ds[i]? = some (.lit (.string z))) : cs[i]? = some (.string ⟨z.toArray⟩) := by
  obtain ⟨xs, m, rfl, hx, hl, hn, hi⟩ := DataW.trod_array ht h
  simp only [Prod.mk.injEq, DataW.agg.injEq] at hx
  obtain ⟨rfl, _⟩ := hx
  rw [List.getElem?_map] at hd
  obtain ⟨y, hy, hy2⟩ := Option.map_eq_some_iff.1 hd
  have hin : i < n := by have := (List.getElem?_eq_some_iff.1 hy).1; omega
  have h1 := hi i hin
  rw [hc, Nat.mul_one, hy] at h1
  have hci : i < cs.length := by omega
  have h2 : (cs.drop i).take 1 = [cs[i]] := by rw [List.drop_eq_getElem_cons hci, List.take_succ_cons, List.take_zero]
  rw [h2] at h1
  obtain ⟨s, hs, hy3, _⟩ := DataW.trod_string he h1
  simp only [List.cons.injEq, and_true] at hs
  rw [List.getElem?_eq_getElem hci, hs]
  rw [hy3] at hy2
  simp only [DataW.lit.injEq, Lit.string.injEq] at hy2
  rw [← hy2]
theorem form_at {t e n : Nat} {f0 f1 : Field} {cs : List Value} {ds : List (DataW H)} {ps : List MemPlace} (ht : P.underlying t = some (.array n e)) (he : P.underlying e = some (.struct #[f0, f1])) (h0 : P.underlying f0.type = some .string) (ho : f0.offset = 0) (hc0 : P.cellsOf f0.type = 1)
    (hc : P.cellsOf e = 2) (hC : P.cellsOf t = n * 2) (h : DataW.trod enc P w base sp held fuel t cs = some (.agg ds, ps)) (i : Nat) (z : List UInt8) (d1 : DataW H) (hd : ds[i]? = some (.agg [.lit (.string z), d1])) : cs[i * 2]? = some (.string ⟨z.toArray⟩) := by
  obtain ⟨xs, m, rfl, hx, hl, hn, hi⟩ := DataW.trod_array ht h
  simp only [Prod.mk.injEq, DataW.agg.injEq] at hx
  obtain ⟨rfl, _⟩ := hx
  rw [List.getElem?_map] at hd
  obtain ⟨y, hy, hy2⟩ := Option.map_eq_some_iff.1 hd
  have hin : i < n := by have := (List.getElem?_eq_some_iff.1 hy).1; omega
  have h1 := hi i hin
  rw [hc, hy] at h1
  obtain ⟨y0, y1, k, rfl, _, g0, _⟩ := trod_struct2 he h1
  rw [ho, hc0, List.drop_zero] at g0
  have hci : i * 2 < cs.length := by omega
  have h2 : ((cs.drop (i * 2)).take 2).take 1 = [cs[i * 2]] := by rw [List.drop_eq_getElem_cons hci, List.take_succ_cons, List.take_succ_cons, List.take_zero]
  rw [h2] at g0
  obtain ⟨s, hs, hy3, _⟩ := DataW.trod_string h0 g0
  simp only [List.cons.injEq, and_true] at hs
  rw [List.getElem?_eq_getElem hci, hs]
  rw [hy3] at hy2
  simp only [DataW.agg.injEq, List.cons.injEq, DataW.lit.injEq, Lit.string.injEq] at hy2
  rw [← hy2.1]
end
abbrev laidL : List (String × DataW Unit) := [("math/bits.deBruijn32tab", Rows.laid_math_bits_deBruijn32tab), ("math/bits.deBruijn64tab", Rows.laid_math_bits_deBruijn64tab), ("internal/strconv.uint64pow10", Rows.laid_internal_strconv_uint64pow10), ("hachure/shape.forms", Rows.laid_hachure_shape_forms), ("hachure/schema.types", Rows.laid_hachure_schema_types)]
theorem tabP : Tryd.prog.globalNamed "internal/strconv.uint64pow10" = some 4 := by kernel_rfl
theorem tabPType : (Tryd.prog.globals[4]?).map (·.type) = some 266 := by kernel_rfl
theorem tabF : Tryd.prog.globalNamed "hachure/shape.forms" = some 1 := by kernel_rfl
theorem tabFType : (Tryd.prog.globals[1]?).map (·.type) = some 168 := by kernel_rfl
theorem tabT : Tryd.prog.globalNamed "hachure/schema.types" = some 0 := by kernel_rfl
theorem tabTType : (Tryd.prog.globals[0]?).map (·.type) = some 93 := by kernel_rfl
theorem tabs_are {W : World} (h : laidMet Tryd.prog laidL W) : PowIs W ∧ FormsAt W ∧ TypesAt W := by
  obtain ⟨ps, h0, _⟩ := h
  obtain ⟨_, _, _, _, _, _, _, _, _, _, h1, _⟩ := h0
  obtain ⟨_, _, _, _, _, _, _, _, _, _, h2, _⟩ := h1
  obtain ⟨g, t, cs, fuel, p, q, hg, ht, hvar, hd, h3, _⟩ := h2
  obtain ⟨g', t', cs', fuel', p', q', hg', ht', hvar', hd', h4, _⟩ := h3
  obtain ⟨g2, t2, cs2, fuel2, p2, q2, hg2, ht2, hvar2, hd2, _, _⟩ := h4
  obtain rfl := Option.some.inj (tabP.symm.trans hg)
  obtain rfl := Option.some.inj (tabPType.symm.trans ht)
  obtain rfl := Option.some.inj (tabF.symm.trans hg')
  obtain rfl := Option.some.inj (tabFType.symm.trans ht')
  obtain rfl := Option.some.inj (tabT.symm.trans hg2)
  obtain rfl := Option.some.inj (tabTType.symm.trans ht2)
  refine ⟨?_, ?_, ?_⟩
  · unfold PowIs Lib.TabIs
    rw [hvar, ← Lib.cells_of_tab (k := .u64) (zs := Lib.pow10Tab) Tryd.underlying266 (by kernel_rfl) (by kernel_rfl) (by kernel_rfl) hd]
  · have hc := fun i => World.var?_cell tabF hvar' i
    have hf := fun i z d1 h => form_at (P := Tryd.prog) (i := i) (z := z) (d1 := d1) Tryd.underlying168 Tryd.underlying167 Tryd.underlying9 rfl c9 c167 c168 hd' h
    have hg := fun i z d1 h => (hc (i * 2)).trans ((Array.getElem?_toList).symm.trans (hf i z d1 h))
    exact ⟨hg 1 _ _ rfl, hg 2 _ _ rfl, hg 3 _ _ rfl, hg 4 _ _ rfl, hg 5 _ _ rfl, hg 6 _ _ rfl, hg 7 _ _ rfl⟩
  · have hc := fun i => World.var?_cell tabT hvar2 i
    have hf := fun i z h => str_at (P := Tryd.prog) (i := i) (z := z) Tryd.underlying93 Tryd.underlying9 c9 c93 hd2 h
    have hg := fun i z h => (hc i).trans ((Array.getElem?_toList).symm.trans (hf i z h))
    exact ⟨hg 0 _ rfl, hg 1 _ rfl, hg 2 _ rfl, hg 3 _ rfl⟩
end Go.Proofs.YtcjidlgmbjebjaaDoor.sa
