/- A part of the proof of ValueBack. -/
import Derived.Test.YtcjidlgmbjebjaaDoorVba
import Derived.Test.YtcjidlgmbjebjaaDoorVbb
import Derived.Laws.BitsLemmas
import GoSem.Step
import Derived.Test.YtcjidlgmbjebjaaDoorProg
import Derived.WalkKit
import Derived.WalkSpells
import Derived.WalkLawsBesides
import Derived.Below
import Derived.Outline
import Derived.Lib.Hide
import Derived.LoopTactic
import Derived.Tactics
import Derived.Tactics2
import Derived.StillTactics
import Derived.OwnWalk
import Derived.Deep.RegionHeld3
import Derived.KernelRfl
import Derived.Handy
import Derived.Laws.RangeAny
import Derived.Laws.Strings3
import Derived.Laws.RangeString
import Derived.Laws.Runes
import Derived.Lib.Strings
import Derived.Lib.ItoaLen
import Derived.Laws.PanicsMore
import Derived.Shelf.Strings.Builder1
import Derived.Shelf.Strings.Builder2
import Derived.Shelf.Strconv.Itoa0
import Derived.Shelf.Strconv.Itoa1
import Derived.Shelf.LaysM
import Derived.Shelf.Strconv.Itoa2
import Derived.Shelf.Strconv.Itoa3
set_option linter.unusedVariables false
set_option linter.unusedSimpArgs false
set_option maxRecDepth 100000
namespace Go.Proofs.YtcjidlgmbjebjaaDoor
open Go Go.RowKit Go.Proofs.YtcjidlgmbjebjaaDoorW.PrintWords Go.Proofs.YtcjidlgmbjebjaaDoorW.PrintMore
def u8s (l : List Int) : List Value := l.map (Value.int .u8)
def Row (w : World) (base : Nat) (v : Value) (l : List Int) : Prop := w.ownsRow base 5 1 v l.length (u8s l)
theorem row_of_R {w : World} {base : Nat} {ok : Nat → Prop} {v : Value} {l : List Int} (h : Kd.R (Kd.int .u8) 5 w base ok v l) : Row w base v l := by
  obtain ⟨_, inner, ho, hl, hr⟩ := h
  have : inner = u8s l := by
    have hl1 : inner.length = l.length * 1 := hl
    apply List.ext_getElem?
    intro j
    unfold u8s
    rw [List.getElem?_map]
    by_cases hj : j < l.length
    · have h1 := hr j l[j] (List.getElem?_eq_getElem hj)
      have h2 : (inner.drop (j * 1)).take 1 = [.int .u8 l[j]] := h1
      rw [Nat.mul_one, List.drop_eq_getElem_cons (by omega), List.take_succ_cons, List.take_zero] at h2
      injection h2 with h3
      rw [List.getElem?_eq_getElem (by omega), h3, List.getElem?_eq_getElem hj]
      rfl
    · rw [List.getElem?_eq_none (by omega), List.getElem?_eq_none (by omega)]; rfl
  unfold Row
  rw [← this]
  exact ho
theorem row_C {w : World} {base n c : Nat} {A : Option Addr} {l : List Int} (h : Row w base (.slice A n c) l) (hm : l.length ≤ 9223372036854775807) : n = l.length ∧ l.length ≤ c ∧ Kd.C (Kd.int .u8) w A l.length l := by
  unfold Row at h
  have h0 := h
  rcases h.2 with ⟨hv, h1⟩ | ⟨g, cap, cur, hv, hg, hk, hcap, _⟩
  · injection hv with e1 e2 e3
    refine ⟨by omega, by omega, rfl, hm, fun h => by omega⟩
  · injection hv with e1 e2 e3
    subst e1 e2 e3
    refine ⟨rfl, hcap, rfl, hm, fun hn => ⟨_, rfl, fun j p hp => ⟨[.int .u8 p], rfl, rfl, fun i u hu => ?_⟩⟩⟩
    have hi : i = 0 := by
      have := (List.getElem?_eq_some_iff.1 hu).1
      simp at this
      exact this
    subst hi
    simp at hu
    subst hu
    have := h0.cells (g := g) rfl j (.int .u8 p) (by unfold u8s; rw [List.getElem?_map, hp]; rfl)
    show w.cell? (Addr.add ⟨g, 0, none⟩ (j * 1 + 0)) = _
    rw [Nat.mul_one, Nat.add_zero]
    exact this
def RetRow (l : List Int) (w : World) (e : Ending) (w' : World) : Prop := ∃ v, e = .returned v ∧ Row w' w.heap.size v l ∧ Below w.heap.size w w'
def varB (n : Int) : List Int := if n < 128 then [n] else if n < 16384 then [n / 128 % 128 + 128, n % 128] else [n / 16384 % 128 + 128, n / 128 % 128 + 128, n % 128]
theorem or128 (x : Int) (h0 : 0 ≤ x) (h1 : x < 256) : bits .or .u8 x 128 = x % 128 + 128 := by
  have h : ∀ k : Fin 256, bits .or .u8 (k.val : Int) 128 = (k.val : Int) % 128 + 128 := by decide
  have := h ⟨x.toNat, by omega⟩
  rwa [show ((⟨x.toNat, by omega⟩ : Fin 256).val : Int) = x by simp; omega] at this
theorem andNot128 (x : Int) (h0 : 0 ≤ x) (h1 : x < 256) : bits .andNot .u8 x 128 = x % 128 := by
  have h : ∀ k : Fin 256, bits .andNot .u8 (k.val : Int) 128 = (k.val : Int) % 128 := by decide
  have := h ⟨x.toNat, by omega⟩
  rwa [show ((⟨x.toNat, by omega⟩ : Fin 256).val : Int) = x by simp; omega] at this
theorem shr7 (x : Int) : shr .u64 x 7 = x / 128 := by unfold shr; rfl
theorem shr14 (x : Int) : shr .u64 x 14 = x / 16384 := by unfold shr; rfl
theorem shr21 (x : Int) : shr .u64 x 21 = x / 2097152 := by unfold shr; rfl
theorem w11 : wrap64 (1 + 1) = 2 := by kernel_rfl
theorem w21 : wrap64 (2 + 1) = 3 := by kernel_rfl
theorem w10 : wrap64 (1 - 1) = 0 := by kernel_rfl
end Go.Proofs.YtcjidlgmbjebjaaDoor

namespace Go.Proofs.YtcjidlgmbjebjaaDoor
open Go Go.RowKit Go.Proofs.YtcjidlgmbjebjaaDoorW.PrintWords Go.Proofs.YtcjidlgmbjebjaaDoorW.PrintMore
def putB (n : Int) : List Int := [n / 72057594037927936 % 256, n / 281474976710656 % 256, n / 1099511627776 % 256, n / 4294967296 % 256, n / 16777216 % 256, n / 65536 % 256, n / 256 % 256, n % 256]
theorem size_1 (n : Int) (h0 : 0 ≤ n) (h1 : n < 128) (k : Nat) : PValueForms.octet_Size.f (k + 3) n = some 1 := by
  unfold PValueForms.octet_Size.f
  rw [PValueForms.octet_Size.l0, if_pos (by decide), show wrap64 (7 * 1) = 7 by kernel_rfl, if_pos (by decide), shr7, if_pos (by omega)]
theorem size_2 (n : Int) (h0 : 128 ≤ n) (h1 : n < 16384) (k : Nat) : PValueForms.octet_Size.f (k + 3) n = some 2 := by
  unfold PValueForms.octet_Size.f
  rw [PValueForms.octet_Size.l0, if_pos (by decide), show wrap64 (7 * 1) = 7 by kernel_rfl, if_pos (by decide), shr7, if_neg (by omega), w11]
  rw [PValueForms.octet_Size.l0, if_pos (by decide), show wrap64 (7 * 2) = 14 by kernel_rfl, if_pos (by decide), shr14, if_pos (by omega)]
theorem size_3 (n : Int) (h0 : 16384 ≤ n) (h1 : n < 2097152) (k : Nat) : PValueForms.octet_Size.f (k + 3) n = some 3 := by
  unfold PValueForms.octet_Size.f
  rw [PValueForms.octet_Size.l0, if_pos (by decide), show wrap64 (7 * 1) = 7 by kernel_rfl, if_pos (by decide), shr7, if_neg (by omega), w11]
  rw [PValueForms.octet_Size.l0, if_pos (by decide), show wrap64 (7 * 2) = 14 by kernel_rfl, if_pos (by decide), shr14, if_neg (by omega), w21]
  rw [PValueForms.octet_Size.l0, if_pos (by decide), show wrap64 (7 * 3) = 21 by kernel_rfl, if_pos (by decide), shr21, if_pos (by omega)]
end Go.Proofs.YtcjidlgmbjebjaaDoor

namespace Go.Proofs.YtcjidlgmbjebjaaDoor.Ord
open Go
end Go.Proofs.YtcjidlgmbjebjaaDoor.Ord

namespace Go.Proofs.YtcjidlgmbjebjaaDoor
open Go Go.RowKit
end Go.Proofs.YtcjidlgmbjebjaaDoor

namespace Go.Proofs.YtcjidlgmbjebjaaDoor
open Go Go.RowKit
end Go.Proofs.YtcjidlgmbjebjaaDoor

namespace Go.Proofs.YtcjidlgmbjebjaaDoor
open Go Go.RowKit
end Go.Proofs.YtcjidlgmbjebjaaDoor

namespace Go.Proofs.YtcjidlgmbjebjaaDoor
open Go Go.RowKit
theorem below_step {W w w' : World} (h1 : Below W.heap.size W w) (h2 : Below w.heap.size w w') : Below W.heap.size W w' := h1.trans (h2.mono h1.size)
def RetBool (b : Bool) (W : World) (e : Ending) (w' : World) : Prop := e = .returned (.bool b) ∧ Below W.heap.size W w'
def TrueBelow (W : World) (e : Ending) (w' : World) : Prop := e = .returned (.bool true) ∧ Below W.heap.size W w'
end Go.Proofs.YtcjidlgmbjebjaaDoor

namespace Go.Proofs.YtcjidlgmbjebjaaDoor.Utf
open Go
def byt (s : ByteArray) (i : Nat) : Nat := (s.get! i).toNat
theorem byt_lt (s : ByteArray) (i : Nat) : byt s i < 256 := (s.get! i).toNat_lt
def kOf (c : Nat) : Nat := if c < 128 then 0 else if c < 224 then 1 else if c < 240 then 2 else 3
def leastOf (c : Nat) : Nat := if c < 128 then 0 else if c < 224 then 128 else if c < 240 then 2048 else 65536
def startOf (c : Nat) : Nat := if c < 128 then c else if c < 224 then c % 32 else if c < 240 then c % 16 else c % 8
def okHead (c : Nat) : Bool := decide (c < 128) || (decide (194 ≤ c) && decide (c < 245))
def cont (s : ByteArray) (i : Nat) : Bool := decide (i < s.size) && byt s i / 64 == 2
def val (s : ByteArray) (i r : Nat) : Nat → Nat
  | 0 => r
  | n + 1 => val s i r n * 64 + byt s (i + (n + 1)) % 64
def conts (s : ByteArray) (i : Nat) : Nat → Bool
  | 0 => true
  | n + 1 => conts s i n && cont s (i + (n + 1))
def okRune (c r : Nat) : Bool := decide (leastOf c ≤ r) && decide (r ≤ 1114111) && !(decide (55296 ≤ r) && decide (r ≤ 57343))
def okStep (s : ByteArray) (i : Nat) : Bool :=
  okHead (byt s i) && conts s i (kOf (byt s i)) && okRune (byt s i) (val s i (startOf (byt s i)) (kOf (byt s i)))
def fffd (s : ByteArray) (i : Nat) : Bool := decide (i + 2 < s.size) && byt s i == 239 && byt s (i + 1) == 191 && byt s (i + 2) == 189
def bad (s : ByteArray) (i : Nat) : Bool := (Utf8.decode s i).1 == 65533 && !fffd s i
theorem valid_iff (c : Nat) : Utf8.valid (c : Int) = true ↔ c < 55296 ∨ (57344 ≤ c ∧ c ≤ 1114111) := by
  unfold Utf8.valid
  simp only [Bool.or_eq_true, Bool.and_eq_true, decide_eq_true_eq]
  omega
theorem decode_eq (s : ByteArray) (i : Nat) : Utf8.decode s i =
    if byt s i < 128 then (byt s i, 1)
    else if (byt s i / 32 == 6 && cont s (i + 1)) = true then
      if byt s i % 32 * 64 + byt s (i + 1) % 64 ≥ 128 then (byt s i % 32 * 64 + byt s (i + 1) % 64, 2) else (65533, 1)
    else if (byt s i / 16 == 14 && cont s (i + 1) && cont s (i + 2)) = true then
      if (decide (byt s i % 16 * 4096 + byt s (i + 1) % 64 * 64 + byt s (i + 2) % 64 ≥ 2048) && Utf8.valid (byt s i % 16 * 4096 + byt s (i + 1) % 64 * 64 + byt s (i + 2) % 64 : Nat)) = true
      then (byt s i % 16 * 4096 + byt s (i + 1) % 64 * 64 + byt s (i + 2) % 64, 3) else (65533, 1)
    else if (byt s i / 8 == 30 && cont s (i + 1) && cont s (i + 2) && cont s (i + 3)) = true then
      if (decide (byt s i % 8 * 262144 + byt s (i + 1) % 64 * 4096 + byt s (i + 2) % 64 * 64 + byt s (i + 3) % 64 ≥ 65536) && Utf8.valid (byt s i % 8 * 262144 + byt s (i + 1) % 64 * 4096 + byt s (i + 2) % 64 * 64 + byt s (i + 3) % 64 : Nat)) = true
      then (byt s i % 8 * 262144 + byt s (i + 1) % 64 * 4096 + byt s (i + 2) % 64 * 64 + byt s (i + 3) % 64, 4) else (65533, 1)
    else (65533, 1) := rfl
theorem step_eq (s : ByteArray) (i : Nat) : okStep s i = !bad s i ∧ (okStep s i = true → (Utf8.decode s i).2 = kOf (byt s i) + 1) := by
  have l0 := byt_lt s i
  have l1 := byt_lt s (i + 1)
  have l2 := byt_lt s (i + 2)
  have l3 := byt_lt s (i + 3)
  have hc1 : cont s (i + 1) = true ↔ i + 1 < s.size ∧ byt s (i + 1) / 64 = 2 := by unfold cont; simp
  have hc2 : cont s (i + 2) = true ↔ i + 2 < s.size ∧ byt s (i + 2) / 64 = 2 := by unfold cont; simp
  have hc3 : cont s (i + 3) = true ↔ i + 3 < s.size ∧ byt s (i + 3) / 64 = 2 := by unfold cont; simp
  have hf : fffd s i = true ↔ i + 2 < s.size ∧ byt s i = 239 ∧ byt s (i + 1) = 191 ∧ byt s (i + 2) = 189 := by unfold fffd; simp [and_assoc]
  have hb : bad s i = true ↔ (Utf8.decode s i).1 = 65533 ∧ ¬ fffd s i = true := by unfold bad; simp
  have hor : ∀ c r, okRune c r = true ↔ leastOf c ≤ r ∧ r ≤ 1114111 ∧ ¬ (55296 ≤ r ∧ r ≤ 57343) := fun c r => by unfold okRune; simp [and_assoc]; omega
  have hoh : okHead (byt s i) = true ↔ byt s i < 128 ∨ (194 ≤ byt s i ∧ byt s i < 245) := by unfold okHead; simp
  have hos : okStep s i = true ↔ okHead (byt s i) = true ∧ conts s i (kOf (byt s i)) = true ∧ okRune (byt s i) (val s i (startOf (byt s i)) (kOf (byt s i))) = true := by unfold okStep; simp [and_assoc]
  have key : (okStep s i = true ↔ ¬ bad s i = true) ∧ (okStep s i = true → (Utf8.decode s i).2 = kOf (byt s i) + 1) := by
    rw [hb, hf, hos, hor, hoh, decode_eq]
    have v1 : ∀ r, val s i r 1 = r * 64 + byt s (i + 1) % 64 := fun r => rfl
    have v2 : ∀ r, val s i r 2 = (r * 64 + byt s (i + 1) % 64) * 64 + byt s (i + 2) % 64 := fun r => rfl
    have v3 : ∀ r, val s i r 3 = ((r * 64 + byt s (i + 1) % 64) * 64 + byt s (i + 2) % 64) * 64 + byt s (i + 3) % 64 := fun r => rfl
    have w1 : conts s i 1 = cont s (i + 1) := by simp [conts]
    have w2 : conts s i 2 = (cont s (i + 1) && cont s (i + 2)) := by simp [conts]
    have w3 : conts s i 3 = (cont s (i + 1) && cont s (i + 2) && cont s (i + 3)) := by simp [conts]
    by_cases a0 : byt s i < 128
    · have e1 : kOf (byt s i) = 0 := by unfold kOf; rw [if_pos a0]
      have e2 : leastOf (byt s i) = 0 := by unfold leastOf; rw [if_pos a0]
      have e3 : startOf (byt s i) = byt s i := by unfold startOf; rw [if_pos a0]
      rw [e1, e2, e3, if_pos a0]
      refine ⟨⟨fun _ h => ?_, fun _ => ⟨.inl a0, rfl, ?_⟩⟩, fun _ => rfl⟩
      · have := h.1; simp only at this; omega
      · have v0 : val s i (byt s i) 0 = byt s i := rfl
        rw [v0]; omega
    · rw [if_neg a0]
      by_cases a1 : byt s i < 224
      · have e1 : kOf (byt s i) = 1 := by unfold kOf; rw [if_neg a0, if_pos a1]
        have e2 : leastOf (byt s i) = 128 := by unfold leastOf; rw [if_neg a0, if_pos a1]
        have e3 : startOf (byt s i) = byt s i % 32 := by unfold startOf; rw [if_neg a0, if_pos a1]
        have g2 : (byt s i / 16 == 14) = false := by rw [beq_eq_false_iff_ne]; omega
        have g3 : (byt s i / 8 == 30) = false := by rw [beq_eq_false_iff_ne]; omega
        rw [e1, e2, e3, v1, w1, g2, g3]
        simp only [Bool.false_and, Bool.false_eq_true, if_false]
        generalize hx : byt s i % 32 * 64 + byt s (i + 1) % 64 = x
        have hx2 : x < 2048 := by omega
        by_cases t : cont s (i + 1) = true
        · by_cases h6 : byt s i / 32 = 6
          · have : (byt s i / 32 == 6 && cont s (i + 1)) = true := by simp [t, h6]
            rw [if_pos this]
            by_cases hx3 : x ≥ 128
            · rw [if_pos hx3]
              simp only [t, true_and]
              refine ⟨⟨fun _ h => by omega, fun _ => ⟨by omega, by omega⟩⟩, fun _ => by first | rfl | trivial⟩
            · rw [if_neg hx3]
              refine ⟨⟨fun h => by omega, fun h => absurd ⟨rfl, fun hh => by omega⟩ h⟩, fun h => by omega⟩
          · have : ¬ ((byt s i / 32 == 6 && cont s (i + 1)) = true) := by simp [h6]
            rw [if_neg this]
            refine ⟨⟨fun h => by omega, fun h => absurd ⟨rfl, fun hh => by omega⟩ h⟩, fun h => by omega⟩
        · have : ¬ ((byt s i / 32 == 6 && cont s (i + 1)) = true) := by simp [t]
          rw [if_neg this]
          refine ⟨⟨fun h => absurd h.2.1 t, fun h => absurd ⟨rfl, fun hh => by omega⟩ h⟩, fun h => absurd h.2.1 t⟩
      · have g1 : (byt s i / 32 == 6) = false := by rw [beq_eq_false_iff_ne]; omega
        by_cases a2 : byt s i < 240
        · have e1 : kOf (byt s i) = 2 := by unfold kOf; rw [if_neg a0, if_neg a1, if_pos a2]
          have e2 : leastOf (byt s i) = 2048 := by unfold leastOf; rw [if_neg a0, if_neg a1, if_pos a2]
          have e3 : startOf (byt s i) = byt s i % 16 := by unfold startOf; rw [if_neg a0, if_neg a1, if_pos a2]
          have g2 : (byt s i / 16 == 14) = true := by rw [beq_iff_eq]; omega
          have g3 : (byt s i / 8 == 30) = false := by rw [beq_eq_false_iff_ne]; omega
          rw [e1, e2, e3, v2, w2, g1, g2, g3]
          simp only [Bool.false_and, Bool.true_and, Bool.false_eq_true, if_false]
          have hx : (byt s i % 16 * 64 + byt s (i + 1) % 64) * 64 + byt s (i + 2) % 64 = byt s i % 16 * 4096 + byt s (i + 1) % 64 * 64 + byt s (i + 2) % 64 := by omega
          rw [hx]
          by_cases t : (cont s (i + 1) && cont s (i + 2)) = true
          · rw [if_pos t]
            have t' := t
            simp only [Bool.and_eq_true] at t'
            obtain ⟨q1, q2⟩ := t'
            have q1 := hc1.1 q1
            have q2 := hc2.1 q2
            by_cases hv : (decide (byt s i % 16 * 4096 + byt s (i + 1) % 64 * 64 + byt s (i + 2) % 64 ≥ 2048) && Utf8.valid (byt s i % 16 * 4096 + byt s (i + 1) % 64 * 64 + byt s (i + 2) % 64 : Nat)) = true
            · rw [if_pos hv]
              simp only [Bool.and_eq_true, decide_eq_true_eq, valid_iff] at hv
              refine ⟨⟨fun _ h => h.2 ?_, fun _ => ⟨by omega, t, by omega⟩⟩, fun _ => rfl⟩
              have := h.1
              simp only at this
              omega
            · rw [if_neg hv]
              simp only [Bool.and_eq_true, decide_eq_true_eq, valid_iff] at hv
              refine ⟨⟨fun h => by omega, fun h => absurd ⟨rfl, fun hh => by omega⟩ h⟩, fun h => by omega⟩
          · rw [if_neg t]
            have t' : ¬ (cont s (i + 1) = true ∧ cont s (i + 2) = true) := by simpa using t
            rw [hc1, hc2] at t'
            refine ⟨⟨fun h => absurd h.2.1 t, fun h => absurd ⟨rfl, fun hh => by omega⟩ h⟩, fun h => absurd h.2.1 t⟩
        · have e1 : kOf (byt s i) = 3 := by unfold kOf; rw [if_neg a0, if_neg a1, if_neg a2]
          have e2 : leastOf (byt s i) = 65536 := by unfold leastOf; rw [if_neg a0, if_neg a1, if_neg a2]
          have e3 : startOf (byt s i) = byt s i % 8 := by unfold startOf; rw [if_neg a0, if_neg a1, if_neg a2]
          have g2 : (byt s i / 16 == 14) = false := by rw [beq_eq_false_iff_ne]; omega
          rw [e1, e2, e3, v3, w3, g1, g2]
          simp only [Bool.false_and, Bool.false_eq_true, if_false]
          have hx : ((byt s i % 8 * 64 + byt s (i + 1) % 64) * 64 + byt s (i + 2) % 64) * 64 + byt s (i + 3) % 64 = byt s i % 8 * 262144 + byt s (i + 1) % 64 * 4096 + byt s (i + 2) % 64 * 64 + byt s (i + 3) % 64 := by omega
          rw [hx]
          by_cases t : (cont s (i + 1) && cont s (i + 2) && cont s (i + 3)) = true
          · by_cases h30 : byt s i / 8 = 30
            · have : (byt s i / 8 == 30 && cont s (i + 1) && cont s (i + 2) && cont s (i + 3)) = true := by
                have : (byt s i / 8 == 30) = true := by simp [h30]
                rw [this, Bool.true_and]; exact t
              rw [if_pos this]
              by_cases hv : (decide (byt s i % 8 * 262144 + byt s (i + 1) % 64 * 4096 + byt s (i + 2) % 64 * 64 + byt s (i + 3) % 64 ≥ 65536) && Utf8.valid (byt s i % 8 * 262144 + byt s (i + 1) % 64 * 4096 + byt s (i + 2) % 64 * 64 + byt s (i + 3) % 64 : Nat)) = true
              · rw [if_pos hv]
                simp only [Bool.and_eq_true, decide_eq_true_eq, valid_iff] at hv
                refine ⟨⟨fun _ h => ?_, fun _ => ⟨by omega, t, by omega⟩⟩, fun _ => rfl⟩
                have := h.1
                simp only at this
                omega
              · rw [if_neg hv]
                simp only [Bool.and_eq_true, decide_eq_true_eq, valid_iff] at hv
                refine ⟨⟨fun h => by omega, fun h => absurd ⟨rfl, fun hh => by omega⟩ h⟩, fun h => by omega⟩
            · have : ¬ ((byt s i / 8 == 30 && cont s (i + 1) && cont s (i + 2) && cont s (i + 3)) = true) := by
                have : (byt s i / 8 == 30) = false := by simp [h30]
                rw [this]; simp
              rw [if_neg this]
              refine ⟨⟨fun h => by omega, fun h => absurd ⟨rfl, fun hh => by omega⟩ h⟩, fun h => by omega⟩
          · have : ¬ ((byt s i / 8 == 30 && cont s (i + 1) && cont s (i + 2) && cont s (i + 3)) = true) := by
              intro hh
              apply t
              simp only [Bool.and_eq_true] at hh ⊢
              exact ⟨⟨hh.1.1.2, hh.1.2⟩, hh.2⟩
            rw [if_neg this]
            refine ⟨⟨fun h => absurd h.2.1 t, fun h => absurd ⟨rfl, fun hh => by omega⟩ h⟩, fun h => absurd h.2.1 t⟩
  refine ⟨?_, key.2⟩
  cases h1 : okStep s i <;> cases h2 : bad s i <;> simp_all
end Go.Proofs.YtcjidlgmbjebjaaDoor.Utf
namespace Go.Proofs.YtcjidlgmbjebjaaDoor.Utf
open Go
def okFrom (s : ByteArray) : Nat → Nat → Bool
  | 0, _ => true
  | f + 1, i => if i < s.size then okStep s i && okFrom s f (i + (kOf (byt s i) + 1)) else true
def ok (s : ByteArray) : Bool := okFrom s s.size 0
theorem okFrom_end (s : ByteArray) (f i : Nat) (h : ¬ i < s.size) : okFrom s f i = true := by
  cases f with
  | zero => rfl
  | succ f => rw [okFrom, if_neg h]
theorem okFrom_bad (s : ByteArray) (f i : Nat) (h : i < s.size) (hf : s.size ≤ i + f) (hb : okStep s i = false) : okFrom s f i = false := by
  cases f with
  | zero => omega
  | succ f => rw [okFrom, if_pos h, hb, Bool.false_and]
theorem okFrom_on (s : ByteArray) (f i : Nat) (h : i < s.size) (hf : s.size ≤ i + f) (hb : okStep s i = true) : ∃ g, f = g + 1 ∧ okFrom s f i = okFrom s g (i + (kOf (byt s i) + 1)) ∧ s.size ≤ i + (kOf (byt s i) + 1) + g := by
  cases f with
  | zero => omega
  | succ f => exact ⟨f, rfl, by rw [okFrom, if_pos h, hb, Bool.true_and], by omega⟩
end Go.Proofs.YtcjidlgmbjebjaaDoor.Utf

namespace Go.Proofs.YtcjidlgmbjebjaaDoor
open Go Go.RowKit
def isP (t : ByteArray) : Bool := decide (3 ≤ t.size) && (t.extract 0 3).toList == [239, 191, 189]
theorem pfx176 (t : ByteArray) (w : World) : Calls Tryd.prog 176 #[.string t, .string ⟨#[239, 191, 189]⟩] w fun e w' => e = .returned (.bool (isP t)) ∧ w = w' := by
  unfold isP
  go_enter Tryd.func176, Tryd.ntmps176
  go_wp2
  · rename_i h
    have h2 : decide (3 ≤ t.size) = true := by simp; omega
    go_ret
    refine ⟨?_, rfl⟩
    rw [h2]; rfl
  · rename_i h
    have h2 : decide (3 ≤ t.size) = false := by simp; omega
    go_ret
    refine ⟨?_, rfl⟩
    rw [h2]; rfl
theorem pfx144 (t : ByteArray) (w : World) : Calls Tryd.prog 144 #[.string t, .string ⟨#[239, 191, 189]⟩] w fun e w' => e = .returned (.bool (isP t)) ∧ w = w' := by
  go_enter Tryd.func144, Tryd.ntmps144
  go_wp2_with (first | (go_at_call 176; refine (pfx176 _ _).mono ?_; rintro e w' ⟨rfl, rfl⟩))
  go_ret
  exact ⟨rfl, rfl⟩
theorem get_list (s : ByteArray) (i : Nat) (h : i < s.size) : s.data.toList[i]? = some (s.get! i) := by
  have hd : i < s.data.size := h
  rw [Array.getElem?_toList, Array.getElem?_eq_getElem hd]
  congr 1
  show _ = s.get! i
  have : s.data[i]! = s.data[i] := getElem!_pos s.data i hd
  simp only [ByteArray.get!]
  exact this.symm
theorem isP_eq (s : ByteArray) (i : Nat) (hi : i ≤ s.size) : isP (s.extract i s.size) = Utf.fffd s i := by
  have hsz : (s.extract i s.size).size = s.size - i := by simp
  have hl : ((s.extract i s.size).extract 0 3).toList = (s.data.toList.drop i).take 3 := by
    rw [Lib.toList_data]
    simp only [ByteArray.data_extract, Array.toList_extract, List.extract_eq_take_drop]
    have : s.data.toList.length = s.size := rfl
    have ht : (s.data.toList.drop i).take (s.size - i) = s.data.toList.drop i := List.take_of_length_le (by rw [List.length_drop]; omega)
    simp only [List.drop_zero, Nat.sub_zero]
    rw [ht]
  unfold isP Utf.fffd Utf.byt
  rw [hsz, hl]
  by_cases h : i + 2 < s.size
  · have h3 : decide (3 ≤ s.size - i) = true := by simp; omega
    rw [h3, decide_eq_true h, Bool.true_and, Bool.true_and]
    have e0 := get_list s i (by omega)
    have e1 := get_list s (i + 1) (by omega)
    have e2 := get_list s (i + 2) (by omega)
    have hlen : s.data.toList.length = s.size := rfl
    have hd : (s.data.toList.drop i).take 3 = [s.get! i, s.get! (i + 1), s.get! (i + 2)] := by
      apply List.ext_getElem?
      intro j
      match j with
      | 0 => simpa [List.getElem?_take, List.getElem?_drop] using e0
      | 1 => simpa [List.getElem?_take, List.getElem?_drop] using e1
      | 2 => simpa [List.getElem?_take, List.getElem?_drop] using e2
      | j + 3 =>
        rw [List.getElem?_eq_none (by simp; omega), List.getElem?_eq_none (by simp)]
    rw [hd]
    have hu : ∀ (a : UInt8) (n : Nat) (hn : n < 256), (a.toNat == n) = (a == UInt8.ofNat n) := fun a n hn => by
      rw [Bool.eq_iff_iff, beq_iff_eq, beq_iff_eq]
      constructor
      · intro h; apply UInt8.toNat_inj.1; simp [h, Nat.mod_eq_of_lt hn]
      · intro h; rw [h]; simp [Nat.mod_eq_of_lt hn]
    rw [hu _ 239 (by omega), hu _ 191 (by omega), hu _ 189 (by omega)]
    rw [Bool.eq_iff_iff]
    simp [and_assoc]
  · have h3 : decide (3 ≤ s.size - i) = false := by simp; omega
    rw [h3, decide_eq_false h]; rfl
end Go.Proofs.YtcjidlgmbjebjaaDoor

namespace Go.Proofs.YtcjidlgmbjebjaaDoor.Utf
open Go
end Go.Proofs.YtcjidlgmbjebjaaDoor.Utf

namespace Go.Proofs.YtcjidlgmbjebjaaDoor
open Go Go.RowKit
end Go.Proofs.YtcjidlgmbjebjaaDoor

namespace Go.Proofs.YtcjidlgmbjebjaaDoor
open Go Go.RowKit
def RightR (s : ByteArray) (w w' : World) : Prop := ∃ pos b : Nat, w' = w.iter s pos ∧ s.size ≤ pos + b ∧ Utf.okFrom s b pos = Utf.ok s
theorem below_iter (w : World) (s : ByteArray) (p : Nat) : Below w.heap.size w (w.iter s p) := (Below.refl w.heap.size w).alloc (Nat.le_refl _) _
set_option maxHeartbeats 1000000 in
theorem right_val (s : ByteArray) (w : World) (hs : s.size ≤ 9223372036854775807) :
    Calls Tryd.prog 249 #[.string s] w (RetBool (Utf.ok s) w) := by
  go_enter Tryd.func249, Tryd.ntmps249
  go_wp2
  go_loopw [] (fun w' => RightR s w w') (fun w' => s.size - w'.iterPos w.heap.size)
  case atStart => exact ⟨0, s.size, rfl, by omega, rfl⟩
  case round =>
    obtain ⟨pos, b, rfl, hb, hc⟩ := hrel
    by_cases hp : pos < s.size
    · have hstep := Utf.step_eq s pos
      have hP0 := isP_eq s pos (by omega)
      have hnx : ∀ ty, (Instr.next (.pointer (some ⟨w.heap.size, 0, none⟩)) true ty).run Tryd.prog (w.iter s pos) = _ := fun ty => run_next_any w s pos ty hp
      by_cases hr : (Utf8.decode s pos).1 = 65533
      · have hr1 : (((Utf8.decode s pos).1 : Int) == 65533) = true := by simp [hr]
        cases hf : Utf.fffd s pos with
        | true =>
          have hok : Utf.okStep s pos = true := by rw [hstep.1]; unfold Utf.bad; rw [hf]; simp
          obtain ⟨g, rfl, hg, hgb⟩ := Utf.okFrom_on s b pos hp hb hok
          have hw := hstep.2 hok
          have H1 := Lib.hid hc; clear hc
          have H2 := Lib.hid hg; clear hg
          have H3 := Lib.hid hw; clear hw
          rw [hf] at hP0
          clear hstep hok hf hr
          go_wp2_with (first | (go_at_call 144; refine (pfx144 _ _).mono ?_; rintro e w' ⟨rfl, rfl⟩))
          go_roundw
          case rel => exact ⟨pos + (Utf8.decode s pos).2, g, rfl, by rw [H3.out]; omega, by rw [H3.out, ← H2.out]; exact H1.out⟩
          case measure =>
            have := H3.out
            simp
            omega
        | false =>
          have hok : Utf.okStep s pos = false := by rw [hstep.1]; unfold Utf.bad; rw [hf, hr]; rfl
          have hno : Utf.ok s = false := by rw [← hc]; exact Utf.okFrom_bad s b pos hp hb hok
          have HN := Lib.hid hno; clear hno
          rw [hf] at hP0
          clear hstep hok hf hr hc
          go_wp2_with (first | (go_at_call 144; refine (pfx144 _ _).mono ?_; rintro e w' ⟨rfl, rfl⟩))
          go_ret
          exact ⟨by rw [HN.out]; rfl, below_iter w s _⟩
      · have hr1 : (((Utf8.decode s pos).1 : Int) == 65533) = false := by
          rw [beq_eq_false_iff_ne]; omega
        have hok : Utf.okStep s pos = true := by
          rw [hstep.1]; unfold Utf.bad
          have : ((Utf8.decode s pos).1 == 65533) = false := by rw [beq_eq_false_iff_ne]; exact hr
          rw [this]; rfl
        obtain ⟨g, rfl, hg, hgb⟩ := Utf.okFrom_on s b pos hp hb hok
        have hw := hstep.2 hok
        have H1 := Lib.hid hc; clear hc
        have H2 := Lib.hid hg; clear hg
        have H3 := Lib.hid hw; clear hw
        clear hstep hok hr hP0
        go_wp2_with (first | (go_at_call 144; refine (pfx144 _ _).mono ?_; rintro e w' ⟨rfl, rfl⟩))
        go_roundw
        case rel => exact ⟨pos + (Utf8.decode s pos).2, g, rfl, by rw [H3.out]; omega, by rw [H3.out, ← H2.out]; exact H1.out⟩
        case measure =>
          have := H3.out
          simp
          omega
    · have hnx : ∀ ty, (Instr.next (.pointer (some ⟨w.heap.size, 0, none⟩)) true ty).run Tryd.prog (w.iter s pos) = _ := fun ty => run_next_end w s pos ty hp
      have hok : Utf.ok s = true := by rw [← hc]; exact Utf.okFrom_end s b pos hp
      clear hc
      go_wp2
      go_ret
      exact ⟨by first | rfl | (rw [hok]; rfl), below_iter w s pos⟩
end Go.Proofs.YtcjidlgmbjebjaaDoor

namespace Go.Proofs.YtcjidlgmbjebjaaDoor
open Go Go.RowKit
end Go.Proofs.YtcjidlgmbjebjaaDoor

namespace Go.Proofs.YtcjidlgmbjebjaaDoor
open Go Go.RowKit
def Same1 (v : Value) (w : World) (e : Ending) (w' : World) : Prop := e = .returned v ∧ w' = w
def numS (n : Int) : ByteArray := ⟨(Lib.itoa n).toArray⟩
end Go.Proofs.YtcjidlgmbjebjaaDoor

namespace Go.Proofs.YtcjidlgmbjebjaaDoor
open Go Go.RowKit
end Go.Proofs.YtcjidlgmbjebjaaDoor

namespace Go.Proofs.YtcjidlgmbjebjaaDoor
open Go Go.RowKit
end Go.Proofs.YtcjidlgmbjebjaaDoor

namespace Go.Proofs.YtcjidlgmbjebjaaDoor
open Go Go.RowKit
end Go.Proofs.YtcjidlgmbjebjaaDoor

namespace Go.Proofs.YtcjidlgmbjebjaaDoor
open Go Go.Shelf
def Tryd.lays169_ren : Go.Shelf.Ren := ⟨fun | 169 => 112 | n => n, fun | 70 => 169 | 9 => 9 | 0 => 0 | 72 => 171 | 37 => 43 | 127 => 207 | 3 => 3 | 5 => 5 | n => n, fun | n => n⟩
theorem Tryd.lays169 : Go.Proofs.Lays.n169 Tryd.prog Tryd.lays169_ren := {
  mixed := by kernel_rfl
  f169 := Tryd.func112.trans (congrArg some (by kernel_rfl))
  t0 := Tryd.underlying0
  a0 := Tryd.isAgg0
  z0 := Tryd.sizeOf0
  v0 := Tryd.zeroValue0
  t3 := Tryd.underlying3
  a3 := Tryd.isAgg3
  z3 := Tryd.sizeOf3
  v3 := Tryd.zeroValue3
  t9 := Tryd.underlying9
  a9 := Tryd.isAgg9
  z9 := Tryd.sizeOf9
  v9 := Tryd.zeroValue9
  t37 := Tryd.underlying43
  a37 := Tryd.isAgg43
  z37 := Tryd.sizeOf43
  v37 := Tryd.zeroValue43
  t70 := Tryd.underlying169
  a70 := Tryd.isAgg169
  z70 := Tryd.sizeOf169
  v70 := Tryd.zeroValue169
  t72 := Tryd.underlying171
  a72 := Tryd.isAgg171
  z72 := Tryd.sizeOf171
  v72 := Tryd.zeroValue171
  t127 := Tryd.underlying207
  a127 := Tryd.isAgg207
  z127 := Tryd.sizeOf207
  v127 := Tryd.zeroValue207 }
theorem Tryd.Builder_Extra_169 : Builder.Extra Tryd.prog Tryd.lays169_ren := {
  sizeBuilder := by kernel_rfl
  liesBuilder := by kernel_rfl
  t5 := Tryd.underlying5
  a5 := Tryd.isAgg5
  z5 := Tryd.sizeOf5
  v5 := Tryd.zeroValue5
  infoByte := by kernel_rfl
  cellsByte := by kernel_rfl
  sizeByte := by kernel_rfl
  neB5 := by decide }
open Go.RowKit in
theorem Tryd.Builder_String (B b : Nat) (l : List UInt8) (w : World) (h : Lib.IsBuilder 171 5 B b (Lib.byteCells l) w) (h0 : l ≠ []) :
    Calls Tryd.prog 112 #[.pointer (some ⟨b, 0, none⟩)] w fun e w' => e = .returned (.string ⟨l.toArray⟩) ∧ Below B w w' := Any.Builder_String Tryd.lays169 Tryd.Builder_Extra_169 B b l w h h0
def Tryd.laysM171_ren : Go.Shelf.Ren := ⟨fun | 171 => 53 | 243 => 109 | 246 => 146 | 283 => 169 | 284 => 170 | 285 => 171 | 286 => 172 | 129 => 203 | 317 => 202 | 318 => 204 | 319 => 205 | 320 => 206 | 337 => 222 | 338 => 223 | n => n, fun | 3 => 3 | 9 => 9 | 2 => 2 | 4 => 4 | 171 => 235 | 0 => 0 | 53 => 100 | 37 => 43 | 5 => 5 | 173 => 237 | 212 => 266 | 51 => 243 | 20 => 20 | 213 => 267 | 46 => 80 | 232 => 280 | 233 => 281 | n => n, fun | 17 => 4 | 18 => 6 | 19 => 7 | n => n⟩
theorem Tryd.laysM171 : Go.Proofs.LaysM.n171 Tryd.prog Tryd.laysM171_ren := {
  mixed := by kernel_rfl
  f129 := Tryd.func203.trans (congrArg some (by kernel_rfl))
  f171 := Tryd.func53.trans (congrArg some (by kernel_rfl))
  f243 := Tryd.func109.trans (congrArg some (by kernel_rfl))
  f246 := Tryd.func146.trans (congrArg some (by kernel_rfl))
  f283 := Tryd.func169.trans (congrArg some (by kernel_rfl))
  f284 := Tryd.func170.trans (congrArg some (by kernel_rfl))
  f285 := Tryd.func171.trans (congrArg some (by kernel_rfl))
  f286 := Tryd.func172.trans (congrArg some (by kernel_rfl))
  f317 := Tryd.func202.trans (congrArg some (by kernel_rfl))
  f318 := Tryd.func204.trans (congrArg some (by kernel_rfl))
  f319 := Tryd.func205.trans (congrArg some (by kernel_rfl))
  f320 := Tryd.func206.trans (congrArg some (by kernel_rfl))
  f337 := Tryd.func222.trans (congrArg some (by kernel_rfl))
  f338 := Tryd.func223.trans (congrArg some (by kernel_rfl))
  t0 := Tryd.underlying0
  a0 := Tryd.isAgg0
  z0 := Tryd.sizeOf0
  v0 := Tryd.zeroValue0
  t2 := Tryd.underlying2
  a2 := Tryd.isAgg2
  z2 := Tryd.sizeOf2
  v2 := Tryd.zeroValue2
  t3 := Tryd.underlying3
  a3 := Tryd.isAgg3
  z3 := Tryd.sizeOf3
  v3 := Tryd.zeroValue3
  t4 := Tryd.underlying4
  a4 := Tryd.isAgg4
  z4 := Tryd.sizeOf4
  v4 := Tryd.zeroValue4
  t5 := Tryd.underlying5
  a5 := Tryd.isAgg5
  z5 := Tryd.sizeOf5
  v5 := Tryd.zeroValue5
  t9 := Tryd.underlying9
  a9 := Tryd.isAgg9
  z9 := Tryd.sizeOf9
  v9 := Tryd.zeroValue9
  t20 := Tryd.underlying20
  a20 := Tryd.isAgg20
  z20 := Tryd.sizeOf20
  v20 := Tryd.zeroValue20
  t37 := Tryd.underlying43
  a37 := Tryd.isAgg43
  z37 := Tryd.sizeOf43
  v37 := Tryd.zeroValue43
  t46 := Tryd.underlying80
  a46 := Tryd.isAgg80
  z46 := Tryd.sizeOf80
  v46 := Tryd.zeroValue80
  t51 := Tryd.underlying243
  a51 := Tryd.isAgg243
  z51 := Tryd.sizeOf243
  v51 := Tryd.zeroValue243
  t53 := Tryd.underlying100
  a53 := Tryd.isAgg100
  z53 := Tryd.sizeOf100
  v53 := Tryd.zeroValue100
  t171 := Tryd.underlying235
  a171 := Tryd.isAgg235
  z171 := Tryd.sizeOf235
  v171 := Tryd.zeroValue235
  t173 := Tryd.underlying237
  a173 := Tryd.isAgg237
  z173 := Tryd.sizeOf237
  v173 := Tryd.zeroValue237
  t212 := Tryd.underlying266
  a212 := Tryd.isAgg266
  z212 := Tryd.sizeOf266
  v212 := Tryd.zeroValue266
  t213 := Tryd.underlying267
  a213 := Tryd.isAgg267
  z213 := Tryd.sizeOf267
  t232 := Tryd.underlying280
  a232 := Tryd.isAgg280
  z232 := Tryd.sizeOf280
  v232 := Tryd.zeroValue280
  t233 := Tryd.underlying281
  a233 := Tryd.isAgg281
  z233 := Tryd.sizeOf281
  v233 := Tryd.zeroValue281
  g17 := by kernel_rfl
  g18 := by kernel_rfl
  g19 := by kernel_rfl
  i0 := by kernel_rfl
  i2 := by kernel_rfl
  i3 := by kernel_rfl
  i4 := by kernel_rfl
  i5 := by kernel_rfl
  i9 := by kernel_rfl
  i20 := by kernel_rfl
  i37 := by kernel_rfl
  i46 := by kernel_rfl
  i51 := by kernel_rfl
  i53 := by kernel_rfl
  i171 := by kernel_rfl
  i173 := by kernel_rfl
  i212 := by kernel_rfl
  i232 := by kernel_rfl
  i233 := by kernel_rfl
  m17 := by kernel_rfl
  m18 := by kernel_rfl
  m19 := by kernel_rfl }
open Go.RowKit Go.Sort Go.Lib in
theorem Tryd.strconv_Itoa (n : Int) (h0 : -9223372036854775808 ≤ n) (h1 : n ≤ 9223372036854775807) (w : World) (htab : Lib.TabIs Tryd.prog w "internal/strconv.uint64pow10" .u64 Lib.pow10Tab) :
    Calls Tryd.prog 53 #[.int .i64 n] w fun e w' => e = .returned (.string ⟨(Lib.itoa n).toArray⟩) ∧ ∃ k os, w' = grow (w.drewN k) os := Any.strconv_Itoa Tryd.laysM171 n h0 h1 w htab
end Go.Proofs.YtcjidlgmbjebjaaDoor

namespace Go.Proofs.YtcjidlgmbjebjaaDoor
open Go Go.RowKit
theorem bsize : Option.map (fun x => x.size) (Tryd.prog.info? 171) = some 2 := by kernel_rfl
theorem blies : liesAt Tryd.prog Tryd.prog.depth 171 (2 / Tryd.prog.cellsOf 171) 0 171 1 = true := by kernel_rfl
theorem binfo : Option.map (fun i => (i.zero, i.size, i.bytes)) (Tryd.prog.info? 5) = some (some (Value.int IntKind.u8 0), 1, 1) := by kernel_rfl
set_option maxHeartbeats 1000000 in
theorem cc_used (b : Nat) (w : World) (h0 : w.cell? ⟨b, 0, none⟩ = some (.pointer (some ⟨b, 0, none⟩))) :
    Calls Tryd.prog 147 #[.pointer (some ⟨b, 0, none⟩)] w fun e w' => e = .returned (.tuple #[]) ∧ w' = w := by
  obtain ⟨j, hj, _⟩ := Option.map_eq_some_iff.1 bsize
  go_enter Tryd.func147, Tryd.ntmps147
  go_wp2
  rw [Lib.run_neq_ptr_same w _ Tryd.underlying169 hj]
  go_wp2
  go_end0
  exact ⟨rfl, rfl⟩
set_option maxHeartbeats 1000000 in
theorem cc_fresh (b : Nat) (w : World) (h0 : w.cell? ⟨b, 0, none⟩ = some (.pointer none)) (hsh : w.shape? b = some (171, 2)) (hfz : w.frozen? ⟨b, 0, none⟩ = false) :
    Calls Tryd.prog 147 #[.pointer (some ⟨b, 0, none⟩)] w fun e w' => e = .returned (.tuple #[]) ∧ w' = w.setCell ⟨b, 0, none⟩ (.pointer (some ⟨b, 0, none⟩)) := by
  obtain ⟨j, hj, hjs⟩ := Option.map_eq_some_iff.1 bsize
  go_enter Tryd.func147, Tryd.ntmps147
  go_wp2
  rw [Lib.run_to_unsafe w ⟨b, 0, none⟩ Tryd.underlying169 Tryd.underlying248 hj (by rw [hjs]; decide) hsh (Nat.zero_lt_succ 1)]
  simp only [Result.andThen]
  rw [Oper.upon_value]
  go_wp2
  rw [run_callFunc_extern Tryd.func180 (by kernel_rfl) (by kernel_rfl) (by kernel_rfl) (e := Extern.AbiNoEscape.same) (by kernel_rfl)]
  rw [Lib.run_noEscape]
  simp only [Result.andThen]
  rw [Oper.upon_value]
  go_wp2
  rw [Lib.run_from_unsafe w ⟨b, 0, none⟩ Tryd.underlying248 Tryd.underlying169 hj hsh blies]
  simp only [Result.andThen]
  rw [Oper.upon_value]
  go_wp2
  go_end0
  exact ⟨rfl, rfl⟩
theorem cc_any (B b : Nat) (bs : List Value) (w : World) (h : Lib.IsBuilder 171 5 B b bs w) :
    Calls Tryd.prog 147 #[.pointer (some ⟨b, 0, none⟩)] w fun e w' => e = .returned (.tuple #[]) ∧ (Lib.BuilderAt 171 5 B b (.pointer (some ⟨b, 0, none⟩)) bs w' ∧ Below B w w') := by
  rcases h with h | h
  · refine (cc_fresh b w h.cell0 h.shape h.frozen0).mono ?_
    rintro e w' ⟨rfl, rfl⟩
    exact ⟨rfl, h.used _, (Below.refl B w).setCell (p := ⟨b, 0, none⟩) h.1 _⟩
  · refine (cc_used b w h.cell0).mono ?_
    rintro e w' ⟨rfl, rfl⟩
    exact ⟨rfl, h, Below.refl B _⟩
set_option maxHeartbeats 2000000 in
theorem write_byte (B b : Nat) (bs : List Value) (c : Int) (w : World) (h : Lib.IsBuilder 171 5 B b bs w) (hlen : bs.length + 1 ≤ 140737488355328) (hBw : B ≤ w.heap.size) :
    Calls Tryd.prog 119 #[.pointer (some ⟨b, 0, none⟩), .int .u8 c] w fun e w' => e = .returned .nilIface ∧ (Lib.BuilderAt 171 5 B b (.pointer (some ⟨b, 0, none⟩)) (bs ++ [.int .u8 c]) w' ∧ Below B w w') := by
  obtain ⟨i0, hi, hz0, hz1, hz2⟩ := info_parts binfo
  go_enter Tryd.func119, Tryd.ntmps119
  go_wp2_with (go_at_call 147; refine (cc_any B b bs _ h).mono ?_)
  rintro e w1 ⟨rfl, h1, hb1⟩
  obtain ⟨hB, v, hbk, hown, hne⟩ := h1
  have c0 : w1.cell? ⟨b, 0, none⟩ = some (.pointer (some ⟨b, 0, none⟩)) := by rw [Lib.cell_of_heap hbk]; rfl
  have c1 : w1.cell? ⟨b, 1, none⟩ = some v := by rw [Lib.cell_of_heap hbk]; rfl
  go_wp2_with (at_builtin; refine wpList_append_own _ rfl _ _ 43 rfl B 5 i0 (.int .u8 0) 1 1 Tryd.underlying43 hi hz0 hz1 hz2 rfl (by decide) _ _ _ rfl (hown.alloc _) ⟨w1.heap.size, 0, none⟩ 1 1 [.int .u8 c] rfl rfl ?c1 ?c2 ?c3 ?c4 ?c5 ?_)
  case c1 =>
    intro j u hj
    match j, hj with
    | 0, hj => simp at hj; subst hj; simp [Addr.add]
  case c2 => intro u hu; simp at hu; subst hu; rfl
  case c3 => unfold maxLen; omega
  case c4 => omega
  case c5 => have := hb1.size; simp; omega
  intro v' w2 hown' hgrow _
  have hlt : b < w1.heap.size := by
    rcases Nat.lt_or_ge b w1.heap.size with h' | h'
    · exact h'
    · simp [Array.getElem?_eq_none h'] at hbk
  have hb2 : w2.heap[b]? = some (.cells #[.pointer (some ⟨b, 0, none⟩), v] 171 (0, 0)) := by
    rw [hgrow.block b (by simp; omega) (fun e => hne e.symm), Lib.alloc_old w1 _ b hlt]
    exact hbk
  have d0 : w2.cell? ⟨b, 0, none⟩ = some (.pointer (some ⟨b, 0, none⟩)) := by rw [Lib.cell_of_heap hb2]; rfl
  have d1 : w2.cell? ⟨b, 1, none⟩ = some v := by rw [Lib.cell_of_heap hb2]; rfl
  have f1 : w2.frozen? ⟨b, 1, none⟩ = false := Lib.frozen_of_heap hb2 1
  obtain ⟨g, cap, rfl⟩ : ∃ g cap, v' = .slice (some ⟨g, 0, none⟩) (bs.length + 1) cap := by
    rcases hown'.2 with ⟨_, h0⟩ | ⟨g, cap, cur, hv, _⟩
    · omega
    · exact ⟨g, cap, hv⟩
  go_wp2
  go_ret
  refine ⟨rfl, ?_, ?_⟩
  · exact Lib.BuilderAt.put (T := 171) (e := 5) hB hb2 (bs' := bs ++ [.int .u8 c]) (by simpa using hown') (by decide)
  · exact ((hb1.alloc (by have := hb1.size; omega) _).grown hgrow (by have := hb1.size; simp; omega) (fun k hk => (hown.lt k hk).1)).setCell (p := ⟨b, 1, none⟩) hB _
end Go.Proofs.YtcjidlgmbjebjaaDoor

namespace Go.Proofs.YtcjidlgmbjebjaaDoor
open Go Go.RowKit
def q1 (c : UInt8) : List UInt8 := if c.toNat = 34 ∨ c.toNat = 92 then [92, c] else [c]
def qB : List UInt8 → List UInt8
  | [] => []
  | c :: l => q1 c ++ qB l
theorem qB_append (a b : List UInt8) : qB (a ++ b) = qB a ++ qB b := by
  induction a with
  | nil => rfl
  | cons c l ih => simp [qB, ih]
theorem qB_len (a : List UInt8) : (qB a).length ≤ 2 * a.length := by
  induction a with
  | nil => simp [qB]
  | cons c l ih =>
    have : (q1 c).length ≤ 2 := by unfold q1; split <;> simp
    simp [qB]; omega
def BL (w : World) (l : List UInt8) (w' : World) : Prop := Lib.IsBuilder 171 5 w.heap.size w.heap.size (Lib.byteCells l) w' ∧ Below w.heap.size w w'
theorem bl_write (w w1 : World) (l : List UInt8) (c : UInt8) (n : Int) (hn : n = c.toNat) (h : BL w l w1) (hl : l.length ≤ 10000) :
    Calls Tryd.prog 119 #[.pointer (some ⟨w.heap.size, 0, none⟩), .int .u8 n] w1 (fun e w' => e = .returned .nilIface ∧ BL w (l ++ [c]) w') := by
  subst hn
  refine (write_byte w.heap.size w.heap.size _ _ w1 h.1 (by simp [Lib.byteCells]; omega) h.2.size).mono ?_
  rintro e w' ⟨rfl, h1, h2⟩
  refine ⟨rfl, Or.inr ?_, h.2.trans h2⟩
  simpa [Lib.byteCells] using h1
theorem take_one (s : ByteArray) (i : Nat) (h : i < s.size) : s.data.toList.take (i + 1) = s.data.toList.take i ++ [s[i]] := by
  have h2 : i < s.data.toList.length := by simpa using h
  rw [List.take_succ_eq_append_getElem h2]
  rfl
def QuR (s : ByteArray) (w : World) (n : Value) (w' : World) : Prop := ∃ i : Nat, i ≤ s.size ∧ n = .int .i64 i ∧ BL w (34 :: qB (s.data.toList.take i)) w'
def qS (s : ByteArray) : ByteArray := ⟨(34 :: qB s.data.toList ++ [34]).toArray⟩
def RetS (v : Value) (w : World) (e : Ending) (w' : World) : Prop := e = .returned v ∧ Below w.heap.size w w'
set_option maxHeartbeats 1000000 in
theorem quoted_val (s : ByteArray) (w : World) (hs : s.size ≤ 2000) :
    Calls Tryd.prog 69 #[.string s] w (RetS (.string (qS s)) w) := by
  have hB0 : BL w [] (w.alloc (.cells #[.pointer none, .slice none 0 0] 171)) := ⟨Lib.fresh_isBuilder 171 5 w, (Below.refl _ w).alloc (Nat.le_refl _) _⟩
  go_enter Tryd.func69, Tryd.ntmps69
  go_wp2_with (first | (go_at_call 119; refine (bl_write w _ _ 34 _ ?_ hB0 ?_).mono ?_; (· rfl); (· simp); rintro e w1 ⟨rfl, h1⟩))
  go_loopw [8] (fun n w' => QuR s w n w') (fun n _ => s.size - (intOf n).toNat)
  case atStart => exact ⟨0, by omega, rfl, by simpa [qB] using h1⟩
  case round =>
    obtain ⟨i, hi, rfl, hb⟩ := hrel
    clear h1 hB0
    by_cases hp : i < s.size
    · have hl := qB_len (s.data.toList.take i)
      have hl2 : (s.data.toList.take i).length ≤ 2000 := by simp; omega
      have ht := take_one s i hp
      have hq := qB_append (s.data.toList.take i) [s[i]]
      rw [← ht] at hq
      by_cases hc : (s[i]).toNat = 34 ∨ (s[i]).toNat = 92
      · have h1c : qB [s[i]] = [92] ++ [s[i]] := by simp [qB, q1, hc]
        rw [h1c] at hq
        have HQ := Lib.hid hq
        clear hq ht h1c
        rcases hc with hc | hc
        all_goals
          go_wp2_with (first
            | (go_at_call 119; refine (bl_write w _ _ s[i] _ ?_ h2 ?_).mono ?_; (· first | rfl | omega); (· simp; omega); rintro e w3 ⟨rfl, h3⟩)
            | (go_at_call 119; refine (bl_write w _ _ 92 _ ?_ hb ?_).mono ?_; (· rfl); (· simp; omega); rintro e w2 ⟨rfl, h2⟩))
          refine ⟨⟨i + 1, by omega, rfl, ?_⟩, by simp [intOf]; omega⟩
          rw [HQ.out]
          simpa using h3
      · have h1c : qB [s[i]] = [s[i]] := by simp [qB, q1, hc]
        rw [h1c] at hq
        have HQ := Lib.hid hq
        clear hq ht h1c
        have hc1 : (((s[i]).toNat : Int) == 34) = false := by rw [beq_eq_false_iff_ne]; omega
        have hc2 : (((s[i]).toNat : Int) == 92) = false := by rw [beq_eq_false_iff_ne]; omega
        clear hc
        go_wp2_with (first
            | (go_at_call 119; refine (bl_write w _ _ s[i] _ ?_ hb ?_).mono ?_; (· first | rfl | omega); (· simp; omega); rintro e w3 ⟨rfl, h3⟩))
        refine ⟨⟨i + 1, by omega, rfl, ?_⟩, by simp [intOf]; omega⟩
        rw [HQ.out]
        simpa using h3
    · obtain rfl : i = s.size := by omega
      have hl := qB_len (s.data.toList.take s.size)
      have hl2 : (s.data.toList.take s.size).length ≤ 2000 := by simp; omega
      go_wp2_with (first
            | (go_at_call 119; refine (bl_write w _ _ 34 _ ?_ hb ?_).mono ?_; (· rfl); (· simp; omega); rintro e w3 ⟨rfl, h3⟩)
            | (go_at_call 112; refine (Tryd.Builder_String _ _ (34 :: qB (s.data.toList.take s.size) ++ [34]) _ h3.1 (by simp)).mono ?_; rintro e w4 ⟨rfl, h4⟩))
      go_ret
      refine ⟨?_, ?_⟩
      · have : s.data.toList.take s.size = s.data.toList := List.take_of_length_le (by simp)
        rw [this]
        rfl
      · exact h3.2.trans h4
end Go.Proofs.YtcjidlgmbjebjaaDoor

namespace Go.Proofs.YtcjidlgmbjebjaaDoor
open Go Go.RowKit
def tyName (k : Int) : ByteArray := if k = 1 then ⟨#[105, 110, 116]⟩ else if k = 2 then ⟨#[116, 101, 120, 116]⟩ else if k = 3 then ⟨#[102, 108, 97, 103]⟩ else ⟨#[]⟩
def colText (nm : ByteArray) (k : Int) (m : Bool) : ByteArray := bif m then nm ++ ⟨#[58]⟩ ++ tyName k ++ ⟨#[33]⟩ else nm ++ ⟨#[58]⟩ ++ tyName k
theorem append_nil (a : ByteArray) : a ++ ⟨#[]⟩ = a := by
  apply ByteArray.ext; simp
end Go.Proofs.YtcjidlgmbjebjaaDoor

namespace Go.Proofs.YtcjidlgmbjebjaaDoor
open Go Go.RowKit
abbrev Col := ByteArray × Int × Bool
end Go.Proofs.YtcjidlgmbjebjaaDoor

namespace Go.Proofs.YtcjidlgmbjebjaaDoor
open Go Go.RowKit
theorem below_drew {B : Nat} {a w : World} (h : Below B a w) : Below B a w.drew := ⟨h.os, h.tape, h.output, h.size, h.block⟩
end Go.Proofs.YtcjidlgmbjebjaaDoor

namespace Go.Proofs.YtcjidlgmbjebjaaDoor
open Go Go.RowKit
def flat (cs : List Col) : List Value := cs.flatMap fun c => [.string c.1, .int .i64 c.2.1, .bool c.2.2]
end Go.Proofs.YtcjidlgmbjebjaaDoor

namespace Go.Proofs.YtcjidlgmbjebjaaDoor
open Go Go.RowKit
theorem hp_new (w : World) (o : Obj) (n : Nat) (h : n = w.heap.size) : (w.alloc o).heap[n]? = some o := by subst h; exact (MapKept.heap_alloc w o).1
theorem hp_old (w : World) (o : Obj) (i : Nat) (x : Option Obj) (h : i < w.heap.size) (hx : w.heap[i]? = x) : (w.alloc o).heap[i]? = x := by rw [Lib.alloc_old w o i h]; exact hx
theorem own_set {w : World} {base e s n : Nat} {v : Value} {xs : List Value} (h : w.ownsRow base e s v n xs) (b i : Nat) (u : Value) (hb : b < base) : (w.setCell ⟨b, i, none⟩ u).ownsRow base e s v n xs :=
  h.kept (row := some b) ⟨rfl, rfl, rfl, by simp [World.setCell], fun k _ hk => heap_setCell_other _ _ _ _ (fun e => hk (by simp [e]))⟩ (by
    cases hv : v.ownBlock with
    | none => exact .inl rfl
    | some k =>
      refine .inr fun e => ?_
      have := h.lt k hv
      injection e with e
      omega)
end Go.Proofs.YtcjidlgmbjebjaaDoor
