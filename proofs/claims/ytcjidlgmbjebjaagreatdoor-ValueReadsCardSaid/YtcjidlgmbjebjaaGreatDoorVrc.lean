/- A part of the proof of ValueReads. -/
import Derived.Test.YtcjidlgmbjebjaaGreatDoorVra
import Derived.Test.YtcjidlgmbjebjaaGreatDoorVrb
import Derived.Shelf.Strings.Builder1
import Derived.Laws.BytesArg
import Derived.RowKit
import Derived.Lib.AtoiAll
import Derived.Lib.ItoaNum
set_option linter.unusedVariables false
set_option linter.unusedSimpArgs false
set_option maxRecDepth 100000
namespace Go.Proofs.YtcjidlgmbjebjaaGreatDoor
open Go Go.RowKit
theorem bsize : Option.map (fun x => x.size) (Tryz.prog.info? 127) = some 2 := by kernel_rfl
theorem blies : liesAt Tryz.prog Tryz.prog.depth 127 (2 / Tryz.prog.cellsOf 127) 0 127 1 = true := by kernel_rfl
theorem binfo : Option.map (fun i => (i.zero, i.size, i.bytes)) (Tryz.prog.info? 5) = some (some (Value.int IntKind.u8 0), 1, 1) := by kernel_rfl
set_option maxHeartbeats 1000000 in
theorem cc_used (b : Nat) (w : World) (h0 : w.cell? ⟨b, 0, none⟩ = some (.pointer (some ⟨b, 0, none⟩))) :
    Calls Tryz.prog 124 #[.pointer (some ⟨b, 0, none⟩)] w fun e w' => e = .returned (.tuple #[]) ∧ w' = w := by
  obtain ⟨j, hj, _⟩ := Option.map_eq_some_iff.1 bsize
  go_enter Tryz.func124, Tryz.ntmps124
  go_wp2
  rw [Lib.run_neq_ptr_same w _ Tryz.underlying125 hj]
  go_wp2
  go_end0
  exact ⟨rfl, rfl⟩
set_option maxHeartbeats 1000000 in
theorem cc_fresh (b : Nat) (w : World) (h0 : w.cell? ⟨b, 0, none⟩ = some (.pointer none)) (hsh : w.shape? b = some (127, 2)) (hfz : w.frozen? ⟨b, 0, none⟩ = false) :
    Calls Tryz.prog 124 #[.pointer (some ⟨b, 0, none⟩)] w fun e w' => e = .returned (.tuple #[]) ∧ w' = w.setCell ⟨b, 0, none⟩ (.pointer (some ⟨b, 0, none⟩)) := by
  obtain ⟨j, hj, hjs⟩ := Option.map_eq_some_iff.1 bsize
  go_enter Tryz.func124, Tryz.ntmps124
  go_wp2
  rw [Lib.run_to_unsafe w ⟨b, 0, none⟩ Tryz.underlying125 Tryz.underlying241 hj (by rw [hjs]; decide) hsh (Nat.zero_lt_succ 1)]
  simp only [Result.andThen]
  rw [Oper.upon_value]
  go_wp2
  rw [run_callFunc_extern Tryz.func179 (by kernel_rfl) (by kernel_rfl) (by kernel_rfl) (e := Extern.AbiNoEscape.same) (by kernel_rfl)]
  rw [Lib.run_noEscape]
  simp only [Result.andThen]
  rw [Oper.upon_value]
  go_wp2
  rw [Lib.run_from_unsafe w ⟨b, 0, none⟩ Tryz.underlying241 Tryz.underlying125 hj hsh blies]
  simp only [Result.andThen]
  rw [Oper.upon_value]
  go_wp2
  go_end0
  exact ⟨rfl, rfl⟩
theorem cc_any (B b : Nat) (bs : List Value) (w : World) (h : Lib.IsBuilder 127 5 B b bs w) :
    Calls Tryz.prog 124 #[.pointer (some ⟨b, 0, none⟩)] w fun e w' => e = .returned (.tuple #[]) ∧ (Lib.BuilderAt 127 5 B b (.pointer (some ⟨b, 0, none⟩)) bs w' ∧ Below B w w') := by
  rcases h with h | h
  · refine (cc_fresh b w h.cell0 h.shape h.frozen0).mono ?_
    rintro e w' ⟨rfl, rfl⟩
    exact ⟨rfl, h.used _, (Below.refl B w).setCell (p := ⟨b, 0, none⟩) h.1 _⟩
  · refine (cc_used b w h.cell0).mono ?_
    rintro e w' ⟨rfl, rfl⟩
    exact ⟨rfl, h, Below.refl B _⟩
set_option maxHeartbeats 2000000 in
theorem write_byte (B b : Nat) (bs : List Value) (c : Int) (w : World) (h : Lib.IsBuilder 127 5 B b bs w) (hlen : bs.length + 1 ≤ 140737488355328) (hBw : B ≤ w.heap.size) :
    Calls Tryz.prog 96 #[.pointer (some ⟨b, 0, none⟩), .int .u8 c] w fun e w' => e = .returned .nilIface ∧ (Lib.BuilderAt 127 5 B b (.pointer (some ⟨b, 0, none⟩)) (bs ++ [.int .u8 c]) w' ∧ Below B w w') := by
  obtain ⟨i0, hi, hz0, hz1, hz2⟩ := info_parts binfo
  go_enter Tryz.func96, Tryz.ntmps96
  go_wp2_with (go_at_call 124; refine (cc_any B b bs _ h).mono ?_)
  rintro e w1 ⟨rfl, h1, hb1⟩
  obtain ⟨hB, v, hbk, hown, hne⟩ := h1
  have c0 : w1.cell? ⟨b, 0, none⟩ = some (.pointer (some ⟨b, 0, none⟩)) := by rw [Lib.cell_of_heap hbk]; rfl
  have c1 : w1.cell? ⟨b, 1, none⟩ = some v := by rw [Lib.cell_of_heap hbk]; rfl
  go_wp2_with (at_builtin; refine wpList_append_own _ rfl _ _ 25 rfl B 5 i0 (.int .u8 0) 1 1 Tryz.underlying25 hi hz0 hz1 hz2 rfl (by decide) _ _ _ rfl (hown.alloc _) ⟨w1.heap.size, 0, none⟩ 1 1 [.int .u8 c] rfl rfl ?c1 ?c2 ?c3 ?c4 ?c5 ?_)
  case c1 =>
    intro j u hj
    match j, hj with
    | 0, hj => simp at hj; subst hj; simp [Addr.add]
  case c2 => intro u hu; simp at hu; subst hu; rfl
  case c3 => unfold maxLen; omega
  case c4 => omega
  case c5 => have := hb1.size; simp; omega
  intro v' w2 hown' hgrow _
  have hlt : b < w1.heap.size := by
    rcases Nat.lt_or_ge b w1.heap.size with h' | h'
    · exact h'
    · simp [Array.getElem?_eq_none h'] at hbk
  have hb2 : w2.heap[b]? = some (.cells #[.pointer (some ⟨b, 0, none⟩), v] 127 (0, 0)) := by
    rw [hgrow.block b (by simp; omega) (fun e => hne e.symm), Lib.alloc_old w1 _ b hlt]
    exact hbk
  have d0 : w2.cell? ⟨b, 0, none⟩ = some (.pointer (some ⟨b, 0, none⟩)) := by rw [Lib.cell_of_heap hb2]; rfl
  have d1 : w2.cell? ⟨b, 1, none⟩ = some v := by rw [Lib.cell_of_heap hb2]; rfl
  have f1 : w2.frozen? ⟨b, 1, none⟩ = false := Lib.frozen_of_heap hb2 1
  obtain ⟨g, cap, rfl⟩ : ∃ g cap, v' = .slice (some ⟨g, 0, none⟩) (bs.length + 1) cap := by
    rcases hown'.2 with ⟨_, h0⟩ | ⟨g, cap, cur, hv, _⟩
    · omega
    · exact ⟨g, cap, hv⟩
  go_wp2
  go_ret
  refine ⟨rfl, ?_, ?_⟩
  · exact Lib.BuilderAt.put (T := 127) (e := 5) hB hb2 (bs' := bs ++ [.int .u8 c]) (by simpa using hown') (by decide)
  · exact ((hb1.alloc (by have := hb1.size; omega) _).grown hgrow (by have := hb1.size; simp; omega) (fun k hk => (hown.lt k hk).1)).setCell (p := ⟨b, 1, none⟩) hB _
end Go.Proofs.YtcjidlgmbjebjaaGreatDoor

namespace Go.Proofs.YtcjidlgmbjebjaaGreatDoor
open Go Go.RowKit
def q1 (c : UInt8) : List UInt8 := if c.toNat = 34 ∨ c.toNat = 92 then [92, c] else [c]
def qB : List UInt8 → List UInt8
  | [] => []
  | c :: l => q1 c ++ qB l
theorem qB_append (a b : List UInt8) : qB (a ++ b) = qB a ++ qB b := by
  induction a with
  | nil => rfl
  | cons c l ih => simp [qB, ih]
theorem qB_len (a : List UInt8) : (qB a).length ≤ 2 * a.length := by
  induction a with
  | nil => simp [qB]
  | cons c l ih =>
    have : (q1 c).length ≤ 2 := by unfold q1; split <;> simp
    simp [qB]; omega
def BL (w : World) (l : List UInt8) (w' : World) : Prop := Lib.IsBuilder 127 5 w.heap.size w.heap.size (Lib.byteCells l) w' ∧ Below w.heap.size w w'
theorem bl_write (w w1 : World) (l : List UInt8) (c : UInt8) (n : Int) (hn : n = c.toNat) (h : BL w l w1) (hl : l.length ≤ 10000) :
    Calls Tryz.prog 96 #[.pointer (some ⟨w.heap.size, 0, none⟩), .int .u8 n] w1 (fun e w' => e = .returned .nilIface ∧ BL w (l ++ [c]) w') := by
  subst hn
  refine (write_byte w.heap.size w.heap.size _ _ w1 h.1 (by simp [Lib.byteCells]; omega) h.2.size).mono ?_
  rintro e w' ⟨rfl, h1, h2⟩
  refine ⟨rfl, Or.inr ?_, h.2.trans h2⟩
  simpa [Lib.byteCells] using h1
theorem take_one (s : ByteArray) (i : Nat) (h : i < s.size) : s.data.toList.take (i + 1) = s.data.toList.take i ++ [s[i]] := by
  have h2 : i < s.data.toList.length := by simpa using h
  rw [List.take_succ_eq_append_getElem h2]
  rfl
def QuR (s : ByteArray) (w : World) (n : Value) (w' : World) : Prop := ∃ i : Nat, i ≤ s.size ∧ n = .int .i64 i ∧ BL w (34 :: qB (s.data.toList.take i)) w'
def qS (s : ByteArray) : ByteArray := ⟨(34 :: qB s.data.toList ++ [34]).toArray⟩
def RetS (v : Value) (w : World) (e : Ending) (w' : World) : Prop := e = .returned v ∧ Below w.heap.size w w'
set_option maxHeartbeats 1000000 in
theorem quoted_val (s : ByteArray) (w : World) (hs : s.size ≤ 2000) :
    Calls Tryz.prog 95 #[.string s] w (RetS (.string (qS s)) w) := by
  have hB0 : BL w [] (w.alloc (.cells #[.pointer none, .slice none 0 0] 127)) := ⟨Lib.fresh_isBuilder 127 5 w, (Below.refl _ w).alloc (Nat.le_refl _) _⟩
  go_enter Tryz.func95, Tryz.ntmps95
  go_wp2_with (first | (go_at_call 96; refine (bl_write w _ _ 34 _ ?_ hB0 ?_).mono ?_; (· rfl); (· simp); rintro e w1 ⟨rfl, h1⟩))
  go_loopw [8] (fun n w' => QuR s w n w') (fun n _ => s.size - (intOf n).toNat)
  case atStart => exact ⟨0, by omega, rfl, by simpa [qB] using h1⟩
  case round =>
    obtain ⟨i, hi, rfl, hb⟩ := hrel
    clear h1 hB0
    by_cases hp : i < s.size
    · have hl := qB_len (s.data.toList.take i)
      have hl2 : (s.data.toList.take i).length ≤ 2000 := by simp; omega
      have ht := take_one s i hp
      have hq := qB_append (s.data.toList.take i) [s[i]]
      rw [← ht] at hq
      by_cases hc : (s[i]).toNat = 34 ∨ (s[i]).toNat = 92
      · have h1c : qB [s[i]] = [92] ++ [s[i]] := by simp [qB, q1, hc]
        rw [h1c] at hq
        have HQ := Lib.hid hq
        clear hq ht h1c
        rcases hc with hc | hc
        all_goals
          go_wp2_with (first
            | (go_at_call 96; refine (bl_write w _ _ s[i] _ ?_ h2 ?_).mono ?_; (· first | rfl | omega); (· simp; omega); rintro e w3 ⟨rfl, h3⟩)
            | (go_at_call 96; refine (bl_write w _ _ 92 _ ?_ hb ?_).mono ?_; (· rfl); (· simp; omega); rintro e w2 ⟨rfl, h2⟩))
          refine ⟨⟨i + 1, by omega, rfl, ?_⟩, by simp [intOf]; omega⟩
          rw [HQ.out]
          simpa using h3
      · have h1c : qB [s[i]] = [s[i]] := by simp [qB, q1, hc]
        rw [h1c] at hq
        have HQ := Lib.hid hq
        clear hq ht h1c
        have hc1 : (((s[i]).toNat : Int) == 34) = false := by rw [beq_eq_false_iff_ne]; omega
        have hc2 : (((s[i]).toNat : Int) == 92) = false := by rw [beq_eq_false_iff_ne]; omega
        clear hc
        go_wp2_with (first
            | (go_at_call 96; refine (bl_write w _ _ s[i] _ ?_ hb ?_).mono ?_; (· first | rfl | omega); (· simp; omega); rintro e w3 ⟨rfl, h3⟩))
        refine ⟨⟨i + 1, by omega, rfl, ?_⟩, by simp [intOf]; omega⟩
        rw [HQ.out]
        simpa using h3
    · obtain rfl : i = s.size := by omega
      have hl := qB_len (s.data.toList.take s.size)
      have hl2 : (s.data.toList.take s.size).length ≤ 2000 := by simp; omega
      go_wp2_with (first
            | (go_at_call 96; refine (bl_write w _ _ 34 _ ?_ hb ?_).mono ?_; (· rfl); (· simp; omega); rintro e w3 ⟨rfl, h3⟩)
            | (go_at_call 70; refine (Tryz.Builder_String _ _ (34 :: qB (s.data.toList.take s.size) ++ [34]) _ h3.1 (by simp)).mono ?_; rintro e w4 ⟨rfl, h4⟩))
      go_ret
      refine ⟨?_, ?_⟩
      · have : s.data.toList.take s.size = s.data.toList := List.take_of_length_le (by simp)
        rw [this]
        rfl
      · exact h3.2.trans h4
end Go.Proofs.YtcjidlgmbjebjaaGreatDoor

namespace Go.Proofs.YtcjidlgmbjebjaaGreatDoor.Sb
open Go
abbrev Col := ByteArray × Int × Bool
abbrev Src := Int × List Int
def sTake (n : Nat) (s : Src) : List Int × Src := if s.1 = 0 then (if s.2.length < n then ([], (8, [])) else (s.2.take n, (0, s.2.drop n))) else ([], s)
def sByte (s : Src) : Int × Src := ((sTake 1 s).1.headD 0, (sTake 1 s).2)
def be (l : List Int) : Int := l.foldl (fun n b => n * 256 + b) 0
def i64of (n : Int) : Int := if n < 9223372036854775808 then n else n - 18446744073709551616
def sInt (s : Src) : Int × Src := (i64of (be (sTake 8 s).1), (sTake 8 s).2)
def sName (s : Src) : ByteArray × Src := (strOfNums (sTake (sByte s).1.toNat (sByte s).2).1, (sTake (sByte s).1.toNat (sByte s).2).2)
def sCol (s : Src) : Col × Src := (((sName s).1, (sByte (sName s).2).1, decide ((sByte (sByte (sName s).2).2).1 = 1)), (sByte (sByte (sName s).2).2).2)
def sCols : Nat → Src → List Col × Src
  | 0, s => ([], s)
  | n + 1, s => if s.1 = 0 then ((sCol s).1 :: (sCols n (sCol s).2).1, (sCols n (sCol s).2).2) else ([], s)
structure Ent where
  nm : ByteArray
  kd : Int
  srs : Int
  cs : List Col
  id : Int
  tb : Int
  t0 : Int
  t1 : Int
  t2 : Int
  ct : Int
  nx : Int
  bn : Bool
  lx : Int
  ly : Int
  hx : Int
  hy : Int
def Ent.zero : Ent := ⟨⟨#[]⟩, 0, 0, [], 0, 0, 0, 0, 0, 0, 0, false, 0, 0, 0, 0⟩
def putB (n : Int) : List Int := [n / 72057594037927936 % 256, n / 281474976710656 % 256, n / 1099511627776 % 256, n / 4294967296 % 256, n / 16777216 % 256, n / 65536 % 256, n / 256 % 256, n % 256]
def u64of (n : Int) : Int := n % 18446744073709551616
def bytesOf (s : ByteArray) : List Int := s.data.toList.map fun b => (b.toNat : Int)
def numB (n : Int) : List Int := putB (u64of n)
def boxOf (l : List Int) : Option (Int × Int × Int × Int) :=
  if l.length = 32 then
    (if (sInt (0, l)).1 ≤ (sInt (sInt (0, l)).2).1 ∧ (sInt (sInt (sInt (0, l)).2).2).1 ≤ (sInt (sInt (sInt (sInt (0, l)).2).2).2).1 then
      some ((sInt (0, l)).1, (sInt (sInt (sInt (0, l)).2).2).1, (sInt (sInt (0, l)).2).1, (sInt (sInt (sInt (sInt (0, l)).2).2).2).1)
    else none) else none
def rHead (b : List Int) : Ent × Src :=
  let a1 := sName (0, b)
  let a2 := sByte a1.2
  let a3 := sInt a2.2
  let a4 := sByte a3.2
  let a5 := sCols a4.1.toNat a4.2
  let n0 := sInt a5.2
  let n1 := sInt n0.2
  let n2 := sInt n1.2
  let n3 := sInt n2.2
  let n4 := sInt n3.2
  let n5 := sInt n4.2
  let n6 := sInt n5.2
  (⟨a1.1, a2.1, a3.1, a5.1, n0.1, n1.1, n2.1, n3.1, n4.1, n5.1, n6.1, true, 0, 0, 0, 0⟩, n6.2)
def withBox (e : Ent) (x : Int × Int × Int × Int) : Ent := { e with bn := false, lx := x.1, ly := x.2.1, hx := x.2.2.1, hy := x.2.2.2 }
def raw (b : List Int) : Option Ent × Src :=
  if (sByte (rHead b).2).1 = 1 then ((boxOf (sTake 32 (sByte (rHead b).2).2).1).map (withBox (rHead b).1), (sTake 32 (sByte (rHead b).2).2).2)
  else (some (rHead b).1, (sByte (rHead b).2).2)
def I64 (n : Int) : Prop := -9223372036854775808 ≤ n ∧ n ≤ 9223372036854775807
end Go.Proofs.YtcjidlgmbjebjaaGreatDoor.Sb

namespace Go.Proofs.YtcjidlgmbjebjaaGreatDoor.Sb
open Go
def sizeV (n : Int) : Nat :=
  if n < 128 then 1 else if n < 16384 then 2 else if n < 2097152 then 3 else if n < 268435456 then 4 else if n < 34359738368 then 5 else if n < 4398046511104 then 6 else if n < 562949953421312 then 7 else if n < 72057594037927936 then 8 else 9
def tkN (i : Nat) (n c : Int) : Int := if i = 8 then n * 256 + c else n * 128 + c % 128
def tk : Nat → Int → List Int → Int × Nat
  | _, _, [] => (0, 0)
  | i, n, c :: r => if i = 8 ∨ c < 128 then (if sizeV (tkN i n c) = i + 1 then (tkN i n c, i + 1) else (0, 0)) else tk (i + 1) (tkN i n c) r
def takeV (l : List Int) : Int × Nat := tk 0 0 l
def lacksV (l : List Int) : Bool := decide (l.length < 9) && l.all fun c => decide (128 ≤ c)
def sVar (g : Int) (s : Src) : Int × Src :=
  if s.1 = 0 then (if (takeV s.2).2 = 0 then (0, (if lacksV s.2 then 8 else 9, [])) else if (takeV s.2).1 > g then (0, (11, [])) else ((takeV s.2).1, (0, s.2.drop (takeV s.2).2))) else (0, s)
abbrev V3 := Int × Int × ByteArray
def sRaw (k : Int) (s : Src) : V3 × Src :=
  if k = 1 then ((k, (sInt s).1, ⟨#[]⟩), (sInt s).2)
  else if k = 2 then ((k, 0, strOfNums (sTake (sVar 200 s).1.toNat (sVar 200 s).2).1), (sTake (sVar 200 s).1.toNat (sVar 200 s).2).2)
  else if k = 3 then ((k, (sByte s).1, ⟨#[]⟩), (sByte s).2)
  else ((k, 0, ⟨#[]⟩), s)
def sVal (s : Src) : V3 × Src := sRaw (sByte s).1 (sByte s).2
def sVals (ok : V3 → Bool) : Nat → Src → Option (List V3) × Src
  | 0, s => (some [], s)
  | n + 1, s => if s.1 = 0 then (if ok (sVal s).1 then ((sVals ok n (sVal s).2).1.map ((sVal s).1 :: ·), (sVals ok n (sVal s).2).2) else (none, (sVal s).2)) else (some [], s)
def sBlob (s : Src) : List Int × Src := sTake (sVar 20000 s).1.toNat (sVar 20000 s).2
def sFrom (ok : V3 → Bool) (s : Src) : Option (List Int × List V3) × Src :=
  if (sByte (sBlob s).2).1 > 4 then (none, (sByte (sBlob s).2).2)
  else if (sVals ok (sByte (sBlob s).2).1.toNat (sByte (sBlob s).2).2).2.1 = 0 then
    ((sVals ok (sByte (sBlob s).2).1.toNat (sByte (sBlob s).2).2).1.map ((sBlob s).1, ·), (sVals ok (sByte (sBlob s).2).1.toNat (sByte (sBlob s).2).2).2)
  else (none, (sVals ok (sByte (sBlob s).2).1.toNat (sByte (sBlob s).2).2).2)
def parseF (ok : V3 → Bool) (b : List Int) : Option (List Int × List V3) := if (sFrom ok (0, b)).2 = (0, []) then (sFrom ok (0, b)).1 else none
def varB (n : Int) : List Int := if n < 128 then [n] else if n < 16384 then [n / 128 % 128 + 128, n % 128] else [n / 16384 % 128 + 128, n / 128 % 128 + 128, n % 128]
def valB (v : V3) : List Int := if v.1 = 1 then numB v.2.1 else if v.1 = 2 then varB v.2.2.size ++ bytesOf v.2.2 else if v.1 = 3 then [v.2.1] else []
def elB (v : V3) : List Int := v.1 :: valB v
def vsB (vs : List V3) : List Int := vs.flatMap elB
end Go.Proofs.YtcjidlgmbjebjaaGreatDoor.Sb

namespace Go.Proofs.YtcjidlgmbjebjaaGreatDoor.Sb
open Go Go.RowKit
def q1 (c : UInt8) : List UInt8 := if c.toNat = 34 ∨ c.toNat = 92 then [92, c] else [c]
def qB : List UInt8 → List UInt8
  | [] => []
  | c :: l => q1 c ++ qB l
def unq1 : List UInt8 → List UInt8
  | [] => []
  | [c] => [c]
  | c :: d :: r => if c.toNat = 92 then d :: unq1 r else c :: unq1 (d :: r)
theorem q1_head (c : UInt8) (l : List UInt8) : (c.toNat = 92 ∨ c.toNat = 34) ∧ q1 c ++ l = 92 :: c :: l ∨ (c.toNat ≠ 92 ∧ c.toNat ≠ 34) ∧ q1 c ++ l = c :: l := by
  unfold q1
  by_cases h : c.toNat = 34 ∨ c.toNat = 92
  · rw [if_pos h]; exact .inl ⟨h.symm, rfl⟩
  · rw [if_neg h]; exact .inr ⟨by omega, rfl⟩
theorem unq1_q (l : List UInt8) : unq1 (qB l) = l := by
  induction l with
  | nil => rfl
  | cons c l ih =>
    rw [qB]
    rcases q1_head c (qB l) with ⟨h, e⟩ | ⟨h, e⟩
    · rw [e, unq1, if_pos (by decide), ih]
    · rw [e]
      cases hq : qB l with
      | nil => rw [hq] at ih; rw [← ih]; rfl
      | cons d r => rw [unq1, if_neg h.1, ← hq, ih]
theorem digit_nat (u : Nat) (h : u < 10) : (UInt8.ofNat (48 + u)).toNat = 48 + u := by
  rw [UInt8.toNat_ofNat']; omega
def uintEnd (x : Nat) (c : UInt8) : Lib.NumEnd Nat :=
  if 48 ≤ c.toNat ∧ c.toNat ≤ 57 then (if 1844674407370955162 ≤ x then .range else if 18446744073709551616 ≤ x * 10 + (c.toNat - 48) then .range else .ok (x * 10 + (c.toNat - 48))) else Lib.parseMag []
theorem uint_snoc (c : UInt8) (l : List UInt8) : ∀ acc x, Lib.parseUint10 acc l = .ok x → Lib.parseUint10 acc (l ++ [c]) = uintEnd x c := by
  induction l with
  | nil => intro acc x h; simp only [Lib.parseUint10] at h; injection h with h; subst h; rfl
  | cons a l ih =>
    intro acc x h
    rw [List.cons_append]
    simp only [Lib.parseUint10] at h ⊢
    split at h
    · split at h
      · cases h
      · split at h
        · cases h
        · rename_i h1 h2 h3
          rw [if_pos h1, if_neg h2, if_neg h3]
          exact ih _ _ h
    · cases h
theorem uint_dec (u : Nat) : u < 18446744073709551616 → Lib.parseUint10 0 (Lib.decDigits u) = .ok u := by
  induction u using Nat.strongRecOn with
  | _ u ih =>
    intro hu
    by_cases h : u < 10
    · rw [Lib.decDigits, dif_pos h, Lib.parseUint10, digit_nat u h, if_pos (by omega), if_neg (by omega), if_neg (by omega), Lib.parseUint10]
      congr 1; omega
    · rw [Lib.decDigits, dif_neg h, uint_snoc _ _ _ _ (ih (u / 10) (by omega) (by omega)), uintEnd, digit_nat _ (by omega), if_pos (by omega), if_neg (by omega), if_neg (by omega)]
      congr 1; omega
theorem dec_ne (u : Nat) : ∃ c r, Lib.decDigits u = c :: r ∧ 48 ≤ c.toNat ∧ c.toNat ≤ 57 := by
  induction u using Nat.strongRecOn with
  | _ u ih =>
    by_cases h : u < 10
    · rw [Lib.decDigits, dif_pos h]
      exact ⟨_, [], rfl, by rw [digit_nat u h]; omega, by rw [digit_nat u h]; omega⟩
    · rw [Lib.decDigits, dif_neg h]
      obtain ⟨c, r, e, h1, h2⟩ := ih (u / 10) (by omega)
      rw [e]
      exact ⟨c, r ++ _, rfl, h1, h2⟩
theorem atoi_itoa (n : Int) (h : I64 n) : Lib.atoiAll (Lib.itoa n) = .ok n := by
  unfold I64 at h
  unfold Lib.itoa
  by_cases hn : n < 0
  · rw [if_pos hn]
    obtain ⟨c, r, e, _, _⟩ := dec_ne n.natAbs
    have hu := uint_dec n.natAbs (by omega)
    unfold Lib.atoiAll
    dsimp only
    rw [if_pos (by decide)]
    unfold Lib.parseMag
    rw [if_neg (by rw [e]; simp), hu]
    dsimp only
    rw [if_neg (by simp), if_neg (by omega), if_pos (by decide)]
    congr 1; omega
  · rw [if_neg hn]
    obtain ⟨c, r, e, h1, h2⟩ := dec_ne n.toNat
    have hu := uint_dec n.toNat (by omega)
    rw [e] at hu ⊢
    unfold Lib.atoiAll
    dsimp only
    rw [if_neg (by omega)]
    unfold Lib.parseMag
    rw [if_neg (by simp), hu]
    dsimp only
    rw [if_neg (by omega), if_neg (by omega), if_neg (by omega)]
    congr 1; omega
def lNull : List UInt8 := [110, 117, 108, 108]
def lTrue : List UInt8 := [116, 114, 117, 101]
def lFalse : List UInt8 := [102, 97, 108, 115, 101]
def bA (l : List UInt8) : ByteArray := ⟨l.toArray⟩
theorem itoa_head (n : Int) : ∃ c r, Lib.itoa n = c :: r ∧ c.toNat ≠ 34 ∧ c.toNat < 60 := by
  unfold Lib.itoa
  by_cases hn : n < 0
  · rw [if_pos hn]; exact ⟨45, _, rfl, by decide, by decide⟩
  · rw [if_neg hn]
    obtain ⟨c, r, e, h1, h2⟩ := dec_ne n.toNat
    exact ⟨c, r, e, by omega, by omega⟩
theorem nDigits_le (u : Nat) (h : u < 10000000000000000000) : Lib.nDigits u ≤ 19 := by
  have : ∀ k u, u < 10 ^ (k + 1) → Lib.nDigits u ≤ k + 1 := by
    intro k
    induction k with
    | zero => intro u h; rw [Lib.nDigits_small (by simpa using h)]; exact Nat.le_refl _
    | succ k ih =>
      intro u h
      by_cases h10 : u < 10
      · rw [Lib.nDigits_small h10]; omega
      · rw [Lib.nDigits_big h10]
        have := ih (u / 10) (by rw [Nat.pow_succ] at h; omega)
        omega
  exact this 18 u (by simpa using h)
theorem itoa_len (n : Int) (h : I64 n) : 1 ≤ (Lib.itoa n).length ∧ (Lib.itoa n).length ≤ 20 := by
  unfold I64 at h
  have hp := Lib.nDigits_pos
  unfold Lib.itoa
  by_cases hn : n < 0
  · rw [if_pos hn, List.length_cons, Lib.decDigits_length]
    have := nDigits_le n.natAbs (by omega)
    omega
  · rw [if_neg hn, Lib.decDigits_length]
    have := nDigits_le n.toNat (by omega)
    have := hp n.toNat
    omega
theorem itoa_words (n : Int) : Lib.itoa n ≠ lNull ∧ Lib.itoa n ≠ lTrue ∧ Lib.itoa n ≠ lFalse ∧ (Lib.itoa n).head? ≠ some 34 := by
  obtain ⟨c, r, e, h1, h2⟩ := itoa_head n
  rw [e]
  refine ⟨?_, ?_, ?_, ?_⟩ <;> intro h <;> injection h with h <;> subst h <;> revert h1 h2 <;> decide
end Go.Proofs.YtcjidlgmbjebjaaGreatDoor.Sb

namespace Go.Proofs.YtcjidlgmbjebjaaGreatDoor
open Go Go.RowKit
theorem uq_end (m : ByteArray) (i : Nat) (h : m.size ≤ i) : Sb.unq1 (m.data.toList.drop i) = [] := by
  rw [List.drop_eq_nil_of_le (by simpa using h)]; rfl
theorem uq_drop (m : ByteArray) (i : Nat) (h : i < m.size) : m.data.toList.drop i = m[i] :: m.data.toList.drop (i + 1) := by
  have h2 : i < m.data.toList.length := by simpa using h
  rw [List.drop_eq_getElem_cons h2]
  rfl
theorem uq_one (m : ByteArray) (i : Nat) (h : i < m.size) (hc : ¬ ((m[i]).toNat = 92 ∧ i + 1 < m.size)) :
    Sb.unq1 (m.data.toList.drop i) = m[i] :: Sb.unq1 (m.data.toList.drop (i + 1)) := by
  rw [uq_drop m i h]
  by_cases h1 : i + 1 < m.size
  · rw [uq_drop m (i + 1) h1, Sb.unq1, if_neg (fun e => hc ⟨e, h1⟩)]
  · rw [List.drop_eq_nil_of_le (by simp; omega)]; rfl
theorem uq_two (m : ByteArray) (i : Nat) (h : i < m.size) (hc : (m[i]).toNat = 92) (h1 : i + 1 < m.size) :
    Sb.unq1 (m.data.toList.drop i) = m[i + 1] :: Sb.unq1 (m.data.toList.drop (i + 2)) := by
  rw [uq_drop m i h, uq_drop m (i + 1) h1, Sb.unq1, if_pos hc]
def UqR (m : ByteArray) (w : World) (n : Value) (w' : World) : Prop :=
  ∃ (i : Nat) (l : List UInt8), i ≤ m.size ∧ n = .int .i64 i ∧ BL w l w' ∧ l.length ≤ i ∧ l ++ Sb.unq1 (m.data.toList.drop i) = Sb.unq1 m.data.toList
theorem UqR.step (m : ByteArray) (w w' : World) (i j : Nat) (l : List UInt8) (c : UInt8) (hj : j ≤ m.size) (hij : i < j) (hl : l.length ≤ i)
    (he : l ++ Sb.unq1 (m.data.toList.drop i) = Sb.unq1 m.data.toList) (hu : Sb.unq1 (m.data.toList.drop i) = c :: Sb.unq1 (m.data.toList.drop j))
    (hb : BL w (l ++ [c]) w') : UqR m w (.int .i64 j) w' := by
  refine ⟨j, l ++ [c], hj, rfl, hb, by simp; omega, ?_⟩
  rw [← he, hu]; simp
theorem bl_string (B b : Nat) (l : List UInt8) (w : World) (h : Lib.IsBuilder 127 5 B b (Lib.byteCells l) w) (hBw : B ≤ w.heap.size) :
    Calls Tryz.prog 70 #[.pointer (some ⟨b, 0, none⟩)] w fun e w' => e = .returned (.string ⟨l.toArray⟩) ∧ Below B w w' := Any.Builder_String_any Tryz.lays169 Tryz.Builder_Extra_169 B b l w h hBw
def uS (s : ByteArray) : ByteArray := ⟨(Sb.unq1 (s.extract 1 (s.size - 1)).data.toList).toArray⟩
set_option maxHeartbeats 1000000 in
theorem unquoted_val (s : ByteArray) (w : World) (h2 : 2 ≤ s.size) (hs : s.size ≤ 5000) :
    Calls Tryz.prog 42 #[.string s] w (RetS (.string (uS s)) w) := by
  have hB0 : BL w [] (w.alloc (.cells #[.pointer none, .slice none 0 0] 127)) := ⟨Lib.fresh_isBuilder 127 5 w, (Below.refl _ w).alloc (Nat.le_refl _) _⟩
  go_enter Tryz.func42, Tryz.ntmps42
  go_wp2_with fail
  have hm : (s.extract 1 (s.size - 1)).size ≤ 5000 := by simp; omega
  have hE := Lib.hid (show uS s = ⟨(Sb.unq1 (s.extract 1 (s.size - 1)).data.toList).toArray⟩ from rfl)
  generalize s.extract 1 (s.size - 1) = m at hm hE ⊢
  go_loopw [5] (fun n w' => UqR m w n w') (fun n _ => m.size - (intOf n).toNat)
  case atStart => exact ⟨0, [], by omega, rfl, hB0, by simp, by simp⟩
  case round =>
    obtain ⟨i, l, hi, rfl, hb, hl, he⟩ := hrel
    clear hB0
    by_cases hp : i < m.size
    · by_cases hc : (m[i]).toNat = 92
      · by_cases h1 : i + 1 < m.size
        · have hu := uq_two m i hp hc h1
          have hl2 : l.length ≤ 10000 := by omega
          have HS := Lib.hid (UqR.step m w · i (i + 2) l m[i + 1] (by omega) (by omega) hl he hu)
          clear hu he
          go_wp2_with (first
            | (go_at_call 96; refine (bl_write w _ _ m[i + 1] _ ?_ hb hl2).mono ?_; (· first | rfl | omega); rintro e w3 ⟨rfl, h3⟩))
          exact ⟨HS.out _ h3, by simp [intOf]; omega⟩
        · have hu := uq_one m i hp (by omega)
          have hl2 : l.length ≤ 10000 := by omega
          have HS := Lib.hid (UqR.step m w · i (i + 1) l m[i] (by omega) (by omega) hl he hu)
          clear hu he
          go_wp2_with (first
            | (go_at_call 96; refine (bl_write w _ _ m[i] _ ?_ hb hl2).mono ?_; (· first | rfl | omega); rintro e w3 ⟨rfl, h3⟩))
          exact ⟨HS.out _ h3, by simp [intOf]; omega⟩
      · have hu := uq_one m i hp (by omega)
        have hl2 : l.length ≤ 10000 := by omega
        have HS := Lib.hid (UqR.step m w · i (i + 1) l m[i] (by omega) (by omega) hl he hu)
        have hc2 : (((m[i]).toNat : Int) == 92) = false := by rw [beq_eq_false_iff_ne]; omega
        clear hu he hc
        go_wp2_with (first
            | (go_at_call 96; refine (bl_write w _ _ m[i] _ ?_ hb hl2).mono ?_; (· first | rfl | omega); rintro e w3 ⟨rfl, h3⟩))
        exact ⟨HS.out _ h3, by simp [intOf]; omega⟩
    · obtain rfl : i = m.size := by omega
      rw [uq_end m m.size (Nat.le_refl _), List.append_nil] at he
      have HE := Lib.hid he
      clear he
      have hl2 : l.length ≤ 10000 := by omega
      go_wp2_with (first
            | (go_at_call 70; refine (bl_string _ _ l _ hb.1 hb.2.size).mono ?_; rintro e w4 ⟨rfl, h4⟩))
      go_ret
      exact ⟨by rw [hE.out, ← HE.out]; rfl, hb.2.trans h4⟩
end Go.Proofs.YtcjidlgmbjebjaaGreatDoor
