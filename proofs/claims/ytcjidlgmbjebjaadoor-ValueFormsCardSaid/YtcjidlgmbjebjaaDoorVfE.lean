/- Contracts of the library, laid at this program by the shelf's own command (plain words). -/
import Derived.Shelf.Strings.Builder1
import Derived.Shelf.Strings.Builder2
import Derived.Shelf.Strconv.Itoa0
import Derived.Shelf.Strconv.Itoa1
import Derived.Shelf.LaysM
import Derived.Shelf.Strconv.Itoa2
import Derived.Shelf.Strconv.Itoa3
import Derived.Test.YtcjidlgmbjebjaaDoorProg
import Derived.Test.YtcjidlgmbjebjaaDoorVfA
import Derived.Lib.ItoaLen
import Derived.Test.YtcjidlgmbjebjaaDoorVfD
import Derived.Lib.SmallJoins
set_option linter.unusedVariables false
set_option linter.unusedSimpArgs false
set_option maxRecDepth 100000
namespace Go.Proofs.YtcjidlgmbjebjaaDoor
open Go Go.Shelf
def Tryd.lays169_ren : Go.Shelf.Ren := ⟨fun | 169 => 112 | n => n, fun | 70 => 169 | 9 => 9 | 0 => 0 | 72 => 171 | 37 => 43 | 127 => 207 | 3 => 3 | 5 => 5 | n => n, fun | n => n⟩
theorem Tryd.lays169 : Go.Proofs.Lays.n169 Tryd.prog Tryd.lays169_ren := {
  mixed := by kernel_rfl
  f169 := Tryd.func112.trans (congrArg some (by kernel_rfl))
  t0 := Tryd.underlying0
  a0 := Tryd.isAgg0
  z0 := Tryd.sizeOf0
  v0 := Tryd.zeroValue0
  t3 := Tryd.underlying3
  a3 := Tryd.isAgg3
  z3 := Tryd.sizeOf3
  v3 := Tryd.zeroValue3
  t9 := Tryd.underlying9
  a9 := Tryd.isAgg9
  z9 := Tryd.sizeOf9
  v9 := Tryd.zeroValue9
  t37 := Tryd.underlying43
  a37 := Tryd.isAgg43
  z37 := Tryd.sizeOf43
  v37 := Tryd.zeroValue43
  t70 := Tryd.underlying169
  a70 := Tryd.isAgg169
  z70 := Tryd.sizeOf169
  v70 := Tryd.zeroValue169
  t72 := Tryd.underlying171
  a72 := Tryd.isAgg171
  z72 := Tryd.sizeOf171
  v72 := Tryd.zeroValue171
  t127 := Tryd.underlying207
  a127 := Tryd.isAgg207
  z127 := Tryd.sizeOf207
  v127 := Tryd.zeroValue207 }
theorem Tryd.Builder_Extra_169 : Builder.Extra Tryd.prog Tryd.lays169_ren := {
  sizeBuilder := by kernel_rfl
  liesBuilder := by kernel_rfl
  t5 := Tryd.underlying5
  a5 := Tryd.isAgg5
  z5 := Tryd.sizeOf5
  v5 := Tryd.zeroValue5
  infoByte := by kernel_rfl
  cellsByte := by kernel_rfl
  sizeByte := by kernel_rfl
  neB5 := by decide }
open Go.RowKit in
/-- (*strings.Builder).String: "String returns the accumulated string.": OF A BUILDER THAT HOLDS AT LEAST ONE BYTE. ✋ THE MODEL FREEZES THOSE BYTES IN THE BUFFER (unsafe.String): a later write INTO them ends the model's run without an answer; a later append BEHIND them goes on. The statement's order of evaluation is drawn: one draw. (LAID: no walk: one application.) -/
theorem Tryd.Builder_String (B b : Nat) (l : List UInt8) (w : World) (h : Lib.IsBuilder 171 5 B b (Lib.byteCells l) w) (h0 : l ≠ []) :
    Calls Tryd.prog 112 #[.pointer (some ⟨b, 0, none⟩)] w fun e w' => e = .returned (.string ⟨l.toArray⟩) ∧ Below B w w' := Any.Builder_String Tryd.lays169 Tryd.Builder_Extra_169 B b l w h h0
def Tryd.laysM171_ren : Go.Shelf.Ren := ⟨fun | 171 => 53 | 243 => 109 | 246 => 146 | 283 => 169 | 284 => 170 | 285 => 171 | 286 => 172 | 129 => 203 | 317 => 202 | 318 => 204 | 319 => 205 | 320 => 206 | 337 => 222 | 338 => 223 | n => n, fun | 3 => 3 | 9 => 9 | 2 => 2 | 4 => 4 | 171 => 235 | 0 => 0 | 53 => 100 | 37 => 43 | 5 => 5 | 173 => 237 | 212 => 266 | 51 => 243 | 20 => 20 | 213 => 267 | 46 => 80 | 232 => 280 | 233 => 281 | n => n, fun | 17 => 4 | 18 => 6 | 19 => 7 | n => n⟩
theorem Tryd.laysM171 : Go.Proofs.LaysM.n171 Tryd.prog Tryd.laysM171_ren := {
  mixed := by kernel_rfl
  f129 := Tryd.func203.trans (congrArg some (by kernel_rfl))
  f171 := Tryd.func53.trans (congrArg some (by kernel_rfl))
  f243 := Tryd.func109.trans (congrArg some (by kernel_rfl))
  f246 := Tryd.func146.trans (congrArg some (by kernel_rfl))
  f283 := Tryd.func169.trans (congrArg some (by kernel_rfl))
  f284 := Tryd.func170.trans (congrArg some (by kernel_rfl))
  f285 := Tryd.func171.trans (congrArg some (by kernel_rfl))
  f286 := Tryd.func172.trans (congrArg some (by kernel_rfl))
  f317 := Tryd.func202.trans (congrArg some (by kernel_rfl))
  f318 := Tryd.func204.trans (congrArg some (by kernel_rfl))
  f319 := Tryd.func205.trans (congrArg some (by kernel_rfl))
  f320 := Tryd.func206.trans (congrArg some (by kernel_rfl))
  f337 := Tryd.func222.trans (congrArg some (by kernel_rfl))
  f338 := Tryd.func223.trans (congrArg some (by kernel_rfl))
  t0 := Tryd.underlying0
  a0 := Tryd.isAgg0
  z0 := Tryd.sizeOf0
  v0 := Tryd.zeroValue0
  t2 := Tryd.underlying2
  a2 := Tryd.isAgg2
  z2 := Tryd.sizeOf2
  v2 := Tryd.zeroValue2
  t3 := Tryd.underlying3
  a3 := Tryd.isAgg3
  z3 := Tryd.sizeOf3
  v3 := Tryd.zeroValue3
  t4 := Tryd.underlying4
  a4 := Tryd.isAgg4
  z4 := Tryd.sizeOf4
  v4 := Tryd.zeroValue4
  t5 := Tryd.underlying5
  a5 := Tryd.isAgg5
  z5 := Tryd.sizeOf5
  v5 := Tryd.zeroValue5
  t9 := Tryd.underlying9
  a9 := Tryd.isAgg9
  z9 := Tryd.sizeOf9
  v9 := Tryd.zeroValue9
  t20 := Tryd.underlying20
  a20 := Tryd.isAgg20
  z20 := Tryd.sizeOf20
  v20 := Tryd.zeroValue20
  t37 := Tryd.underlying43
  a37 := Tryd.isAgg43
  z37 := Tryd.sizeOf43
  v37 := Tryd.zeroValue43
  t46 := Tryd.underlying80
  a46 := Tryd.isAgg80
  z46 := Tryd.sizeOf80
  v46 := Tryd.zeroValue80
  t51 := Tryd.underlying243
  a51 := Tryd.isAgg243
  z51 := Tryd.sizeOf243
  v51 := Tryd.zeroValue243
  t53 := Tryd.underlying100
  a53 := Tryd.isAgg100
  z53 := Tryd.sizeOf100
  v53 := Tryd.zeroValue100
  t171 := Tryd.underlying235
  a171 := Tryd.isAgg235
  z171 := Tryd.sizeOf235
  v171 := Tryd.zeroValue235
  t173 := Tryd.underlying237
  a173 := Tryd.isAgg237
  z173 := Tryd.sizeOf237
  v173 := Tryd.zeroValue237
  t212 := Tryd.underlying266
  a212 := Tryd.isAgg266
  z212 := Tryd.sizeOf266
  v212 := Tryd.zeroValue266
  t213 := Tryd.underlying267
  a213 := Tryd.isAgg267
  z213 := Tryd.sizeOf267
  t232 := Tryd.underlying280
  a232 := Tryd.isAgg280
  z232 := Tryd.sizeOf280
  v232 := Tryd.zeroValue280
  t233 := Tryd.underlying281
  a233 := Tryd.isAgg281
  z233 := Tryd.sizeOf281
  v233 := Tryd.zeroValue281
  g17 := by kernel_rfl
  g18 := by kernel_rfl
  g19 := by kernel_rfl
  i0 := by kernel_rfl
  i2 := by kernel_rfl
  i3 := by kernel_rfl
  i4 := by kernel_rfl
  i5 := by kernel_rfl
  i9 := by kernel_rfl
  i20 := by kernel_rfl
  i37 := by kernel_rfl
  i46 := by kernel_rfl
  i51 := by kernel_rfl
  i53 := by kernel_rfl
  i171 := by kernel_rfl
  i173 := by kernel_rfl
  i212 := by kernel_rfl
  i232 := by kernel_rfl
  i233 := by kernel_rfl
  m17 := by kernel_rfl
  m18 := by kernel_rfl
  m19 := by kernel_rfl }
open Go.RowKit Go.Sort Go.Lib in
/-- strconv.Itoa: "Itoa is equivalent to FormatInt(int64(i), 10).": i's DECIMAL NUMERAL ('Lib.itoa': a '-' where i is negative, then the digits), FOR EVERY int. The world behind the call: the world before it, new blocks behind the heap (the library's 'var a [24]byte'), draws. (LAID: no walk: one application.) -/
theorem Tryd.strconv_Itoa (n : Int) (h0 : -9223372036854775808 ≤ n) (h1 : n ≤ 9223372036854775807) (w : World) (htab : Lib.TabIs Tryd.prog w "internal/strconv.uint64pow10" .u64 Lib.pow10Tab) :
    Calls Tryd.prog 53 #[.int .i64 n] w fun e w' => e = .returned (.string ⟨(Lib.itoa n).toArray⟩) ∧ ∃ k os, w' = grow (w.drewN k) os := Any.strconv_Itoa Tryd.laysM171 n h0 h1 w htab
end Go.Proofs.YtcjidlgmbjebjaaDoor

namespace Go.Proofs.YtcjidlgmbjebjaaDoor
open Go Go.RowKit
theorem bsize : Option.map (fun x => x.size) (Tryd.prog.info? 171) = some 2 := by kernel_rfl
theorem blies : liesAt Tryd.prog Tryd.prog.depth 171 (2 / Tryd.prog.cellsOf 171) 0 171 1 = true := by kernel_rfl
theorem binfo : Option.map (fun i => (i.zero, i.size, i.bytes)) (Tryd.prog.info? 5) = some (some (Value.int IntKind.u8 0), 1, 1) := by kernel_rfl
set_option maxHeartbeats 1000000 in
theorem cc_used (b : Nat) (w : World) (h0 : w.cell? ⟨b, 0, none⟩ = some (.pointer (some ⟨b, 0, none⟩))) :
    Calls Tryd.prog 147 #[.pointer (some ⟨b, 0, none⟩)] w fun e w' => e = .returned (.tuple #[]) ∧ w' = w := by
  obtain ⟨j, hj, _⟩ := Option.map_eq_some_iff.1 bsize
  go_enter Tryd.func147, Tryd.ntmps147
  go_wp2
  rw [Lib.run_neq_ptr_same w _ Tryd.underlying169 hj]
  go_wp2
  go_end0
  exact ⟨rfl, rfl⟩
set_option maxHeartbeats 1000000 in
theorem cc_fresh (b : Nat) (w : World) (h0 : w.cell? ⟨b, 0, none⟩ = some (.pointer none)) (hsh : w.shape? b = some (171, 2)) (hfz : w.frozen? ⟨b, 0, none⟩ = false) :
    Calls Tryd.prog 147 #[.pointer (some ⟨b, 0, none⟩)] w fun e w' => e = .returned (.tuple #[]) ∧ w' = w.setCell ⟨b, 0, none⟩ (.pointer (some ⟨b, 0, none⟩)) := by
  obtain ⟨j, hj, hjs⟩ := Option.map_eq_some_iff.1 bsize
  go_enter Tryd.func147, Tryd.ntmps147
  go_wp2
  rw [Lib.run_to_unsafe w ⟨b, 0, none⟩ Tryd.underlying169 Tryd.underlying248 hj (by rw [hjs]; decide) hsh (Nat.zero_lt_succ 1)]
  simp only [Result.andThen]
  rw [Oper.upon_value]
  go_wp2
  rw [run_callFunc_extern Tryd.func180 (by kernel_rfl) (by kernel_rfl) (by kernel_rfl) (e := Extern.AbiNoEscape.same) (by kernel_rfl)]
  rw [Lib.run_noEscape]
  simp only [Result.andThen]
  rw [Oper.upon_value]
  go_wp2
  rw [Lib.run_from_unsafe w ⟨b, 0, none⟩ Tryd.underlying248 Tryd.underlying169 hj hsh blies]
  simp only [Result.andThen]
  rw [Oper.upon_value]
  go_wp2
  go_end0
  exact ⟨rfl, rfl⟩
theorem cc_any (B b : Nat) (bs : List Value) (w : World) (h : Lib.IsBuilder 171 5 B b bs w) :
    Calls Tryd.prog 147 #[.pointer (some ⟨b, 0, none⟩)] w fun e w' => e = .returned (.tuple #[]) ∧ (Lib.BuilderAt 171 5 B b (.pointer (some ⟨b, 0, none⟩)) bs w' ∧ Below B w w') := by
  rcases h with h | h
  · refine (cc_fresh b w h.cell0 h.shape h.frozen0).mono ?_
    rintro e w' ⟨rfl, rfl⟩
    exact ⟨rfl, h.used _, (Below.refl B w).setCell (p := ⟨b, 0, none⟩) h.1 _⟩
  · refine (cc_used b w h.cell0).mono ?_
    rintro e w' ⟨rfl, rfl⟩
    exact ⟨rfl, h, Below.refl B _⟩
set_option maxHeartbeats 2000000 in
theorem write_byte (B b : Nat) (bs : List Value) (c : Int) (w : World) (h : Lib.IsBuilder 171 5 B b bs w) (hlen : bs.length + 1 ≤ 140737488355328) (hBw : B ≤ w.heap.size) :
    Calls Tryd.prog 119 #[.pointer (some ⟨b, 0, none⟩), .int .u8 c] w fun e w' => e = .returned .nilIface ∧ (Lib.BuilderAt 171 5 B b (.pointer (some ⟨b, 0, none⟩)) (bs ++ [.int .u8 c]) w' ∧ Below B w w') := by
  obtain ⟨i0, hi, hz0, hz1, hz2⟩ := info_parts binfo
  go_enter Tryd.func119, Tryd.ntmps119
  go_wp2_with (go_at_call 147; refine (cc_any B b bs _ h).mono ?_)
  rintro e w1 ⟨rfl, h1, hb1⟩
  obtain ⟨hB, v, hbk, hown, hne⟩ := h1
  have c0 : w1.cell? ⟨b, 0, none⟩ = some (.pointer (some ⟨b, 0, none⟩)) := by rw [Lib.cell_of_heap hbk]; rfl
  have c1 : w1.cell? ⟨b, 1, none⟩ = some v := by rw [Lib.cell_of_heap hbk]; rfl
  go_wp2_with (at_builtin; refine wpList_append_own _ rfl _ _ 43 rfl B 5 i0 (.int .u8 0) 1 1 Tryd.underlying43 hi hz0 hz1 hz2 rfl (by decide) _ _ _ rfl (hown.alloc _) ⟨w1.heap.size, 0, none⟩ 1 1 [.int .u8 c] rfl rfl ?c1 ?c2 ?c3 ?c4 ?c5 ?_)
  case c1 =>
    intro j u hj
    match j, hj with
    | 0, hj => simp at hj; subst hj; simp [Addr.add]
  case c2 => intro u hu; simp at hu; subst hu; rfl
  case c3 => unfold maxLen; omega
  case c4 => omega
  case c5 => have := hb1.size; simp; omega
  intro v' w2 hown' hgrow _
  have hlt : b < w1.heap.size := by
    rcases Nat.lt_or_ge b w1.heap.size with h' | h'
    · exact h'
    · simp [Array.getElem?_eq_none h'] at hbk
  have hb2 : w2.heap[b]? = some (.cells #[.pointer (some ⟨b, 0, none⟩), v] 171 (0, 0)) := by
    rw [hgrow.block b (by simp; omega) (fun e => hne e.symm), Lib.alloc_old w1 _ b hlt]
    exact hbk
  have d0 : w2.cell? ⟨b, 0, none⟩ = some (.pointer (some ⟨b, 0, none⟩)) := by rw [Lib.cell_of_heap hb2]; rfl
  have d1 : w2.cell? ⟨b, 1, none⟩ = some v := by rw [Lib.cell_of_heap hb2]; rfl
  have f1 : w2.frozen? ⟨b, 1, none⟩ = false := Lib.frozen_of_heap hb2 1
  obtain ⟨g, cap, rfl⟩ : ∃ g cap, v' = .slice (some ⟨g, 0, none⟩) (bs.length + 1) cap := by
    rcases hown'.2 with ⟨_, h0⟩ | ⟨g, cap, cur, hv, _⟩
    · omega
    · exact ⟨g, cap, hv⟩
  go_wp2
  go_ret
  refine ⟨rfl, ?_, ?_⟩
  · exact Lib.BuilderAt.put (T := 171) (e := 5) hB hb2 (bs' := bs ++ [.int .u8 c]) (by simpa using hown') (by decide)
  · exact ((hb1.alloc (by have := hb1.size; omega) _).grown hgrow (by have := hb1.size; simp; omega) (fun k hk => (hown.lt k hk).1)).setCell (p := ⟨b, 1, none⟩) hB _
end Go.Proofs.YtcjidlgmbjebjaaDoor

namespace Go.Proofs.YtcjidlgmbjebjaaDoor
open Go Go.RowKit
def q1 (c : UInt8) : List UInt8 := if c.toNat = 34 ∨ c.toNat = 92 then [92, c] else [c]
def qB : List UInt8 → List UInt8
  | [] => []
  | c :: l => q1 c ++ qB l
theorem qB_append (a b : List UInt8) : qB (a ++ b) = qB a ++ qB b := by
  induction a with
  | nil => rfl
  | cons c l ih => simp [qB, ih]
theorem qB_len (a : List UInt8) : (qB a).length ≤ 2 * a.length := by
  induction a with
  | nil => simp [qB]
  | cons c l ih =>
    have : (q1 c).length ≤ 2 := by unfold q1; split <;> simp
    simp [qB]; omega
def BL (w : World) (l : List UInt8) (w' : World) : Prop := Lib.IsBuilder 171 5 w.heap.size w.heap.size (Lib.byteCells l) w' ∧ Below w.heap.size w w'
theorem bl_write (w w1 : World) (l : List UInt8) (c : UInt8) (n : Int) (hn : n = c.toNat) (h : BL w l w1) (hl : l.length ≤ 10000) :
    Calls Tryd.prog 119 #[.pointer (some ⟨w.heap.size, 0, none⟩), .int .u8 n] w1 (fun e w' => e = .returned .nilIface ∧ BL w (l ++ [c]) w') := by
  subst hn
  refine (write_byte w.heap.size w.heap.size _ _ w1 h.1 (by simp [Lib.byteCells]; omega) h.2.size).mono ?_
  rintro e w' ⟨rfl, h1, h2⟩
  refine ⟨rfl, Or.inr ?_, h.2.trans h2⟩
  simpa [Lib.byteCells] using h1
theorem take_one (s : ByteArray) (i : Nat) (h : i < s.size) : s.data.toList.take (i + 1) = s.data.toList.take i ++ [s[i]] := by
  have h2 : i < s.data.toList.length := by simpa using h
  rw [List.take_succ_eq_append_getElem h2]
  rfl
def QuR (s : ByteArray) (w : World) (n : Value) (w' : World) : Prop := ∃ i : Nat, i ≤ s.size ∧ n = .int .i64 i ∧ BL w (34 :: qB (s.data.toList.take i)) w'
def qS (s : ByteArray) : ByteArray := ⟨(34 :: qB s.data.toList ++ [34]).toArray⟩
def RetS (v : Value) (w : World) (e : Ending) (w' : World) : Prop := e = .returned v ∧ Below w.heap.size w w'
set_option maxHeartbeats 1000000 in
theorem quoted_val (s : ByteArray) (w : World) (hs : s.size ≤ 2000) :
    Calls Tryd.prog 69 #[.string s] w (RetS (.string (qS s)) w) := by
  have hB0 : BL w [] (w.alloc (.cells #[.pointer none, .slice none 0 0] 171)) := ⟨Lib.fresh_isBuilder 171 5 w, (Below.refl _ w).alloc (Nat.le_refl _) _⟩
  go_enter Tryd.func69, Tryd.ntmps69
  go_wp2_with (first | (go_at_call 119; refine (bl_write w _ _ 34 _ ?_ hB0 ?_).mono ?_; (· rfl); (· simp); rintro e w1 ⟨rfl, h1⟩))
  go_loopw [8] (fun n w' => QuR s w n w') (fun n _ => s.size - (intOf n).toNat)
  case atStart => exact ⟨0, by omega, rfl, by simpa [qB] using h1⟩
  case round =>
    obtain ⟨i, hi, rfl, hb⟩ := hrel
    clear h1 hB0
    by_cases hp : i < s.size
    · have hl := qB_len (s.data.toList.take i)
      have hl2 : (s.data.toList.take i).length ≤ 2000 := by simp; omega
      have ht := take_one s i hp
      have hq := qB_append (s.data.toList.take i) [s[i]]
      rw [← ht] at hq
      by_cases hc : (s[i]).toNat = 34 ∨ (s[i]).toNat = 92
      · have h1c : qB [s[i]] = [92] ++ [s[i]] := by simp [qB, q1, hc]
        rw [h1c] at hq
        have HQ := Lib.hid hq
        clear hq ht h1c
        rcases hc with hc | hc
        all_goals
          go_wp2_with (first
            | (go_at_call 119; refine (bl_write w _ _ s[i] _ ?_ h2 ?_).mono ?_; (· first | rfl | omega); (· simp; omega); rintro e w3 ⟨rfl, h3⟩)
            | (go_at_call 119; refine (bl_write w _ _ 92 _ ?_ hb ?_).mono ?_; (· rfl); (· simp; omega); rintro e w2 ⟨rfl, h2⟩))
          refine ⟨⟨i + 1, by omega, rfl, ?_⟩, by simp [intOf]; omega⟩
          rw [HQ.out]
          simpa using h3
      · have h1c : qB [s[i]] = [s[i]] := by simp [qB, q1, hc]
        rw [h1c] at hq
        have HQ := Lib.hid hq
        clear hq ht h1c
        have hc1 : (((s[i]).toNat : Int) == 34) = false := by rw [beq_eq_false_iff_ne]; omega
        have hc2 : (((s[i]).toNat : Int) == 92) = false := by rw [beq_eq_false_iff_ne]; omega
        clear hc
        go_wp2_with (first
            | (go_at_call 119; refine (bl_write w _ _ s[i] _ ?_ hb ?_).mono ?_; (· first | rfl | omega); (· simp; omega); rintro e w3 ⟨rfl, h3⟩))
        refine ⟨⟨i + 1, by omega, rfl, ?_⟩, by simp [intOf]; omega⟩
        rw [HQ.out]
        simpa using h3
    · obtain rfl : i = s.size := by omega
      have hl := qB_len (s.data.toList.take s.size)
      have hl2 : (s.data.toList.take s.size).length ≤ 2000 := by simp; omega
      go_wp2_with (first
            | (go_at_call 119; refine (bl_write w _ _ 34 _ ?_ hb ?_).mono ?_; (· rfl); (· simp; omega); rintro e w3 ⟨rfl, h3⟩)
            | (go_at_call 112; refine (Tryd.Builder_String _ _ (34 :: qB (s.data.toList.take s.size) ++ [34]) _ h3.1 (by simp)).mono ?_; rintro e w4 ⟨rfl, h4⟩))
      go_ret
      refine ⟨?_, ?_⟩
      · have : s.data.toList.take s.size = s.data.toList := List.take_of_length_le (by simp)
        rw [this]
        rfl
      · exact h3.2.trans h4
end Go.Proofs.YtcjidlgmbjebjaaDoor

namespace Go.Proofs.YtcjidlgmbjebjaaDoor
open Go Go.RowKit
def Same1 (v : Value) (w : World) (e : Ending) (w' : World) : Prop := e = .returned v ∧ w' = w
def numS (n : Int) : ByteArray := ⟨(Lib.itoa n).toArray⟩
def DigIH (n : Int) : Prop := ∀ m : Int, m.natAbs < n.natAbs ∨ (0 ≤ m ∧ m < 10) → ∀ w, Calls Tryd.prog 57 #[.int .i64 m] w (Same1 (.string (numS m)) w)
theorem small_str (k : Fin 10) : (ByteArray.mk #[48, 49, 50, 51, 52, 53, 54, 55, 56, 57]).extract k.val (k.val + 1) = ⟨#[UInt8.ofNat (48 + k.val)]⟩ := by
  revert k; decide
theorem dec_cat (a b : ByteArray) (l1 l2 : List UInt8) (ha : a = ⟨l1.toArray⟩) (hb : b = ⟨l2.toArray⟩) : a ++ b = ⟨(l1 ++ l2).toArray⟩ := by
  subst ha hb
  apply ByteArray.ext
  show (ByteArray.append _ _).data = _
  simp
theorem numS_pos (n : Int) (b : 10 ≤ n) : numS (n / 10) ++ numS (n % 10) = numS n := by
  unfold numS Lib.itoa
  rw [if_neg (by omega), if_neg (by omega), if_neg (by omega), dec_cat _ _ _ _ rfl rfl]
  congr 2
  have h3 := Lib.decDigits.eq_def n.toNat
  rw [dif_neg (by omega)] at h3
  have h4 := Lib.decDigits.eq_def (n % 10).toNat
  rw [dif_pos (by omega)] at h4
  rw [h3, h4, show (n / 10).toNat = n.toNat / 10 by omega, show (n % 10).toNat = n.toNat % 10 by omega]
theorem numS_small (n : Int) (a : 0 ≤ n) (b : n < 10) : (ByteArray.mk #[48, 49, 50, 51, 52, 53, 54, 55, 56, 57]).extract n.toNat (n + 1).toNat = numS n := by
  obtain ⟨k, rfl⟩ : ∃ k : Fin 10, n = (k.val : Int) := ⟨⟨n.toNat, by omega⟩, by simp; omega⟩
  have := small_str k
  rw [show ((k.val : Int) + 1).toNat = k.val + 1 by omega, Int.toNat_natCast, this]
  unfold numS Lib.itoa
  rw [if_neg (by omega), Int.toNat_natCast, Lib.decDigits, dif_pos k.isLt]
set_option maxHeartbeats 1000000 in
theorem dig_small (n : Int) (a : 0 ≤ n) (b : n < 10) (w : World) :
    Calls Tryd.prog 57 #[.int .i64 n] w (Same1 (.string (numS n)) w) := by
  have hs := Lib.hid (numS_small n a b)
  go_enter Tryd.func57, Tryd.ntmps57
  go_wp2
  go_ret
  refine ⟨?_, rfl⟩
  exact congrArg (fun b => Ending.returned (Value.string b)) hs.out
theorem numS_size (n : Int) (h0 : -9223372036854775808 ≤ n) (h1 : n ≤ 9223372036854775807) : (numS n).size ≤ 21 := by
  have := Lib.itoa_length_le n h0 h1
  show ((Lib.itoa n).toArray).size ≤ 21
  simpa using this
theorem numS_neg1 (n : Int) (b : n < 0) (c : -10 < n) : (ByteArray.mk #[45]) ++ numS (-n) = numS n := by
  unfold numS
  rw [dec_cat _ _ [45] _ rfl rfl]
  unfold Lib.itoa
  rw [if_neg (by omega), if_pos b, show (-n).toNat = n.natAbs by omega]
  rfl
theorem numS_neg (n : Int) (b : n ≤ -10) : numS (-(-n / 10)) ++ numS ((-n % 10)) = numS n := by
  unfold numS Lib.itoa
  rw [if_pos (by omega), if_neg (by omega), if_pos (by omega), dec_cat _ _ _ _ rfl rfl, List.cons_append]
  congr 3
  have h3 := Lib.decDigits.eq_def n.natAbs
  rw [dif_neg (by omega)] at h3
  have h4 := Lib.decDigits.eq_def ((-n % 10)).toNat
  rw [dif_pos (by omega)] at h4
  rw [h3, h4, show (-(-n / 10)).natAbs = n.natAbs / 10 by omega, show ((-n % 10)).toNat = n.natAbs % 10 by omega]
set_option maxHeartbeats 1000000 in
theorem dig_pos (n : Int) (b : 10 ≤ n) (h1 : n ≤ 9223372036854775807) (ih : DigIH n) (w : World) :
    Calls Tryd.prog 57 #[.int .i64 n] w (Same1 (.string (numS n)) w) := by
  have hs := Lib.hid (numS_pos n b)
  have z1 := numS_size (n / 10) (by omega) (by omega)
  have z2 := numS_size (n % 10) (by omega) (by omega)
  go_enter Tryd.func57, Tryd.ntmps57
  go_wp2_with (first | (go_at_call 57; refine (ih _ ?_ _).mono ?_; (· omega); rintro e w' ⟨rfl, rfl⟩))
  go_ret
  refine ⟨?_, rfl⟩
  exact congrArg (fun b => Ending.returned (Value.string b)) hs.out
set_option maxHeartbeats 1000000 in
theorem dig_neg (n : Int) (b : n < 0) (h1 : -9223372036854775808 ≤ n) (ih : DigIH n) (w : World) :
    Calls Tryd.prog 57 #[.int .i64 n] w (Same1 (.string (numS n)) w) := by
  have hq : n.tdiv 10 = -((-n) / 10) := by
    have := Int.neg_tdiv (-n) 10
    rw [Int.neg_neg] at this
    rw [this, Int.tdiv_eq_ediv_of_nonneg (a := -n) (by omega)]
  have hm : n.tmod 10 = -((-n) % 10) := by
    have := Int.neg_tmod (-n) 10
    rw [Int.neg_neg] at this
    rw [this, Int.tmod_eq_emod_of_nonneg (a := -n) (by omega)]
  by_cases c : -10 < n
  · have hs := Lib.hid (numS_neg1 n b c)
    have z1 := numS_size (-n) (by omega) (by omega)
    clear hq hm
    go_enter Tryd.func57, Tryd.ntmps57
    go_wp2_with (first | (go_at_call 57; refine (ih _ ?_ _).mono ?_; (· omega); rintro e w' ⟨rfl, rfl⟩))
    go_ret
    refine ⟨?_, rfl⟩
    exact congrArg (fun b => Ending.returned (Value.string b)) hs.out
  · have hs := Lib.hid (numS_neg n (by omega))
    have z1 := numS_size (-(-n / 10)) (by omega) (by omega)
    have z2 := numS_size ((-n % 10)) (by omega) (by omega)
    go_enter Tryd.func57, Tryd.ntmps57
    go_wp2_with (first | (go_at_call 57; refine (ih _ ?_ _).mono ?_; (· omega); rintro e w' ⟨rfl, rfl⟩))
    go_ret
    refine ⟨?_, rfl⟩
    exact congrArg (fun b => Ending.returned (Value.string b)) hs.out
theorem digits_val : ∀ (k : Nat) (n : Int) (hk : n.natAbs ≤ k) (h0 : -9223372036854775808 ≤ n) (h1 : n ≤ 9223372036854775807) (w : World),
    Calls Tryd.prog 57 #[.int .i64 n] w (Same1 (.string (numS n)) w)
  | 0, n, hk, h0, h1, w => dig_small n (by omega) (by omega) w
  | k + 1, n, hk, h0, h1, w => by
    have ih : DigIH n := by
      intro m hm w
      by_cases s : 0 ≤ m ∧ m < 10
      · exact dig_small m s.1 s.2 w
      · exact digits_val k m (by omega) (by omega) (by omega) w
    by_cases a : n < 0
    · exact dig_neg n a h0 ih w
    · by_cases b : n < 10
      · exact dig_small n (by omega) b w
      · exact dig_pos n (by omega) h1 ih w
end Go.Proofs.YtcjidlgmbjebjaaDoor

namespace Go.Proofs.YtcjidlgmbjebjaaDoor
open Go Go.RowKit
def sTrue : ByteArray := ⟨#[116, 114, 117, 101]⟩
def sFalse : ByteArray := ⟨#[102, 97, 108, 115, 101]⟩
def sNull : ByteArray := ⟨#[110, 117, 108, 108]⟩
def prV (k n : Int) (s : ByteArray) : ByteArray :=
  if goodV k n s = false then ⟨#[]⟩ else if k = 1 then numS n else if k = 2 then qS s else if k = 3 then (if n = 1 then sTrue else sFalse) else sNull
def PowIs (w : World) : Prop := Lib.TabIs Tryd.prog w "internal/strconv.uint64pow10" .u64 Lib.pow10Tab
theorem good_kind {k n : Int} {s : ByteArray} (h : goodV k n s = true) : k = 0 ∨ k = 1 ∨ (k = 2 ∧ s.size ≤ 200) ∨ (k = 3 ∧ (n = 0 ∨ n = 1)) := by
  unfold goodV at h
  split at h
  · exact .inl ‹_›
  · split at h
    · exact .inr (.inl ‹_›)
    · split at h
      · simp at h; exact .inr (.inr (.inl ⟨‹_›, h.2.1⟩))
      · split at h
        · simp at h; exact .inr (.inr (.inr ⟨‹_›, h.2⟩))
        · simp at h
theorem pow_named {w : World} (h : PowIs w) : ∃ g, Tryd.prog.globalNamed "internal/strconv.uint64pow10" = some g := by
  cases hg : Tryd.prog.globalNamed "internal/strconv.uint64pow10" with
  | some g => exact ⟨g, rfl⟩
  | none =>
    unfold PowIs Lib.TabIs World.var? at h
    rw [hg] at h
    simp at h
theorem pow_stays {w w' : World} (h : PowIs w) (hb : Below w.heap.size w w') : PowIs w' := by
  obtain ⟨g, hg⟩ := pow_named h
  exact Joins.tab_stays hg h hb (Nat.le_refl _)
theorem below_gr (w : World) (q : Nat) (os : Array Obj) : Below w.heap.size w (Sort.grow (w.drewN q) os) := by
  refine ⟨rfl, rfl, rfl, ?_, ?_⟩
  · show w.heap.size ≤ (w.heap ++ os).size
    simp
  · intro k hk
    show (w.heap ++ os)[k]? = w.heap[k]?
    rw [Array.getElem?_append_left hk]
theorem itoa_val (n : Int) (h0 : -9223372036854775808 ≤ n) (h1 : n ≤ 9223372036854775807) (w : World) (htab : PowIs w) :
    Calls Tryd.prog 53 #[.int .i64 n] w (RetS (.string (numS n)) w) := by
  refine (Tryd.strconv_Itoa n h0 h1 w htab).mono ?_
  rintro e w' ⟨rfl, k, os, rfl⟩
  exact ⟨rfl, below_gr w k os⟩
set_option maxHeartbeats 1000000 in
theorem print_val (k n : Int) (s : ByteArray) (W : World) (hsz : s.size ≤ 9223372036854775807) (h0 : -9223372036854775808 ≤ n) (h1 : n ≤ 9223372036854775807) (ht : PowIs W) :
    Calls Tryd.prog 36 #[.agg #[.int .i64 k, .int .i64 n, .string s]] W (RetS (.string (prV k n s)) W) := by
  have hc := fun w => good_val k n s w hsz
  cases hg : goodV k n s with
  | false =>
    rw [hg] at hc
    have HC := Lib.hid hc; clear hc
    have hp : prV k n s = ⟨#[]⟩ := by simp [prV, hg]
    rw [hp]; clear hp hg
    go_enter Tryd.func36, Tryd.ntmps36
    go_wp2_with fail
    refine (HC.out _).mono ?_
    rintro e w1 ⟨rfl, hb⟩
    have hb := below_step (show Below W.heap.size W _ from by go_grown) hb
    dsimp only
    go_wp2_with fail
    go_ret
    exact ⟨rfl, hb⟩
  | true =>
    rw [hg] at hc
    have HC := Lib.hid hc; clear hc
    have HG := Lib.hid hg
    have hk := Lib.hid (good_kind hg)
    clear hg
    go_enter Tryd.func36, Tryd.ntmps36
    go_wp2_with fail
    refine (HC.out _).mono ?_
    rintro e w1 ⟨rfl, hb⟩
    have c0 := cell_later (v := .int .i64 k) hb (show World.cell? _ ⟨W.heap.size, 0, none⟩ = some (.int .i64 k) from by go_cell)
    have c1 := cell_later (v := .int .i64 n) hb (show World.cell? _ ⟨W.heap.size, 1, none⟩ = some (.int .i64 n) from by go_cell)
    have c2 := cell_later (v := .string s) hb (show World.cell? _ ⟨W.heap.size, 2, none⟩ = some (.string s) from by go_cell)
    have hB := below_step (show Below W.heap.size W _ from by go_grown) hb
    clear hb
    have ht1 := pow_stays ht hB
    clear ht
    dsimp only
    rcases hk.out with rfl | rfl | ⟨rfl, h2⟩ | ⟨rfl, rfl | rfl⟩
    all_goals clear hk
    · go_wp2_with fail
      go_ret
      exact ⟨by simp [prV, HG.out, sTrue, sFalse, sNull], hB⟩
    · go_wp2_with fail
      refine (itoa_val n h0 h1 w1 ht1).mono ?_
      rintro e w2 ⟨rfl, hb2⟩
      have hB := below_step hB hb2
      dsimp only
      go_wp2_with fail
      go_ret
      exact ⟨by simp [prV, HG.out, sTrue, sFalse, sNull], hB⟩
    · go_wp2_with fail
      refine (quoted_val s w1 (by omega)).mono ?_
      rintro e w2 ⟨rfl, hb2⟩
      have hB := below_step hB hb2
      dsimp only
      go_wp2_with fail
      go_ret
      exact ⟨by simp [prV, HG.out, sTrue, sFalse, sNull], hB⟩
    · go_wp2_with fail
      go_ret
      exact ⟨by simp [prV, HG.out, sTrue, sFalse, sNull], hB⟩
    · go_wp2_with fail
      go_ret
      exact ⟨by simp [prV, HG.out, sTrue, sFalse, sNull], hB⟩
end Go.Proofs.YtcjidlgmbjebjaaDoor
