/- A part of the proof of SchemaForms. -/
import Derived.Test.YtcjidlgmbjebjaaDoorSfa
import Derived.Laws.PanicsMore
import Derived.Shelf.Strings.Builder1
import Derived.Shelf.Strings.Builder2
import Derived.Shelf.Strconv.Itoa0
import Derived.Shelf.Strconv.Itoa1
import Derived.Shelf.LaysM
import Derived.Shelf.Strconv.Itoa2
import Derived.Shelf.Strconv.Itoa3
import Derived.Test.YtcjidlgmbjebjaaDoorProg
import Derived.Maps.OwnSet
set_option linter.unusedVariables false
set_option linter.unusedSimpArgs false
set_option maxRecDepth 100000
namespace Go.Proofs.YtcjidlgmbjebjaaDoor
open Go Go.RowKit
def colOk (nm : ByteArray) (k : Int) : Bool := Utf.nmOk nm && (decide (1 ≤ k) && decide (k ≤ 3))
def colV (nm : ByteArray) (k : Int) (m : Bool) : Value := .agg #[.string nm, .int .i64 k, .bool m]
set_option maxHeartbeats 1000000 in
theorem colgood_val (nm : ByteArray) (k : Int) (m : Bool) (W : World) (hs : nm.size ≤ 9223372036854775807) :
    Calls Tryd.prog 50 #[colV nm k m] W (RetBool (colOk nm k) W) := by
  have hc := fun w => name_val nm w hs
  unfold colOk colV
  cases hg : Utf.nmOk nm with
  | false =>
    rw [hg] at hc
    have HC := Lib.hid hc; clear hc hg
    rw [Bool.false_and]
    go_enter Tryd.func50, Tryd.ntmps50
    go_wp2_with fail
    refine (HC.out _).mono ?_
    rintro e w1 ⟨rfl, hb⟩
    have hB := below_step (show Below W.heap.size W _ from by go_grown) hb
    clear hb
    dsimp only
    go_wp2_with fail
    go_ret
    exact ⟨rfl, hB⟩
  | true =>
    rw [hg] at hc
    have HC := Lib.hid hc; clear hc hg
    rw [Bool.true_and]
    by_cases k1 : 1 ≤ k
    · by_cases k3 : k ≤ 3
      all_goals
        have HR := Lib.hid (show (decide (1 ≤ k) && decide (k ≤ 3)) = decide (k ≤ 3) by simp [k1])
        rw [HR.out]
        go_enter Tryd.func50, Tryd.ntmps50
        go_wp2_with fail
        refine (HC.out _).mono ?_
        rintro e w1 ⟨rfl, hb⟩
        have c1 := cell_later (v := .int .i64 k) hb (show World.cell? _ ⟨W.heap.size, 1, none⟩ = some (.int .i64 k) from by go_cell)
        have hB := below_step (show Below W.heap.size W _ from by go_grown) hb
        clear hb
        dsimp only
        go_wp2_with fail
        go_ret
        exact ⟨by simp [k1, k3], hB⟩
    · have HR := Lib.hid (show (decide (1 ≤ k) && decide (k ≤ 3)) = false by simp [k1])
      rw [HR.out]
      go_enter Tryd.func50, Tryd.ntmps50
      go_wp2_with fail
      refine (HC.out _).mono ?_
      rintro e w1 ⟨rfl, hb⟩
      have c1 := cell_later (v := .int .i64 k) hb (show World.cell? _ ⟨W.heap.size, 1, none⟩ = some (.int .i64 k) from by go_cell)
      have hB := below_step (show Below W.heap.size W _ from by go_grown) hb
      clear hb
      dsimp only
      go_wp2_with fail
      go_ret
      exact ⟨rfl, hB⟩
end Go.Proofs.YtcjidlgmbjebjaaDoor

namespace Go.Proofs.YtcjidlgmbjebjaaDoor
open Go Go.RowKit
def FormsAt (w : World) : Prop := w.cell? ⟨1, 2, none⟩ = some (.string ⟨#[80, 79, 73, 78, 84]⟩) ∧ w.cell? ⟨1, 4, none⟩ = some (.string ⟨#[76, 73, 78, 69, 83, 84, 82, 73, 78, 71]⟩) ∧ w.cell? ⟨1, 6, none⟩ = some (.string ⟨#[80, 79, 76, 89, 71, 79, 78]⟩) ∧ w.cell? ⟨1, 8, none⟩ = some (.string ⟨#[77, 85, 76, 84, 73, 80, 79, 73, 78, 84]⟩) ∧ w.cell? ⟨1, 10, none⟩ = some (.string ⟨#[77, 85, 76, 84, 73, 76, 73, 78, 69, 83, 84, 82, 73, 78, 71]⟩) ∧ w.cell? ⟨1, 12, none⟩ = some (.string ⟨#[77, 85, 76, 84, 73, 80, 79, 76, 89, 71, 79, 78]⟩) ∧ w.cell? ⟨1, 14, none⟩ = some (.string ⟨#[71, 69, 79, 77, 69, 84, 82, 89, 67, 79, 76, 76, 69, 67, 84, 73, 79, 78]⟩)
def formName (k : Int) : ByteArray := if k = 1 then ⟨#[80, 79, 73, 78, 84]⟩ else if k = 2 then ⟨#[76, 73, 78, 69, 83, 84, 82, 73, 78, 71]⟩ else if k = 3 then ⟨#[80, 79, 76, 89, 71, 79, 78]⟩ else if k = 4 then ⟨#[77, 85, 76, 84, 73, 80, 79, 73, 78, 84]⟩ else if k = 5 then ⟨#[77, 85, 76, 84, 73, 76, 73, 78, 69, 83, 84, 82, 73, 78, 71]⟩ else if k = 6 then ⟨#[77, 85, 76, 84, 73, 80, 79, 76, 89, 71, 79, 78]⟩ else if k = 7 then ⟨#[71, 69, 79, 77, 69, 84, 82, 89, 67, 79, 76, 76, 69, 67, 84, 73, 79, 78]⟩ else ⟨#[]⟩
theorem index_arr (t n : Nat) (cs : Array Value) (i : Nat) (z : Int) (hz : z = (i : Int)) (v : Value) (h : Tryd.prog.underlying t = some (.array n 9)) (hi : i < n) (hv : cs[i]? = some v) (w : World) :
    (Instr.index t (.agg cs) (.int .i64 z)).run Tryd.prog w = .ok v w := by
  subst hz
  have hn : (0 : Int) ≤ i ∧ (i : Int) < (n : Int) := by omega
  simp [Instr.index, run_underlying h, asIntOf, hn, go_sem, hi, hv]
theorem iskind_val (k : Int) (w : World) : Calls Tryd.prog 108 #[.int .i64 k] w (Same1 (.bool (decide (1 ≤ k) && decide (k ≤ 7))) w) := by
  by_cases h1 : 1 ≤ k
  · by_cases h7 : k ≤ 7
    all_goals
      go_enter Tryd.func108, Tryd.ntmps108
      go_wp2
      go_ret
      exact ⟨by simp [h1, h7], rfl⟩
  · go_enter Tryd.func108, Tryd.ntmps108
    go_wp2
    go_ret
    exact ⟨by simp; omega, rfl⟩
set_option maxHeartbeats 1000000 in
theorem form_val (k : Int) (w : World) (ht : FormsAt w) : Calls Tryd.prog 52 #[.int .i64 k] w (Same1 (.string (formName k)) w) := by
  obtain ⟨c1, c2, c3, c4, c5, c6, c7⟩ := ht
  have hc := fun w => iskind_val k w
  by_cases h : 1 ≤ k ∧ k ≤ 7
  · rw [show (decide (1 ≤ k) && decide (k ≤ 7)) = true by simp [h]] at hc
    have HC := Lib.hid hc; clear hc
    have h7 : k = 1 ∨ k = 2 ∨ k = 3 ∨ k = 4 ∨ k = 5 ∨ k = 6 ∨ k = 7 := by omega
    clear h
    rcases h7 with rfl | rfl | rfl | rfl | rfl | rfl | rfl
    all_goals
      go_enter Tryd.func52, Tryd.ntmps52
      go_wp2_with fail
      refine (HC.out _).mono ?_
      rintro e w1 ⟨rfl, rfl⟩
      dsimp only
      go_wp2_with fail
      go_ret
      exact ⟨rfl, rfl⟩
  · rw [show (decide (1 ≤ k) && decide (k ≤ 7)) = false by simp; omega] at hc
    have HC := Lib.hid hc; clear hc
    have hn : formName k = ⟨#[]⟩ := by unfold formName; repeat' (rw [if_neg (by omega)])
    rw [hn]; clear hn
    go_enter Tryd.func52, Tryd.ntmps52
    go_wp2_with fail
    refine (HC.out _).mono ?_
    rintro e w1 ⟨rfl, rfl⟩
    dsimp only
    go_wp2_with fail
    go_ret
    exact ⟨rfl, rfl⟩
set_option maxHeartbeats 1000000 in
theorem refform_val (k : Int) (w : World) : Calls Tryd.prog 56 #[.int .i64 k] w (Same1 (.string (formName k)) w) := by
  by_cases h : 1 ≤ k ∧ k ≤ 7
  · have h7 : k = 1 ∨ k = 2 ∨ k = 3 ∨ k = 4 ∨ k = 5 ∨ k = 6 ∨ k = 7 := by omega
    clear h
    rcases h7 with rfl | rfl | rfl | rfl | rfl | rfl | rfl
    · have hx := index_arr 173 8 #[.string ⟨#[]⟩, .string ⟨#[80, 79, 73, 78, 84]⟩, .string ⟨#[76, 73, 78, 69, 83, 84, 82, 73, 78, 71]⟩, .string ⟨#[80, 79, 76, 89, 71, 79, 78]⟩, .string ⟨#[77, 85, 76, 84, 73, 80, 79, 73, 78, 84]⟩, .string ⟨#[77, 85, 76, 84, 73, 76, 73, 78, 69, 83, 84, 82, 73, 78, 71]⟩, .string ⟨#[77, 85, 76, 84, 73, 80, 79, 76, 89, 71, 79, 78]⟩, .string ⟨#[71, 69, 79, 77, 69, 84, 82, 89, 67, 79, 76, 76, 69, 67, 84, 73, 79, 78]⟩] 1 1 rfl _ Tryd.underlying173 (by omega) rfl
      go_enter Tryd.func56, Tryd.ntmps56
      go_wp2
      go_ret
      exact ⟨rfl, rfl⟩
    · have hx := index_arr 173 8 #[.string ⟨#[]⟩, .string ⟨#[80, 79, 73, 78, 84]⟩, .string ⟨#[76, 73, 78, 69, 83, 84, 82, 73, 78, 71]⟩, .string ⟨#[80, 79, 76, 89, 71, 79, 78]⟩, .string ⟨#[77, 85, 76, 84, 73, 80, 79, 73, 78, 84]⟩, .string ⟨#[77, 85, 76, 84, 73, 76, 73, 78, 69, 83, 84, 82, 73, 78, 71]⟩, .string ⟨#[77, 85, 76, 84, 73, 80, 79, 76, 89, 71, 79, 78]⟩, .string ⟨#[71, 69, 79, 77, 69, 84, 82, 89, 67, 79, 76, 76, 69, 67, 84, 73, 79, 78]⟩] 2 2 rfl _ Tryd.underlying173 (by omega) rfl
      go_enter Tryd.func56, Tryd.ntmps56
      go_wp2
      go_ret
      exact ⟨rfl, rfl⟩
    · have hx := index_arr 173 8 #[.string ⟨#[]⟩, .string ⟨#[80, 79, 73, 78, 84]⟩, .string ⟨#[76, 73, 78, 69, 83, 84, 82, 73, 78, 71]⟩, .string ⟨#[80, 79, 76, 89, 71, 79, 78]⟩, .string ⟨#[77, 85, 76, 84, 73, 80, 79, 73, 78, 84]⟩, .string ⟨#[77, 85, 76, 84, 73, 76, 73, 78, 69, 83, 84, 82, 73, 78, 71]⟩, .string ⟨#[77, 85, 76, 84, 73, 80, 79, 76, 89, 71, 79, 78]⟩, .string ⟨#[71, 69, 79, 77, 69, 84, 82, 89, 67, 79, 76, 76, 69, 67, 84, 73, 79, 78]⟩] 3 3 rfl _ Tryd.underlying173 (by omega) rfl
      go_enter Tryd.func56, Tryd.ntmps56
      go_wp2
      go_ret
      exact ⟨rfl, rfl⟩
    · have hx := index_arr 173 8 #[.string ⟨#[]⟩, .string ⟨#[80, 79, 73, 78, 84]⟩, .string ⟨#[76, 73, 78, 69, 83, 84, 82, 73, 78, 71]⟩, .string ⟨#[80, 79, 76, 89, 71, 79, 78]⟩, .string ⟨#[77, 85, 76, 84, 73, 80, 79, 73, 78, 84]⟩, .string ⟨#[77, 85, 76, 84, 73, 76, 73, 78, 69, 83, 84, 82, 73, 78, 71]⟩, .string ⟨#[77, 85, 76, 84, 73, 80, 79, 76, 89, 71, 79, 78]⟩, .string ⟨#[71, 69, 79, 77, 69, 84, 82, 89, 67, 79, 76, 76, 69, 67, 84, 73, 79, 78]⟩] 4 4 rfl _ Tryd.underlying173 (by omega) rfl
      go_enter Tryd.func56, Tryd.ntmps56
      go_wp2
      go_ret
      exact ⟨rfl, rfl⟩
    · have hx := index_arr 173 8 #[.string ⟨#[]⟩, .string ⟨#[80, 79, 73, 78, 84]⟩, .string ⟨#[76, 73, 78, 69, 83, 84, 82, 73, 78, 71]⟩, .string ⟨#[80, 79, 76, 89, 71, 79, 78]⟩, .string ⟨#[77, 85, 76, 84, 73, 80, 79, 73, 78, 84]⟩, .string ⟨#[77, 85, 76, 84, 73, 76, 73, 78, 69, 83, 84, 82, 73, 78, 71]⟩, .string ⟨#[77, 85, 76, 84, 73, 80, 79, 76, 89, 71, 79, 78]⟩, .string ⟨#[71, 69, 79, 77, 69, 84, 82, 89, 67, 79, 76, 76, 69, 67, 84, 73, 79, 78]⟩] 5 5 rfl _ Tryd.underlying173 (by omega) rfl
      go_enter Tryd.func56, Tryd.ntmps56
      go_wp2
      go_ret
      exact ⟨rfl, rfl⟩
    · have hx := index_arr 173 8 #[.string ⟨#[]⟩, .string ⟨#[80, 79, 73, 78, 84]⟩, .string ⟨#[76, 73, 78, 69, 83, 84, 82, 73, 78, 71]⟩, .string ⟨#[80, 79, 76, 89, 71, 79, 78]⟩, .string ⟨#[77, 85, 76, 84, 73, 80, 79, 73, 78, 84]⟩, .string ⟨#[77, 85, 76, 84, 73, 76, 73, 78, 69, 83, 84, 82, 73, 78, 71]⟩, .string ⟨#[77, 85, 76, 84, 73, 80, 79, 76, 89, 71, 79, 78]⟩, .string ⟨#[71, 69, 79, 77, 69, 84, 82, 89, 67, 79, 76, 76, 69, 67, 84, 73, 79, 78]⟩] 6 6 rfl _ Tryd.underlying173 (by omega) rfl
      go_enter Tryd.func56, Tryd.ntmps56
      go_wp2
      go_ret
      exact ⟨rfl, rfl⟩
    · have hx := index_arr 173 8 #[.string ⟨#[]⟩, .string ⟨#[80, 79, 73, 78, 84]⟩, .string ⟨#[76, 73, 78, 69, 83, 84, 82, 73, 78, 71]⟩, .string ⟨#[80, 79, 76, 89, 71, 79, 78]⟩, .string ⟨#[77, 85, 76, 84, 73, 80, 79, 73, 78, 84]⟩, .string ⟨#[77, 85, 76, 84, 73, 76, 73, 78, 69, 83, 84, 82, 73, 78, 71]⟩, .string ⟨#[77, 85, 76, 84, 73, 80, 79, 76, 89, 71, 79, 78]⟩, .string ⟨#[71, 69, 79, 77, 69, 84, 82, 89, 67, 79, 76, 76, 69, 67, 84, 73, 79, 78]⟩] 7 7 rfl _ Tryd.underlying173 (by omega) rfl
      go_enter Tryd.func56, Tryd.ntmps56
      go_wp2
      go_ret
      exact ⟨rfl, rfl⟩
  · have hn : formName k = ⟨#[]⟩ := by unfold formName; repeat' (rw [if_neg (by omega)])
    have hk : k < 1 ∨ 7 < k := by omega
    rw [hn]; clear hn h
    rcases hk with hk | hk
    all_goals
      go_enter Tryd.func56, Tryd.ntmps56
      go_wp2
      go_ret
      exact ⟨rfl, rfl⟩
end Go.Proofs.YtcjidlgmbjebjaaDoor

namespace Go.Proofs.YtcjidlgmbjebjaaDoor
open Go Go.Shelf
def Tryd.lays169_ren : Go.Shelf.Ren := ⟨fun | 169 => 112 | n => n, fun | 70 => 169 | 9 => 9 | 0 => 0 | 72 => 171 | 37 => 43 | 127 => 207 | 3 => 3 | 5 => 5 | n => n, fun | n => n⟩
theorem Tryd.lays169 : Go.Proofs.Lays.n169 Tryd.prog Tryd.lays169_ren := {
  mixed := by kernel_rfl
  f169 := Tryd.func112.trans (congrArg some (by kernel_rfl))
  t0 := Tryd.underlying0
  a0 := Tryd.isAgg0
  z0 := Tryd.sizeOf0
  v0 := Tryd.zeroValue0
  t3 := Tryd.underlying3
  a3 := Tryd.isAgg3
  z3 := Tryd.sizeOf3
  v3 := Tryd.zeroValue3
  t9 := Tryd.underlying9
  a9 := Tryd.isAgg9
  z9 := Tryd.sizeOf9
  v9 := Tryd.zeroValue9
  t37 := Tryd.underlying43
  a37 := Tryd.isAgg43
  z37 := Tryd.sizeOf43
  v37 := Tryd.zeroValue43
  t70 := Tryd.underlying169
  a70 := Tryd.isAgg169
  z70 := Tryd.sizeOf169
  v70 := Tryd.zeroValue169
  t72 := Tryd.underlying171
  a72 := Tryd.isAgg171
  z72 := Tryd.sizeOf171
  v72 := Tryd.zeroValue171
  t127 := Tryd.underlying207
  a127 := Tryd.isAgg207
  z127 := Tryd.sizeOf207
  v127 := Tryd.zeroValue207 }
theorem Tryd.Builder_Extra_169 : Builder.Extra Tryd.prog Tryd.lays169_ren := {
  sizeBuilder := by kernel_rfl
  liesBuilder := by kernel_rfl
  t5 := Tryd.underlying5
  a5 := Tryd.isAgg5
  z5 := Tryd.sizeOf5
  v5 := Tryd.zeroValue5
  infoByte := by kernel_rfl
  cellsByte := by kernel_rfl
  sizeByte := by kernel_rfl
  neB5 := by decide }
open Go.RowKit in
/-- (*strings.Builder).String: "String returns the accumulated string.": OF A BUILDER THAT HOLDS AT LEAST ONE BYTE. ✋ THE MODEL FREEZES THOSE BYTES IN THE BUFFER (unsafe.String): a later write INTO them ends the model's run without an answer; a later append BEHIND them goes on. The statement's order of evaluation is drawn: one draw. (LAID: no walk: one application.) -/
theorem Tryd.Builder_String (B b : Nat) (l : List UInt8) (w : World) (h : Lib.IsBuilder 171 5 B b (Lib.byteCells l) w) (h0 : l ≠ []) :
    Calls Tryd.prog 112 #[.pointer (some ⟨b, 0, none⟩)] w fun e w' => e = .returned (.string ⟨l.toArray⟩) ∧ Below B w w' := Any.Builder_String Tryd.lays169 Tryd.Builder_Extra_169 B b l w h h0
def Tryd.laysM171_ren : Go.Shelf.Ren := ⟨fun | 171 => 53 | 243 => 109 | 246 => 146 | 283 => 169 | 284 => 170 | 285 => 171 | 286 => 172 | 129 => 203 | 317 => 202 | 318 => 204 | 319 => 205 | 320 => 206 | 337 => 222 | 338 => 223 | n => n, fun | 3 => 3 | 9 => 9 | 2 => 2 | 4 => 4 | 171 => 235 | 0 => 0 | 53 => 100 | 37 => 43 | 5 => 5 | 173 => 237 | 212 => 266 | 51 => 243 | 20 => 20 | 213 => 267 | 46 => 80 | 232 => 280 | 233 => 281 | n => n, fun | 17 => 4 | 18 => 6 | 19 => 7 | n => n⟩
theorem Tryd.laysM171 : Go.Proofs.LaysM.n171 Tryd.prog Tryd.laysM171_ren := {
  mixed := by kernel_rfl
  f129 := Tryd.func203.trans (congrArg some (by kernel_rfl))
  f171 := Tryd.func53.trans (congrArg some (by kernel_rfl))
  f243 := Tryd.func109.trans (congrArg some (by kernel_rfl))
  f246 := Tryd.func146.trans (congrArg some (by kernel_rfl))
  f283 := Tryd.func169.trans (congrArg some (by kernel_rfl))
  f284 := Tryd.func170.trans (congrArg some (by kernel_rfl))
  f285 := Tryd.func171.trans (congrArg some (by kernel_rfl))
  f286 := Tryd.func172.trans (congrArg some (by kernel_rfl))
  f317 := Tryd.func202.trans (congrArg some (by kernel_rfl))
  f318 := Tryd.func204.trans (congrArg some (by kernel_rfl))
  f319 := Tryd.func205.trans (congrArg some (by kernel_rfl))
  f320 := Tryd.func206.trans (congrArg some (by kernel_rfl))
  f337 := Tryd.func222.trans (congrArg some (by kernel_rfl))
  f338 := Tryd.func223.trans (congrArg some (by kernel_rfl))
  t0 := Tryd.underlying0
  a0 := Tryd.isAgg0
  z0 := Tryd.sizeOf0
  v0 := Tryd.zeroValue0
  t2 := Tryd.underlying2
  a2 := Tryd.isAgg2
  z2 := Tryd.sizeOf2
  v2 := Tryd.zeroValue2
  t3 := Tryd.underlying3
  a3 := Tryd.isAgg3
  z3 := Tryd.sizeOf3
  v3 := Tryd.zeroValue3
  t4 := Tryd.underlying4
  a4 := Tryd.isAgg4
  z4 := Tryd.sizeOf4
  v4 := Tryd.zeroValue4
  t5 := Tryd.underlying5
  a5 := Tryd.isAgg5
  z5 := Tryd.sizeOf5
  v5 := Tryd.zeroValue5
  t9 := Tryd.underlying9
  a9 := Tryd.isAgg9
  z9 := Tryd.sizeOf9
  v9 := Tryd.zeroValue9
  t20 := Tryd.underlying20
  a20 := Tryd.isAgg20
  z20 := Tryd.sizeOf20
  v20 := Tryd.zeroValue20
  t37 := Tryd.underlying43
  a37 := Tryd.isAgg43
  z37 := Tryd.sizeOf43
  v37 := Tryd.zeroValue43
  t46 := Tryd.underlying80
  a46 := Tryd.isAgg80
  z46 := Tryd.sizeOf80
  v46 := Tryd.zeroValue80
  t51 := Tryd.underlying243
  a51 := Tryd.isAgg243
  z51 := Tryd.sizeOf243
  v51 := Tryd.zeroValue243
  t53 := Tryd.underlying100
  a53 := Tryd.isAgg100
  z53 := Tryd.sizeOf100
  v53 := Tryd.zeroValue100
  t171 := Tryd.underlying235
  a171 := Tryd.isAgg235
  z171 := Tryd.sizeOf235
  v171 := Tryd.zeroValue235
  t173 := Tryd.underlying237
  a173 := Tryd.isAgg237
  z173 := Tryd.sizeOf237
  v173 := Tryd.zeroValue237
  t212 := Tryd.underlying266
  a212 := Tryd.isAgg266
  z212 := Tryd.sizeOf266
  v212 := Tryd.zeroValue266
  t213 := Tryd.underlying267
  a213 := Tryd.isAgg267
  z213 := Tryd.sizeOf267
  t232 := Tryd.underlying280
  a232 := Tryd.isAgg280
  z232 := Tryd.sizeOf280
  v232 := Tryd.zeroValue280
  t233 := Tryd.underlying281
  a233 := Tryd.isAgg281
  z233 := Tryd.sizeOf281
  v233 := Tryd.zeroValue281
  g17 := by kernel_rfl
  g18 := by kernel_rfl
  g19 := by kernel_rfl
  i0 := by kernel_rfl
  i2 := by kernel_rfl
  i3 := by kernel_rfl
  i4 := by kernel_rfl
  i5 := by kernel_rfl
  i9 := by kernel_rfl
  i20 := by kernel_rfl
  i37 := by kernel_rfl
  i46 := by kernel_rfl
  i51 := by kernel_rfl
  i53 := by kernel_rfl
  i171 := by kernel_rfl
  i173 := by kernel_rfl
  i212 := by kernel_rfl
  i232 := by kernel_rfl
  i233 := by kernel_rfl
  m17 := by kernel_rfl
  m18 := by kernel_rfl
  m19 := by kernel_rfl }
open Go.RowKit Go.Sort Go.Lib in
/-- strconv.Itoa: "Itoa is equivalent to FormatInt(int64(i), 10).": i's DECIMAL NUMERAL ('Lib.itoa': a '-' where i is negative, then the digits), FOR EVERY int. The world behind the call: the world before it, new blocks behind the heap (the library's 'var a [24]byte'), draws. (LAID: no walk: one application.) -/
theorem Tryd.strconv_Itoa (n : Int) (h0 : -9223372036854775808 ≤ n) (h1 : n ≤ 9223372036854775807) (w : World) (htab : Lib.TabIs Tryd.prog w "internal/strconv.uint64pow10" .u64 Lib.pow10Tab) :
    Calls Tryd.prog 53 #[.int .i64 n] w fun e w' => e = .returned (.string ⟨(Lib.itoa n).toArray⟩) ∧ ∃ k os, w' = grow (w.drewN k) os := Any.strconv_Itoa Tryd.laysM171 n h0 h1 w htab
end Go.Proofs.YtcjidlgmbjebjaaDoor

namespace Go.Proofs.YtcjidlgmbjebjaaDoor
open Go Go.RowKit
theorem bsize : Option.map (fun x => x.size) (Tryd.prog.info? 171) = some 2 := by kernel_rfl
theorem blies : liesAt Tryd.prog Tryd.prog.depth 171 (2 / Tryd.prog.cellsOf 171) 0 171 1 = true := by kernel_rfl
theorem binfo : Option.map (fun i => (i.zero, i.size, i.bytes)) (Tryd.prog.info? 5) = some (some (Value.int IntKind.u8 0), 1, 1) := by kernel_rfl
set_option maxHeartbeats 1000000 in
theorem cc_used (b : Nat) (w : World) (h0 : w.cell? ⟨b, 0, none⟩ = some (.pointer (some ⟨b, 0, none⟩))) :
    Calls Tryd.prog 147 #[.pointer (some ⟨b, 0, none⟩)] w fun e w' => e = .returned (.tuple #[]) ∧ w' = w := by
  obtain ⟨j, hj, _⟩ := Option.map_eq_some_iff.1 bsize
  go_enter Tryd.func147, Tryd.ntmps147
  go_wp2
  rw [Lib.run_neq_ptr_same w _ Tryd.underlying169 hj]
  go_wp2
  go_end0
  exact ⟨rfl, rfl⟩
set_option maxHeartbeats 1000000 in
theorem cc_fresh (b : Nat) (w : World) (h0 : w.cell? ⟨b, 0, none⟩ = some (.pointer none)) (hsh : w.shape? b = some (171, 2)) (hfz : w.frozen? ⟨b, 0, none⟩ = false) :
    Calls Tryd.prog 147 #[.pointer (some ⟨b, 0, none⟩)] w fun e w' => e = .returned (.tuple #[]) ∧ w' = w.setCell ⟨b, 0, none⟩ (.pointer (some ⟨b, 0, none⟩)) := by
  obtain ⟨j, hj, hjs⟩ := Option.map_eq_some_iff.1 bsize
  go_enter Tryd.func147, Tryd.ntmps147
  go_wp2
  rw [Lib.run_to_unsafe w ⟨b, 0, none⟩ Tryd.underlying169 Tryd.underlying248 hj (by rw [hjs]; decide) hsh (Nat.zero_lt_succ 1)]
  simp only [Result.andThen]
  rw [Oper.upon_value]
  go_wp2
  rw [run_callFunc_extern Tryd.func180 (by kernel_rfl) (by kernel_rfl) (by kernel_rfl) (e := Extern.AbiNoEscape.same) (by kernel_rfl)]
  rw [Lib.run_noEscape]
  simp only [Result.andThen]
  rw [Oper.upon_value]
  go_wp2
  rw [Lib.run_from_unsafe w ⟨b, 0, none⟩ Tryd.underlying248 Tryd.underlying169 hj hsh blies]
  simp only [Result.andThen]
  rw [Oper.upon_value]
  go_wp2
  go_end0
  exact ⟨rfl, rfl⟩
theorem cc_any (B b : Nat) (bs : List Value) (w : World) (h : Lib.IsBuilder 171 5 B b bs w) :
    Calls Tryd.prog 147 #[.pointer (some ⟨b, 0, none⟩)] w fun e w' => e = .returned (.tuple #[]) ∧ (Lib.BuilderAt 171 5 B b (.pointer (some ⟨b, 0, none⟩)) bs w' ∧ Below B w w') := by
  rcases h with h | h
  · refine (cc_fresh b w h.cell0 h.shape h.frozen0).mono ?_
    rintro e w' ⟨rfl, rfl⟩
    exact ⟨rfl, h.used _, (Below.refl B w).setCell (p := ⟨b, 0, none⟩) h.1 _⟩
  · refine (cc_used b w h.cell0).mono ?_
    rintro e w' ⟨rfl, rfl⟩
    exact ⟨rfl, h, Below.refl B _⟩
set_option maxHeartbeats 2000000 in
theorem write_byte (B b : Nat) (bs : List Value) (c : Int) (w : World) (h : Lib.IsBuilder 171 5 B b bs w) (hlen : bs.length + 1 ≤ 140737488355328) (hBw : B ≤ w.heap.size) :
    Calls Tryd.prog 119 #[.pointer (some ⟨b, 0, none⟩), .int .u8 c] w fun e w' => e = .returned .nilIface ∧ (Lib.BuilderAt 171 5 B b (.pointer (some ⟨b, 0, none⟩)) (bs ++ [.int .u8 c]) w' ∧ Below B w w') := by
  obtain ⟨i0, hi, hz0, hz1, hz2⟩ := info_parts binfo
  go_enter Tryd.func119, Tryd.ntmps119
  go_wp2_with (go_at_call 147; refine (cc_any B b bs _ h).mono ?_)
  rintro e w1 ⟨rfl, h1, hb1⟩
  obtain ⟨hB, v, hbk, hown, hne⟩ := h1
  have c0 : w1.cell? ⟨b, 0, none⟩ = some (.pointer (some ⟨b, 0, none⟩)) := by rw [Lib.cell_of_heap hbk]; rfl
  have c1 : w1.cell? ⟨b, 1, none⟩ = some v := by rw [Lib.cell_of_heap hbk]; rfl
  go_wp2_with (at_builtin; refine wpList_append_own _ rfl _ _ 43 rfl B 5 i0 (.int .u8 0) 1 1 Tryd.underlying43 hi hz0 hz1 hz2 rfl (by decide) _ _ _ rfl (hown.alloc _) ⟨w1.heap.size, 0, none⟩ 1 1 [.int .u8 c] rfl rfl ?c1 ?c2 ?c3 ?c4 ?c5 ?_)
  case c1 =>
    intro j u hj
    match j, hj with
    | 0, hj => simp at hj; subst hj; simp [Addr.add]
  case c2 => intro u hu; simp at hu; subst hu; rfl
  case c3 => unfold maxLen; omega
  case c4 => omega
  case c5 => have := hb1.size; simp; omega
  intro v' w2 hown' hgrow _
  have hlt : b < w1.heap.size := by
    rcases Nat.lt_or_ge b w1.heap.size with h' | h'
    · exact h'
    · simp [Array.getElem?_eq_none h'] at hbk
  have hb2 : w2.heap[b]? = some (.cells #[.pointer (some ⟨b, 0, none⟩), v] 171 (0, 0)) := by
    rw [hgrow.block b (by simp; omega) (fun e => hne e.symm), Lib.alloc_old w1 _ b hlt]
    exact hbk
  have d0 : w2.cell? ⟨b, 0, none⟩ = some (.pointer (some ⟨b, 0, none⟩)) := by rw [Lib.cell_of_heap hb2]; rfl
  have d1 : w2.cell? ⟨b, 1, none⟩ = some v := by rw [Lib.cell_of_heap hb2]; rfl
  have f1 : w2.frozen? ⟨b, 1, none⟩ = false := Lib.frozen_of_heap hb2 1
  obtain ⟨g, cap, rfl⟩ : ∃ g cap, v' = .slice (some ⟨g, 0, none⟩) (bs.length + 1) cap := by
    rcases hown'.2 with ⟨_, h0⟩ | ⟨g, cap, cur, hv, _⟩
    · omega
    · exact ⟨g, cap, hv⟩
  go_wp2
  go_ret
  refine ⟨rfl, ?_, ?_⟩
  · exact Lib.BuilderAt.put (T := 171) (e := 5) hB hb2 (bs' := bs ++ [.int .u8 c]) (by simpa using hown') (by decide)
  · exact ((hb1.alloc (by have := hb1.size; omega) _).grown hgrow (by have := hb1.size; simp; omega) (fun k hk => (hown.lt k hk).1)).setCell (p := ⟨b, 1, none⟩) hB _
end Go.Proofs.YtcjidlgmbjebjaaDoor

namespace Go.Proofs.YtcjidlgmbjebjaaDoor
open Go Go.RowKit
def q1 (c : UInt8) : List UInt8 := if c.toNat = 34 ∨ c.toNat = 92 then [92, c] else [c]
def qB : List UInt8 → List UInt8
  | [] => []
  | c :: l => q1 c ++ qB l
theorem qB_append (a b : List UInt8) : qB (a ++ b) = qB a ++ qB b := by
  induction a with
  | nil => rfl
  | cons c l ih => simp [qB, ih]
theorem qB_len (a : List UInt8) : (qB a).length ≤ 2 * a.length := by
  induction a with
  | nil => simp [qB]
  | cons c l ih =>
    have : (q1 c).length ≤ 2 := by unfold q1; split <;> simp
    simp [qB]; omega
def BL (w : World) (l : List UInt8) (w' : World) : Prop := Lib.IsBuilder 171 5 w.heap.size w.heap.size (Lib.byteCells l) w' ∧ Below w.heap.size w w'
theorem bl_write (w w1 : World) (l : List UInt8) (c : UInt8) (n : Int) (hn : n = c.toNat) (h : BL w l w1) (hl : l.length ≤ 10000) :
    Calls Tryd.prog 119 #[.pointer (some ⟨w.heap.size, 0, none⟩), .int .u8 n] w1 (fun e w' => e = .returned .nilIface ∧ BL w (l ++ [c]) w') := by
  subst hn
  refine (write_byte w.heap.size w.heap.size _ _ w1 h.1 (by simp [Lib.byteCells]; omega) h.2.size).mono ?_
  rintro e w' ⟨rfl, h1, h2⟩
  refine ⟨rfl, Or.inr ?_, h.2.trans h2⟩
  simpa [Lib.byteCells] using h1
theorem take_one (s : ByteArray) (i : Nat) (h : i < s.size) : s.data.toList.take (i + 1) = s.data.toList.take i ++ [s[i]] := by
  have h2 : i < s.data.toList.length := by simpa using h
  rw [List.take_succ_eq_append_getElem h2]
  rfl
def QuR (s : ByteArray) (w : World) (n : Value) (w' : World) : Prop := ∃ i : Nat, i ≤ s.size ∧ n = .int .i64 i ∧ BL w (34 :: qB (s.data.toList.take i)) w'
def qS (s : ByteArray) : ByteArray := ⟨(34 :: qB s.data.toList ++ [34]).toArray⟩
def RetS (v : Value) (w : World) (e : Ending) (w' : World) : Prop := e = .returned v ∧ Below w.heap.size w w'
set_option maxHeartbeats 1000000 in
theorem quoted_val (s : ByteArray) (w : World) (hs : s.size ≤ 2000) :
    Calls Tryd.prog 69 #[.string s] w (RetS (.string (qS s)) w) := by
  have hB0 : BL w [] (w.alloc (.cells #[.pointer none, .slice none 0 0] 171)) := ⟨Lib.fresh_isBuilder 171 5 w, (Below.refl _ w).alloc (Nat.le_refl _) _⟩
  go_enter Tryd.func69, Tryd.ntmps69
  go_wp2_with (first | (go_at_call 119; refine (bl_write w _ _ 34 _ ?_ hB0 ?_).mono ?_; (· rfl); (· simp); rintro e w1 ⟨rfl, h1⟩))
  go_loopw [8] (fun n w' => QuR s w n w') (fun n _ => s.size - (intOf n).toNat)
  case atStart => exact ⟨0, by omega, rfl, by simpa [qB] using h1⟩
  case round =>
    obtain ⟨i, hi, rfl, hb⟩ := hrel
    clear h1 hB0
    by_cases hp : i < s.size
    · have hl := qB_len (s.data.toList.take i)
      have hl2 : (s.data.toList.take i).length ≤ 2000 := by simp; omega
      have ht := take_one s i hp
      have hq := qB_append (s.data.toList.take i) [s[i]]
      rw [← ht] at hq
      by_cases hc : (s[i]).toNat = 34 ∨ (s[i]).toNat = 92
      · have h1c : qB [s[i]] = [92] ++ [s[i]] := by simp [qB, q1, hc]
        rw [h1c] at hq
        have HQ := Lib.hid hq
        clear hq ht h1c
        rcases hc with hc | hc
        all_goals
          go_wp2_with (first
            | (go_at_call 119; refine (bl_write w _ _ s[i] _ ?_ h2 ?_).mono ?_; (· first | rfl | omega); (· simp; omega); rintro e w3 ⟨rfl, h3⟩)
            | (go_at_call 119; refine (bl_write w _ _ 92 _ ?_ hb ?_).mono ?_; (· rfl); (· simp; omega); rintro e w2 ⟨rfl, h2⟩))
          refine ⟨⟨i + 1, by omega, rfl, ?_⟩, by simp [intOf]; omega⟩
          rw [HQ.out]
          simpa using h3
      · have h1c : qB [s[i]] = [s[i]] := by simp [qB, q1, hc]
        rw [h1c] at hq
        have HQ := Lib.hid hq
        clear hq ht h1c
        have hc1 : (((s[i]).toNat : Int) == 34) = false := by rw [beq_eq_false_iff_ne]; omega
        have hc2 : (((s[i]).toNat : Int) == 92) = false := by rw [beq_eq_false_iff_ne]; omega
        clear hc
        go_wp2_with (first
            | (go_at_call 119; refine (bl_write w _ _ s[i] _ ?_ hb ?_).mono ?_; (· first | rfl | omega); (· simp; omega); rintro e w3 ⟨rfl, h3⟩))
        refine ⟨⟨i + 1, by omega, rfl, ?_⟩, by simp [intOf]; omega⟩
        rw [HQ.out]
        simpa using h3
    · obtain rfl : i = s.size := by omega
      have hl := qB_len (s.data.toList.take s.size)
      have hl2 : (s.data.toList.take s.size).length ≤ 2000 := by simp; omega
      go_wp2_with (first
            | (go_at_call 119; refine (bl_write w _ _ 34 _ ?_ hb ?_).mono ?_; (· rfl); (· simp; omega); rintro e w3 ⟨rfl, h3⟩)
            | (go_at_call 112; refine (Tryd.Builder_String _ _ (34 :: qB (s.data.toList.take s.size) ++ [34]) _ h3.1 (by simp)).mono ?_; rintro e w4 ⟨rfl, h4⟩))
      go_ret
      refine ⟨?_, ?_⟩
      · have : s.data.toList.take s.size = s.data.toList := List.take_of_length_le (by simp)
        rw [this]
        rfl
      · exact h3.2.trans h4
end Go.Proofs.YtcjidlgmbjebjaaDoor

namespace Go.Proofs.YtcjidlgmbjebjaaDoor
open Go Go.RowKit
theorem types_stays {w w' : World} (h : TypesAt w) (hb : Below w.heap.size w w') : TypesAt w' :=
  ⟨cell_later hb h.1, cell_later hb h.2.1, cell_later hb h.2.2.1, cell_later hb h.2.2.2⟩
theorem forms_stays {w w' : World} (h : FormsAt w) (hb : Below w.heap.size w w') : FormsAt w' :=
  ⟨cell_later hb h.1, cell_later hb h.2.1, cell_later hb h.2.2.1, cell_later hb h.2.2.2.1, cell_later hb h.2.2.2.2.1, cell_later hb h.2.2.2.2.2.1, cell_later hb h.2.2.2.2.2.2⟩
def tyName (k : Int) : ByteArray := if k = 1 then ⟨#[105, 110, 116]⟩ else if k = 2 then ⟨#[116, 101, 120, 116]⟩ else if k = 3 then ⟨#[102, 108, 97, 103]⟩ else ⟨#[]⟩
def colText (nm : ByteArray) (k : Int) (m : Bool) : ByteArray := bif m then nm ++ ⟨#[58]⟩ ++ tyName k ++ ⟨#[33]⟩ else nm ++ ⟨#[58]⟩ ++ tyName k
theorem append_nil (a : ByteArray) : a ++ ⟨#[]⟩ = a := by
  apply ByteArray.ext; simp
set_option maxHeartbeats 2000000 in
theorem coltext_val (nm : ByteArray) (k : Int) (m : Bool) (W : World) (hs : nm.size ≤ 2000) (ht : TypesAt W) :
    Calls Tryd.prog 54 #[colV nm k m] W (RetS (.string (colText nm k m)) W) := by
  unfold colV
  have hT := types_stays ht ((Below.refl W.heap.size W).alloc (Nat.le_refl _) (.cells #[.string nm, .int .i64 k, .bool m] 90))
  obtain ⟨c0, c1, c2, c3⟩ := hT
  have hk : k < 0 ∨ k = 0 ∨ k = 1 ∨ k = 2 ∨ k = 3 ∨ 4 ≤ k := by omega
  have hn : k < 0 ∨ 4 ≤ k → tyName k = ⟨#[]⟩ := fun h => by unfold tyName; rw [if_neg (by omega), if_neg (by omega), if_neg (by omega)]
  rcases hk with hk | rfl | rfl | rfl | rfl | hk
  case inl =>
    have HN := Lib.hid (hn (.inl hk)); clear hn
    cases m
    all_goals
      go_enter Tryd.func54, Tryd.ntmps54
      go_wp2
      go_ret
      refine ⟨?_, ?_⟩
      · unfold colText; rw [HN.out, append_nil]; rfl
      · go_grown
  case inr.inr.inr.inr.inr =>
    have HN := Lib.hid (hn (.inr hk)); clear hn
    cases m
    all_goals
      go_enter Tryd.func54, Tryd.ntmps54
      go_wp2
      go_ret
      refine ⟨?_, ?_⟩
      · unfold colText; rw [HN.out, append_nil]; rfl
      · go_grown
  all_goals
    clear hn
    cases m
    all_goals
      go_enter Tryd.func54, Tryd.ntmps54
      go_wp2
      go_ret
      refine ⟨?_, ?_⟩
      · first | rfl | (unfold colText; simp [tyName, append_nil]; done)
      · go_grown
end Go.Proofs.YtcjidlgmbjebjaaDoor

namespace Go.Proofs.YtcjidlgmbjebjaaDoor
open Go Go.RowKit
abbrev Col := ByteArray × Int × Bool
def ColAt (w : World) (b o i : Nat) (c : Col) : Prop := w.cell? ⟨b, o + i * 3, none⟩ = some (.string c.1) ∧ w.cell? ⟨b, o + i * 3 + 1, none⟩ = some (.int .i64 c.2.1) ∧ w.cell? ⟨b, o + i * 3 + 2, none⟩ = some (.bool c.2.2)
def ColsAt (w : World) (b o : Nat) (cs : List Col) : Prop := ∀ i c, cs[i]? = some c → ColAt w b o i c
theorem cols_stays {w w' : World} {b o : Nat} {cs : List Col} (h : ColsAt w b o cs) (hb : Below w.heap.size w w') : ColsAt w' b o cs :=
  fun i c hc => ⟨cell_later hb (h i c hc).1, cell_later hb (h i c hc).2.1, cell_later hb (h i c hc).2.2⟩
def ColsV (w : World) (v : Value) (cs : List Col) : Prop := ∃ pa b o cap, v = .slice pa cs.length cap ∧ cs.length ≤ cap ∧ (0 < cs.length → pa = some ⟨b, o, none⟩) ∧ ColsAt w b o cs
theorem colsV_stays {w w' : World} {v : Value} {cs : List Col} (h : ColsV w v cs) (hb : Below w.heap.size w w') : ColsV w' v cs := by
  obtain ⟨pa, b, o, cap, hv, hc, hp, h⟩ := h
  exact ⟨pa, b, o, cap, hv, hc, hp, cols_stays h hb⟩
def schV (nm : ByteArray) (k srs : Int) (v : Value) : Value := .agg #[.string nm, .int .i64 k, .int .i64 srs, v]
def LtR (cs : List Col) (W : World) (a n : Value) (w' : World) : Prop :=
  ∃ (i : Nat) (x : Int), i ≤ cs.length ∧ a = .int .i64 x ∧ n = .int .i64 i ∧ Below W.heap.size W w'
/-- 'light' tells some truth value; where it is true there are no more than 50 columns (a sum of lengths can wrap: it tells nothing of the names). -/
def RetLight (len : Nat) (W : World) (e : Ending) (w' : World) : Prop := ∃ b : Bool, e = .returned (.bool b) ∧ (b = true → len ≤ 50) ∧ Below W.heap.size W w'
set_option maxHeartbeats 2000000 in
theorem light_val (nm : ByteArray) (k srs : Int) (v : Value) (cs : List Col) (W : World) (hn : nm.size ≤ 9223372036854775807) (hlen : cs.length ≤ 9223372036854775807) (hv : ColsV W v cs) :
    Calls Tryd.prog 11 #[schV nm k srs v] W (RetLight cs.length W) := by
  obtain ⟨pa, b, o, cap, rfl, hcap, hpa, h0⟩ := hv
  unfold schV
  by_cases hl : cs.length ≤ 50
  case neg =>
    go_enter Tryd.func11, Tryd.ntmps11
    go_wp2
    go_ret
    exact ⟨_, rfl, by simp, by go_grown⟩
  by_cases hn5 : nm.size ≤ 500
  case neg =>
    go_enter Tryd.func11, Tryd.ntmps11
    go_wp2
    go_ret
    exact ⟨_, rfl, by simp, by go_grown⟩
  have H0 := Lib.hid h0; clear h0
  have HP := Lib.hid hpa; clear hpa
  go_enter Tryd.func11, Tryd.ntmps11
  go_wp2
  go_loopw [3, 20] (fun a n w' => LtR cs W a n w') (fun _ n _ => cs.length - (intOf n).toNat)
  case atStart => exact ⟨0, _, by omega, rfl, rfl, by go_grown⟩
  case round =>
    obtain ⟨i, x, hi, rfl, rfl, hB⟩ := hrel
    by_cases hp : i < cs.length
    · obtain rfl := HP.out (by omega)
      obtain ⟨c, hc⟩ : ∃ c, cs[i]? = some c := ⟨cs[i], List.getElem?_eq_getElem hp⟩
      obtain ⟨x0, x1, x2⟩ := cols_stays H0.out hB i c hc
      obtain ⟨cn, ck, cm⟩ := c
      have hB2 := hB.alloc hB.size (.cells #[.string cn, .int .i64 ck, .bool cm] 90)
      dsimp only at x0 x1 x2
      go_wp2
      · go_ret
        exact ⟨_, rfl, by simp, hB2⟩
      · exact ⟨⟨i + 1, _, by omega, rfl, rfl, hB2⟩, by simp [intOf]; omega⟩
    · obtain rfl : i = cs.length := by omega
      go_wp2
      go_ret
      exact ⟨_, rfl, fun _ => hl, hB⟩
end Go.Proofs.YtcjidlgmbjebjaaDoor

namespace Go.Proofs.YtcjidlgmbjebjaaDoor
open Go Go.RowKit
def EqR (n : Nat) (cs ds : List Col) (w : World) (v : Value) (w' : World) : Prop :=
  ∃ i : Nat, i ≤ n ∧ v = .int .i64 i ∧ cs.take i = ds.take i ∧ Below w.heap.size w w'
theorem take_next {cs ds : List Col} {i : Nat} {c d : Col} (h : cs.take i = ds.take i) (hc : cs[i]? = some c) (hd : ds[i]? = some d) (he : c = d) : cs.take (i + 1) = ds.take (i + 1) := by
  obtain ⟨hi, rfl⟩ := List.getElem?_eq_some_iff.1 hc
  obtain ⟨hj, rfl⟩ := List.getElem?_eq_some_iff.1 hd
  rw [List.take_succ_eq_append_getElem hi, List.take_succ_eq_append_getElem hj, h, he]
theorem below_drew {B : Nat} {a w : World} (h : Below B a w) : Below B a w.drew := ⟨h.os, h.tape, h.output, h.size, h.block⟩
theorem byte_inj {a b : ByteArray} (h : a.toList = b.toList) : a = b := by
  apply ByteArray.ext
  rw [ByteArray.toList_eq, ByteArray.toList_eq] at h
  exact Array.toList_inj.1 h
set_option maxHeartbeats 4000000 in
theorem eqcols_val (v v2 : Value) (cs ds : List Col) (W : World) (hl1 : cs.length ≤ 50) (hl2 : ds.length ≤ 50) (hv1 : ColsV W v cs) (hv2 : ColsV W v2 ds) :
    Calls Tryd.prog 51 #[v, v2] W (RetBool (decide (cs = ds)) W) := by
  obtain ⟨pa, b, o, cap, rfl, hcap, hpa, h1⟩ := hv1
  obtain ⟨pa2, b2, o2, cap2, rfl, hcap2, hpa2, h2⟩ := hv2
  have HP := Lib.hid hpa; clear hpa
  have HP2 := Lib.hid hpa2; clear hpa2
  clear hcap hcap2
  by_cases hl : cs.length = ds.length
  case neg =>
    have HR := Lib.hid (show decide (cs = ds) = false by rw [decide_eq_false_iff_not]; intro h; exact hl (by rw [h]))
    go_enter Tryd.func51, Tryd.ntmps51
    have hl3 : ((cs.length : Int) != (ds.length : Int)) = true := by rw [bne_iff_ne]; omega
    go_wp2
    go_ret
    exact ⟨by rw [HR.out]; rfl, Below.refl _ _⟩
  have H1 := Lib.hid h1; clear h1
  have H2 := Lib.hid h2; clear h2
  go_enter Tryd.func51, Tryd.ntmps51
  rw [← hl]
  have HLn := Lib.hid hl; clear hl
  go_wp2
  go_loopw [13] (fun v w' => EqR cs.length cs ds W v w') (fun v _ => cs.length - (intOf v).toNat)
  case atStart => exact ⟨0, by omega, rfl, by simp, by go_grown⟩
  case round =>
    obtain ⟨i, hi, rfl, ht, hB⟩ := hrel
    by_cases hp : i < cs.length
    · have hp2 : i < ds.length := by have := HLn.out; omega
      obtain rfl := HP.out (by omega)
      obtain rfl := HP2.out (by omega)
      obtain ⟨c, hc⟩ : ∃ c, cs[i]? = some c := ⟨cs[i], List.getElem?_eq_getElem hp⟩
      obtain ⟨d, hd⟩ : ∃ d, ds[i]? = some d := ⟨ds[i]'hp2, List.getElem?_eq_getElem hp2⟩
      clear hp2
      obtain ⟨x0, x1, x2⟩ := cols_stays H1.out hB i c hc
      obtain ⟨y0, y1, y2⟩ := cols_stays H2.out hB i d hd
      have hnx := Lib.hid (fun he => take_next ht hc hd he)
      have hno : c ≠ d → decide (cs = ds) = false := fun hne => by
        rw [decide_eq_false_iff_not]; rintro rfl; rw [hc] at hd; exact hne (Option.some.inj hd)
      have hNO := Lib.hid hno
      clear hno hc hd ht
      obtain ⟨cn, ck, cm⟩ := c
      obtain ⟨dn, dk, dm⟩ := d
      dsimp only at x0 x1 x2 y0 y1 y2
      by_cases e1 : cn.toList = dn.toList
      · obtain rfl := byte_inj e1
        clear e1
        by_cases e2 : ck = dk
        · subst e2
          by_cases e3 : cm = dm
          · subst e3
            go_wp2_with fail
            go_region_held3 (fun w' => w'.cell? ⟨b, o + i * 3, none⟩ = some (.string cn) ∧ w'.cell? ⟨b, o + i * 3 + 1, none⟩ = some (.int .i64 ck) ∧ w'.cell? ⟨b, o + i * 3 + 2, none⟩ = some (.bool cm) ∧
                w'.cell? ⟨b2, o2 + i * 3, none⟩ = some (.string cn) ∧ w'.cell? ⟨b2, o2 + i * 3 + 1, none⟩ = some (.int .i64 ck) ∧ w'.cell? ⟨b2, o2 + i * 3 + 2, none⟩ = some (.bool cm) ∧ Below W.heap.size W w')
              (first | (go_keep; done) | ((repeat' apply And.intro) <;> first | assumption | (rw [World.cell?_drew]; assumption) | (exact hB) | (exact below_drew hB)))
              (fail)
            rename_i hH
            have hB3 := hH.2.2.2.2.2.2
            go_wp2_with fail
            first
              | exact ⟨⟨i + 1, by omega, rfl, by first | exact hnx.out rfl | exact hnx.out trivial | simpa using hnx.out, by first | exact hB3 | exact below_drew hB⟩, by simp [intOf]; omega⟩
              | (go_roundw
                 case rel => exact ⟨i + 1, by omega, rfl, by first | exact hnx.out rfl | exact hnx.out trivial | simpa using hnx.out, by first | exact hB3 | exact below_drew hB⟩
                 case measure => simp [intOf]; omega)
          · have HF := Lib.hid (hNO.out (by simp [e3]))
            go_wp2_with fail
            go_region_held3 (fun w' => w'.cell? ⟨b, o + i * 3, none⟩ = some (.string cn) ∧ w'.cell? ⟨b, o + i * 3 + 1, none⟩ = some (.int .i64 ck) ∧ w'.cell? ⟨b, o + i * 3 + 2, none⟩ = some (.bool cm) ∧
                w'.cell? ⟨b2, o2 + i * 3, none⟩ = some (.string cn) ∧ w'.cell? ⟨b2, o2 + i * 3 + 1, none⟩ = some (.int .i64 ck) ∧ w'.cell? ⟨b2, o2 + i * 3 + 2, none⟩ = some (.bool dm) ∧ Below W.heap.size W w')
              (first | (go_keep; done) | ((repeat' apply And.intro) <;> first | assumption | (rw [World.cell?_drew]; assumption) | (exact hB) | (exact below_drew hB)))
              (fail)
            rename_i hH
            have hB3 := hH.2.2.2.2.2.2
            go_wp2_with fail
            go_ret
            exact ⟨by rw [HF.out]; rfl, hB3⟩
        · have HF := Lib.hid (hNO.out (by simp [e2]))
          go_wp2_with fail
          go_region_held3 (fun w' => w'.cell? ⟨b, o + i * 3, none⟩ = some (.string cn) ∧ w'.cell? ⟨b, o + i * 3 + 1, none⟩ = some (.int .i64 ck) ∧ w'.cell? ⟨b, o + i * 3 + 2, none⟩ = some (.bool cm) ∧
              w'.cell? ⟨b2, o2 + i * 3, none⟩ = some (.string cn) ∧ w'.cell? ⟨b2, o2 + i * 3 + 1, none⟩ = some (.int .i64 dk) ∧ w'.cell? ⟨b2, o2 + i * 3 + 2, none⟩ = some (.bool dm) ∧ Below W.heap.size W w')
            (first | (go_keep; done) | ((repeat' apply And.intro) <;> first | assumption | (rw [World.cell?_drew]; assumption) | (exact hB) | (exact below_drew hB)))
            (fail)
          rename_i hH
          have hB3 := hH.2.2.2.2.2.2
          go_wp2_with fail
          go_ret
          exact ⟨by rw [HF.out]; rfl, hB3⟩
      · have HF := Lib.hid (hNO.out (by intro h; exact e1 (by rw [(Prod.mk.inj h).1])))
        have e2 := beq_no e1
        go_wp2_with fail
        go_region_held3 (fun w' => w'.cell? ⟨b, o + i * 3, none⟩ = some (.string cn) ∧ w'.cell? ⟨b, o + i * 3 + 1, none⟩ = some (.int .i64 ck) ∧ w'.cell? ⟨b, o + i * 3 + 2, none⟩ = some (.bool cm) ∧
            w'.cell? ⟨b2, o2 + i * 3, none⟩ = some (.string dn) ∧ w'.cell? ⟨b2, o2 + i * 3 + 1, none⟩ = some (.int .i64 dk) ∧ w'.cell? ⟨b2, o2 + i * 3 + 2, none⟩ = some (.bool dm) ∧ Below W.heap.size W w')
          (first | (go_keep; done) | ((repeat' apply And.intro) <;> first | assumption | (rw [World.cell?_drew]; assumption) | (exact hB) | (exact below_drew hB)))
          (fail)
        rename_i hH
        have hB3 := hH.2.2.2.2.2.2
        go_wp2_with fail
        go_ret
        exact ⟨by rw [HF.out]; rfl, hB3⟩
    · obtain rfl : i = cs.length := by omega
      have HR := Lib.hid (show decide (cs = ds) = true by rw [decide_eq_true_iff, ← List.take_length (l := cs), ht, HLn.out, List.take_length])
      go_wp2
      go_ret
      exact ⟨by rw [HR.out]; rfl, hB⟩
end Go.Proofs.YtcjidlgmbjebjaaDoor

namespace Go.Proofs.YtcjidlgmbjebjaaDoor
open Go Go.RowKit
def sameSch (n1 : ByteArray) (k1 r1 : Int) (cs : List Col) (n2 : ByteArray) (k2 r2 : Int) (ds : List Col) : Bool :=
  (n1.toList == n2.toList) && (decide (k1 = k2) && (decide (r1 = r2) && decide (cs = ds)))
set_option maxHeartbeats 2000000 in
theorem same_val (n1 : ByteArray) (k1 r1 : Int) (v : Value) (cs : List Col) (n2 : ByteArray) (k2 r2 : Int) (v2 : Value) (ds : List Col) (W : World) (hl1 : cs.length ≤ 50) (hl2 : ds.length ≤ 50) (h1 : ColsV W v cs) (h2 : ColsV W v2 ds) :
    Calls Tryd.prog 19 #[schV n1 k1 r1 v, schV n2 k2 r2 v2] W (RetBool (sameSch n1 k1 r1 cs n2 k2 r2 ds) W) := by
  unfold schV
  obtain ⟨pa, b, o, cap, rfl, hrest1⟩ := h1
  obtain ⟨pa2, b2, o2, cap2, rfl, hrest2⟩ := h2
  have H1 : Hid (ColsV W (.slice pa cs.length cap) cs) := Lib.hid ⟨pa, b, o, cap, rfl, hrest1⟩
  have H2 : Hid (ColsV W (.slice pa2 ds.length cap2) ds) := Lib.hid ⟨pa2, b2, o2, cap2, rfl, hrest2⟩
  clear hrest1 hrest2
  by_cases e1 : n1.toList = n2.toList
  · have f1 := beq_yes e1
    by_cases e2 : k1 = k2
    · subst e2
      by_cases e3 : r1 = r2
      · subst e3
        have HR := Lib.hid (show sameSch n1 k1 r1 cs n2 k1 r1 ds = decide (cs = ds) by simp [sameSch, f1])
        clear e1
        go_enter Tryd.func19, Tryd.ntmps19
        go_wp2_with fail
        refine (eqcols_val _ _ cs ds _ hl1 hl2 (colsV_stays H1.out (by go_grown)) (colsV_stays H2.out (by go_grown))).mono ?_
        rintro e w1 ⟨rfl, hb⟩
        have hB := below_step (show Below W.heap.size W _ from by go_grown) hb
        clear hb
        dsimp only
        go_wp2_with fail
        go_ret
        exact ⟨by rw [HR.out]; rfl, hB⟩
      · have HR := Lib.hid (show sameSch n1 k1 r1 cs n2 k1 r2 ds = false by simp [sameSch, e3])
        clear e1
        go_enter Tryd.func19, Tryd.ntmps19
        go_wp2
        go_ret
        exact ⟨by rw [HR.out]; rfl, by go_grown⟩
    · have HR := Lib.hid (show sameSch n1 k1 r1 cs n2 k2 r2 ds = false by simp [sameSch, e2])
      clear e1
      go_enter Tryd.func19, Tryd.ntmps19
      go_wp2
      go_ret
      exact ⟨by rw [HR.out]; rfl, by go_grown⟩
  · have f1 := beq_no e1
    have HR := Lib.hid (show sameSch n1 k1 r1 cs n2 k2 r2 ds = false by simp [sameSch, f1])
    clear e1
    go_enter Tryd.func19, Tryd.ntmps19
    go_wp2
    go_ret
    exact ⟨by rw [HR.out]; rfl, by go_grown⟩
end Go.Proofs.YtcjidlgmbjebjaaDoor

namespace Go.Proofs.YtcjidlgmbjebjaaDoor
open Go Go.RowKit
def flat (cs : List Col) : List Value := cs.flatMap fun c => [.string c.1, .int .i64 c.2.1, .bool c.2.2]
theorem flat_len (cs : List Col) : (flat cs).length = cs.length * 3 := by
  induction cs with
  | nil => rfl
  | cons c cs ih => simp [flat] at *; omega
theorem flat_snoc (cs : List Col) (c : Col) : flat (cs ++ [c]) = flat cs ++ [.string c.1, .int .i64 c.2.1, .bool c.2.2] := by simp [flat]
theorem flat_get (cs : List Col) : ∀ (i : Nat) (c : Col), cs[i]? = some c → (flat cs)[i * 3]? = some (.string c.1) ∧ (flat cs)[i * 3 + 1]? = some (.int .i64 c.2.1) ∧ (flat cs)[i * 3 + 2]? = some (.bool c.2.2) := by
  induction cs with
  | nil => intro i c h; simp at h
  | cons d cs ih =>
    intro i c h
    cases i with
    | zero => simp at h; subst h; simp [flat]
    | succ i =>
      simp at h
      obtain ⟨h1, h2, h3⟩ := ih i c h
      have e : ∀ j, (flat (d :: cs))[j + 3]? = (flat cs)[j]? := fun j => by
        show ([Value.string d.1, .int .i64 d.2.1, .bool d.2.2] ++ flat cs)[j + 3]? = _
        rw [List.getElem?_append_right (by simp)]; simp
      rw [show (i + 1) * 3 = i * 3 + 3 by omega, show i * 3 + 3 + 1 = i * 3 + 1 + 3 by omega, show i * 3 + 3 + 2 = i * 3 + 2 + 3 by omega, e, e, e]
      exact ⟨h1, h2, h3⟩
theorem own_cols {w : World} {base e n : Nat} {v : Value} {cs : List Col} (h : w.ownsRow base e 3 v n (flat cs)) (hn : cs.length = n) : ColsV w v cs := by
  have h0 := h
  obtain ⟨_, ⟨hv, h2⟩ | ⟨g, cap, cur, hv, hg, hb, hcap, _⟩⟩ := h
  · obtain rfl : cs = [] := List.eq_nil_of_length_eq_zero (by omega)
    exact ⟨none, 0, 0, 0, hv, Nat.le_refl _, fun h => absurd h (by simp), fun i c hc => by simp at hc⟩
  · subst hn
    refine ⟨some ⟨g, 0, none⟩, g, 0, cap, hv, hcap, fun _ => rfl, fun i c hc => ?_⟩
    obtain ⟨h1, h2, h3⟩ := flat_get cs i c hc
    have hgc := h0.cells (g := g) (by rw [hv]; rfl)
    have g1 := hgc _ _ h1
    have g2 := hgc _ _ h2
    have g3 := hgc _ _ h3
    have ha : ∀ j, (⟨g, 0, none⟩ : Addr).add j = ⟨g, 0 + j, none⟩ := fun j => by
      unfold Addr.add
      split <;> simp_all
    rw [ha] at g1 g2 g3
    exact ⟨g1, by rw [Nat.add_assoc]; exact g2, by rw [Nat.add_assoc]; exact g3⟩
end Go.Proofs.YtcjidlgmbjebjaaDoor

namespace Go.Proofs.YtcjidlgmbjebjaaDoor
open Go Go.RowKit
theorem colinfo : Option.map (fun i => (i.zero, i.size, i.bytes)) (Tryd.prog.info? 94) = some (some (.agg #[.string ⟨#[]⟩, .int .i64 0, .bool false]), 3, 32) := by kernel_rfl
def PlR (nm : ByteArray) (kd srs : Int) (cs : List Col) (W : World) (i : Value) (w' : World) : Prop :=
  ∃ (k : Nat) (v : Value), k ≤ cs.length ∧ i = .int .i64 k ∧ w'.heap[W.heap.size + 1 + 1]? = some (.cells #[.string nm, .int .i64 kd, .int .i64 srs, v] 32 (0, 0)) ∧
    w'.heap[W.heap.size + 1]? = some (.cells #[.string ⟨#[]⟩, .int .i64 0, .int .i64 0, .slice none 0 0] 32 (0, 0)) ∧ w'.ownsRow (W.heap.size + 3) 94 3 v k (flat (cs.take k)) ∧ Below W.heap.size W w'
def RetPlain (nm : ByteArray) (kd srs : Int) (cs : List Col) (W : World) (e : Ending) (w' : World) : Prop := ∃ v, e = .returned (.agg #[.string nm, .int .i64 kd, .int .i64 srs, v]) ∧ ColsV w' v cs ∧ Below W.heap.size W w'
theorem take_snocL {cs : List Col} {k : Nat} {c : Col} (h : cs[k]? = some c) : cs.take (k + 1) = cs.take k ++ [c] := by
  obtain ⟨hi, rfl⟩ := List.getElem?_eq_some_iff.1 h
  rw [List.take_succ_eq_append_getElem hi]
theorem hp_new (w : World) (o : Obj) (n : Nat) (h : n = w.heap.size) : (w.alloc o).heap[n]? = some o := by subst h; exact (MapKept.heap_alloc w o).1
theorem hp_old (w : World) (o : Obj) (i : Nat) (x : Option Obj) (h : i < w.heap.size) (hx : w.heap[i]? = x) : (w.alloc o).heap[i]? = x := by rw [Lib.alloc_old w o i h]; exact hx
theorem own_set {w : World} {base e s n : Nat} {v : Value} {xs : List Value} (h : w.ownsRow base e s v n xs) (b i : Nat) (u : Value) (hb : b < base) : (w.setCell ⟨b, i, none⟩ u).ownsRow base e s v n xs :=
  h.kept (row := some b) ⟨rfl, rfl, rfl, by simp [World.setCell], fun k _ hk => heap_setCell_other _ _ _ _ (fun e => hk (by simp [e]))⟩ (by
    cases hv : v.ownBlock with
    | none => exact .inl rfl
    | some k =>
      refine .inr fun e => ?_
      have := h.lt k hv
      injection e with e
      omega)
set_option maxHeartbeats 2000000 in
theorem plain_val (nm : ByteArray) (kd srs : Int) (v0 : Value) (cs : List Col) (W : World) (hlen : cs.length ≤ 50) (hv0 : ColsV W v0 cs) :
    Calls Tryd.prog 14 #[schV nm kd srs v0] W (RetPlain nm kd srs cs W) := by
  obtain ⟨pa, b, o, cap, rfl, hcap, hpa, h0⟩ := hv0
  obtain ⟨i0, hi, hz0, hz1, hz2⟩ := info_parts colinfo
  unfold schV
  have H0 := Lib.hid h0; clear h0
  have HP := Lib.hid hpa; clear hpa hcap
  go_enter Tryd.func14, Tryd.ntmps14
  go_wp2
  go_loopw [16] (fun i w' => PlR nm kd srs cs W i w') (fun i _ => cs.length - (intOf i).toNat)
  case atStart =>
    refine ⟨0, .slice none 0 0, by omega, rfl, ?_, ?_, World.ownsRow_nil _ _ _ _, by go_grown⟩
    · exact hp_new _ _ _ (by simp)
    · exact hp_old _ _ _ _ (by simp) (hp_new _ _ _ (by simp))
  case round =>
    obtain ⟨k, v, hk, rfl, hb2, hb1, hown, hB⟩ := hrel
    by_cases hp : k < cs.length
    · obtain rfl := HP.out (by omega)
      obtain ⟨c, hc⟩ : ∃ c, cs[k]? = some c := ⟨cs[k], List.getElem?_eq_getElem hp⟩
      have HC := Lib.hid hc
      obtain ⟨x0, x1, x2⟩ := cols_stays H0.out hB k c hc
      clear hc
      obtain ⟨cn, ck, cm⟩ := c
      dsimp only at x0 x1 x2
      have lt2 : W.heap.size + 1 + 1 < wr.heap.size := (Array.getElem?_eq_some_iff.1 hb2).1
      have c3 : wr.cell? ⟨W.heap.size + 1 + 1, 3, none⟩ = some v := by rw [Lib.cell_of_heap hb2]; rfl
      have HB1 := Lib.hid hb1; have HB2 := Lib.hid hb2; clear hb1 hb2
      have HO := Lib.hid hown; clear hown
      go_wp2_with (at_builtin; refine wpList_append_own _ rfl _ _ 30 rfl (W.heap.size + 3) 94 i0 _ 3 32 Tryd.underlying30 hi hz0 hz1 hz2 rfl (by decide) _ _ _ rfl ((HO.out.alloc _).alloc _) ⟨wr.heap.size + 1, 0, none⟩ 1 1 [.string cn, .int .i64 ck, .bool cm] rfl rfl ?d1 ?c2 ?c3 ?c4 ?c5 ?_)
      case c2 => exact ⟨rfl, rfl, rfl⟩
      case c3 => unfold maxLen; omega
      case c4 => omega
      case c5 => have := hB.size; simp; omega
      intro v' w2 hown' hgrow _
      obtain ⟨g, cap', rfl⟩ : ∃ g cap', v' = .slice (some ⟨g, 0, none⟩) (k + 1) cap' := by
        rcases hown'.2 with ⟨_, h0⟩ | ⟨g, cap, cur, hv, _⟩
        · omega
        · exact ⟨g, cap, hv⟩
      have hno : ∀ q : Nat, q < W.heap.size + 3 → some q ≠ v.ownBlock := fun q hq e => by have := HO.out.lt q e.symm; omega
      have hb2 : w2.heap[W.heap.size + 1 + 1]? = some (.cells #[.string nm, .int .i64 kd, .int .i64 srs, v] 32 (0, 0)) :=
        (hgrow.block _ (by simp; omega) (hno _ (by omega))).trans (hp_old _ _ _ _ (by simp; omega) (hp_old _ _ _ _ (by omega) HB2.out))
      have hb1 : w2.heap[W.heap.size + 1]? = some (.cells #[.string ⟨#[]⟩, .int .i64 0, .int .i64 0, .slice none 0 0] 32 (0, 0)) :=
        (hgrow.block _ (by simp; omega) (hno _ (by omega))).trans (hp_old _ _ _ _ (by simp; omega) (hp_old _ _ _ _ (by omega) HB1.out))
      have hB2 : Below W.heap.size W w2 := ((hB.alloc (by omega) _).alloc (by simp; omega) _).grown hgrow (by simp; omega) (fun q hq => by have := HO.out.lt q hq; omega)
      have d3 : w2.cell? ⟨W.heap.size + 1 + 1, 3, none⟩ = some v := by rw [Lib.cell_of_heap hb2]; rfl
      have f3 : w2.frozen? ⟨W.heap.size + 1 + 1, 3, none⟩ = false := Lib.frozen_of_heap hb2 3
      have HREL := Lib.hid (show PlR nm kd srs cs W (.int .i64 ((k + 1 : Nat) : Int)) (w2.setCell ⟨W.heap.size + 1 + 1, 3, none⟩ (.slice (some ⟨g, 0, none⟩) (k + 1) cap')) from
        ⟨k + 1, _, by omega, rfl, heap_setCell_same _ _ _ _ _ _ hb2, by rw [heap_setCell_other _ _ _ _ (by simp)]; exact hb1,
          by rw [take_snocL HC.out, flat_snoc]; exact own_set hown' _ _ _ (by omega), hB2.setCell (by simp; omega) _⟩)
      clear hb1 hb2 hB2 hown' hgrow hno
      go_wp2
      exact ⟨HREL.out, by simp [intOf]; omega⟩
    · obtain rfl : k = cs.length := by omega
      rw [List.take_length] at hown
      obtain ⟨p, q, c, rfl⟩ : ∃ p q c, v = .slice p q c := by
        rcases hown.2 with ⟨hv, _⟩ | ⟨g, cap, cur, hv, _⟩
        · exact ⟨_, _, _, hv⟩
        · exact ⟨_, _, _, hv⟩
      have a0 : wr.cell? ⟨W.heap.size + 1 + 1, 0, none⟩ = some (.string nm) := by rw [Lib.cell_of_heap hb2]; rfl
      have a1 : wr.cell? ⟨W.heap.size + 1 + 1, 1, none⟩ = some (.int .i64 kd) := by rw [Lib.cell_of_heap hb2]; rfl
      have a2 : wr.cell? ⟨W.heap.size + 1 + 1, 2, none⟩ = some (.int .i64 srs) := by rw [Lib.cell_of_heap hb2]; rfl
      have a3 : wr.cell? ⟨W.heap.size + 1 + 1, 3, none⟩ = some (.slice p q c) := by rw [Lib.cell_of_heap hb2]; rfl
      have b0 : wr.cell? ⟨W.heap.size + 1, 0, none⟩ = some (.string ⟨#[]⟩) := by rw [Lib.cell_of_heap hb1]; rfl
      have b1 : wr.cell? ⟨W.heap.size + 1, 1, none⟩ = some (.int .i64 0) := by rw [Lib.cell_of_heap hb1]; rfl
      have b2 : wr.cell? ⟨W.heap.size + 1, 2, none⟩ = some (.int .i64 0) := by rw [Lib.cell_of_heap hb1]; rfl
      have b3 : wr.cell? ⟨W.heap.size + 1, 3, none⟩ = some (.slice none 0 0) := by rw [Lib.cell_of_heap hb1]; rfl
      have f0 : wr.frozen? ⟨W.heap.size + 1, 0, none⟩ = false := Lib.frozen_of_heap hb1 0
      have f1 : wr.frozen? ⟨W.heap.size + 1, 1, none⟩ = false := Lib.frozen_of_heap hb1 1
      have f2 : wr.frozen? ⟨W.heap.size + 1, 2, none⟩ = false := Lib.frozen_of_heap hb1 2
      have f3 : wr.frozen? ⟨W.heap.size + 1, 3, none⟩ = false := Lib.frozen_of_heap hb1 3
      have HC := Lib.hid hown
      clear hb1 hb2 hown
      go_wp2
      refine bodyPost_ret (v := schV nm kd srs (.slice p q c)) (by simp [results, Tryd.results14, go_sem, schV, b0, b1, b2, b3]) rfl ⟨_, rfl, own_cols (own_set (own_set (own_set (own_set HC.out _ _ _ ?_) _ _ _ ?_) _ _ _ ?_) _ _ _ ?_) rfl, (((hB.setCell ?_ _).setCell ?_ _).setCell ?_ _).setCell ?_ _⟩
      all_goals (simp; try omega)
end Go.Proofs.YtcjidlgmbjebjaaDoor

namespace Go.Proofs.YtcjidlgmbjebjaaDoor.MapB
open Go Go.Maps Go.WideMaps
theorem plainElem_bool_inv {P : Program} {e : TypeId} (he : P.underlying e = some .bool) {v : Value} {z : DataW Unit × List MemPlace} (h : plainElem P e v = some z) : ∃ b, v = .bool b ∧ z = (.lit (.bool b), []) := by
  unfold plainElem at h
  rw [he] at h
  cases v <;> simp at h
  exact ⟨_, rfl, h.symm⟩
/-- Block b is a map of at most n entries, names to truth values: true at just the names of l. -/
def Seen (P : Program) (k e : TypeId) (b n : Nat) (l : List (List UInt8)) (w : World) : Prop :=
  ∃ D : DataW Unit, w.ownsMap P k (plainElem P e) b n D ∧ ∀ x, D.atKey (.string x) (.lit (.bool false)) = .lit (.bool (decide (x ∈ l)))
theorem seen_made (P : Program) (k e : TypeId) (w : World) : Seen P k e w.heap.size 0 [] (w.alloc (.map #[] 0)) :=
  ⟨.map [], World.ownsMap_made w P k _, fun x => by simp; rfl⟩
theorem seen_kept {P : Program} {k e : TypeId} {b n : Nat} {l : List (List UInt8)} {w w' : World} (h : Seen P k e b n l w) {row : Option Nat} (hg : w.grownBy w' row) (hne : some b ≠ row) : Seen P k e b n l w' := by
  obtain ⟨D, h, hD⟩ := h; exact ⟨D, h.kept hg hne, hD⟩
theorem seen_block {P : Program} {k e : TypeId} {b n : Nat} {l : List (List UInt8)} {w w' : World} (h : Seen P k e b n l w) (hb : w'.heap[b]? = w.heap[b]?) : Seen P k e b n l w' := by
  obtain ⟨D, ⟨es, clock, h1, h2⟩, hD⟩ := h; exact ⟨D, ⟨es, clock, hb.trans h1, h2⟩, hD⟩
theorem seen_look {P : Program} {k e t : TypeId} {b n : Nat} {l : List (List UInt8)} {w : World} (h : Seen P k e b n l w) (ht : P.underlying t = some (.map k e)) (hk : P.underlying k = some .string) (he : P.underlying e = some .bool)
    (hz : (zeroValue e).run P w = .ok (.bool false) w) (s : ByteArray) (hs : s.size ≤ 9223372036854775807) :
    (Instr.lookup t (.map (some b)) (.string s) false).run P w = .ok (.bool (decide (s.toList ∈ l))) w := by
  obtain ⟨D, h, hD⟩ := h
  obtain ⟨v, ps, hrun, hv⟩ := h.lookup (Maps.string_keyed hk) ht hz (plainElem_bool he false) (keyOf_string_mk hk (by unfold maxLen; omega))
  obtain ⟨c, rfl, hc⟩ := plainElem_bool_inv he hv
  rw [hD] at hc
  simp only [Prod.mk.injEq, DataW.lit.injEq, Lit.bool.injEq] at hc
  rw [hrun, ← hc.1, ByteArray.toList_eq]
theorem seen_put {P : Program} {k e t : TypeId} {b n : Nat} {l : List (List UInt8)} {w : World} (h : Seen P k e b n l w) (ht : P.underlying t = some (.map k e)) (hk : P.underlying k = some .string) (he : P.underlying e = some .bool)
    (hn : n < 9223372036854775807) (s : ByteArray) (hs : s.size ≤ 9223372036854775807) :
    ∃ w', (Instr.mapUpdate t (.map (some b)) (.string s) (.bool true)).run P w = .ok () w' ∧ Seen P k e b (n + 1) (s.toList :: l) w' ∧ w.grownBy w' (some b) := by
  obtain ⟨D, h, hD⟩ := h
  obtain ⟨w', h1, h2, h3⟩ := h.update (Maps.string_keyed hk) ht (by unfold maxLen; omega) (keyOf_string_mk hk (by unfold maxLen; omega)) (plainElem_bool he true)
  refine ⟨w', h1, ⟨_, h2, fun x => ?_⟩, h3⟩
  by_cases hx : x = s.toList
  · subst hx
    rw [ByteArray.toList_eq, atKey_put_same h.isMap (by trivial)]
    simp
  · rw [atKey_put_other (by rw [← ByteArray.toList_eq]; intro hh; exact hx (by injection hh)), hD]
    simp [hx]
end Go.Proofs.YtcjidlgmbjebjaaDoor.MapB
