/- A part of the proof of ValueReads. -/
import Derived.Test.YtcjidlgmbjebjaaGreatDoorVrk
import Derived.Test.YtcjidlgmbjebjaaGreatDoorVrr
import Derived.Test.YtcjidlgmbjebjaaGreatDoorVrl
import Derived.Test.YtcjidlgmbjebjaaGreatDoorVrq
import Derived.Deep.RegionHeld3
import Derived.Lib.ConvBytes
import Derived.Test.YtcjidlgmbjebjaaGreatDoorVrp
import Derived.Test.YtcjidlgmbjebjaaGreatDoorVrh
import Derived.Test.YtcjidlgmbjebjaaGreatDoorVro
import Derived.Test.YtcjidlgmbjebjaaGreatDoorVrc
import Derived.Test.YtcjidlgmbjebjaaGreatDoorVrd
import Derived.Test.YtcjidlgmbjebjaaGreatDoorVra
import Derived.Test.YtcjidlgmbjebjaaGreatDoorVre
import Derived.Lib.ItoaLen
set_option linter.unusedVariables false
set_option linter.unusedSimpArgs false
set_option maxRecDepth 100000
namespace Go.Proofs.YtcjidlgmbjebjaaGreatDoor.PSchemaForms
open Go.RowKit Go.Proofs.YtcjidlgmbjebjaaGreatDoorW.PrintWords Go.Proofs.YtcjidlgmbjebjaaGreatDoorW.PrintLast Go.Proofs.YtcjidlgmbjebjaaGreatDoorW.PrintMore
attribute [local go_sem] max2_int min2_int max_two min_two max_three min_three max_four min_four
end Go.Proofs.YtcjidlgmbjebjaaGreatDoor.PSchemaForms

namespace Go.Proofs.YtcjidlgmbjebjaaGreatDoor.PSchemaForms
open Go.RowKit Go.Proofs.YtcjidlgmbjebjaaGreatDoorW.PrintWords Go.Proofs.YtcjidlgmbjebjaaGreatDoorW.PrintLast Go.Proofs.YtcjidlgmbjebjaaGreatDoorW.PrintMore
attribute [local go_sem] max2_int min2_int max_two min_two max_three min_three max_four min_four
attribute [local go_sem high] eqA65
end Go.Proofs.YtcjidlgmbjebjaaGreatDoor.PSchemaForms

namespace Go.Proofs.YtcjidlgmbjebjaaGreatDoor
open Go Go.RowKit Go.Proofs.YtcjidlgmbjebjaaGreatDoorW.PrintWords
end Go.Proofs.YtcjidlgmbjebjaaGreatDoor

namespace Go.Proofs.YtcjidlgmbjebjaaGreatDoor
open Go Go.RowKit Go.Proofs.YtcjidlgmbjebjaaGreatDoorW.PrintWords
def numB (n : Int) : List Int := putB (u64of n)
theorem slb_alloc {w : World} {v : Value} {l : List Int} (h : SlB w v l) (o : Obj) : SlB (w.alloc o) v l := slb_below h ((Below.refl _ _).alloc (Nat.le_refl _) o)
end Go.Proofs.YtcjidlgmbjebjaaGreatDoor

namespace Go.Proofs.YtcjidlgmbjebjaaGreatDoor
open Go Go.RowKit Go.Proofs.YtcjidlgmbjebjaaGreatDoorW.PrintWords
theorem slb_conv {w : World} {A : Option Addr} {m c : Nat} {l : List Int} (h : SlB w (.slice A m c) l) : (Go.convert 25 9 (.slice A m c)).run Tryz.prog w = .ok (.string (strOfNums l)) w := by
  obtain ⟨A', c', e, _, hC⟩ := h
  injection e with e1 e2 e3
  subst e1 e2 e3
  exact Kd.C_string Tryz.underlying25 Tryz.underlying5 Tryz.underlying9 hC
theorem take_small {n : Nat} {s : Sb.Src} {k : Nat} (h : s.2.length ≤ k) : (Sb.sTake n s).2.2.length ≤ k := by
  unfold Sb.sTake
  split
  · split
    · simp
    · simp; omega
  · exact h
end Go.Proofs.YtcjidlgmbjebjaaGreatDoor

namespace Go.Proofs.YtcjidlgmbjebjaaGreatDoor
open Go Go.RowKit Go.Proofs.YtcjidlgmbjebjaaGreatDoorW.PrintWords
theorem slb_conv144 {w : World} {A : Option Addr} {m c : Nat} {l : List Int} (h : SlB w (.slice A m c) l) : (Go.convert 25 98 (.slice A m c)).run Tryz.prog w = .ok (.string (strOfNums l)) w := by
  obtain ⟨A', c', e, _, hC⟩ := h
  injection e with e1 e2 e3
  subst e1 e2 e3
  exact Kd.C_string Tryz.underlying25 Tryz.underlying5 Tryz.underlying98 hC
theorem svar_rng {g : Int} (hg : 0 ≤ g) {s : Sb.Src} (hb : Byt s.2) : 0 ≤ (Sb.sVar g s).1 ∧ (Sb.sVar g s).1 ≤ g := by
  have h0 := tk_nonneg s.2 0 0 hb (by omega)
  have h0 : 0 ≤ (Sb.takeV s.2).1 := h0
  unfold Sb.sVar
  split
  · split
    · exact ⟨by omega, by show (0 : Int) ≤ g; omega⟩
    · split
      · exact ⟨by omega, by show (0 : Int) ≤ g; omega⟩
      · exact ⟨h0, by show (Sb.takeV s.2).1 ≤ g; omega⟩
  · exact ⟨by omega, by show (0 : Int) ≤ g; omega⟩
theorem svar_byt {g : Int} {s : Sb.Src} (hb : Byt s.2) : Byt (Sb.sVar g s).2.2 := by
  unfold Sb.sVar
  split
  · split
    · intro x hx; simp at hx
    · split
      · intro x hx; simp at hx
      · exact fun x hx => hb x (List.mem_of_mem_drop hx)
  · exact hb
theorem svar_small {g : Int} {s : Sb.Src} {k : Nat} (h : s.2.length ≤ k) : (Sb.sVar g s).2.2.length ≤ k := by
  unfold Sb.sVar
  split
  · split
    · simp
    · split
      · simp
      · show (s.2.drop _).length ≤ k; rw [List.length_drop]; omega
  · exact h
def thingS (k : Int) (s : Sb.Src) : Value := ofV (Sb.sRaw k s).1.1 (Sb.sRaw k s).1.2.1 (Sb.sRaw k s).1.2.2
set_option maxHeartbeats 1000000 in
theorem next_val (p : Nat) (k : Int) (hk0 : 0 ≤ k) (s : Sb.Src) (hb : Byt s.2) (hl : s.2.length ≤ 140737488355000) (W : World) (hs : SrcP W p s) :
    Calls Tryz.prog 104 #[.pointer (some ⟨p, 0, none⟩), .int .u8 k] W (RetSt (thingS k s) p (Sb.sRaw k s).2 W) := by
  have hk : k = 0 ∨ k = 1 ∨ k = 2 ∨ k = 3 ∨ 3 < k := by omega
  clear hk0
  rcases hk with rfl | rfl | rfl | rfl | hk
  · have HT := Lib.hid (show thingS 0 s = .iface 94 (.agg #[]) ∧ (Sb.sRaw 0 s).2 = s by constructor <;> simp [thingS, Sb.sRaw, ofV])
    have HS := Lib.hid hs
    clear hb hl hs
    go_enter Tryz.func104, Tryz.ntmps104
    go_wp2_with fail
    go_ret
    rw [HT.out.1, HT.out.2]
    exact ⟨rfl, HS.out, Keep1.refl p W⟩
  · have HN := Lib.hid (int_val p s hb W hs)
    have HT := Lib.hid (show thingS 1 s = .iface 104 (.int .i64 (Sb.sInt s).1) ∧ (Sb.sRaw 1 s).2 = (Sb.sInt s).2 by constructor <;> simp [thingS, Sb.sRaw, ofV])
    rw [HT.out.1, HT.out.2]
    generalize (Sb.sInt s).1 = n at HN
    clear hb hl hs HT
    go_enter Tryz.func104, Tryz.ntmps104
    go_wp2_with fail
    (with_reducible refine Calls.mono HN.out ?_)
    rintro _ w1 ⟨rfl, h1, h2⟩
    dsimp only
    go_wp2_with fail
    go_ret
    exact ⟨rfl, h1, h2⟩
  · have HV := Lib.hid (svar_val p 200 s hb W hs)
    obtain ⟨n0, n1⟩ := svar_rng (g := 200) (by decide) hb
    have hb2 := svar_byt (g := 200) hb
    have hl2 := svar_small (g := 200) hl
    have HT := Lib.hid (show thingS 2 s = .iface 98 (.string (strOfNums (Sb.sTake (Sb.sVar 200 s).1.toNat (Sb.sVar 200 s).2).1)) ∧ (Sb.sRaw 2 s).2 = (Sb.sTake (Sb.sVar 200 s).1.toNat (Sb.sVar 200 s).2).2 by constructor <;> simp [thingS, Sb.sRaw, ofV])
    rw [HT.out.1, HT.out.2]
    generalize Sb.sVar 200 s = q at HV n0 n1 hb2 hl2
    obtain ⟨x, s2⟩ := q
    dsimp only at HV n0 n1 hb2 hl2 ⊢
    obtain ⟨m, rfl⟩ : ∃ m : Nat, x = (m : Int) := ⟨x.toNat, by omega⟩
    rw [Int.toNat_natCast]
    have HB := Lib.hid (fun w h => bytes_val p m (by omega) s2 hl2 w h)
    have hwm : wrap64 (m : Int) = (m : Int) := by unfold wrap64; omega
    clear hb hl hs HT
    go_enter Tryz.func104, Tryz.ntmps104
    go_wp2_with fail
    (with_reducible refine Calls.mono HV.out ?_)
    rintro _ w1 ⟨rfl, h1, h2⟩
    dsimp only
    go_wp2_with fail
    (with_reducible refine Calls.mono (HB.out _ h1) ?_)
    rintro _ w2 ⟨A, m2, c, rfl, hv, h3, h4⟩
    have hcv := slb_conv144 hv
    clear h1 hv hwm
    dsimp only
    go_wp2_with fail
    go_ret
    exact ⟨rfl, h3, h2.trans h4⟩
  · have HN := Lib.hid (byte_val p s hb W hs)
    have h01 := (be_one hb).2
    have HT := Lib.hid (show thingS 3 s = ofV 3 (Sb.sByte s).1 ⟨#[]⟩ ∧ (Sb.sRaw 3 s).2 = (Sb.sByte s).2 by constructor <;> simp [thingS, Sb.sRaw, ofV])
    rw [HT.out.1, HT.out.2]
    generalize Sb.sByte s = q at HN h01
    obtain ⟨x, s2⟩ := q
    dsimp only at HN h01 ⊢
    clear hb hl hs HT
    have hx : x = 0 ∨ x = 1 ∨ 1 < x := by omega
    rcases hx with rfl | rfl | hx
    · rw [show ofV 3 0 ⟨#[]⟩ = .iface 97 (.bool false) from by simp [ofV]]
      go_enter Tryz.func104, Tryz.ntmps104
      go_wp2_with fail
      (with_reducible refine Calls.mono HN.out ?_)
      rintro _ w1 ⟨rfl, h1, h2⟩
      dsimp only
      go_wp2_with fail
      go_ret
      exact ⟨rfl, h1, h2⟩
    · rw [show ofV 3 1 ⟨#[]⟩ = .iface 97 (.bool true) from by simp [ofV]]
      go_enter Tryz.func104, Tryz.ntmps104
      go_wp2_with fail
      (with_reducible refine Calls.mono HN.out ?_)
      rintro _ w1 ⟨rfl, h1, h2⟩
      dsimp only
      go_wp2_with fail
      go_ret
      exact ⟨rfl, h1, h2⟩
    · rw [show ofV 3 x ⟨#[]⟩ = .nilIface from by
        unfold ofV
        rw [if_neg (by decide), if_neg (by decide), if_neg (by decide), if_pos rfl]
        split
        · rw [if_neg (by omega), if_neg (by omega)]
        · rfl]
      go_enter Tryz.func104, Tryz.ntmps104
      go_wp2_with fail
      (with_reducible refine Calls.mono HN.out ?_)
      rintro _ w1 ⟨rfl, h1, h2⟩
      dsimp only
      go_wp2_with fail
      go_ret
      exact ⟨rfl, h1, h2⟩
  · have HT := Lib.hid (show thingS k s = .nilIface ∧ (Sb.sRaw k s).2 = s by
      have e : Sb.sRaw k s = ((k, 0, ⟨#[]⟩), s) := by unfold Sb.sRaw; rw [if_neg (by omega), if_neg (by omega), if_neg (by omega)]
      refine ⟨?_, by rw [e]⟩
      unfold thingS
      rw [e]
      unfold ofV
      rw [if_neg (by show ¬ k = 0; omega), if_neg (by show ¬ k = 1; omega), if_neg (by show ¬ k = 2; omega), if_neg (by show ¬ k = 3; omega)])
    rw [HT.out.1, HT.out.2]
    have HS := Lib.hid hs
    have h0 : (k == 0) = false := by rw [beq_eq_false_iff_ne]; omega
    have h1 : (k == 1) = false := by rw [beq_eq_false_iff_ne]; omega
    have h2 : (k == 2) = false := by rw [beq_eq_false_iff_ne]; omega
    have h3 : (k == 3) = false := by rw [beq_eq_false_iff_ne]; omega
    clear hb hl hs HT
    go_enter Tryz.func104, Tryz.ntmps104
    go_wp2_with fail
    go_ret
    exact ⟨rfl, HS.out, Keep1.refl p W⟩
end Go.Proofs.YtcjidlgmbjebjaaGreatDoor

namespace Go.Proofs.YtcjidlgmbjebjaaGreatDoor
open Go Go.RowKit Go.Proofs.YtcjidlgmbjebjaaGreatDoorW.PrintWords
def vV (k n : Int) (s : ByteArray) : Value := .agg #[.int .i64 k, .int .i64 n, .string s]
theorem as_0 (W : World) : Calls Tryz.prog 44 #[.iface 94 (.agg #[])] W (RetV (vV 0 0 ⟨#[]⟩) W) := by
  have a0 := fun w => as_no1 (.agg #[]) w
  have a1 := fun w => as_no2 (.agg #[]) w
  have a2 := fun w => as_no3 (.agg #[]) w
  go_enter Tryz.func44, Tryz.ntmps44
  go_wp2
  refine bodyPost_ret (v := vV 0 0 ⟨#[]⟩) (by simp [results, Tryz.results44, go_sem, vV]) rfl ⟨rfl, by go_grown⟩
theorem as_1 (n : Int) (W : World) : Calls Tryz.prog 44 #[.iface 104 (.int .i64 n)] W (RetV (vV 1 n ⟨#[]⟩) W) := by
  have a0 := fun w => as_int n w
  go_enter Tryz.func44, Tryz.ntmps44
  go_wp2
  refine bodyPost_ret (v := vV 1 n ⟨#[]⟩) (by simp [results, Tryz.results44, go_sem, vV]) rfl ⟨rfl, by go_grown⟩
theorem as_2 (s : ByteArray) (W : World) : Calls Tryz.prog 44 #[.iface 98 (.string s)] W (RetV (vV 2 0 s) W) := by
  have a0 := fun w => as_str0 (.string s) w
  have a1 := fun w => as_str s w
  go_enter Tryz.func44, Tryz.ntmps44
  go_wp2
  refine bodyPost_ret (v := vV 2 0 s) (by simp [results, Tryz.results44, go_sem, vV]) rfl ⟨rfl, by go_grown⟩
theorem as_3 (b : Bool) (W : World) : Calls Tryz.prog 44 #[.iface 97 (.bool b)] W (RetV (vV 3 (if b then 1 else 0) ⟨#[]⟩) W) := by
  cases b
  · have a0 := fun w => as_b1 (.bool false) w
    have a1 := fun w => as_b2 (.bool false) w
    have a2 := fun w => as_b3 false w
    go_enter Tryz.func44, Tryz.ntmps44
    go_wp2
    refine bodyPost_ret (v := vV 3 0 ⟨#[]⟩) (by simp [results, Tryz.results44, go_sem, vV]) rfl ⟨rfl, by go_grown⟩
  · have a0 := fun w => as_b1 (.bool true) w
    have a1 := fun w => as_b2 (.bool true) w
    have a2 := fun w => as_b3 true w
    go_enter Tryz.func44, Tryz.ntmps44
    go_wp2
    refine bodyPost_ret (v := vV 3 1 ⟨#[]⟩) (by simp [results, Tryz.results44, go_sem, vV]) rfl ⟨rfl, by go_grown⟩
theorem empty_of {s : ByteArray} (h : s.toList = []) : s = ⟨#[]⟩ := by
  apply ByteArray.ext
  rw [ByteArray.toList_eq] at h
  exact Array.toList_inj.1 h
theorem as_val (k n : Int) (s : ByteArray) (hg : goodV k n s = true) (W : World) : Calls Tryz.prog 44 #[ofV k n s] W (RetV (vV k n s) W) := by
  have hk : k = 0 ∨ k = 1 ∨ k = 2 ∨ k = 3 ∨ (k ≠ 0 ∧ k ≠ 1 ∧ k ≠ 2 ∧ k ≠ 3) := by omega
  rcases hk with rfl | rfl | rfl | rfl | ⟨k0, k1, k2, k3⟩
  · simp only [goodV, if_true, decide_eq_true_eq] at hg
    obtain ⟨rfl, hs⟩ := hg
    obtain rfl := empty_of hs
    rw [show ofV 0 0 ⟨#[]⟩ = .iface 94 (.agg #[]) from by simp [ofV]]
    exact as_0 W
  · have hs : s.toList = [] := by simpa [goodV] using hg
    obtain rfl := empty_of hs
    rw [show ofV 1 n ⟨#[]⟩ = .iface 104 (.int .i64 n) from by simp [ofV]]
    exact as_1 n W
  · have hn : n = 0 := by simp [goodV] at hg; exact hg.1
    subst hn
    rw [show ofV 2 0 s = .iface 98 (.string s) from by simp [ofV]]
    exact as_2 s W
  · have hg2 : s.toList = [] ∧ (n = 0 ∨ n = 1) := by simpa [goodV] using hg
    obtain ⟨hs, hn⟩ := hg2
    obtain rfl := empty_of hs
    rcases hn with rfl | rfl
    · rw [show ofV 3 0 ⟨#[]⟩ = .iface 97 (.bool false) from by simp [ofV]]
      exact as_3 false W
    · rw [show ofV 3 1 ⟨#[]⟩ = .iface 97 (.bool true) from by simp [ofV]]
      exact as_3 true W
  · simp [goodV, k0, k1, k2, k3] at hg
end Go.Proofs.YtcjidlgmbjebjaaGreatDoor

namespace Go.Proofs.YtcjidlgmbjebjaaGreatDoor
open Go Go.RowKit
def RetScan (k n : Int) (s : ByteArray) (ok : Bool) (W : World) (e : Ending) (w' : World) : Prop := e = .returned (.tuple #[vV k n s, .bool ok]) ∧ Below W.heap.size W w'
def Pr36 (k n : Int) (s t : ByteArray) : Prop := ∀ w, PowIs w → Calls Tryz.prog 41 #[.agg #[.int .i64 k, .int .i64 n, .string s]] w (RetS (.string t) w)
theorem frz_new (W : World) (c : Array Value) (t : TypeId) (i : Nat) : (W.alloc (.cells c t)).frozen? ⟨W.heap.size, i, none⟩ = false := Lib.frozen_of_heap (show (W.alloc (.cells c t)).heap[W.heap.size]? = some (.cells c t (0, 0)) from Array.getElem?_push_size) i
theorem frz_on {B b : Nat} {w w' : World} (hb : Below B w w') (h : b < B) (f : ∀ i, w.frozen? ⟨b, i, none⟩ = false) : ∀ i, w'.frozen? ⟨b, i, none⟩ = false := fun i => (hb.frozen (p := ⟨b, i, none⟩) h).trans (f i)
def As99 (x : Value) (k n : Int) (s : ByteArray) : Prop := ∀ w, Calls Tryz.prog 44 #[x] w (RetV (.agg #[.int .i64 k, .int .i64 n, .string s]) w)
theorem below_bw {w w' : World} (h : w' = w ∨ ∃ t, w' = Lib.bytesWorld w 5 t) : Below w.heap.size w w' := by
  rcases h with rfl | ⟨t, rfl⟩
  · exact Below.refl _ _
  · exact Lib.bytesWorld_below w 5 t
set_option maxHeartbeats 2000000 in
theorem scan_text (t s : ByteArray) (h1 : (t.toList == [116, 114, 117, 101]) = false) (h2 : (t.toList == [102, 97, 108, 115, 101]) = false) (h3 : 2 ≤ t.size) (h5 : t.size ≤ 5000) (h4 : (t[0]'(by omega)).toNat = 34) (hu : uS t = s)
    (W : World) (hp : Pr36 2 0 s t) (ha : As99 (.iface 98 (.string s)) 2 0 s) (hw : PowIs W) : Calls Tryz.prog 13 #[.string t] W (RetScan 2 0 s true W) := by
  have HU := Lib.hid hu; clear hu
  have h34 : (((t[0]'(by omega)).toNat : Int) == 34) = true := by rw [beq_iff_eq]; omega
  go_enter Tryz.func13, Tryz.ntmps13
  go_wp2_with fail
  refine (unquoted_val t _ h3 h5).mono ?_
  rw [HU.out]
  rintro e w1 ⟨rfl, hb⟩
  have hB := below_step (show Below W.heap.size W _ from by go_grown) hb
  have c0 := cell_later (v := .int .i64 0) hb (show World.cell? _ ⟨W.heap.size, 0, none⟩ = some (.int .i64 0) from by go_cell)
  have c1 := cell_later (v := .int .i64 0) hb (show World.cell? _ ⟨W.heap.size, 1, none⟩ = some (.int .i64 0) from by go_cell)
  have c2 := cell_later (v := .string ⟨#[]⟩) hb (show World.cell? _ ⟨W.heap.size, 2, none⟩ = some (.string ⟨#[]⟩) from by go_cell)
  have g1 := frz_on hb (show W.heap.size < (W.alloc _).heap.size from by show W.heap.size < (W.heap.push _).size; rw [Array.size_push]; omega) (frz_new W _ 32)
  clear hb
  have hw1 := pow_stays hw hB
  clear hw
  dsimp only
  go_wp2_with fail
  refine (ha _).mono ?_
  rintro e w2 ⟨rfl, hb⟩
  have hB2 := below_step hB hb
  have d0 := cell_later hb c0
  have d1 := cell_later hb c1
  have d2 := cell_later hb c2
  have g2 := frz_on hb (cell_lt c0) g1
  have hw2 := pow_stays hw1 (show Below w1.heap.size w1 w2 from hb)
  have hl0 : W.heap.size < w2.heap.size := cell_lt d0
  clear hb
  dsimp only
  go_wp2_with fail
  refine (hp _ (pow_stays hw2 (by go_grown))).mono ?_
  rintro e w3 ⟨rfl, hb⟩
  have hB3 := below_step (show Below w2.heap.size w2 _ from by go_grown) hb
  have e0 := cell_later (v := .int .i64 2) hb (show World.cell? _ ⟨w2.heap.size, 0, none⟩ = some (.int .i64 2) from by go_cell)
  have e1 := cell_later (v := .int .i64 0) hb (show World.cell? _ ⟨w2.heap.size, 1, none⟩ = some (.int .i64 0) from by go_cell)
  have e2 := cell_later (v := .string s) hb (show World.cell? _ ⟨w2.heap.size, 2, none⟩ = some (.string s) from by go_cell)
  have f0 := cell_later hB3 d0
  have f1 := cell_later hB3 d1
  have f2 := cell_later hB3 d2
  have g3 := frz_on hB3 hl0 g2
  have q0 := g3 0
  have q1 := g3 1
  have q2 := g3 2
  clear hb g3 g2
  dsimp only
  go_wp2_with fail
  have r0 : (w3.setCell ⟨W.heap.size, 0, none⟩ (.int .i64 2)).cell? ⟨W.heap.size, 0, none⟩ = some (.int .i64 2) := by go_cell
  have r1 : ((w3.setCell ⟨W.heap.size, 0, none⟩ (.int .i64 2)).setCell ⟨W.heap.size, 1, none⟩ (.int .i64 0)).cell? ⟨W.heap.size, 1, none⟩ = some (.int .i64 0) := by go_cell
  have r2 : (((w3.setCell ⟨W.heap.size, 0, none⟩ (.int .i64 2)).setCell ⟨W.heap.size, 1, none⟩ (.int .i64 0)).setCell ⟨W.heap.size, 2, none⟩ (.string s)).cell? ⟨W.heap.size, 2, none⟩ = some (.string s) := by go_cell
  refine bodyPost_ret (v := .tuple #[vV 2 0 s, .bool true]) (by simp [results, Tryz.results13, go_sem, vV, r0, r1, r2]) rfl ⟨rfl, ?_⟩
  exact (((below_step hB2 hB3).setCell (Nat.le_refl _) _).setCell (Nat.le_refl _) _).setCell (Nat.le_refl _) _
set_option maxHeartbeats 2000000 in
theorem scan_null (W : World) (hp : Pr36 0 0 ⟨#[]⟩ ⟨#[110, 117, 108, 108]⟩) (ha : As99 (.iface 94 (.agg #[])) 0 0 ⟨#[]⟩) (hw : PowIs W) : Calls Tryz.prog 13 #[.string ⟨#[110, 117, 108, 108]⟩] W (RetScan 0 0 ⟨#[]⟩ true W) := by
  go_enter Tryz.func13, Tryz.ntmps13
  go_wp2_with fail
  refine (ha _).mono ?_
  rintro e w2 ⟨rfl, hb⟩
  have hB2 := below_step (show Below W.heap.size W _ from by go_grown) hb
  have d0 := cell_later (v := .int .i64 0) hb (show World.cell? _ ⟨W.heap.size, 0, none⟩ = some (.int .i64 0) from by go_cell)
  have d1 := cell_later (v := .int .i64 0) hb (show World.cell? _ ⟨W.heap.size, 1, none⟩ = some (.int .i64 0) from by go_cell)
  have d2 := cell_later (v := .string ⟨#[]⟩) hb (show World.cell? _ ⟨W.heap.size, 2, none⟩ = some (.string ⟨#[]⟩) from by go_cell)
  have g2 := frz_on hb (show W.heap.size < (W.alloc _).heap.size from by show W.heap.size < (W.heap.push _).size; rw [Array.size_push]; omega) (frz_new W _ 32)
  have hw2 := pow_stays hw hB2
  have hl0 : W.heap.size < w2.heap.size := cell_lt d0
  clear hb
  dsimp only
  go_wp2_with fail
  refine (hp _ (pow_stays hw2 (by go_grown))).mono ?_
  rintro e w3 ⟨rfl, hb⟩
  have hB3 := below_step (show Below w2.heap.size w2 _ from by go_grown) hb
  have e0 := cell_later (v := .int .i64 0) hb (show World.cell? _ ⟨w2.heap.size, 0, none⟩ = some (.int .i64 0) from by go_cell)
  have e1 := cell_later (v := .int .i64 0) hb (show World.cell? _ ⟨w2.heap.size, 1, none⟩ = some (.int .i64 0) from by go_cell)
  have e2 := cell_later (v := .string ⟨#[]⟩) hb (show World.cell? _ ⟨w2.heap.size, 2, none⟩ = some (.string ⟨#[]⟩) from by go_cell)
  have f0 := cell_later hB3 d0
  have f1 := cell_later hB3 d1
  have f2 := cell_later hB3 d2
  have g3 := frz_on hB3 hl0 g2
  have q0 := g3 0
  have q1 := g3 1
  have q2 := g3 2
  clear hb g3 g2
  dsimp only
  go_wp2_with fail
  have r0 : (w3.setCell ⟨W.heap.size, 0, none⟩ (.int .i64 0)).cell? ⟨W.heap.size, 0, none⟩ = some (.int .i64 0) := by go_cell
  have r1 : ((w3.setCell ⟨W.heap.size, 0, none⟩ (.int .i64 0)).setCell ⟨W.heap.size, 1, none⟩ (.int .i64 0)).cell? ⟨W.heap.size, 1, none⟩ = some (.int .i64 0) := by go_cell
  have r2 : (((w3.setCell ⟨W.heap.size, 0, none⟩ (.int .i64 0)).setCell ⟨W.heap.size, 1, none⟩ (.int .i64 0)).setCell ⟨W.heap.size, 2, none⟩ (.string ⟨#[]⟩)).cell? ⟨W.heap.size, 2, none⟩ = some (.string ⟨#[]⟩) := by go_cell
  refine bodyPost_ret (v := .tuple #[vV 0 0 ⟨#[]⟩, .bool true]) (by simp [results, Tryz.results13, go_sem, vV, r0, r1, r2]) rfl ⟨rfl, ?_⟩
  exact (((below_step hB2 hB3).setCell (Nat.le_refl _) _).setCell (Nat.le_refl _) _).setCell (Nat.le_refl _) _
set_option maxHeartbeats 2000000 in
theorem scan_true (W : World) (hp : Pr36 3 1 ⟨#[]⟩ ⟨#[116, 114, 117, 101]⟩) (ha : As99 (.iface 97 (.bool true)) 3 1 ⟨#[]⟩) (hw : PowIs W) : Calls Tryz.prog 13 #[.string ⟨#[116, 114, 117, 101]⟩] W (RetScan 3 1 ⟨#[]⟩ true W) := by
  go_enter Tryz.func13, Tryz.ntmps13
  go_wp2_with fail
  refine (ha _).mono ?_
  rintro e w2 ⟨rfl, hb⟩
  have hB2 := below_step (show Below W.heap.size W _ from by go_grown) hb
  have d0 := cell_later (v := .int .i64 0) hb (show World.cell? _ ⟨W.heap.size, 0, none⟩ = some (.int .i64 0) from by go_cell)
  have d1 := cell_later (v := .int .i64 0) hb (show World.cell? _ ⟨W.heap.size, 1, none⟩ = some (.int .i64 0) from by go_cell)
  have d2 := cell_later (v := .string ⟨#[]⟩) hb (show World.cell? _ ⟨W.heap.size, 2, none⟩ = some (.string ⟨#[]⟩) from by go_cell)
  have g2 := frz_on hb (show W.heap.size < (W.alloc _).heap.size from by show W.heap.size < (W.heap.push _).size; rw [Array.size_push]; omega) (frz_new W _ 32)
  have hw2 := pow_stays hw hB2
  have hl0 : W.heap.size < w2.heap.size := cell_lt d0
  clear hb
  dsimp only
  go_wp2_with fail
  refine (hp _ (pow_stays hw2 (by go_grown))).mono ?_
  rintro e w3 ⟨rfl, hb⟩
  have hB3 := below_step (show Below w2.heap.size w2 _ from by go_grown) hb
  have e0 := cell_later (v := .int .i64 3) hb (show World.cell? _ ⟨w2.heap.size, 0, none⟩ = some (.int .i64 3) from by go_cell)
  have e1 := cell_later (v := .int .i64 1) hb (show World.cell? _ ⟨w2.heap.size, 1, none⟩ = some (.int .i64 1) from by go_cell)
  have e2 := cell_later (v := .string ⟨#[]⟩) hb (show World.cell? _ ⟨w2.heap.size, 2, none⟩ = some (.string ⟨#[]⟩) from by go_cell)
  have f0 := cell_later hB3 d0
  have f1 := cell_later hB3 d1
  have f2 := cell_later hB3 d2
  have g3 := frz_on hB3 hl0 g2
  have q0 := g3 0
  have q1 := g3 1
  have q2 := g3 2
  clear hb g3 g2
  dsimp only
  go_wp2_with fail
  have r0 : (w3.setCell ⟨W.heap.size, 0, none⟩ (.int .i64 3)).cell? ⟨W.heap.size, 0, none⟩ = some (.int .i64 3) := by go_cell
  have r1 : ((w3.setCell ⟨W.heap.size, 0, none⟩ (.int .i64 3)).setCell ⟨W.heap.size, 1, none⟩ (.int .i64 1)).cell? ⟨W.heap.size, 1, none⟩ = some (.int .i64 1) := by go_cell
  have r2 : (((w3.setCell ⟨W.heap.size, 0, none⟩ (.int .i64 3)).setCell ⟨W.heap.size, 1, none⟩ (.int .i64 1)).setCell ⟨W.heap.size, 2, none⟩ (.string ⟨#[]⟩)).cell? ⟨W.heap.size, 2, none⟩ = some (.string ⟨#[]⟩) := by go_cell
  refine bodyPost_ret (v := .tuple #[vV 3 1 ⟨#[]⟩, .bool true]) (by simp [results, Tryz.results13, go_sem, vV, r0, r1, r2]) rfl ⟨rfl, ?_⟩
  exact (((below_step hB2 hB3).setCell (Nat.le_refl _) _).setCell (Nat.le_refl _) _).setCell (Nat.le_refl _) _
set_option maxHeartbeats 2000000 in
theorem scan_false (W : World) (hp : Pr36 3 0 ⟨#[]⟩ ⟨#[102, 97, 108, 115, 101]⟩) (ha : As99 (.iface 97 (.bool false)) 3 0 ⟨#[]⟩) (hw : PowIs W) : Calls Tryz.prog 13 #[.string ⟨#[102, 97, 108, 115, 101]⟩] W (RetScan 3 0 ⟨#[]⟩ true W) := by
  go_enter Tryz.func13, Tryz.ntmps13
  go_wp2_with fail
  refine (ha _).mono ?_
  rintro e w2 ⟨rfl, hb⟩
  have hB2 := below_step (show Below W.heap.size W _ from by go_grown) hb
  have d0 := cell_later (v := .int .i64 0) hb (show World.cell? _ ⟨W.heap.size, 0, none⟩ = some (.int .i64 0) from by go_cell)
  have d1 := cell_later (v := .int .i64 0) hb (show World.cell? _ ⟨W.heap.size, 1, none⟩ = some (.int .i64 0) from by go_cell)
  have d2 := cell_later (v := .string ⟨#[]⟩) hb (show World.cell? _ ⟨W.heap.size, 2, none⟩ = some (.string ⟨#[]⟩) from by go_cell)
  have g2 := frz_on hb (show W.heap.size < (W.alloc _).heap.size from by show W.heap.size < (W.heap.push _).size; rw [Array.size_push]; omega) (frz_new W _ 32)
  have hw2 := pow_stays hw hB2
  have hl0 : W.heap.size < w2.heap.size := cell_lt d0
  clear hb
  dsimp only
  go_wp2_with fail
  refine (hp _ (pow_stays hw2 (by go_grown))).mono ?_
  rintro e w3 ⟨rfl, hb⟩
  have hB3 := below_step (show Below w2.heap.size w2 _ from by go_grown) hb
  have e0 := cell_later (v := .int .i64 3) hb (show World.cell? _ ⟨w2.heap.size, 0, none⟩ = some (.int .i64 3) from by go_cell)
  have e1 := cell_later (v := .int .i64 0) hb (show World.cell? _ ⟨w2.heap.size, 1, none⟩ = some (.int .i64 0) from by go_cell)
  have e2 := cell_later (v := .string ⟨#[]⟩) hb (show World.cell? _ ⟨w2.heap.size, 2, none⟩ = some (.string ⟨#[]⟩) from by go_cell)
  have f0 := cell_later hB3 d0
  have f1 := cell_later hB3 d1
  have f2 := cell_later hB3 d2
  have g3 := frz_on hB3 hl0 g2
  have q0 := g3 0
  have q1 := g3 1
  have q2 := g3 2
  clear hb g3 g2
  dsimp only
  go_wp2_with fail
  have r0 : (w3.setCell ⟨W.heap.size, 0, none⟩ (.int .i64 3)).cell? ⟨W.heap.size, 0, none⟩ = some (.int .i64 3) := by go_cell
  have r1 : ((w3.setCell ⟨W.heap.size, 0, none⟩ (.int .i64 3)).setCell ⟨W.heap.size, 1, none⟩ (.int .i64 0)).cell? ⟨W.heap.size, 1, none⟩ = some (.int .i64 0) := by go_cell
  have r2 : (((w3.setCell ⟨W.heap.size, 0, none⟩ (.int .i64 3)).setCell ⟨W.heap.size, 1, none⟩ (.int .i64 0)).setCell ⟨W.heap.size, 2, none⟩ (.string ⟨#[]⟩)).cell? ⟨W.heap.size, 2, none⟩ = some (.string ⟨#[]⟩) := by go_cell
  refine bodyPost_ret (v := .tuple #[vV 3 0 ⟨#[]⟩, .bool true]) (by simp [results, Tryz.results13, go_sem, vV, r0, r1, r2]) rfl ⟨rfl, ?_⟩
  exact (((below_step hB2 hB3).setCell (Nat.le_refl _) _).setCell (Nat.le_refl _) _).setCell (Nat.le_refl _) _
set_option maxHeartbeats 2000000 in
theorem scan_num (t : ByteArray) (n : Int) (h1 : (t.toList == [116, 114, 117, 101]) = false) (h2 : (t.toList == [102, 97, 108, 115, 101]) = false) (h3 : (t.toList == [110, 117, 108, 108]) = false) (h0 : 1 ≤ t.size) (h5 : t.size ≤ 5000) (h4 : (t[0]'(by omega)).toNat ≠ 34) (ho : Lib.atoiAll t.data.toList = .ok n)
    (W : World) (hp : Pr36 1 n ⟨#[]⟩ t) (ha : As99 (.iface 104 (.int .i64 n)) 1 n ⟨#[]⟩) (hw : PowIs W) : Calls Tryz.prog 13 #[.string t] W (RetScan 1 n ⟨#[]⟩ true W) := by
  have HO := Lib.hid ho; clear ho
  have h34 : (((t[0]'(by omega)).toNat : Int) == 34) = false := by rw [beq_eq_false_iff_ne]; omega
  clear h4
  go_enter Tryz.func13, Tryz.ntmps13
  go_wp2_with fail
  all_goals
   refine (Tryz.strconv_Atoi_ok t (by omega) n HO.out _).mono ?_
   rintro e w1 ⟨rfl, hb⟩
   have hb := below_bw hb
   have hB := below_step (show Below W.heap.size W _ from by go_grown) hb
   have c0 := cell_later (v := .int .i64 0) hb (show World.cell? _ ⟨W.heap.size, 0, none⟩ = some (.int .i64 0) from by go_cell)
   have c1 := cell_later (v := .int .i64 0) hb (show World.cell? _ ⟨W.heap.size, 1, none⟩ = some (.int .i64 0) from by go_cell)
   have c2 := cell_later (v := .string ⟨#[]⟩) hb (show World.cell? _ ⟨W.heap.size, 2, none⟩ = some (.string ⟨#[]⟩) from by go_cell)
   have g1 := frz_on hb (show W.heap.size < (W.alloc _).heap.size from by show W.heap.size < (W.heap.push _).size; rw [Array.size_push]; omega) (frz_new W _ 32)
   clear hb
   have hw1 := pow_stays hw hB
   clear hw
   dsimp only
   go_wp2_with fail
   refine (ha _).mono ?_
   rintro e w2 ⟨rfl, hb⟩
   have hB2 := below_step hB hb
   have d0 := cell_later hb c0
   have d1 := cell_later hb c1
   have d2 := cell_later hb c2
   have g2 := frz_on hb (cell_lt c0) g1
   have hw2 := pow_stays hw1 (show Below w1.heap.size w1 w2 from hb)
   have hl0 : W.heap.size < w2.heap.size := cell_lt d0
   clear hb
   dsimp only
   go_wp2_with fail
   refine (hp _ (pow_stays hw2 (by go_grown))).mono ?_
   rintro e w3 ⟨rfl, hb⟩
   have hB3 := below_step (show Below w2.heap.size w2 _ from by go_grown) hb
   have e0 := cell_later (v := .int .i64 1) hb (show World.cell? _ ⟨w2.heap.size, 0, none⟩ = some (.int .i64 1) from by go_cell)
   have e1 := cell_later (v := .int .i64 n) hb (show World.cell? _ ⟨w2.heap.size, 1, none⟩ = some (.int .i64 n) from by go_cell)
   have e2 := cell_later (v := .string ⟨#[]⟩) hb (show World.cell? _ ⟨w2.heap.size, 2, none⟩ = some (.string ⟨#[]⟩) from by go_cell)
   have f0 := cell_later hB3 d0
   have f1 := cell_later hB3 d1
   have f2 := cell_later hB3 d2
   have g3 := frz_on hB3 hl0 g2
   have q0 := g3 0
   have q1 := g3 1
   have q2 := g3 2
   clear hb g3 g2
   dsimp only
   go_wp2_with fail
   have r0 : (w3.setCell ⟨W.heap.size, 0, none⟩ (.int .i64 1)).cell? ⟨W.heap.size, 0, none⟩ = some (.int .i64 1) := by go_cell
   have r1 : ((w3.setCell ⟨W.heap.size, 0, none⟩ (.int .i64 1)).setCell ⟨W.heap.size, 1, none⟩ (.int .i64 n)).cell? ⟨W.heap.size, 1, none⟩ = some (.int .i64 n) := by go_cell
   have r2 : (((w3.setCell ⟨W.heap.size, 0, none⟩ (.int .i64 1)).setCell ⟨W.heap.size, 1, none⟩ (.int .i64 n)).setCell ⟨W.heap.size, 2, none⟩ (.string ⟨#[]⟩)).cell? ⟨W.heap.size, 2, none⟩ = some (.string ⟨#[]⟩) := by go_cell
   refine bodyPost_ret (v := .tuple #[vV 1 n ⟨#[]⟩, .bool true]) (by simp [results, Tryz.results13, go_sem, vV, r0, r1, r2]) rfl ⟨rfl, ?_⟩
   exact (((below_step hB2 hB3).setCell (Nat.le_refl _) _).setCell (Nat.le_refl _) _).setCell (Nat.le_refl _) _
end Go.Proofs.YtcjidlgmbjebjaaGreatDoor

namespace Go.Proofs.YtcjidlgmbjebjaaGreatDoor
open Go Go.RowKit
def ErrIs (w : World) : Prop := ∃ ev, w.cell? ⟨2, 0, none⟩ = some ev ∧ (ev = .nilIface ∨ ∃ te pe, ev = .iface te pe)
theorem qB_sb (l : List UInt8) : qB l = Sb.qB l := by
  induction l with
  | nil => rfl
  | cons c l ih => rw [qB, Sb.qB, ih]; rfl
theorem qS_list (s : ByteArray) : (qS s).data.toList = 34 :: (qB s.data.toList ++ [34]) := by simp [qS]
theorem uS_qS (s : ByteArray) : uS (qS s) = s := by
  unfold uS
  have hz : (qS s).size = (qB s.data.toList).length + 2 := by
    have := congrArg List.length (qS_list s)
    simp at this
    exact this
  have h : ((qS s).extract 1 ((qS s).size - 1)).data.toList = qB s.data.toList := by
    rw [ByteArray.data_extract, Array.toList_extract, hz, qS_list]
    simp [List.extract]
  rw [h, qB_sb, Sb.unq1_q]
theorem pr_ne {a : UInt8} {l m : List UInt8} (h : (a :: l).head? ≠ m.head?) : ((a :: l) == m) = false := by
  rw [beq_eq_false_iff_ne]
  rintro rfl
  exact h rfl
theorem scan_good (k n : Int) (s : ByteArray) (hg : goodV k n s = true) (hsz : s.size ≤ 9223372036854775807) (h0 : -9223372036854775808 ≤ n) (h1 : n ≤ 9223372036854775807) (W : World) (hw : PowIs W) :
    Calls Tryz.prog 13 #[.string (prV k n s)] W (RetScan k n s true W) := by
  have hp : Pr36 k n s (prV k n s) := fun w h => print_val k n s w hsz h0 h1 h
  have ha : As99 (ofV k n s) k n s := fun w => as_val k n s hg w
  have hk : k = 0 ∨ k = 1 ∨ k = 2 ∨ k = 3 ∨ (k ≠ 0 ∧ k ≠ 1 ∧ k ≠ 2 ∧ k ≠ 3) := by omega
  rcases hk with rfl | rfl | rfl | rfl | ⟨k0, k1, k2, k3⟩
  · have e : prV 0 n s = sNull := by simp [prV, hg]
    simp only [goodV, if_true, decide_eq_true_eq] at hg
    obtain ⟨rfl, hs⟩ := hg
    obtain rfl := empty_of hs
    rw [e] at hp ⊢
    rw [show ofV 0 0 ⟨#[]⟩ = .iface 94 (.agg #[]) from by simp [ofV]] at ha
    exact scan_null W hp ha hw
  · have e : prV 1 n s = numS n := by simp [prV, hg]
    have hs : s.toList = [] := by simpa [goodV] using hg
    obtain rfl := empty_of hs
    rw [e] at hp ⊢
    rw [show ofV 1 n ⟨#[]⟩ = .iface 104 (.int .i64 n) from by simp [ofV]] at ha
    obtain ⟨w1, w2, w3, w4⟩ := Sb.itoa_words n
    have hI : Sb.I64 n := by unfold Sb.I64; omega
    obtain ⟨l1, l2⟩ := Sb.itoa_len n hI
    have hd : (numS n).data.toList = Lib.itoa n := by simp [numS]
    have hl : (numS n).toList = Lib.itoa n := by rw [ByteArray.toList_eq, hd]
    have hz : (numS n).size = (Lib.itoa n).length := by rw [← hd]; simp
    refine scan_num (numS n) n ?_ ?_ ?_ (by omega) (by omega) ?_ (by rw [hd]; exact Sb.atoi_itoa n hI) W hp ha hw
    · rw [hl, beq_eq_false_iff_ne]; exact w2
    · rw [hl, beq_eq_false_iff_ne]; exact w3
    · rw [hl, beq_eq_false_iff_ne]; exact w1
    · obtain ⟨c, r, hc, hc1, hc2⟩ := Sb.itoa_head n
      have hx : (numS n).data.toList[0]? = some c := by rw [hd, hc]; rfl
      have hy : (numS n).data.toList[0]? = some ((numS n)[0]'(by omega)) := by
        rw [List.getElem?_eq_getElem (by simp; omega)]; rfl
      rw [hy] at hx
      injection hx with hx
      rw [hx]; exact hc1
  · have e : prV 2 n s = qS s := by simp [prV, hg]
    have hk := good_kind hg
    have hn : n = 0 := by simp [goodV] at hg; exact hg.1
    subst hn
    have h200 : s.size ≤ 200 := by omega
    rw [e] at hp ⊢
    rw [show ofV 2 0 s = .iface 98 (.string s) from by simp [ofV]] at ha
    have hl : (qS s).toList = 34 :: (qB s.data.toList ++ [34]) := by rw [ByteArray.toList_eq, qS_list]
    have hz : (qS s).size = (qB s.data.toList).length + 2 := by
      have := congrArg List.length (qS_list s)
      simp at this
      exact this
    have hq := qB_len s.data.toList
    have hs2 : s.data.toList.length = s.size := by simp
    refine scan_text (qS s) s ?_ ?_ (by omega) (by omega) ?_ (uS_qS s) W hp ha hw
    · rw [hl]; exact pr_ne (by simp)
    · rw [hl]; exact pr_ne (by simp)
    · have hx : (qS s).data.toList[0]? = some 34 := by rw [qS_list]; rfl
      have hy : (qS s).data.toList[0]? = some ((qS s)[0]'(by omega)) := by
        rw [List.getElem?_eq_getElem (by simp; omega)]; rfl
      rw [hy] at hx
      injection hx with hx
      rw [hx]; rfl
  · have e : prV 3 n s = if n = 1 then sTrue else sFalse := by simp [prV, hg]
    have hk := good_kind hg
    have hs : s.toList = [] := by simp [goodV] at hg; exact hg.1
    obtain rfl := empty_of hs
    rw [e] at hp ⊢
    rcases show n = 0 ∨ n = 1 by omega with rfl | rfl
    · rw [show ofV 3 0 ⟨#[]⟩ = .iface 97 (.bool false) from by simp [ofV]] at ha
      exact scan_false W hp ha hw
    · rw [show ofV 3 1 ⟨#[]⟩ = .iface 97 (.bool true) from by simp [ofV]] at ha
      exact scan_true W hp ha hw
  · have := good_kind hg
    omega
end Go.Proofs.YtcjidlgmbjebjaaGreatDoor

namespace Go.Proofs.YtcjidlgmbjebjaaGreatDoor
open Go Go.RowKit
def Hit (k n : Int) (t s : ByteArray) : Prop := goodV k n t = true ∧ Sb.I64 n ∧ prV k n t = s
def NoHit (s : ByteArray) : Prop := ∀ k n t, ¬ Hit k n t s
theorem ba_ext {a b : ByteArray} (h : a.toList = b.toList) : a = b := by
  apply ByteArray.ext
  rw [ByteArray.toList_eq, ByteArray.toList_eq] at h
  exact Array.toList_inj.1 h
theorem good_null : goodV 0 0 ⟨#[]⟩ = true := by decide +kernel
theorem good_num (n : Int) : goodV 1 n ⟨#[]⟩ = true := by simp [goodV]
theorem good_t : goodV 3 1 ⟨#[]⟩ = true := by decide +kernel
theorem good_f : goodV 3 0 ⟨#[]⟩ = true := by decide +kernel
theorem miss_null {s : ByteArray} (h : NoHit s) : (s.toList == [110, 117, 108, 108]) = false := by
  rw [beq_eq_false_iff_ne]
  intro e
  exact h 0 0 ⟨#[]⟩ ⟨good_null, by unfold Sb.I64; omega, (by simp [prV, good_null] : prV 0 0 ⟨#[]⟩ = sNull).trans (ba_ext (by rw [e]; decide +kernel))⟩
theorem miss_true {s : ByteArray} (h : NoHit s) : (s.toList == [116, 114, 117, 101]) = false := by
  rw [beq_eq_false_iff_ne]
  intro e
  exact h 3 1 ⟨#[]⟩ ⟨good_t, by unfold Sb.I64; omega, (by simp [prV, good_t] : prV 3 1 ⟨#[]⟩ = sTrue).trans (ba_ext (by rw [e]; decide +kernel))⟩
theorem miss_false {s : ByteArray} (h : NoHit s) : (s.toList == [102, 97, 108, 115, 101]) = false := by
  rw [beq_eq_false_iff_ne]
  intro e
  exact h 3 0 ⟨#[]⟩ ⟨good_f, by unfold Sb.I64; omega, (by simp [prV, good_f] : prV 3 0 ⟨#[]⟩ = sFalse).trans (ba_ext (by rw [e]; decide +kernel))⟩
theorem miss_num {s : ByteArray} (h : NoHit s) (n : Int) (hn : Sb.I64 n) : prV 1 n ⟨#[]⟩ ≠ s := fun e => h 1 n ⟨#[]⟩ ⟨good_num n, hn, e⟩
theorem miss_text {s : ByteArray} (h : NoHit s) (t : ByteArray) (hs : 1 ≤ s.size) : prV 2 0 t ≠ s := by
  intro e
  cases hg : goodV 2 0 t with
  | true => exact h 2 0 t ⟨hg, by unfold Sb.I64; omega, e⟩
  | false =>
    have : prV 2 0 t = ⟨#[]⟩ := by simp [prV, hg]
    rw [this] at e
    subst e
    exact absurd hs (by decide)
theorem unq1_len (l : List UInt8) : (Sb.unq1 l).length ≤ l.length := by
  have : ∀ k (l : List UInt8), l.length ≤ k → (Sb.unq1 l).length ≤ l.length := by
    intro k
    induction k with
    | zero => intro l h; cases l with
      | nil => simp [Sb.unq1]
      | cons a b => simp at h
    | succ k ih =>
      intro l h
      match l with
      | [] => simp [Sb.unq1]
      | [c] => simp [Sb.unq1]
      | c :: d :: r =>
        rw [Sb.unq1]
        split
        · have := ih r (by simp at h; omega)
          simp; omega
        · have := ih (d :: r) (by simp at h ⊢; omega)
          simp at this ⊢; omega
  exact this _ l (Nat.le_refl _)
theorem uS_size (s : ByteArray) : (uS s).size ≤ s.size := by
  have h := unq1_len (s.extract 1 (s.size - 1)).data.toList
  show (Sb.unq1 _).toArray.size ≤ _
  have h2 : (s.extract 1 (s.size - 1)).data.toList.length = (s.extract 1 (s.size - 1)).size := by simp
  have h3 : (s.extract 1 (s.size - 1)).size ≤ s.size := by simp; omega
  rw [List.size_toArray]
  omega
theorem atoi_rng {l : List UInt8} {n : Int} (h : Lib.atoiAll l = .ok n) : Sb.I64 n := by
  unfold Lib.atoiAll at h
  split at h
  · cases h
  · dsimp only at h
    split at h
    · cases h
    · cases h
    · unfold Sb.I64
      split at h
      · cases h
      · split at h
        · cases h
        · injection h with h
          split at h <;> omega
end Go.Proofs.YtcjidlgmbjebjaaGreatDoor

namespace Go.Proofs.YtcjidlgmbjebjaaGreatDoor
open Go Go.RowKit
def rq : List UInt8 → List UInt8
  | [] => []
  | [_] => []
  | c :: d :: r => if c.toNat = 92 then d :: rq r else c :: rq (d :: r)
theorem rq_q (l : List UInt8) : rq (Sb.qB l ++ [34]) = l := by
  induction l with
  | nil => rfl
  | cons c l ih =>
    rw [Sb.qB, List.append_assoc]
    rcases Sb.q1_head c (Sb.qB l ++ [34]) with ⟨h, e⟩ | ⟨h, e⟩
    · rw [e, rq, if_pos (by decide), ih]
    · rw [e]
      obtain ⟨d, r, hq⟩ : ∃ d r, Sb.qB l ++ [34] = d :: r := by
        cases hq : Sb.qB l with
        | nil => exact ⟨34, [], rfl⟩
        | cons d r => exact ⟨d, r ++ [34], rfl⟩
      rw [hq, rq, if_neg h.1, ← hq, ih]
def uR (s : ByteArray) : ByteArray := ⟨(rq (s.data.toList.drop 1)).toArray⟩
theorem uR_qS (s : ByteArray) : uR (qS s) = s := by
  unfold uR
  rw [qS_list]
  simp only [List.drop_succ_cons, List.drop_zero]
  rw [qB_sb, rq_q]
theorem rq_len (l : List UInt8) : (rq l).length ≤ l.length := by
  have : ∀ k (l : List UInt8), l.length ≤ k → (rq l).length ≤ l.length := by
    intro k
    induction k with
    | zero => intro l h; cases l with
      | nil => simp [rq]
      | cons a b => simp at h
    | succ k ih =>
      intro l h
      match l with
      | [] => simp [rq]
      | [c] => simp [rq]
      | c :: d :: r =>
        rw [rq]
        split
        · have := ih r (by simp at h; omega)
          simp; omega
        · have := ih (d :: r) (by simp at h ⊢; omega)
          simp at this ⊢; omega
  exact this _ l (Nat.le_refl _)
theorem uR_size (s : ByteArray) : (uR s).size ≤ s.size := by
  have h := rq_len (s.data.toList.drop 1)
  show (rq _).toArray.size ≤ _
  have h2 : (s.data.toList.drop 1).length = s.size - 1 := by simp
  rw [List.size_toArray]
  omega
theorem rq_end (s : ByteArray) (i : Nat) (h : s.size ≤ i + 1) : rq (s.data.toList.drop i) = [] := by
  have : (s.data.toList.drop i).length ≤ 1 := by rw [List.length_drop]; simp; omega
  match hl : s.data.toList.drop i, this with
  | [], _ => rfl
  | [_], _ => rfl
theorem dropTwo (s : ByteArray) (i : Nat) (h : i + 1 < s.size) : s.data.toList.drop i = s[i] :: s[i + 1] :: s.data.toList.drop (i + 2) := by
  rw [uq_drop s i (by omega), uq_drop s (i + 1) h]
theorem rq_one (s : ByteArray) (i : Nat) (h : i + 1 < s.size) (hc : (s[i]).toNat ≠ 92) : rq (s.data.toList.drop i) = s[i] :: rq (s.data.toList.drop (i + 1)) := by
  rw [dropTwo s i h, rq, if_neg hc, ← uq_drop s (i + 1) h]
theorem rq_two (s : ByteArray) (i : Nat) (h : i + 1 < s.size) (hc : (s[i]).toNat = 92) : rq (s.data.toList.drop i) = s[i + 1] :: rq (s.data.toList.drop (i + 2)) := by
  rw [dropTwo s i h, rq, if_pos hc]
def d1 (n : Int) (c : UInt8) : Int := wrap64 (wrap64 (10 * n) - ((c.toNat : Int) - 48))
def dg : List UInt8 → Int → Option Int
  | [], n => some n
  | c :: r, n => if 48 ≤ c.toNat ∧ c.toNat ≤ 57 then dg r (d1 n c) else none
theorem dg_snoc (l : List UInt8) (c : UInt8) : ∀ n m, dg l n = some m → dg (l ++ [c]) n = dg [c] m := by
  induction l with
  | nil => intro n m h; simp only [dg] at h; injection h with h; subst h; rfl
  | cons a l ih =>
    intro n m h
    rw [List.cons_append]
    simp only [dg] at h ⊢
    split at h
    · rename_i h1; rw [if_pos h1]; exact ih _ _ h
    · cases h
theorem dg_dec (u : Nat) : u ≤ 9223372036854775808 → dg (Lib.decDigits u) 0 = some (-(u : Int)) := by
  induction u using Nat.strongRecOn with
  | _ u ih =>
    intro hu
    by_cases h : u < 10
    · rw [Lib.decDigits, dif_pos h, dg, Sb.digit_nat u h, if_pos (by omega), dg, d1, Sb.digit_nat u h]
      congr 1; unfold wrap64; omega
    · rw [Lib.decDigits, dif_neg h, dg_snoc _ _ _ _ (ih (u / 10) (by omega) (by omega)), dg, Sb.digit_nat _ (by omega), if_pos (by omega), dg, d1, Sb.digit_nat _ (by omega)]
      congr 1; unfold wrap64; omega
def isNeg (s : ByteArray) : Bool := (s.data.toList.headD 0).toNat == 45
def dgS (s : ByteArray) : Option Int := (dg (if isNeg s = true then s.data.toList.drop 1 else s.data.toList) 0).map fun n => if isNeg s = true then n else wrap64 (-n)
theorem isNeg_yes {s : ByteArray} {r : List UInt8} (h : s.data.toList = 45 :: r) : isNeg s = true := by unfold isNeg; rw [h]; rfl
theorem isNeg_no {s : ByteArray} {c : UInt8} {r : List UInt8} (h : s.data.toList = c :: r) (hc : c.toNat ≠ 45) : isNeg s = false := by
  unfold isNeg
  rw [h, beq_eq_false_iff_ne]
  exact hc
theorem dgS_neg {s : ByteArray} (h : isNeg s = true) : dgS s = dg (s.data.toList.drop 1) 0 := by
  unfold dgS
  simp only [h, if_true, Option.map_id']
theorem dgS_pos {s : ByteArray} (h : isNeg s = false) : dgS s = (dg s.data.toList 0).map fun n => wrap64 (-n) := by
  unfold dgS
  simp only [h, Bool.false_eq_true, if_false]
theorem dgS_num (n : Int) (h : Sb.I64 n) : dgS (numS n) = some n := by
  have hd : (numS n).data.toList = Lib.itoa n := by simp [numS]
  unfold Sb.I64 at h
  unfold Lib.itoa at hd
  by_cases hn : n < 0
  · rw [if_pos hn] at hd
    have hu := dg_dec n.natAbs (by omega)
    rw [dgS_neg (isNeg_yes hd), hd, List.drop_succ_cons, List.drop_zero, hu]
    congr 1; omega
  · rw [if_neg hn] at hd
    have hu := dg_dec n.toNat (by omega)
    obtain ⟨c, r, e, h1, h2⟩ := Sb.dec_ne n.toNat
    rw [dgS_pos (isNeg_no (hd.trans e) (by omega)), hd, hu]
    simp only [Option.map_some]
    congr 1; unfold wrap64; omega
theorem wrap_rng (x : Int) : Sb.I64 (wrap64 x) := by unfold Sb.I64 wrap64; omega
theorem dg_rng (l : List UInt8) : ∀ n m, Sb.I64 n → dg l n = some m → Sb.I64 m := by
  induction l with
  | nil => intro n m hn h; simp only [dg] at h; injection h with h; subst h; exact hn
  | cons a l ih =>
    intro n m hn h
    simp only [dg] at h
    split at h
    · exact ih _ _ (wrap_rng _) h
    · cases h
theorem dgS_rng {s : ByteArray} {n : Int} (h : dgS s = some n) : Sb.I64 n := by
  unfold dgS at h
  rw [Option.map_eq_some_iff] at h
  obtain ⟨m, h1, rfl⟩ := h
  have := dg_rng _ _ _ (by unfold Sb.I64; omega) h1
  split
  · exact this
  · exact wrap_rng _
end Go.Proofs.YtcjidlgmbjebjaaGreatDoor

namespace Go.Proofs.YtcjidlgmbjebjaaGreatDoor
open Go Go.RowKit
def DigIH (n : Int) : Prop := ∀ m : Int, m.natAbs < n.natAbs ∨ (0 ≤ m ∧ m < 10) → ∀ w, Calls Tryz.prog 99 #[.int .i64 m] w (Same1 (.string (numS m)) w)
theorem small_str (k : Fin 10) : (ByteArray.mk #[48, 49, 50, 51, 52, 53, 54, 55, 56, 57]).extract k.val (k.val + 1) = ⟨#[UInt8.ofNat (48 + k.val)]⟩ := by
  revert k; decide
theorem dec_cat (a b : ByteArray) (l1 l2 : List UInt8) (ha : a = ⟨l1.toArray⟩) (hb : b = ⟨l2.toArray⟩) : a ++ b = ⟨(l1 ++ l2).toArray⟩ := by
  subst ha hb
  apply ByteArray.ext
  show (ByteArray.append _ _).data = _
  simp
theorem numS_pos (n : Int) (b : 10 ≤ n) : numS (n / 10) ++ numS (n % 10) = numS n := by
  unfold numS Lib.itoa
  rw [if_neg (by omega), if_neg (by omega), if_neg (by omega), dec_cat _ _ _ _ rfl rfl]
  congr 2
  have h3 := Lib.decDigits.eq_def n.toNat
  rw [dif_neg (by omega)] at h3
  have h4 := Lib.decDigits.eq_def (n % 10).toNat
  rw [dif_pos (by omega)] at h4
  rw [h3, h4, show (n / 10).toNat = n.toNat / 10 by omega, show (n % 10).toNat = n.toNat % 10 by omega]
theorem numS_small (n : Int) (a : 0 ≤ n) (b : n < 10) : (ByteArray.mk #[48, 49, 50, 51, 52, 53, 54, 55, 56, 57]).extract n.toNat (n + 1).toNat = numS n := by
  obtain ⟨k, rfl⟩ : ∃ k : Fin 10, n = (k.val : Int) := ⟨⟨n.toNat, by omega⟩, by simp; omega⟩
  have := small_str k
  rw [show ((k.val : Int) + 1).toNat = k.val + 1 by omega, Int.toNat_natCast, this]
  unfold numS Lib.itoa
  rw [if_neg (by omega), Int.toNat_natCast, Lib.decDigits, dif_pos k.isLt]
set_option maxHeartbeats 1000000 in
theorem dig_small (n : Int) (a : 0 ≤ n) (b : n < 10) (w : World) :
    Calls Tryz.prog 99 #[.int .i64 n] w (Same1 (.string (numS n)) w) := by
  have hs := Lib.hid (numS_small n a b)
  go_enter Tryz.func99, Tryz.ntmps99
  go_wp2
  go_ret
  refine ⟨?_, rfl⟩
  exact congrArg (fun b => Ending.returned (Value.string b)) hs.out
theorem numS_size (n : Int) (h0 : -9223372036854775808 ≤ n) (h1 : n ≤ 9223372036854775807) : (numS n).size ≤ 21 := by
  have := Lib.itoa_length_le n h0 h1
  show ((Lib.itoa n).toArray).size ≤ 21
  simpa using this
theorem numS_neg1 (n : Int) (b : n < 0) (c : -10 < n) : (ByteArray.mk #[45]) ++ numS (-n) = numS n := by
  unfold numS
  rw [dec_cat _ _ [45] _ rfl rfl]
  unfold Lib.itoa
  rw [if_neg (by omega), if_pos b, show (-n).toNat = n.natAbs by omega]
  rfl
theorem numS_neg (n : Int) (b : n ≤ -10) : numS (-(-n / 10)) ++ numS ((-n % 10)) = numS n := by
  unfold numS Lib.itoa
  rw [if_pos (by omega), if_neg (by omega), if_pos (by omega), dec_cat _ _ _ _ rfl rfl, List.cons_append]
  congr 3
  have h3 := Lib.decDigits.eq_def n.natAbs
  rw [dif_neg (by omega)] at h3
  have h4 := Lib.decDigits.eq_def ((-n % 10)).toNat
  rw [dif_pos (by omega)] at h4
  rw [h3, h4, show (-(-n / 10)).natAbs = n.natAbs / 10 by omega, show ((-n % 10)).toNat = n.natAbs % 10 by omega]
set_option maxHeartbeats 1000000 in
theorem dig_pos (n : Int) (b : 10 ≤ n) (h1 : n ≤ 9223372036854775807) (ih : DigIH n) (w : World) :
    Calls Tryz.prog 99 #[.int .i64 n] w (Same1 (.string (numS n)) w) := by
  have hs := Lib.hid (numS_pos n b)
  have z1 := numS_size (n / 10) (by omega) (by omega)
  have z2 := numS_size (n % 10) (by omega) (by omega)
  go_enter Tryz.func99, Tryz.ntmps99
  go_wp2_with (first | (go_at_call 99; refine (ih _ ?_ _).mono ?_; (· omega); rintro e w' ⟨rfl, rfl⟩))
  go_ret
  refine ⟨?_, rfl⟩
  exact congrArg (fun b => Ending.returned (Value.string b)) hs.out
set_option maxHeartbeats 1000000 in
theorem dig_neg (n : Int) (b : n < 0) (h1 : -9223372036854775808 ≤ n) (ih : DigIH n) (w : World) :
    Calls Tryz.prog 99 #[.int .i64 n] w (Same1 (.string (numS n)) w) := by
  have hq : n.tdiv 10 = -((-n) / 10) := by
    have := Int.neg_tdiv (-n) 10
    rw [Int.neg_neg] at this
    rw [this, Int.tdiv_eq_ediv_of_nonneg (a := -n) (by omega)]
  have hm : n.tmod 10 = -((-n) % 10) := by
    have := Int.neg_tmod (-n) 10
    rw [Int.neg_neg] at this
    rw [this, Int.tmod_eq_emod_of_nonneg (a := -n) (by omega)]
  by_cases c : -10 < n
  · have hs := Lib.hid (numS_neg1 n b c)
    have z1 := numS_size (-n) (by omega) (by omega)
    clear hq hm
    go_enter Tryz.func99, Tryz.ntmps99
    go_wp2_with (first | (go_at_call 99; refine (ih _ ?_ _).mono ?_; (· omega); rintro e w' ⟨rfl, rfl⟩))
    go_ret
    refine ⟨?_, rfl⟩
    exact congrArg (fun b => Ending.returned (Value.string b)) hs.out
  · have hs := Lib.hid (numS_neg n (by omega))
    have z1 := numS_size (-(-n / 10)) (by omega) (by omega)
    have z2 := numS_size ((-n % 10)) (by omega) (by omega)
    go_enter Tryz.func99, Tryz.ntmps99
    go_wp2_with (first | (go_at_call 99; refine (ih _ ?_ _).mono ?_; (· omega); rintro e w' ⟨rfl, rfl⟩))
    go_ret
    refine ⟨?_, rfl⟩
    exact congrArg (fun b => Ending.returned (Value.string b)) hs.out
theorem digits_val : ∀ (k : Nat) (n : Int) (hk : n.natAbs ≤ k) (h0 : -9223372036854775808 ≤ n) (h1 : n ≤ 9223372036854775807) (w : World),
    Calls Tryz.prog 99 #[.int .i64 n] w (Same1 (.string (numS n)) w)
  | 0, n, hk, h0, h1, w => dig_small n (by omega) (by omega) w
  | k + 1, n, hk, h0, h1, w => by
    have ih : DigIH n := by
      intro m hm w
      by_cases s : 0 ≤ m ∧ m < 10
      · exact dig_small m s.1 s.2 w
      · exact digits_val k m (by omega) (by omega) (by omega) w
    by_cases a : n < 0
    · exact dig_neg n a h0 ih w
    · by_cases b : n < 10
      · exact dig_small n (by omega) b w
      · exact dig_pos n (by omega) h1 ih w
end Go.Proofs.YtcjidlgmbjebjaaGreatDoor

namespace Go.Proofs.YtcjidlgmbjebjaaGreatDoor
open Go Go.RowKit
def qP (s : ByteArray) (m : Nat) : ByteArray := ⟨(34 :: qB (s.data.toList.take m)).toArray⟩
theorem qP_size (s : ByteArray) (m : Nat) (h : m ≤ s.size) : (qP s m).size ≤ 2 * m + 1 := by
  have := qB_len (s.data.toList.take m)
  have h2 : (s.data.toList.take m).length = m := by simp; omega
  show (34 :: qB (s.data.toList.take m)).toArray.size ≤ _
  simp
  omega
theorem ext_one (s : ByteArray) (m : Nat) (h : m < s.size) : s.extract m (m + 1) = ⟨[s[m]].toArray⟩ := by
  apply ByteArray.ext
  apply Array.ext
  · simp; omega
  · intro i h1 h2
    have : i = 0 := by simp at h2; omega
    subst this
    simp
    rfl
def RqR (s : ByteArray) (w : World) (a n : Value) (w' : World) : Prop := ∃ m : Nat, m ≤ s.size ∧ n = .int .i64 m ∧ a = .string (qP s m) ∧ w' = w
theorem qP_one (s : ByteArray) (m : Nat) (h : m < s.size) (h1 : (s[m]).toNat ≠ 34) (h2 : (s[m]).toNat ≠ 92) : qP s m ++ s.extract m (m + 1) = qP s (m + 1) := by
  rw [ext_one s m h]
  unfold qP
  rw [dec_cat _ _ _ _ rfl rfl, take_one s m h, qB_append]
  simp [qB, q1, h1, h2]
theorem qP_two (s : ByteArray) (m : Nat) (h : m < s.size) (h1 : (s[m]).toNat = 34 ∨ (s[m]).toNat = 92) : qP s m ++ ⟨#[92]⟩ ++ s.extract m (m + 1) = qP s (m + 1) := by
  rw [ext_one s m h]
  unfold qP
  rw [dec_cat _ ⟨#[92]⟩ (34 :: qB (s.data.toList.take m)) [92] rfl rfl, dec_cat _ _ _ _ rfl rfl, take_one s m h, qB_append]
  simp [qB, q1, h1]
theorem qP_end (s : ByteArray) : qP s s.size ++ ⟨#[34]⟩ = qS s := by
  unfold qP qS
  rw [dec_cat _ ⟨#[34]⟩ _ [34] rfl rfl, List.take_of_length_le (by simp)]
set_option maxHeartbeats 2000000 in
theorem refprint_val (k n : Int) (s : ByteArray) (W : World) (hsz : s.size ≤ 9223372036854775807) (h0 : -9223372036854775808 ≤ n) (h1 : n ≤ 9223372036854775807) :
    Calls Tryz.prog 45 #[.agg #[.int .i64 k, .int .i64 n, .string s]] W (RetS (.string (prV k n s)) W) := by
  have hc := fun w => refgood_val k n s w hsz
  cases hg : goodV k n s with
  | false =>
    rw [hg] at hc
    have HC := Lib.hid hc; clear hc
    have hp : prV k n s = ⟨#[]⟩ := by simp [prV, hg]
    rw [hp]; clear hp hg
    go_enter Tryz.func45, Tryz.ntmps45
    go_wp2_with fail
    refine (HC.out _).mono ?_
    rintro e w1 ⟨rfl, hb⟩
    have hb := below_step (show Below W.heap.size W _ from by go_grown) hb
    dsimp only
    go_wp2_with fail
    go_ret
    exact ⟨rfl, hb⟩
  | true =>
    rw [hg] at hc
    have HC := Lib.hid hc; clear hc
    have HG := Lib.hid hg
    have hk := Lib.hid (good_kind hg)
    clear hg
    go_enter Tryz.func45, Tryz.ntmps45
    go_wp2_with fail
    refine (HC.out _).mono ?_
    rintro e w1 ⟨rfl, hb⟩
    have c0 := cell_later (v := .int .i64 k) hb (show World.cell? _ ⟨W.heap.size, 0, none⟩ = some (.int .i64 k) from by go_cell)
    have c1 := cell_later (v := .int .i64 n) hb (show World.cell? _ ⟨W.heap.size, 1, none⟩ = some (.int .i64 n) from by go_cell)
    have c2 := cell_later (v := .string s) hb (show World.cell? _ ⟨W.heap.size, 2, none⟩ = some (.string s) from by go_cell)
    have hB := below_step (show Below W.heap.size W _ from by go_grown) hb
    clear hb
    dsimp only
    rcases hk.out with rfl | rfl | ⟨rfl, h2⟩ | ⟨rfl, rfl | rfl⟩
    all_goals clear hk
    · go_wp2_with fail
      go_ret
      exact ⟨by simp [prV, HG.out, sTrue, sFalse, sNull], hB⟩
    · go_wp2_with fail
      refine (digits_val n.natAbs n (Nat.le_refl _) h0 h1 w1).mono ?_
      rintro e w2 ⟨rfl, rfl⟩
      dsimp only
      go_wp2_with fail
      go_ret
      exact ⟨by simp [prV, HG.out, sTrue, sFalse, sNull], hB⟩
    · have hq0 := Lib.hid (show (ByteArray.mk #[34]) = qP s 0 from rfl)
      have hpr := Lib.hid (show prV 2 n s = qS s from by simp [prV, HG.out])
      go_wp2_with fail
      go_loopw [3, 4] (fun a n w' => RqR s w1 a n w') (fun _ n _ => s.size - (intOf n).toNat)
      case atStart => exact ⟨0, by omega, rfl, rfl, rfl⟩
      case round =>
        obtain ⟨m, hm, rfl, rfl, rfl⟩ := hrel
        have z := qP_size s m hm
        by_cases hp : m < s.size
        · have ze : (s.extract m (m + 1)).size = 1 := by simp; omega
          by_cases hc : (s[m]).toNat = 34 ∨ (s[m]).toNat = 92
          · have hq := Lib.hid (qP_two s m hp hc)
            rcases hc with hc | hc
            all_goals
              go_wp2_with fail
              exact ⟨⟨m + 1, by omega, rfl, by rw [hq.out], rfl⟩, by simp [intOf]; omega⟩
          · have hq := Lib.hid (qP_one s m hp (by omega) (by omega))
            have hc1 : (((s[m]).toNat : Int) == 34) = false := by rw [beq_eq_false_iff_ne]; omega
            have hc2 : (((s[m]).toNat : Int) == 92) = false := by rw [beq_eq_false_iff_ne]; omega
            clear hc
            go_wp2_with fail
            exact ⟨⟨m + 1, by omega, rfl, by rw [hq.out], rfl⟩, by simp [intOf]; omega⟩
        · obtain rfl : m = s.size := by omega
          have hq := Lib.hid (qP_end s)
          go_wp2_with fail
          go_ret
          refine ⟨?_, hB⟩
          exact congrArg (fun b => Ending.returned (Value.string b)) (hq.out.trans hpr.out.symm)
    · go_wp2_with fail
      go_ret
      exact ⟨by simp [prV, HG.out, sTrue, sFalse, sNull], hB⟩
    · go_wp2_with fail
      go_ret
      exact ⟨by simp [prV, HG.out, sTrue, sFalse, sNull], hB⟩
end Go.Proofs.YtcjidlgmbjebjaaGreatDoor

namespace Go.Proofs.YtcjidlgmbjebjaaGreatDoor
open Go Go.RowKit
end Go.Proofs.YtcjidlgmbjebjaaGreatDoor

namespace Go.Proofs.YtcjidlgmbjebjaaGreatDoor
open Go Go.RowKit
end Go.Proofs.YtcjidlgmbjebjaaGreatDoor

namespace Go.Proofs.YtcjidlgmbjebjaaGreatDoor
open Go Go.RowKit Go.Proofs.YtcjidlgmbjebjaaGreatDoorW.PrintWords
abbrev Ent := Sb.Ent
def entL (e : Ent) (v : Value) : Array Value := #[.string e.nm, .int .i64 e.kd, .int .i64 e.srs, v, .int .i64 e.id, .int .i64 e.tb, .int .i64 e.t0, .int .i64 e.t1, .int .i64 e.t2, .int .i64 e.ct, .int .i64 e.nx, .bool e.bn, .int .i64 e.lx, .int .i64 e.ly, .int .i64 e.hx, .int .i64 e.hy]
end Go.Proofs.YtcjidlgmbjebjaaGreatDoor

namespace Go.Proofs.YtcjidlgmbjebjaaGreatDoor
open Go Go.RowKit Go.Proofs.YtcjidlgmbjebjaaGreatDoorW.PrintWords
end Go.Proofs.YtcjidlgmbjebjaaGreatDoor
