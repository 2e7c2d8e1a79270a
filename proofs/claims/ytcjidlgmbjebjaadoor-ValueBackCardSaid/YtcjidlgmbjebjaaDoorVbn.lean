/- A part of the proof of ValueBack. -/
import Derived.Test.YtcjidlgmbjebjaaDoorVbm
import Derived.Lib.ConvBytes
import Derived.Test.YtcjidlgmbjebjaaDoorVbg
import Derived.Test.YtcjidlgmbjebjaaDoorVbk
import Derived.Deep.RegionHeld3
set_option linter.unusedVariables false
set_option linter.unusedSimpArgs false
set_option maxRecDepth 100000
namespace Go.Proofs.YtcjidlgmbjebjaaDoor
open Go Go.RowKit Go.Proofs.YtcjidlgmbjebjaaDoorW.PrintWords
theorem take_small {n : Nat} {s : Sb.Src} {k : Nat} (h : s.2.length ≤ k) : (Sb.sTake n s).2.2.length ≤ k := by
  unfold Sb.sTake
  split
  · split
    · simp
    · simp; omega
  · exact h
end Go.Proofs.YtcjidlgmbjebjaaDoor

namespace Go.Proofs.YtcjidlgmbjebjaaDoor
open Go Go.RowKit Go.Proofs.YtcjidlgmbjebjaaDoorW.PrintWords
theorem slb_conv144 {w : World} {A : Option Addr} {m c : Nat} {l : List Int} (h : SlB w (.slice A m c) l) : (Go.convert 43 144 (.slice A m c)).run Tryd.prog w = .ok (.string (strOfNums l)) w := by
  obtain ⟨A', c', e, _, hC⟩ := h
  injection e with e1 e2 e3
  subst e1 e2 e3
  exact Kd.C_string Tryd.underlying43 Tryd.underlying5 Tryd.underlying144 hC
theorem svar_rng {g : Int} (hg : 0 ≤ g) {s : Sb.Src} (hb : Byt s.2) : 0 ≤ (Sb.sVar g s).1 ∧ (Sb.sVar g s).1 ≤ g := by
  have h0 := tk_nonneg s.2 0 0 hb (by omega)
  have h0 : 0 ≤ (Sb.takeV s.2).1 := h0
  unfold Sb.sVar
  split
  · split
    · exact ⟨by omega, by show (0 : Int) ≤ g; omega⟩
    · split
      · exact ⟨by omega, by show (0 : Int) ≤ g; omega⟩
      · exact ⟨h0, by show (Sb.takeV s.2).1 ≤ g; omega⟩
  · exact ⟨by omega, by show (0 : Int) ≤ g; omega⟩
theorem svar_byt {g : Int} {s : Sb.Src} (hb : Byt s.2) : Byt (Sb.sVar g s).2.2 := by
  unfold Sb.sVar
  split
  · split
    · intro x hx; simp at hx
    · split
      · intro x hx; simp at hx
      · exact fun x hx => hb x (List.mem_of_mem_drop hx)
  · exact hb
theorem svar_small {g : Int} {s : Sb.Src} {k : Nat} (h : s.2.length ≤ k) : (Sb.sVar g s).2.2.length ≤ k := by
  unfold Sb.sVar
  split
  · split
    · simp
    · split
      · simp
      · show (s.2.drop _).length ≤ k; rw [List.length_drop]; omega
  · exact h
def thingS (k : Int) (s : Sb.Src) : Value := ofV (Sb.sRaw k s).1.1 (Sb.sRaw k s).1.2.1 (Sb.sRaw k s).1.2.2
set_option maxHeartbeats 1000000 in
theorem next_val (p : Nat) (k : Int) (hk0 : 0 ≤ k) (s : Sb.Src) (hb : Byt s.2) (hl : s.2.length ≤ 140737488355000) (W : World) (hs : SrcP W p s) :
    Calls Tryd.prog 160 #[.pointer (some ⟨p, 0, none⟩), .int .u8 k] W (RetSt (thingS k s) p (Sb.sRaw k s).2 W) := by
  have hk : k = 0 ∨ k = 1 ∨ k = 2 ∨ k = 3 ∨ 3 < k := by omega
  clear hk0
  rcases hk with rfl | rfl | rfl | rfl | hk
  · have HT := Lib.hid (show thingS 0 s = .iface 142 (.agg #[]) ∧ (Sb.sRaw 0 s).2 = s by constructor <;> simp [thingS, Sb.sRaw, ofV])
    have HS := Lib.hid hs
    clear hb hl hs
    go_enter Tryd.func160, Tryd.ntmps160
    go_wp2_with fail
    go_ret
    rw [HT.out.1, HT.out.2]
    exact ⟨rfl, HS.out, Keep1.refl p W⟩
  · have HN := Lib.hid (int_val p s hb W hs)
    have HT := Lib.hid (show thingS 1 s = .iface 149 (.int .i64 (Sb.sInt s).1) ∧ (Sb.sRaw 1 s).2 = (Sb.sInt s).2 by constructor <;> simp [thingS, Sb.sRaw, ofV])
    rw [HT.out.1, HT.out.2]
    generalize (Sb.sInt s).1 = n at HN
    clear hb hl hs HT
    go_enter Tryd.func160, Tryd.ntmps160
    go_wp2_with fail
    (with_reducible refine Calls.mono HN.out ?_)
    rintro _ w1 ⟨rfl, h1, h2⟩
    dsimp only
    go_wp2_with fail
    go_ret
    exact ⟨rfl, h1, h2⟩
  · have HV := Lib.hid (svar_val p 200 s hb W hs)
    obtain ⟨n0, n1⟩ := svar_rng (g := 200) (by decide) hb
    have hb2 := svar_byt (g := 200) hb
    have hl2 := svar_small (g := 200) hl
    have HT := Lib.hid (show thingS 2 s = .iface 144 (.string (strOfNums (Sb.sTake (Sb.sVar 200 s).1.toNat (Sb.sVar 200 s).2).1)) ∧ (Sb.sRaw 2 s).2 = (Sb.sTake (Sb.sVar 200 s).1.toNat (Sb.sVar 200 s).2).2 by constructor <;> simp [thingS, Sb.sRaw, ofV])
    rw [HT.out.1, HT.out.2]
    generalize Sb.sVar 200 s = q at HV n0 n1 hb2 hl2
    obtain ⟨x, s2⟩ := q
    dsimp only at HV n0 n1 hb2 hl2 ⊢
    obtain ⟨m, rfl⟩ : ∃ m : Nat, x = (m : Int) := ⟨x.toNat, by omega⟩
    rw [Int.toNat_natCast]
    have HB := Lib.hid (fun w h => bytes_val p m (by omega) s2 hl2 w h)
    have hwm : wrap64 (m : Int) = (m : Int) := by unfold wrap64; omega
    clear hb hl hs HT
    go_enter Tryd.func160, Tryd.ntmps160
    go_wp2_with fail
    (with_reducible refine Calls.mono HV.out ?_)
    rintro _ w1 ⟨rfl, h1, h2⟩
    dsimp only
    go_wp2_with fail
    (with_reducible refine Calls.mono (HB.out _ h1) ?_)
    rintro _ w2 ⟨A, m2, c, rfl, hv, h3, h4⟩
    have hcv := slb_conv144 hv
    clear h1 hv hwm
    dsimp only
    go_wp2_with fail
    go_ret
    exact ⟨rfl, h3, h2.trans h4⟩
  · have HN := Lib.hid (byte_val p s hb W hs)
    have h01 := (be_one hb).2
    have HT := Lib.hid (show thingS 3 s = ofV 3 (Sb.sByte s).1 ⟨#[]⟩ ∧ (Sb.sRaw 3 s).2 = (Sb.sByte s).2 by constructor <;> simp [thingS, Sb.sRaw, ofV])
    rw [HT.out.1, HT.out.2]
    generalize Sb.sByte s = q at HN h01
    obtain ⟨x, s2⟩ := q
    dsimp only at HN h01 ⊢
    clear hb hl hs HT
    have hx : x = 0 ∨ x = 1 ∨ 1 < x := by omega
    rcases hx with rfl | rfl | hx
    · rw [show ofV 3 0 ⟨#[]⟩ = .iface 143 (.bool false) from by simp [ofV]]
      go_enter Tryd.func160, Tryd.ntmps160
      go_wp2_with fail
      (with_reducible refine Calls.mono HN.out ?_)
      rintro _ w1 ⟨rfl, h1, h2⟩
      dsimp only
      go_wp2_with fail
      go_ret
      exact ⟨rfl, h1, h2⟩
    · rw [show ofV 3 1 ⟨#[]⟩ = .iface 143 (.bool true) from by simp [ofV]]
      go_enter Tryd.func160, Tryd.ntmps160
      go_wp2_with fail
      (with_reducible refine Calls.mono HN.out ?_)
      rintro _ w1 ⟨rfl, h1, h2⟩
      dsimp only
      go_wp2_with fail
      go_ret
      exact ⟨rfl, h1, h2⟩
    · rw [show ofV 3 x ⟨#[]⟩ = .nilIface from by
        unfold ofV
        rw [if_neg (by decide), if_neg (by decide), if_neg (by decide), if_pos rfl]
        split
        · rw [if_neg (by omega), if_neg (by omega)]
        · rfl]
      go_enter Tryd.func160, Tryd.ntmps160
      go_wp2_with fail
      (with_reducible refine Calls.mono HN.out ?_)
      rintro _ w1 ⟨rfl, h1, h2⟩
      dsimp only
      go_wp2_with fail
      go_ret
      exact ⟨rfl, h1, h2⟩
  · have HT := Lib.hid (show thingS k s = .nilIface ∧ (Sb.sRaw k s).2 = s by
      have e : Sb.sRaw k s = ((k, 0, ⟨#[]⟩), s) := by unfold Sb.sRaw; rw [if_neg (by omega), if_neg (by omega), if_neg (by omega)]
      refine ⟨?_, by rw [e]⟩
      unfold thingS
      rw [e]
      unfold ofV
      rw [if_neg (by show ¬ k = 0; omega), if_neg (by show ¬ k = 1; omega), if_neg (by show ¬ k = 2; omega), if_neg (by show ¬ k = 3; omega)])
    rw [HT.out.1, HT.out.2]
    have HS := Lib.hid hs
    have h0 : (k == 0) = false := by rw [beq_eq_false_iff_ne]; omega
    have h1 : (k == 1) = false := by rw [beq_eq_false_iff_ne]; omega
    have h2 : (k == 2) = false := by rw [beq_eq_false_iff_ne]; omega
    have h3 : (k == 3) = false := by rw [beq_eq_false_iff_ne]; omega
    clear hb hl hs HT
    go_enter Tryd.func160, Tryd.ntmps160
    go_wp2_with fail
    go_ret
    exact ⟨rfl, HS.out, Keep1.refl p W⟩
end Go.Proofs.YtcjidlgmbjebjaaDoor

namespace Go.Proofs.YtcjidlgmbjebjaaDoor
open Go Go.RowKit Go.Proofs.YtcjidlgmbjebjaaDoorW.PrintWords
def vV (k n : Int) (s : ByteArray) : Value := .agg #[.int .i64 k, .int .i64 n, .string s]
theorem as_0 (W : World) : Calls Tryd.prog 99 #[.iface 142 (.agg #[])] W (RetV (vV 0 0 ⟨#[]⟩) W) := by
  have a0 := fun w => as_no1 (.agg #[]) w
  have a1 := fun w => as_no2 (.agg #[]) w
  have a2 := fun w => as_no3 (.agg #[]) w
  go_enter Tryd.func99, Tryd.ntmps99
  go_wp2
  refine bodyPost_ret (v := vV 0 0 ⟨#[]⟩) (by simp [results, Tryd.results99, go_sem, vV]) rfl ⟨rfl, by go_grown⟩
theorem as_1 (n : Int) (W : World) : Calls Tryd.prog 99 #[.iface 149 (.int .i64 n)] W (RetV (vV 1 n ⟨#[]⟩) W) := by
  have a0 := fun w => as_int n w
  go_enter Tryd.func99, Tryd.ntmps99
  go_wp2
  refine bodyPost_ret (v := vV 1 n ⟨#[]⟩) (by simp [results, Tryd.results99, go_sem, vV]) rfl ⟨rfl, by go_grown⟩
theorem as_2 (s : ByteArray) (W : World) : Calls Tryd.prog 99 #[.iface 144 (.string s)] W (RetV (vV 2 0 s) W) := by
  have a0 := fun w => as_str0 (.string s) w
  have a1 := fun w => as_str s w
  go_enter Tryd.func99, Tryd.ntmps99
  go_wp2
  refine bodyPost_ret (v := vV 2 0 s) (by simp [results, Tryd.results99, go_sem, vV]) rfl ⟨rfl, by go_grown⟩
theorem as_3 (b : Bool) (W : World) : Calls Tryd.prog 99 #[.iface 143 (.bool b)] W (RetV (vV 3 (if b then 1 else 0) ⟨#[]⟩) W) := by
  cases b
  · have a0 := fun w => as_b1 (.bool false) w
    have a1 := fun w => as_b2 (.bool false) w
    have a2 := fun w => as_b3 false w
    go_enter Tryd.func99, Tryd.ntmps99
    go_wp2
    refine bodyPost_ret (v := vV 3 0 ⟨#[]⟩) (by simp [results, Tryd.results99, go_sem, vV]) rfl ⟨rfl, by go_grown⟩
  · have a0 := fun w => as_b1 (.bool true) w
    have a1 := fun w => as_b2 (.bool true) w
    have a2 := fun w => as_b3 true w
    go_enter Tryd.func99, Tryd.ntmps99
    go_wp2
    refine bodyPost_ret (v := vV 3 1 ⟨#[]⟩) (by simp [results, Tryd.results99, go_sem, vV]) rfl ⟨rfl, by go_grown⟩
theorem empty_of {s : ByteArray} (h : s.toList = []) : s = ⟨#[]⟩ := by
  apply ByteArray.ext
  rw [ByteArray.toList_eq] at h
  exact Array.toList_inj.1 h
theorem as_val (k n : Int) (s : ByteArray) (hg : goodV k n s = true) (W : World) : Calls Tryd.prog 99 #[ofV k n s] W (RetV (vV k n s) W) := by
  have hk : k = 0 ∨ k = 1 ∨ k = 2 ∨ k = 3 ∨ (k ≠ 0 ∧ k ≠ 1 ∧ k ≠ 2 ∧ k ≠ 3) := by omega
  rcases hk with rfl | rfl | rfl | rfl | ⟨k0, k1, k2, k3⟩
  · simp only [goodV, if_true, decide_eq_true_eq] at hg
    obtain ⟨rfl, hs⟩ := hg
    obtain rfl := empty_of hs
    rw [show ofV 0 0 ⟨#[]⟩ = .iface 142 (.agg #[]) from by simp [ofV]]
    exact as_0 W
  · have hs : s.toList = [] := by simpa [goodV] using hg
    obtain rfl := empty_of hs
    rw [show ofV 1 n ⟨#[]⟩ = .iface 149 (.int .i64 n) from by simp [ofV]]
    exact as_1 n W
  · have hn : n = 0 := by simp [goodV] at hg; exact hg.1
    subst hn
    rw [show ofV 2 0 s = .iface 144 (.string s) from by simp [ofV]]
    exact as_2 s W
  · have hg2 : s.toList = [] ∧ (n = 0 ∨ n = 1) := by simpa [goodV] using hg
    obtain ⟨hs, hn⟩ := hg2
    obtain rfl := empty_of hs
    rcases hn with rfl | rfl
    · rw [show ofV 3 0 ⟨#[]⟩ = .iface 143 (.bool false) from by simp [ofV]]
      exact as_3 false W
    · rw [show ofV 3 1 ⟨#[]⟩ = .iface 143 (.bool true) from by simp [ofV]]
      exact as_3 true W
  · simp [goodV, k0, k1, k2, k3] at hg
end Go.Proofs.YtcjidlgmbjebjaaDoor

namespace Go.Proofs.YtcjidlgmbjebjaaDoor
open Go Go.RowKit
def RetScan (k n : Int) (s : ByteArray) (ok : Bool) (W : World) (e : Ending) (w' : World) : Prop := e = .returned (.tuple #[vV k n s, .bool ok]) ∧ Below W.heap.size W w'
def Pr36 (k n : Int) (s t : ByteArray) : Prop := ∀ w, PowIs w → Calls Tryd.prog 36 #[.agg #[.int .i64 k, .int .i64 n, .string s]] w (RetS (.string t) w)
theorem frz_new (W : World) (c : Array Value) (t : TypeId) (i : Nat) : (W.alloc (.cells c t)).frozen? ⟨W.heap.size, i, none⟩ = false := Lib.frozen_of_heap (show (W.alloc (.cells c t)).heap[W.heap.size]? = some (.cells c t (0, 0)) from Array.getElem?_push_size) i
theorem frz_on {B b : Nat} {w w' : World} (hb : Below B w w') (h : b < B) (f : ∀ i, w.frozen? ⟨b, i, none⟩ = false) : ∀ i, w'.frozen? ⟨b, i, none⟩ = false := fun i => (hb.frozen (p := ⟨b, i, none⟩) h).trans (f i)
def As99 (x : Value) (k n : Int) (s : ByteArray) : Prop := ∀ w, Calls Tryd.prog 99 #[x] w (RetV (.agg #[.int .i64 k, .int .i64 n, .string s]) w)
theorem below_bw {w w' : World} (h : w' = w ∨ ∃ t, w' = Lib.bytesWorld w 5 t) : Below w.heap.size w w' := by
  rcases h with rfl | ⟨t, rfl⟩
  · exact Below.refl _ _
  · exact Lib.bytesWorld_below w 5 t
set_option maxHeartbeats 2000000 in
theorem scan_text (t s : ByteArray) (h1 : (t.toList == [116, 114, 117, 101]) = false) (h2 : (t.toList == [102, 97, 108, 115, 101]) = false) (h3 : 2 ≤ t.size) (h5 : t.size ≤ 5000) (h4 : (t[0]'(by omega)).toNat = 34) (hu : uS t = s)
    (W : World) (hp : Pr36 2 0 s t) (ha : As99 (.iface 144 (.string s)) 2 0 s) (hw : PowIs W) : Calls Tryd.prog 44 #[.string t] W (RetScan 2 0 s true W) := by
  have HU := Lib.hid hu; clear hu
  have h34 : (((t[0]'(by omega)).toNat : Int) == 34) = true := by rw [beq_iff_eq]; omega
  go_enter Tryd.func44, Tryd.ntmps44
  go_wp2_with fail
  refine (unquoted_val t _ h3 h5).mono ?_
  rw [HU.out]
  rintro e w1 ⟨rfl, hb⟩
  have hB := below_step (show Below W.heap.size W _ from by go_grown) hb
  have c0 := cell_later (v := .int .i64 0) hb (show World.cell? _ ⟨W.heap.size, 0, none⟩ = some (.int .i64 0) from by go_cell)
  have c1 := cell_later (v := .int .i64 0) hb (show World.cell? _ ⟨W.heap.size, 1, none⟩ = some (.int .i64 0) from by go_cell)
  have c2 := cell_later (v := .string ⟨#[]⟩) hb (show World.cell? _ ⟨W.heap.size, 2, none⟩ = some (.string ⟨#[]⟩) from by go_cell)
  have g1 := frz_on hb (show W.heap.size < (W.alloc _).heap.size from by show W.heap.size < (W.heap.push _).size; rw [Array.size_push]; omega) (frz_new W _ 51)
  clear hb
  have hw1 := pow_stays hw hB
  clear hw
  dsimp only
  go_wp2_with fail
  refine (ha _).mono ?_
  rintro e w2 ⟨rfl, hb⟩
  have hB2 := below_step hB hb
  have d0 := cell_later hb c0
  have d1 := cell_later hb c1
  have d2 := cell_later hb c2
  have g2 := frz_on hb (cell_lt c0) g1
  have hw2 := pow_stays hw1 (show Below w1.heap.size w1 w2 from hb)
  have hl0 : W.heap.size < w2.heap.size := cell_lt d0
  clear hb
  dsimp only
  go_wp2_with fail
  refine (hp _ (pow_stays hw2 (by go_grown))).mono ?_
  rintro e w3 ⟨rfl, hb⟩
  have hB3 := below_step (show Below w2.heap.size w2 _ from by go_grown) hb
  have e0 := cell_later (v := .int .i64 2) hb (show World.cell? _ ⟨w2.heap.size, 0, none⟩ = some (.int .i64 2) from by go_cell)
  have e1 := cell_later (v := .int .i64 0) hb (show World.cell? _ ⟨w2.heap.size, 1, none⟩ = some (.int .i64 0) from by go_cell)
  have e2 := cell_later (v := .string s) hb (show World.cell? _ ⟨w2.heap.size, 2, none⟩ = some (.string s) from by go_cell)
  have f0 := cell_later hB3 d0
  have f1 := cell_later hB3 d1
  have f2 := cell_later hB3 d2
  have g3 := frz_on hB3 hl0 g2
  have q0 := g3 0
  have q1 := g3 1
  have q2 := g3 2
  clear hb g3 g2
  dsimp only
  go_wp2_with fail
  have r0 : (w3.setCell ⟨W.heap.size, 0, none⟩ (.int .i64 2)).cell? ⟨W.heap.size, 0, none⟩ = some (.int .i64 2) := by go_cell
  have r1 : ((w3.setCell ⟨W.heap.size, 0, none⟩ (.int .i64 2)).setCell ⟨W.heap.size, 1, none⟩ (.int .i64 0)).cell? ⟨W.heap.size, 1, none⟩ = some (.int .i64 0) := by go_cell
  have r2 : (((w3.setCell ⟨W.heap.size, 0, none⟩ (.int .i64 2)).setCell ⟨W.heap.size, 1, none⟩ (.int .i64 0)).setCell ⟨W.heap.size, 2, none⟩ (.string s)).cell? ⟨W.heap.size, 2, none⟩ = some (.string s) := by go_cell
  refine bodyPost_ret (v := .tuple #[vV 2 0 s, .bool true]) (by simp [results, Tryd.results44, go_sem, vV, r0, r1, r2]) rfl ⟨rfl, ?_⟩
  exact (((below_step hB2 hB3).setCell (Nat.le_refl _) _).setCell (Nat.le_refl _) _).setCell (Nat.le_refl _) _
set_option maxHeartbeats 2000000 in
theorem scan_null (W : World) (hp : Pr36 0 0 ⟨#[]⟩ ⟨#[110, 117, 108, 108]⟩) (ha : As99 (.iface 142 (.agg #[])) 0 0 ⟨#[]⟩) (hw : PowIs W) : Calls Tryd.prog 44 #[.string ⟨#[110, 117, 108, 108]⟩] W (RetScan 0 0 ⟨#[]⟩ true W) := by
  go_enter Tryd.func44, Tryd.ntmps44
  go_wp2_with fail
  refine (ha _).mono ?_
  rintro e w2 ⟨rfl, hb⟩
  have hB2 := below_step (show Below W.heap.size W _ from by go_grown) hb
  have d0 := cell_later (v := .int .i64 0) hb (show World.cell? _ ⟨W.heap.size, 0, none⟩ = some (.int .i64 0) from by go_cell)
  have d1 := cell_later (v := .int .i64 0) hb (show World.cell? _ ⟨W.heap.size, 1, none⟩ = some (.int .i64 0) from by go_cell)
  have d2 := cell_later (v := .string ⟨#[]⟩) hb (show World.cell? _ ⟨W.heap.size, 2, none⟩ = some (.string ⟨#[]⟩) from by go_cell)
  have g2 := frz_on hb (show W.heap.size < (W.alloc _).heap.size from by show W.heap.size < (W.heap.push _).size; rw [Array.size_push]; omega) (frz_new W _ 51)
  have hw2 := pow_stays hw hB2
  have hl0 : W.heap.size < w2.heap.size := cell_lt d0
  clear hb
  dsimp only
  go_wp2_with fail
  refine (hp _ (pow_stays hw2 (by go_grown))).mono ?_
  rintro e w3 ⟨rfl, hb⟩
  have hB3 := below_step (show Below w2.heap.size w2 _ from by go_grown) hb
  have e0 := cell_later (v := .int .i64 0) hb (show World.cell? _ ⟨w2.heap.size, 0, none⟩ = some (.int .i64 0) from by go_cell)
  have e1 := cell_later (v := .int .i64 0) hb (show World.cell? _ ⟨w2.heap.size, 1, none⟩ = some (.int .i64 0) from by go_cell)
  have e2 := cell_later (v := .string ⟨#[]⟩) hb (show World.cell? _ ⟨w2.heap.size, 2, none⟩ = some (.string ⟨#[]⟩) from by go_cell)
  have f0 := cell_later hB3 d0
  have f1 := cell_later hB3 d1
  have f2 := cell_later hB3 d2
  have g3 := frz_on hB3 hl0 g2
  have q0 := g3 0
  have q1 := g3 1
  have q2 := g3 2
  clear hb g3 g2
  dsimp only
  go_wp2_with fail
  have r0 : (w3.setCell ⟨W.heap.size, 0, none⟩ (.int .i64 0)).cell? ⟨W.heap.size, 0, none⟩ = some (.int .i64 0) := by go_cell
  have r1 : ((w3.setCell ⟨W.heap.size, 0, none⟩ (.int .i64 0)).setCell ⟨W.heap.size, 1, none⟩ (.int .i64 0)).cell? ⟨W.heap.size, 1, none⟩ = some (.int .i64 0) := by go_cell
  have r2 : (((w3.setCell ⟨W.heap.size, 0, none⟩ (.int .i64 0)).setCell ⟨W.heap.size, 1, none⟩ (.int .i64 0)).setCell ⟨W.heap.size, 2, none⟩ (.string ⟨#[]⟩)).cell? ⟨W.heap.size, 2, none⟩ = some (.string ⟨#[]⟩) := by go_cell
  refine bodyPost_ret (v := .tuple #[vV 0 0 ⟨#[]⟩, .bool true]) (by simp [results, Tryd.results44, go_sem, vV, r0, r1, r2]) rfl ⟨rfl, ?_⟩
  exact (((below_step hB2 hB3).setCell (Nat.le_refl _) _).setCell (Nat.le_refl _) _).setCell (Nat.le_refl _) _
set_option maxHeartbeats 2000000 in
theorem scan_true (W : World) (hp : Pr36 3 1 ⟨#[]⟩ ⟨#[116, 114, 117, 101]⟩) (ha : As99 (.iface 143 (.bool true)) 3 1 ⟨#[]⟩) (hw : PowIs W) : Calls Tryd.prog 44 #[.string ⟨#[116, 114, 117, 101]⟩] W (RetScan 3 1 ⟨#[]⟩ true W) := by
  go_enter Tryd.func44, Tryd.ntmps44
  go_wp2_with fail
  refine (ha _).mono ?_
  rintro e w2 ⟨rfl, hb⟩
  have hB2 := below_step (show Below W.heap.size W _ from by go_grown) hb
  have d0 := cell_later (v := .int .i64 0) hb (show World.cell? _ ⟨W.heap.size, 0, none⟩ = some (.int .i64 0) from by go_cell)
  have d1 := cell_later (v := .int .i64 0) hb (show World.cell? _ ⟨W.heap.size, 1, none⟩ = some (.int .i64 0) from by go_cell)
  have d2 := cell_later (v := .string ⟨#[]⟩) hb (show World.cell? _ ⟨W.heap.size, 2, none⟩ = some (.string ⟨#[]⟩) from by go_cell)
  have g2 := frz_on hb (show W.heap.size < (W.alloc _).heap.size from by show W.heap.size < (W.heap.push _).size; rw [Array.size_push]; omega) (frz_new W _ 51)
  have hw2 := pow_stays hw hB2
  have hl0 : W.heap.size < w2.heap.size := cell_lt d0
  clear hb
  dsimp only
  go_wp2_with fail
  refine (hp _ (pow_stays hw2 (by go_grown))).mono ?_
  rintro e w3 ⟨rfl, hb⟩
  have hB3 := below_step (show Below w2.heap.size w2 _ from by go_grown) hb
  have e0 := cell_later (v := .int .i64 3) hb (show World.cell? _ ⟨w2.heap.size, 0, none⟩ = some (.int .i64 3) from by go_cell)
  have e1 := cell_later (v := .int .i64 1) hb (show World.cell? _ ⟨w2.heap.size, 1, none⟩ = some (.int .i64 1) from by go_cell)
  have e2 := cell_later (v := .string ⟨#[]⟩) hb (show World.cell? _ ⟨w2.heap.size, 2, none⟩ = some (.string ⟨#[]⟩) from by go_cell)
  have f0 := cell_later hB3 d0
  have f1 := cell_later hB3 d1
  have f2 := cell_later hB3 d2
  have g3 := frz_on hB3 hl0 g2
  have q0 := g3 0
  have q1 := g3 1
  have q2 := g3 2
  clear hb g3 g2
  dsimp only
  go_wp2_with fail
  have r0 : (w3.setCell ⟨W.heap.size, 0, none⟩ (.int .i64 3)).cell? ⟨W.heap.size, 0, none⟩ = some (.int .i64 3) := by go_cell
  have r1 : ((w3.setCell ⟨W.heap.size, 0, none⟩ (.int .i64 3)).setCell ⟨W.heap.size, 1, none⟩ (.int .i64 1)).cell? ⟨W.heap.size, 1, none⟩ = some (.int .i64 1) := by go_cell
  have r2 : (((w3.setCell ⟨W.heap.size, 0, none⟩ (.int .i64 3)).setCell ⟨W.heap.size, 1, none⟩ (.int .i64 1)).setCell ⟨W.heap.size, 2, none⟩ (.string ⟨#[]⟩)).cell? ⟨W.heap.size, 2, none⟩ = some (.string ⟨#[]⟩) := by go_cell
  refine bodyPost_ret (v := .tuple #[vV 3 1 ⟨#[]⟩, .bool true]) (by simp [results, Tryd.results44, go_sem, vV, r0, r1, r2]) rfl ⟨rfl, ?_⟩
  exact (((below_step hB2 hB3).setCell (Nat.le_refl _) _).setCell (Nat.le_refl _) _).setCell (Nat.le_refl _) _
set_option maxHeartbeats 2000000 in
theorem scan_false (W : World) (hp : Pr36 3 0 ⟨#[]⟩ ⟨#[102, 97, 108, 115, 101]⟩) (ha : As99 (.iface 143 (.bool false)) 3 0 ⟨#[]⟩) (hw : PowIs W) : Calls Tryd.prog 44 #[.string ⟨#[102, 97, 108, 115, 101]⟩] W (RetScan 3 0 ⟨#[]⟩ true W) := by
  go_enter Tryd.func44, Tryd.ntmps44
  go_wp2_with fail
  refine (ha _).mono ?_
  rintro e w2 ⟨rfl, hb⟩
  have hB2 := below_step (show Below W.heap.size W _ from by go_grown) hb
  have d0 := cell_later (v := .int .i64 0) hb (show World.cell? _ ⟨W.heap.size, 0, none⟩ = some (.int .i64 0) from by go_cell)
  have d1 := cell_later (v := .int .i64 0) hb (show World.cell? _ ⟨W.heap.size, 1, none⟩ = some (.int .i64 0) from by go_cell)
  have d2 := cell_later (v := .string ⟨#[]⟩) hb (show World.cell? _ ⟨W.heap.size, 2, none⟩ = some (.string ⟨#[]⟩) from by go_cell)
  have g2 := frz_on hb (show W.heap.size < (W.alloc _).heap.size from by show W.heap.size < (W.heap.push _).size; rw [Array.size_push]; omega) (frz_new W _ 51)
  have hw2 := pow_stays hw hB2
  have hl0 : W.heap.size < w2.heap.size := cell_lt d0
  clear hb
  dsimp only
  go_wp2_with fail
  refine (hp _ (pow_stays hw2 (by go_grown))).mono ?_
  rintro e w3 ⟨rfl, hb⟩
  have hB3 := below_step (show Below w2.heap.size w2 _ from by go_grown) hb
  have e0 := cell_later (v := .int .i64 3) hb (show World.cell? _ ⟨w2.heap.size, 0, none⟩ = some (.int .i64 3) from by go_cell)
  have e1 := cell_later (v := .int .i64 0) hb (show World.cell? _ ⟨w2.heap.size, 1, none⟩ = some (.int .i64 0) from by go_cell)
  have e2 := cell_later (v := .string ⟨#[]⟩) hb (show World.cell? _ ⟨w2.heap.size, 2, none⟩ = some (.string ⟨#[]⟩) from by go_cell)
  have f0 := cell_later hB3 d0
  have f1 := cell_later hB3 d1
  have f2 := cell_later hB3 d2
  have g3 := frz_on hB3 hl0 g2
  have q0 := g3 0
  have q1 := g3 1
  have q2 := g3 2
  clear hb g3 g2
  dsimp only
  go_wp2_with fail
  have r0 : (w3.setCell ⟨W.heap.size, 0, none⟩ (.int .i64 3)).cell? ⟨W.heap.size, 0, none⟩ = some (.int .i64 3) := by go_cell
  have r1 : ((w3.setCell ⟨W.heap.size, 0, none⟩ (.int .i64 3)).setCell ⟨W.heap.size, 1, none⟩ (.int .i64 0)).cell? ⟨W.heap.size, 1, none⟩ = some (.int .i64 0) := by go_cell
  have r2 : (((w3.setCell ⟨W.heap.size, 0, none⟩ (.int .i64 3)).setCell ⟨W.heap.size, 1, none⟩ (.int .i64 0)).setCell ⟨W.heap.size, 2, none⟩ (.string ⟨#[]⟩)).cell? ⟨W.heap.size, 2, none⟩ = some (.string ⟨#[]⟩) := by go_cell
  refine bodyPost_ret (v := .tuple #[vV 3 0 ⟨#[]⟩, .bool true]) (by simp [results, Tryd.results44, go_sem, vV, r0, r1, r2]) rfl ⟨rfl, ?_⟩
  exact (((below_step hB2 hB3).setCell (Nat.le_refl _) _).setCell (Nat.le_refl _) _).setCell (Nat.le_refl _) _
set_option maxHeartbeats 2000000 in
theorem scan_num (t : ByteArray) (n : Int) (h1 : (t.toList == [116, 114, 117, 101]) = false) (h2 : (t.toList == [102, 97, 108, 115, 101]) = false) (h3 : (t.toList == [110, 117, 108, 108]) = false) (h0 : 1 ≤ t.size) (h5 : t.size ≤ 5000) (h4 : (t[0]'(by omega)).toNat ≠ 34) (ho : Lib.atoiAll t.data.toList = .ok n)
    (W : World) (hp : Pr36 1 n ⟨#[]⟩ t) (ha : As99 (.iface 149 (.int .i64 n)) 1 n ⟨#[]⟩) (hw : PowIs W) : Calls Tryd.prog 44 #[.string t] W (RetScan 1 n ⟨#[]⟩ true W) := by
  have HO := Lib.hid ho; clear ho
  have h34 : (((t[0]'(by omega)).toNat : Int) == 34) = false := by rw [beq_eq_false_iff_ne]; omega
  clear h4
  go_enter Tryd.func44, Tryd.ntmps44
  go_wp2_with fail
  all_goals
   refine (Tryd.strconv_Atoi_ok t (by omega) n HO.out _).mono ?_
   rintro e w1 ⟨rfl, hb⟩
   have hb := below_bw hb
   have hB := below_step (show Below W.heap.size W _ from by go_grown) hb
   have c0 := cell_later (v := .int .i64 0) hb (show World.cell? _ ⟨W.heap.size, 0, none⟩ = some (.int .i64 0) from by go_cell)
   have c1 := cell_later (v := .int .i64 0) hb (show World.cell? _ ⟨W.heap.size, 1, none⟩ = some (.int .i64 0) from by go_cell)
   have c2 := cell_later (v := .string ⟨#[]⟩) hb (show World.cell? _ ⟨W.heap.size, 2, none⟩ = some (.string ⟨#[]⟩) from by go_cell)
   have g1 := frz_on hb (show W.heap.size < (W.alloc _).heap.size from by show W.heap.size < (W.heap.push _).size; rw [Array.size_push]; omega) (frz_new W _ 51)
   clear hb
   have hw1 := pow_stays hw hB
   clear hw
   dsimp only
   go_wp2_with fail
   refine (ha _).mono ?_
   rintro e w2 ⟨rfl, hb⟩
   have hB2 := below_step hB hb
   have d0 := cell_later hb c0
   have d1 := cell_later hb c1
   have d2 := cell_later hb c2
   have g2 := frz_on hb (cell_lt c0) g1
   have hw2 := pow_stays hw1 (show Below w1.heap.size w1 w2 from hb)
   have hl0 : W.heap.size < w2.heap.size := cell_lt d0
   clear hb
   dsimp only
   go_wp2_with fail
   refine (hp _ (pow_stays hw2 (by go_grown))).mono ?_
   rintro e w3 ⟨rfl, hb⟩
   have hB3 := below_step (show Below w2.heap.size w2 _ from by go_grown) hb
   have e0 := cell_later (v := .int .i64 1) hb (show World.cell? _ ⟨w2.heap.size, 0, none⟩ = some (.int .i64 1) from by go_cell)
   have e1 := cell_later (v := .int .i64 n) hb (show World.cell? _ ⟨w2.heap.size, 1, none⟩ = some (.int .i64 n) from by go_cell)
   have e2 := cell_later (v := .string ⟨#[]⟩) hb (show World.cell? _ ⟨w2.heap.size, 2, none⟩ = some (.string ⟨#[]⟩) from by go_cell)
   have f0 := cell_later hB3 d0
   have f1 := cell_later hB3 d1
   have f2 := cell_later hB3 d2
   have g3 := frz_on hB3 hl0 g2
   have q0 := g3 0
   have q1 := g3 1
   have q2 := g3 2
   clear hb g3 g2
   dsimp only
   go_wp2_with fail
   have r0 : (w3.setCell ⟨W.heap.size, 0, none⟩ (.int .i64 1)).cell? ⟨W.heap.size, 0, none⟩ = some (.int .i64 1) := by go_cell
   have r1 : ((w3.setCell ⟨W.heap.size, 0, none⟩ (.int .i64 1)).setCell ⟨W.heap.size, 1, none⟩ (.int .i64 n)).cell? ⟨W.heap.size, 1, none⟩ = some (.int .i64 n) := by go_cell
   have r2 : (((w3.setCell ⟨W.heap.size, 0, none⟩ (.int .i64 1)).setCell ⟨W.heap.size, 1, none⟩ (.int .i64 n)).setCell ⟨W.heap.size, 2, none⟩ (.string ⟨#[]⟩)).cell? ⟨W.heap.size, 2, none⟩ = some (.string ⟨#[]⟩) := by go_cell
   refine bodyPost_ret (v := .tuple #[vV 1 n ⟨#[]⟩, .bool true]) (by simp [results, Tryd.results44, go_sem, vV, r0, r1, r2]) rfl ⟨rfl, ?_⟩
   exact (((below_step hB2 hB3).setCell (Nat.le_refl _) _).setCell (Nat.le_refl _) _).setCell (Nat.le_refl _) _
end Go.Proofs.YtcjidlgmbjebjaaDoor

namespace Go.Proofs.YtcjidlgmbjebjaaDoor
open Go Go.RowKit
def ErrIs (w : World) : Prop := ∃ ev, w.cell? ⟨2, 0, none⟩ = some ev ∧ (ev = .nilIface ∨ ∃ te pe, ev = .iface te pe)
theorem err_stays {w w' : World} (h : ErrIs w) (hb : Below w.heap.size w w') : ErrIs w' := by
  obtain ⟨ev, h1, h2⟩ := h
  exact ⟨ev, cell_later hb h1, h2⟩
theorem qB_sb (l : List UInt8) : qB l = Sb.qB l := by
  induction l with
  | nil => rfl
  | cons c l ih => rw [qB, Sb.qB, ih]; rfl
theorem qS_list (s : ByteArray) : (qS s).data.toList = 34 :: (qB s.data.toList ++ [34]) := by simp [qS]
theorem uS_qS (s : ByteArray) : uS (qS s) = s := by
  unfold uS
  have hz : (qS s).size = (qB s.data.toList).length + 2 := by
    have := congrArg List.length (qS_list s)
    simp at this
    exact this
  have h : ((qS s).extract 1 ((qS s).size - 1)).data.toList = qB s.data.toList := by
    rw [ByteArray.data_extract, Array.toList_extract, hz, qS_list]
    simp [List.extract]
  rw [h, qB_sb, Sb.unq1_q]
theorem pr_ne {a : UInt8} {l m : List UInt8} (h : (a :: l).head? ≠ m.head?) : ((a :: l) == m) = false := by
  rw [beq_eq_false_iff_ne]
  rintro rfl
  exact h rfl
theorem scan_good (k n : Int) (s : ByteArray) (hg : goodV k n s = true) (hsz : s.size ≤ 9223372036854775807) (h0 : -9223372036854775808 ≤ n) (h1 : n ≤ 9223372036854775807) (W : World) (hw : PowIs W) :
    Calls Tryd.prog 44 #[.string (prV k n s)] W (RetScan k n s true W) := by
  have hp : Pr36 k n s (prV k n s) := fun w h => print_val k n s w hsz h0 h1 h
  have ha : As99 (ofV k n s) k n s := fun w => as_val k n s hg w
  have hk : k = 0 ∨ k = 1 ∨ k = 2 ∨ k = 3 ∨ (k ≠ 0 ∧ k ≠ 1 ∧ k ≠ 2 ∧ k ≠ 3) := by omega
  rcases hk with rfl | rfl | rfl | rfl | ⟨k0, k1, k2, k3⟩
  · have e : prV 0 n s = sNull := by simp [prV, hg]
    simp only [goodV, if_true, decide_eq_true_eq] at hg
    obtain ⟨rfl, hs⟩ := hg
    obtain rfl := empty_of hs
    rw [e] at hp ⊢
    rw [show ofV 0 0 ⟨#[]⟩ = .iface 142 (.agg #[]) from by simp [ofV]] at ha
    exact scan_null W hp ha hw
  · have e : prV 1 n s = numS n := by simp [prV, hg]
    have hs : s.toList = [] := by simpa [goodV] using hg
    obtain rfl := empty_of hs
    rw [e] at hp ⊢
    rw [show ofV 1 n ⟨#[]⟩ = .iface 149 (.int .i64 n) from by simp [ofV]] at ha
    obtain ⟨w1, w2, w3, w4⟩ := Sb.itoa_words n
    have hI : Sb.I64 n := by unfold Sb.I64; omega
    obtain ⟨l1, l2⟩ := Sb.itoa_len n hI
    have hd : (numS n).data.toList = Lib.itoa n := by simp [numS]
    have hl : (numS n).toList = Lib.itoa n := by rw [ByteArray.toList_eq, hd]
    have hz : (numS n).size = (Lib.itoa n).length := by rw [← hd]; simp
    refine scan_num (numS n) n ?_ ?_ ?_ (by omega) (by omega) ?_ (by rw [hd]; exact Sb.atoi_itoa n hI) W hp ha hw
    · rw [hl, beq_eq_false_iff_ne]; exact w2
    · rw [hl, beq_eq_false_iff_ne]; exact w3
    · rw [hl, beq_eq_false_iff_ne]; exact w1
    · obtain ⟨c, r, hc, hc1, hc2⟩ := Sb.itoa_head n
      have hx : (numS n).data.toList[0]? = some c := by rw [hd, hc]; rfl
      have hy : (numS n).data.toList[0]? = some ((numS n)[0]'(by omega)) := by
        rw [List.getElem?_eq_getElem (by simp; omega)]; rfl
      rw [hy] at hx
      injection hx with hx
      rw [hx]; exact hc1
  · have e : prV 2 n s = qS s := by simp [prV, hg]
    have hk := good_kind hg
    have hn : n = 0 := by simp [goodV] at hg; exact hg.1
    subst hn
    have h200 : s.size ≤ 200 := by omega
    rw [e] at hp ⊢
    rw [show ofV 2 0 s = .iface 144 (.string s) from by simp [ofV]] at ha
    have hl : (qS s).toList = 34 :: (qB s.data.toList ++ [34]) := by rw [ByteArray.toList_eq, qS_list]
    have hz : (qS s).size = (qB s.data.toList).length + 2 := by
      have := congrArg List.length (qS_list s)
      simp at this
      exact this
    have hq := qB_len s.data.toList
    have hs2 : s.data.toList.length = s.size := by simp
    refine scan_text (qS s) s ?_ ?_ (by omega) (by omega) ?_ (uS_qS s) W hp ha hw
    · rw [hl]; exact pr_ne (by simp)
    · rw [hl]; exact pr_ne (by simp)
    · have hx : (qS s).data.toList[0]? = some 34 := by rw [qS_list]; rfl
      have hy : (qS s).data.toList[0]? = some ((qS s)[0]'(by omega)) := by
        rw [List.getElem?_eq_getElem (by simp; omega)]; rfl
      rw [hy] at hx
      injection hx with hx
      rw [hx]; rfl
  · have e : prV 3 n s = if n = 1 then sTrue else sFalse := by simp [prV, hg]
    have hk := good_kind hg
    have hs : s.toList = [] := by simp [goodV] at hg; exact hg.1
    obtain rfl := empty_of hs
    rw [e] at hp ⊢
    rcases show n = 0 ∨ n = 1 by omega with rfl | rfl
    · rw [show ofV 3 0 ⟨#[]⟩ = .iface 143 (.bool false) from by simp [ofV]] at ha
      exact scan_false W hp ha hw
    · rw [show ofV 3 1 ⟨#[]⟩ = .iface 143 (.bool true) from by simp [ofV]] at ha
      exact scan_true W hp ha hw
  · have := good_kind hg
    omega
set_option maxHeartbeats 2000000 in
theorem scan_none (W : World) (he : ErrIs W) : Calls Tryd.prog 44 #[.string ⟨#[]⟩] W (RetScan 0 0 ⟨#[]⟩ false W) := by
  obtain ⟨ev, hv, hev⟩ := he
  have hlt := cell_lt hv
  have HEV := Lib.hid hev
  clear hev
  go_enter Tryd.func44, Tryd.ntmps44
  go_wp2_with fail
  refine (Tryd.strconv_Atoi_syntax ⟨#[]⟩ (by decide) (by decide) ev _ (show World.cell? _ ⟨2, 0, none⟩ = some ev from by go_cell) HEV.out).mono ?_
  rintro e w1 ⟨N, rfl, hN, hNb, hb⟩
  have hB := below_step (show Below W.heap.size W _ from by go_grown) hb
  have c0 := cell_later (v := .int .i64 0) hb (show World.cell? _ ⟨W.heap.size, 0, none⟩ = some (.int .i64 0) from by go_cell)
  have c1 := cell_later (v := .int .i64 0) hb (show World.cell? _ ⟨W.heap.size, 1, none⟩ = some (.int .i64 0) from by go_cell)
  have c2 := cell_later (v := .string ⟨#[]⟩) hb (show World.cell? _ ⟨W.heap.size, 2, none⟩ = some (.string ⟨#[]⟩) from by go_cell)
  have g1 := frz_on hb (show W.heap.size < (W.alloc _).heap.size from by show W.heap.size < (W.heap.push _).size; rw [Array.size_push]; omega) (frz_new W _ 51)
  have q0 := g1 0
  have q1 := g1 1
  have q2 := g1 2
  clear hb g1 hNb hN
  dsimp only
  go_wp2_with fail
  have r0 : (w1.setCell ⟨W.heap.size, 0, none⟩ (.int .i64 0)).cell? ⟨W.heap.size, 0, none⟩ = some (.int .i64 0) := by go_cell
  have r1 : ((w1.setCell ⟨W.heap.size, 0, none⟩ (.int .i64 0)).setCell ⟨W.heap.size, 1, none⟩ (.int .i64 0)).cell? ⟨W.heap.size, 1, none⟩ = some (.int .i64 0) := by go_cell
  have r2 : (((w1.setCell ⟨W.heap.size, 0, none⟩ (.int .i64 0)).setCell ⟨W.heap.size, 1, none⟩ (.int .i64 0)).setCell ⟨W.heap.size, 2, none⟩ (.string ⟨#[]⟩)).cell? ⟨W.heap.size, 2, none⟩ = some (.string ⟨#[]⟩) := by go_cell
  refine bodyPost_ret (v := .tuple #[vV 0 0 ⟨#[]⟩, .bool false]) (by simp [results, Tryd.results44, go_sem, vV, r0, r1, r2]) rfl ⟨rfl, ?_⟩
  exact ((hB.setCell (Nat.le_refl _) _).setCell (Nat.le_refl _) _).setCell (Nat.le_refl _) _
end Go.Proofs.YtcjidlgmbjebjaaDoor

namespace Go.Proofs.YtcjidlgmbjebjaaDoor
open Go Go.RowKit
end Go.Proofs.YtcjidlgmbjebjaaDoor

namespace Go.Proofs.YtcjidlgmbjebjaaDoor
open Go Go.RowKit Go.Proofs.YtcjidlgmbjebjaaDoorW.PrintWords
abbrev Ent := Sb.Ent
def entL (e : Ent) (v : Value) : Array Value := #[.string e.nm, .int .i64 e.kd, .int .i64 e.srs, v, .int .i64 e.id, .int .i64 e.tb, .int .i64 e.t0, .int .i64 e.t1, .int .i64 e.t2, .int .i64 e.ct, .int .i64 e.nx, .bool e.bn, .int .i64 e.lx, .int .i64 e.ly, .int .i64 e.hx, .int .i64 e.hy]
end Go.Proofs.YtcjidlgmbjebjaaDoor

namespace Go.Proofs.YtcjidlgmbjebjaaDoor
open Go Go.RowKit Go.Proofs.YtcjidlgmbjebjaaDoorW.PrintWords
end Go.Proofs.YtcjidlgmbjebjaaDoor
