/- A part of the proof of SchemaForms. -/
import Derived.Test.YtcjidlgmbjebjaaDoorSfl
import Derived.Test.YtcjidlgmbjebjaaDoorSfn
import Derived.Test.YtcjidlgmbjebjaaDoorSfp
set_option linter.unusedVariables false
set_option linter.unusedSimpArgs false
set_option maxRecDepth 100000
namespace Go.Proofs.YtcjidlgmbjebjaaDoor
open Go Go.RowKit Go.Proofs.YtcjidlgmbjebjaaDoorW.PrintWords
/-- The document's source at a block. -/
def SrcR (w : World) (p : Nat) (s : Sb.Src) : Prop := ∃ v, (w.heap[p]? = some (.cells #[v, .int .i64 s.1] 127 (0, 0)) ∧ VLt v p) ∧ SlB w v s.2
theorem srcR_lt {w : World} {p : Nat} {s : Sb.Src} (h : SrcR w p s) : p < w.heap.size := by obtain ⟨v, ⟨h, _⟩, _⟩ := h; exact (Array.getElem?_eq_some_iff.1 h).1
theorem srcR_nobyte {w : World} {p : Nat} {s : Sb.Src} (h : SrcR w p s) : NoByte w p := by
  obtain ⟨v, ⟨h, _⟩, A, c, rfl, _⟩ := h
  refine nobyte_of h fun i x hi => ?_
  match i, hi with
  | 0, hi => simp at hi
  | 1, hi => simp at hi
  | i + 2, hi => simp at hi
theorem srcR_below {w w' : World} {p : Nat} {s : Sb.Src} (h : SrcR w p s) (hb : Below w.heap.size w w') : SrcR w' p s := by
  have hl := srcR_lt h
  obtain ⟨v, ⟨h1, hv⟩, h2⟩ := h
  exact ⟨v, ⟨(hb.block p hl).trans h1, hv⟩, slb_below h2 hb⟩
theorem srcR_alloc {w : World} {p : Nat} {s : Sb.Src} (h : SrcR w p s) (o : Obj) : SrcR (w.alloc o) p s := srcR_below h ((Below.refl _ _).alloc (Nat.le_refl _) o)
theorem srcR_keep {w w' : World} {p q : Nat} {s : Sb.Src} (h : SrcR w p s) (hn : NoByte w q) (hq : p ≠ q) (hk : Keep1 q w w') : SrcR w' p s := by
  have hl := srcR_lt h
  obtain ⟨v, ⟨h1, hv⟩, h2⟩ := h
  exact ⟨v, ⟨(hk.block hl hq).trans h1, hv⟩, slb_keep h2 hn hk⟩
def RetSR (v : Value) (p : Nat) (s : Sb.Src) (W : World) (e : Ending) (w' : World) : Prop := e = .returned v ∧ SrcR w' p s ∧ Keep1 p W w'
def RetBR (p n : Nat) (s : Sb.Src) (W : World) (e : Ending) (w' : World) : Prop := ∃ A m c, e = .returned (.slice A m c) ∧ m = (Sb.sTake n s).1.length ∧ SlB w' (.slice A m c) (Sb.sTake n s).1 ∧ SrcR w' p (Sb.sTake n s).2 ∧ Keep1 p W w'
set_option maxHeartbeats 2000000 in
theorem rfail_val (p : Nat) (l : List Int) (er : Int) (W : World) (hs : SrcR W p (0, l)) : Calls Tryd.prog 125 #[.pointer (some ⟨p, 0, none⟩), .int .i64 er] W (RetSR (.tuple #[]) p (er, []) W) := by
  obtain ⟨v, ⟨h, _⟩, _⟩ := hs
  have c2 : W.cell? ⟨p, 1, none⟩ = some (.int .i64 0) := by rw [Lib.cell_of_heap h]; rfl
  have c1 : W.cell? ⟨p, 0, none⟩ = some v := by rw [Lib.cell_of_heap h]; rfl
  have f2 : W.frozen? ⟨p, 1, none⟩ = false := Lib.frozen_of_heap h 1
  have f1 : W.frozen? ⟨p, 0, none⟩ = false := Lib.frozen_of_heap h 0
  have H := Lib.hid h; clear h
  go_enter Tryd.func125, Tryd.ntmps125
  go_wp2
  go_end0
  have h2 := heap_setCell_same W p 1 _ _ (.int .i64 er) H.out
  have h1 := heap_setCell_same _ p 0 _ _ (.slice none 0 0) h2
  exact ⟨rfl, ⟨_, ⟨h1, vlt_nil _ _ _⟩, slb_nil _ _ _⟩, ((Keep1.refl p W).set 1 _).set 0 _⟩
set_option maxHeartbeats 4000000 in
theorem rbytes_val (p n : Nat) (hn : (n : Int) ≤ 9223372036854775807) (s : Sb.Src) (hl : s.2.length ≤ 140737488355000) (W : World) (hs : SrcR W p s) :
    Calls Tryd.prog 81 #[.pointer (some ⟨p, 0, none⟩), .int .i64 n] W (RetBR p n s W) := by
  have HS := Lib.hid hs
  have hlt := srcR_lt hs
  obtain ⟨er, l⟩ := s
  obtain ⟨v, ⟨h, hq1⟩, A, c, rfl, hc, hC⟩ := hs
  have c1 : W.cell? ⟨p, 1, none⟩ = some (.int .i64 er) := by rw [Lib.cell_of_heap h]; rfl
  have c0 : W.cell? ⟨p, 0, none⟩ = some (.slice A l.length c) := by rw [Lib.cell_of_heap h]; rfl
  have H := Lib.hid h
  have HC := Lib.hid hC
  clear h hC
  dsimp only at hc hl
  by_cases he : er = 0
  case neg =>
    have HV := Lib.hid (show (Sb.sTake n (er, l)) = ([], (er, l)) by unfold Sb.sTake; rw [if_neg he])
    go_enter Tryd.func81, Tryd.ntmps81
    go_wp2_with fail
    go_ret
    refine ⟨none, 0, 0, rfl, by rw [HV.out]; rfl, ?_, ?_, Keep1.refl _ _⟩
    · rw [HV.out]; exact slb_nil _ _ _
    · rw [HV.out]; exact HS.out
  subst he
  by_cases hle : n ≤ l.length
  case neg =>
    have HV := Lib.hid (show (Sb.sTake n (0, l)) = ([], (8, [])) by unfold Sb.sTake; rw [if_pos rfl, if_pos (by simpa using hle)])
    have HF := Lib.hid (rfail_val p l 8 W HS.out)
    go_enter Tryd.func81, Tryd.ntmps81
    go_wp2_with fail
    refine HF.out.mono ?_
    rintro e w1 ⟨rfl, h1, h2⟩
    dsimp only
    go_wp2_with fail
    go_ret
    refine ⟨none, 0, 0, rfl, by rw [HV.out]; rfl, ?_, ?_, h2⟩
    · rw [HV.out]; exact slb_nil _ _ _
    · rw [HV.out]; exact h1
  have HV := Lib.hid (show (Sb.sTake n (0, l)) = (l.take n, (0, l.drop n)) by unfold Sb.sTake; rw [if_pos rfl, if_neg (by simpa using hle)])
  have hlen : (l.take n).length = n := by rw [List.length_take]; omega
  have HT := Lib.hid (show Kd.C (Kd.int .u8) W A n (l.take n) from by have := kC_take n HC.out; rwa [hlen] at this)
  have HLEN := Lib.hid hlen
  clear hlen
  go_enter Tryd.func81, Tryd.ntmps81
  go_wp2_with (at_builtin; refine wpList_app (by rfl) _ _ (by rfl) (by rfl) (by rfl) (row_empty (base := W.heap.size) (Nat.le_refl _)) (by rfl) (Kd.C_alloc HT.out _) (by rw [HLEN.out]; simp; omega) (by simp) ?_)
  intro v1 w1 hr hb _
  have HB := Lib.hid (show Below W.heap.size W w1 from ((Below.refl W.heap.size W).alloc (Nat.le_refl _) _).trans hb)
  have hsl := slb_row hr (by rw [HLEN.out]; omega)
  obtain ⟨A1, c2, rfl, _, _⟩ := hsl
  have HR := Lib.hid (slb_row hr (by rw [HLEN.out]; omega))
  have d0 : w1.cell? ⟨p, 0, none⟩ = some (.slice A l.length c) := cell_later HB.out c0
  have f0 : w1.frozen? ⟨p, 0, none⟩ = false := Lib.frozen_of_heap ((HB.out.block p hlt).trans H.out) 0
  have HH := Lib.hid ((HB.out.block p hlt).trans H.out)
  have HSl := Lib.hid (slb_below (w := W) (l := l) ⟨A, c, rfl, hc, HC.out⟩ HB.out)
  have HN := Lib.hid (srcR_nobyte (srcR_below HS.out HB.out))
  clear hr hb
  generalize hM : (l.take n).length = M at HR
  rw [HLEN.out] at hM
  subst hM
  go_wp2_with fail
  · go_ret
    rename_i hcn
    have hx : SlB w1 (.slice A (l.length - n) 0) (l.drop n) := by
      have h1 : l.drop n = [] := List.eq_nil_of_length_eq_zero (by rw [List.length_drop]; omega)
      rw [h1, show l.length - n = 0 by omega]
      exact slb_nil _ _ _
    unfold RetBR
    rw [HV.out]
    exact ⟨_, _, _, rfl, HLEN.out.symm, slb_keep HR.out HN.out ((Keep1.refl p w1).set 0 _), ⟨_, ⟨heap_setCell_same w1 p 0 _ _ _ HH.out, vlt_same hq1⟩, slb_keep (p := p) hx HN.out ((Keep1.refl p w1).set 0 _)⟩, (Keep1.of_below HB.out).set 0 _⟩
  · go_ret
    unfold RetBR
    rw [HV.out]
    exact ⟨_, _, _, rfl, HLEN.out.symm, slb_keep HR.out HN.out ((Keep1.refl p w1).set 0 _), ⟨_, ⟨heap_setCell_same w1 p 0 _ _ _ HH.out, vlt_map hq1⟩, slb_keep (p := p) (slb_cut hle hc (Kd.C_below HC.out HB.out) (fun h => rfl)) HN.out ((Keep1.refl p w1).set 0 _)⟩, (Keep1.of_below HB.out).set 0 _⟩
theorem rget_val (A : Option Addr) (c : Nat) (l : List Int) (n : Nat) (hn : n = 1 ∨ n = 8) (hb : Byt l) (hc : l.length ≤ c) (hln : l = [] ∨ l.length = n) (w : World) (hC : Kd.C (Kd.int .u8) w A l.length l) :
    Calls Tryd.prog 153 #[.slice A l.length c, .int .i64 n, .bool false] w (fun e w' => e = .returned (.tuple #[.int .u64 (Sb.be l), .bool (decide (n ≤ l.length))]) ∧ Drawn0 w w') := by
  refine PSchemaForms.hachureref02_Get.calls 10 A c l n false _ _ w hC hc ?_
  rcases hln with rfl | hln
  · have := hachureref02_Get_short [] n (by omega) (by omega) (by simp; omega) 9
    rw [decide_eq_false (by simp; omega)]
    exact this
  · rw [decide_eq_true (by omega)]
    rcases hn with rfl | rfl
    · match l, hb, hln with
      | [x], hb, _ =>
        have h := hb x (by simp)
        have := hachureref02_Get_one x [] h.1 h.2
        simpa [Sb.be] using this
    · obtain ⟨a0, a1, a2, a3, a4, a5, a6, a7, r, rfl⟩ := eight l (by omega)
      have hr : r = [] := List.eq_nil_of_length_eq_zero (by simp only [List.length_cons] at hln; omega)
      subst hr
      exact hachureref02_Get_eight a0 a1 a2 a3 a4 a5 a6 a7 [] hb
theorem take_two {n : Nat} {s : Sb.Src} : (Sb.sTake n s).1 = [] ∨ (Sb.sTake n s).1.length = n := by
  unfold Sb.sTake
  split
  · split
    · exact .inl rfl
    · right; simp; omega
  · exact .inl rfl
set_option maxHeartbeats 4000000 in
theorem rnum_val (p n : Nat) (hn : n = 1 ∨ n = 8) (s : Sb.Src) (hb : Byt s.2) (hl : s.2.length ≤ 140737488355000) (W : World) (hs : SrcR W p s) :
    Calls Tryd.prog 126 #[.pointer (some ⟨p, 0, none⟩), .int .i64 n, .bool false] W (RetSR (.int .u64 (Sb.be (Sb.sTake n s).1)) p (Sb.sTake n s).2 W) := by
  have HB := Lib.hid (rbytes_val p n (by omega) s hl W hs)
  have h1n : 1 ≤ (n : Int) ∧ (n : Int) ≤ 8 := by omega
  go_enter Tryd.func126, Tryd.ntmps126
  go_wp2_with fail
  refine HB.out.mono ?_
  rintro e w1 ⟨A, m, c, rfl, rfl, hsl, h1, h2⟩
  obtain ⟨A', c', hv, hc, hC⟩ := hsl
  injection hv with e1 e2 e3
  subst e1 e3
  have HG := Lib.hid (rget_val A c _ n hn (take_byt hb).1 hc take_two w1 hC)
  have HS := Lib.hid h1
  have HK := Lib.hid h2
  clear h1 h2 hC hc e2
  generalize hM : (Sb.sTake n s).1.length = M at HG
  dsimp only
  go_wp2_with fail
  refine HG.out.mono ?_
  rintro e w2 ⟨rfl, hd⟩
  have HS2 := Lib.hid (srcR_below HS.out (drawn_below hd))
  have HK2 := Lib.hid (HK.out.trans (drawn_keep hd p))
  clear hd
  dsimp only
  go_wp2_with fail
  go_ret
  exact ⟨rfl, HS2.out, HK2.out⟩
set_option maxHeartbeats 2000000 in
theorem rbyte_val (p : Nat) (s : Sb.Src) (hb : Byt s.2) (hl : s.2.length ≤ 140737488355000) (W : World) (hs : SrcR W p s) : Calls Tryd.prog 82 #[.pointer (some ⟨p, 0, none⟩)] W (RetSR (.int .u8 (Sb.sByte s).1) p (Sb.sByte s).2 W) := by
  have HN := Lib.hid (rnum_val p 1 (.inl rfl) s hb hl W hs)
  obtain ⟨e1, e2, e3⟩ := be_one hb
  have HW := Lib.hid (show (Sb.be (Sb.sTake 1 s).1) % 256 = (Sb.sByte s).1 by rw [e1]; omega)
  go_enter Tryd.func82, Tryd.ntmps82
  go_wp2_with fail
  refine HN.out.mono ?_
  rintro e w1 ⟨rfl, h1, h2⟩
  dsimp only
  go_wp2_with fail
  go_ret
  exact ⟨by first | rfl | (rw [HW.out]; rfl), h1, h2⟩
set_option maxHeartbeats 2000000 in
theorem rint_val (p : Nat) (s : Sb.Src) (hb : Byt s.2) (hl : s.2.length ≤ 140737488355000) (W : World) (hs : SrcR W p s) : Calls Tryd.prog 83 #[.pointer (some ⟨p, 0, none⟩), .bool false] W (RetSR (.int .i64 (Sb.sInt s).1) p (Sb.sInt s).2 W) := by
  have HN := Lib.hid (rnum_val p 8 (.inr rfl) s hb hl W hs)
  obtain ⟨e1, e2⟩ := be_eight hb
  have HW := Lib.hid (show wrap64 (Sb.be (Sb.sTake 8 s).1) = (Sb.sInt s).1 by unfold Sb.sInt Sb.i64of wrap64; dsimp only; split <;> omega)
  go_enter Tryd.func83, Tryd.ntmps83
  go_wp2_with fail
  refine HN.out.mono ?_
  rintro e w1 ⟨rfl, h1, h2⟩
  dsimp only
  go_wp2_with fail
  go_ret
  exact ⟨by first | rfl | (rw [HW.out]; rfl), h1, h2⟩
set_option maxHeartbeats 2000000 in
theorem rend_val (p : Nat) (s : Sb.Src) (W : World) (hs : SrcR W p s) : Calls Tryd.prog 85 #[.pointer (some ⟨p, 0, none⟩)] W (Same1 (.int .i64 (endOf s)) W) := by
  obtain ⟨er, l⟩ := s
  obtain ⟨v, ⟨h, hq1⟩, A, c, rfl, hc, hC⟩ := hs
  have c1 : W.cell? ⟨p, 1, none⟩ = some (.int .i64 er) := by rw [Lib.cell_of_heap h]; rfl
  have c0 : W.cell? ⟨p, 0, none⟩ = some (.slice A l.length c) := by rw [Lib.cell_of_heap h]; rfl
  clear h hC hc
  by_cases he : er = 0
  · cases l with
    | nil =>
      have HV := Lib.hid (show endOf (er, []) = 0 by unfold endOf; rw [if_pos he, if_pos rfl])
      subst he
      have c0 : W.cell? ⟨p, 0, none⟩ = some (.slice A 0 c) := c0
      go_enter Tryd.func85, Tryd.ntmps85
      go_wp2_with fail
      go_ret
      exact ⟨by first | rfl | (rw [HV.out]; rfl), rfl⟩
    | cons x r =>
      have HV := Lib.hid (show endOf (er, x :: r) = 9 by unfold endOf; rw [if_pos he, if_neg (by simp)])
      subst he
      have hp : (0 : Int) < ((x :: r).length : Int) := by simp only [List.length_cons]; omega
      generalize (x :: r).length = M at c0 hp
      go_enter Tryd.func85, Tryd.ntmps85
      go_wp2_with fail
      go_ret
      exact ⟨by first | rfl | (rw [HV.out]; rfl), rfl⟩
  · have HV := Lib.hid (show endOf (er, l) = er by unfold endOf; rw [if_neg he])
    go_enter Tryd.func85, Tryd.ntmps85
    go_wp2_with fail
    go_ret
    exact ⟨by first | rfl | (rw [HV.out]; rfl), rfl⟩
set_option maxHeartbeats 2000000 in
theorem rread_val (v : Value) (l : List Int) (W : World) (hv : SlB W v l) (hl : l.length ≤ 140737488355000) :
    Calls Tryd.prog 80 #[v] W (fun e w' => ∃ p, e = .returned (.pointer (some ⟨p, 0, none⟩)) ∧ W.heap.size ≤ p ∧ SrcR w' p (0, l) ∧ Below W.heap.size W w') := by
  obtain ⟨A, c, rfl, hc, hC⟩ := hv
  have HC := Lib.hid hC; clear hC
  go_enter Tryd.func80, Tryd.ntmps80
  go_wp2_with (at_builtin; refine wpList_app (by rfl) _ _ (by rfl) (by rfl) (by rfl) (row_empty (base := W.heap.size) (Nat.le_refl _)) (by rfl) (Kd.C_alloc HC.out _) (by simp; omega) (by simp) ?_)
  intro v1 w1 hr hb _
  have HB := Lib.hid (show Below W.heap.size W w1 from ((Below.refl W.heap.size W).alloc (Nat.le_refl _) _).trans hb)
  have hsl := slb_row hr (by omega)
  have HLT := Lib.hid (vlt_row hr)
  obtain ⟨A1, c1, rfl, hc1, hC1⟩ := hsl
  have HC1 := Lib.hid hC1
  clear hr hb hC1
  go_wp2_with fail
  go_ret
  exact ⟨w1.heap.size, rfl, HB.out.size, ⟨_, ⟨hp_new _ _ _ rfl, HLT.out⟩, A1, c1, rfl, hc1, Kd.C_alloc HC1.out _⟩, HB.out.alloc HB.out.size _⟩
end Go.Proofs.YtcjidlgmbjebjaaDoor

namespace Go.Proofs.YtcjidlgmbjebjaaDoor
open Go Go.RowKit Go.Proofs.YtcjidlgmbjebjaaDoorW.PrintWords
def bxL (l : List Int) : Nat → Array Value
  | 0 => #[.bool false, .int .i64 0, .int .i64 0, .int .i64 0, .int .i64 0]
  | 1 => #[.bool false, .int .i64 (nJ l 0), .int .i64 0, .int .i64 0, .int .i64 0]
  | 2 => #[.bool false, .int .i64 (nJ l 0), .int .i64 0, .int .i64 (nJ l 1), .int .i64 0]
  | 3 => #[.bool false, .int .i64 (nJ l 0), .int .i64 (nJ l 2), .int .i64 (nJ l 1), .int .i64 0]
  | _ => #[.bool false, .int .i64 (nJ l 0), .int .i64 (nJ l 2), .int .i64 (nJ l 1), .int .i64 (nJ l 3)]
theorem nobyte_bx {w : World} {a j : Nat} {l : List Int} (h : BlkAt w a (bxL l j) 65) : NoByte w a := by
  refine nobyte_of h fun i x hi => ?_
  unfold bxL at hi
  split at hi
  all_goals
    match i, hi with
    | 0, hi => simp at hi
    | 1, hi => simp at hi
    | 2, hi => simp at hi
    | 3, hi => simp at hi
    | 4, hi => simp at hi
    | i + 5, hi => simp at hi
theorem srcR_set {w : World} {p q i : Nat} {u : Value} {s : Sb.Src} (h : SrcR w p s) (hq : q ≠ p) (hn : NoByte w q) : SrcR (w.setCell ⟨q, i, none⟩ u) p s := by
  obtain ⟨v, ⟨h1, hv⟩, h2⟩ := h
  exact ⟨v, ⟨(Below.heap_setCell _ _ _ _ (by simpa using hq.symm)).trans h1, hv⟩, slb_keep h2 hn ((Keep1.refl q w).set i u)⟩
theorem stJ_small {l : List Int} {k : Nat} (h : l.length ≤ k) : ∀ n, (stJ l n).2.length ≤ k
  | 0 => h
  | n + 1 => take_small (stJ_small h n)
set_option maxHeartbeats 8000000 in
theorem rboxparse_val (v : Value) (l : List Int) (hb : Byt l) (hl : l.length ≤ 32) (W : World) (hv : SlB W v l) : Calls Tryd.prog 84 #[v] W (RetBx l W) := by
  have HV := Lib.hid hv
  obtain ⟨A, c, rfl, hc, hC⟩ := hv
  clear hC
  by_cases h32 : l.length = 32
  case neg =>
    have HN := Lib.hid (boxOf_short h32)
    have hlt : l.length < 32 := by omega
    clear h32 HV
    go_enter Tryd.func84, Tryd.ntmps84
    go_wp2_with fail
    refine bodyPost_ret (v := .tuple #[boxV false 0 0 0 0, .int .i64 8]) (by simp [results, Tryd.results84, go_sem, boxV]) rfl (.inr ⟨8, HN.out, by decide, rfl, by go_grown⟩)
  have HR := Lib.hid (fun w h => rread_val (.slice A l.length c) l w h (by omega))
  have HBO := Lib.hid (boxOf_32 h32)
  have hsm := stJ_small (k := 140737488355000) (l := l) (by omega)
  generalize hM : l.length = M at HV HR h32 hl hc
  subst h32
  go_enter Tryd.func84, Tryd.ntmps84
  go_wp2_with fail
  refine (HR.out _ (slb_alloc HV.out _)).mono ?_
  rintro e w1 ⟨p, rfl, hp, hs, hbl⟩
  have hZ := Lib.hid (blk_alloc (blk_below (show BlkAt (W.alloc (.cells zbL 65)) W.heap.size zbL 65 from hp_new _ _ _ rfl) hbl) (.cells (bxL l 0) 65))
  have hB1 := below_step (show Below W.heap.size W _ from (Below.refl W.heap.size W).alloc (Nat.le_refl _) _) hbl
  have HA0 := Lib.hid (show BlkAt (w1.alloc (.cells (bxL l 0) 65)) w1.heap.size (bxL l 0) 65 from hp_new _ _ _ rfl)
  have HB0 := Lib.hid (hB1.alloc hB1.size (.cells (bxL l 0) 65))
  have hpl := srcR_lt hs
  have HS0 := Lib.hid (srcR_alloc hs (.cells (bxL l 0) 65))
  have hpW : W.heap.size < p := by simp at hp; omega
  have hW1 := hB1.size
  have HI0 := Lib.hid (rint_val p (stJ l 0) (stJ_byt hb 0) (hsm 0) _ HS0.out)
  clear hs hbl hp hB1
  dsimp only
  go_wp2_with fail
  refine HI0.out.mono ?_
  rintro e v1 ⟨rfl, hs1, hk1⟩
  have ha1 : BlkAt v1 w1.heap.size (bxL l 0) 65 := blk_keep HA0.out hk1 (by omega)
  have hz1 : BlkAt v1 W.heap.size zbL 65 := blk_keep hZ.out hk1 (by omega)
  have cz : v1.cell? ⟨w1.heap.size, 1, none⟩ = some (.int .i64 0) := blk_cell ha1 1 _ rfl
  have fz : v1.frozen? ⟨w1.heap.size, 1, none⟩ = false := Lib.frozen_of_heap ha1 1
  have HA1 := Lib.hid (show BlkAt (v1.setCell ⟨w1.heap.size, 1, none⟩ (.int .i64 (nJ l 0))) w1.heap.size (bxL l 1) 65 from heap_setCell_same v1 w1.heap.size 1 _ _ _ ha1)
  have HZ1 := Lib.hid (show BlkAt (v1.setCell ⟨w1.heap.size, 1, none⟩ (.int .i64 (nJ l 0))) W.heap.size zbL 65 from blk_set hz1 (by omega))
  have HB1 := Lib.hid (show Below W.heap.size W (v1.setCell ⟨w1.heap.size, 1, none⟩ (.int .i64 (nJ l 0))) from (hk1.below HB0.out (by omega) HB0.out.size).setCell (by exact hW1) _)
  have HS1 := Lib.hid (show SrcR (v1.setCell ⟨w1.heap.size, 1, none⟩ (.int .i64 (nJ l 0))) p (stJ l 1) from srcR_set hs1 (by omega) (nobyte_bx ha1))
  have HI1 := Lib.hid (rint_val p (stJ l 1) (stJ_byt hb 1) (hsm 1) _ HS1.out)
  clear hs1 hk1 ha1 hz1
  dsimp only
  go_wp2_with fail
  clear cz fz
  refine HI1.out.mono ?_
  rintro e v2 ⟨rfl, hs2, hk2⟩
  have ha2 : BlkAt v2 w1.heap.size (bxL l 1) 65 := blk_keep HA1.out hk2 (by omega)
  have hz2 : BlkAt v2 W.heap.size zbL 65 := blk_keep HZ1.out hk2 (by omega)
  have cz : v2.cell? ⟨w1.heap.size, 3, none⟩ = some (.int .i64 0) := blk_cell ha2 3 _ rfl
  have fz : v2.frozen? ⟨w1.heap.size, 3, none⟩ = false := Lib.frozen_of_heap ha2 3
  have HA2 := Lib.hid (show BlkAt (v2.setCell ⟨w1.heap.size, 3, none⟩ (.int .i64 (nJ l 1))) w1.heap.size (bxL l 2) 65 from heap_setCell_same v2 w1.heap.size 3 _ _ _ ha2)
  have HZ2 := Lib.hid (show BlkAt (v2.setCell ⟨w1.heap.size, 3, none⟩ (.int .i64 (nJ l 1))) W.heap.size zbL 65 from blk_set hz2 (by omega))
  have HB2 := Lib.hid (show Below W.heap.size W (v2.setCell ⟨w1.heap.size, 3, none⟩ (.int .i64 (nJ l 1))) from (hk2.below HB1.out (by omega) HB1.out.size).setCell (by exact hW1) _)
  have HS2 := Lib.hid (show SrcR (v2.setCell ⟨w1.heap.size, 3, none⟩ (.int .i64 (nJ l 1))) p (stJ l 2) from srcR_set hs2 (by omega) (nobyte_bx ha2))
  have HI2 := Lib.hid (rint_val p (stJ l 2) (stJ_byt hb 2) (hsm 2) _ HS2.out)
  clear hs2 hk2 ha2 hz2
  dsimp only
  go_wp2_with fail
  clear cz fz
  refine HI2.out.mono ?_
  rintro e v3 ⟨rfl, hs3, hk3⟩
  have ha3 : BlkAt v3 w1.heap.size (bxL l 2) 65 := blk_keep HA2.out hk3 (by omega)
  have hz3 : BlkAt v3 W.heap.size zbL 65 := blk_keep HZ2.out hk3 (by omega)
  have cz : v3.cell? ⟨w1.heap.size, 2, none⟩ = some (.int .i64 0) := blk_cell ha3 2 _ rfl
  have fz : v3.frozen? ⟨w1.heap.size, 2, none⟩ = false := Lib.frozen_of_heap ha3 2
  have HA3 := Lib.hid (show BlkAt (v3.setCell ⟨w1.heap.size, 2, none⟩ (.int .i64 (nJ l 2))) w1.heap.size (bxL l 3) 65 from heap_setCell_same v3 w1.heap.size 2 _ _ _ ha3)
  have HZ3 := Lib.hid (show BlkAt (v3.setCell ⟨w1.heap.size, 2, none⟩ (.int .i64 (nJ l 2))) W.heap.size zbL 65 from blk_set hz3 (by omega))
  have HB3 := Lib.hid (show Below W.heap.size W (v3.setCell ⟨w1.heap.size, 2, none⟩ (.int .i64 (nJ l 2))) from (hk3.below HB2.out (by omega) HB2.out.size).setCell (by exact hW1) _)
  have HS3 := Lib.hid (show SrcR (v3.setCell ⟨w1.heap.size, 2, none⟩ (.int .i64 (nJ l 2))) p (stJ l 3) from srcR_set hs3 (by omega) (nobyte_bx ha3))
  have HI3 := Lib.hid (rint_val p (stJ l 3) (stJ_byt hb 3) (hsm 3) _ HS3.out)
  clear hs3 hk3 ha3 hz3
  dsimp only
  go_wp2_with fail
  clear cz fz
  refine HI3.out.mono ?_
  rintro e v4 ⟨rfl, hs4, hk4⟩
  have ha4 : BlkAt v4 w1.heap.size (bxL l 3) 65 := blk_keep HA3.out hk4 (by omega)
  have hz4 : BlkAt v4 W.heap.size zbL 65 := blk_keep HZ3.out hk4 (by omega)
  have cz : v4.cell? ⟨w1.heap.size, 4, none⟩ = some (.int .i64 0) := blk_cell ha4 4 _ rfl
  have fz : v4.frozen? ⟨w1.heap.size, 4, none⟩ = false := Lib.frozen_of_heap ha4 4
  have HA4 := Lib.hid (show BlkAt (v4.setCell ⟨w1.heap.size, 4, none⟩ (.int .i64 (nJ l 3))) w1.heap.size (bxL l 4) 65 from heap_setCell_same v4 w1.heap.size 4 _ _ _ ha4)
  have HZ4 := Lib.hid (show BlkAt (v4.setCell ⟨w1.heap.size, 4, none⟩ (.int .i64 (nJ l 3))) W.heap.size zbL 65 from blk_set hz4 (by omega))
  have HB4 := Lib.hid (show Below W.heap.size W (v4.setCell ⟨w1.heap.size, 4, none⟩ (.int .i64 (nJ l 3))) from (hk4.below HB3.out (by omega) HB3.out.size).setCell (by exact hW1) _)
  have HS4 := Lib.hid (show SrcR (v4.setCell ⟨w1.heap.size, 4, none⟩ (.int .i64 (nJ l 3))) p (stJ l 4) from srcR_set hs4 (by omega) (nobyte_bx ha4))
  have u0 : v4.cell? ⟨w1.heap.size, 0, none⟩ = some (.bool false) := blk_cell ha4 0 _ rfl
  have u1 : v4.cell? ⟨w1.heap.size, 1, none⟩ = some (.int .i64 (nJ l 0)) := blk_cell ha4 1 _ rfl
  have u2 : v4.cell? ⟨w1.heap.size, 2, none⟩ = some (.int .i64 (nJ l 2)) := blk_cell ha4 2 _ rfl
  have u3 : v4.cell? ⟨w1.heap.size, 3, none⟩ = some (.int .i64 (nJ l 1)) := blk_cell ha4 3 _ rfl
  clear hs4 hk4 ha4 hz4
  dsimp only
  have HG := Lib.hid (fun w => rboxgood_val false (nJ l 0) (nJ l 2) (nJ l 1) (nJ l 3) w)
  unfold boxV at HG
  by_cases hgd : nJ l 0 ≤ nJ l 1 ∧ nJ l 2 ≤ nJ l 3
  · have hgb : boxG false (nJ l 0) (nJ l 2) (nJ l 1) (nJ l 3) = true := by
      unfold boxG
      rw [if_neg (by simp)]
      rw [decide_eq_true hgd.1, decide_eq_true hgd.2]; rfl
    rw [hgb] at HG
    rw [if_pos hgd] at HBO
    clear hgd hgb
    go_wp2_with fail
    refine (HG.out _).mono ?_
    rintro e w3 ⟨rfl, hb3⟩
    have hz3 : BlkAt w3 W.heap.size zbL 65 := blk_below HZ4.out hb3
    have hg3 : BlkAt w3 w1.heap.size (bxL l 4) 65 := blk_below HA4.out hb3
    have hB3 := below_step HB4.out hb3
    have z0 : w3.cell? ⟨W.heap.size, 0, none⟩ = some (.bool false) := blk_cell hz3 0 _ rfl
    have y0 : w3.frozen? ⟨W.heap.size, 0, none⟩ = false := Lib.frozen_of_heap hz3 0
    have z1 : w3.cell? ⟨W.heap.size, 1, none⟩ = some (.int .i64 0) := blk_cell hz3 1 _ rfl
    have y1 : w3.frozen? ⟨W.heap.size, 1, none⟩ = false := Lib.frozen_of_heap hz3 1
    have z2 : w3.cell? ⟨W.heap.size, 2, none⟩ = some (.int .i64 0) := blk_cell hz3 2 _ rfl
    have y2 : w3.frozen? ⟨W.heap.size, 2, none⟩ = false := Lib.frozen_of_heap hz3 2
    have z3 : w3.cell? ⟨W.heap.size, 3, none⟩ = some (.int .i64 0) := blk_cell hz3 3 _ rfl
    have y3 : w3.frozen? ⟨W.heap.size, 3, none⟩ = false := Lib.frozen_of_heap hz3 3
    have z4 : w3.cell? ⟨W.heap.size, 4, none⟩ = some (.int .i64 0) := blk_cell hz3 4 _ rfl
    have y4 : w3.frozen? ⟨W.heap.size, 4, none⟩ = false := Lib.frozen_of_heap hz3 4
    have g0 : w3.cell? ⟨w1.heap.size, 0, none⟩ = some (.bool false) := blk_cell hg3 0 _ rfl
    have g1 : w3.cell? ⟨w1.heap.size, 1, none⟩ = some (.int .i64 (nJ l 0)) := blk_cell hg3 1 _ rfl
    have g2 : w3.cell? ⟨w1.heap.size, 2, none⟩ = some (.int .i64 (nJ l 2)) := blk_cell hg3 2 _ rfl
    have g3 : w3.cell? ⟨w1.heap.size, 3, none⟩ = some (.int .i64 (nJ l 1)) := blk_cell hg3 3 _ rfl
    have g4 : w3.cell? ⟨w1.heap.size, 4, none⟩ = some (.int .i64 (nJ l 3)) := blk_cell hg3 4 _ rfl
    clear hb3 hz3 hg3
    dsimp only
    go_wp2_with fail
    refine bodyPost_ret (v := .tuple #[boxV false (nJ l 0) (nJ l 2) (nJ l 1) (nJ l 3), .int .i64 0]) (by simp [results, Tryd.results84, go_sem, boxV, z0, z1, z2, z3, z4]) rfl (.inl ⟨_, _, _, _, HBO.out, rfl, ((((hB3.setCell ?_ _).setCell ?_ _).setCell ?_ _).setCell ?_ _).setCell ?_ _⟩)
    all_goals exact Nat.le_refl _
  · have hgb : boxG false (nJ l 0) (nJ l 2) (nJ l 1) (nJ l 3) = false := by
      unfold boxG
      rw [if_neg (by simp)]
      by_cases h1 : nJ l 0 ≤ nJ l 1
      · rw [decide_eq_true h1, decide_eq_false (fun h2 => hgd ⟨h1, h2⟩)]; rfl
      · rw [decide_eq_false h1]; rfl
    rw [hgb] at HG
    rw [if_neg hgd] at HBO
    clear hgd hgb
    go_wp2_with fail
    refine (HG.out _).mono ?_
    rintro e w3 ⟨rfl, hb3⟩
    have hz3 : BlkAt w3 W.heap.size zbL 65 := blk_below HZ4.out hb3
    have hg3 : BlkAt w3 w1.heap.size (bxL l 4) 65 := blk_below HA4.out hb3
    have hB3 := below_step HB4.out hb3
    have z0 : w3.cell? ⟨W.heap.size, 0, none⟩ = some (.bool false) := blk_cell hz3 0 _ rfl
    have y0 : w3.frozen? ⟨W.heap.size, 0, none⟩ = false := Lib.frozen_of_heap hz3 0
    have z1 : w3.cell? ⟨W.heap.size, 1, none⟩ = some (.int .i64 0) := blk_cell hz3 1 _ rfl
    have y1 : w3.frozen? ⟨W.heap.size, 1, none⟩ = false := Lib.frozen_of_heap hz3 1
    have z2 : w3.cell? ⟨W.heap.size, 2, none⟩ = some (.int .i64 0) := blk_cell hz3 2 _ rfl
    have y2 : w3.frozen? ⟨W.heap.size, 2, none⟩ = false := Lib.frozen_of_heap hz3 2
    have z3 : w3.cell? ⟨W.heap.size, 3, none⟩ = some (.int .i64 0) := blk_cell hz3 3 _ rfl
    have y3 : w3.frozen? ⟨W.heap.size, 3, none⟩ = false := Lib.frozen_of_heap hz3 3
    have z4 : w3.cell? ⟨W.heap.size, 4, none⟩ = some (.int .i64 0) := blk_cell hz3 4 _ rfl
    have y4 : w3.frozen? ⟨W.heap.size, 4, none⟩ = false := Lib.frozen_of_heap hz3 4
    have g0 : w3.cell? ⟨w1.heap.size, 0, none⟩ = some (.bool false) := blk_cell hg3 0 _ rfl
    have g1 : w3.cell? ⟨w1.heap.size, 1, none⟩ = some (.int .i64 (nJ l 0)) := blk_cell hg3 1 _ rfl
    have g2 : w3.cell? ⟨w1.heap.size, 2, none⟩ = some (.int .i64 (nJ l 2)) := blk_cell hg3 2 _ rfl
    have g3 : w3.cell? ⟨w1.heap.size, 3, none⟩ = some (.int .i64 (nJ l 1)) := blk_cell hg3 3 _ rfl
    have g4 : w3.cell? ⟨w1.heap.size, 4, none⟩ = some (.int .i64 (nJ l 3)) := blk_cell hg3 4 _ rfl
    clear hb3 hz3 hg3
    dsimp only
    go_wp2_with fail
    refine bodyPost_ret (v := .tuple #[boxV false 0 0 0 0, .int .i64 9]) (by simp [results, Tryd.results84, go_sem, boxV, z0, z1, z2, z3, z4]) rfl (.inr ⟨9, HBO.out, by decide, rfl, ((((hB3.setCell ?_ _).setCell ?_ _).setCell ?_ _).setCell ?_ _).setCell ?_ _⟩)
    all_goals exact Nat.le_refl _
end Go.Proofs.YtcjidlgmbjebjaaDoor

namespace Go.Proofs.YtcjidlgmbjebjaaDoor
open Go Go.RowKit Go.Proofs.YtcjidlgmbjebjaaDoorW.PrintWords
/-- How Parse stands: its source, its entry, its result, the columns' own row. -/
structure PT (W : World) (R p E B : Nat) (s : Sb.Src) (e : Ent) (v : Value) (w : World) : Prop where
  src : SrcR w p s
  eb : BlkAt w E (entL e v) 72
  rb : BlkAt w R (entL zeroE nilS) 72
  own : w.ownsRow B 94 3 v e.cs.length (flat e.cs)
  bel : Below W.heap.size W w
  le : B ≤ w.heap.size
/-- The blocks' numbers. -/
structure PM (W : World) (R p E B : Nat) : Prop where
  hR : W.heap.size ≤ R
  hp : W.heap.size ≤ p
  hE : W.heap.size ≤ E
  hB : W.heap.size ≤ B
  pE : p ≠ E
  pR : p ≠ R
  RE : R ≠ E
  lp : p < B
  lE : E < B
  lR : R < B
theorem srcR_grown {w w' : World} {p B : Nat} {s : Sb.Src} {row : Option Nat} (h : SrcR w p s) (hg : w.grownBy w' row) (hr : ∀ k, row = some k → B ≤ k) (hp : p < B) (hB : B ≤ w.heap.size) : SrcR w' p s := by
  have hl := srcR_lt h
  obtain ⟨v, ⟨h1, hv⟩, A, c, rfl, hc, hC⟩ := h
  refine ⟨_, ⟨(hg.block p hl (fun e => by have := hr p e.symm; omega)).trans h1, hv⟩, A, c, rfl, hc, kC_mk hC.2.1 fun hpos => ?_⟩
  obtain ⟨ad, rfl, hcell⟩ := kC_at hC hpos
  have hlt := hv ad _ _ rfl
  refine ⟨ad, rfl, fun j x hx => ?_⟩
  have hb : (ad.add j).block = ad.block := by unfold Addr.add; split <;> rfl
  have := hcell j x hx
  unfold World.cell? at this ⊢
  rw [hg.block _ (by rw [hb]; omega) (fun e => by have := hr _ e.symm; rw [hb] at this; omega)]
  exact this
section
variable {W w w' : World} {R p E B : Nat} {s s' : Sb.Src} {e e' : Ent} {v v' : Value}
theorem PT.op (n : PM W R p E B) (h : PT W R p E B s e v w) (hs : SrcR w' p s') (hk : Keep1 p w w') : PT W R p E B s' e v w' :=
  ⟨hs, blk_keep h.eb hk n.pE.symm, blk_keep h.rb hk n.pR.symm, h.own.kept (keep_grown hk) (by
    cases hv : v.ownBlock with
    | none => exact .inl rfl
    | some k => exact .inr fun e => by have := h.own.lt k hv; injection e with e; have := n.lp; omega), hk.below h.bel n.hp (Nat.le_trans n.hB h.le), Nat.le_trans h.le hk.size⟩
theorem PT.below (n : PM W R p E B) (h : PT W R p E B s e v w) (hb : Below w.heap.size w w') : PT W R p E B s e v w' :=
  ⟨srcR_below h.src hb, blk_below h.eb hb, blk_below h.rb hb, own_below h.own hb, below_step h.bel hb, Nat.le_trans h.le hb.size⟩
theorem PT.alloc (n : PM W R p E B) (h : PT W R p E B s e v w) (o : Obj) : PT W R p E B s e v (w.alloc o) := h.below n ((Below.refl _ _).alloc (Nat.le_refl _) o)
theorem PT.nobyte (h : PT W R p E B s e v w) : NoByte w E := by
  obtain ⟨A, c, rfl⟩ := own_shape h.own
  exact nobyte_ent h.eb
/-- A store into the entry that leaves its columns. -/
theorem PT.set (n : PM W R p E B) (h : PT W R p E B s e v w) (i : Nat) (u : Value) (he : (entL e v).setIfInBounds i u = entL e' v) (hc : e'.cs = e.cs) : PT W R p E B s e' v (w.setCell ⟨E, i, none⟩ u) := by
  refine ⟨srcR_set h.src n.pE.symm h.nobyte, ?_, blk_set h.rb n.RE, ?_, h.bel.setCell n.hE _, by simp [World.setCell]; exact h.le⟩
  · have := heap_setCell_same w E i _ _ u h.eb
    rw [he] at this
    exact this
  · rw [hc]
    exact own_set h.own E i u n.lE
theorem PT.put (n : PM W R p E B) (h : PT W R p E B s e v w) (c i : Nat) (u : Value) (hc : B ≤ c) (hv : v.ownBlock ≠ some c) (hnb : NoByte w c) : PT W R p E B s e v (w.setCell ⟨c, i, none⟩ u) := by
  have := n.lp; have := n.lE; have := n.lR
  exact ⟨srcR_set h.src (by omega) hnb, blk_set h.eb (by omega), blk_set h.rb (by omega),
    h.own.kept (row := some c) ⟨rfl, rfl, rfl, by simp [World.setCell], fun k _ hk => heap_setCell_other _ _ _ _ (fun e => hk (by simp [e]))⟩ (.inr hv), h.bel.setCell (Nat.le_trans n.hB hc) _, by simp [World.setCell]; exact h.le⟩
/-- The columns' new row. -/
theorem PT.cols (n : PM W R p E B) (h : PT W R p E B s e v w) (c : Col) (hg : w.grownBy w' v.ownBlock) (ho : w'.ownsRow B 94 3 v' (e.cs.length + 1) (flat e.cs ++ [.string c.1, .int .i64 c.2.1, .bool c.2.2])) :
    PT W R p E B s { e with cs := e.cs ++ [c] } v' (w'.setCell ⟨E, 3, none⟩ v') := by
  have hno : ∀ k, k < B → some k ≠ v.ownBlock := fun k hk e => by have := h.own.lt k e.symm; omega
  have hst : ∀ {b : Nat} {cs : Array Value} {T : Nat}, BlkAt w b cs T → b < B → BlkAt w' b cs T := fun hb hl => (hg.block _ (blk_lt hb) (hno _ hl)).trans hb
  obtain ⟨A', c', hv'⟩ := own_shape ho
  have hnb : NoByte w' E := by
    have h1 := hst h.eb n.lE
    obtain ⟨A, c, hv⟩ := own_shape h.own
    rw [hv] at h1
    exact nobyte_ent h1
  have hlen : (e.cs ++ [c]).length = e.cs.length + 1 := by simp
  refine ⟨srcR_set (srcR_grown h.src hg (fun k hk => (h.own.lt k hk).1) n.lp h.le) n.pE.symm hnb, ?_, blk_set (hst h.rb n.lR) n.RE, ?_, (h.bel.grown hg (Nat.le_trans n.hB h.le) (fun k hk => Nat.le_trans n.hB (h.own.lt k hk).1)).setCell n.hE _, by simp [World.setCell]; exact Nat.le_trans h.le hg.size⟩
  · exact heap_setCell_same w' E 3 _ _ v' (hst h.eb n.lE)
  · rw [show ({ e with cs := e.cs ++ [c] } : Ent).cs = e.cs ++ [c] from rfl, hlen, flat_snoc]
    exact own_set ho E 3 v' n.lE
end
end Go.Proofs.YtcjidlgmbjebjaaDoor

namespace Go.Proofs.YtcjidlgmbjebjaaDoor
open Go Go.RowKit Go.Proofs.YtcjidlgmbjebjaaDoorW.PrintWords
theorem rsbytes_agg (en : Ent) (va : Option Addr) (vc : Nat) (lb : List Int) (hlb : Sb.entB okE en = lb) (h1 : en.nm.size ≤ 255) (h2 : ∀ c ∈ en.cs, c.1.size ≤ 255) (w : World) (hv : ColsV w (.slice va en.cs.length vc) en.cs) :
    Calls Tryd.prog 41 #[.agg #[.string en.nm, .int .i64 en.kd, .int .i64 en.srs, .slice va en.cs.length vc, .int .i64 en.id, .int .i64 en.tb, .int .i64 en.t0, .int .i64 en.t1, .int .i64 en.t2, .int .i64 en.ct, .int .i64 en.nx, .bool en.bn, .int .i64 en.lx, .int .i64 en.ly, .int .i64 en.hx, .int .i64 en.hy]] w (RetRow lb w) := by
  subst hlb
  exact rsbytes_row en (.slice va en.cs.length vc) w ⟨by omega, fun c hc => by have := h2 c hc; omega⟩ hv
end Go.Proofs.YtcjidlgmbjebjaaDoor
