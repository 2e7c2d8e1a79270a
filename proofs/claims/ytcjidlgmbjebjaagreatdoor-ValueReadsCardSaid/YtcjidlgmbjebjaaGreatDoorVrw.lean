/- A part of the proof of ValueReads. -/
import Derived.Test.YtcjidlgmbjebjaaGreatDoorVrp
import Derived.Test.YtcjidlgmbjebjaaGreatDoorVrn
import Derived.Test.YtcjidlgmbjebjaaGreatDoorVrq
import Derived.Test.YtcjidlgmbjebjaaGreatDoorVrv
import Derived.Test.YtcjidlgmbjebjaaGreatDoorVrh
import Derived.Test.YtcjidlgmbjebjaaGreatDoorVrs
set_option linter.unusedVariables false
set_option linter.unusedSimpArgs false
set_option maxRecDepth 100000
namespace Go.Proofs.YtcjidlgmbjebjaaGreatDoor
open Go Go.RowKit Go.Proofs.YtcjidlgmbjebjaaGreatDoorW.PrintWords
theorem wu1 : IntKind.u64.wrap 7 = 7 := by kernel_rfl
theorem wu2 : IntKind.u64.wrap 14 = 14 := by kernel_rfl
theorem wu3 : IntKind.u64.wrap 21 = 21 := by kernel_rfl
theorem wu4 : IntKind.u64.wrap 28 = 28 := by kernel_rfl
theorem wu5 : IntKind.u64.wrap 35 = 35 := by kernel_rfl
theorem wu6 : IntKind.u64.wrap 42 = 42 := by kernel_rfl
theorem wu7 : IntKind.u64.wrap 49 = 49 := by kernel_rfl
theorem rsize_all (n : Int) (h0 : 0 ≤ n) : PValueForms.hachureref02_Size.f 9 n = some (Sb.sizeV n : Int) := by
  unfold PValueForms.hachureref02_Size.f Sb.sizeV
  rw [PValueForms.hachureref02_Size.l0, if_pos (by decide), if_pos (by decide), zw1, if_pos (by decide), wu1, szs1]
  by_cases h1 : n < 128
  · rw [if_neg (by omega), if_neg (by decide), if_pos h1]; rfl
  rw [if_pos (by omega), if_neg h1, zi1, PValueForms.hachureref02_Size.l0, if_pos (by decide), if_pos (by decide), zw2, if_pos (by decide), wu2, szs2]
  by_cases h2 : n < 16384
  · rw [if_neg (by omega), if_neg (by decide), if_pos h2]; rfl
  rw [if_pos (by omega), if_neg h2, zi2, PValueForms.hachureref02_Size.l0, if_pos (by decide), if_pos (by decide), zw3, if_pos (by decide), wu3, szs3]
  by_cases h3 : n < 2097152
  · rw [if_neg (by omega), if_neg (by decide), if_pos h3]; rfl
  rw [if_pos (by omega), if_neg h3, zi3, PValueForms.hachureref02_Size.l0, if_pos (by decide), if_pos (by decide), zw4, if_pos (by decide), wu4, szs4]
  by_cases h4 : n < 268435456
  · rw [if_neg (by omega), if_neg (by decide), if_pos h4]; rfl
  rw [if_pos (by omega), if_neg h4, zi4, PValueForms.hachureref02_Size.l0, if_pos (by decide), if_pos (by decide), zw5, if_pos (by decide), wu5, szs5]
  by_cases h5 : n < 34359738368
  · rw [if_neg (by omega), if_neg (by decide), if_pos h5]; rfl
  rw [if_pos (by omega), if_neg h5, zi5, PValueForms.hachureref02_Size.l0, if_pos (by decide), if_pos (by decide), zw6, if_pos (by decide), wu6, szs6]
  by_cases h6 : n < 4398046511104
  · rw [if_neg (by omega), if_neg (by decide), if_pos h6]; rfl
  rw [if_pos (by omega), if_neg h6, zi6, PValueForms.hachureref02_Size.l0, if_pos (by decide), if_pos (by decide), zw7, if_pos (by decide), wu7, szs7]
  by_cases h7 : n < 562949953421312
  · rw [if_neg (by omega), if_neg (by decide), if_pos h7]; rfl
  rw [if_pos (by omega), if_neg h7, zi7, PValueForms.hachureref02_Size.l0, if_pos (by decide), if_neg (by decide), if_pos (by decide)]
  by_cases h8 : n < 72057594037927936
  · rw [if_neg (by omega), if_pos h8]; rfl
  rw [if_pos (by omega), if_neg h8, zi8, PValueForms.hachureref02_Size.l0, if_neg (by decide)]; rfl
theorem rsize_val (n : Int) (h0 : 0 ≤ n) (w : World) : Calls Tryz.prog 150 #[.int .u64 n] w (RetS (.int .i64 (Sb.sizeV n : Nat)) w) :=
  (PValueForms.hachureref02_Size.calls 9 n _ w (rsize_all n h0)).mono fun e w' h => ⟨h.1, by first | exact h.2 | exact drawn_below h.2⟩
theorem and127b (x : Int) (h0 : 0 ≤ x) (h1 : x < 256) : bits .and .u8 x 127 = x % 128 := by
  have h : ∀ k : Fin 256, bits .and .u8 (k.val : Int) 127 = (k.val : Int) % 128 := by decide
  have := h ⟨x.toNat, by omega⟩
  rwa [show ((⟨x.toNat, by omega⟩ : Fin 256).val : Int) = x by simp; omega] at this
def RkR (l : List Int) (w : World) (a i : Value) (w' : World) : Prop :=
  ∃ (n : Int) (j : Nat), a = .int .u64 n ∧ i = .int .i64 j ∧ j ≤ l.length ∧ j ≤ 8 ∧ 0 ≤ n ∧ n < 128 ^ j ∧ Sb.tk j n (l.drop j) = Sb.takeV l ∧ Below w.heap.size w w'
set_option maxHeartbeats 1000000 in
theorem rtake_val (A : Option Addr) (c : Nat) (l : List Int) (W : World) (h : SlB W (.slice A l.length c) l) (hb : Byt l) : Calls Tryz.prog 106 #[.slice A l.length c] W (RetS (.tuple #[.int .u64 (Sb.takeV l).1, .int .i64 ((Sb.takeV l).2 : Nat)]) W) := by
  obtain ⟨A', c', e, hc, hC⟩ := h
  injection e with e1 e2 e3
  subst e1 e3
  have HC := Lib.hid hC
  have HB := Lib.hid hb
  clear hC hb
  have hlm : l.length ≤ 9223372036854775807 := HC.out.2.1
  go_enter Tryz.func106, Tryz.ntmps106
  go_wp2_with fail
  go_loopw [4, 5] (fun a i w' => RkR l W a i w') (fun _ i _ => 9 - (intOf i).toNat)
  case atStart => exact ⟨0, 0, rfl, rfl, by omega, by omega, by omega, by decide, by rw [List.drop_zero]; rfl, Below.refl _ _⟩
  case round =>
    obtain ⟨n, j, rfl, rfl, hj, hj8, hn0, hn1, htk, hBr⟩ := hrel
    by_cases hp : j < l.length
    · obtain ⟨ad, rfl, hcell⟩ := kC_at HC.out (by omega)
      have hlt : j < l.length := hp
      have hji9 : (j : Int) < 9 := by omega
      have hx := kC_below_cell hBr (hcell j l[j] (List.getElem?_eq_getElem hlt))
      have hdr : l.drop j = l[j] :: l.drop (j + 1) := List.drop_eq_getElem_cons hlt
      have hcb := HB.out l[j] (List.getElem_mem hlt)
      rw [hdr, tk_step] at htk
      generalize l[j] = x at hx hcb htk
      have hji : (0 : Int) ≤ (j : Int) := by omega
      have hjm : (j : Int) < (l.length : Int) := by omega
      by_cases h8 : j = 8
      · have hor := or256 n x hn0 (by
          have h9 : (128 : Int) ^ 8 = 72057594037927936 := by decide
          rw [h8, h9] at hn1
          exact hn1) hcb.1 hcb.2
        rw [wrapU64' x hcb.1 (by omega)] at hor
        rw [if_pos (.inl h8)] at htk
        have hN : Sb.tkN j n x = n * 256 + x := by unfold Sb.tkN; rw [if_pos h8]
        have hj8' : ((j : Int) == 8) = true := by rw [beq_iff_eq]; omega
        have hwj : wrap64 ((j : Int) + 1) = ((j + 1 : Nat) : Int) := by unfold wrap64; omega
        rw [hN] at htk
        generalize hNN : n * 256 + x = N at hor htk
        have hN0 : 0 ≤ N := by omega
        clear hNN hN
        have HSZ := Lib.hid (fun w => rsize_val N hN0 w)
        by_cases hs : Sb.sizeV N = j + 1
        · rw [if_pos hs] at htk
          rw [hs] at HSZ
          have HF := Lib.hid htk
          clear htk hs h8
          go_wp2_with fail
          (with_reducible refine Calls.mono (HSZ.out _) ?_)
          rintro _ w1 ⟨rfl, hb1⟩
          have hB1 := below_step hBr hb1
          clear hb1
          dsimp only
          go_wp2_with fail
          go_ret2
          exact ⟨by rw [← HF.out]; rfl, hB1⟩
        · rw [if_neg hs] at htk
          have HF := Lib.hid htk
          have hne : (((Sb.sizeV N : Nat) : Int) != ((j + 1 : Nat) : Int)) = true := by rw [bne_iff_ne]; omega
          clear htk hs h8
          go_wp2_with fail
          (with_reducible refine Calls.mono (HSZ.out _) ?_)
          rintro _ w1 ⟨rfl, hb1⟩
          have hB1 := below_step hBr hb1
          clear hb1
          dsimp only
          go_wp2_with fail
          go_ret2
          exact ⟨by rw [← HF.out]; rfl, hB1⟩
      · obtain ⟨q0, q1, q2⟩ := tk_bound (c := x) (show j < 8 by omega) hn0 hn1
        have hor := or128j n (x % 128) hn0 q2 (by omega) (by omega)
        rw [wrapU64' (x % 128) (by omega) (by omega)] at hor
        have han := and127b x hcb.1 hcb.2
        have hN : Sb.tkN j n x = n * 128 + x % 128 := by unfold Sb.tkN; rw [if_neg h8]
        rw [hN] at htk
        have hj8' : ((j : Int) == 8) = false := by rw [beq_eq_false_iff_ne]; omega
        have hwj : wrap64 ((j : Int) + 1) = ((j + 1 : Nat) : Int) := by unfold wrap64; omega
        generalize n * 128 + x % 128 = N at hor htk q0 q1
        have HSZ := Lib.hid (fun w => rsize_val N q0 w)
        have Q1 := Lib.hid q1
        clear hN q1 hn1 q2
        by_cases hx128 : x < 128
        · rw [if_pos (.inr hx128)] at htk
          by_cases hs : Sb.sizeV N = j + 1
          · rw [if_pos hs] at htk
            rw [hs] at HSZ
            have HF := Lib.hid htk
            clear htk hs
            go_wp2_with fail
            (with_reducible refine Calls.mono (HSZ.out _) ?_)
            rintro _ w1 ⟨rfl, hb1⟩
            have hB1 := below_step hBr hb1
            clear hb1
            dsimp only
            go_wp2_with fail
            go_ret2
            exact ⟨by rw [← HF.out]; rfl, hB1⟩
          · rw [if_neg hs] at htk
            have HF := Lib.hid htk
            have hne : (((Sb.sizeV N : Nat) : Int) != ((j + 1 : Nat) : Int)) = true := by rw [bne_iff_ne]; omega
            clear htk hs
            go_wp2_with fail
            (with_reducible refine Calls.mono (HSZ.out _) ?_)
            rintro _ w1 ⟨rfl, hb1⟩
            have hB1 := below_step hBr hb1
            clear hb1
            dsimp only
            go_wp2_with fail
            go_ret2
            exact ⟨by rw [← HF.out]; rfl, hB1⟩
        · rw [if_neg (by omega)] at htk
          have HREL := Lib.hid (show RkR l W (.int .u64 N) (.int .i64 ((j + 1 : Nat) : Int)) wr from ⟨N, j + 1, rfl, rfl, by omega, by omega, q0, Q1.out, htk, hBr⟩)
          clear htk
          go_wp2_with fail
          exact ⟨HREL.out, by simp [intOf]; omega⟩
    · obtain rfl : j = l.length := by omega
      have hend : Sb.takeV l = (0, 0) := by rw [← htk, List.drop_length]; rfl
      have HF := Lib.hid hend
      have hji9 : ((l.length : Nat) : Int) < 9 := by omega
      clear htk
      go_wp2_with fail
      go_ret2
      exact ⟨by rw [HF.out]; rfl, hBr⟩
end Go.Proofs.YtcjidlgmbjebjaaGreatDoor

namespace Go.Proofs.YtcjidlgmbjebjaaGreatDoor
open Go Go.RowKit Go.Proofs.YtcjidlgmbjebjaaGreatDoorW.PrintWords
def SrcR (w : World) (p : Nat) (s : Sb.Src) : Prop := ∃ v, (w.heap[p]? = some (.cells #[v, .int .i64 s.1] 57 (0, 0)) ∧ VLt v p) ∧ SlB w v s.2
theorem srcR_lt {w : World} {p : Nat} {s : Sb.Src} (h : SrcR w p s) : p < w.heap.size := by obtain ⟨v, ⟨h, _⟩, _⟩ := h; exact (Array.getElem?_eq_some_iff.1 h).1
theorem srcR_nobyte {w : World} {p : Nat} {s : Sb.Src} (h : SrcR w p s) : NoByte w p := by
  obtain ⟨v, ⟨h, _⟩, A, c, rfl, _⟩ := h
  refine nobyte_of h fun i x hi => ?_
  match i, hi with
  | 0, hi => simp at hi
  | 1, hi => simp at hi
  | i + 2, hi => simp at hi
theorem srcR_below {w w' : World} {p : Nat} {s : Sb.Src} (h : SrcR w p s) (hb : Below w.heap.size w w') : SrcR w' p s := by
  have hl := srcR_lt h
  obtain ⟨v, ⟨h1, hv⟩, h2⟩ := h
  exact ⟨v, ⟨(hb.block p hl).trans h1, hv⟩, slb_below h2 hb⟩
def RetSR (v : Value) (p : Nat) (s : Sb.Src) (W : World) (e : Ending) (w' : World) : Prop := e = .returned v ∧ SrcR w' p s ∧ Keep1 p W w'
def RetBR (p n : Nat) (s : Sb.Src) (W : World) (e : Ending) (w' : World) : Prop := ∃ A m c, e = .returned (.slice A m c) ∧ m = (Sb.sTake n s).1.length ∧ SlB w' (.slice A m c) (Sb.sTake n s).1 ∧ SrcR w' p (Sb.sTake n s).2 ∧ Keep1 p W w'
set_option maxHeartbeats 2000000 in
theorem rfail_val (p : Nat) (l : List Int) (er : Int) (W : World) (hs : SrcR W p (0, l)) : Calls Tryz.prog 105 #[.pointer (some ⟨p, 0, none⟩), .int .i64 er] W (RetSR (.tuple #[]) p (er, []) W) := by
  obtain ⟨v, ⟨h, _⟩, _⟩ := hs
  have c2 : W.cell? ⟨p, 1, none⟩ = some (.int .i64 0) := by rw [Lib.cell_of_heap h]; rfl
  have c1 : W.cell? ⟨p, 0, none⟩ = some v := by rw [Lib.cell_of_heap h]; rfl
  have f2 : W.frozen? ⟨p, 1, none⟩ = false := Lib.frozen_of_heap h 1
  have f1 : W.frozen? ⟨p, 0, none⟩ = false := Lib.frozen_of_heap h 0
  have H := Lib.hid h; clear h
  go_enter Tryz.func105, Tryz.ntmps105
  go_wp2
  go_end0
  have h2 := heap_setCell_same W p 1 _ _ (.int .i64 er) H.out
  have h1 := heap_setCell_same _ p 0 _ _ (.slice none 0 0) h2
  exact ⟨rfl, ⟨_, ⟨h1, vlt_nil _ _ _⟩, slb_nil _ _ _⟩, ((Keep1.refl p W).set 1 _).set 0 _⟩
set_option maxHeartbeats 4000000 in
theorem rbytes_val (p n : Nat) (hn : (n : Int) ≤ 9223372036854775807) (s : Sb.Src) (hl : s.2.length ≤ 140737488355000) (W : World) (hs : SrcR W p s) :
    Calls Tryz.prog 50 #[.pointer (some ⟨p, 0, none⟩), .int .i64 n] W (RetBR p n s W) := by
  have HS := Lib.hid hs
  have hlt := srcR_lt hs
  obtain ⟨er, l⟩ := s
  obtain ⟨v, ⟨h, hq1⟩, A, c, rfl, hc, hC⟩ := hs
  have c1 : W.cell? ⟨p, 1, none⟩ = some (.int .i64 er) := by rw [Lib.cell_of_heap h]; rfl
  have c0 : W.cell? ⟨p, 0, none⟩ = some (.slice A l.length c) := by rw [Lib.cell_of_heap h]; rfl
  have H := Lib.hid h
  have HC := Lib.hid hC
  clear h hC
  dsimp only at hc hl
  by_cases he : er = 0
  case neg =>
    have HV := Lib.hid (show (Sb.sTake n (er, l)) = ([], (er, l)) by unfold Sb.sTake; rw [if_neg he])
    go_enter Tryz.func50, Tryz.ntmps50
    go_wp2_with fail
    go_ret
    refine ⟨none, 0, 0, rfl, by rw [HV.out]; rfl, ?_, ?_, Keep1.refl _ _⟩
    · rw [HV.out]; exact slb_nil _ _ _
    · rw [HV.out]; exact HS.out
  subst he
  by_cases hle : n ≤ l.length
  case neg =>
    have HV := Lib.hid (show (Sb.sTake n (0, l)) = ([], (8, [])) by unfold Sb.sTake; rw [if_pos rfl, if_pos (by simpa using hle)])
    have HF := Lib.hid (rfail_val p l 8 W HS.out)
    go_enter Tryz.func50, Tryz.ntmps50
    go_wp2_with fail
    refine HF.out.mono ?_
    rintro e w1 ⟨rfl, h1, h2⟩
    dsimp only
    go_wp2_with fail
    go_ret
    refine ⟨none, 0, 0, rfl, by rw [HV.out]; rfl, ?_, ?_, h2⟩
    · rw [HV.out]; exact slb_nil _ _ _
    · rw [HV.out]; exact h1
  have HV := Lib.hid (show (Sb.sTake n (0, l)) = (l.take n, (0, l.drop n)) by unfold Sb.sTake; rw [if_pos rfl, if_neg (by simpa using hle)])
  have hlen : (l.take n).length = n := by rw [List.length_take]; omega
  have HT := Lib.hid (show Kd.C (Kd.int .u8) W A n (l.take n) from by have := kC_take n HC.out; rwa [hlen] at this)
  have HLEN := Lib.hid hlen
  clear hlen
  go_enter Tryz.func50, Tryz.ntmps50
  go_wp2_with (at_builtin; refine wpList_app (by rfl) _ _ (by rfl) (by rfl) (by rfl) (row_empty (base := W.heap.size) (Nat.le_refl _)) (by rfl) (Kd.C_alloc HT.out _) (by rw [HLEN.out]; simp; omega) (by simp) ?_)
  intro v1 w1 hr hb _
  have HB := Lib.hid (show Below W.heap.size W w1 from ((Below.refl W.heap.size W).alloc (Nat.le_refl _) _).trans hb)
  have hsl := slb_row hr (by rw [HLEN.out]; omega)
  obtain ⟨A1, c2, rfl, _, _⟩ := hsl
  have HR := Lib.hid (slb_row hr (by rw [HLEN.out]; omega))
  have d0 : w1.cell? ⟨p, 0, none⟩ = some (.slice A l.length c) := cell_later HB.out c0
  have f0 : w1.frozen? ⟨p, 0, none⟩ = false := Lib.frozen_of_heap ((HB.out.block p hlt).trans H.out) 0
  have HH := Lib.hid ((HB.out.block p hlt).trans H.out)
  have HSl := Lib.hid (slb_below (w := W) (l := l) ⟨A, c, rfl, hc, HC.out⟩ HB.out)
  have HN := Lib.hid (srcR_nobyte (srcR_below HS.out HB.out))
  clear hr hb
  generalize hM : (l.take n).length = M at HR
  rw [HLEN.out] at hM
  subst hM
  go_wp2_with fail
  · go_ret
    rename_i hcn
    have hx : SlB w1 (.slice A (l.length - n) 0) (l.drop n) := by
      have h1 : l.drop n = [] := List.eq_nil_of_length_eq_zero (by rw [List.length_drop]; omega)
      rw [h1, show l.length - n = 0 by omega]
      exact slb_nil _ _ _
    unfold RetBR
    rw [HV.out]
    exact ⟨_, _, _, rfl, HLEN.out.symm, slb_keep HR.out HN.out ((Keep1.refl p w1).set 0 _), ⟨_, ⟨heap_setCell_same w1 p 0 _ _ _ HH.out, vlt_same hq1⟩, slb_keep (p := p) hx HN.out ((Keep1.refl p w1).set 0 _)⟩, (Keep1.of_below HB.out).set 0 _⟩
  · go_ret
    unfold RetBR
    rw [HV.out]
    exact ⟨_, _, _, rfl, HLEN.out.symm, slb_keep HR.out HN.out ((Keep1.refl p w1).set 0 _), ⟨_, ⟨heap_setCell_same w1 p 0 _ _ _ HH.out, vlt_map hq1⟩, slb_keep (p := p) (slb_cut hle hc (Kd.C_below HC.out HB.out) (fun h => rfl)) HN.out ((Keep1.refl p w1).set 0 _)⟩, (Keep1.of_below HB.out).set 0 _⟩
theorem rget_val (A : Option Addr) (c : Nat) (l : List Int) (n : Nat) (hn : n = 1 ∨ n = 8) (hb : Byt l) (hc : l.length ≤ c) (hln : l = [] ∨ l.length = n) (w : World) (hC : Kd.C (Kd.int .u8) w A l.length l) :
    Calls Tryz.prog 146 #[.slice A l.length c, .int .i64 n, .bool false] w (fun e w' => e = .returned (.tuple #[.int .u64 (Sb.be l), .bool (decide (n ≤ l.length))]) ∧ Drawn0 w w') := by
  refine PSchemaForms.hachureref02_Get.calls 10 A c l n false _ _ w hC hc ?_
  rcases hln with rfl | hln
  · have := hachureref02_Get_short [] n (by omega) (by omega) (by simp; omega) 9
    rw [decide_eq_false (by simp; omega)]
    exact this
  · rw [decide_eq_true (by omega)]
    rcases hn with rfl | rfl
    · match l, hb, hln with
      | [x], hb, _ =>
        have h := hb x (by simp)
        have := hachureref02_Get_one x [] h.1 h.2
        simpa [Sb.be] using this
    · obtain ⟨a0, a1, a2, a3, a4, a5, a6, a7, r, rfl⟩ := eight l (by omega)
      have hr : r = [] := List.eq_nil_of_length_eq_zero (by simp only [List.length_cons] at hln; omega)
      subst hr
      exact hachureref02_Get_eight a0 a1 a2 a3 a4 a5 a6 a7 [] hb
theorem take_two {n : Nat} {s : Sb.Src} : (Sb.sTake n s).1 = [] ∨ (Sb.sTake n s).1.length = n := by
  unfold Sb.sTake
  split
  · split
    · exact .inl rfl
    · right; simp; omega
  · exact .inl rfl
set_option maxHeartbeats 4000000 in
theorem rnum_val (p n : Nat) (hn : n = 1 ∨ n = 8) (s : Sb.Src) (hb : Byt s.2) (hl : s.2.length ≤ 140737488355000) (W : World) (hs : SrcR W p s) :
    Calls Tryz.prog 107 #[.pointer (some ⟨p, 0, none⟩), .int .i64 n, .bool false] W (RetSR (.int .u64 (Sb.be (Sb.sTake n s).1)) p (Sb.sTake n s).2 W) := by
  have HB := Lib.hid (rbytes_val p n (by omega) s hl W hs)
  have h1n : 1 ≤ (n : Int) ∧ (n : Int) ≤ 8 := by omega
  go_enter Tryz.func107, Tryz.ntmps107
  go_wp2_with fail
  refine HB.out.mono ?_
  rintro e w1 ⟨A, m, c, rfl, rfl, hsl, h1, h2⟩
  obtain ⟨A', c', hv, hc, hC⟩ := hsl
  injection hv with e1 e2 e3
  subst e1 e3
  have HG := Lib.hid (rget_val A c _ n hn (take_byt hb).1 hc take_two w1 hC)
  have HS := Lib.hid h1
  have HK := Lib.hid h2
  clear h1 h2 hC hc e2
  generalize hM : (Sb.sTake n s).1.length = M at HG
  dsimp only
  go_wp2_with fail
  refine HG.out.mono ?_
  rintro e w2 ⟨rfl, hd⟩
  have HS2 := Lib.hid (srcR_below HS.out (drawn_below hd))
  have HK2 := Lib.hid (HK.out.trans (drawn_keep hd p))
  clear hd
  dsimp only
  go_wp2_with fail
  go_ret
  exact ⟨rfl, HS2.out, HK2.out⟩
set_option maxHeartbeats 2000000 in
theorem rbyte_val (p : Nat) (s : Sb.Src) (hb : Byt s.2) (hl : s.2.length ≤ 140737488355000) (W : World) (hs : SrcR W p s) : Calls Tryz.prog 52 #[.pointer (some ⟨p, 0, none⟩)] W (RetSR (.int .u8 (Sb.sByte s).1) p (Sb.sByte s).2 W) := by
  have HN := Lib.hid (rnum_val p 1 (.inl rfl) s hb hl W hs)
  obtain ⟨e1, e2, e3⟩ := be_one hb
  have HW := Lib.hid (show (Sb.be (Sb.sTake 1 s).1) % 256 = (Sb.sByte s).1 by rw [e1]; omega)
  go_enter Tryz.func52, Tryz.ntmps52
  go_wp2_with fail
  refine HN.out.mono ?_
  rintro e w1 ⟨rfl, h1, h2⟩
  dsimp only
  go_wp2_with fail
  go_ret
  exact ⟨by first | rfl | (rw [HW.out]; rfl), h1, h2⟩
set_option maxHeartbeats 2000000 in
theorem rint_val (p : Nat) (s : Sb.Src) (hb : Byt s.2) (hl : s.2.length ≤ 140737488355000) (W : World) (hs : SrcR W p s) : Calls Tryz.prog 53 #[.pointer (some ⟨p, 0, none⟩), .bool false] W (RetSR (.int .i64 (Sb.sInt s).1) p (Sb.sInt s).2 W) := by
  have HN := Lib.hid (rnum_val p 8 (.inr rfl) s hb hl W hs)
  obtain ⟨e1, e2⟩ := be_eight hb
  have HW := Lib.hid (show wrap64 (Sb.be (Sb.sTake 8 s).1) = (Sb.sInt s).1 by unfold Sb.sInt Sb.i64of wrap64; dsimp only; split <;> omega)
  go_enter Tryz.func53, Tryz.ntmps53
  go_wp2_with fail
  refine HN.out.mono ?_
  rintro e w1 ⟨rfl, h1, h2⟩
  dsimp only
  go_wp2_with fail
  go_ret
  exact ⟨by first | rfl | (rw [HW.out]; rfl), h1, h2⟩
set_option maxHeartbeats 2000000 in
theorem rend_val (p : Nat) (s : Sb.Src) (W : World) (hs : SrcR W p s) : Calls Tryz.prog 47 #[.pointer (some ⟨p, 0, none⟩)] W (Same1 (.int .i64 (endOf s)) W) := by
  obtain ⟨er, l⟩ := s
  obtain ⟨v, ⟨h, hq1⟩, A, c, rfl, hc, hC⟩ := hs
  have c1 : W.cell? ⟨p, 1, none⟩ = some (.int .i64 er) := by rw [Lib.cell_of_heap h]; rfl
  have c0 : W.cell? ⟨p, 0, none⟩ = some (.slice A l.length c) := by rw [Lib.cell_of_heap h]; rfl
  clear h hC hc
  by_cases he : er = 0
  · cases l with
    | nil =>
      have HV := Lib.hid (show endOf (er, []) = 0 by unfold endOf; rw [if_pos he, if_pos rfl])
      subst he
      have c0 : W.cell? ⟨p, 0, none⟩ = some (.slice A 0 c) := c0
      go_enter Tryz.func47, Tryz.ntmps47
      go_wp2_with fail
      go_ret
      exact ⟨by first | rfl | (rw [HV.out]; rfl), rfl⟩
    | cons x r =>
      have HV := Lib.hid (show endOf (er, x :: r) = 9 by unfold endOf; rw [if_pos he, if_neg (by simp)])
      subst he
      have hp : (0 : Int) < ((x :: r).length : Int) := by simp only [List.length_cons]; omega
      generalize (x :: r).length = M at c0 hp
      go_enter Tryz.func47, Tryz.ntmps47
      go_wp2_with fail
      go_ret
      exact ⟨by first | rfl | (rw [HV.out]; rfl), rfl⟩
  · have HV := Lib.hid (show endOf (er, l) = er by unfold endOf; rw [if_neg he])
    go_enter Tryz.func47, Tryz.ntmps47
    go_wp2_with fail
    go_ret
    exact ⟨by first | rfl | (rw [HV.out]; rfl), rfl⟩
set_option maxHeartbeats 2000000 in
theorem rread_val (v : Value) (l : List Int) (W : World) (hv : SlB W v l) (hl : l.length ≤ 140737488355000) :
    Calls Tryz.prog 18 #[v] W (fun e w' => ∃ p, e = .returned (.pointer (some ⟨p, 0, none⟩)) ∧ W.heap.size ≤ p ∧ SrcR w' p (0, l) ∧ Below W.heap.size W w') := by
  obtain ⟨A, c, rfl, hc, hC⟩ := hv
  have HC := Lib.hid hC; clear hC
  go_enter Tryz.func18, Tryz.ntmps18
  go_wp2_with (at_builtin; refine wpList_app (by rfl) _ _ (by rfl) (by rfl) (by rfl) (row_empty (base := W.heap.size) (Nat.le_refl _)) (by rfl) (Kd.C_alloc HC.out _) (by simp; omega) (by simp) ?_)
  intro v1 w1 hr hb _
  have HB := Lib.hid (show Below W.heap.size W w1 from ((Below.refl W.heap.size W).alloc (Nat.le_refl _) _).trans hb)
  have hsl := slb_row hr (by omega)
  have HLT := Lib.hid (vlt_row hr)
  obtain ⟨A1, c1, rfl, hc1, hC1⟩ := hsl
  have HC1 := Lib.hid hC1
  clear hr hb hC1
  go_wp2_with fail
  go_ret
  exact ⟨w1.heap.size, rfl, HB.out.size, ⟨_, ⟨hp_new _ _ _ rfl, HLT.out⟩, A1, c1, rfl, hc1, Kd.C_alloc HC1.out _⟩, HB.out.alloc HB.out.size _⟩
end Go.Proofs.YtcjidlgmbjebjaaGreatDoor

namespace Go.Proofs.YtcjidlgmbjebjaaGreatDoor
open Go Go.RowKit Go.Proofs.YtcjidlgmbjebjaaGreatDoorW.PrintWords
def allT (l : List Int) (i : Nat) : Bool := decide (l.length < 9) && (l.take i).all fun c => decide (128 ≤ c)
theorem allT_next {l : List Int} {i : Nat} {x : Int} (h : l[i]? = some x) : allT l (i + 1) = (allT l i && decide (128 ≤ x)) := by
  have hi : i < l.length := (List.getElem?_eq_some_iff.1 h).1
  have e : l.take (i + 1) = l.take i ++ [x] := by
    rw [← List.take_append_getElem hi]
    rw [List.getElem?_eq_getElem hi] at h
    rw [Option.some.inj h]
  unfold allT
  rw [e, List.all_append, ← Bool.and_assoc]
  simp
theorem allT_all (l : List Int) : allT l l.length = Sb.lacksV l := by unfold allT Sb.lacksV; rw [List.take_length]
def LkR (l : List Int) (w : World) (a i : Value) (w' : World) : Prop := ∃ j : Nat, j ≤ l.length ∧ a = .bool (allT l j) ∧ i = .int .i64 j ∧ w' = w
set_option maxHeartbeats 4000000 in
theorem rvar_val (p : Nat) (g : Int) (s : Sb.Src) (hb : Byt s.2) (hl : s.2.length ≤ 140737488355000) (W : World) (hs : SrcR W p s) :
    Calls Tryz.prog 51 #[.pointer (some ⟨p, 0, none⟩), .int .u64 g] W (RetSR (.int .u64 (Sb.sVar g s).1) p (Sb.sVar g s).2 W) := by
  have HS := Lib.hid hs
  have hlt := srcR_lt hs
  obtain ⟨er, l⟩ := s
  obtain ⟨v, ⟨h, hq1⟩, A, c, rfl, hc, hC⟩ := hs
  have c1 : W.cell? ⟨p, 1, none⟩ = some (.int .i64 er) := by rw [Lib.cell_of_heap h]; rfl
  have c0 : W.cell? ⟨p, 0, none⟩ = some (.slice A l.length c) := by rw [Lib.cell_of_heap h]; rfl
  have f0 : W.frozen? ⟨p, 0, none⟩ = false := Lib.frozen_of_heap h 0
  have H := Lib.hid h
  have HC := Lib.hid hC
  have HB := Lib.hid hb
  clear h hC hb
  dsimp only at hc hl
  by_cases he : er = 0
  case neg =>
    have HV := Lib.hid (show (Sb.sVar g (er, l)) = (0, (er, l)) by unfold Sb.sVar; rw [if_neg he])
    go_enter Tryz.func51, Tryz.ntmps51
    go_wp2_with fail
    go_ret
    unfold RetSR
    rw [HV.out]
    exact ⟨rfl, HS.out, Keep1.refl _ _⟩
  subst he
  have HT := Lib.hid (rtake_val A c l W ⟨A, c, rfl, hc, HC.out⟩ HB.out)
  have hkl := take_le l
  have hn0 := tk_nonneg l 0 0 HB.out (Int.le_refl 0)
  have hsv : Sb.sVar g (0, l) = (if (Sb.takeV l).2 = 0 then (0, (if Sb.lacksV l then 8 else 9, [])) else if (Sb.takeV l).1 > g then (0, (11, [])) else ((Sb.takeV l).1, (0, l.drop (Sb.takeV l).2))) := by unfold Sb.sVar; rw [if_pos rfl]
  have HSV := Lib.hid hsv
  clear hsv
  unfold RetS at HT
  have hn0 : 0 ≤ (Sb.takeV l).1 := hn0
  generalize (Sb.takeV l).1 = N at HT HSV hn0
  generalize (Sb.takeV l).2 = k at HT HSV hkl
  by_cases hk0 : k = 0
  · subst hk0
    have HV := Lib.hid (HSV.out.trans (if_pos rfl))
    go_enter Tryz.func51, Tryz.ntmps51
    go_wp2_with fail
    refine HT.out.mono ?_
    rintro e w1 ⟨rfl, hb1⟩
    have d0 : w1.cell? ⟨p, 0, none⟩ = some (.slice A l.length c) := cell_later hb1 c0
    have HS1 := Lib.hid (srcR_below HS.out hb1)
    have HB1 := Lib.hid hb1
    have HC1 := Lib.hid (Kd.C_below HC.out hb1)
    clear c0 c1 f0 HSV HT hb1
    dsimp only
    go_wp2_with fail
    go_loopw [7, 36] (fun a i w' => LkR l w1 a i w') (fun _ i _ => l.length - (intOf i).toNat)
    case atStart => exact ⟨0, Nat.zero_le _, by unfold allT; simp; omega, rfl, rfl⟩
    case round =>
      obtain ⟨j, hj, rfl, rfl, rfl⟩ := hrel
      by_cases hp : j < l.length
      · obtain ⟨ad, rfl, hcell⟩ := kC_at HC1.out (by omega)
        have hx := hcell j l[j] (List.getElem?_eq_getElem hp)
        have HN := Lib.hid (allT_next (List.getElem?_eq_getElem hp))
        have h127 : decide ((127 : Int) < l[j]) = decide (128 ≤ l[j]) := by by_cases h : 128 ≤ l[j] <;> simp [h] <;> omega
        generalize l[j] = x at hx HN h127
        clear hcell
        have hji : (0 : Int) ≤ (j : Int) := by omega
        have hjm : (j : Int) < (l.length : Int) := by omega
        generalize allT l j = b at HN ⊢
        cases b
        · go_wp2_with fail
          exact ⟨⟨j + 1, by omega, by rw [HN.out]; rfl, rfl, rfl⟩, by simp [intOf]; omega⟩
        · go_wp2_with fail
          exact ⟨⟨j + 1, by omega, by rw [HN.out]; simp [h127], rfl, rfl⟩, by simp [intOf]; omega⟩
      · obtain rfl : j = l.length := by omega
        rw [allT_all]
        clear hp hj
        cases hlk : Sb.lacksV l with
        | true =>
          rw [hlk] at HV
          have HF := Lib.hid (rfail_val p l 8 _ HS1.out)
          clear hlk
          go_wp2_with fail
          refine HF.out.mono ?_
          rintro e w2 ⟨rfl, h1, h2⟩
          dsimp only
          go_wp2_with fail
          go_ret
          unfold RetSR
          rw [HV.out]
          exact ⟨rfl, h1, (Keep1.of_below HB1.out).trans h2⟩
        | false =>
          rw [hlk] at HV
          have HF := Lib.hid (rfail_val p l 9 _ HS1.out)
          clear hlk
          go_wp2_with fail
          refine HF.out.mono ?_
          rintro e w2 ⟨rfl, h1, h2⟩
          dsimp only
          go_wp2_with fail
          go_ret
          unfold RetSR
          rw [HV.out]
          exact ⟨rfl, h1, (Keep1.of_below HB1.out).trans h2⟩
  · have hk1 : ((k : Int) == 0) = false := by rw [beq_eq_false_iff_ne]; omega
    by_cases hg : N > g
    · have HV := Lib.hid (HSV.out.trans ((if_neg hk0).trans (if_pos hg)))
      go_enter Tryz.func51, Tryz.ntmps51
      go_wp2_with fail
      refine HT.out.mono ?_
      rintro e w1 ⟨rfl, hb1⟩
      have HF := Lib.hid (rfail_val p l 11 _ (srcR_below HS.out hb1))
      have HB1 := Lib.hid hb1
      clear c0 c1 f0 HSV HT hb1
      dsimp only
      go_wp2_with fail
      refine HF.out.mono ?_
      rintro e w2 ⟨rfl, h1, h2⟩
      dsimp only
      go_wp2_with fail
      go_ret
      unfold RetSR
      rw [HV.out]
      exact ⟨rfl, h1, (Keep1.of_below HB1.out).trans h2⟩
    · have HV := Lib.hid (HSV.out.trans ((if_neg hk0).trans (if_neg hg)))
      go_enter Tryz.func51, Tryz.ntmps51
      go_wp2_with fail
      refine HT.out.mono ?_
      rintro e w1 ⟨rfl, hb1⟩
      have d0 : w1.cell? ⟨p, 0, none⟩ = some (.slice A l.length c) := cell_later hb1 c0
      have f0 : w1.frozen? ⟨p, 0, none⟩ = false := Lib.frozen_of_heap ((hb1.block p hlt).trans H.out) 0
      have HH := Lib.hid ((hb1.block p hlt).trans H.out)
      have HN := Lib.hid (srcR_nobyte (srcR_below HS.out hb1))
      have HB1 := Lib.hid hb1
      have hki : (0 : Int) ≤ (k : Int) := by omega
      have hkm : (k : Int) ≤ (l.length : Int) := by omega
      clear c0 c1 HSV HT hb1
      dsimp only
      go_wp2_with fail
      · go_ret
        rename_i hcn
        have hx : SlB w1 (.slice A (l.length - k) 0) (l.drop k) := by
          have h1 : l.drop k = [] := List.eq_nil_of_length_eq_zero (by rw [List.length_drop]; omega)
          rw [h1, show l.length - k = 0 by omega]
          exact slb_nil _ _ _
        unfold RetSR
        rw [HV.out]
        exact ⟨rfl, ⟨_, ⟨heap_setCell_same w1 p 0 _ _ _ HH.out, vlt_same hq1⟩, slb_keep (p := p) hx HN.out ((Keep1.refl p w1).set 0 _)⟩, (Keep1.of_below HB1.out).set 0 _⟩
      · go_ret
        unfold RetSR
        rw [HV.out]
        exact ⟨rfl, ⟨_, ⟨heap_setCell_same w1 p 0 _ _ _ HH.out, vlt_map hq1⟩, slb_keep (p := p) (slb_cut hkl hc (Kd.C_below HC.out HB1.out) (fun h => rfl)) HN.out ((Keep1.refl p w1).set 0 _)⟩, (Keep1.of_below HB1.out).set 0 _⟩
end Go.Proofs.YtcjidlgmbjebjaaGreatDoor

namespace Go.Proofs.YtcjidlgmbjebjaaGreatDoor
open Go Go.RowKit Go.Proofs.YtcjidlgmbjebjaaGreatDoorW.PrintWords
theorem srcR_alloc {w : World} {p : Nat} {s : Sb.Src} (h : SrcR w p s) (o : Obj) : SrcR (w.alloc o) p s := srcR_below h ((Below.refl _ _).alloc (Nat.le_refl _) o)
theorem srcR_set {w : World} {p q i : Nat} {u : Value} {s : Sb.Src} (h : SrcR w p s) (hq : q ≠ p) (hn : NoByte w q) : SrcR (w.setCell ⟨q, i, none⟩ u) p s := by
  obtain ⟨v, ⟨h1, hv⟩, h2⟩ := h
  exact ⟨v, ⟨(Below.heap_setCell _ _ _ _ (by simpa using hq.symm)).trans h1, hv⟩, slb_keep h2 hn ((Keep1.refl q w).set i u)⟩
theorem srcR_keep {w w' : World} {p q : Nat} {s : Sb.Src} (h : SrcR w p s) (hn : NoByte w q) (hq : p ≠ q) (hk : Keep1 q w w') : SrcR w' p s := by
  have hl := srcR_lt h
  obtain ⟨v, ⟨h1, hv⟩, h2⟩ := h
  exact ⟨v, ⟨(hk.block hl hq).trans h1, hv⟩, slb_keep h2 hn hk⟩
theorem srcR_grown {w w' : World} {p B : Nat} {s : Sb.Src} {row : Option Nat} (h : SrcR w p s) (hg : w.grownBy w' row) (hr : ∀ k, row = some k → B ≤ k) (hp : p < B) (hB : B ≤ w.heap.size) : SrcR w' p s := by
  have hl := srcR_lt h
  obtain ⟨v, ⟨h1, hv⟩, A, c, rfl, hc, hC⟩ := h
  refine ⟨_, ⟨(hg.block p hl (fun e => by have := hr p e.symm; omega)).trans h1, hv⟩, A, c, rfl, hc, kC_mk hC.2.1 fun hpos => ?_⟩
  obtain ⟨ad, rfl, hcell⟩ := kC_at hC hpos
  have hlt := hv ad _ _ rfl
  refine ⟨ad, rfl, fun j x hx => ?_⟩
  have hb : (ad.add j).block = ad.block := by unfold Addr.add; split <;> rfl
  have := hcell j x hx
  unfold World.cell? at this ⊢
  rw [hg.block _ (by rw [hb]; omega) (fun e => by have := hr _ e.symm; rw [hb] at this; omega)]
  exact this
theorem srcR_err {w : World} {p : Nat} {s : Sb.Src} (h : SrcR w p s) : w.cell? ⟨p, 1, none⟩ = some (.int .i64 s.1) := by
  obtain ⟨v, ⟨h1, _⟩, _⟩ := h
  rw [Lib.cell_of_heap h1]; rfl
structure PR (p R F B : Nat) (W : World) (row : Int) (lb : List Int) (bv : Value) (vs : List Sb.V3) (v : Value) (s : Sb.Src) (w : World) : Prop where
  src : SrcR w p s
  fb : BlkAt w F (ftL row bv v) 28
  rb : BlkAt w R (ftL 0 nilS nilS) 28
  own : w.ownsRow B 32 3 v vs.length (flat3 vs)
  bl : SlB w bv lb
  bb : ∀ ad n c, bv = .slice (some ad) n c → 0 < lb.length → ad.block < B
  kp : Keep1 p W w
  le : B ≤ w.heap.size
section
variable {W w w' : World} {p R F B : Nat} {row : Int} {lb : List Int} {bv : Value} {vs : List Sb.V3} {v v' : Value} {s s' : Sb.Src}
theorem PR.bsl (h : PR p R F B W row lb bv vs v s w) : isSl bv := by obtain ⟨A, c, e, _⟩ := h.bl; exact ⟨_, _, _, e⟩
theorem PR.vsl (h : PR p R F B W row lb bv vs v s w) : isSl v := by obtain ⟨A, c, e⟩ := own_shape h.own; exact ⟨_, _, _, e⟩
theorem PR.nobyte (h : PR p R F B W row lb bv vs v s w) : NoByte w F := nobyte_ft h.fb h.bsl h.vsl
theorem PR.op (n : NF p R F B W) (h : PR p R F B W row lb bv vs v s w) (hs : SrcR w' p s') (hk : Keep1 p w w') : PR p R F B W row lb bv vs v s' w' := by
  have := n.hp; have := n.hR; have := n.hF; have := n.hB
  refine ⟨hs, blk_keep h.fb hk (by omega), blk_keep h.rb hk (by omega), h.own.kept (keep_grown hk) ?_, slb_keep h.bl (srcR_nobyte h.src) hk, h.bb, h.kp.trans hk, Nat.le_trans h.le hk.size⟩
  cases hv : v.ownBlock with
  | none => exact .inl rfl
  | some k => exact .inr fun e => by have := h.own.lt k hv; injection e with e; omega
theorem PR.below (h : PR p R F B W row lb bv vs v s w) (hb : Below w.heap.size w w') : PR p R F B W row lb bv vs v s w' :=
  ⟨srcR_below h.src hb, blk_below h.fb hb, blk_below h.rb hb, own_below h.own hb, slb_below h.bl hb, h.bb, h.kp.trans (Keep1.of_below hb), Nat.le_trans h.le hb.size⟩
theorem PR.vals (n : NF p R F B W) (h : PR p R F B W row lb bv vs v s w) (x : Sb.V3) (hg : w.grownBy w' v.ownBlock) (ho : w'.ownsRow B 32 3 v' (vs.length + 1) (flat3 vs ++ [.int .i64 x.1, .int .i64 x.2.1, .string x.2.2])) :
    PR p R F B W row lb bv (vs ++ [x]) v' s (w'.setCell ⟨F, 2, none⟩ v') := by
  have hp := n.hp; have hR := n.hR; have hF := n.hF; have hB := n.hB
  have lF := n.lF; have lR := n.lR
  have hno : ∀ k, k < B → some k ≠ v.ownBlock := fun k hk e => by have := h.own.lt k e.symm; omega
  have hst : ∀ {b : Nat} {cs : Array Value} {T : Nat}, BlkAt w b cs T → b < B → BlkAt w' b cs T := fun hb hl => (hg.block _ (blk_lt hb) (hno _ hl)).trans hb
  have hv' : isSl v' := by obtain ⟨A, c, e⟩ := own_shape ho; exact ⟨_, _, _, e⟩
  have hnb : NoByte w' F := nobyte_ft (hst h.fb lF) h.bsl h.vsl
  have hsrc : SrcR w' p s := srcR_grown h.src hg (fun k hk => (h.own.lt k hk).1) (by omega) h.le
  have hbl : SlB w' bv lb := by
    obtain ⟨A, c, e, h1, h2⟩ := h.bl
    refine ⟨A, c, e, h1, kC_mk h2.2.1 fun hpos => ?_⟩
    obtain ⟨ad, rfl, hcell⟩ := kC_at h2 hpos
    have hlt := h.bb ad _ _ e hpos
    refine ⟨ad, rfl, fun j x hx => ?_⟩
    have hb : (ad.add j).block = ad.block := by unfold Addr.add; split <;> rfl
    have := hcell j x hx
    unfold World.cell? at this ⊢
    rw [hg.block _ (by rw [hb]; have := h.le; omega) (by rw [hb]; exact hno _ hlt)]
    exact this
  have hlen : (vs ++ [x]).length = vs.length + 1 := by simp
  refine ⟨srcR_set hsrc (by omega) hnb, ?_, blk_set (hst h.rb lR) n.RF, ?_, slb_keep hbl hnb ((Keep1.refl F w').set 2 v'), h.bb, ?_, by simp [World.setCell]; exact Nat.le_trans h.le hg.size⟩
  · exact heap_setCell_same w' F 2 _ _ v' (hst h.fb lF)
  · rw [hlen, flat3_snoc]
    exact own_set ho F 2 v' lF
  · exact Keep1.setNew (p := p) (a := W) ⟨hg.os.trans h.kp.os, hg.tape.trans h.kp.tape, hg.output.trans h.kp.output, Nat.le_trans h.kp.size hg.size, fun {k} hk hkp => (hg.block k (Nat.lt_of_lt_of_le hk h.kp.size) (hno k (by omega))).trans (h.kp.block hk hkp)⟩ F 2 v' hF
theorem PR.put (n : NF p R F B W) (h : PR p R F B W row lb bv vs v s w) (c i : Nat) (u : Value) (hc : B ≤ c) (hv : v.ownBlock ≠ some c) (hnb : NoByte w c) : PR p R F B W row lb bv vs v s (w.setCell ⟨c, i, none⟩ u) := by
  have := n.hp; have := n.hR; have := n.hF; have := n.hB; have := n.lF; have := n.lR
  exact ⟨srcR_set h.src (by omega) hnb, blk_set h.fb (by omega), blk_set h.rb (by omega),
    h.own.kept (row := some c) ⟨rfl, rfl, rfl, by simp [World.setCell], fun k _ hk => heap_setCell_other _ _ _ _ (fun e => hk (by simp [e]))⟩ (.inr hv), slb_keep h.bl hnb ((Keep1.refl c w).set i u), h.bb, h.kp.setNew c i u (by omega), by simp [World.setCell]; exact h.le⟩
theorem PR.fresh (h : PR p R F B W row lb bv vs v s w) : v.ownBlock ≠ some w.heap.size := by
  intro e
  have := h.own.lt _ e
  omega
theorem PR.fin {wf : World} (n : NF p R F B W) (h : PR p R F B W row lb bv vs v s w) (hk : Keep1 R w wf) : SrcR wf p s ∧ Keep1 p W wf ∧ SlB wf bv lb ∧ wf.ownsRow B 32 3 v vs.length (flat3 vs) := by
  have := n.hp; have := n.hR; have := n.lR
  have hnb : NoByte w R := nobyte_ft h.rb ⟨_, _, _, rfl⟩ ⟨_, _, _, rfl⟩
  refine ⟨srcR_keep h.src hnb (by omega) hk, keep_new h.kp hk n.hR, slb_keep h.bl hnb hk, h.own.kept (keep_grown hk) ?_⟩
  cases hv : v.ownBlock with
  | none => exact .inl rfl
  | some k => exact .inr fun e => by have := h.own.lt k hv; injection e with e; omega
theorem PR.grow_cells (n : NF p R F B W) (h : PR p R F B W row lb bv vs v s w) (hg : w.grownBy w' v.ownBlock) : w'.cell? ⟨F, 2, none⟩ = some v ∧ w'.frozen? ⟨F, 2, none⟩ = false := by
  have lF := n.lF
  have hb : BlkAt w' F (ftL row bv v) 28 := (hg.block _ (blk_lt h.fb) (fun e => by have := h.own.lt _ e.symm; omega)).trans h.fb
  exact ⟨blk_cell hb 2 _ rfl, Lib.frozen_of_heap hb 2⟩
theorem nobyte_v {c : Nat} {x : Sb.V3} (h : BlkAt w c #[.int .i64 x.1, .int .i64 x.2.1, .string x.2.2] 32) : NoByte w c := by
  refine nobyte_of h fun i y hi => ?_
  match i, hi with
  | 0, hi => simp at hi
  | 1, hi => simp at hi
  | 2, hi => simp at hi
  | i + 3, hi => simp at hi
end
end Go.Proofs.YtcjidlgmbjebjaaGreatDoor

namespace Go.Proofs.YtcjidlgmbjebjaaGreatDoor
open Go Go.RowKit
def zcs (k n : Int) (t : ByteArray) : Array Value := #[.int .i64 k, .int .i64 n, .string t]
def RetSc (k n : Int) (t : ByteArray) (b : Bool) (W : World) (e : Ending) (w' : World) : Prop := RetScan (if b then k else 0) (if b then n else 0) (if b then t else ⟨#[]⟩) b W e w'
structure QS (W : World) (k n : Int) (t : ByteArray) (w : World) : Prop where
  bel : Below W.heap.size W w
  rb : BlkAt w W.heap.size (zcs 0 0 ⟨#[]⟩) 32
  vb : BlkAt w (W.heap.size + 1) (zcs k n t) 32
theorem QS.below {W w w' : World} {k n : Int} {t : ByteArray} (h : QS W k n t w) (hb : Below w.heap.size w w') : QS W k n t w' := ⟨below_step h.bel hb, blk_below h.rb hb, blk_below h.vb hb⟩
theorem QS.set {W w : World} {k n k' n' : Int} {t t' : ByteArray} (h : QS W k n t w) (i : Nat) (u : Value) (he : (zcs k n t).setIfInBounds i u = zcs k' n' t') : QS W k' n' t' (w.setCell ⟨W.heap.size + 1, i, none⟩ u) := by
  refine ⟨h.bel.setCell (by show W.heap.size ≤ W.heap.size + 1; omega) _, blk_set h.rb (by omega), ?_⟩
  have := heap_setCell_same w (W.heap.size + 1) i _ _ u h.vb
  rw [he] at this
  exact this
theorem QS.start (W : World) : QS W 0 0 ⟨#[]⟩ ((W.alloc (.cells #[.int .i64 0, .int .i64 0, .string ⟨#[]⟩] 32)).alloc (.cells #[.int .i64 0, .int .i64 0, .string ⟨#[]⟩] 32)) :=
  ⟨((Below.refl _ _).alloc (Nat.le_refl _) _).alloc (by simp) _, hp_old _ _ _ _ (by simp) (hp_new _ _ _ rfl), hp_new _ _ _ (by simp)⟩
theorem QS.cells {W w : World} {k n : Int} {t : ByteArray} (h : QS W k n t w) : w.cell? ⟨W.heap.size + 1, 0, none⟩ = some (.int .i64 k) ∧ w.cell? ⟨W.heap.size + 1, 1, none⟩ = some (.int .i64 n) ∧ w.cell? ⟨W.heap.size + 1, 2, none⟩ = some (.string t) ∧ ∀ i, w.frozen? ⟨W.heap.size + 1, i, none⟩ = false :=
  ⟨blk_cell h.vb 0 _ rfl, blk_cell h.vb 1 _ rfl, blk_cell h.vb 2 _ rfl, Lib.frozen_of_heap h.vb⟩
theorem QS.rcells {W w : World} {k n : Int} {t : ByteArray} (h : QS W k n t w) : w.cell? ⟨W.heap.size, 0, none⟩ = some (.int .i64 0) ∧ w.cell? ⟨W.heap.size, 1, none⟩ = some (.int .i64 0) ∧ w.cell? ⟨W.heap.size, 2, none⟩ = some (.string ⟨#[]⟩) ∧ ∀ i, w.frozen? ⟨W.heap.size, i, none⟩ = false :=
  ⟨blk_cell h.rb 0 _ rfl, blk_cell h.rb 1 _ rfl, blk_cell h.rb 2 _ rfl, Lib.frozen_of_heap h.rb⟩
theorem QS.ret {W w : World} {k n : Int} {t : ByteArray} (h : QS W k n t w) (x y z : Value) : Below W.heap.size W (((w.setCell ⟨W.heap.size, 0, none⟩ x).setCell ⟨W.heap.size, 1, none⟩ y).setCell ⟨W.heap.size, 2, none⟩ z) :=
  ((h.bel.setCell (Nat.le_refl _) _).setCell (Nat.le_refl _) _).setCell (Nat.le_refl _) _
set_option maxHeartbeats 2000000 in
theorem rscan_null (s r : ByteArray) (b : Bool) (h0 : (s.toList == [110, 117, 108, 108]) = true) (hne : (r.toList == s.toList) = b) (W : World) (hp : ∀ w, Calls Tryz.prog 45 #[.agg #[.int .i64 0, .int .i64 0, .string ⟨#[]⟩]] w (RetS (.string r) w)) :
    Calls Tryz.prog 14 #[.string s] W (RetSc 0 0 ⟨#[]⟩ b W) := by
  have HP := Lib.hid hp
  clear hp
  have HQ := Lib.hid (QS.start W)
  go_enter Tryz.func14, Tryz.ntmps14
  go_upto_block 0 with fail
  generalize (W.alloc (.cells #[.int .i64 0, .int .i64 0, .string ⟨#[]⟩] 32)).alloc (.cells #[.int .i64 0, .int .i64 0, .string ⟨#[]⟩] 32) = w0 at HQ ⊢
  obtain ⟨e0, e1, e2, _⟩ := HQ.out.cells
  go_wp2_with fail
  refine (HP.out _).mono ?_
  rintro e w3 ⟨rfl, hb⟩
  have HQ3 := Lib.hid (HQ.out.below hb)
  clear hb HQ e0 e1 e2
  obtain ⟨f0, f1, f2, gg⟩ := HQ3.out.rcells
  have q0 := gg 0
  have q1 := gg 1
  have q2 := gg 2
  obtain ⟨e0, e1, e2, _⟩ := HQ3.out.cells
  dsimp only
  cases b
  · go_wp2_with fail
    have r0 : (w3.setCell ⟨W.heap.size, 0, none⟩ (.int .i64 0)).cell? ⟨W.heap.size, 0, none⟩ = some (.int .i64 0) := by go_cell
    have r1 : ((w3.setCell ⟨W.heap.size, 0, none⟩ (.int .i64 0)).setCell ⟨W.heap.size, 1, none⟩ (.int .i64 0)).cell? ⟨W.heap.size, 1, none⟩ = some (.int .i64 0) := by go_cell
    have r2 : (((w3.setCell ⟨W.heap.size, 0, none⟩ (.int .i64 0)).setCell ⟨W.heap.size, 1, none⟩ (.int .i64 0)).setCell ⟨W.heap.size, 2, none⟩ (.string ⟨#[]⟩)).cell? ⟨W.heap.size, 2, none⟩ = some (.string ⟨#[]⟩) := by go_cell
    refine bodyPost_ret (v := .tuple #[vV 0 0 ⟨#[]⟩, .bool false]) (by simp [results, Tryz.results14, go_sem, vV, r0, r1, r2]) rfl ⟨rfl, HQ3.out.ret _ _ _⟩
  · go_wp2_with fail
    have r0 : (w3.setCell ⟨W.heap.size, 0, none⟩ (.int .i64 0)).cell? ⟨W.heap.size, 0, none⟩ = some (.int .i64 0) := by go_cell
    have r1 : ((w3.setCell ⟨W.heap.size, 0, none⟩ (.int .i64 0)).setCell ⟨W.heap.size, 1, none⟩ (.int .i64 0)).cell? ⟨W.heap.size, 1, none⟩ = some (.int .i64 0) := by go_cell
    have r2 : (((w3.setCell ⟨W.heap.size, 0, none⟩ (.int .i64 0)).setCell ⟨W.heap.size, 1, none⟩ (.int .i64 0)).setCell ⟨W.heap.size, 2, none⟩ (.string ⟨#[]⟩)).cell? ⟨W.heap.size, 2, none⟩ = some (.string ⟨#[]⟩) := by go_cell
    refine bodyPost_ret (v := .tuple #[vV 0 0 ⟨#[]⟩, .bool true]) (by simp [results, Tryz.results14, go_sem, vV, r0, r1, r2]) rfl ⟨rfl, HQ3.out.ret _ _ _⟩
set_option maxHeartbeats 2000000 in
theorem rscan_true (s r : ByteArray) (b : Bool) (h0 : (s.toList == [110, 117, 108, 108]) = false) (h1 : (s.toList == [116, 114, 117, 101]) = true) (hne : (r.toList == s.toList) = b) (W : World) (hp : ∀ w, Calls Tryz.prog 45 #[.agg #[.int .i64 3, .int .i64 1, .string ⟨#[]⟩]] w (RetS (.string r) w)) :
    Calls Tryz.prog 14 #[.string s] W (RetSc 3 1 ⟨#[]⟩ b W) := by
  have HP := Lib.hid hp
  clear hp
  have HQ := Lib.hid (QS.start W)
  go_enter Tryz.func14, Tryz.ntmps14
  go_upto_block 0 with fail
  generalize (W.alloc (.cells #[.int .i64 0, .int .i64 0, .string ⟨#[]⟩] 32)).alloc (.cells #[.int .i64 0, .int .i64 0, .string ⟨#[]⟩] 32) = w0 at HQ ⊢
  obtain ⟨x0, x1, x2, xx⟩ := HQ.out.cells
  have y0 := xx 0
  have y1 := xx 1
  have y2 := xx 2
  have HQ0 := HQ
  clear HQ
  have HQ := Lib.hid (show QS W 3 1 ⟨#[]⟩ (((w0.setCell ⟨W.heap.size + 1, 0, none⟩ (.int .i64 3)).setCell ⟨W.heap.size + 1, 1, none⟩ (.int .i64 1)).setCell ⟨W.heap.size + 1, 2, none⟩ (.string ⟨#[]⟩)) from ((HQ0.out.set (k' := 3) (n' := 0) (t' := ⟨#[]⟩) 0 _ rfl).set (k' := 3) (n' := 1) (t' := ⟨#[]⟩) 1 _ rfl).set 2 _ rfl)
  obtain ⟨e0, e1, e2, _⟩ := HQ.out.cells
  go_wp2_with fail
  refine (HP.out _).mono ?_
  rintro e w3 ⟨rfl, hb⟩
  have HQ3 := Lib.hid (HQ.out.below hb)
  clear hb HQ e0 e1 e2
  obtain ⟨f0, f1, f2, gg⟩ := HQ3.out.rcells
  have q0 := gg 0
  have q1 := gg 1
  have q2 := gg 2
  obtain ⟨e0, e1, e2, _⟩ := HQ3.out.cells
  dsimp only
  cases b
  · go_wp2_with fail
    have r0 : (w3.setCell ⟨W.heap.size, 0, none⟩ (.int .i64 0)).cell? ⟨W.heap.size, 0, none⟩ = some (.int .i64 0) := by go_cell
    have r1 : ((w3.setCell ⟨W.heap.size, 0, none⟩ (.int .i64 0)).setCell ⟨W.heap.size, 1, none⟩ (.int .i64 0)).cell? ⟨W.heap.size, 1, none⟩ = some (.int .i64 0) := by go_cell
    have r2 : (((w3.setCell ⟨W.heap.size, 0, none⟩ (.int .i64 0)).setCell ⟨W.heap.size, 1, none⟩ (.int .i64 0)).setCell ⟨W.heap.size, 2, none⟩ (.string ⟨#[]⟩)).cell? ⟨W.heap.size, 2, none⟩ = some (.string ⟨#[]⟩) := by go_cell
    refine bodyPost_ret (v := .tuple #[vV 0 0 ⟨#[]⟩, .bool false]) (by simp [results, Tryz.results14, go_sem, vV, r0, r1, r2]) rfl ⟨rfl, HQ3.out.ret _ _ _⟩
  · go_wp2_with fail
    have r0 : (w3.setCell ⟨W.heap.size, 0, none⟩ (.int .i64 3)).cell? ⟨W.heap.size, 0, none⟩ = some (.int .i64 3) := by go_cell
    have r1 : ((w3.setCell ⟨W.heap.size, 0, none⟩ (.int .i64 3)).setCell ⟨W.heap.size, 1, none⟩ (.int .i64 1)).cell? ⟨W.heap.size, 1, none⟩ = some (.int .i64 1) := by go_cell
    have r2 : (((w3.setCell ⟨W.heap.size, 0, none⟩ (.int .i64 3)).setCell ⟨W.heap.size, 1, none⟩ (.int .i64 1)).setCell ⟨W.heap.size, 2, none⟩ (.string ⟨#[]⟩)).cell? ⟨W.heap.size, 2, none⟩ = some (.string ⟨#[]⟩) := by go_cell
    refine bodyPost_ret (v := .tuple #[vV 3 1 ⟨#[]⟩, .bool true]) (by simp [results, Tryz.results14, go_sem, vV, r0, r1, r2]) rfl ⟨rfl, HQ3.out.ret _ _ _⟩
set_option maxHeartbeats 2000000 in
theorem rscan_false (s r : ByteArray) (b : Bool) (h0 : (s.toList == [110, 117, 108, 108]) = false) (h1 : (s.toList == [116, 114, 117, 101]) = false) (h2 : (s.toList == [102, 97, 108, 115, 101]) = true) (hne : (r.toList == s.toList) = b) (W : World) (hp : ∀ w, Calls Tryz.prog 45 #[.agg #[.int .i64 3, .int .i64 0, .string ⟨#[]⟩]] w (RetS (.string r) w)) :
    Calls Tryz.prog 14 #[.string s] W (RetSc 3 0 ⟨#[]⟩ b W) := by
  have HP := Lib.hid hp
  clear hp
  have HQ := Lib.hid (QS.start W)
  go_enter Tryz.func14, Tryz.ntmps14
  go_upto_block 0 with fail
  generalize (W.alloc (.cells #[.int .i64 0, .int .i64 0, .string ⟨#[]⟩] 32)).alloc (.cells #[.int .i64 0, .int .i64 0, .string ⟨#[]⟩] 32) = w0 at HQ ⊢
  obtain ⟨x0, x1, x2, xx⟩ := HQ.out.cells
  have y0 := xx 0
  have y1 := xx 1
  have y2 := xx 2
  have HQ0 := HQ
  clear HQ
  have HQ := Lib.hid (show QS W 3 0 ⟨#[]⟩ (((w0.setCell ⟨W.heap.size + 1, 0, none⟩ (.int .i64 3)).setCell ⟨W.heap.size + 1, 1, none⟩ (.int .i64 0)).setCell ⟨W.heap.size + 1, 2, none⟩ (.string ⟨#[]⟩)) from ((HQ0.out.set (k' := 3) (n' := 0) (t' := ⟨#[]⟩) 0 _ rfl).set (k' := 3) (n' := 0) (t' := ⟨#[]⟩) 1 _ rfl).set 2 _ rfl)
  obtain ⟨e0, e1, e2, _⟩ := HQ.out.cells
  go_wp2_with fail
  refine (HP.out _).mono ?_
  rintro e w3 ⟨rfl, hb⟩
  have HQ3 := Lib.hid (HQ.out.below hb)
  clear hb HQ e0 e1 e2
  obtain ⟨f0, f1, f2, gg⟩ := HQ3.out.rcells
  have q0 := gg 0
  have q1 := gg 1
  have q2 := gg 2
  obtain ⟨e0, e1, e2, _⟩ := HQ3.out.cells
  dsimp only
  cases b
  · go_wp2_with fail
    have r0 : (w3.setCell ⟨W.heap.size, 0, none⟩ (.int .i64 0)).cell? ⟨W.heap.size, 0, none⟩ = some (.int .i64 0) := by go_cell
    have r1 : ((w3.setCell ⟨W.heap.size, 0, none⟩ (.int .i64 0)).setCell ⟨W.heap.size, 1, none⟩ (.int .i64 0)).cell? ⟨W.heap.size, 1, none⟩ = some (.int .i64 0) := by go_cell
    have r2 : (((w3.setCell ⟨W.heap.size, 0, none⟩ (.int .i64 0)).setCell ⟨W.heap.size, 1, none⟩ (.int .i64 0)).setCell ⟨W.heap.size, 2, none⟩ (.string ⟨#[]⟩)).cell? ⟨W.heap.size, 2, none⟩ = some (.string ⟨#[]⟩) := by go_cell
    refine bodyPost_ret (v := .tuple #[vV 0 0 ⟨#[]⟩, .bool false]) (by simp [results, Tryz.results14, go_sem, vV, r0, r1, r2]) rfl ⟨rfl, HQ3.out.ret _ _ _⟩
  · go_wp2_with fail
    have r0 : (w3.setCell ⟨W.heap.size, 0, none⟩ (.int .i64 3)).cell? ⟨W.heap.size, 0, none⟩ = some (.int .i64 3) := by go_cell
    have r1 : ((w3.setCell ⟨W.heap.size, 0, none⟩ (.int .i64 3)).setCell ⟨W.heap.size, 1, none⟩ (.int .i64 0)).cell? ⟨W.heap.size, 1, none⟩ = some (.int .i64 0) := by go_cell
    have r2 : (((w3.setCell ⟨W.heap.size, 0, none⟩ (.int .i64 3)).setCell ⟨W.heap.size, 1, none⟩ (.int .i64 0)).setCell ⟨W.heap.size, 2, none⟩ (.string ⟨#[]⟩)).cell? ⟨W.heap.size, 2, none⟩ = some (.string ⟨#[]⟩) := by go_cell
    refine bodyPost_ret (v := .tuple #[vV 3 0 ⟨#[]⟩, .bool true]) (by simp [results, Tryz.results14, go_sem, vV, r0, r1, r2]) rfl ⟨rfl, HQ3.out.ret _ _ _⟩
end Go.Proofs.YtcjidlgmbjebjaaGreatDoor

namespace Go.Proofs.YtcjidlgmbjebjaaGreatDoor
open Go Go.RowKit
def RqL (s : ByteArray) (W : World) (i : Value) (w' : World) : Prop :=
  ∃ (j : Nat) (l : List UInt8), i = .int .i64 j ∧ 1 ≤ j ∧ j ≤ s.size ∧ l.length ≤ j ∧ l ++ rq (s.data.toList.drop j) = rq (s.data.toList.drop 1) ∧ QS W 2 0 ⟨l.toArray⟩ w'
theorem add_one (l : List UInt8) (s : ByteArray) (j : Nat) (h : j < s.size) : (⟨l.toArray⟩ : ByteArray) ++ s.extract j (j + 1) = ⟨(l ++ [s[j]]).toArray⟩ := by
  rw [ext_one s j h, dec_cat _ _ _ _ rfl rfl]
theorem RqL.step (s : ByteArray) (W w w' : World) (j m : Nat) (l : List UInt8) (h1 : 1 ≤ j) (hjm : j ≤ m) (hm : m < s.size) (hl : l.length ≤ j) (he : l ++ rq (s.data.toList.drop j) = rq (s.data.toList.drop 1)) (hu : rq (s.data.toList.drop j) = s[m] :: rq (s.data.toList.drop (m + 1))) (hq : QS W 2 0 ⟨l.toArray⟩ w) :
    RqL s W (.int .i64 (m + 1 : Nat)) (w.drew.setCell ⟨W.heap.size + 1, 2, none⟩ (.string (⟨l.toArray⟩ ++ s.extract m (m + 1)))) := by
  refine ⟨m + 1, l ++ [s[m]], rfl, by omega, by omega, by simp; omega, by rw [← he, hu]; simp, ?_⟩
  rw [add_one l s m hm]
  exact (hq.below (below_drew (Below.refl _ _))).set 2 _ rfl
set_option maxHeartbeats 4000000 in
theorem rscan_text (s r : ByteArray) (b : Bool) (h0 : (s.toList == [110, 117, 108, 108]) = false) (h1 : (s.toList == [116, 114, 117, 101]) = false) (h2 : (s.toList == [102, 97, 108, 115, 101]) = false) (h3 : 2 ≤ s.size) (h5 : s.size ≤ 5000) (h4 : (s[0]'(by omega)).toNat = 34) (hne : (r.toList == s.toList) = b) (W : World) (hp : ∀ w, Calls Tryz.prog 45 #[.agg #[.int .i64 2, .int .i64 0, .string (uR s)]] w (RetS (.string r) w)) :
    Calls Tryz.prog 14 #[.string s] W (RetSc 2 0 (uR s) b W) := by
  have HP := Lib.hid hp
  clear hp
  have h34 : (((s[0]'(by omega)).toNat : Int) == 34) = true := by rw [beq_iff_eq]; omega
  have HQ := Lib.hid (QS.start W)
  go_enter Tryz.func14, Tryz.ntmps14
  go_upto_block 0 with fail
  generalize (W.alloc (.cells #[.int .i64 0, .int .i64 0, .string ⟨#[]⟩] 32)).alloc (.cells #[.int .i64 0, .int .i64 0, .string ⟨#[]⟩] 32) = w0 at HQ ⊢
  obtain ⟨x0, x1, x2, xx⟩ := HQ.out.cells
  have y0 := xx 0
  have HQ0 := Lib.hid (show QS W 2 0 ⟨#[]⟩ (w0.setCell ⟨W.heap.size + 1, 0, none⟩ (.int .i64 2)) from HQ.out.set 0 _ rfl)
  clear HQ xx
  have HNE := Lib.hid hne
  clear hne
  go_wp2_with fail
  go_loopw [5] (fun i w' => RqL s W i w') (fun i _ => s.size - (intOf i).toNat)
  case atStart => exact ⟨1, [], rfl, by omega, by omega, by simp, by simp, HQ0.out⟩
  case round =>
    obtain ⟨j, l, rfl, h1j, hj, hl, he, hq⟩ := hrel
    have zl : (⟨l.toArray⟩ : ByteArray).size ≤ 5000 := by show l.toArray.size ≤ 5000; rw [List.size_toArray]; omega
    clear x0 x1 x2 y0 HQ0
    by_cases hpj : j + 1 < s.size
    · obtain ⟨x0, x1, x2, xx⟩ := hq.cells
      have y2 := xx 2
      clear xx
      have z2 : wr.drew.cell? ⟨W.heap.size + 1, 2, none⟩ = some (.string ⟨l.toArray⟩) := x2
      have zf : wr.drew.frozen? ⟨W.heap.size + 1, 2, none⟩ = false := y2
      by_cases hc : (s[j]).toNat = 92
      · have hu := rq_two s j hpj hc
        have HS := Lib.hid (RqL.step s W wr wr j (j + 1) l h1j (by omega) hpj hl he hu hq)
        have ze : (s.extract (j + 1) (j + 1 + 1)).size = 1 := by simp; omega
        clear hu he hq hl
        generalize (⟨l.toArray⟩ : ByteArray) = X at zl x2 z2 HS
        go_wp2_with fail
        go_region
        all_goals
          go_wp2_with fail
          exact ⟨HS.out, by simp [intOf]; omega⟩
      · have hu := rq_one s j hpj hc
        have HS := Lib.hid (RqL.step s W wr wr j j l h1j (by omega) (by omega) hl he hu hq)
        have hc2 : (((s[j]).toNat : Int) == 92) = false := by rw [beq_eq_false_iff_ne]; omega
        have ze : (s.extract j (j + 1)).size = 1 := by simp; omega
        clear hu he hq hc hl
        generalize (⟨l.toArray⟩ : ByteArray) = X at zl x2 z2 HS
        go_wp2_with fail
        go_region
        all_goals
          go_wp2_with fail
          exact ⟨HS.out, by simp [intOf]; omega⟩
    · rw [rq_end s j (by omega), List.append_nil] at he
      have HQ := Lib.hid (show QS W 2 0 (uR s) wr by unfold uR; rw [← he]; exact hq)
      have hne := HNE.out
      clear he hq HNE
      obtain ⟨e0, e1, e2, _⟩ := HQ.out.cells
      go_wp2_with fail
      refine (HP.out _).mono ?_
      rintro e w3 ⟨rfl, hb⟩
      have HQ3 := Lib.hid (HQ.out.below hb)
      clear hb HQ e0 e1 e2
      obtain ⟨f0, f1, f2, gg⟩ := HQ3.out.rcells
      have q0 := gg 0
      have q1 := gg 1
      have q2 := gg 2
      obtain ⟨e0, e1, e2, _⟩ := HQ3.out.cells
      dsimp only
      cases b
      · go_wp2_with fail
        have r0 : (w3.setCell ⟨W.heap.size, 0, none⟩ (.int .i64 0)).cell? ⟨W.heap.size, 0, none⟩ = some (.int .i64 0) := by go_cell
        have r1 : ((w3.setCell ⟨W.heap.size, 0, none⟩ (.int .i64 0)).setCell ⟨W.heap.size, 1, none⟩ (.int .i64 0)).cell? ⟨W.heap.size, 1, none⟩ = some (.int .i64 0) := by go_cell
        have r2 : (((w3.setCell ⟨W.heap.size, 0, none⟩ (.int .i64 0)).setCell ⟨W.heap.size, 1, none⟩ (.int .i64 0)).setCell ⟨W.heap.size, 2, none⟩ (.string ⟨#[]⟩)).cell? ⟨W.heap.size, 2, none⟩ = some (.string ⟨#[]⟩) := by go_cell
        refine bodyPost_ret (v := .tuple #[vV 0 0 ⟨#[]⟩, .bool false]) (by simp [results, Tryz.results14, go_sem, vV, r0, r1, r2]) rfl ⟨rfl, HQ3.out.ret _ _ _⟩
      · go_wp2_with fail
        have r0 : (w3.setCell ⟨W.heap.size, 0, none⟩ (.int .i64 2)).cell? ⟨W.heap.size, 0, none⟩ = some (.int .i64 2) := by go_cell
        have r1 : ((w3.setCell ⟨W.heap.size, 0, none⟩ (.int .i64 2)).setCell ⟨W.heap.size, 1, none⟩ (.int .i64 0)).cell? ⟨W.heap.size, 1, none⟩ = some (.int .i64 0) := by go_cell
        have r2 : (((w3.setCell ⟨W.heap.size, 0, none⟩ (.int .i64 2)).setCell ⟨W.heap.size, 1, none⟩ (.int .i64 0)).setCell ⟨W.heap.size, 2, none⟩ (.string (uR s))).cell? ⟨W.heap.size, 2, none⟩ = some (.string (uR s)) := by go_cell
        refine bodyPost_ret (v := .tuple #[vV 2 0 (uR s), .bool true]) (by simp [results, Tryz.results14, go_sem, vV, r0, r1, r2]) rfl ⟨rfl, HQ3.out.ret _ _ _⟩
end Go.Proofs.YtcjidlgmbjebjaaGreatDoor
