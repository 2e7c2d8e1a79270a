/- A part of the proof of SchemaForms. -/
import Derived.Test.YtcjidlgmbjebjaaDoorSfi
import Derived.Test.YtcjidlgmbjebjaaDoorPSchemaFormsx0
import Derived.Test.YtcjidlgmbjebjaaDoorPSchemaFormsx1
import Derived.Laws.BitsLemmas
set_option linter.unusedVariables false
set_option linter.unusedSimpArgs false
set_option maxRecDepth 100000
namespace Go.Proofs.YtcjidlgmbjebjaaDoor
open Go Go.RowKit Go.Proofs.YtcjidlgmbjebjaaDoorW.PrintWords
/-- A method that hands nothing back. -/
def RetN (p : Nat) (s : Sb.Src) (W : World) (e : Ending) (w' : World) : Prop := e = .returned (.tuple #[]) ∧ SrcP w' p s ∧ Keep1 p W w'
set_option maxHeartbeats 2000000 in
theorem fail_val (p : Nat) (l : List Int) (er : Int) (W : World) (hs : SrcP W p (0, l)) : Calls Tryd.prog 150 #[.pointer (some ⟨p, 0, none⟩), .int .i64 er] W (RetN p (er, []) W) := by
  obtain ⟨v, ⟨h, _⟩, _⟩ := hs
  have c2 : W.cell? ⟨p, 2, none⟩ = some (.int .i64 0) := by rw [Lib.cell_of_heap h]; rfl
  have c1 : W.cell? ⟨p, 1, none⟩ = some v := by rw [Lib.cell_of_heap h]; rfl
  have f2 : W.frozen? ⟨p, 2, none⟩ = false := Lib.frozen_of_heap h 2
  have f1 : W.frozen? ⟨p, 1, none⟩ = false := Lib.frozen_of_heap h 1
  have H := Lib.hid h; clear h
  go_enter Tryd.func150, Tryd.ntmps150
  go_wp2
  go_end0
  have h2 := heap_setCell_same W p 2 _ _ (.int .i64 er) H.out
  have h1 := heap_setCell_same _ p 1 _ _ (.slice none 0 0) h2
  exact ⟨rfl, ⟨_, ⟨h1, vlt_nil _ _ _⟩, slb_nil _ _ _⟩, ((Keep1.refl p W).set 2 _).set 1 _⟩
def RetDo (p : Nat) (l : List Int) (Q : Int → Int → World → Prop) (e : Ending) (w' : World) : Prop :=
  ∃ n er : Int, e = .returned (.tuple #[.int .i64 n, .int .i64 er]) ∧ SrcP w' p (0, l) ∧ (er = 0 → 0 ≤ n ∧ n ≤ l.length) ∧ Q n er w'
theorem slb_cut {w : World} {A A' : Option Addr} {c n : Nat} {l : List Int} (hn : n ≤ l.length) (hc : l.length ≤ c) (hC : Kd.C (Kd.int .u8) w A l.length l) (hA : c ≠ n → A' = A.map (fun x => x.add n)) : SlB w (.slice A' (l.length - n) (c - n)) (l.drop n) := by
  have hl : (l.drop n).length = l.length - n := List.length_drop
  by_cases h0 : l.length = n
  · have h1 : l.drop n = [] := List.eq_nil_of_length_eq_zero (by omega)
    rw [h1, show l.length - n = 0 by omega]
    exact slb_nil _ _ _
  · obtain ⟨ad, rfl, _⟩ := kC_at hC (by omega)
    rw [hA (by omega)]
    have := kC_drop n hC
    rw [← hl]
    exact ⟨_, _, rfl, by omega, this⟩
/-- What a step leaves: the closure's word, and the source behind it. -/
def RetStep (p : Nat) (l : List Int) (Q : Int → Int → World → Prop) (e : Ending) (w' : World) : Prop :=
  e = .returned (.tuple #[]) ∧ ∃ (n er : Int) (w1 : World), Q n er w1 ∧ ((er = 0 ∧ SrcP w' p (0, l.drop n.toNat) ∧ Keep1 p w1 w') ∨ (er ≠ 0 ∧ SrcP w' p (er, []) ∧ Keep1 p w1 w'))
set_option maxHeartbeats 2000000 in
theorem step_151 (p : Nat) (caps : Array Value) (l : List Int) (W : World) (hs : SrcP W p (0, l)) (Q : Int → Int → World → Prop) (hdo : Calls Tryd.prog 151 caps W (RetDo p l Q)) :
    Calls Tryd.prog 120 #[.pointer (some ⟨p, 0, none⟩), .func (.func 151) #[] caps] W (RetStep p l Q) := by
  have HI := Lib.hid (is_val p (0, l) W hs)
  obtain ⟨v, ⟨h, _⟩, _⟩ := hs
  have c2 : W.cell? ⟨p, 2, none⟩ = some (.int .i64 0) := by rw [Lib.cell_of_heap h]; rfl
  clear h
  have HD := Lib.hid hdo; clear hdo
  go_enter Tryd.func120, Tryd.ntmps120
  go_wp2_with fail
  refine HI.out.mono ?_
  rintro e w ⟨rfl, rfl⟩
  dsimp only
  go_wp2_with fail
  refine HD.out.mono ?_
  rintro e w1 ⟨n, er, rfl, hs1, hn, hq⟩
  have HS1 := Lib.hid hs1
  have HQ := Lib.hid hq
  clear hs1 hq c2
  dsimp only
  by_cases he : er = 0
  · subst he
    obtain ⟨n0, n1⟩ := hn rfl
    obtain ⟨v1, ⟨h1, hq1⟩, A, c, rfl, hc, hC⟩ := HS1.out
    have c1 : w1.cell? ⟨p, 1, none⟩ = some (.slice A l.length c) := by rw [Lib.cell_of_heap h1]; rfl
    have f1 : w1.frozen? ⟨p, 1, none⟩ = false := Lib.frozen_of_heap h1 1
    have H1 := Lib.hid h1
    have HC := Lib.hid hC
    clear h1 hC hn
    go_wp2_with fail
    · go_end0
      rename_i hcn
      have hx : SlB w1 (.slice A (l.length - n.toNat) 0) (l.drop n.toNat) := by
        have h1 : l.drop n.toNat = [] := List.eq_nil_of_length_eq_zero (by rw [List.length_drop]; omega)
        rw [h1, show l.length - n.toNat = 0 by omega]
        exact slb_nil _ _ _
      exact ⟨rfl, n, 0, w1, HQ.out, .inl ⟨rfl, ⟨_, ⟨heap_setCell_same w1 p 1 _ _ _ H1.out, vlt_same hq1⟩, slb_keep (p := p) hx (src_nobyte HS1.out) ((Keep1.refl p w1).set 1 _)⟩, (Keep1.refl p w1).set 1 _⟩⟩
    · go_end0
      exact ⟨rfl, n, 0, w1, HQ.out, .inl ⟨rfl, ⟨_, ⟨heap_setCell_same w1 p 1 _ _ _ H1.out, vlt_map hq1⟩, slb_keep (p := p) (slb_cut (by omega) hc HC.out (fun h => rfl)) (src_nobyte HS1.out) ((Keep1.refl p w1).set 1 _)⟩, (Keep1.refl p w1).set 1 _⟩⟩
  · go_wp2_with fail
    refine (fail_val p l er _ HS1.out).mono ?_
    rintro e w2 ⟨rfl, hs2, hk2⟩
    have HS2 := Lib.hid hs2
    have HK2 := Lib.hid hk2
    clear hs2 hk2
    dsimp only
    go_wp2_with fail
    go_end0
    exact ⟨rfl, n, er, w1, HQ.out, .inr ⟨he, HS2.out, HK2.out⟩⟩

set_option maxHeartbeats 2000000 in
theorem step_121 (p : Nat) (caps : Array Value) (l : List Int) (W : World) (hs : SrcP W p (0, l)) (Q : Int → Int → World → Prop) (hdo : Calls Tryd.prog 121 caps W (RetDo p l Q)) :
    Calls Tryd.prog 120 #[.pointer (some ⟨p, 0, none⟩), .func (.func 121) #[] caps] W (RetStep p l Q) := by
  have HI := Lib.hid (is_val p (0, l) W hs)
  obtain ⟨v, ⟨h, _⟩, _⟩ := hs
  have c2 : W.cell? ⟨p, 2, none⟩ = some (.int .i64 0) := by rw [Lib.cell_of_heap h]; rfl
  clear h
  have HD := Lib.hid hdo; clear hdo
  go_enter Tryd.func120, Tryd.ntmps120
  go_wp2_with fail
  refine HI.out.mono ?_
  rintro e w ⟨rfl, rfl⟩
  dsimp only
  go_wp2_with fail
  refine HD.out.mono ?_
  rintro e w1 ⟨n, er, rfl, hs1, hn, hq⟩
  have HS1 := Lib.hid hs1
  have HQ := Lib.hid hq
  clear hs1 hq c2
  dsimp only
  by_cases he : er = 0
  · subst he
    obtain ⟨n0, n1⟩ := hn rfl
    obtain ⟨v1, ⟨h1, hq1⟩, A, c, rfl, hc, hC⟩ := HS1.out
    have c1 : w1.cell? ⟨p, 1, none⟩ = some (.slice A l.length c) := by rw [Lib.cell_of_heap h1]; rfl
    have f1 : w1.frozen? ⟨p, 1, none⟩ = false := Lib.frozen_of_heap h1 1
    have H1 := Lib.hid h1
    have HC := Lib.hid hC
    clear h1 hC hn
    go_wp2_with fail
    · go_end0
      rename_i hcn
      have hx : SlB w1 (.slice A (l.length - n.toNat) 0) (l.drop n.toNat) := by
        have h1 : l.drop n.toNat = [] := List.eq_nil_of_length_eq_zero (by rw [List.length_drop]; omega)
        rw [h1, show l.length - n.toNat = 0 by omega]
        exact slb_nil _ _ _
      exact ⟨rfl, n, 0, w1, HQ.out, .inl ⟨rfl, ⟨_, ⟨heap_setCell_same w1 p 1 _ _ _ H1.out, vlt_same hq1⟩, slb_keep (p := p) hx (src_nobyte HS1.out) ((Keep1.refl p w1).set 1 _)⟩, (Keep1.refl p w1).set 1 _⟩⟩
    · go_end0
      exact ⟨rfl, n, 0, w1, HQ.out, .inl ⟨rfl, ⟨_, ⟨heap_setCell_same w1 p 1 _ _ _ H1.out, vlt_map hq1⟩, slb_keep (p := p) (slb_cut (by omega) hc HC.out (fun h => rfl)) (src_nobyte HS1.out) ((Keep1.refl p w1).set 1 _)⟩, (Keep1.refl p w1).set 1 _⟩⟩
  · go_wp2_with fail
    refine (fail_val p l er _ HS1.out).mono ?_
    rintro e w2 ⟨rfl, hs2, hk2⟩
    have HS2 := Lib.hid hs2
    have HK2 := Lib.hid hk2
    clear hs2 hk2
    dsimp only
    go_wp2_with fail
    go_end0
    exact ⟨rfl, n, er, w1, HQ.out, .inr ⟨he, HS2.out, HK2.out⟩⟩

set_option maxHeartbeats 2000000 in
theorem step_185 (p : Nat) (caps : Array Value) (l : List Int) (W : World) (hs : SrcP W p (0, l)) (Q : Int → Int → World → Prop) (hdo : Calls Tryd.prog 185 caps W (RetDo p l Q)) :
    Calls Tryd.prog 120 #[.pointer (some ⟨p, 0, none⟩), .func (.func 185) #[] caps] W (RetStep p l Q) := by
  have HI := Lib.hid (is_val p (0, l) W hs)
  obtain ⟨v, ⟨h, _⟩, _⟩ := hs
  have c2 : W.cell? ⟨p, 2, none⟩ = some (.int .i64 0) := by rw [Lib.cell_of_heap h]; rfl
  clear h
  have HD := Lib.hid hdo; clear hdo
  go_enter Tryd.func120, Tryd.ntmps120
  go_wp2_with fail
  refine HI.out.mono ?_
  rintro e w ⟨rfl, rfl⟩
  dsimp only
  go_wp2_with fail
  refine HD.out.mono ?_
  rintro e w1 ⟨n, er, rfl, hs1, hn, hq⟩
  have HS1 := Lib.hid hs1
  have HQ := Lib.hid hq
  clear hs1 hq c2
  dsimp only
  by_cases he : er = 0
  · subst he
    obtain ⟨n0, n1⟩ := hn rfl
    obtain ⟨v1, ⟨h1, hq1⟩, A, c, rfl, hc, hC⟩ := HS1.out
    have c1 : w1.cell? ⟨p, 1, none⟩ = some (.slice A l.length c) := by rw [Lib.cell_of_heap h1]; rfl
    have f1 : w1.frozen? ⟨p, 1, none⟩ = false := Lib.frozen_of_heap h1 1
    have H1 := Lib.hid h1
    have HC := Lib.hid hC
    clear h1 hC hn
    go_wp2_with fail
    · go_end0
      rename_i hcn
      have hx : SlB w1 (.slice A (l.length - n.toNat) 0) (l.drop n.toNat) := by
        have h1 : l.drop n.toNat = [] := List.eq_nil_of_length_eq_zero (by rw [List.length_drop]; omega)
        rw [h1, show l.length - n.toNat = 0 by omega]
        exact slb_nil _ _ _
      exact ⟨rfl, n, 0, w1, HQ.out, .inl ⟨rfl, ⟨_, ⟨heap_setCell_same w1 p 1 _ _ _ H1.out, vlt_same hq1⟩, slb_keep (p := p) hx (src_nobyte HS1.out) ((Keep1.refl p w1).set 1 _)⟩, (Keep1.refl p w1).set 1 _⟩⟩
    · go_end0
      exact ⟨rfl, n, 0, w1, HQ.out, .inl ⟨rfl, ⟨_, ⟨heap_setCell_same w1 p 1 _ _ _ H1.out, vlt_map hq1⟩, slb_keep (p := p) (slb_cut (by omega) hc HC.out (fun h => rfl)) (src_nobyte HS1.out) ((Keep1.refl p w1).set 1 _)⟩, (Keep1.refl p w1).set 1 _⟩⟩
  · go_wp2_with fail
    refine (fail_val p l er _ HS1.out).mono ?_
    rintro e w2 ⟨rfl, hs2, hk2⟩
    have HS2 := Lib.hid hs2
    have HK2 := Lib.hid hk2
    clear hs2 hk2
    dsimp only
    go_wp2_with fail
    go_end0
    exact ⟨rfl, n, er, w1, HQ.out, .inr ⟨he, HS2.out, HK2.out⟩⟩


set_option maxHeartbeats 2000000 in
theorem step_err (p : Nat) (f : Value) (s : Sb.Src) (he : s.1 ≠ 0) (W : World) (hs : SrcP W p s) : Calls Tryd.prog 120 #[.pointer (some ⟨p, 0, none⟩), f] W (Same1 (.tuple #[]) W) := by
  have HI := Lib.hid (is_val p s W hs)
  obtain ⟨er, l⟩ := s
  obtain ⟨v, ⟨h, _⟩, _⟩ := hs
  have c2 : W.cell? ⟨p, 2, none⟩ = some (.int .i64 er) := by rw [Lib.cell_of_heap h]; rfl
  clear h
  dsimp only at he
  go_enter Tryd.func120, Tryd.ntmps120
  go_wp2_with fail
  refine HI.out.mono ?_
  rintro e w ⟨rfl, rfl⟩
  dsimp only
  go_wp2_with fail
  go_end0
  exact ⟨rfl, rfl⟩
end Go.Proofs.YtcjidlgmbjebjaaDoor

namespace Go.Proofs.YtcjidlgmbjebjaaDoor.PSchemaForms
open Go.RowKit Go.Proofs.YtcjidlgmbjebjaaDoorW.PrintWords Go.Proofs.YtcjidlgmbjebjaaDoorW.PrintLast Go.Proofs.YtcjidlgmbjebjaaDoorW.PrintMore
attribute [local go_sem] max2_int min2_int max_two min_two max_three min_three max_four min_four
attribute [local go_sem high] eqA65
mutual
def hachureref02_Get.j0 : Nat → List Int → Int → Bool → Bool → Option (Int × Bool)
  | 0, _, _, _, _ => none
  | k + 1, x0, x1, x2, x22 => if x22 = true then (some (0, false)) else (hachureref02_Get.l0 k x0 x1 x2 0 0)
def hachureref02_Get.l0 : Nat → List Int → Int → Bool → Int → Int → Option (Int × Bool)
  | 0, _, _, _, _, _ => none
  | k + 1, x0, x1, x2, x8, x9 => if x9 < x1 then (if x2 = true then (if 0 ≤ (wrap64 ((wrap64 (x1 - 1)) - x9)) then (if (wrap64 ((wrap64 (x1 - 1)) - x9)) < (x0.length : Int) then (hachureref02_Get.l0 k x0 x1 x2 (Go.bits .or .u64 (IntKind.u64.wrap (x8 * 256)) (IntKind.u64.wrap (rd x0 (wrap64 ((wrap64 (x1 - 1)) - x9))))) (wrap64 (x9 + 1))) else (none)) else (none)) else (if 0 ≤ x9 then (if x9 < (x0.length : Int) then (hachureref02_Get.l0 k x0 x1 x2 (Go.bits .or .u64 (IntKind.u64.wrap (x8 * 256)) (IntKind.u64.wrap (rd x0 x9))) (wrap64 (x9 + 1))) else (none)) else (none))) else (some (x8, true))
end
def hachureref02_Get.f (k : Nat) (l0 : List Int) (a1 : Int) (a2 : Bool) : Option (Int × Bool) := if a1 < 1 then (hachureref02_Get.j0 k l0 a1 a2 true) else (if a1 > 8 then (hachureref02_Get.j0 k l0 a1 a2 true) else (hachureref02_Get.j0 k l0 a1 a2 (decide ((l0.length : Int) < a1))))
theorem hachureref02_Get.mono_l : ∀ k, (∀ y0 y1 y2 y3, LeO (hachureref02_Get.j0 k y0 y1 y2 y3) (hachureref02_Get.j0 (k + 1) y0 y1 y2 y3)) ∧ (∀ y0 y1 y2 y3 y4, LeO (hachureref02_Get.l0 k y0 y1 y2 y3 y4) (hachureref02_Get.l0 (k + 1) y0 y1 y2 y3 y4))
  | 0 => ⟨fun _ _ _ _ r h => by simp [hachureref02_Get.j0] at h, fun _ _ _ _ _ r h => by simp [hachureref02_Get.l0] at h⟩
  | k + 1 => by
    obtain ⟨ih0, ih1⟩ := hachureref02_Get.mono_l k
    refine ⟨?_, ?_⟩
    · intro y0 y1 y2 y3
      unfold hachureref02_Get.j0
      repeat' first
      | (with_reducible exact ih0 _ _ _ _)
      | (with_reducible exact ih1 _ _ _ _ _)
      | (with_reducible exact LeO.refl _)
      | (with_reducible exact LeO.none _)
      | (with_reducible refine LeO.ite ?_ ?_)
      | (with_reducible refine LeO.bind ?_ (fun _ => ?_))
      | exact ih0 _ _ _ _
      | exact ih1 _ _ _ _ _
      | exact LeO.none _
      | refine LeO.ite ?_ ?_
      | refine LeO.bind ?_ (fun _ => ?_)
    · intro y0 y1 y2 y3 y4
      unfold hachureref02_Get.l0
      repeat' first
      | (with_reducible exact ih0 _ _ _ _)
      | (with_reducible exact ih1 _ _ _ _ _)
      | (with_reducible exact LeO.refl _)
      | (with_reducible exact LeO.none _)
      | (with_reducible refine LeO.ite ?_ ?_)
      | (with_reducible refine LeO.bind ?_ (fun _ => ?_))
      | exact ih0 _ _ _ _
      | exact ih1 _ _ _ _ _
      | exact LeO.none _
      | refine LeO.ite ?_ ?_
      | refine LeO.bind ?_ (fun _ => ?_)
theorem hachureref02_Get.mono : ∀ a0 a1 a2 k, LeO (hachureref02_Get.f k a0 a1 a2) (hachureref02_Get.f (k + 1) a0 a1 a2) := by
  intro a0 a1 a2 k
  obtain ⟨ih0, ih1⟩ := hachureref02_Get.mono_l k
  unfold hachureref02_Get.f
  repeat' first
      | (with_reducible exact ih0 _ _ _ _)
      | (with_reducible exact ih1 _ _ _ _ _)
      | (with_reducible exact LeO.refl _)
      | (with_reducible exact LeO.none _)
      | (with_reducible refine LeO.ite ?_ ?_)
      | (with_reducible refine LeO.bind ?_ (fun _ => ?_))
      | exact ih0 _ _ _ _
      | exact ih1 _ _ _ _ _
      | exact LeO.none _
      | refine LeO.ite ?_ ?_
      | refine LeO.bind ?_ (fun _ => ?_)
set_option maxHeartbeats 8000000 in
set_option maxRecDepth 100000 in
theorem hachureref02_Get.calls (k : Nat) (A0 : Option Addr) (c0 : Nat) (l0 : List Int) (a1 : Int) (a2 : Bool) (r1 : Int) (r2 : Bool) (w : World) (hr0 : Kd.C (Kd.int .u8) w A0 l0.length l0) (hc0 : l0.length ≤ c0) (h : hachureref02_Get.f k l0 a1 a2 = some (r1, r2)) :
    Calls Tryd.prog 153 #[.slice A0 l0.length c0, .int .i64 a1, .bool a2] w fun e w' => e = .returned (.tuple #[.int .u64 r1, .bool r2]) ∧ Drawn0 w w' := by
  have HR0 := Aside0.mk hr0
  have HC0 := Aside0.mk hc0
  clear hr0 hc0
  have H : (if a1 < 1 then (hachureref02_Get.j0 k l0 a1 a2 true) else (if a1 > 8 then (hachureref02_Get.j0 k l0 a1 a2 true) else (hachureref02_Get.j0 k l0 a1 a2 (decide ((l0.length : Int) < a1))))) = some (r1, r2) := h
  clear h
  have HC4 := Aside0.mk H
  clear H
  go_enter Tryd.func153, Tryd.ntmps153
  go_upto_region 1 with (fail)
  go_cut [22] (fun v22 wc => ∃ (kq : Nat) (x22_3 : Bool), v22 = .bool x22_3 ∧ Aside0 (hachureref02_Get.j0 kq l0 a1 a2 x22_3 = some (r1, r2)) ∧ Aside0 (kq ≤ k) ∧ Drawn0 w wc)
  case first =>
    have H := HC4.out
    clear HC4
    by_cases c5 : a1 < 1
    · rw [if_pos c5] at H
      have c5b0 : decide (a1 < 1) = true := decide_eq_true c5
      clear c5
      (first | rw [c5b0] | (simp only [i64_w, i32_w]; rw [c5b0]) | skip)
      have H' := Aside0.mk H
      clear H
      go_wp2
      go_meet
      case rel => exact ⟨_, (true), (by first | rfl | (simp; done) | (simp [*]; done)), H', ⟨by first | omega | exact Nat.le_refl _⟩, by repeat (first | exact Drawn0.refl _ | apply Drawn0.step)⟩
    · rw [if_neg c5] at H
      have c5b0 : decide (a1 < 1) = false := decide_eq_false c5
      clear c5
      (first | rw [c5b0] | (simp only [i64_w, i32_w]; rw [c5b0]) | skip)
      by_cases c6 : a1 > 8
      · rw [if_pos c6] at H
        have c6b0 : decide (8 < a1) = true := decide_eq_true c6
        clear c6
        have H' := Aside0.mk H
        clear H
        go_wp2
        go_meet
        case rel => exact ⟨_, (true), (by first | rfl | (simp; done) | (simp [*]; done)), H', ⟨by first | omega | exact Nat.le_refl _⟩, by repeat (first | exact Drawn0.refl _ | apply Drawn0.step)⟩
      · rw [if_neg c6] at H
        have c6b0 : decide (8 < a1) = false := decide_eq_false c6
        clear c6
        have H' := Aside0.mk H
        clear H
        go_wp2
        go_meet
        case rel => exact ⟨_, (decide ((l0.length : Int) < a1)), (by first | rfl | (simp; done) | (simp [*]; done)), H', ⟨by first | omega | exact Nat.le_refl _⟩, by repeat (first | exact Drawn0.refl _ | apply Drawn0.step)⟩
  case rest =>
    clear HC4
    try clear c1
    try clear p2
    try clear c5
    try clear c5b0
    try clear c6
    try clear c6b0
    obtain ⟨kq, x22_3, rfl, HA, HJ3, ⟨mc3, rfl⟩⟩ := hcut
    cases kq with
    | zero => exact absurd HA.out (by simp [hachureref02_Get.j0])
    | succ kj3 =>
      have H := HA.out
      clear HA
      simp only [hachureref02_Get.j0] at H
      by_cases c7 : x22_3 = true
      · subst c7
        have H1 : (some (0, false)) = some (r1, r2) := by rw [if_pos rfl] at H; exact H
        clear H
        have H := H1
        clear H1
        simp only [Option.some.injEq, Prod.mk.injEq] at H
        obtain ⟨rfl, rfl⟩ := H
        go_wp2
        go_ret2
        exact ⟨by first | rfl | (simp; done) | (simp [*]; done), by repeat (first | exact Drawn0.refl _ | apply Drawn0.step)⟩
      · replace c7 := Bool.eq_false_iff.mpr c7
        subst c7
        have H1 : (hachureref02_Get.l0 kj3 l0 a1 a2 0 0) = some (r1, r2) := by rw [if_neg (show ¬ (false = true) by decide)] at H; exact H
        clear H
        have H := H1
        clear H1
        have H' := Aside0.mk H
        clear H
        go_wp2
        go_loopg [8, 9] kj3 (fun kq v8 v9 w' => ∃ (x8_2 : Int) (x9_2 : Int), v8 = .int .u64 x8_2 ∧ v9 = .int .i64 x9_2 ∧ Aside0 (hachureref02_Get.l0 kq l0 a1 a2 x8_2 x9_2 = some (r1, r2)) ∧ Aside0 (kq ≤ kj3) ∧ Drawn0 w w')
        case atStart => exact ⟨(0), (0), (by first | rfl | (simp; done) | (simp [*]; done)), (by first | rfl | (simp; done) | (simp [*]; done)), H', ⟨Nat.le_refl _⟩, by repeat (first | exact Drawn0.refl _ | apply Drawn0.step)⟩
        case round =>
          clear H'
          try clear c1
          try clear p2
          try clear c3
          try clear c5
          try clear c5b0
          try clear c6
          try clear c6b0
          try clear c7
          try clear p2
          obtain ⟨x8_2, x9_2, rfl, rfl, HA, HK2, ⟨m2, rfl⟩⟩ := hrel
          cases gk with
          | zero => exact absurd HA.out (by simp [hachureref02_Get.l0])
          | succ k2 =>
            have H := HA.out
            clear HA
            simp only [hachureref02_Get.l0] at H
            by_cases c8 : x9_2 < a1
            · rw [if_pos c8] at H
              have c8b0 : decide (x9_2 < a1) = true := decide_eq_true c8
              clear c8
              by_cases c9 : a2 = true
              · subst c9
                have H1 : (if 0 ≤ (wrap64 ((wrap64 (a1 - 1)) - x9_2)) then (if (wrap64 ((wrap64 (a1 - 1)) - x9_2)) < (l0.length : Int) then (hachureref02_Get.l0 k2 l0 a1 true (Go.bits .or .u64 (IntKind.u64.wrap (x8_2 * 256)) (IntKind.u64.wrap (rd l0 (wrap64 ((wrap64 (a1 - 1)) - x9_2))))) (wrap64 (x9_2 + 1))) else (none)) else (none)) = some (r1, r2) := by rw [if_pos rfl] at H; exact H
                clear H
                have H := H1
                clear H1
                obtain ⟨ji10, hji10⟩ : ∃ j_ : Int, (wrap64 ((wrap64 (a1 - 1)) - x9_2)) = j_ := ⟨_, rfl⟩
                replace H : (if 0 ≤ (ji10) then (if (ji10) < (l0.length : Int) then (hachureref02_Get.l0 k2 l0 a1 true (Go.bits .or .u64 (IntKind.u64.wrap (x8_2 * 256)) (IntKind.u64.wrap (rd l0 (ji10)))) (wrap64 (x9_2 + 1))) else (none)) else (none)) = some (r1, r2) := by first | (rw [hji10] at H; exact H) | (simp only [hji10] at H ⊢; exact H)
                have hji10w : (IntKind.i64.wrap ((wrap64 (a1 - 1)) - x9_2)) = ji10 := (i64_w _).trans hji10
                by_cases c11 : 0 ≤ (ji10)
                · rw [if_pos c11] at H
                  have c11b0 : decide (0 ≤ (ji10)) = true := decide_eq_true c11
                  clear c11
                  by_cases c12 : (ji10) < (l0.length : Int)
                  · rw [if_pos c12] at H
                    have c12b0 : decide ((ji10) < (l0.length : Int)) = true := decide_eq_true c12
                    clear c12
                    have H' := Aside0.mk H
                    clear H
                    have p207 : 0 ≤ ((ji10) : Int) := of_decide_eq_true (by first | (with_reducible assumption) | assumption)
                    have q207 : (ji10) < (l0.length : Int) := of_decide_eq_true (by first | (with_reducible assumption) | assumption)
                    obtain ⟨ad207, e207, hx207_0⟩ := Kd.at_int HR0.out (ji10) p207 q207
                    cases e207
                    replace p207 := eq_true p207
                    replace q207 := eq_true q207
                    go_wp2
                    go_roundg k2
                    case measure => have := HJ3.out; have := HK2.out; omega
                    case rel => exact ⟨(Go.bits .or .u64 (IntKind.u64.wrap (x8_2 * 256)) (IntKind.u64.wrap (rd l0 (ji10)))), (wrap64 (x9_2 + 1)), (by first | rfl | (simp; done) | (simp only [← hji10] <;> (first | rfl | simp)) | (simp [*]; done)), (by first | rfl | (simp; done) | (simp [*]; done)), H', ⟨by have := HJ3.out; have := HK2.out; omega⟩, by repeat (first | exact Drawn0.refl _ | apply Drawn0.step)⟩
                  · rw [if_neg c12] at H
                    exact absurd H (by simp)
                · rw [if_neg c11] at H
                  exact absurd H (by simp)
              · replace c9 := Bool.eq_false_iff.mpr c9
                subst c9
                have H1 : (if 0 ≤ x9_2 then (if x9_2 < (l0.length : Int) then (hachureref02_Get.l0 k2 l0 a1 false (Go.bits .or .u64 (IntKind.u64.wrap (x8_2 * 256)) (IntKind.u64.wrap (rd l0 x9_2))) (wrap64 (x9_2 + 1))) else (none)) else (none)) = some (r1, r2) := by rw [if_neg (show ¬ (false = true) by decide)] at H; exact H
                clear H
                have H := H1
                clear H1
                by_cases c13 : 0 ≤ x9_2
                · rw [if_pos c13] at H
                  have c13b0 : decide (0 ≤ x9_2) = true := decide_eq_true c13
                  clear c13
                  by_cases c14 : x9_2 < (l0.length : Int)
                  · rw [if_pos c14] at H
                    have c14b0 : decide (x9_2 < (l0.length : Int)) = true := decide_eq_true c14
                    clear c14
                    have H' := Aside0.mk H
                    clear H
                    have p208 : 0 ≤ (x9_2 : Int) := of_decide_eq_true (by first | (with_reducible assumption) | assumption)
                    have q208 : x9_2 < (l0.length : Int) := of_decide_eq_true (by first | (with_reducible assumption) | assumption)
                    obtain ⟨ad208, e208, hx208_0⟩ := Kd.at_int HR0.out x9_2 p208 q208
                    cases e208
                    replace p208 := eq_true p208
                    replace q208 := eq_true q208
                    go_wp2
                    go_roundg k2
                    case measure => have := HJ3.out; have := HK2.out; omega
                    case rel => exact ⟨(Go.bits .or .u64 (IntKind.u64.wrap (x8_2 * 256)) (IntKind.u64.wrap (rd l0 x9_2))), (wrap64 (x9_2 + 1)), (by first | rfl | (simp; done) | (simp [*]; done)), (by first | rfl | (simp; done) | (simp [*]; done)), H', ⟨by have := HJ3.out; have := HK2.out; omega⟩, by repeat (first | exact Drawn0.refl _ | apply Drawn0.step)⟩
                  · rw [if_neg c14] at H
                    exact absurd H (by simp)
                · rw [if_neg c13] at H
                  exact absurd H (by simp)
            · rw [if_neg c8] at H
              have c8b0 : decide (x9_2 < a1) = false := decide_eq_false c8
              clear c8
              simp only [Option.some.injEq, Prod.mk.injEq] at H
              obtain ⟨rfl, rfl⟩ := H
              go_wp2
              go_ret2
              exact ⟨by first | rfl | (simp; done) | (simp [*]; done), by repeat (first | exact Drawn0.refl _ | apply Drawn0.step)⟩


end Go.Proofs.YtcjidlgmbjebjaaDoor.PSchemaForms

namespace Go.Proofs.YtcjidlgmbjebjaaDoor
open Go Go.RowKit Go.Proofs.YtcjidlgmbjebjaaDoorW.PrintWords
def Byt (l : List Int) : Prop := ∀ x ∈ l, 0 ≤ x ∧ x < 256
theorem wrapU64' : ∀ x : Int, 0 ≤ x → x < 2 ^ 64 → IntKind.u64.wrap x = x := by
  intro x h0 h1
  have : IntKind.u64.wrap x = x % 18446744073709551616 := by simp [IntKind.wrap, IntKind.bits, IntKind.signed]
  rw [this]; omega
theorem or256 (a b : Int) (h0 : 0 ≤ a) (h1 : a < 72057594037927936) (h2 : 0 ≤ b) (h3 : b < 256) : bits .or .u64 (IntKind.u64.wrap (a * 256)) (IntKind.u64.wrap b) = a * 256 + b := by
  rw [wrapU64' (a * 256) (by omega) (by omega), wrapU64' b h2 (by omega)]
  exact bits_join .u64 64 (by decide) wrapU64' 8 (a * 256) b (by omega) (by omega) (by omega) h2 (by omega) (by omega)

theorem eight (l : List Int) (h : 8 ≤ l.length) : ∃ a0 a1 a2 a3 a4 a5 a6 a7 r, l = a0 :: a1 :: a2 :: a3 :: a4 :: a5 :: a6 :: a7 :: r := by
  match l, h with
  | a0 :: a1 :: a2 :: a3 :: a4 :: a5 :: a6 :: a7 :: r, _ => exact ⟨a0, a1, a2, a3, a4, a5, a6, a7, r, rfl⟩

theorem octet_Get_short (l : List Int) (n : Int) (h1 : 1 ≤ n) (h8 : n ≤ 8) (h : (l.length : Int) < n) (k : Nat) : PSchemaForms.octet_Get.f (k + 1) l n false = some (0, false) := by
  unfold PSchemaForms.octet_Get.f
  rw [if_neg (by omega), if_neg (by omega), PSchemaForms.octet_Get.j0, if_pos (by simpa using h)]
theorem octet_Get_one (x : Int) (r : List Int) (h0 : 0 ≤ x) (h1 : x < 256) : PSchemaForms.octet_Get.f 10 (x :: r) 1 false = some (x, true) := by
  unfold PSchemaForms.octet_Get.f
  rw [if_neg (by omega), if_neg (by omega), PSchemaForms.octet_Get.j0, if_neg (by first | (simp; done) | (simp; omega)), PSchemaForms.octet_Get.l0, if_pos (by decide), if_neg (by decide), if_pos (by decide), if_pos (by first | (simp; done) | (simp; omega)), show wrap64 (0 + 1) = 1 by kernel_rfl, PSchemaForms.octet_Get.l0, if_neg (by decide)]
  have e : rd (x :: r) 0 = x := rfl
  rw [e, or256 0 x (by omega) (by omega) h0 h1]
  simp
theorem octet_Get_eight (a0 a1 a2 a3 a4 a5 a6 a7 : Int) (r : List Int) (h : Byt (a0 :: a1 :: a2 :: a3 :: a4 :: a5 :: a6 :: a7 :: r)) : PSchemaForms.octet_Get.f 10 (a0 :: a1 :: a2 :: a3 :: a4 :: a5 :: a6 :: a7 :: r) 8 false = some (Sb.be [a0, a1, a2, a3, a4, a5, a6, a7], true) := by
  have b0 := h a0 (by simp)
  have b1 := h a1 (by simp)
  have b2 := h a2 (by simp)
  have b3 := h a3 (by simp)
  have b4 := h a4 (by simp)
  have b5 := h a5 (by simp)
  have b6 := h a6 (by simp)
  have b7 := h a7 (by simp)
  unfold PSchemaForms.octet_Get.f
  rw [if_neg (by omega), if_neg (by omega), PSchemaForms.octet_Get.j0, if_neg (by first | (simp; done) | (simp; omega))]
  rw [PSchemaForms.octet_Get.l0, if_pos (by decide), if_neg (by decide), if_pos (by decide), if_pos (by first | (simp; done) | (simp; omega))]
  rw [show rd (a0 :: a1 :: a2 :: a3 :: a4 :: a5 :: a6 :: a7 :: r) 0 = a0 from rfl]
  simp only [show wrap64 (0 + 1) = 1 by kernel_rfl, show rd (a0 :: a1 :: a2 :: a3 :: a4 :: a5 :: a6 :: a7 :: r) 0 = a0 from rfl]
  rw [or256 (0) a0 (by omega) (by omega) b0.1 b0.2]
  rw [PSchemaForms.octet_Get.l0, if_pos (by decide), if_neg (by decide), if_pos (by decide), if_pos (by first | (simp; done) | (simp; omega))]
  simp only [show wrap64 (1 + 1) = 2 by kernel_rfl, show rd (a0 :: a1 :: a2 :: a3 :: a4 :: a5 :: a6 :: a7 :: r) 1 = a1 from rfl]
  rw [or256 (0 * 256 + a0) a1 (by omega) (by omega) b1.1 b1.2]
  rw [PSchemaForms.octet_Get.l0, if_pos (by decide), if_neg (by decide), if_pos (by decide), if_pos (by first | (simp; done) | (simp; omega))]
  simp only [show wrap64 (2 + 1) = 3 by kernel_rfl, show rd (a0 :: a1 :: a2 :: a3 :: a4 :: a5 :: a6 :: a7 :: r) 2 = a2 from rfl]
  rw [or256 ((0 * 256 + a0) * 256 + a1) a2 (by omega) (by omega) b2.1 b2.2]
  rw [PSchemaForms.octet_Get.l0, if_pos (by decide), if_neg (by decide), if_pos (by decide), if_pos (by first | (simp; done) | (simp; omega))]
  simp only [show wrap64 (3 + 1) = 4 by kernel_rfl, show rd (a0 :: a1 :: a2 :: a3 :: a4 :: a5 :: a6 :: a7 :: r) 3 = a3 from rfl]
  rw [or256 (((0 * 256 + a0) * 256 + a1) * 256 + a2) a3 (by omega) (by omega) b3.1 b3.2]
  rw [PSchemaForms.octet_Get.l0, if_pos (by decide), if_neg (by decide), if_pos (by decide), if_pos (by first | (simp; done) | (simp; omega))]
  simp only [show wrap64 (4 + 1) = 5 by kernel_rfl, show rd (a0 :: a1 :: a2 :: a3 :: a4 :: a5 :: a6 :: a7 :: r) 4 = a4 from rfl]
  rw [or256 ((((0 * 256 + a0) * 256 + a1) * 256 + a2) * 256 + a3) a4 (by omega) (by omega) b4.1 b4.2]
  rw [PSchemaForms.octet_Get.l0, if_pos (by decide), if_neg (by decide), if_pos (by decide), if_pos (by first | (simp; done) | (simp; omega))]
  simp only [show wrap64 (5 + 1) = 6 by kernel_rfl, show rd (a0 :: a1 :: a2 :: a3 :: a4 :: a5 :: a6 :: a7 :: r) 5 = a5 from rfl]
  rw [or256 (((((0 * 256 + a0) * 256 + a1) * 256 + a2) * 256 + a3) * 256 + a4) a5 (by omega) (by omega) b5.1 b5.2]
  rw [PSchemaForms.octet_Get.l0, if_pos (by decide), if_neg (by decide), if_pos (by decide), if_pos (by first | (simp; done) | (simp; omega))]
  simp only [show wrap64 (6 + 1) = 7 by kernel_rfl, show rd (a0 :: a1 :: a2 :: a3 :: a4 :: a5 :: a6 :: a7 :: r) 6 = a6 from rfl]
  rw [or256 ((((((0 * 256 + a0) * 256 + a1) * 256 + a2) * 256 + a3) * 256 + a4) * 256 + a5) a6 (by omega) (by omega) b6.1 b6.2]
  rw [PSchemaForms.octet_Get.l0, if_pos (by decide), if_neg (by decide), if_pos (by decide), if_pos (by first | (simp; done) | (simp; omega))]
  simp only [show wrap64 (7 + 1) = 8 by kernel_rfl, show rd (a0 :: a1 :: a2 :: a3 :: a4 :: a5 :: a6 :: a7 :: r) 7 = a7 from rfl]
  rw [or256 (((((((0 * 256 + a0) * 256 + a1) * 256 + a2) * 256 + a3) * 256 + a4) * 256 + a5) * 256 + a6) a7 (by omega) (by omega) b7.1 b7.2]
  rw [PSchemaForms.octet_Get.l0, if_neg (by decide)]
  rfl

theorem hachureref02_Get_short (l : List Int) (n : Int) (h1 : 1 ≤ n) (h8 : n ≤ 8) (h : (l.length : Int) < n) (k : Nat) : PSchemaForms.hachureref02_Get.f (k + 1) l n false = some (0, false) := by
  unfold PSchemaForms.hachureref02_Get.f
  rw [if_neg (by omega), if_neg (by omega), PSchemaForms.hachureref02_Get.j0, if_pos (by simpa using h)]
theorem hachureref02_Get_one (x : Int) (r : List Int) (h0 : 0 ≤ x) (h1 : x < 256) : PSchemaForms.hachureref02_Get.f 10 (x :: r) 1 false = some (x, true) := by
  unfold PSchemaForms.hachureref02_Get.f
  rw [if_neg (by omega), if_neg (by omega), PSchemaForms.hachureref02_Get.j0, if_neg (by first | (simp; done) | (simp; omega)), PSchemaForms.hachureref02_Get.l0, if_pos (by decide), if_neg (by decide), if_pos (by decide), if_pos (by first | (simp; done) | (simp; omega)), show wrap64 (0 + 1) = 1 by kernel_rfl, PSchemaForms.hachureref02_Get.l0, if_neg (by decide)]
  have e : rd (x :: r) 0 = x := rfl
  rw [e, or256 0 x (by omega) (by omega) h0 h1]
  simp
theorem hachureref02_Get_eight (a0 a1 a2 a3 a4 a5 a6 a7 : Int) (r : List Int) (h : Byt (a0 :: a1 :: a2 :: a3 :: a4 :: a5 :: a6 :: a7 :: r)) : PSchemaForms.hachureref02_Get.f 10 (a0 :: a1 :: a2 :: a3 :: a4 :: a5 :: a6 :: a7 :: r) 8 false = some (Sb.be [a0, a1, a2, a3, a4, a5, a6, a7], true) := by
  have b0 := h a0 (by simp)
  have b1 := h a1 (by simp)
  have b2 := h a2 (by simp)
  have b3 := h a3 (by simp)
  have b4 := h a4 (by simp)
  have b5 := h a5 (by simp)
  have b6 := h a6 (by simp)
  have b7 := h a7 (by simp)
  unfold PSchemaForms.hachureref02_Get.f
  rw [if_neg (by omega), if_neg (by omega), PSchemaForms.hachureref02_Get.j0, if_neg (by first | (simp; done) | (simp; omega))]
  rw [PSchemaForms.hachureref02_Get.l0, if_pos (by decide), if_neg (by decide), if_pos (by decide), if_pos (by first | (simp; done) | (simp; omega))]
  rw [show rd (a0 :: a1 :: a2 :: a3 :: a4 :: a5 :: a6 :: a7 :: r) 0 = a0 from rfl]
  simp only [show wrap64 (0 + 1) = 1 by kernel_rfl, show rd (a0 :: a1 :: a2 :: a3 :: a4 :: a5 :: a6 :: a7 :: r) 0 = a0 from rfl]
  rw [or256 (0) a0 (by omega) (by omega) b0.1 b0.2]
  rw [PSchemaForms.hachureref02_Get.l0, if_pos (by decide), if_neg (by decide), if_pos (by decide), if_pos (by first | (simp; done) | (simp; omega))]
  simp only [show wrap64 (1 + 1) = 2 by kernel_rfl, show rd (a0 :: a1 :: a2 :: a3 :: a4 :: a5 :: a6 :: a7 :: r) 1 = a1 from rfl]
  rw [or256 (0 * 256 + a0) a1 (by omega) (by omega) b1.1 b1.2]
  rw [PSchemaForms.hachureref02_Get.l0, if_pos (by decide), if_neg (by decide), if_pos (by decide), if_pos (by first | (simp; done) | (simp; omega))]
  simp only [show wrap64 (2 + 1) = 3 by kernel_rfl, show rd (a0 :: a1 :: a2 :: a3 :: a4 :: a5 :: a6 :: a7 :: r) 2 = a2 from rfl]
  rw [or256 ((0 * 256 + a0) * 256 + a1) a2 (by omega) (by omega) b2.1 b2.2]
  rw [PSchemaForms.hachureref02_Get.l0, if_pos (by decide), if_neg (by decide), if_pos (by decide), if_pos (by first | (simp; done) | (simp; omega))]
  simp only [show wrap64 (3 + 1) = 4 by kernel_rfl, show rd (a0 :: a1 :: a2 :: a3 :: a4 :: a5 :: a6 :: a7 :: r) 3 = a3 from rfl]
  rw [or256 (((0 * 256 + a0) * 256 + a1) * 256 + a2) a3 (by omega) (by omega) b3.1 b3.2]
  rw [PSchemaForms.hachureref02_Get.l0, if_pos (by decide), if_neg (by decide), if_pos (by decide), if_pos (by first | (simp; done) | (simp; omega))]
  simp only [show wrap64 (4 + 1) = 5 by kernel_rfl, show rd (a0 :: a1 :: a2 :: a3 :: a4 :: a5 :: a6 :: a7 :: r) 4 = a4 from rfl]
  rw [or256 ((((0 * 256 + a0) * 256 + a1) * 256 + a2) * 256 + a3) a4 (by omega) (by omega) b4.1 b4.2]
  rw [PSchemaForms.hachureref02_Get.l0, if_pos (by decide), if_neg (by decide), if_pos (by decide), if_pos (by first | (simp; done) | (simp; omega))]
  simp only [show wrap64 (5 + 1) = 6 by kernel_rfl, show rd (a0 :: a1 :: a2 :: a3 :: a4 :: a5 :: a6 :: a7 :: r) 5 = a5 from rfl]
  rw [or256 (((((0 * 256 + a0) * 256 + a1) * 256 + a2) * 256 + a3) * 256 + a4) a5 (by omega) (by omega) b5.1 b5.2]
  rw [PSchemaForms.hachureref02_Get.l0, if_pos (by decide), if_neg (by decide), if_pos (by decide), if_pos (by first | (simp; done) | (simp; omega))]
  simp only [show wrap64 (6 + 1) = 7 by kernel_rfl, show rd (a0 :: a1 :: a2 :: a3 :: a4 :: a5 :: a6 :: a7 :: r) 6 = a6 from rfl]
  rw [or256 ((((((0 * 256 + a0) * 256 + a1) * 256 + a2) * 256 + a3) * 256 + a4) * 256 + a5) a6 (by omega) (by omega) b6.1 b6.2]
  rw [PSchemaForms.hachureref02_Get.l0, if_pos (by decide), if_neg (by decide), if_pos (by decide), if_pos (by first | (simp; done) | (simp; omega))]
  simp only [show wrap64 (7 + 1) = 8 by kernel_rfl, show rd (a0 :: a1 :: a2 :: a3 :: a4 :: a5 :: a6 :: a7 :: r) 7 = a7 from rfl]
  rw [or256 (((((((0 * 256 + a0) * 256 + a1) * 256 + a2) * 256 + a3) * 256 + a4) * 256 + a5) * 256 + a6) a7 (by omega) (by omega) b7.1 b7.2]
  rw [PSchemaForms.hachureref02_Get.l0, if_neg (by decide)]
  rfl
end Go.Proofs.YtcjidlgmbjebjaaDoor

namespace Go.Proofs.YtcjidlgmbjebjaaDoor
open Go Go.RowKit Go.Proofs.YtcjidlgmbjebjaaDoorW.PrintWords
theorem drawn_heap {w w' : World} (h : Drawn0 w w') : w'.heap = w.heap := by obtain ⟨n, rfl⟩ := h.out; rfl
theorem drawn_cell {w w' : World} (h : Drawn0 w w') {a : Addr} {v : Value} (hc : w.cell? a = some v) : w'.cell? a = some v := by unfold World.cell? at hc ⊢; rw [drawn_heap h]; exact hc
theorem drawn_keep {w w' : World} (h : Drawn0 w w') (p : Nat) : Keep1 p w w' := Keep1.of_below (drawn_below h)
theorem drawn_kC {w w' : World} (h : Drawn0 w w') {A : Option Addr} {l : List Int} (hc : Kd.C (Kd.int .u8) w A l.length l) : Kd.C (Kd.int .u8) w' A l.length l := Kd.C_below hc (drawn_below h)
theorem drawn_frozen {w w' : World} (h : Drawn0 w w') {a : Addr} {v : Bool} (hc : w.frozen? a = v) : w'.frozen? a = v := by unfold World.frozen? at hc ⊢; rw [drawn_heap h]; exact hc
theorem drawn_trans {a b c : World} (h : Drawn0 a b) (k : Drawn0 b c) : Drawn0 a c := by
  obtain ⟨n, rfl⟩ := k.out
  exact h.step n
/-- What stands at a block's first cell. -/
def cAt (w : World) (b : Nat) : Value := (w.cell? ⟨b, 0, none⟩).getD (.bool false)
theorem cat_of {w : World} {b : Nat} (h : (w.cell? ⟨b, 0, none⟩).isSome = true) : w.cell? ⟨b, 0, none⟩ = some (cAt w b) := by
  unfold cAt
  cases hc : w.cell? ⟨b, 0, none⟩ with
  | none => rw [hc] at h; cases h
  | some v => rfl
theorem cell_setB {w : World} {b o q i : Nat} {v u : Value} (h : w.cell? ⟨b, o, none⟩ = some v) (hne : b ≠ q) : (w.setCell ⟨q, i, none⟩ u).cell? ⟨b, o, none⟩ = some v := by
  unfold World.cell? at h ⊢
  rw [Below.heap_setCell _ _ _ _ hne]; exact h
theorem frozen_setB {w : World} {a : Addr} {q i : Nat} {u : Value} {x : Bool} (h : w.frozen? a = x) : (w.setCell ⟨q, i, none⟩ u).frozen? a = x := by
  rw [← h]
  by_cases hq : a.block = q
  · subst hq
    cases hb : w.heap[a.block]? with
    | none => simp [World.frozen?, World.setCell, Array.getElem?_modify, hb]
    | some o => cases o <;> simp [World.frozen?, World.setCell, Array.getElem?_modify, hb]
  · unfold World.frozen?
    rw [Below.heap_setCell _ _ _ _ hq]
theorem cat_set {w : World} {b : Nat} {v u : Value} (h : w.cell? ⟨b, 0, none⟩ = some v) : (w.setCell ⟨b, 0, none⟩ u).cell? ⟨b, 0, none⟩ = some (cAt (w.setCell ⟨b, 0, none⟩ u) b) := by
  refine cat_of ?_
  unfold World.cell? at h ⊢
  cases hb : w.heap[b]? with
  | none => rw [hb] at h; cases h
  | some o =>
    rw [hb] at h
    cases o with
    | cells c e f =>
      simp only [World.setCell, Array.getElem?_modify, hb, if_true, Option.map_some]
      simp only [Option.isSome_none, Bool.false_eq_true, if_false] at h ⊢
      simp
      have := (Array.getElem?_eq_some_iff.1 h).1
      exact this
    | _ => cases h
theorem cell_setS {w : World} {b i : Nat} {v u : Value} (h : (w.setCell ⟨b, i, none⟩ u).cell? ⟨b, i, none⟩ = some v) : (w.setCell ⟨b, i, none⟩ u).cell? ⟨b, i, none⟩ = some u := by
  unfold World.cell? at h ⊢
  cases hb : w.heap[b]? with
  | none => simp [World.setCell, Array.getElem?_modify, hb] at h
  | some o =>
    cases o with
    | cells c e f =>
      simp only [World.setCell, Array.getElem?_modify, hb, if_true, Option.map_some] at h ⊢
      simp only [Option.isSome_none, Bool.false_eq_true, if_false] at h ⊢
      have h2 := (Array.getElem?_eq_some_iff.1 h).1
      simp at h2
      simp [h2]
    | _ => simp [World.setCell, Array.getElem?_modify, hb] at h
/-- What Get hands back of one byte, or of eight. -/
theorem get_val (A : Option Addr) (c : Nat) (l : List Int) (n : Nat) (hn : n = 1 ∨ n = 8) (hb : Byt l) (hc : l.length ≤ c) (w : World) (hC : Kd.C (Kd.int .u8) w A l.length l) :
    Calls Tryd.prog 152 #[.slice A l.length c, .int .i64 n, .bool false] w (fun e w' => e = .returned (.tuple #[.int .u64 (if n ≤ l.length then Sb.be (l.take n) else 0), .bool (decide (n ≤ l.length))]) ∧ Drawn0 w w') := by
  refine PSchemaForms.octet_Get.calls 10 A c l n false _ _ w hC hc ?_
  rcases hn with rfl | rfl
  · match l, hb with
    | [], _ => exact octet_Get_short [] 1 (by omega) (by omega) (by simp) 9
    | x :: r, hb =>
      rw [if_pos (by simp)]
      have h := hb x (by simp)
      have e : Sb.be ((x :: r).take 1) = x := by simp [Sb.be]
      rw [e]
      have := octet_Get_one x r h.1 h.2
      simpa using this
  · by_cases h : 8 ≤ l.length
    · obtain ⟨a0, a1, a2, a3, a4, a5, a6, a7, r, rfl⟩ := eight l h
      rw [if_pos h, decide_eq_true h]
      exact octet_Get_eight a0 a1 a2 a3 a4 a5 a6 a7 r hb
    · rw [if_neg h, decide_eq_false h]
      exact octet_Get_short l 8 (by omega) (by omega) (by omega) 9
def NumQ (p bn n : Nat) (l : List Int) (W0 : World) (m er : Int) (w' : World) : Prop :=
  Keep1 p W0 w' ∧ w'.cell? ⟨bn, 0, none⟩ = some (.int .u64 (Sb.be (Sb.sTake n (0, l)).1)) ∧ (n ≤ l.length → m = n ∧ er = 0) ∧ (¬ n ≤ l.length → er = 8)
set_option maxHeartbeats 4000000 in
theorem num1_val (bs bp bl bn p : Nat) (n : Nat) (hn : n = 1 ∨ n = 8) (l : List Int) (hb : Byt l) (W0 W : World) (hs : SrcP W p (0, l)) (hk0 : Keep1 p W0 W) (hbn : W0.heap.size ≤ bn) (hbp : bn ≠ p) 
    (z1 : W.cell? ⟨bp, 0, none⟩ = some (.pointer (some ⟨p, 0, none⟩))) (z2 : W.cell? ⟨bs, 0, none⟩ = some (.int .i64 n)) (z3 : W.cell? ⟨bl, 0, none⟩ = some (.bool false)) (z4 : W.heap[bn]? = some (.cells #[.int .u64 0] 100 (0, 0)))
    (d1 : bp ≠ bn) (d2 : bs ≠ bn) (d3 : bl ≠ bn) (d4 : p ≠ bn) :
    Calls Tryd.prog 151 #[.pointer (some ⟨bs, 0, none⟩), .pointer (some ⟨bp, 0, none⟩), .pointer (some ⟨bl, 0, none⟩), .pointer (some ⟨bn, 0, none⟩)] W
      (RetDo p l (NumQ p bn n l W0)) := by
  have HS := Lib.hid hs
  have hlt := src_lt hs
  obtain ⟨v, ⟨h, _⟩, A, c, rfl, hc, hC⟩ := hs
  have c1 : W.cell? ⟨p, 1, none⟩ = some (.slice A l.length c) := by rw [Lib.cell_of_heap h]; rfl
  have z5 : W.cell? ⟨bn, 0, none⟩ = some (.int .u64 0) := by rw [Lib.cell_of_heap z4]; rfl
  have f4 : W.frozen? ⟨bn, 0, none⟩ = false := Lib.frozen_of_heap z4 0
  have HC := Lib.hid hC
  have H4 := Lib.hid z4
  have HK := Lib.hid hk0
  have hn1 : 1 ≤ (n : Int) ∧ (n : Int) ≤ 8 := by omega
  by_cases hle : n ≤ l.length
  · have HG := Lib.hid (fun w hC => get_val A c l n hn hb hc w hC)
    rw [if_pos hle, decide_eq_true hle] at HG
    have HQ := Lib.hid (show Sb.be (Sb.sTake n (0, l)).1 = Sb.be (l.take n) by unfold Sb.sTake; rw [if_pos rfl, if_neg (by simpa using hle)])
    have HNB := Lib.hid (show NoByte W bn from nobyte_of z4 fun i x hi => by
      match i, hi with
      | 0, hi => simp at hi
      | i + 1, hi => simp at hi)
    clear h hC z4 hk0 hn hb
    go_enter Tryd.func151, Tryd.ntmps151
    go_wp2_with fail
    go_region_held3 (fun w' => w'.cell? ⟨bp, 0, none⟩ = some (.pointer (some ⟨p, 0, none⟩)) ∧ w'.cell? ⟨bs, 0, none⟩ = some (.int .i64 n) ∧ w'.cell? ⟨bl, 0, none⟩ = some (.bool false) ∧ w'.cell? ⟨p, 1, none⟩ = some (.slice A l.length c) ∧ w'.frozen? ⟨bn, 0, none⟩ = false ∧ w'.cell? ⟨bn, 0, none⟩ = some (cAt w' bn) ∧ Keep1 bn W w')
      (first
        | (go_keep; done)
        | ((repeat' apply And.intro) <;> first | assumption | (rw [World.cell?_drew]; assumption) | (exact cat_of (by rw [World.cell?_drew, z5]; rfl)) | (exact drawn_keep ((Drawn0.refl W).step 1) bn))
        | (go_split_ands; (repeat' apply And.intro) <;> first | (exact drawn_frozen hd1 (by assumption)) | (exact cat_of (by rw [drawn_cell hd1 (by assumption)]; rfl)) | (exact drawn_cell hd1 (by assumption)) | (exact Keep1.trans (by assumption) (drawn_keep hd1 bn)))
        | (go_split_ands; (repeat' apply And.intro) <;> first | (exact cat_set (by assumption)) | (exact cell_setB (by assumption) (by assumption)) | (exact frozen_setB (by assumption)) | (exact Keep1.set (by assumption) 0 _)))
      (first
        | (go_at_call 152; go_split_ands; refine (HG.out _ (kC_keep HC.out HNB.out (by assumption))).mono ?_; rintro e w1 ⟨rfl, hd1⟩))
    rename_i hH
    have HF := Lib.hid hH.2.2.2.2.2.2
    have HCN := Lib.hid (show World.cell? (w1.setCell ⟨bn, 0, none⟩ (.int .u64 (Sb.be (l.take n)))) ⟨bn, 0, none⟩ = some (.int .u64 (Sb.be (l.take n))) from cell_setS hH.2.2.2.2.2.1)
    go_wp2_with fail
    go_ret2
    exact ⟨n, 0, rfl, src_keep HS.out HNB.out d4 HF.out, fun _ => ⟨by omega, by omega⟩, keep_new HK.out HF.out hbn, by rw [HQ.out]; exact HCN.out, fun _ => ⟨rfl, rfl⟩, fun h => absurd hle h⟩
  · have HG := Lib.hid (fun w hC => get_val A c l n hn hb hc w hC)
    rw [if_neg hle, decide_eq_false hle] at HG
    have HQ := Lib.hid (show Sb.be (Sb.sTake n (0, l)).1 = 0 by unfold Sb.sTake; rw [if_pos rfl, if_pos (by simpa using hle)]; rfl)
    have HNB := Lib.hid (show NoByte W bn from nobyte_of z4 fun i x hi => by
      match i, hi with
      | 0, hi => simp at hi
      | i + 1, hi => simp at hi)
    clear h hC z4 hk0 hn hb
    go_enter Tryd.func151, Tryd.ntmps151
    go_wp2_with fail
    go_region_held3 (fun w' => w'.cell? ⟨bp, 0, none⟩ = some (.pointer (some ⟨p, 0, none⟩)) ∧ w'.cell? ⟨bs, 0, none⟩ = some (.int .i64 n) ∧ w'.cell? ⟨bl, 0, none⟩ = some (.bool false) ∧ w'.cell? ⟨p, 1, none⟩ = some (.slice A l.length c) ∧ w'.frozen? ⟨bn, 0, none⟩ = false ∧ w'.cell? ⟨bn, 0, none⟩ = some (cAt w' bn) ∧ Keep1 bn W w')
      (first
        | (go_keep; done)
        | ((repeat' apply And.intro) <;> first | assumption | (rw [World.cell?_drew]; assumption) | (exact cat_of (by rw [World.cell?_drew, z5]; rfl)) | (exact drawn_keep ((Drawn0.refl W).step 1) bn))
        | (go_split_ands; (repeat' apply And.intro) <;> first | (exact drawn_frozen hd1 (by assumption)) | (exact cat_of (by rw [drawn_cell hd1 (by assumption)]; rfl)) | (exact drawn_cell hd1 (by assumption)) | (exact Keep1.trans (by assumption) (drawn_keep hd1 bn)))
        | (go_split_ands; (repeat' apply And.intro) <;> first | (exact cat_set (by assumption)) | (exact cell_setB (by assumption) (by assumption)) | (exact frozen_setB (by assumption)) | (exact Keep1.set (by assumption) 0 _)))
      (first
        | (go_at_call 152; go_split_ands; refine (HG.out _ (kC_keep HC.out HNB.out (by assumption))).mono ?_; rintro e w1 ⟨rfl, hd1⟩))
    rename_i hH
    have HF := Lib.hid hH.2.2.2.2.2.2
    have HCN := Lib.hid (show World.cell? (w1.setCell ⟨bn, 0, none⟩ (.int .u64 0)) ⟨bn, 0, none⟩ = some (.int .u64 0) from cell_setS hH.2.2.2.2.2.1)
    go_wp2_with fail
    go_ret2
    exact ⟨0, 8, rfl, src_keep HS.out HNB.out d4 HF.out, fun h => by omega, keep_new HK.out HF.out hbn, by rw [HQ.out]; exact HCN.out, fun h => absurd h hle, fun _ => rfl⟩
set_option maxHeartbeats 4000000 in
theorem num_val (p n : Nat) (hn : n = 1 ∨ n = 8) (s : Sb.Src) (hb : Byt s.2) (W : World) (hs : SrcP W p s) :
    Calls Tryd.prog 122 #[.pointer (some ⟨p, 0, none⟩), .int .i64 n, .bool false] W (RetSt (.int .u64 (Sb.be (Sb.sTake n s).1)) p (Sb.sTake n s).2 W) := by
  have hlt := src_lt hs
  have hmf : ∀ (fn : Fn) (first cap : Array Value) (w : World), (Instr.makeFunc fn first cap).run Tryd.prog w = .ok (.func fn first cap) w := fun _ _ _ _ => rfl
  obtain ⟨er0, l⟩ := s
  by_cases he : er0 = 0
  · subst he
    have HS := Lib.hid hs; clear hs
    go_enter Tryd.func122, Tryd.ntmps122
    go_wp2_with fail
    have hs4 := src_alloc (src_alloc (src_alloc (src_alloc HS.out (.cells #[.pointer (some ⟨p, 0, none⟩)] 112)) (.cells #[.int .i64 n] 3)) (.cells #[.bool false] 4)) (.cells #[.int .u64 0] 100)
    have hst := step_151 p _ l _ hs4 _ (num1_val (W.heap.size + 1) W.heap.size (W.heap.size + 1 + 1) (W.heap.size + 1 + 1 + 1) p n hn l hb W _ hs4 ((((Keep1.refl p W).alloc _).alloc _).alloc _ |>.alloc _) (by omega) (by omega) (by go_cell) (by go_cell) (by go_cell) (hp_new _ _ _ (by simp)) (by omega) (by omega) (by omega) (by omega))
    refine hst.mono ?_
    rintro e w1 ⟨rfl, m, er, w2, ⟨hk2, hc2, q1, q2⟩, h3⟩
    have hres : SrcP w1 p (Sb.sTake n (0, l)).2 ∧ Keep1 p w2 w1 := by
      unfold Sb.sTake
      rw [if_pos rfl]
      by_cases hle : n ≤ l.length
      · obtain ⟨rfl, rfl⟩ := q1 hle
        rw [if_neg (by simpa using hle)]
        rcases h3 with ⟨_, h4, h5⟩ | ⟨h4, _⟩
        · exact ⟨h4, h5⟩
        · exact absurd rfl h4
      · obtain rfl := q2 hle
        rw [if_pos (by simpa using hle)]
        rcases h3 with ⟨h4, _⟩ | ⟨_, h4, h5⟩
        · cases h4
        · exact ⟨h4, h5⟩
    have hc1 : w1.cell? ⟨W.heap.size + 1 + 1 + 1, 0, none⟩ = some (.int .u64 (Sb.be (Sb.sTake n (0, l)).1)) := by
      rw [← hc2]
      unfold World.cell?
      rw [hres.2.block (cell_lt hc2) (by show _ ≠ p; omega)]
    have HR := Lib.hid hres
    have HK := Lib.hid hk2
    clear hs4 hst hk2 hc2 q1 q2 h3 hres
    dsimp only
    go_wp2_with fail
    go_ret
    exact ⟨rfl, HR.out.1, HK.out.trans HR.out.2⟩
  · have HS := Lib.hid hs; clear hs
    have HV := Lib.hid (show (Sb.sTake n (er0, l)) = ([], (er0, l)) by unfold Sb.sTake; rw [if_neg he])
    go_enter Tryd.func122, Tryd.ntmps122
    go_wp2_with fail
    have hs4 := src_alloc (src_alloc (src_alloc (src_alloc HS.out (.cells #[.pointer (some ⟨p, 0, none⟩)] 112)) (.cells #[.int .i64 n] 3)) (.cells #[.bool false] 4)) (.cells #[.int .u64 0] 100)
    refine (step_err p _ _ he _ hs4).mono ?_
    rintro e w1 ⟨rfl, rfl⟩
    have HR := Lib.hid hs4
    clear hs4
    dsimp only
    go_wp2_with fail
    go_ret
    rw [HV.out]
    exact ⟨rfl, HR.out, (((Keep1.refl p W).alloc _).alloc _).alloc _ |>.alloc _⟩
end Go.Proofs.YtcjidlgmbjebjaaDoor

namespace Go.Proofs.YtcjidlgmbjebjaaDoor
open Go Go.RowKit Go.Proofs.YtcjidlgmbjebjaaDoorW.PrintWords
theorem take_byt {n : Nat} {s : Sb.Src} (h : Byt s.2) : Byt (Sb.sTake n s).1 ∧ Byt (Sb.sTake n s).2.2 := by
  unfold Sb.sTake
  split
  · split
    · exact ⟨fun x hx => by simp at hx, fun x hx => by simp at hx⟩
    · exact ⟨fun x hx => h x (List.mem_of_mem_take hx), fun x hx => h x (List.mem_of_mem_drop hx)⟩
  · exact ⟨fun x hx => by simp at hx, h⟩
theorem take_len {n : Nat} {s : Sb.Src} : (Sb.sTake n s).1.length ≤ n := by
  unfold Sb.sTake
  split
  · split
    · simp
    · simp; omega
  · simp
theorem be_one {s : Sb.Src} (h : Byt s.2) : Sb.be (Sb.sTake 1 s).1 = (Sb.sByte s).1 ∧ 0 ≤ (Sb.sByte s).1 ∧ (Sb.sByte s).1 < 256 := by
  have h1 := (take_byt (n := 1) h).1
  have h2 := take_len (n := 1) (s := s)
  unfold Sb.sByte
  match (Sb.sTake 1 s).1, h1, h2 with
  | [], _, _ => exact ⟨rfl, Int.le_refl _, (by show (0 : Int) < 256; decide)⟩
  | [x], h1, _ =>
    have := h1 x (by simp)
    exact ⟨by simp [Sb.be], this.1, this.2⟩
  | _ :: _ :: _, _, h2 => simp at h2
theorem be_bound : ∀ (l : List Int) (a : Int), Byt l → 0 ≤ a → 0 ≤ l.foldl (fun n b => n * 256 + b) a ∧ l.foldl (fun n b => n * 256 + b) a < (a + 1) * 256 ^ l.length := by
  intro l
  induction l with
  | nil => intro a _ h; simp; omega
  | cons x l ih =>
    intro a hb ha
    have hx := hb x (by simp)
    obtain ⟨h1, h2⟩ := ih (a * 256 + x) (fun y hy => hb y (List.mem_cons_of_mem _ hy)) (by omega)
    refine ⟨h1, Int.lt_of_lt_of_le h2 ?_⟩
    rw [List.length_cons, Int.pow_succ, Int.mul_comm (256 ^ l.length) 256, ← Int.mul_assoc]
    have hp : (0 : Int) ≤ 256 ^ l.length := Int.pow_nonneg (by decide)
    exact Int.mul_le_mul_of_nonneg_right (by omega) hp
theorem be_eight {s : Sb.Src} (h : Byt s.2) : 0 ≤ Sb.be (Sb.sTake 8 s).1 ∧ Sb.be (Sb.sTake 8 s).1 < 18446744073709551616 := by
  have h1 := (take_byt (n := 8) h).1
  have h2 := take_len (n := 8) (s := s)
  obtain ⟨a, b⟩ := be_bound _ 0 h1 (Int.le_refl _)
  refine ⟨a, Int.lt_of_lt_of_le b ?_⟩
  have : (256 : Int) ^ (Sb.sTake 8 s).1.length ≤ 256 ^ 8 := by exact_mod_cast Nat.pow_le_pow_right (n := 256) (by decide) h2
  simp only [Int.zero_add, Int.one_mul]
  exact Int.le_trans this (by decide)
set_option maxHeartbeats 2000000 in
theorem byte_val (p : Nat) (s : Sb.Src) (hb : Byt s.2) (W : World) (hs : SrcP W p s) : Calls Tryd.prog 73 #[.pointer (some ⟨p, 0, none⟩)] W (RetSt (.int .u8 (Sb.sByte s).1) p (Sb.sByte s).2 W) := by
  have hmf : ∀ (fn : Fn) (first cap : Array Value) (w : World), (Instr.makeFunc fn first cap).run Tryd.prog w = .ok (.func fn first cap) w := fun _ _ _ _ => rfl
  have HN := Lib.hid (num_val p 1 (.inl rfl) s hb W hs)
  obtain ⟨e1, e2, e3⟩ := be_one hb
  have HW := Lib.hid (show (Sb.be (Sb.sTake 1 s).1) % 256 = (Sb.sByte s).1 by rw [e1]; omega)
  go_enter Tryd.func73, Tryd.ntmps73
  go_wp2_with fail
  refine HN.out.mono ?_
  rintro e w1 ⟨rfl, h1, h2⟩
  dsimp only
  go_wp2_with fail
  go_ret
  exact ⟨by first | rfl | (rw [HW.out]; rfl), h1, h2⟩
set_option maxHeartbeats 2000000 in
theorem int_val (p : Nat) (s : Sb.Src) (hb : Byt s.2) (W : World) (hs : SrcP W p s) : Calls Tryd.prog 75 #[.pointer (some ⟨p, 0, none⟩), .bool false] W (RetSt (.int .i64 (Sb.sInt s).1) p (Sb.sInt s).2 W) := by
  have HN := Lib.hid (num_val p 8 (.inr rfl) s hb W hs)
  obtain ⟨e1, e2⟩ := be_eight hb
  have HW := Lib.hid (show wrap64 (Sb.be (Sb.sTake 8 s).1) = (Sb.sInt s).1 by unfold Sb.sInt Sb.i64of wrap64; dsimp only; split <;> omega)
  go_enter Tryd.func75, Tryd.ntmps75
  go_wp2_with fail
  refine HN.out.mono ?_
  rintro e w1 ⟨rfl, h1, h2⟩
  dsimp only
  go_wp2_with fail
  go_ret
  exact ⟨by first | rfl | (rw [HW.out]; rfl), h1, h2⟩
theorem err_val (p : Nat) (s : Sb.Src) (W : World) (hs : SrcP W p s) : Calls Tryd.prog 77 #[.pointer (some ⟨p, 0, none⟩)] W (Same1 (.int .i64 s.1) W) := by
  have HI := Lib.hid (is_val p s W hs)
  obtain ⟨v, ⟨h, _⟩, _⟩ := hs
  have c2 : W.cell? ⟨p, 2, none⟩ = some (.int .i64 s.1) := by rw [Lib.cell_of_heap h]; rfl
  clear h
  go_enter Tryd.func77, Tryd.ntmps77
  go_wp2_with fail
  refine HI.out.mono ?_
  rintro e w ⟨rfl, rfl⟩
  dsimp only
  go_wp2_with fail
  go_ret
  exact ⟨rfl, rfl⟩
theorem left_val (p : Nat) (s : Sb.Src) (W : World) (hs : SrcP W p s) : Calls Tryd.prog 124 #[.pointer (some ⟨p, 0, none⟩)] W (Same1 (.int .i64 s.2.length) W) := by
  have HI := Lib.hid (is_val p s W hs)
  obtain ⟨v, ⟨h, _⟩, A, c, rfl, _⟩ := hs
  have c1 : W.cell? ⟨p, 1, none⟩ = some (.slice A s.2.length c) := by rw [Lib.cell_of_heap h]; rfl
  clear h
  go_enter Tryd.func124, Tryd.ntmps124
  go_wp2_with fail
  refine HI.out.mono ?_
  rintro e w ⟨rfl, rfl⟩
  dsimp only
  go_wp2_with fail
  go_ret
  exact ⟨rfl, rfl⟩
/-- Whether nothing is wrong and nothing left. -/
def endOf (s : Sb.Src) : Int := if s.1 = 0 then (if s.2 = [] then 0 else 9) else s.1
theorem end_val (p : Nat) (s : Sb.Src) (W : World) (hs : SrcP W p s) : Calls Tryd.prog 79 #[.pointer (some ⟨p, 0, none⟩)] W (Same1 (.int .i64 (endOf s)) W) := by
  have HE := Lib.hid (err_val p s W hs)
  have HL := Lib.hid (left_val p s W hs)
  by_cases he : s.1 = 0
  · cases hl : s.2 with
    | nil =>
      have HV := Lib.hid (show endOf s = 0 by unfold endOf; rw [if_pos he, if_pos hl])
      rw [he] at HE
      rw [hl] at HL
      clear hl he
      go_enter Tryd.func79, Tryd.ntmps79
      go_wp2_with fail
      refine HE.out.mono ?_
      rintro e w ⟨rfl, rfl⟩
      dsimp only
      go_wp2_with fail
      refine HL.out.mono ?_
      rintro e w ⟨rfl, rfl⟩
      dsimp only
      go_wp2_with fail
      go_ret
      exact ⟨by first | rfl | (rw [HV.out]; rfl), rfl⟩
    | cons x r =>
      have HV := Lib.hid (show endOf s = 9 by unfold endOf; rw [if_pos he, if_neg (by rw [hl]; simp)])
      rw [he] at HE
      rw [hl] at HL
      have hp : (0 : Int) < ((x :: r).length : Int) := by simp only [List.length_cons]; omega
      generalize (x :: r).length = M at HL hp
      clear hl he
      go_enter Tryd.func79, Tryd.ntmps79
      go_wp2_with fail
      refine HE.out.mono ?_
      rintro e w ⟨rfl, rfl⟩
      dsimp only
      go_wp2_with fail
      refine HL.out.mono ?_
      rintro e w ⟨rfl, rfl⟩
      dsimp only
      go_wp2_with fail
      go_ret
      exact ⟨by first | rfl | (rw [HV.out]; rfl), rfl⟩
  · have HV := Lib.hid (show endOf s = s.1 by unfold endOf; rw [if_neg he])
    go_enter Tryd.func79, Tryd.ntmps79
    go_wp2_with fail
    refine HE.out.mono ?_
    rintro e w ⟨rfl, rfl⟩
    dsimp only
    go_wp2_with fail
    go_ret
    exact ⟨by first | rfl | (rw [HV.out]; rfl), rfl⟩
set_option maxHeartbeats 2000000 in
theorem read_val (v : Value) (l : List Int) (W : World) (hv : SlB W v l) (hl : l.length ≤ 140737488355000) :
    Calls Tryd.prog 70 #[v] W (fun e w' => ∃ p, e = .returned (.pointer (some ⟨p, 0, none⟩)) ∧ W.heap.size ≤ p ∧ SrcP w' p (0, l) ∧ Below W.heap.size W w') := by
  have HC := Lib.hid (clone_val v l W hv hl)
  go_enter Tryd.func70, Tryd.ntmps70
  go_wp2_with fail
  refine HC.out.mono ?_
  rintro e w1 ⟨v1, rfl, hr, hb⟩
  have hsl := slb_row hr (by omega)
  have HLT := Lib.hid (vlt_row hr)
  obtain ⟨A, c, rfl, hc, hC⟩ := hsl
  have HC1 := Lib.hid hC
  have HB := Lib.hid hb
  clear hr hb hC
  dsimp only
  go_wp2_with fail
  go_ret
  exact ⟨w1.heap.size, rfl, HB.out.size, ⟨_, ⟨hp_new _ _ _ rfl, HLT.out⟩, A, c, rfl, hc, Kd.C_alloc HC1.out _⟩, HB.out.alloc HB.out.size _⟩
end Go.Proofs.YtcjidlgmbjebjaaDoor

namespace Go.Proofs.YtcjidlgmbjebjaaDoor
open Go Go.RowKit Go.Proofs.YtcjidlgmbjebjaaDoorW.PrintWords
def numF (ns : List Int) : List Int := ns.flatMap fun n => putB (u64of n)
theorem putB_len (n : Int) : (putB n).length = 8 := rfl
theorem numF_len (ns : List Int) : (numF ns).length = ns.length * 8 := by
  induction ns with
  | nil => rfl
  | cons n ns ih => unfold numF at *; rw [List.flatMap_cons, List.length_append, putB_len, ih, List.length_cons]; omega
theorem numF_snoc (ns : List Int) (x : Int) : numF (ns ++ [x]) = numF ns ++ putB (u64of x) := by simp [numF]
theorem take_next1 {α : Type} {l : List α} {i : Nat} {x : α} (h : l[i]? = some x) : l.take (i + 1) = l.take i ++ [x] := by
  obtain ⟨hi, rfl⟩ := List.getElem?_eq_some_iff.1 h
  rw [List.take_succ_eq_append_getElem hi]
/-- Numbers that stand in a row. -/
def IntsAt (w : World) (b o : Nat) (ns : List Int) : Prop := ∀ j x, ns[j]? = some x → w.cell? ⟨b, o + j, none⟩ = some (.int .i64 x)
theorem ints_later {w w' : World} {b o : Nat} {ns : List Int} (h : IntsAt w b o ns) (hb : Below w.heap.size w w') : IntsAt w' b o ns := fun j x hx => cell_later hb (h j x hx)
def NuR (v0 : Value) (l ns : List Int) (W : World) (a i : Value) (w' : World) : Prop :=
  ∃ (j : Nat) (A : Option Addr) (n c : Nat), j ≤ ns.length ∧ i = .int .i64 j ∧ a = .slice A n c ∧ (j = 0 → Value.slice A n c = v0) ∧ (0 < j → Row w' W.heap.size (.slice A n c) (l ++ numF (ns.take j))) ∧ Below W.heap.size W w'
set_option maxHeartbeats 4000000 in
theorem nums_row (v : Value) (l ns : List Int) (b o cap : Nat) (W : World) (hv : SlB W v l) (hl : l.length ≤ 100000000) (hns : IntsAt W b o ns) (h1 : 0 < ns.length) (h7 : ns.length ≤ 7) (hcap : ns.length ≤ cap) :
    Calls Tryd.prog 89 #[v, .slice (some ⟨b, o, none⟩) ns.length cap] W (RetRow (l ++ numF ns) W) := by
  have HV := Lib.hid hv
  have HN := Lib.hid hns; clear hns
  obtain ⟨A, c, rfl, hc, hC⟩ := hv
  clear hC
  generalize hLL : l.length = LL at HV
  go_enter Tryd.func89, Tryd.ntmps89
  go_wp2_with fail
  go_loopw [0, 9] (fun a i w' => NuR (.slice A LL c) l ns W a i w') (fun _ i _ => ns.length - (intOf i).toNat)
  case atStart => exact ⟨0, _, _, _, by omega, rfl, rfl, fun _ => rfl, fun h => by omega, Below.refl _ _⟩
  case round =>
    obtain ⟨j, A0, n0, c0, hj, rfl, rfl, ha0, ha1, hB⟩ := hrel
    by_cases hp : j < ns.length
    · obtain ⟨x, hx⟩ : ∃ x, ns[j]? = some x := ⟨ns[j], List.getElem?_eq_getElem hp⟩
      have z := cell_later hB (HN.out j x hx)
      have HTK := Lib.hid (take_next1 hx)
      have hsl : SlB wr (.slice A0 n0 c0) (l ++ numF (ns.take j)) := by
        rcases Nat.eq_zero_or_pos j with h0 | h0
        · rw [ha0 h0, h0]
          have := slb_below HV.out hB
          simpa [numF] using this
        · exact slb_row (ha1 h0) (by rw [List.length_append, numF_len, List.length_take]; omega)
      have HP := Lib.hid (put_row (u64of x) (by unfold u64of; omega) (by unfold u64of; omega) (.slice A0 n0 c0) _ wr hsl (by rw [List.length_append, numF_len, List.length_take]; omega))
      clear hx ha0 ha1
      unfold u64of at HP
      clear hsl
      generalize (l ++ numF (ns.take j)).length = L2 at HP
      go_wp2_with fail
      refine HP.out.mono ?_
      rintro e w2 ⟨v2, rfl, hr2, hb2⟩
      obtain ⟨p2, c3, rfl⟩ := row_shape hr2
      have HREL := Lib.hid (show NuR (.slice A LL c) l ns W (.slice p2 _ c3) (.int .i64 ((j + 1 : Nat) : Int)) w2 from
        ⟨j + 1, _, _, _, by omega, rfl, rfl, fun h => by omega, fun _ => by rw [HTK.out, numF_snoc, ← List.append_assoc]; exact row_lower hr2 hB.size, below_step hB hb2⟩)
      clear hr2 hb2
      generalize (l ++ numF (ns.take j) ++ putB (x % 18446744073709551616)).length = L3 at HREL
      dsimp only
      go_wp2_with fail
      exact ⟨HREL.out, by simp [intOf]; omega⟩
    · obtain rfl : j = ns.length := by omega
      have hr := ha1 h1
      rw [List.take_length] at hr
      go_wp2_with fail
      go_ret
      exact ⟨_, rfl, hr, hB⟩
end Go.Proofs.YtcjidlgmbjebjaaDoor
