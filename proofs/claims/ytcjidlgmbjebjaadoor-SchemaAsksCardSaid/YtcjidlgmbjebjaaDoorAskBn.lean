import Derived.Test.YtcjidlgmbjebjaaDoorAskBm
set_option linter.unusedVariables false
set_option linter.unusedSimpArgs false
set_option maxRecDepth 100000
namespace Go.Proofs.YtcjidlgmbjebjaaDoor
open Go Go.RowKit
def LvS : ByteArray := ⟨#[97, 32, 80, 79, 73, 78, 84, 32, 48, 32, 110, 58, 105, 110, 116, 33]⟩
theorem num0 : numS 0 = ⟨#[48]⟩ := by
  have := numS_small 0 (by decide) (by decide)
  rw [← this]; decide
theorem lives_text : textB ⟨#[97]⟩ 1 0 [(⟨#[110]⟩, 1, true)] = LvS := by
  unfold textB wordsOf
  rw [num0]
  rfl
set_option maxHeartbeats 1000000 in
theorem lives_val (W : World) (ht : TypesAt W) (hf : FormsAt W) (hpw : PowIs W) : Calls Tryd.prog 12 #[] W (RetBool true W) := by
  have hT := types_stays ht ((Below.refl W.heap.size W).alloc (Nat.le_refl _) (.cells #[.string ⟨#[110]⟩, .int .i64 1, .bool true] 90))
  have hF := forms_stays hf ((Below.refl W.heap.size W).alloc (Nat.le_refl _) (.cells #[.string ⟨#[110]⟩, .int .i64 1, .bool true] 90))
  have hP := pow_stays hpw ((Below.refl W.heap.size W).alloc (Nat.le_refl _) (.cells #[.string ⟨#[110]⟩, .int .i64 1, .bool true] 90))
  have hv : ColsV (W.alloc (.cells #[.string ⟨#[110]⟩, .int .i64 1, .bool true] 90)) (.slice (some ⟨W.heap.size, 0, none⟩) 1 1) [(⟨#[110]⟩, 1, true)] :=
    ⟨_, W.heap.size, 0, 1, rfl, Nat.le_refl _, fun _ => rfl, fun i c hc => by
      match i, hc with
      | 0, hc => simp at hc; subst hc; exact ⟨by simp, by simp, by simp⟩⟩
  have hx := text_val ⟨#[97]⟩ 1 0 _ [(⟨#[110]⟩, 1, true)] _ (by decide) (by decide) (by decide) (by intro c hc; simp at hc; subst hc; decide) (by decide) hv hT hF hP
  rw [lives_text] at hx
  have HX := Lib.hid hx
  clear hx hv hT hF hP ht hf hpw
  unfold schV LvS at HX
  go_enter Tryd.func12, Tryd.ntmps12
  go_wp2_with fail
  refine HX.out.mono ?_
  rintro e w1 ⟨rfl, hb⟩
  have hB := below_step (show Below W.heap.size W _ from by go_grown) hb
  clear hb
  dsimp only
  go_wp2_with fail
  go_ret
  exact ⟨rfl, hB⟩
def wantOf (l : List UInt8) : Nat → Int
  | 0 => 0
  | 1 => if l = [105, 110, 116] then 1 else 0
  | 2 => if l = [116, 101, 120, 116] then 2 else if l = [105, 110, 116] then 1 else 0
  | _ => if l = [102, 108, 97, 103] then 3 else if l = [116, 101, 120, 116] then 2 else if l = [105, 110, 116] then 1 else 0
theorem wantOf_3 (l : List UInt8) : wantOf l 3 = typeOf l := by
  unfold wantOf typeOf
  by_cases h1 : l = [105, 110, 116]
  · subst h1; simp
  · by_cases h2 : l = [116, 101, 120, 116]
    · subst h2; simp
    · by_cases h3 : l = [102, 108, 97, 103]
      · subst h3; simp
      · simp [h1, h2, h3]
theorem nm_size {s : ByteArray} (h : Utf.nmOk s = true) : s.size ≤ 12 := by
  unfold Utf.nmOk at h; simp at h; omega
theorem good_facts {nm : ByteArray} {k srs : Int} {cs : List Col} (h : goodSch nm k srs cs = 0) : nm.size ≤ 12 ∧ -9223372036854775808 ≤ srs ∧ srs ≤ 9223372036854775807 ∧ (∀ c ∈ cs, c.1.size ≤ 12 ∧ 1 ≤ c.2.1 ∧ c.2.1 ≤ 3) := by
  cases hh : headOk nm k srs cs.length with
  | false => rw [good_head hh] at h; cases h
  | true =>
    rw [good_tail hh] at h
    cases ha : allOk cs with
    | false => rw [ha] at h; cases h
    | true =>
      unfold headOk at hh
      simp only [Bool.and_eq_true, decide_eq_true_eq] at hh
      refine ⟨nm_size hh.1, by omega, by omega, fun c hc => ?_⟩
      obtain ⟨i, hi, rfl⟩ := List.getElem_of_mem hc
      unfold allOk at ha
      have h1 := List.all_eq_true.1 ha i (List.mem_range.2 hi)
      unfold okAt at h1
      rw [List.getElem?_eq_getElem hi] at h1
      dsimp only at h1
      rw [Bool.and_eq_true] at h1
      have h2 := h1.1
      unfold colOk at h2
      simp only [Bool.and_eq_true, decide_eq_true_eq] at h2
      exact ⟨nm_size h2.1, h2.2.1, h2.2.2⟩
theorem colsV_shape {w : World} {v : Value} {cs : List Col} (h : ColsV w v cs) : ∃ p n c, v = .slice p n c := by
  obtain ⟨pa, b, o, cap, hv, _⟩ := h; exact ⟨_, _, _, hv⟩
theorem colsV_drew {w : World} {v : Value} {cs : List Col} (h : ColsV w v cs) : ColsV w.drew v cs := by
  obtain ⟨pa, b, o, cap, hv, h1, h2, h3⟩ := h
  exact ⟨pa, b, o, cap, hv, h1, h2, fun i c hc => by
    obtain ⟨a, b, c⟩ := h3 i c hc
    exact ⟨by rw [World.cell?_drew]; exact a, by rw [World.cell?_drew]; exact b, by rw [World.cell?_drew]; exact c⟩⟩
end Go.Proofs.YtcjidlgmbjebjaaDoor
