import Derived.Test.YtcjidlgmbjebjaaDoorAskAg
import Derived.Test.YtcjidlgmbjebjaaDoorAskAh
set_option linter.unusedVariables false
set_option linter.unusedSimpArgs false
set_option maxRecDepth 100000
namespace Go.Proofs.YtcjidlgmbjebjaaDoor
open Go Go.RowKit
def NmR (s : ByteArray) (w : World) (i : Value) (w' : World) : Prop := ∃ pos b : Nat, i = .int .i64 pos ∧ w' = w ∧ s.size ≤ pos + b ∧ pos ≤ s.size ∧ Utf.nmFrom s b pos = Utf.nmAll s
theorem nm_tail (s : ByteArray) (h : Utf.nmAll s = true) : Utf.nmOk s = (decide (1 ≤ s.size) && decide (s.size ≤ 12)) := by unfold Utf.nmOk; rw [h]; rfl
theorem nm_no (s : ByteArray) (h : Utf.nmAll s = false) : Utf.nmOk s = false := by unfold Utf.nmOk; rw [h]; rfl
set_option maxHeartbeats 2000000 in
theorem refname_val (s : ByteArray) (w : World) (hs : s.size ≤ 9223372036854775807) :
    Calls Tryd.prog 18 #[.string s] w (RetBool (Utf.nmOk s) w) := by
  go_enter Tryd.func18, Tryd.ntmps18
  go_wp2
  go_loopw [3] (fun i w' => NmR s w i w') (fun i _ => s.size - (intOf i).toNat)
  case atStart => exact ⟨0, s.size, rfl, rfl, by omega, by omega, rfl⟩
  case round =>
    obtain ⟨pos, b, rfl, rfl, hb, hl, hc⟩ := hrel
    by_cases hp : pos < s.size
    · have hg : (s[pos]'hp).toNat = Utf.byt s pos := by unfold Utf.byt; rw [show s.get! pos = s.get! (pos + 0) from rfl, get_at s pos hp]
      have hlt := Utf.byt_lt s pos
      have hiff := Utf.okCh_iff pos (Utf.byt s pos)
      have hbad := fun h => (Utf.nmFrom_bad s b pos hp hb h).symm.trans hc
      have hon := Utf.nmFrom_on s b pos hp hb
      generalize Utf.byt s pos = c at *
      by_cases hok : Utf.okCh pos c = true
      · obtain ⟨g, rfl, hg2, hgb⟩ := hon hok
        have HG := Lib.hid (hg2.symm.trans hc)
        have hk := hiff.1 hok
        clear hg2 hc hbad hon hok hiff
        rcases hk with ⟨k1, k2⟩ | ⟨k0, rfl | ⟨k1, k2⟩⟩
        · go_wp2
          exact ⟨⟨pos + 1, g, rfl, rfl, hgb, by omega, HG.out⟩, by simp [intOf]; omega⟩
        · have q0 : ((pos : Int) == 0) = false := by rw [beq_eq_false_iff_ne]; omega
          go_wp2
          exact ⟨⟨pos + 1, g, rfl, rfl, hgb, by omega, HG.out⟩, by simp [intOf]; omega⟩
        · have q0 : ((pos : Int) == 0) = false := by rw [beq_eq_false_iff_ne]; omega
          have q1 : ((c : Int) != 95) = true := by rw [bne_iff_ne]; omega
          go_wp2
          exact ⟨⟨pos + 1, g, rfl, rfl, hgb, by omega, HG.out⟩, by simp [intOf]; omega⟩
      · have HN := Lib.hid (nm_no s (hbad (by simpa using hok)).symm)
        have hk : ¬ _ := fun h => hok (hiff.2 h)
        clear hbad hon hok hiff hc
        by_cases k0 : pos = 0
        · subst k0
          have k1 : c < 97 ∨ 122 < c := by omega
          clear hk
          rcases k1 with k1 | k1
          all_goals
            go_wp2
            all_goals first | (exfalso; omega) | (go_ret; exact ⟨by rw [HN.out]; rfl, Below.refl _ _⟩) | (exfalso; rename_i hz; simp at hz; omega)
        · have k1 : c < 48 ∨ (57 < c ∧ c < 95) ∨ (95 < c ∧ c < 97) ∨ 122 < c := by omega
          have q0 : ((pos : Int) == 0) = false := by rw [beq_eq_false_iff_ne]; omega
          have q1 : ((c : Int) != 95) = true := by rw [bne_iff_ne]; omega
          clear hk
          rcases k1 with k1 | ⟨k1, k2⟩ | ⟨k1, k2⟩ | k1
          all_goals
            go_wp2
            all_goals first | (exfalso; omega) | (go_ret; exact ⟨by rw [HN.out]; rfl, Below.refl _ _⟩) | (exfalso; rename_i hz; simp at hz; omega)
    · have hall : Utf.nmAll s = true := by rw [← hc]; exact Utf.nmFrom_end s b pos hp
      have HT := Lib.hid (nm_tail s hall)
      obtain rfl : pos = s.size := by omega
      clear hc hall
      by_cases z1 : 1 ≤ s.size
      · by_cases z2 : s.size ≤ 12
        · go_wp2
          go_ret
          exact ⟨by rw [HT.out]; simp [z1, z2]; try omega, Below.refl _ _⟩
        · go_wp2
          go_ret
          exact ⟨by rw [HT.out]; simp [z1, z2]; try omega, Below.refl _ _⟩
      · go_wp2
        go_ret
        exact ⟨by rw [HT.out]; simp [z1], Below.refl _ _⟩
end Go.Proofs.YtcjidlgmbjebjaaDoor
