import Derived.Test.YtcjidlgmbjebjaaDoorAskAi
import Derived.Test.YtcjidlgmbjebjaaDoorAskAj
set_option linter.unusedVariables false
set_option linter.unusedSimpArgs false
set_option maxRecDepth 100000
namespace Go.Proofs.YtcjidlgmbjebjaaDoor
open Go Go.RowKit
theorem str_empty (s : ByteArray) : s.toList.isEmpty = !decide (1 ≤ s.size) := by
  rw [ByteArray.toList_eq, ← ByteArray.size_data]
  cases h : s.data.toList with
  | nil => have : s.data.size = 0 := by rw [← Array.length_toList, h]; rfl
           rw [this]; rfl
  | cons a l => have : s.data.size = l.length + 1 := by rw [← Array.length_toList, h]; rfl
                rw [this]; simp
def NmI (s : ByteArray) (w w' : World) : Prop := ∃ pos b : Nat, w' = w.iter s pos ∧ s.size ≤ pos + b ∧ pos ≤ s.size ∧ Utf.nmFrom s b pos = Utf.nmAll s
set_option maxHeartbeats 2000000 in
theorem name_val (s : ByteArray) (w : World) (hs : s.size ≤ 9223372036854775807) :
    Calls Tryd.prog 17 #[.string s] w (RetBool (Utf.nmOk s) w) := by
  go_enter Tryd.func17, Tryd.ntmps17
  go_wp2
  go_loopw [] (fun w' => NmI s w w') (fun w' => s.size - w'.iterPos w.heap.size)
  case atStart => exact ⟨0, s.size, rfl, by omega, by omega, rfl⟩
  case round =>
    obtain ⟨pos, b, rfl, hb, hl, hc⟩ := hrel
    by_cases hp : pos < s.size
    · have hnx : ∀ ty, (Instr.next (.pointer (some ⟨w.heap.size, 0, none⟩)) true ty).run Tryd.prog (w.iter s pos) = _ := fun ty => run_next_any w s pos ty hp
      have hiff := Utf.okCh_iff pos (Utf.byt s pos)
      have hbad := fun h => (Utf.nmFrom_bad s b pos hp hb h).symm.trans hc
      have hon := Utf.nmFrom_on s b pos hp hb
      by_cases h7 : Utf.byt s pos < 128
      · have hd := Utf.decode_ascii s pos h7
        rw [hd] at hnx
        generalize Utf.byt s pos = c at *
        by_cases hok : Utf.okCh pos c = true
        · obtain ⟨g, rfl, hg2, hgb⟩ := hon hok
          have HG := Lib.hid (hg2.symm.trans hc)
          have hk := hiff.1 hok
          clear hg2 hc hbad hon hok hiff hd
          rcases hk with ⟨k1, k2⟩ | ⟨k0, rfl | ⟨k1, k2⟩⟩
          · go_wp2
            go_roundw
            case rel => exact ⟨pos + 1, g, rfl, hgb, by omega, HG.out⟩
            case measure => simp; omega
          · go_wp2
            go_roundw
            case rel => exact ⟨pos + 1, g, rfl, hgb, by omega, HG.out⟩
            case measure => simp; omega
          · have q1 : ((c : Int) == 95) = false := by rw [beq_eq_false_iff_ne]; omega
            go_wp2
            go_roundw
            case rel => exact ⟨pos + 1, g, rfl, hgb, by omega, HG.out⟩
            case measure => simp; omega
        · have HN := Lib.hid (nm_no s (hbad (by simpa using hok)).symm)
          have hk : ¬ _ := fun h => hok (hiff.2 h)
          clear hbad hon hok hiff hc hd
          by_cases k0 : pos = 0
          · subst k0
            have k1 : c < 97 ∨ 122 < c := by omega
            clear hk
            rcases k1 with k1 | k1
            all_goals
              go_wp2
              all_goals first | (exfalso; omega) | (go_ret; exact ⟨by rw [HN.out]; rfl, below_iter w s _⟩) | (exfalso; rename_i hz; simp at hz; omega)
          · have k1 : c < 48 ∨ (57 < c ∧ c < 95) ∨ (95 < c ∧ c < 97) ∨ 122 < c := by omega
            have q1 : ((c : Int) == 95) = false := by rw [beq_eq_false_iff_ne]; omega
            have kp : 0 < pos := by omega
            clear hk
            rcases k1 with k1 | ⟨k1, k2⟩ | ⟨k1, k2⟩ | k1
            all_goals
              go_wp2
              all_goals first | (exfalso; omega) | (go_ret; exact ⟨by rw [HN.out]; rfl, below_iter w s _⟩) | (exfalso; rename_i hz; simp at hz; omega)
      · have hd := Utf.decode_high s pos h7
        have hok : Utf.okCh pos (Utf.byt s pos) = false := by
          cases h : Utf.okCh pos (Utf.byt s pos) with
          | false => rfl
          | true => have := hiff.1 h; omega
        have HN := Lib.hid (nm_no s (hbad hok).symm)
        have q1 : (((Utf8.decode s pos).1 : Int) == 95) = false := by rw [beq_eq_false_iff_ne]; omega
        clear hbad hon hok hiff hc
        by_cases k0 : pos = 0
        · subst k0
          go_wp2
          all_goals first | (exfalso; omega) | (go_ret; exact ⟨by rw [HN.out]; rfl, below_iter w s _⟩) | (exfalso; rename_i hz; simp at hz; omega)
        · have kp : 0 < pos := by omega
          go_wp2
          all_goals first | (exfalso; omega) | (go_ret; exact ⟨by rw [HN.out]; rfl, below_iter w s _⟩) | (exfalso; rename_i hz; simp at hz; omega)
    · have hnx : ∀ ty, (Instr.next (.pointer (some ⟨w.heap.size, 0, none⟩)) true ty).run Tryd.prog (w.iter s pos) = _ := fun ty => run_next_end w s pos ty hp
      have hall : Utf.nmAll s = true := by rw [← hc]; exact Utf.nmFrom_end s b pos hp
      have HT := Lib.hid (nm_tail s hall)
      obtain rfl : pos = s.size := by omega
      clear hc hall
      by_cases z1 : 1 ≤ s.size
      · have hs2 : s.toList.isEmpty = false := by rw [str_empty, decide_eq_true z1]; rfl
        have hs3 : ¬ s.toList = [] := by intro h; rw [h] at hs2; exact absurd hs2 (by simp)
        by_cases z2 : s.size ≤ 12
        · go_wp2
          all_goals first | (exfalso; omega) | (go_ret; exact ⟨by rw [HT.out]; simp [z1, z2, hs2, hs3]; try omega, below_iter w s _⟩)
        · go_wp2
          all_goals first | (exfalso; omega) | (go_ret; exact ⟨by rw [HT.out]; simp [z1, z2, hs2, hs3]; try omega, below_iter w s _⟩)
      · have hs2 : s.toList.isEmpty = true := by rw [str_empty, decide_eq_false z1]; rfl
        go_wp2
        all_goals first | (exfalso; omega) | (go_ret; exact ⟨by rw [HT.out]; simp [z1, hs2]; try omega, below_iter w s _⟩)
end Go.Proofs.YtcjidlgmbjebjaaDoor
