/- A part of the proof of ValueReads. -/
import Derived.Test.YtcjidlgmbjebjaaGreatDoorVre
import Derived.Laws.BitsAllLaws
import Derived.Laws.Bits64
set_option linter.unusedVariables false
set_option linter.unusedSimpArgs false
set_option maxRecDepth 100000
namespace Go.Proofs.YtcjidlgmbjebjaaGreatDoor
open Go Go.RowKit
def UtfR (s : ByteArray) (w : World) (i : Value) (w' : World) : Prop := ∃ pos b : Nat, i = .int .i64 pos ∧ w = w' ∧ s.size ≤ pos + b ∧ Utf.okFrom s b pos = Utf.ok s
def InR (s : ByteArray) (pos st k : Nat) (w : World) (r n : Value) (w' : World) : Prop := ∃ m : Nat, m ≤ k ∧ r = .int .i32 (Utf.val s pos st m) ∧ n = .int .i64 (m + 1) ∧ Utf.conts s pos m = true ∧ w = w'
theorem and192 : ∀ c : Fin 256, bits BinOp.and IntKind.u8 ((c.val : Nat) : Int) 192 = ((c.val / 64 * 64 : Nat) : Int) := by decide +kernel
theorem and192' (c : Nat) (h : c < 256) : (bits BinOp.and IntKind.u8 (c : Int) 192 != 128) = !(c / 64 == 2) := by
  rw [and192 ⟨c, h⟩, Bool.eq_iff_iff]
  simp only [bne_iff_ne, Bool.not_eq_true', beq_eq_false_iff_ne, ne_eq]
  omega
theorem or_low (v d : Nat) (hd : d < 64) : (v * 64) ||| d = v * 64 + d := by
  have := Nat.two_pow_add_eq_or_of_lt (i := 6) (b := d) (by omega) v
  rw [show (2:Nat)^6 = 64 from rfl, Nat.mul_comm 64 v] at this
  exact this.symm
theorem ofInt_i32 (a : Nat) (h : a < 2147483648) : (BitVec.ofInt 32 (a : Int)).toNat = a := by
  rw [BitVec.toNat_ofInt]; omega
theorem or_i32 (v d : Nat) (hv : v < 1048576) (hd : d < 64) : bits BinOp.or IntKind.i32 (wrap32 ((v : Int) * 64)) ((d : Int)) = ((v * 64 + d : Nat) : Int) := by
  have h : wrap32 ((v : Int) * 64) = ((v * 64 : Nat) : Int) := by unfold wrap32; omega
  rw [h]
  show IntKind.i32.wrap ((BitVec.ofInt 32 ((v * 64 : Nat) : Int) ||| BitVec.ofInt 32 (d : Int)).toNat : Int) = _
  rw [BitVec.toNat_or, ofInt_i32 _ (by omega), ofInt_i32 d (by omega), or_low v d hd, IntKind.wrap_i32]
  omega

theorem val_lt (s : ByteArray) (pos st : Nat) (h : st < 32) : ∀ m, m ≤ 2 → Utf.val s pos st m < 131072
  | 0, _ => by simp [Utf.val]; omega
  | 1, _ => by simp [Utf.val]; omega
  | 2, _ => by simp [Utf.val]; omega
theorem rv_next (s : ByteArray) (pos st m : Nat) (h : st < 32) (hm : m ≤ 2) :
    bits BinOp.or IntKind.i32 (wrap32 ((Utf.val s pos st m : Nat) * 64)) ((Utf.byt s (pos + (m + 1)) : Int) % 64) = ((Utf.val s pos st (m + 1) : Nat) : Int) := by
  have hv := val_lt s pos st h m hm
  have hd : Utf.byt s (pos + (m + 1)) % 64 < 64 := Nat.mod_lt _ (by omega)
  have := or_i32 (Utf.val s pos st m) (Utf.byt s (pos + (m + 1)) % 64) (by omega) hd
  rw [show ((Utf.byt s (pos + (m + 1)) : Int) % 64) = ((Utf.byt s (pos + (m + 1)) % 64 : Nat) : Int) by simp, this]
  rfl
theorem and63 : ∀ c : Fin 256, bits BinOp.and IntKind.u8 ((c.val : Nat) : Int) 63 = ((c.val % 64 : Nat) : Int) := by decide +kernel
theorem rv_next2 (s : ByteArray) (pos st m : Nat) (h : st < 32) (hm : m ≤ 2) :
    bits BinOp.or IntKind.i32 (wrap32 ((Utf.val s pos st m : Nat) * 64)) (wrap32 (bits BinOp.and IntKind.u8 (Utf.byt s (pos + (m + 1)) : Int) 63)) = ((Utf.val s pos st (m + 1) : Nat) : Int) := by
  have h1 := and63 ⟨Utf.byt s (pos + (m + 1)), Utf.byt_lt _ _⟩
  simp only at h1
  have hd : Utf.byt s (pos + (m + 1)) % 64 < 64 := Nat.mod_lt _ (by omega)
  have h2 : wrap32 (((Utf.byt s (pos + (m + 1)) % 64 : Nat) : Int)) = ((Utf.byt s (pos + (m + 1)) % 64 : Nat) : Int) := by unfold wrap32; omega
  rw [h1, h2]
  have := rv_next s pos st m h hm
  rw [show ((Utf.byt s (pos + (m + 1)) : Int) % 64) = ((Utf.byt s (pos + (m + 1)) % 64 : Nat) : Int) by simp] at this
  exact this
theorem conts_false (s : ByteArray) (pos : Nat) {k m : Nat} (hm : m < k) (h : Utf.cont s (pos + (m + 1)) = false) : Utf.conts s pos k = false := by
  induction k with
  | zero => omega
  | succ k ih =>
    rw [Utf.conts]
    by_cases hk : m = k
    · subst hk; rw [h, Bool.and_false]
    · rw [ih (by omega), Bool.false_and]
theorem conts_lt (s : ByteArray) (pos : Nat) : ∀ k, Utf.conts s pos k = true → k = 0 ∨ pos + k < s.size
  | 0, _ => .inl rfl
  | k + 1, h => by
    rw [Utf.conts, Bool.and_eq_true] at h
    have := h.2
    unfold Utf.cont at this
    simp only [Bool.and_eq_true, decide_eq_true_eq] at this
    exact .inr this.1
set_option maxHeartbeats 4000000 in
theorem utf_val (s : ByteArray) (w : World) (hs : s.size ≤ 9223372036854775807) :
    Calls Tryz.prog 108 #[.string s] w (RetBool (Utf.ok s) w) := by
  go_enter Tryz.func108, Tryz.ntmps108
  go_wp2
  go_loopw [3] (fun i w' => UtfR s w i w') (fun i _ => s.size - (intOf i).toNat)
  case atStart => exact ⟨0, s.size, rfl, rfl, by omega, rfl⟩
  case round =>
    obtain ⟨pos, b, rfl, rfl, hb, hc⟩ := hrel
    by_cases hp : pos < s.size
    · have hg : (s[pos]'hp).toNat = Utf.byt s pos := by unfold Utf.byt; rw [show s.get! pos = s.get! (pos + 0) from rfl, get_at s pos hp]
      have hlt := Utf.byt_lt s pos
      by_cases a0 : Utf.byt s pos < 128
      · have hkk : Utf.kOf (Utf.byt s pos) = 0 := by unfold Utf.kOf; repeat' split; all_goals omega
        have hss : Utf.startOf (Utf.byt s pos) = Utf.byt s pos := by unfold Utf.startOf; repeat' split; all_goals omega
        have hll : Utf.leastOf (Utf.byt s pos) = 0 := by unfold Utf.leastOf; repeat' split; all_goals omega
        have hhd : Utf.okHead (Utf.byt s pos) = true := by unfold Utf.okHead; simp; omega
        have hst : Utf.okStep s pos = (Utf.conts s pos 0 && Utf.okRune (Utf.byt s pos) (Utf.val s pos (Utf.byt s pos) 0)) := by unfold Utf.okStep; rw [hhd, hkk, hss, Bool.true_and]
        have hlt32 : True := by trivial
        have hx : (((Utf.byt s pos) : Nat) : Int) = (Utf.byt s pos : Int) := by rfl
        have HK := Lib.hid hkk; clear hkk
        have HL := Lib.hid hll; clear hll
        have HS := Lib.hid hst; clear hst
        have HC := Lib.hid hc; clear hc
        have HX := Lib.hid hx; clear hx
        clear hss hhd
        go_wp2
        try simp only [show decide ((Utf.byt s pos : Int) < 224) = true from by simp; omega]
        try simp only [show decide ((Utf.byt s pos : Int) < 240) = true from by simp; omega]
        try simp only [show decide ((Utf.byt s pos : Int) < 245) = true from by simp; omega]
        go_loopw [7, 8] (fun r n w' => InR s pos (Utf.byt s pos) 0 w r n w') (fun _ n _ => 1 - (intOf n).toNat)
        case atStart => exact ⟨0, by omega, by first | rfl | (rw [← HX.out]; rfl), rfl, rfl, rfl⟩
        case round =>
          obtain ⟨m, hm, rfl, rfl, hcn, rfl⟩ := hrel
          have HN := Lib.hid hcn; clear hcn
          by_cases hlt2 : m < 0
          · exact absurd hlt2 (by omega)
          · obtain rfl : m = 0 := by omega
            have hor : Utf.okRune (Utf.byt s pos) (Utf.val s pos (Utf.byt s pos) 0) = (decide (0 ≤ Utf.val s pos (Utf.byt s pos) 0) && decide (Utf.val s pos (Utf.byt s pos) 0 ≤ 1114111) && !(decide (55296 ≤ Utf.val s pos (Utf.byt s pos) 0) && decide (Utf.val s pos (Utf.byt s pos) 0 ≤ 57343))) := by unfold Utf.okRune; rw [HL.out]
            have hcl := conts_lt s pos _ HN.out
            have hst2 : Utf.okStep s pos = _ := HS.out
            rw [HN.out, Bool.true_and, hor] at hst2
            clear hor HX
            generalize Utf.val s pos (Utf.byt s pos) 0 = R at *
            by_cases hR : 0 ≤ R ∧ R ≤ 1114111 ∧ ¬ (55296 ≤ R ∧ R ≤ 57343)
            · have hok : Utf.okStep s pos = true := by rw [hst2]; first | (simp; done) | (simp; omega)
              obtain ⟨g, rfl, hg2, hgb⟩ := Utf.okFrom_on s b pos hp hb hok
              rw [HK.out] at hgb
              have hg3 : Utf.okFrom s g (pos + (0 + 1)) = Utf.ok s := by rw [← HC.out, hg2, HK.out]
              have HG := Lib.hid hg3; clear hg3
              obtain ⟨r1, r2, r3⟩ := hR
              clear hst2 hok hg2 HK HL HS HC HN
              have r4 : R < 55296 ∨ 57343 < R := by omega
              clear r3
              rcases r4 with r4 | r4
              · go_wp2
                exact ⟨⟨pos + (0 + 1), g, by first | rfl | (simp; done) | (simp; omega), rfl, by omega, HG.out⟩, by first | (simp [intOf]; done) | (simp [intOf]; omega)⟩
              · go_wp2
                exact ⟨⟨pos + (0 + 1), g, by first | rfl | (simp; done) | (simp; omega), rfl, by omega, HG.out⟩, by first | (simp [intOf]; done) | (simp [intOf]; omega)⟩
            · have hno : Utf.ok s = false := by rw [← HC.out]; exact Utf.okFrom_bad s b pos hp hb (by rw [hst2]; first | (simp; done) | (simp; omega))
              have HNO := Lib.hid hno; clear hno
              clear hst2 HK HL HS HC HN
              have r4 : R < 0 ∨ 1114111 < R ∨ (55296 ≤ R ∧ R ≤ 57343) := by omega
              clear hR
              rcases r4 with r4 | r4 | ⟨r4, r5⟩
              all_goals first | (exfalso; omega) | (go_wp2; go_ret; exact ⟨by rw [HNO.out]; rfl, Below.refl _ _⟩)
      · by_cases a1 : Utf.byt s pos < 194
        · have hno : Utf.ok s = false := by
            rw [← hc]; apply Utf.okFrom_bad s b pos hp hb
            have : Utf.okHead (Utf.byt s pos) = false := by unfold Utf.okHead; simp; omega
            unfold Utf.okStep; rw [this]; rfl
          have HNO := Lib.hid hno; clear hno hc
          go_wp2
          go_ret
          exact ⟨by rw [HNO.out]; rfl, Below.refl _ _⟩
        · by_cases a2 : Utf.byt s pos < 224
          · have hkk : Utf.kOf (Utf.byt s pos) = 1 := by unfold Utf.kOf; repeat' split; all_goals omega
            have hss : Utf.startOf (Utf.byt s pos) = Utf.byt s pos % 32 := by unfold Utf.startOf; repeat' split; all_goals omega
            have hll : Utf.leastOf (Utf.byt s pos) = 128 := by unfold Utf.leastOf; repeat' split; all_goals omega
            have hhd : Utf.okHead (Utf.byt s pos) = true := by unfold Utf.okHead; simp; omega
            have hst : Utf.okStep s pos = (Utf.conts s pos 1 && Utf.okRune (Utf.byt s pos) (Utf.val s pos (Utf.byt s pos % 32) 1)) := by unfold Utf.okStep; rw [hhd, hkk, hss, Bool.true_and]
            have hlt32 : (Utf.byt s pos % 32) < 32 := by omega
            have hx : (((Utf.byt s pos % 32) : Nat) : Int) = (Utf.byt s pos : Int) % 32 := by simp
            have HK := Lib.hid hkk; clear hkk
            have HL := Lib.hid hll; clear hll
            have HS := Lib.hid hst; clear hst
            have HC := Lib.hid hc; clear hc
            have HX := Lib.hid hx; clear hx
            clear hss hhd
            go_wp2
            try simp only [show decide ((Utf.byt s pos : Int) < 224) = true from by simp; omega]
            try simp only [show decide ((Utf.byt s pos : Int) < 240) = true from by simp; omega]
            try simp only [show decide ((Utf.byt s pos : Int) < 245) = true from by simp; omega]
            go_loopw [7, 8] (fun r n w' => InR s pos (Utf.byt s pos % 32) 1 w r n w') (fun _ n _ => 2 - (intOf n).toNat)
            case atStart => exact ⟨0, by omega, by first | rfl | (rw [← HX.out]; rfl), rfl, rfl, rfl⟩
            case round =>
              obtain ⟨m, hm, rfl, rfl, hcn, rfl⟩ := hrel
              have HN := Lib.hid hcn; clear hcn
              by_cases hlt2 : m < 1
              · by_cases hq : pos + (m + 1) < s.size
                · have hg1 : (s[pos + (m + 1)]'hq).toNat = Utf.byt s (pos + (m + 1)) := by unfold Utf.byt; rw [show s.get! (pos + (m + 1)) = s.get! ((pos + (m + 1)) + 0) from rfl, get_at s (pos + (m + 1)) hq]
                  have ha := and192' (Utf.byt s (pos + (m + 1))) (Utf.byt_lt _ _)
                  by_cases hc2 : Utf.byt s (pos + (m + 1)) / 64 = 2
                  · have ha2 : (bits BinOp.and IntKind.u8 (Utf.byt s (pos + (m + 1)) : Int) 192 != 128) = false := by rw [ha, hc2]; rfl
                    have hr := rv_next2 s pos (Utf.byt s pos % 32) m hlt32 (by omega)
                    have hcc : Utf.cont s (pos + (m + 1)) = true := by unfold Utf.cont; rw [hc2, decide_eq_true hq]; rfl
                    have HCC := Lib.hid hcc; clear hcc
                    clear ha hc2
                    go_wp2
                    first
                      | exact ⟨⟨m + 1, by omega, rfl, by first | rfl | (simp; done) | (simp; omega), by rw [Utf.conts, HN.out, HCC.out]; rfl, rfl⟩, by first | (simp [intOf]; done) | (simp [intOf]; omega)⟩
                      | (go_roundw
                         case rel => exact ⟨m + 1, by omega, rfl, by first | rfl | (simp; done) | (simp; omega), by rw [Utf.conts, HN.out, HCC.out]; rfl, rfl⟩
                         case measure => first | (simp [intOf]; done) | (simp [intOf]; omega))
                      | (go_roundw
                         case rel => ((repeat apply Exists.intro); refine ⟨?_, rfl⟩; exact ⟨m + 1, by omega, by first | rfl | rw [hr], by first | rfl | (simp; done) | (simp; omega), by rw [Utf.conts, HN.out, HCC.out]; rfl, rfl⟩)
                         case measure => first | (simp [intOf]; done) | (simp [intOf]; omega))
                  · have ha2 : (bits BinOp.and IntKind.u8 (Utf.byt s (pos + (m + 1)) : Int) 192 != 128) = true := by rw [ha]; simp [hc2]
                    have hcc : Utf.cont s (pos + (m + 1)) = false := by unfold Utf.cont; simp [hc2]
                    have hno : Utf.ok s = false := by rw [← HC.out]; exact Utf.okFrom_bad s b pos hp hb (by rw [HS.out, conts_false s pos hlt2 hcc, Bool.false_and])
                    have HNO := Lib.hid hno; clear hno
                    clear ha hc2 hcc
                    go_wp2
                    go_ret
                    exact ⟨by rw [HNO.out]; rfl, Below.refl _ _⟩
                · have hcc : Utf.cont s (pos + (m + 1)) = false := by unfold Utf.cont; simp [hq]
                  have hq2 : s.size ≤ pos + (m + 1) := by omega
                  have hcl : pos + m < s.size := by rcases conts_lt s pos m HN.out with h | h <;> omega
                  have hno : Utf.ok s = false := by rw [← HC.out]; exact Utf.okFrom_bad s b pos hp hb (by rw [HS.out, conts_false s pos hlt2 hcc, Bool.false_and])
                  have HNO := Lib.hid hno; clear hno
                  clear hcc
                  go_wp2
                  go_ret
                  exact ⟨by rw [HNO.out]; rfl, Below.refl _ _⟩
              · obtain rfl : m = 1 := by omega
                have hor : Utf.okRune (Utf.byt s pos) (Utf.val s pos (Utf.byt s pos % 32) 1) = (decide (128 ≤ Utf.val s pos (Utf.byt s pos % 32) 1) && decide (Utf.val s pos (Utf.byt s pos % 32) 1 ≤ 1114111) && !(decide (55296 ≤ Utf.val s pos (Utf.byt s pos % 32) 1) && decide (Utf.val s pos (Utf.byt s pos % 32) 1 ≤ 57343))) := by unfold Utf.okRune; rw [HL.out]
                have hcl := conts_lt s pos _ HN.out
                have hst2 : Utf.okStep s pos = _ := HS.out
                rw [HN.out, Bool.true_and, hor] at hst2
                clear hor HX
                generalize Utf.val s pos (Utf.byt s pos % 32) 1 = R at *
                by_cases hR : 128 ≤ R ∧ R ≤ 1114111 ∧ ¬ (55296 ≤ R ∧ R ≤ 57343)
                · have hok : Utf.okStep s pos = true := by rw [hst2]; first | (simp; done) | (simp; omega)
                  obtain ⟨g, rfl, hg2, hgb⟩ := Utf.okFrom_on s b pos hp hb hok
                  rw [HK.out] at hgb
                  have hg3 : Utf.okFrom s g (pos + (1 + 1)) = Utf.ok s := by rw [← HC.out, hg2, HK.out]
                  have HG := Lib.hid hg3; clear hg3
                  obtain ⟨r1, r2, r3⟩ := hR
                  clear hst2 hok hg2 HK HL HS HC HN
                  have r4 : R < 55296 ∨ 57343 < R := by omega
                  clear r3
                  rcases r4 with r4 | r4
                  · go_wp2
                    exact ⟨⟨pos + (1 + 1), g, by first | rfl | (simp; done) | (simp; omega), rfl, by omega, HG.out⟩, by first | (simp [intOf]; done) | (simp [intOf]; omega)⟩
                  · go_wp2
                    exact ⟨⟨pos + (1 + 1), g, by first | rfl | (simp; done) | (simp; omega), rfl, by omega, HG.out⟩, by first | (simp [intOf]; done) | (simp [intOf]; omega)⟩
                · have hno : Utf.ok s = false := by rw [← HC.out]; exact Utf.okFrom_bad s b pos hp hb (by rw [hst2]; first | (simp; done) | (simp; omega))
                  have HNO := Lib.hid hno; clear hno
                  clear hst2 HK HL HS HC HN
                  have r4 : R < 128 ∨ 1114111 < R ∨ (55296 ≤ R ∧ R ≤ 57343) := by omega
                  clear hR
                  rcases r4 with r4 | r4 | ⟨r4, r5⟩
                  all_goals first | (exfalso; omega) | (go_wp2; go_ret; exact ⟨by rw [HNO.out]; rfl, Below.refl _ _⟩)
          · by_cases a3 : Utf.byt s pos < 240
            · have hkk : Utf.kOf (Utf.byt s pos) = 2 := by unfold Utf.kOf; repeat' split; all_goals omega
              have hss : Utf.startOf (Utf.byt s pos) = Utf.byt s pos % 16 := by unfold Utf.startOf; repeat' split; all_goals omega
              have hll : Utf.leastOf (Utf.byt s pos) = 2048 := by unfold Utf.leastOf; repeat' split; all_goals omega
              have hhd : Utf.okHead (Utf.byt s pos) = true := by unfold Utf.okHead; simp; omega
              have hst : Utf.okStep s pos = (Utf.conts s pos 2 && Utf.okRune (Utf.byt s pos) (Utf.val s pos (Utf.byt s pos % 16) 2)) := by unfold Utf.okStep; rw [hhd, hkk, hss, Bool.true_and]
              have hlt32 : (Utf.byt s pos % 16) < 32 := by omega
              have hx : (((Utf.byt s pos % 16) : Nat) : Int) = (Utf.byt s pos : Int) % 16 := by simp
              have HK := Lib.hid hkk; clear hkk
              have HL := Lib.hid hll; clear hll
              have HS := Lib.hid hst; clear hst
              have HC := Lib.hid hc; clear hc
              have HX := Lib.hid hx; clear hx
              clear hss hhd
              go_wp2
              try simp only [show decide ((Utf.byt s pos : Int) < 224) = true from by simp; omega]
              try simp only [show decide ((Utf.byt s pos : Int) < 240) = true from by simp; omega]
              try simp only [show decide ((Utf.byt s pos : Int) < 245) = true from by simp; omega]
              go_loopw [7, 8] (fun r n w' => InR s pos (Utf.byt s pos % 16) 2 w r n w') (fun _ n _ => 3 - (intOf n).toNat)
              case atStart => exact ⟨0, by omega, by first | rfl | (rw [← HX.out]; rfl), rfl, rfl, rfl⟩
              case round =>
                obtain ⟨m, hm, rfl, rfl, hcn, rfl⟩ := hrel
                have HN := Lib.hid hcn; clear hcn
                by_cases hlt2 : m < 2
                · by_cases hq : pos + (m + 1) < s.size
                  · have hg1 : (s[pos + (m + 1)]'hq).toNat = Utf.byt s (pos + (m + 1)) := by unfold Utf.byt; rw [show s.get! (pos + (m + 1)) = s.get! ((pos + (m + 1)) + 0) from rfl, get_at s (pos + (m + 1)) hq]
                    have ha := and192' (Utf.byt s (pos + (m + 1))) (Utf.byt_lt _ _)
                    by_cases hc2 : Utf.byt s (pos + (m + 1)) / 64 = 2
                    · have ha2 : (bits BinOp.and IntKind.u8 (Utf.byt s (pos + (m + 1)) : Int) 192 != 128) = false := by rw [ha, hc2]; rfl
                      have hr := rv_next2 s pos (Utf.byt s pos % 16) m hlt32 (by omega)
                      have hcc : Utf.cont s (pos + (m + 1)) = true := by unfold Utf.cont; rw [hc2, decide_eq_true hq]; rfl
                      have HCC := Lib.hid hcc; clear hcc
                      clear ha hc2
                      go_wp2
                      first
                        | exact ⟨⟨m + 1, by omega, rfl, by first | rfl | (simp; done) | (simp; omega), by rw [Utf.conts, HN.out, HCC.out]; rfl, rfl⟩, by first | (simp [intOf]; done) | (simp [intOf]; omega)⟩
                        | (go_roundw
                           case rel => exact ⟨m + 1, by omega, rfl, by first | rfl | (simp; done) | (simp; omega), by rw [Utf.conts, HN.out, HCC.out]; rfl, rfl⟩
                           case measure => first | (simp [intOf]; done) | (simp [intOf]; omega))
                        | (go_roundw
                           case rel => ((repeat apply Exists.intro); refine ⟨?_, rfl⟩; exact ⟨m + 1, by omega, by first | rfl | rw [hr], by first | rfl | (simp; done) | (simp; omega), by rw [Utf.conts, HN.out, HCC.out]; rfl, rfl⟩)
                           case measure => first | (simp [intOf]; done) | (simp [intOf]; omega))
                    · have ha2 : (bits BinOp.and IntKind.u8 (Utf.byt s (pos + (m + 1)) : Int) 192 != 128) = true := by rw [ha]; simp [hc2]
                      have hcc : Utf.cont s (pos + (m + 1)) = false := by unfold Utf.cont; simp [hc2]
                      have hno : Utf.ok s = false := by rw [← HC.out]; exact Utf.okFrom_bad s b pos hp hb (by rw [HS.out, conts_false s pos hlt2 hcc, Bool.false_and])
                      have HNO := Lib.hid hno; clear hno
                      clear ha hc2 hcc
                      go_wp2
                      go_ret
                      exact ⟨by rw [HNO.out]; rfl, Below.refl _ _⟩
                  · have hcc : Utf.cont s (pos + (m + 1)) = false := by unfold Utf.cont; simp [hq]
                    have hq2 : s.size ≤ pos + (m + 1) := by omega
                    have hcl : pos + m < s.size := by rcases conts_lt s pos m HN.out with h | h <;> omega
                    have hno : Utf.ok s = false := by rw [← HC.out]; exact Utf.okFrom_bad s b pos hp hb (by rw [HS.out, conts_false s pos hlt2 hcc, Bool.false_and])
                    have HNO := Lib.hid hno; clear hno
                    clear hcc
                    go_wp2
                    go_ret
                    exact ⟨by rw [HNO.out]; rfl, Below.refl _ _⟩
                · obtain rfl : m = 2 := by omega
                  have hor : Utf.okRune (Utf.byt s pos) (Utf.val s pos (Utf.byt s pos % 16) 2) = (decide (2048 ≤ Utf.val s pos (Utf.byt s pos % 16) 2) && decide (Utf.val s pos (Utf.byt s pos % 16) 2 ≤ 1114111) && !(decide (55296 ≤ Utf.val s pos (Utf.byt s pos % 16) 2) && decide (Utf.val s pos (Utf.byt s pos % 16) 2 ≤ 57343))) := by unfold Utf.okRune; rw [HL.out]
                  have hcl := conts_lt s pos _ HN.out
                  have hst2 : Utf.okStep s pos = _ := HS.out
                  rw [HN.out, Bool.true_and, hor] at hst2
                  clear hor HX
                  generalize Utf.val s pos (Utf.byt s pos % 16) 2 = R at *
                  by_cases hR : 2048 ≤ R ∧ R ≤ 1114111 ∧ ¬ (55296 ≤ R ∧ R ≤ 57343)
                  · have hok : Utf.okStep s pos = true := by rw [hst2]; first | (simp; done) | (simp; omega)
                    obtain ⟨g, rfl, hg2, hgb⟩ := Utf.okFrom_on s b pos hp hb hok
                    rw [HK.out] at hgb
                    have hg3 : Utf.okFrom s g (pos + (2 + 1)) = Utf.ok s := by rw [← HC.out, hg2, HK.out]
                    have HG := Lib.hid hg3; clear hg3
                    obtain ⟨r1, r2, r3⟩ := hR
                    clear hst2 hok hg2 HK HL HS HC HN
                    have r4 : R < 55296 ∨ 57343 < R := by omega
                    clear r3
                    rcases r4 with r4 | r4
                    · go_wp2
                      exact ⟨⟨pos + (2 + 1), g, by first | rfl | (simp; done) | (simp; omega), rfl, by omega, HG.out⟩, by first | (simp [intOf]; done) | (simp [intOf]; omega)⟩
                    · go_wp2
                      exact ⟨⟨pos + (2 + 1), g, by first | rfl | (simp; done) | (simp; omega), rfl, by omega, HG.out⟩, by first | (simp [intOf]; done) | (simp [intOf]; omega)⟩
                  · have hno : Utf.ok s = false := by rw [← HC.out]; exact Utf.okFrom_bad s b pos hp hb (by rw [hst2]; first | (simp; done) | (simp; omega))
                    have HNO := Lib.hid hno; clear hno
                    clear hst2 HK HL HS HC HN
                    have r4 : R < 2048 ∨ 1114111 < R ∨ (55296 ≤ R ∧ R ≤ 57343) := by omega
                    clear hR
                    rcases r4 with r4 | r4 | ⟨r4, r5⟩
                    all_goals first | (exfalso; omega) | (go_wp2; go_ret; exact ⟨by rw [HNO.out]; rfl, Below.refl _ _⟩)
            · by_cases a4 : Utf.byt s pos < 245
              · have hkk : Utf.kOf (Utf.byt s pos) = 3 := by unfold Utf.kOf; repeat' split; all_goals omega
                have hss : Utf.startOf (Utf.byt s pos) = Utf.byt s pos % 8 := by unfold Utf.startOf; repeat' split; all_goals omega
                have hll : Utf.leastOf (Utf.byt s pos) = 65536 := by unfold Utf.leastOf; repeat' split; all_goals omega
                have hhd : Utf.okHead (Utf.byt s pos) = true := by unfold Utf.okHead; simp; omega
                have hst : Utf.okStep s pos = (Utf.conts s pos 3 && Utf.okRune (Utf.byt s pos) (Utf.val s pos (Utf.byt s pos % 8) 3)) := by unfold Utf.okStep; rw [hhd, hkk, hss, Bool.true_and]
                have hlt32 : (Utf.byt s pos % 8) < 32 := by omega
                have hx : (((Utf.byt s pos % 8) : Nat) : Int) = (Utf.byt s pos : Int) % 8 := by simp
                have HK := Lib.hid hkk; clear hkk
                have HL := Lib.hid hll; clear hll
                have HS := Lib.hid hst; clear hst
                have HC := Lib.hid hc; clear hc
                have HX := Lib.hid hx; clear hx
                clear hss hhd
                go_wp2
                try simp only [show decide ((Utf.byt s pos : Int) < 224) = true from by simp; omega]
                try simp only [show decide ((Utf.byt s pos : Int) < 240) = true from by simp; omega]
                try simp only [show decide ((Utf.byt s pos : Int) < 245) = true from by simp; omega]
                go_loopw [7, 8] (fun r n w' => InR s pos (Utf.byt s pos % 8) 3 w r n w') (fun _ n _ => 4 - (intOf n).toNat)
                case atStart => exact ⟨0, by omega, by first | rfl | (rw [← HX.out]; rfl), rfl, rfl, rfl⟩
                case round =>
                  obtain ⟨m, hm, rfl, rfl, hcn, rfl⟩ := hrel
                  have HN := Lib.hid hcn; clear hcn
                  by_cases hlt2 : m < 3
                  · by_cases hq : pos + (m + 1) < s.size
                    · have hg1 : (s[pos + (m + 1)]'hq).toNat = Utf.byt s (pos + (m + 1)) := by unfold Utf.byt; rw [show s.get! (pos + (m + 1)) = s.get! ((pos + (m + 1)) + 0) from rfl, get_at s (pos + (m + 1)) hq]
                      have ha := and192' (Utf.byt s (pos + (m + 1))) (Utf.byt_lt _ _)
                      by_cases hc2 : Utf.byt s (pos + (m + 1)) / 64 = 2
                      · have ha2 : (bits BinOp.and IntKind.u8 (Utf.byt s (pos + (m + 1)) : Int) 192 != 128) = false := by rw [ha, hc2]; rfl
                        have hr := rv_next2 s pos (Utf.byt s pos % 8) m hlt32 (by omega)
                        have hcc : Utf.cont s (pos + (m + 1)) = true := by unfold Utf.cont; rw [hc2, decide_eq_true hq]; rfl
                        have HCC := Lib.hid hcc; clear hcc
                        clear ha hc2
                        go_wp2
                        first
                          | exact ⟨⟨m + 1, by omega, rfl, by first | rfl | (simp; done) | (simp; omega), by rw [Utf.conts, HN.out, HCC.out]; rfl, rfl⟩, by first | (simp [intOf]; done) | (simp [intOf]; omega)⟩
                          | (go_roundw
                             case rel => exact ⟨m + 1, by omega, rfl, by first | rfl | (simp; done) | (simp; omega), by rw [Utf.conts, HN.out, HCC.out]; rfl, rfl⟩
                             case measure => first | (simp [intOf]; done) | (simp [intOf]; omega))
                          | (go_roundw
                             case rel => ((repeat apply Exists.intro); refine ⟨?_, rfl⟩; exact ⟨m + 1, by omega, by first | rfl | rw [hr], by first | rfl | (simp; done) | (simp; omega), by rw [Utf.conts, HN.out, HCC.out]; rfl, rfl⟩)
                             case measure => first | (simp [intOf]; done) | (simp [intOf]; omega))
                      · have ha2 : (bits BinOp.and IntKind.u8 (Utf.byt s (pos + (m + 1)) : Int) 192 != 128) = true := by rw [ha]; simp [hc2]
                        have hcc : Utf.cont s (pos + (m + 1)) = false := by unfold Utf.cont; simp [hc2]
                        have hno : Utf.ok s = false := by rw [← HC.out]; exact Utf.okFrom_bad s b pos hp hb (by rw [HS.out, conts_false s pos hlt2 hcc, Bool.false_and])
                        have HNO := Lib.hid hno; clear hno
                        clear ha hc2 hcc
                        go_wp2
                        go_ret
                        exact ⟨by rw [HNO.out]; rfl, Below.refl _ _⟩
                    · have hcc : Utf.cont s (pos + (m + 1)) = false := by unfold Utf.cont; simp [hq]
                      have hq2 : s.size ≤ pos + (m + 1) := by omega
                      have hcl : pos + m < s.size := by rcases conts_lt s pos m HN.out with h | h <;> omega
                      have hno : Utf.ok s = false := by rw [← HC.out]; exact Utf.okFrom_bad s b pos hp hb (by rw [HS.out, conts_false s pos hlt2 hcc, Bool.false_and])
                      have HNO := Lib.hid hno; clear hno
                      clear hcc
                      go_wp2
                      go_ret
                      exact ⟨by rw [HNO.out]; rfl, Below.refl _ _⟩
                  · obtain rfl : m = 3 := by omega
                    have hor : Utf.okRune (Utf.byt s pos) (Utf.val s pos (Utf.byt s pos % 8) 3) = (decide (65536 ≤ Utf.val s pos (Utf.byt s pos % 8) 3) && decide (Utf.val s pos (Utf.byt s pos % 8) 3 ≤ 1114111) && !(decide (55296 ≤ Utf.val s pos (Utf.byt s pos % 8) 3) && decide (Utf.val s pos (Utf.byt s pos % 8) 3 ≤ 57343))) := by unfold Utf.okRune; rw [HL.out]
                    have hcl := conts_lt s pos _ HN.out
                    have hst2 : Utf.okStep s pos = _ := HS.out
                    rw [HN.out, Bool.true_and, hor] at hst2
                    clear hor HX
                    generalize Utf.val s pos (Utf.byt s pos % 8) 3 = R at *
                    by_cases hR : 65536 ≤ R ∧ R ≤ 1114111 ∧ ¬ (55296 ≤ R ∧ R ≤ 57343)
                    · have hok : Utf.okStep s pos = true := by rw [hst2]; first | (simp; done) | (simp; omega)
                      obtain ⟨g, rfl, hg2, hgb⟩ := Utf.okFrom_on s b pos hp hb hok
                      rw [HK.out] at hgb
                      have hg3 : Utf.okFrom s g (pos + (3 + 1)) = Utf.ok s := by rw [← HC.out, hg2, HK.out]
                      have HG := Lib.hid hg3; clear hg3
                      obtain ⟨r1, r2, r3⟩ := hR
                      clear hst2 hok hg2 HK HL HS HC HN
                      have r4 : R < 55296 ∨ 57343 < R := by omega
                      clear r3
                      rcases r4 with r4 | r4
                      · exfalso; omega
                      · go_wp2
                        exact ⟨⟨pos + (3 + 1), g, by first | rfl | (simp; done) | (simp; omega), rfl, by omega, HG.out⟩, by first | (simp [intOf]; done) | (simp [intOf]; omega)⟩
                    · have hno : Utf.ok s = false := by rw [← HC.out]; exact Utf.okFrom_bad s b pos hp hb (by rw [hst2]; first | (simp; done) | (simp; omega))
                      have HNO := Lib.hid hno; clear hno
                      clear hst2 HK HL HS HC HN
                      have r4 : R < 65536 ∨ 1114111 < R ∨ (55296 ≤ R ∧ R ≤ 57343) := by omega
                      clear hR
                      rcases r4 with r4 | r4 | ⟨r4, r5⟩
                      all_goals first | (exfalso; omega) | (go_wp2; go_ret; exact ⟨by rw [HNO.out]; rfl, Below.refl _ _⟩)
              · have hno : Utf.ok s = false := by
                  rw [← hc]; apply Utf.okFrom_bad s b pos hp hb
                  have : Utf.okHead (Utf.byt s pos) = false := by unfold Utf.okHead; simp; omega
                  unfold Utf.okStep; rw [this]; rfl
                have HNO := Lib.hid hno; clear hno hc
                go_wp2
                go_ret
                exact ⟨by rw [HNO.out]; rfl, Below.refl _ _⟩
    · have hok : Utf.ok s = true := by rw [← hc]; exact Utf.okFrom_end s b pos hp
      clear hc
      go_wp2
      go_ret
      exact ⟨by first | rfl | (rw [hok]; rfl), Below.refl _ _⟩
end Go.Proofs.YtcjidlgmbjebjaaGreatDoor
