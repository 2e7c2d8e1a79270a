/- A part of the proof of ValueBack. -/
import Derived.Test.YtcjidlgmbjebjaaDoorVbj
import Derived.RowKit
import Derived.Lib.AtoiAll
import Derived.Lib.ItoaNum
import Derived.Test.YtcjidlgmbjebjaaDoorVbc
import Derived.Shelf.Strconv.AtoiAll
import Derived.Test.YtcjidlgmbjebjaaDoorProg
import Derived.Test.YtcjidlgmbjebjaaDoorPSchemaFormsx0
import Derived.Test.YtcjidlgmbjebjaaDoorPSchemaFormsx1
import Derived.Laws.BitsLemmas
set_option linter.unusedVariables false
set_option linter.unusedSimpArgs false
set_option maxRecDepth 100000
namespace Go.Proofs.YtcjidlgmbjebjaaDoor.Sb
open Go Go.RowKit
def q1 (c : UInt8) : List UInt8 := if c.toNat = 34 ∨ c.toNat = 92 then [92, c] else [c]
def qB : List UInt8 → List UInt8
  | [] => []
  | c :: l => q1 c ++ qB l
def unq1 : List UInt8 → List UInt8
  | [] => []
  | [c] => [c]
  | c :: d :: r => if c.toNat = 92 then d :: unq1 r else c :: unq1 (d :: r)
theorem q1_head (c : UInt8) (l : List UInt8) : (c.toNat = 92 ∨ c.toNat = 34) ∧ q1 c ++ l = 92 :: c :: l ∨ (c.toNat ≠ 92 ∧ c.toNat ≠ 34) ∧ q1 c ++ l = c :: l := by
  unfold q1
  by_cases h : c.toNat = 34 ∨ c.toNat = 92
  · rw [if_pos h]; exact .inl ⟨h.symm, rfl⟩
  · rw [if_neg h]; exact .inr ⟨by omega, rfl⟩
theorem unq1_q (l : List UInt8) : unq1 (qB l) = l := by
  induction l with
  | nil => rfl
  | cons c l ih =>
    rw [qB]
    rcases q1_head c (qB l) with ⟨h, e⟩ | ⟨h, e⟩
    · rw [e, unq1, if_pos (by decide), ih]
    · rw [e]
      cases hq : qB l with
      | nil => rw [hq] at ih; rw [← ih]; rfl
      | cons d r => rw [unq1, if_neg h.1, ← hq, ih]
theorem digit_nat (u : Nat) (h : u < 10) : (UInt8.ofNat (48 + u)).toNat = 48 + u := by
  rw [UInt8.toNat_ofNat']; omega
def uintEnd (x : Nat) (c : UInt8) : Lib.NumEnd Nat :=
  if 48 ≤ c.toNat ∧ c.toNat ≤ 57 then (if 1844674407370955162 ≤ x then .range else if 18446744073709551616 ≤ x * 10 + (c.toNat - 48) then .range else .ok (x * 10 + (c.toNat - 48))) else Lib.parseMag []
theorem uint_snoc (c : UInt8) (l : List UInt8) : ∀ acc x, Lib.parseUint10 acc l = .ok x → Lib.parseUint10 acc (l ++ [c]) = uintEnd x c := by
  induction l with
  | nil => intro acc x h; simp only [Lib.parseUint10] at h; injection h with h; subst h; rfl
  | cons a l ih =>
    intro acc x h
    rw [List.cons_append]
    simp only [Lib.parseUint10] at h ⊢
    split at h
    · split at h
      · cases h
      · split at h
        · cases h
        · rename_i h1 h2 h3
          rw [if_pos h1, if_neg h2, if_neg h3]
          exact ih _ _ h
    · cases h
theorem uint_dec (u : Nat) : u < 18446744073709551616 → Lib.parseUint10 0 (Lib.decDigits u) = .ok u := by
  induction u using Nat.strongRecOn with
  | _ u ih =>
    intro hu
    by_cases h : u < 10
    · rw [Lib.decDigits, dif_pos h, Lib.parseUint10, digit_nat u h, if_pos (by omega), if_neg (by omega), if_neg (by omega), Lib.parseUint10]
      congr 1; omega
    · rw [Lib.decDigits, dif_neg h, uint_snoc _ _ _ _ (ih (u / 10) (by omega) (by omega)), uintEnd, digit_nat _ (by omega), if_pos (by omega), if_neg (by omega), if_neg (by omega)]
      congr 1; omega
theorem dec_ne (u : Nat) : ∃ c r, Lib.decDigits u = c :: r ∧ 48 ≤ c.toNat ∧ c.toNat ≤ 57 := by
  induction u using Nat.strongRecOn with
  | _ u ih =>
    by_cases h : u < 10
    · rw [Lib.decDigits, dif_pos h]
      exact ⟨_, [], rfl, by rw [digit_nat u h]; omega, by rw [digit_nat u h]; omega⟩
    · rw [Lib.decDigits, dif_neg h]
      obtain ⟨c, r, e, h1, h2⟩ := ih (u / 10) (by omega)
      rw [e]
      exact ⟨c, r ++ _, rfl, h1, h2⟩
theorem atoi_itoa (n : Int) (h : I64 n) : Lib.atoiAll (Lib.itoa n) = .ok n := by
  unfold I64 at h
  unfold Lib.itoa
  by_cases hn : n < 0
  · rw [if_pos hn]
    obtain ⟨c, r, e, _, _⟩ := dec_ne n.natAbs
    have hu := uint_dec n.natAbs (by omega)
    unfold Lib.atoiAll
    dsimp only
    rw [if_pos (by decide)]
    unfold Lib.parseMag
    rw [if_neg (by rw [e]; simp), hu]
    dsimp only
    rw [if_neg (by simp), if_neg (by omega), if_pos (by decide)]
    congr 1; omega
  · rw [if_neg hn]
    obtain ⟨c, r, e, h1, h2⟩ := dec_ne n.toNat
    have hu := uint_dec n.toNat (by omega)
    rw [e] at hu ⊢
    unfold Lib.atoiAll
    dsimp only
    rw [if_neg (by omega)]
    unfold Lib.parseMag
    rw [if_neg (by simp), hu]
    dsimp only
    rw [if_neg (by omega), if_neg (by omega), if_neg (by omega)]
    congr 1; omega
def lNull : List UInt8 := [110, 117, 108, 108]
def lTrue : List UInt8 := [116, 114, 117, 101]
def lFalse : List UInt8 := [102, 97, 108, 115, 101]
def bA (l : List UInt8) : ByteArray := ⟨l.toArray⟩
theorem itoa_head (n : Int) : ∃ c r, Lib.itoa n = c :: r ∧ c.toNat ≠ 34 ∧ c.toNat < 60 := by
  unfold Lib.itoa
  by_cases hn : n < 0
  · rw [if_pos hn]; exact ⟨45, _, rfl, by decide, by decide⟩
  · rw [if_neg hn]
    obtain ⟨c, r, e, h1, h2⟩ := dec_ne n.toNat
    exact ⟨c, r, e, by omega, by omega⟩
theorem nDigits_le (u : Nat) (h : u < 10000000000000000000) : Lib.nDigits u ≤ 19 := by
  have : ∀ k u, u < 10 ^ (k + 1) → Lib.nDigits u ≤ k + 1 := by
    intro k
    induction k with
    | zero => intro u h; rw [Lib.nDigits_small (by simpa using h)]; exact Nat.le_refl _
    | succ k ih =>
      intro u h
      by_cases h10 : u < 10
      · rw [Lib.nDigits_small h10]; omega
      · rw [Lib.nDigits_big h10]
        have := ih (u / 10) (by rw [Nat.pow_succ] at h; omega)
        omega
  exact this 18 u (by simpa using h)
theorem itoa_len (n : Int) (h : I64 n) : 1 ≤ (Lib.itoa n).length ∧ (Lib.itoa n).length ≤ 20 := by
  unfold I64 at h
  have hp := Lib.nDigits_pos
  unfold Lib.itoa
  by_cases hn : n < 0
  · rw [if_pos hn, List.length_cons, Lib.decDigits_length]
    have := nDigits_le n.natAbs (by omega)
    omega
  · rw [if_neg hn, Lib.decDigits_length]
    have := nDigits_le n.toNat (by omega)
    have := hp n.toNat
    omega
theorem itoa_words (n : Int) : Lib.itoa n ≠ lNull ∧ Lib.itoa n ≠ lTrue ∧ Lib.itoa n ≠ lFalse ∧ (Lib.itoa n).head? ≠ some 34 := by
  obtain ⟨c, r, e, h1, h2⟩ := itoa_head n
  rw [e]
  refine ⟨?_, ?_, ?_, ?_⟩ <;> intro h <;> injection h with h <;> subst h <;> revert h1 h2 <;> decide
end Go.Proofs.YtcjidlgmbjebjaaDoor.Sb

namespace Go.Proofs.YtcjidlgmbjebjaaDoor
open Go Go.RowKit
theorem uq_end (m : ByteArray) (i : Nat) (h : m.size ≤ i) : Sb.unq1 (m.data.toList.drop i) = [] := by
  rw [List.drop_eq_nil_of_le (by simpa using h)]; rfl
theorem uq_drop (m : ByteArray) (i : Nat) (h : i < m.size) : m.data.toList.drop i = m[i] :: m.data.toList.drop (i + 1) := by
  have h2 : i < m.data.toList.length := by simpa using h
  rw [List.drop_eq_getElem_cons h2]
  rfl
theorem uq_one (m : ByteArray) (i : Nat) (h : i < m.size) (hc : ¬ ((m[i]).toNat = 92 ∧ i + 1 < m.size)) :
    Sb.unq1 (m.data.toList.drop i) = m[i] :: Sb.unq1 (m.data.toList.drop (i + 1)) := by
  rw [uq_drop m i h]
  by_cases h1 : i + 1 < m.size
  · rw [uq_drop m (i + 1) h1, Sb.unq1, if_neg (fun e => hc ⟨e, h1⟩)]
  · rw [List.drop_eq_nil_of_le (by simp; omega)]; rfl
theorem uq_two (m : ByteArray) (i : Nat) (h : i < m.size) (hc : (m[i]).toNat = 92) (h1 : i + 1 < m.size) :
    Sb.unq1 (m.data.toList.drop i) = m[i + 1] :: Sb.unq1 (m.data.toList.drop (i + 2)) := by
  rw [uq_drop m i h, uq_drop m (i + 1) h1, Sb.unq1, if_pos hc]
def UqR (m : ByteArray) (w : World) (n : Value) (w' : World) : Prop :=
  ∃ (i : Nat) (l : List UInt8), i ≤ m.size ∧ n = .int .i64 i ∧ BL w l w' ∧ l.length ≤ i ∧ l ++ Sb.unq1 (m.data.toList.drop i) = Sb.unq1 m.data.toList
theorem UqR.step (m : ByteArray) (w w' : World) (i j : Nat) (l : List UInt8) (c : UInt8) (hj : j ≤ m.size) (hij : i < j) (hl : l.length ≤ i)
    (he : l ++ Sb.unq1 (m.data.toList.drop i) = Sb.unq1 m.data.toList) (hu : Sb.unq1 (m.data.toList.drop i) = c :: Sb.unq1 (m.data.toList.drop j))
    (hb : BL w (l ++ [c]) w') : UqR m w (.int .i64 j) w' := by
  refine ⟨j, l ++ [c], hj, rfl, hb, by simp; omega, ?_⟩
  rw [← he, hu]; simp
theorem bl_string (B b : Nat) (l : List UInt8) (w : World) (h : Lib.IsBuilder 171 5 B b (Lib.byteCells l) w) (hBw : B ≤ w.heap.size) :
    Calls Tryd.prog 112 #[.pointer (some ⟨b, 0, none⟩)] w fun e w' => e = .returned (.string ⟨l.toArray⟩) ∧ Below B w w' := Any.Builder_String_any Tryd.lays169 Tryd.Builder_Extra_169 B b l w h hBw
def uS (s : ByteArray) : ByteArray := ⟨(Sb.unq1 (s.extract 1 (s.size - 1)).data.toList).toArray⟩
set_option maxHeartbeats 1000000 in
theorem unquoted_val (s : ByteArray) (w : World) (h2 : 2 ≤ s.size) (hs : s.size ≤ 5000) :
    Calls Tryd.prog 97 #[.string s] w (RetS (.string (uS s)) w) := by
  have hB0 : BL w [] (w.alloc (.cells #[.pointer none, .slice none 0 0] 171)) := ⟨Lib.fresh_isBuilder 171 5 w, (Below.refl _ w).alloc (Nat.le_refl _) _⟩
  go_enter Tryd.func97, Tryd.ntmps97
  go_wp2_with fail
  have hm : (s.extract 1 (s.size - 1)).size ≤ 5000 := by simp; omega
  have hE := Lib.hid (show uS s = ⟨(Sb.unq1 (s.extract 1 (s.size - 1)).data.toList).toArray⟩ from rfl)
  generalize s.extract 1 (s.size - 1) = m at hm hE ⊢
  go_loopw [5] (fun n w' => UqR m w n w') (fun n _ => m.size - (intOf n).toNat)
  case atStart => exact ⟨0, [], by omega, rfl, hB0, by simp, by simp⟩
  case round =>
    obtain ⟨i, l, hi, rfl, hb, hl, he⟩ := hrel
    clear hB0
    by_cases hp : i < m.size
    · by_cases hc : (m[i]).toNat = 92
      · by_cases h1 : i + 1 < m.size
        · have hu := uq_two m i hp hc h1
          have hl2 : l.length ≤ 10000 := by omega
          have HS := Lib.hid (UqR.step m w · i (i + 2) l m[i + 1] (by omega) (by omega) hl he hu)
          clear hu he
          go_wp2_with (first
            | (go_at_call 119; refine (bl_write w _ _ m[i + 1] _ ?_ hb hl2).mono ?_; (· first | rfl | omega); rintro e w3 ⟨rfl, h3⟩))
          exact ⟨HS.out _ h3, by simp [intOf]; omega⟩
        · have hu := uq_one m i hp (by omega)
          have hl2 : l.length ≤ 10000 := by omega
          have HS := Lib.hid (UqR.step m w · i (i + 1) l m[i] (by omega) (by omega) hl he hu)
          clear hu he
          go_wp2_with (first
            | (go_at_call 119; refine (bl_write w _ _ m[i] _ ?_ hb hl2).mono ?_; (· first | rfl | omega); rintro e w3 ⟨rfl, h3⟩))
          exact ⟨HS.out _ h3, by simp [intOf]; omega⟩
      · have hu := uq_one m i hp (by omega)
        have hl2 : l.length ≤ 10000 := by omega
        have HS := Lib.hid (UqR.step m w · i (i + 1) l m[i] (by omega) (by omega) hl he hu)
        have hc2 : (((m[i]).toNat : Int) == 92) = false := by rw [beq_eq_false_iff_ne]; omega
        clear hu he hc
        go_wp2_with (first
            | (go_at_call 119; refine (bl_write w _ _ m[i] _ ?_ hb hl2).mono ?_; (· first | rfl | omega); rintro e w3 ⟨rfl, h3⟩))
        exact ⟨HS.out _ h3, by simp [intOf]; omega⟩
    · obtain rfl : i = m.size := by omega
      rw [uq_end m m.size (Nat.le_refl _), List.append_nil] at he
      have HE := Lib.hid he
      clear he
      have hl2 : l.length ≤ 10000 := by omega
      go_wp2_with (first
            | (go_at_call 112; refine (bl_string _ _ l _ hb.1 hb.2.size).mono ?_; rintro e w4 ⟨rfl, h4⟩))
      go_ret
      exact ⟨by rw [hE.out, ← HE.out]; rfl, hb.2.trans h4⟩
end Go.Proofs.YtcjidlgmbjebjaaDoor

namespace Go.Proofs.YtcjidlgmbjebjaaDoor
open Go Go.Shelf
def Tryd.laysC172_ren : Go.Shelf.Ren := ⟨fun | 172 => 98 | 244 => 130 | 245 => 131 | 247 => 154 | 279 => 155 | 280 => 156 | 281 => 157 | 282 => 158 | 287 => 182 | 316 => 183 | 171 => 53 | 205 => 184 | 321 => 214 | 322 => 215 | 243 => 109 | 246 => 146 | 283 => 169 | 284 => 170 | 285 => 171 | 286 => 172 | 129 => 203 | 317 => 202 | 318 => 204 | 319 => 205 | 320 => 206 | 337 => 222 | 338 => 223 | n => n, fun | 9 => 9 | 3 => 3 | 75 => 146 | 76 => 147 | 4 => 4 | 5 => 5 | 167 => 213 | 37 => 43 | 0 => 0 | 85 => 214 | 2 => 2 | 168 => 216 | 53 => 100 | 175 => 250 | 46 => 80 | 210 => 253 | 127 => 207 | 145 => 274 | 143 => 272 | 21 => 21 | 171 => 235 | 173 => 237 | 212 => 266 | 51 => 243 | 20 => 20 | 213 => 267 | 232 => 280 | 233 => 281 | 80 => 97 | n => n, fun | 15 => 2 | 16 => 3 | 17 => 4 | 18 => 6 | 19 => 7 | n => n⟩
theorem Tryd.laysC172 : Go.Proofs.LaysC.n172 Tryd.prog Tryd.laysC172_ren := {
  mixed := by kernel_rfl
  f129 := Tryd.func203.trans (congrArg some (by kernel_rfl))
  f171 := Tryd.func53.trans (congrArg some (by kernel_rfl))
  f172 := Tryd.func98.trans (congrArg some (by kernel_rfl))
  f205 := Tryd.func184.trans (congrArg some (by kernel_rfl))
  f243 := Tryd.func109.trans (congrArg some (by kernel_rfl))
  f244 := Tryd.func130.trans (congrArg some (by kernel_rfl))
  f245 := Tryd.func131.trans (congrArg some (by kernel_rfl))
  f246 := Tryd.func146.trans (congrArg some (by kernel_rfl))
  f247 := Tryd.func154.trans (congrArg some (by kernel_rfl))
  f279 := Tryd.func155.trans (congrArg some (by kernel_rfl))
  f280 := Tryd.func156.trans (congrArg some (by kernel_rfl))
  f281 := Tryd.func157.trans (congrArg some (by kernel_rfl))
  f282 := Tryd.func158.trans (congrArg some (by kernel_rfl))
  f283 := Tryd.func169.trans (congrArg some (by kernel_rfl))
  f284 := Tryd.func170.trans (congrArg some (by kernel_rfl))
  f285 := Tryd.func171.trans (congrArg some (by kernel_rfl))
  f286 := Tryd.func172.trans (congrArg some (by kernel_rfl))
  f287 := Tryd.func182.trans (congrArg some (by kernel_rfl))
  f316 := Tryd.func183.trans (congrArg some (by kernel_rfl))
  f317 := Tryd.func202.trans (congrArg some (by kernel_rfl))
  f318 := Tryd.func204.trans (congrArg some (by kernel_rfl))
  f319 := Tryd.func205.trans (congrArg some (by kernel_rfl))
  f320 := Tryd.func206.trans (congrArg some (by kernel_rfl))
  f321 := Tryd.func214.trans (congrArg some (by kernel_rfl))
  f322 := Tryd.func215.trans (congrArg some (by kernel_rfl))
  f337 := Tryd.func222.trans (congrArg some (by kernel_rfl))
  f338 := Tryd.func223.trans (congrArg some (by kernel_rfl))
  t0 := Tryd.underlying0
  a0 := Tryd.isAgg0
  z0 := Tryd.sizeOf0
  v0 := Tryd.zeroValue0
  t2 := Tryd.underlying2
  a2 := Tryd.isAgg2
  z2 := Tryd.sizeOf2
  v2 := Tryd.zeroValue2
  t3 := Tryd.underlying3
  a3 := Tryd.isAgg3
  z3 := Tryd.sizeOf3
  v3 := Tryd.zeroValue3
  t4 := Tryd.underlying4
  a4 := Tryd.isAgg4
  z4 := Tryd.sizeOf4
  v4 := Tryd.zeroValue4
  t5 := Tryd.underlying5
  a5 := Tryd.isAgg5
  z5 := Tryd.sizeOf5
  v5 := Tryd.zeroValue5
  t9 := Tryd.underlying9
  a9 := Tryd.isAgg9
  z9 := Tryd.sizeOf9
  v9 := Tryd.zeroValue9
  t20 := Tryd.underlying20
  a20 := Tryd.isAgg20
  z20 := Tryd.sizeOf20
  v20 := Tryd.zeroValue20
  t21 := Tryd.underlying21
  a21 := Tryd.isAgg21
  z21 := Tryd.sizeOf21
  v21 := Tryd.zeroValue21
  t37 := Tryd.underlying43
  a37 := Tryd.isAgg43
  z37 := Tryd.sizeOf43
  v37 := Tryd.zeroValue43
  t46 := Tryd.underlying80
  a46 := Tryd.isAgg80
  z46 := Tryd.sizeOf80
  v46 := Tryd.zeroValue80
  t51 := Tryd.underlying243
  a51 := Tryd.isAgg243
  z51 := Tryd.sizeOf243
  v51 := Tryd.zeroValue243
  t53 := Tryd.underlying100
  a53 := Tryd.isAgg100
  z53 := Tryd.sizeOf100
  v53 := Tryd.zeroValue100
  t75 := Tryd.underlying146
  a75 := Tryd.isAgg146
  z75 := Tryd.sizeOf146
  v75 := Tryd.zeroValue146
  t76 := Tryd.underlying147
  a76 := Tryd.isAgg147
  z76 := Tryd.sizeOf147
  v76 := Tryd.zeroValue147
  t85 := Tryd.underlying214
  a85 := Tryd.isAgg214
  z85 := Tryd.sizeOf214
  v85 := Tryd.zeroValue214
  t127 := Tryd.underlying207
  a127 := Tryd.isAgg207
  z127 := Tryd.sizeOf207
  v127 := Tryd.zeroValue207
  t143 := Tryd.underlying272
  a143 := Tryd.isAgg272
  z143 := Tryd.sizeOf272
  v143 := Tryd.zeroValue272
  t145 := Tryd.underlying274
  a145 := Tryd.isAgg274
  z145 := Tryd.sizeOf274
  v145 := Tryd.zeroValue274
  t167 := Tryd.underlying213
  a167 := Tryd.isAgg213
  z167 := Tryd.sizeOf213
  v167 := Tryd.zeroValue213
  t168 := Tryd.underlying216
  a168 := Tryd.isAgg216
  z168 := Tryd.sizeOf216
  v168 := Tryd.zeroValue216
  t171 := Tryd.underlying235
  a171 := Tryd.isAgg235
  z171 := Tryd.sizeOf235
  v171 := Tryd.zeroValue235
  t173 := Tryd.underlying237
  a173 := Tryd.isAgg237
  z173 := Tryd.sizeOf237
  v173 := Tryd.zeroValue237
  t175 := Tryd.underlying250
  a175 := Tryd.isAgg250
  z175 := Tryd.sizeOf250
  v175 := Tryd.zeroValue250
  t210 := Tryd.underlying253
  a210 := Tryd.isAgg253
  z210 := Tryd.sizeOf253
  v210 := Tryd.zeroValue253
  t212 := Tryd.underlying266
  a212 := Tryd.isAgg266
  z212 := Tryd.sizeOf266
  v212 := Tryd.zeroValue266
  t213 := Tryd.underlying267
  a213 := Tryd.isAgg267
  z213 := Tryd.sizeOf267
  t232 := Tryd.underlying280
  a232 := Tryd.isAgg280
  z232 := Tryd.sizeOf280
  v232 := Tryd.zeroValue280
  t233 := Tryd.underlying281
  a233 := Tryd.isAgg281
  z233 := Tryd.sizeOf281
  v233 := Tryd.zeroValue281
  g15 := by kernel_rfl
  g16 := by kernel_rfl
  g17 := by kernel_rfl
  g18 := by kernel_rfl
  g19 := by kernel_rfl
  t80 := Tryd.underlying97
  a80 := Tryd.isAgg97
  z80 := Tryd.sizeOf97
  v80 := Tryd.zeroValue97
  i0 := by kernel_rfl
  i2 := by kernel_rfl
  i3 := by kernel_rfl
  i4 := by kernel_rfl
  i5 := by kernel_rfl
  i9 := by kernel_rfl
  i20 := by kernel_rfl
  i21 := by kernel_rfl
  i37 := by kernel_rfl
  i46 := by kernel_rfl
  i51 := by kernel_rfl
  i53 := by kernel_rfl
  i75 := by kernel_rfl
  i76 := by kernel_rfl
  i80 := by kernel_rfl
  i85 := by kernel_rfl
  i127 := by kernel_rfl
  i143 := by kernel_rfl
  i145 := by kernel_rfl
  i167 := by kernel_rfl
  i168 := by kernel_rfl
  i171 := by kernel_rfl
  i173 := by kernel_rfl
  i175 := by kernel_rfl
  i210 := by kernel_rfl
  i212 := by kernel_rfl
  i232 := by kernel_rfl
  i233 := by kernel_rfl
  m15 := by kernel_rfl
  m16 := by kernel_rfl
  m17 := by kernel_rfl
  m18 := by kernel_rfl
  m19 := by kernel_rfl
  c0 := by kernel_rfl
  c2 := by kernel_rfl
  c3 := by kernel_rfl
  c4 := by kernel_rfl
  c5 := by kernel_rfl
  c9 := by kernel_rfl
  c20 := by kernel_rfl
  c21 := by kernel_rfl
  c37 := by kernel_rfl
  c46 := by kernel_rfl
  c51 := by kernel_rfl
  c53 := by kernel_rfl
  c75 := by kernel_rfl
  c76 := by kernel_rfl
  c80 := by kernel_rfl
  c85 := by kernel_rfl
  c127 := by kernel_rfl
  c143 := by kernel_rfl
  c145 := by kernel_rfl
  c167 := by kernel_rfl
  c168 := by kernel_rfl
  c171 := by kernel_rfl
  c173 := by kernel_rfl
  c175 := by kernel_rfl
  c210 := by kernel_rfl
  c212 := by kernel_rfl
  c213 := by kernel_rfl
  c232 := by kernel_rfl
  c233 := by kernel_rfl }
open Go.RowKit in
theorem Tryd.strconv_Atoi_ok (s : ByteArray) (hmax : s.size ≤ 9223372036854775806) (v : Int) (h : Lib.atoiAll s.data.toList = .ok v) (w : World) :
    Calls Tryd.prog 98 #[.string s] w fun e w' => e = .returned (.tuple #[.int .i64 v, .nilIface]) ∧ (w' = w ∨ ∃ t, w' = Lib.bytesWorld w 5 t) := Any.strconv_Atoi_ok Tryd.laysC172 s hmax v h w
open Go.RowKit in
theorem Tryd.strconv_Atoi_syntax (s : ByteArray) (hlim : s.size ≤ 281474976710656) (h : Lib.atoiAll s.data.toList = Lib.atoiAll []) (ev : Value) (w : World) (hv : w.cell? ⟨2, 0, none⟩ = some ev) (hev : ev = .nilIface ∨ ∃ te pe, ev = .iface te pe) :
    Calls Tryd.prog 98 #[.string s] w fun e w' => ∃ N, e = .returned (.tuple #[.int .i64 (0), .iface 216 (.pointer (some ⟨N, 0, none⟩))]) ∧ w.heap.size ≤ N ∧ w'.heap[N]? = some (.cells #[.string ⟨#[65, 116, 111, 105]⟩, .string s, ev] 253 (0, 0)) ∧ Below w.heap.size w w' := Any.strconv_Atoi_syntax Tryd.laysC172 s hlim (h.trans (by rfl)) ev w hv hev
end Go.Proofs.YtcjidlgmbjebjaaDoor

namespace Go.Proofs.YtcjidlgmbjebjaaDoor.PSchemaForms
open Go.RowKit Go.Proofs.YtcjidlgmbjebjaaDoorW.PrintWords Go.Proofs.YtcjidlgmbjebjaaDoorW.PrintLast Go.Proofs.YtcjidlgmbjebjaaDoorW.PrintMore
attribute [local go_sem] max2_int min2_int max_two min_two max_three min_three max_four min_four
attribute [local go_sem high] eqA65
mutual
def hachureref02_Get.j0 : Nat → List Int → Int → Bool → Bool → Option (Int × Bool)
  | 0, _, _, _, _ => none
  | k + 1, x0, x1, x2, x22 => if x22 = true then (some (0, false)) else (hachureref02_Get.l0 k x0 x1 x2 0 0)
def hachureref02_Get.l0 : Nat → List Int → Int → Bool → Int → Int → Option (Int × Bool)
  | 0, _, _, _, _, _ => none
  | k + 1, x0, x1, x2, x8, x9 => if x9 < x1 then (if x2 = true then (if 0 ≤ (wrap64 ((wrap64 (x1 - 1)) - x9)) then (if (wrap64 ((wrap64 (x1 - 1)) - x9)) < (x0.length : Int) then (hachureref02_Get.l0 k x0 x1 x2 (Go.bits .or .u64 (IntKind.u64.wrap (x8 * 256)) (IntKind.u64.wrap (rd x0 (wrap64 ((wrap64 (x1 - 1)) - x9))))) (wrap64 (x9 + 1))) else (none)) else (none)) else (if 0 ≤ x9 then (if x9 < (x0.length : Int) then (hachureref02_Get.l0 k x0 x1 x2 (Go.bits .or .u64 (IntKind.u64.wrap (x8 * 256)) (IntKind.u64.wrap (rd x0 x9))) (wrap64 (x9 + 1))) else (none)) else (none))) else (some (x8, true))
end
def hachureref02_Get.f (k : Nat) (l0 : List Int) (a1 : Int) (a2 : Bool) : Option (Int × Bool) := if a1 < 1 then (hachureref02_Get.j0 k l0 a1 a2 true) else (if a1 > 8 then (hachureref02_Get.j0 k l0 a1 a2 true) else (hachureref02_Get.j0 k l0 a1 a2 (decide ((l0.length : Int) < a1))))
theorem hachureref02_Get.mono_l : ∀ k, (∀ y0 y1 y2 y3, LeO (hachureref02_Get.j0 k y0 y1 y2 y3) (hachureref02_Get.j0 (k + 1) y0 y1 y2 y3)) ∧ (∀ y0 y1 y2 y3 y4, LeO (hachureref02_Get.l0 k y0 y1 y2 y3 y4) (hachureref02_Get.l0 (k + 1) y0 y1 y2 y3 y4))
  | 0 => ⟨fun _ _ _ _ r h => by simp [hachureref02_Get.j0] at h, fun _ _ _ _ _ r h => by simp [hachureref02_Get.l0] at h⟩
  | k + 1 => by
    obtain ⟨ih0, ih1⟩ := hachureref02_Get.mono_l k
    refine ⟨?_, ?_⟩
    · intro y0 y1 y2 y3
      unfold hachureref02_Get.j0
      repeat' first
      | (with_reducible exact ih0 _ _ _ _)
      | (with_reducible exact ih1 _ _ _ _ _)
      | (with_reducible exact LeO.refl _)
      | (with_reducible exact LeO.none _)
      | (with_reducible refine LeO.ite ?_ ?_)
      | (with_reducible refine LeO.bind ?_ (fun _ => ?_))
      | exact ih0 _ _ _ _
      | exact ih1 _ _ _ _ _
      | exact LeO.none _
      | refine LeO.ite ?_ ?_
      | refine LeO.bind ?_ (fun _ => ?_)
    · intro y0 y1 y2 y3 y4
      unfold hachureref02_Get.l0
      repeat' first
      | (with_reducible exact ih0 _ _ _ _)
      | (with_reducible exact ih1 _ _ _ _ _)
      | (with_reducible exact LeO.refl _)
      | (with_reducible exact LeO.none _)
      | (with_reducible refine LeO.ite ?_ ?_)
      | (with_reducible refine LeO.bind ?_ (fun _ => ?_))
      | exact ih0 _ _ _ _
      | exact ih1 _ _ _ _ _
      | exact LeO.none _
      | refine LeO.ite ?_ ?_
      | refine LeO.bind ?_ (fun _ => ?_)
theorem hachureref02_Get.mono : ∀ a0 a1 a2 k, LeO (hachureref02_Get.f k a0 a1 a2) (hachureref02_Get.f (k + 1) a0 a1 a2) := by
  intro a0 a1 a2 k
  obtain ⟨ih0, ih1⟩ := hachureref02_Get.mono_l k
  unfold hachureref02_Get.f
  repeat' first
      | (with_reducible exact ih0 _ _ _ _)
      | (with_reducible exact ih1 _ _ _ _ _)
      | (with_reducible exact LeO.refl _)
      | (with_reducible exact LeO.none _)
      | (with_reducible refine LeO.ite ?_ ?_)
      | (with_reducible refine LeO.bind ?_ (fun _ => ?_))
      | exact ih0 _ _ _ _
      | exact ih1 _ _ _ _ _
      | exact LeO.none _
      | refine LeO.ite ?_ ?_
      | refine LeO.bind ?_ (fun _ => ?_)
set_option maxHeartbeats 8000000 in
set_option maxRecDepth 100000 in
theorem hachureref02_Get.calls (k : Nat) (A0 : Option Addr) (c0 : Nat) (l0 : List Int) (a1 : Int) (a2 : Bool) (r1 : Int) (r2 : Bool) (w : World) (hr0 : Kd.C (Kd.int .u8) w A0 l0.length l0) (hc0 : l0.length ≤ c0) (h : hachureref02_Get.f k l0 a1 a2 = some (r1, r2)) :
    Calls Tryd.prog 153 #[.slice A0 l0.length c0, .int .i64 a1, .bool a2] w fun e w' => e = .returned (.tuple #[.int .u64 r1, .bool r2]) ∧ Drawn0 w w' := by
  have HR0 := Aside0.mk hr0
  have HC0 := Aside0.mk hc0
  clear hr0 hc0
  have H : (if a1 < 1 then (hachureref02_Get.j0 k l0 a1 a2 true) else (if a1 > 8 then (hachureref02_Get.j0 k l0 a1 a2 true) else (hachureref02_Get.j0 k l0 a1 a2 (decide ((l0.length : Int) < a1))))) = some (r1, r2) := h
  clear h
  have HC4 := Aside0.mk H
  clear H
  go_enter Tryd.func153, Tryd.ntmps153
  go_upto_region 1 with (fail)
  go_cut [22] (fun v22 wc => ∃ (kq : Nat) (x22_3 : Bool), v22 = .bool x22_3 ∧ Aside0 (hachureref02_Get.j0 kq l0 a1 a2 x22_3 = some (r1, r2)) ∧ Aside0 (kq ≤ k) ∧ Drawn0 w wc)
  case first =>
    have H := HC4.out
    clear HC4
    by_cases c5 : a1 < 1
    · rw [if_pos c5] at H
      have c5b0 : decide (a1 < 1) = true := decide_eq_true c5
      clear c5
      (first | rw [c5b0] | (simp only [i64_w, i32_w]; rw [c5b0]) | skip)
      have H' := Aside0.mk H
      clear H
      go_wp2
      go_meet
      case rel => exact ⟨_, (true), (by first | rfl | (simp; done) | (simp [*]; done)), H', ⟨by first | omega | exact Nat.le_refl _⟩, by repeat (first | exact Drawn0.refl _ | apply Drawn0.step)⟩
    · rw [if_neg c5] at H
      have c5b0 : decide (a1 < 1) = false := decide_eq_false c5
      clear c5
      (first | rw [c5b0] | (simp only [i64_w, i32_w]; rw [c5b0]) | skip)
      by_cases c6 : a1 > 8
      · rw [if_pos c6] at H
        have c6b0 : decide (8 < a1) = true := decide_eq_true c6
        clear c6
        have H' := Aside0.mk H
        clear H
        go_wp2
        go_meet
        case rel => exact ⟨_, (true), (by first | rfl | (simp; done) | (simp [*]; done)), H', ⟨by first | omega | exact Nat.le_refl _⟩, by repeat (first | exact Drawn0.refl _ | apply Drawn0.step)⟩
      · rw [if_neg c6] at H
        have c6b0 : decide (8 < a1) = false := decide_eq_false c6
        clear c6
        have H' := Aside0.mk H
        clear H
        go_wp2
        go_meet
        case rel => exact ⟨_, (decide ((l0.length : Int) < a1)), (by first | rfl | (simp; done) | (simp [*]; done)), H', ⟨by first | omega | exact Nat.le_refl _⟩, by repeat (first | exact Drawn0.refl _ | apply Drawn0.step)⟩
  case rest =>
    clear HC4
    try clear c1
    try clear p2
    try clear c5
    try clear c5b0
    try clear c6
    try clear c6b0
    obtain ⟨kq, x22_3, rfl, HA, HJ3, ⟨mc3, rfl⟩⟩ := hcut
    cases kq with
    | zero => exact absurd HA.out (by simp [hachureref02_Get.j0])
    | succ kj3 =>
      have H := HA.out
      clear HA
      simp only [hachureref02_Get.j0] at H
      by_cases c7 : x22_3 = true
      · subst c7
        have H1 : (some (0, false)) = some (r1, r2) := by rw [if_pos rfl] at H; exact H
        clear H
        have H := H1
        clear H1
        simp only [Option.some.injEq, Prod.mk.injEq] at H
        obtain ⟨rfl, rfl⟩ := H
        go_wp2
        go_ret2
        exact ⟨by first | rfl | (simp; done) | (simp [*]; done), by repeat (first | exact Drawn0.refl _ | apply Drawn0.step)⟩
      · replace c7 := Bool.eq_false_iff.mpr c7
        subst c7
        have H1 : (hachureref02_Get.l0 kj3 l0 a1 a2 0 0) = some (r1, r2) := by rw [if_neg (show ¬ (false = true) by decide)] at H; exact H
        clear H
        have H := H1
        clear H1
        have H' := Aside0.mk H
        clear H
        go_wp2
        go_loopg [8, 9] kj3 (fun kq v8 v9 w' => ∃ (x8_2 : Int) (x9_2 : Int), v8 = .int .u64 x8_2 ∧ v9 = .int .i64 x9_2 ∧ Aside0 (hachureref02_Get.l0 kq l0 a1 a2 x8_2 x9_2 = some (r1, r2)) ∧ Aside0 (kq ≤ kj3) ∧ Drawn0 w w')
        case atStart => exact ⟨(0), (0), (by first | rfl | (simp; done) | (simp [*]; done)), (by first | rfl | (simp; done) | (simp [*]; done)), H', ⟨Nat.le_refl _⟩, by repeat (first | exact Drawn0.refl _ | apply Drawn0.step)⟩
        case round =>
          clear H'
          try clear c1
          try clear p2
          try clear c3
          try clear c5
          try clear c5b0
          try clear c6
          try clear c6b0
          try clear c7
          try clear p2
          obtain ⟨x8_2, x9_2, rfl, rfl, HA, HK2, ⟨m2, rfl⟩⟩ := hrel
          cases gk with
          | zero => exact absurd HA.out (by simp [hachureref02_Get.l0])
          | succ k2 =>
            have H := HA.out
            clear HA
            simp only [hachureref02_Get.l0] at H
            by_cases c8 : x9_2 < a1
            · rw [if_pos c8] at H
              have c8b0 : decide (x9_2 < a1) = true := decide_eq_true c8
              clear c8
              by_cases c9 : a2 = true
              · subst c9
                have H1 : (if 0 ≤ (wrap64 ((wrap64 (a1 - 1)) - x9_2)) then (if (wrap64 ((wrap64 (a1 - 1)) - x9_2)) < (l0.length : Int) then (hachureref02_Get.l0 k2 l0 a1 true (Go.bits .or .u64 (IntKind.u64.wrap (x8_2 * 256)) (IntKind.u64.wrap (rd l0 (wrap64 ((wrap64 (a1 - 1)) - x9_2))))) (wrap64 (x9_2 + 1))) else (none)) else (none)) = some (r1, r2) := by rw [if_pos rfl] at H; exact H
                clear H
                have H := H1
                clear H1
                obtain ⟨ji10, hji10⟩ : ∃ j_ : Int, (wrap64 ((wrap64 (a1 - 1)) - x9_2)) = j_ := ⟨_, rfl⟩
                replace H : (if 0 ≤ (ji10) then (if (ji10) < (l0.length : Int) then (hachureref02_Get.l0 k2 l0 a1 true (Go.bits .or .u64 (IntKind.u64.wrap (x8_2 * 256)) (IntKind.u64.wrap (rd l0 (ji10)))) (wrap64 (x9_2 + 1))) else (none)) else (none)) = some (r1, r2) := by first | (rw [hji10] at H; exact H) | (simp only [hji10] at H ⊢; exact H)
                have hji10w : (IntKind.i64.wrap ((wrap64 (a1 - 1)) - x9_2)) = ji10 := (i64_w _).trans hji10
                by_cases c11 : 0 ≤ (ji10)
                · rw [if_pos c11] at H
                  have c11b0 : decide (0 ≤ (ji10)) = true := decide_eq_true c11
                  clear c11
                  by_cases c12 : (ji10) < (l0.length : Int)
                  · rw [if_pos c12] at H
                    have c12b0 : decide ((ji10) < (l0.length : Int)) = true := decide_eq_true c12
                    clear c12
                    have H' := Aside0.mk H
                    clear H
                    have p207 : 0 ≤ ((ji10) : Int) := of_decide_eq_true (by first | (with_reducible assumption) | assumption)
                    have q207 : (ji10) < (l0.length : Int) := of_decide_eq_true (by first | (with_reducible assumption) | assumption)
                    obtain ⟨ad207, e207, hx207_0⟩ := Kd.at_int HR0.out (ji10) p207 q207
                    cases e207
                    replace p207 := eq_true p207
                    replace q207 := eq_true q207
                    go_wp2
                    go_roundg k2
                    case measure => have := HJ3.out; have := HK2.out; omega
                    case rel => exact ⟨(Go.bits .or .u64 (IntKind.u64.wrap (x8_2 * 256)) (IntKind.u64.wrap (rd l0 (ji10)))), (wrap64 (x9_2 + 1)), (by first | rfl | (simp; done) | (simp only [← hji10] <;> (first | rfl | simp)) | (simp [*]; done)), (by first | rfl | (simp; done) | (simp [*]; done)), H', ⟨by have := HJ3.out; have := HK2.out; omega⟩, by repeat (first | exact Drawn0.refl _ | apply Drawn0.step)⟩
                  · rw [if_neg c12] at H
                    exact absurd H (by simp)
                · rw [if_neg c11] at H
                  exact absurd H (by simp)
              · replace c9 := Bool.eq_false_iff.mpr c9
                subst c9
                have H1 : (if 0 ≤ x9_2 then (if x9_2 < (l0.length : Int) then (hachureref02_Get.l0 k2 l0 a1 false (Go.bits .or .u64 (IntKind.u64.wrap (x8_2 * 256)) (IntKind.u64.wrap (rd l0 x9_2))) (wrap64 (x9_2 + 1))) else (none)) else (none)) = some (r1, r2) := by rw [if_neg (show ¬ (false = true) by decide)] at H; exact H
                clear H
                have H := H1
                clear H1
                by_cases c13 : 0 ≤ x9_2
                · rw [if_pos c13] at H
                  have c13b0 : decide (0 ≤ x9_2) = true := decide_eq_true c13
                  clear c13
                  by_cases c14 : x9_2 < (l0.length : Int)
                  · rw [if_pos c14] at H
                    have c14b0 : decide (x9_2 < (l0.length : Int)) = true := decide_eq_true c14
                    clear c14
                    have H' := Aside0.mk H
                    clear H
                    have p208 : 0 ≤ (x9_2 : Int) := of_decide_eq_true (by first | (with_reducible assumption) | assumption)
                    have q208 : x9_2 < (l0.length : Int) := of_decide_eq_true (by first | (with_reducible assumption) | assumption)
                    obtain ⟨ad208, e208, hx208_0⟩ := Kd.at_int HR0.out x9_2 p208 q208
                    cases e208
                    replace p208 := eq_true p208
                    replace q208 := eq_true q208
                    go_wp2
                    go_roundg k2
                    case measure => have := HJ3.out; have := HK2.out; omega
                    case rel => exact ⟨(Go.bits .or .u64 (IntKind.u64.wrap (x8_2 * 256)) (IntKind.u64.wrap (rd l0 x9_2))), (wrap64 (x9_2 + 1)), (by first | rfl | (simp; done) | (simp [*]; done)), (by first | rfl | (simp; done) | (simp [*]; done)), H', ⟨by have := HJ3.out; have := HK2.out; omega⟩, by repeat (first | exact Drawn0.refl _ | apply Drawn0.step)⟩
                  · rw [if_neg c14] at H
                    exact absurd H (by simp)
                · rw [if_neg c13] at H
                  exact absurd H (by simp)
            · rw [if_neg c8] at H
              have c8b0 : decide (x9_2 < a1) = false := decide_eq_false c8
              clear c8
              simp only [Option.some.injEq, Prod.mk.injEq] at H
              obtain ⟨rfl, rfl⟩ := H
              go_wp2
              go_ret2
              exact ⟨by first | rfl | (simp; done) | (simp [*]; done), by repeat (first | exact Drawn0.refl _ | apply Drawn0.step)⟩

end Go.Proofs.YtcjidlgmbjebjaaDoor.PSchemaForms

namespace Go.Proofs.YtcjidlgmbjebjaaDoor.PSchemaForms
open Go.RowKit Go.Proofs.YtcjidlgmbjebjaaDoorW.PrintWords Go.Proofs.YtcjidlgmbjebjaaDoorW.PrintLast Go.Proofs.YtcjidlgmbjebjaaDoorW.PrintMore
attribute [local go_sem] max2_int min2_int max_two min_two max_three min_three max_four min_four   -- for this text's walks alone
mutual
def octet_Get.j0 : Nat → List Int → Int → Bool → Bool → Option (Int × Bool)
  | 0, _, _, _, _ => none
  | k + 1, x0, x1, x2, x22 => if x22 = true then (some (0, false)) else (octet_Get.l0 k x0 x1 x2 0 x1 0)
def octet_Get.l0 : Nat → List Int → Int → Bool → Int → Int → Int → Option (Int × Bool)
  | 0, _, _, _, _, _, _ => none
  | k + 1, x0, x1, x2, x8, x23, x24 => if x24 < x23 then (if x2 = true then (if 0 ≤ (wrap64 ((wrap64 (x1 - 1)) - x24)) then (if (wrap64 ((wrap64 (x1 - 1)) - x24)) < (x0.length : Int) then (octet_Get.l0 k x0 x1 x2 (Go.bits .or .u64 (IntKind.u64.wrap (x8 * 256)) (IntKind.u64.wrap (rd x0 (wrap64 ((wrap64 (x1 - 1)) - x24))))) x23 (wrap64 (x24 + 1))) else (none)) else (none)) else (if 0 ≤ x24 then (if x24 < (x0.length : Int) then (octet_Get.l0 k x0 x1 x2 (Go.bits .or .u64 (IntKind.u64.wrap (x8 * 256)) (IntKind.u64.wrap (rd x0 x24))) x23 (wrap64 (x24 + 1))) else (none)) else (none))) else (some (x8, true))
end
def octet_Get.f (k : Nat) (l0 : List Int) (a1 : Int) (a2 : Bool) : Option (Int × Bool) := if a1 < 1 then (octet_Get.j0 k l0 a1 a2 true) else (if a1 > 8 then (octet_Get.j0 k l0 a1 a2 true) else (octet_Get.j0 k l0 a1 a2 (decide ((l0.length : Int) < a1))))
theorem octet_Get.mono_l : ∀ k, (∀ y0 y1 y2 y3, LeO (octet_Get.j0 k y0 y1 y2 y3) (octet_Get.j0 (k + 1) y0 y1 y2 y3)) ∧ (∀ y0 y1 y2 y3 y4 y5, LeO (octet_Get.l0 k y0 y1 y2 y3 y4 y5) (octet_Get.l0 (k + 1) y0 y1 y2 y3 y4 y5))
  | 0 => ⟨fun _ _ _ _ r h => by simp [octet_Get.j0] at h, fun _ _ _ _ _ _ r h => by simp [octet_Get.l0] at h⟩
  | k + 1 => by
    obtain ⟨ih0, ih1⟩ := octet_Get.mono_l k
    refine ⟨?_, ?_⟩
    · intro y0 y1 y2 y3
      unfold octet_Get.j0
      repeat' first
      | (with_reducible exact ih0 _ _ _ _)
      | (with_reducible exact ih1 _ _ _ _ _ _)
      | (with_reducible exact LeO.refl _)
      | (with_reducible exact LeO.none _)
      | (with_reducible refine LeO.ite ?_ ?_)
      | (with_reducible refine LeO.bind ?_ (fun _ => ?_))
      | exact ih0 _ _ _ _
      | exact ih1 _ _ _ _ _ _
      | exact LeO.none _
      | refine LeO.ite ?_ ?_
      | refine LeO.bind ?_ (fun _ => ?_)
    · intro y0 y1 y2 y3 y4 y5
      unfold octet_Get.l0
      repeat' first
      | (with_reducible exact ih0 _ _ _ _)
      | (with_reducible exact ih1 _ _ _ _ _ _)
      | (with_reducible exact LeO.refl _)
      | (with_reducible exact LeO.none _)
      | (with_reducible refine LeO.ite ?_ ?_)
      | (with_reducible refine LeO.bind ?_ (fun _ => ?_))
      | exact ih0 _ _ _ _
      | exact ih1 _ _ _ _ _ _
      | exact LeO.none _
      | refine LeO.ite ?_ ?_
      | refine LeO.bind ?_ (fun _ => ?_)
theorem octet_Get.mono : ∀ a0 a1 a2 k, LeO (octet_Get.f k a0 a1 a2) (octet_Get.f (k + 1) a0 a1 a2) := by
  intro a0 a1 a2 k
  obtain ⟨ih0, ih1⟩ := octet_Get.mono_l k
  unfold octet_Get.f
  repeat' first
      | (with_reducible exact ih0 _ _ _ _)
      | (with_reducible exact ih1 _ _ _ _ _ _)
      | (with_reducible exact LeO.refl _)
      | (with_reducible exact LeO.none _)
      | (with_reducible refine LeO.ite ?_ ?_)
      | (with_reducible refine LeO.bind ?_ (fun _ => ?_))
      | exact ih0 _ _ _ _
      | exact ih1 _ _ _ _ _ _
      | exact LeO.none _
      | refine LeO.ite ?_ ?_
      | refine LeO.bind ?_ (fun _ => ?_)
set_option maxHeartbeats 8000000 in
set_option maxRecDepth 100000 in
theorem octet_Get.calls (k : Nat) (A0 : Option Addr) (c0 : Nat) (l0 : List Int) (a1 : Int) (a2 : Bool) (r1 : Int) (r2 : Bool) (w : World) (hr0 : Kd.C (Kd.int .u8) w A0 l0.length l0) (hc0 : l0.length ≤ c0) (h : octet_Get.f k l0 a1 a2 = some (r1, r2)) :
    Calls Tryd.prog 152 #[.slice A0 l0.length c0, .int .i64 a1, .bool a2] w fun e w' => e = .returned (.tuple #[.int .u64 r1, .bool r2]) ∧ Drawn0 w w' := by
  have HR0 := Aside0.mk hr0
  have HC0 := Aside0.mk hc0
  clear hr0 hc0
  have H : (if a1 < 1 then (octet_Get.j0 k l0 a1 a2 true) else (if a1 > 8 then (octet_Get.j0 k l0 a1 a2 true) else (octet_Get.j0 k l0 a1 a2 (decide ((l0.length : Int) < a1))))) = some (r1, r2) := h
  clear h
  have HC4 := Aside0.mk H
  clear H
  go_enter Tryd.func152, Tryd.ntmps152
  go_upto_region 1 with (fail)
  go_cut [22] (fun v22 wc => ∃ (kq : Nat) (x22_3 : Bool), v22 = .bool x22_3 ∧ Aside0 (octet_Get.j0 kq l0 a1 a2 x22_3 = some (r1, r2)) ∧ Aside0 (kq ≤ k) ∧ Drawn0 w wc)
  case first =>
    have H := HC4.out
    clear HC4
    by_cases c5 : a1 < 1
    · rw [if_pos c5] at H
      have c5b0 : decide (a1 < 1) = true := decide_eq_true c5
      clear c5
      (first | rw [c5b0] | (simp only [i64_w, i32_w]; rw [c5b0]) | skip)
      have H' := Aside0.mk H
      clear H
      go_wp2
      go_meet
      case rel => exact ⟨_, (true), (by first | rfl | (simp; done) | (simp [*]; done)), H', ⟨by first | omega | exact Nat.le_refl _⟩, by repeat (first | exact Drawn0.refl _ | apply Drawn0.step)⟩
    · rw [if_neg c5] at H
      have c5b0 : decide (a1 < 1) = false := decide_eq_false c5
      clear c5
      (first | rw [c5b0] | (simp only [i64_w, i32_w]; rw [c5b0]) | skip)
      by_cases c6 : a1 > 8
      · rw [if_pos c6] at H
        have c6b0 : decide (8 < a1) = true := decide_eq_true c6
        clear c6
        have H' := Aside0.mk H
        clear H
        go_wp2
        go_meet
        case rel => exact ⟨_, (true), (by first | rfl | (simp; done) | (simp [*]; done)), H', ⟨by first | omega | exact Nat.le_refl _⟩, by repeat (first | exact Drawn0.refl _ | apply Drawn0.step)⟩
      · rw [if_neg c6] at H
        have c6b0 : decide (8 < a1) = false := decide_eq_false c6
        clear c6
        have H' := Aside0.mk H
        clear H
        go_wp2
        go_meet
        case rel => exact ⟨_, (decide ((l0.length : Int) < a1)), (by first | rfl | (simp; done) | (simp [*]; done)), H', ⟨by first | omega | exact Nat.le_refl _⟩, by repeat (first | exact Drawn0.refl _ | apply Drawn0.step)⟩
  case rest =>
    clear HC4
    try clear c1
    try clear p2
    try clear c5
    try clear c5b0
    try clear c6
    try clear c6b0
    obtain ⟨kq, x22_3, rfl, HA, HJ3, ⟨mc3, rfl⟩⟩ := hcut
    cases kq with
    | zero => exact absurd HA.out (by simp [octet_Get.j0])
    | succ kj3 =>
      have H := HA.out
      clear HA
      simp only [octet_Get.j0] at H
      by_cases c7 : x22_3 = true
      · subst c7
        have H1 : (some (0, false)) = some (r1, r2) := by rw [if_pos rfl] at H; exact H
        clear H
        have H := H1
        clear H1
        simp only [Option.some.injEq, Prod.mk.injEq] at H
        obtain ⟨rfl, rfl⟩ := H
        go_wp2
        go_ret2
        exact ⟨by first | rfl | (simp; done) | (simp [*]; done), by repeat (first | exact Drawn0.refl _ | apply Drawn0.step)⟩
      · replace c7 := Bool.eq_false_iff.mpr c7
        subst c7
        have H1 : (octet_Get.l0 kj3 l0 a1 a2 0 a1 0) = some (r1, r2) := by rw [if_neg (show ¬ (false = true) by decide)] at H; exact H
        clear H
        have H := H1
        clear H1
        have H' := Aside0.mk H
        clear H
        go_wp2
        go_loopg [8, 24] kj3 (fun kq v8 v24 w' => ∃ (x8_2 : Int) (x24_2 : Int), v8 = .int .u64 x8_2 ∧ v24 = .int .i64 x24_2 ∧ Aside0 (octet_Get.l0 kq l0 a1 a2 x8_2 a1 x24_2 = some (r1, r2)) ∧ Aside0 (kq ≤ kj3) ∧ Drawn0 w w')
        case atStart => exact ⟨(0), (0), (by first | rfl | (simp; done) | (simp [*]; done)), (by first | rfl | (simp; done) | (simp [*]; done)), H', ⟨Nat.le_refl _⟩, by repeat (first | exact Drawn0.refl _ | apply Drawn0.step)⟩
        case round =>
          clear H'
          try clear c1
          try clear p2
          try clear c3
          try clear c5
          try clear c5b0
          try clear c6
          try clear c6b0
          try clear c7
          try clear p2
          obtain ⟨x8_2, x24_2, rfl, rfl, HA, HK2, ⟨m2, rfl⟩⟩ := hrel
          cases gk with
          | zero => exact absurd HA.out (by simp [octet_Get.l0])
          | succ k2 =>
            have H := HA.out
            clear HA
            simp only [octet_Get.l0] at H
            by_cases c8 : x24_2 < a1
            · rw [if_pos c8] at H
              have c8b0 : decide (x24_2 < a1) = true := decide_eq_true c8
              clear c8
              by_cases c9 : a2 = true
              · subst c9
                have H1 : (if 0 ≤ (wrap64 ((wrap64 (a1 - 1)) - x24_2)) then (if (wrap64 ((wrap64 (a1 - 1)) - x24_2)) < (l0.length : Int) then (octet_Get.l0 k2 l0 a1 true (Go.bits .or .u64 (IntKind.u64.wrap (x8_2 * 256)) (IntKind.u64.wrap (rd l0 (wrap64 ((wrap64 (a1 - 1)) - x24_2))))) a1 (wrap64 (x24_2 + 1))) else (none)) else (none)) = some (r1, r2) := by rw [if_pos rfl] at H; exact H
                clear H
                have H := H1
                clear H1
                obtain ⟨ji10, hji10⟩ : ∃ j_ : Int, (wrap64 ((wrap64 (a1 - 1)) - x24_2)) = j_ := ⟨_, rfl⟩
                replace H : (if 0 ≤ (ji10) then (if (ji10) < (l0.length : Int) then (octet_Get.l0 k2 l0 a1 true (Go.bits .or .u64 (IntKind.u64.wrap (x8_2 * 256)) (IntKind.u64.wrap (rd l0 (ji10)))) a1 (wrap64 (x24_2 + 1))) else (none)) else (none)) = some (r1, r2) := by first | (rw [hji10] at H; exact H) | (simp only [hji10] at H ⊢; exact H)
                have hji10w : (IntKind.i64.wrap ((wrap64 (a1 - 1)) - x24_2)) = ji10 := (i64_w _).trans hji10
                by_cases c11 : 0 ≤ (ji10)
                · rw [if_pos c11] at H
                  have c11b0 : decide (0 ≤ (ji10)) = true := decide_eq_true c11
                  clear c11
                  by_cases c12 : (ji10) < (l0.length : Int)
                  · rw [if_pos c12] at H
                    have c12b0 : decide ((ji10) < (l0.length : Int)) = true := decide_eq_true c12
                    clear c12
                    have H' := Aside0.mk H
                    clear H
                    have p101 : 0 ≤ ((ji10) : Int) := of_decide_eq_true (by first | (with_reducible assumption) | assumption)
                    have q101 : (ji10) < (l0.length : Int) := of_decide_eq_true (by first | (with_reducible assumption) | assumption)
                    obtain ⟨ad101, e101, hx101_0⟩ := Kd.at_int HR0.out (ji10) p101 q101
                    cases e101
                    replace p101 := eq_true p101
                    replace q101 := eq_true q101
                    go_wp2
                    go_roundg k2
                    case measure => have := HJ3.out; have := HK2.out; omega
                    case rel => exact ⟨(Go.bits .or .u64 (IntKind.u64.wrap (x8_2 * 256)) (IntKind.u64.wrap (rd l0 (ji10)))), (wrap64 (x24_2 + 1)), (by first | rfl | (simp; done) | (simp only [← hji10] <;> (first | rfl | simp)) | (simp [*]; done)), (by first | rfl | (simp; done) | (simp [*]; done)), H', ⟨by have := HJ3.out; have := HK2.out; omega⟩, by repeat (first | exact Drawn0.refl _ | apply Drawn0.step)⟩
                  · rw [if_neg c12] at H
                    exact absurd H (by simp)
                · rw [if_neg c11] at H
                  exact absurd H (by simp)
              · replace c9 := Bool.eq_false_iff.mpr c9
                subst c9
                have H1 : (if 0 ≤ x24_2 then (if x24_2 < (l0.length : Int) then (octet_Get.l0 k2 l0 a1 false (Go.bits .or .u64 (IntKind.u64.wrap (x8_2 * 256)) (IntKind.u64.wrap (rd l0 x24_2))) a1 (wrap64 (x24_2 + 1))) else (none)) else (none)) = some (r1, r2) := by rw [if_neg (show ¬ (false = true) by decide)] at H; exact H
                clear H
                have H := H1
                clear H1
                by_cases c13 : 0 ≤ x24_2
                · rw [if_pos c13] at H
                  have c13b0 : decide (0 ≤ x24_2) = true := decide_eq_true c13
                  clear c13
                  by_cases c14 : x24_2 < (l0.length : Int)
                  · rw [if_pos c14] at H
                    have c14b0 : decide (x24_2 < (l0.length : Int)) = true := decide_eq_true c14
                    clear c14
                    have H' := Aside0.mk H
                    clear H
                    have p102 : 0 ≤ (x24_2 : Int) := of_decide_eq_true (by first | (with_reducible assumption) | assumption)
                    have q102 : x24_2 < (l0.length : Int) := of_decide_eq_true (by first | (with_reducible assumption) | assumption)
                    obtain ⟨ad102, e102, hx102_0⟩ := Kd.at_int HR0.out x24_2 p102 q102
                    cases e102
                    replace p102 := eq_true p102
                    replace q102 := eq_true q102
                    go_wp2
                    go_roundg k2
                    case measure => have := HJ3.out; have := HK2.out; omega
                    case rel => exact ⟨(Go.bits .or .u64 (IntKind.u64.wrap (x8_2 * 256)) (IntKind.u64.wrap (rd l0 x24_2))), (wrap64 (x24_2 + 1)), (by first | rfl | (simp; done) | (simp [*]; done)), (by first | rfl | (simp; done) | (simp [*]; done)), H', ⟨by have := HJ3.out; have := HK2.out; omega⟩, by repeat (first | exact Drawn0.refl _ | apply Drawn0.step)⟩
                  · rw [if_neg c14] at H
                    exact absurd H (by simp)
                · rw [if_neg c13] at H
                  exact absurd H (by simp)
            · rw [if_neg c8] at H
              have c8b0 : decide (x24_2 < a1) = false := decide_eq_false c8
              clear c8
              simp only [Option.some.injEq, Prod.mk.injEq] at H
              obtain ⟨rfl, rfl⟩ := H
              go_wp2
              go_ret2
              exact ⟨by first | rfl | (simp; done) | (simp [*]; done), by repeat (first | exact Drawn0.refl _ | apply Drawn0.step)⟩

end Go.Proofs.YtcjidlgmbjebjaaDoor.PSchemaForms

namespace Go.Proofs.YtcjidlgmbjebjaaDoor
open Go Go.RowKit Go.Proofs.YtcjidlgmbjebjaaDoorW.PrintWords
def Byt (l : List Int) : Prop := ∀ x ∈ l, 0 ≤ x ∧ x < 256
theorem wrapU64' : ∀ x : Int, 0 ≤ x → x < 2 ^ 64 → IntKind.u64.wrap x = x := by
  intro x h0 h1
  have : IntKind.u64.wrap x = x % 18446744073709551616 := by simp [IntKind.wrap, IntKind.bits, IntKind.signed]
  rw [this]; omega
theorem or256 (a b : Int) (h0 : 0 ≤ a) (h1 : a < 72057594037927936) (h2 : 0 ≤ b) (h3 : b < 256) : bits .or .u64 (IntKind.u64.wrap (a * 256)) (IntKind.u64.wrap b) = a * 256 + b := by
  rw [wrapU64' (a * 256) (by omega) (by omega), wrapU64' b h2 (by omega)]
  exact bits_join .u64 64 (by decide) wrapU64' 8 (a * 256) b (by omega) (by omega) (by omega) h2 (by omega) (by omega)

theorem eight (l : List Int) (h : 8 ≤ l.length) : ∃ a0 a1 a2 a3 a4 a5 a6 a7 r, l = a0 :: a1 :: a2 :: a3 :: a4 :: a5 :: a6 :: a7 :: r := by
  match l, h with
  | a0 :: a1 :: a2 :: a3 :: a4 :: a5 :: a6 :: a7 :: r, _ => exact ⟨a0, a1, a2, a3, a4, a5, a6, a7, r, rfl⟩

theorem octet_Get_short (l : List Int) (n : Int) (h1 : 1 ≤ n) (h8 : n ≤ 8) (h : (l.length : Int) < n) (k : Nat) : PSchemaForms.octet_Get.f (k + 1) l n false = some (0, false) := by
  unfold PSchemaForms.octet_Get.f
  rw [if_neg (by omega), if_neg (by omega), PSchemaForms.octet_Get.j0, if_pos (by simpa using h)]
theorem octet_Get_one (x : Int) (r : List Int) (h0 : 0 ≤ x) (h1 : x < 256) : PSchemaForms.octet_Get.f 10 (x :: r) 1 false = some (x, true) := by
  unfold PSchemaForms.octet_Get.f
  rw [if_neg (by omega), if_neg (by omega), PSchemaForms.octet_Get.j0, if_neg (by first | (simp; done) | (simp; omega)), PSchemaForms.octet_Get.l0, if_pos (by decide), if_neg (by decide), if_pos (by decide), if_pos (by first | (simp; done) | (simp; omega)), show wrap64 (0 + 1) = 1 by kernel_rfl, PSchemaForms.octet_Get.l0, if_neg (by decide)]
  have e : rd (x :: r) 0 = x := rfl
  rw [e, or256 0 x (by omega) (by omega) h0 h1]
  simp
theorem octet_Get_eight (a0 a1 a2 a3 a4 a5 a6 a7 : Int) (r : List Int) (h : Byt (a0 :: a1 :: a2 :: a3 :: a4 :: a5 :: a6 :: a7 :: r)) : PSchemaForms.octet_Get.f 10 (a0 :: a1 :: a2 :: a3 :: a4 :: a5 :: a6 :: a7 :: r) 8 false = some (Sb.be [a0, a1, a2, a3, a4, a5, a6, a7], true) := by
  have b0 := h a0 (by simp)
  have b1 := h a1 (by simp)
  have b2 := h a2 (by simp)
  have b3 := h a3 (by simp)
  have b4 := h a4 (by simp)
  have b5 := h a5 (by simp)
  have b6 := h a6 (by simp)
  have b7 := h a7 (by simp)
  unfold PSchemaForms.octet_Get.f
  rw [if_neg (by omega), if_neg (by omega), PSchemaForms.octet_Get.j0, if_neg (by first | (simp; done) | (simp; omega))]
  rw [PSchemaForms.octet_Get.l0, if_pos (by decide), if_neg (by decide), if_pos (by decide), if_pos (by first | (simp; done) | (simp; omega))]
  rw [show rd (a0 :: a1 :: a2 :: a3 :: a4 :: a5 :: a6 :: a7 :: r) 0 = a0 from rfl]
  simp only [show wrap64 (0 + 1) = 1 by kernel_rfl, show rd (a0 :: a1 :: a2 :: a3 :: a4 :: a5 :: a6 :: a7 :: r) 0 = a0 from rfl]
  rw [or256 (0) a0 (by omega) (by omega) b0.1 b0.2]
  rw [PSchemaForms.octet_Get.l0, if_pos (by decide), if_neg (by decide), if_pos (by decide), if_pos (by first | (simp; done) | (simp; omega))]
  simp only [show wrap64 (1 + 1) = 2 by kernel_rfl, show rd (a0 :: a1 :: a2 :: a3 :: a4 :: a5 :: a6 :: a7 :: r) 1 = a1 from rfl]
  rw [or256 (0 * 256 + a0) a1 (by omega) (by omega) b1.1 b1.2]
  rw [PSchemaForms.octet_Get.l0, if_pos (by decide), if_neg (by decide), if_pos (by decide), if_pos (by first | (simp; done) | (simp; omega))]
  simp only [show wrap64 (2 + 1) = 3 by kernel_rfl, show rd (a0 :: a1 :: a2 :: a3 :: a4 :: a5 :: a6 :: a7 :: r) 2 = a2 from rfl]
  rw [or256 ((0 * 256 + a0) * 256 + a1) a2 (by omega) (by omega) b2.1 b2.2]
  rw [PSchemaForms.octet_Get.l0, if_pos (by decide), if_neg (by decide), if_pos (by decide), if_pos (by first | (simp; done) | (simp; omega))]
  simp only [show wrap64 (3 + 1) = 4 by kernel_rfl, show rd (a0 :: a1 :: a2 :: a3 :: a4 :: a5 :: a6 :: a7 :: r) 3 = a3 from rfl]
  rw [or256 (((0 * 256 + a0) * 256 + a1) * 256 + a2) a3 (by omega) (by omega) b3.1 b3.2]
  rw [PSchemaForms.octet_Get.l0, if_pos (by decide), if_neg (by decide), if_pos (by decide), if_pos (by first | (simp; done) | (simp; omega))]
  simp only [show wrap64 (4 + 1) = 5 by kernel_rfl, show rd (a0 :: a1 :: a2 :: a3 :: a4 :: a5 :: a6 :: a7 :: r) 4 = a4 from rfl]
  rw [or256 ((((0 * 256 + a0) * 256 + a1) * 256 + a2) * 256 + a3) a4 (by omega) (by omega) b4.1 b4.2]
  rw [PSchemaForms.octet_Get.l0, if_pos (by decide), if_neg (by decide), if_pos (by decide), if_pos (by first | (simp; done) | (simp; omega))]
  simp only [show wrap64 (5 + 1) = 6 by kernel_rfl, show rd (a0 :: a1 :: a2 :: a3 :: a4 :: a5 :: a6 :: a7 :: r) 5 = a5 from rfl]
  rw [or256 (((((0 * 256 + a0) * 256 + a1) * 256 + a2) * 256 + a3) * 256 + a4) a5 (by omega) (by omega) b5.1 b5.2]
  rw [PSchemaForms.octet_Get.l0, if_pos (by decide), if_neg (by decide), if_pos (by decide), if_pos (by first | (simp; done) | (simp; omega))]
  simp only [show wrap64 (6 + 1) = 7 by kernel_rfl, show rd (a0 :: a1 :: a2 :: a3 :: a4 :: a5 :: a6 :: a7 :: r) 6 = a6 from rfl]
  rw [or256 ((((((0 * 256 + a0) * 256 + a1) * 256 + a2) * 256 + a3) * 256 + a4) * 256 + a5) a6 (by omega) (by omega) b6.1 b6.2]
  rw [PSchemaForms.octet_Get.l0, if_pos (by decide), if_neg (by decide), if_pos (by decide), if_pos (by first | (simp; done) | (simp; omega))]
  simp only [show wrap64 (7 + 1) = 8 by kernel_rfl, show rd (a0 :: a1 :: a2 :: a3 :: a4 :: a5 :: a6 :: a7 :: r) 7 = a7 from rfl]
  rw [or256 (((((((0 * 256 + a0) * 256 + a1) * 256 + a2) * 256 + a3) * 256 + a4) * 256 + a5) * 256 + a6) a7 (by omega) (by omega) b7.1 b7.2]
  rw [PSchemaForms.octet_Get.l0, if_neg (by decide)]
  rfl

end Go.Proofs.YtcjidlgmbjebjaaDoor
