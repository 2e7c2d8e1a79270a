/- A part of the proof of ValueBack. -/
import Derived.Test.YtcjidlgmbjebjaaDoorVbc
import Derived.WalkSpells
set_option linter.unusedVariables false
set_option linter.unusedSimpArgs false
set_option maxRecDepth 100000
namespace Go.Proofs.YtcjidlgmbjebjaaDoor
open Go Go.RowKit Go.Proofs.YtcjidlgmbjebjaaDoorW.PrintWords
theorem byteinfo : Option.map (fun i => (i.zero, i.size, i.bytes)) (Tryd.prog.info? 5) = some (some (.int .u8 0), 1, 1) := by kernel_rfl
theorem drawn_below {w w' : World} (h : Drawn0 w w') : Below w.heap.size w w' := by
  obtain ⟨n, rfl⟩ := h.out
  exact ⟨rfl, rfl, rfl, Nat.le_refl _, fun _ _ => rfl⟩
theorem clone_nil (w : World) : Calls Tryd.prog 113 #[.slice none 0 0] w (Same1 (.slice none 0 0) w) := by
  have hx := fun w => run_eql_nil_slice (P := Tryd.prog) w 43 5 none 0 0 0 0 Tryd.underlying43
  go_enter Tryd.func113, Tryd.ntmps113
  go_wp2
  go_ret
  exact ⟨rfl, rfl⟩
def VaR (n : Int) (k : Nat) (W : World) (a i : Value) (w' : World) : Prop :=
  ∃ (j m cap : Nat) (p : Option Addr), j ≤ k ∧ i = .int .i64 j ∧ a = .slice p m cap ∧ Row w' W.heap.size (.slice p m cap) ((varB n).take (k - j)) ∧ Below W.heap.size W w'
theorem row_shape {w : World} {base : Nat} {v : Value} {l : List Int} (h : Row w base v l) : ∃ p c, v = .slice p l.length c := by
  rcases h.2 with ⟨hv, h1⟩ | ⟨g, cap, cur, hv, _⟩
  · exact ⟨none, 0, by rw [h1]; exact hv⟩
  · exact ⟨_, _, hv⟩
theorem row_snoc {w : World} {base : Nat} {v : Value} {l : List Int} {x : Int} (h : w.ownsRow base 5 1 v (l.length + 1) (u8s l ++ [.int .u8 x])) : Row w base v (l ++ [x]) := by
  unfold Row
  have e : u8s (l ++ [x]) = u8s l ++ [.int .u8 x] := by simp [u8s]
  rw [e, List.length_append]
  exact h
set_option maxHeartbeats 4000000 in
theorem var_1 (n : Int) (h0 : 0 ≤ n) (h1 : n < 128) (w : World) : Calls Tryd.prog 58 #[.slice none 0 0, .int .u64 n] w (RetRow (varB n) w) := by
  obtain ⟨i0, hi, hz0, hz1, hz2⟩ := info_parts byteinfo
  have HS := Lib.hid (fun w' => (PValueForms.octet_Size.calls 3 n 1 w' (size_1 n (by omega) (by omega) 0)).mono fun e w'' h => (⟨h.1, drawn_below h.2⟩ : RetS (.int .i64 1) w' e w''))
  have HV := Lib.hid (show varB n = [n] by unfold varB; rw [if_pos h1])
  have HL := Lib.hid (show bits .andNot .u8 (n % 256) 128 = n % 128 by rw [andNot128 _ (by omega) (by omega)]; omega)
  have HL1 := Lib.hid (show bits .andNot .u8 n 128 = n by rw [andNot128 _ (by omega) (by omega)]; omega)
  go_enter Tryd.func58, Tryd.ntmps58
  go_wp2_with fail
  refine (clone_nil _).mono ?_
  rintro e w ⟨rfl, rfl⟩
  dsimp only
  go_wp2_with fail
  refine (HS.out _).mono ?_
  rintro e w1 ⟨rfl, hb⟩
  dsimp only
  go_wp2_with fail
  go_loopw [5, 8] (fun a i w' => VaR n 0 w a i w') (fun _ i _ => (intOf i).toNat)
  case atStart => exact ⟨0, 0, 0, none, by omega, rfl, rfl, World.ownsRow_nil _ _ _ _, hb⟩
  case round =>
    obtain ⟨j, m, cap, p, hj, rfl, rfl, hrow, hB⟩ := hrel
    clear hb
    obtain rfl : j = 0 := by omega
    rw [HV.out] at hrow
    have hrow : Row wr w.heap.size (.slice p m cap) [] := hrow
    obtain ⟨p, c, hp⟩ := row_shape hrow
    injection hp with ep em ec
    subst ep em ec
    have HO := Lib.hid hrow; clear hrow
    go_wp2_with (at_builtin; refine wpList_append_own _ rfl _ _ 43 rfl w.heap.size 5 i0 (.int .u8 0) 1 1 Tryd.underlying43 hi hz0 hz1 hz2 rfl (by decide) _ _ _ rfl (HO.out.alloc _) ⟨wr.heap.size, 0, none⟩ 1 1 [.int .u8 (bits .andNot .u8 n 128)] rfl rfl ?c1 ?c2 ?c3 ?c4 ?c5 ?_)
    case c1 =>
      intro q u hq
      match q, hq with
      | 0, hq => simp at hq; subst hq; simp [Addr.add]
    case c2 => intro u hu; simp at hu; subst hu; rfl
    case c3 => simp; unfold maxLen; omega
    case c4 => simp
    case c5 => have := hB.size; simp; omega
    intro v' w2 hown' hgrow _
    rw [HL1.out] at hown'
    have hrow2 := row_snoc hown'
    obtain ⟨p2, c2, rfl⟩ := row_shape hrow2
    have HB2 := Lib.hid (show Below w.heap.size w w2 from (hB.alloc hB.size _).grown hgrow (by have := hB.size; simp; omega) (fun x hx => (HO.out.lt x hx).1))
    have HR2 := Lib.hid hrow2
    clear hown' hgrow hrow2
    go_wp2_with fail
    go_ret
    exact ⟨_, rfl, by rw [HV.out]; exact HR2.out, HB2.out⟩
set_option maxHeartbeats 4000000 in
theorem var_2 (n : Int) (h0 : 128 ≤ n) (h1 : n < 16384) (w : World) : Calls Tryd.prog 58 #[.slice none 0 0, .int .u64 n] w (RetRow (varB n) w) := by
  obtain ⟨i0, hi, hz0, hz1, hz2⟩ := info_parts byteinfo
  have HS := Lib.hid (fun w' => (PValueForms.octet_Size.calls 3 n 2 w' (size_2 n (by omega) (by omega) 0)).mono fun e w'' h => (⟨h.1, drawn_below h.2⟩ : RetS (.int .i64 2) w' e w''))
  have HV := Lib.hid (show varB n = [n / 128 % 128 + 128, n % 128] by unfold varB; rw [if_neg (by omega), if_pos h1])
  have HL := Lib.hid (show bits .andNot .u8 (n % 256) 128 = n % 128 by rw [andNot128 _ (by omega) (by omega)]; omega)
  have HO1 := Lib.hid (show bits .or .u8 (n / 128) 128 = n / 128 % 128 + 128 by rw [or128 _ (by omega) (by omega)])
  go_enter Tryd.func58, Tryd.ntmps58
  go_wp2_with fail
  refine (clone_nil _).mono ?_
  rintro e w ⟨rfl, rfl⟩
  dsimp only
  go_wp2_with fail
  refine (HS.out _).mono ?_
  rintro e w1 ⟨rfl, hb⟩
  dsimp only
  go_wp2_with fail
  go_loopw [5, 8] (fun a i w' => VaR n 1 w a i w') (fun _ i _ => (intOf i).toNat)
  case atStart => exact ⟨1, 0, 0, none, by omega, rfl, rfl, World.ownsRow_nil _ _ _ _, hb⟩
  case round =>
    obtain ⟨j, m, cap, p, hj, rfl, rfl, hrow, hB⟩ := hrel
    clear hb
    have hj2 : j = 1 ∨ j = 0 := by omega
    clear hj
    rcases hj2 with rfl | rfl
    · rw [HV.out] at hrow
      have hrow : Row wr w.heap.size (.slice p m cap) [] := hrow
      obtain ⟨p, c, hp⟩ := row_shape hrow
      injection hp with ep em ec
      subst ep em ec
      have HO := Lib.hid hrow; clear hrow
      go_wp2_with (at_builtin; refine wpList_append_own _ rfl _ _ 43 rfl w.heap.size 5 i0 (.int .u8 0) 1 1 Tryd.underlying43 hi hz0 hz1 hz2 rfl (by decide) _ _ _ rfl (HO.out.alloc _) ⟨wr.heap.size, 0, none⟩ 1 1 [.int .u8 (bits .or .u8 (n / 128) 128)] rfl rfl ?c1 ?c2 ?c3 ?c4 ?c5 ?_)
      case c1 =>
        intro q u hq
        match q, hq with
        | 0, hq => simp at hq; subst hq; simp [Addr.add]
      case c2 => intro u hu; simp at hu; subst hu; rfl
      case c3 => simp; unfold maxLen; omega
      case c4 => simp
      case c5 => have := hB.size; simp; omega
      intro v' w2 hown' hgrow _
      rw [HO1.out] at hown'
      have hrow2 := row_snoc hown'
      obtain ⟨p2, c2, rfl⟩ := row_shape hrow2
      have HREL := Lib.hid (show VaR n 1 w (.slice p2 1 c2) (.int .i64 (0 : Nat)) w2 from
        ⟨0, _, _, _, by omega, rfl, rfl, by rw [HV.out]; exact hrow2, (hB.alloc hB.size _).grown hgrow (by have := hB.size; simp; omega) (fun x hx => (HO.out.lt x hx).1)⟩)
      clear hown' hgrow hrow2
      go_wp2_with fail
      exact ⟨HREL.out, by simp [intOf]⟩
    · rw [HV.out] at hrow
      have hrow : Row wr w.heap.size (.slice p m cap) [n / 128 % 128 + 128] := hrow
      obtain ⟨p, c, hp⟩ := row_shape hrow
      injection hp with ep em ec
      subst ep em ec
      have HO := Lib.hid hrow; clear hrow
      go_wp2_with (at_builtin; refine wpList_append_own _ rfl _ _ 43 rfl w.heap.size 5 i0 (.int .u8 0) 1 1 Tryd.underlying43 hi hz0 hz1 hz2 rfl (by decide) _ _ _ rfl (HO.out.alloc _) ⟨wr.heap.size, 0, none⟩ 1 1 [.int .u8 (bits .andNot .u8 (n % 256) 128)] rfl rfl ?d1 ?d2 ?d3 ?d4 ?d5 ?_)
      case d1 =>
        intro q u hq
        match q, hq with
        | 0, hq => simp at hq; subst hq; simp [Addr.add]
      case d2 => intro u hu; simp at hu; subst hu; rfl
      case d3 => simp; unfold maxLen; omega
      case d4 => simp
      case d5 => have := hB.size; simp; omega
      intro v' w2 hown' hgrow _
      rw [HL.out] at hown'
      have hrow2 := row_snoc hown'
      obtain ⟨p2, c2, rfl⟩ := row_shape hrow2
      have HB2 := Lib.hid (show Below w.heap.size w w2 from (hB.alloc hB.size _).grown hgrow (by have := hB.size; simp; omega) (fun x hx => (HO.out.lt x hx).1))
      have HR2 := Lib.hid hrow2
      clear hown' hgrow hrow2
      go_wp2_with fail
      go_ret
      exact ⟨_, rfl, by rw [HV.out]; exact HR2.out, HB2.out⟩
set_option maxHeartbeats 4000000 in
theorem var_3 (n : Int) (h0 : 16384 ≤ n) (h1 : n < 2097152) (w : World) : Calls Tryd.prog 58 #[.slice none 0 0, .int .u64 n] w (RetRow (varB n) w) := by
  obtain ⟨i0, hi, hz0, hz1, hz2⟩ := info_parts byteinfo
  have HS := Lib.hid (fun w' => (PValueForms.octet_Size.calls 3 n 3 w' (size_3 n (by omega) (by omega) 0)).mono fun e w'' h => (⟨h.1, drawn_below h.2⟩ : RetS (.int .i64 3) w' e w''))
  have HV := Lib.hid (show varB n = [n / 16384 % 128 + 128, n / 128 % 128 + 128, n % 128] by unfold varB; rw [if_neg (by omega), if_neg (by omega)])
  have HL := Lib.hid (show bits .andNot .u8 (n % 256) 128 = n % 128 by rw [andNot128 _ (by omega) (by omega)]; omega)
  have HO1 := Lib.hid (show bits .or .u8 (n / 128 % 256) 128 = n / 128 % 128 + 128 by rw [or128 _ (by omega) (by omega)]; omega)
  have HO2 := Lib.hid (show bits .or .u8 (n / 16384) 128 = n / 16384 % 128 + 128 by rw [or128 _ (by omega) (by omega)])
  go_enter Tryd.func58, Tryd.ntmps58
  go_wp2_with fail
  refine (clone_nil _).mono ?_
  rintro e w ⟨rfl, rfl⟩
  dsimp only
  go_wp2_with fail
  refine (HS.out _).mono ?_
  rintro e w1 ⟨rfl, hb⟩
  dsimp only
  go_wp2_with fail
  go_loopw [5, 8] (fun a i w' => VaR n 2 w a i w') (fun _ i _ => (intOf i).toNat)
  case atStart => exact ⟨2, 0, 0, none, by omega, rfl, rfl, World.ownsRow_nil _ _ _ _, hb⟩
  case round =>
    obtain ⟨j, m, cap, p, hj, rfl, rfl, hrow, hB⟩ := hrel
    clear hb
    have hj2 : j = 2 ∨ j = 1 ∨ j = 0 := by omega
    clear hj
    rcases hj2 with rfl | rfl | rfl
    · rw [HV.out] at hrow
      have hrow : Row wr w.heap.size (.slice p m cap) [] := hrow
      obtain ⟨p, c, hp⟩ := row_shape hrow
      injection hp with ep em ec
      subst ep em ec
      have HO := Lib.hid hrow; clear hrow
      go_wp2_with (at_builtin; refine wpList_append_own _ rfl _ _ 43 rfl w.heap.size 5 i0 (.int .u8 0) 1 1 Tryd.underlying43 hi hz0 hz1 hz2 rfl (by decide) _ _ _ rfl (HO.out.alloc _) ⟨wr.heap.size, 0, none⟩ 1 1 [.int .u8 (bits .or .u8 (n / 16384) 128)] rfl rfl ?c1 ?c2 ?c3 ?c4 ?c5 ?_)
      case c1 =>
        intro q u hq
        match q, hq with
        | 0, hq => simp at hq; subst hq; simp [Addr.add]
      case c2 => intro u hu; simp at hu; subst hu; rfl
      case c3 => simp; unfold maxLen; omega
      case c4 => simp
      case c5 => have := hB.size; simp; omega
      intro v' w2 hown' hgrow _
      rw [HO2.out] at hown'
      have hrow2 := row_snoc hown'
      obtain ⟨p2, c2, rfl⟩ := row_shape hrow2
      have HREL := Lib.hid (show VaR n 2 w (.slice p2 1 c2) (.int .i64 (1 : Nat)) w2 from
        ⟨1, _, _, _, by omega, rfl, rfl, by rw [HV.out]; exact hrow2, (hB.alloc hB.size _).grown hgrow (by have := hB.size; simp; omega) (fun x hx => (HO.out.lt x hx).1)⟩)
      clear hown' hgrow hrow2
      go_wp2_with fail
      exact ⟨HREL.out, by simp [intOf]⟩
    · rw [HV.out] at hrow
      have hrow : Row wr w.heap.size (.slice p m cap) [n / 16384 % 128 + 128] := hrow
      obtain ⟨p, c, hp⟩ := row_shape hrow
      injection hp with ep em ec
      subst ep em ec
      have HO := Lib.hid hrow; clear hrow
      go_wp2_with (at_builtin; refine wpList_append_own _ rfl _ _ 43 rfl w.heap.size 5 i0 (.int .u8 0) 1 1 Tryd.underlying43 hi hz0 hz1 hz2 rfl (by decide) _ _ _ rfl (HO.out.alloc _) ⟨wr.heap.size, 0, none⟩ 1 1 [.int .u8 (bits .or .u8 (n / 128 % 256) 128)] rfl rfl ?d1 ?d2 ?d3 ?d4 ?d5 ?_)
      case d1 =>
        intro q u hq
        match q, hq with
        | 0, hq => simp at hq; subst hq; simp [Addr.add]
      case d2 => intro u hu; simp at hu; subst hu; rfl
      case d3 => simp; unfold maxLen; omega
      case d4 => simp
      case d5 => have := hB.size; simp; omega
      intro v' w2 hown' hgrow _
      rw [HO1.out] at hown'
      have hrow2 := row_snoc hown'
      obtain ⟨p2, c2, rfl⟩ := row_shape hrow2
      have HREL := Lib.hid (show VaR n 2 w (.slice p2 2 c2) (.int .i64 (0 : Nat)) w2 from
        ⟨0, _, _, _, by omega, rfl, rfl, by rw [HV.out]; exact hrow2, (hB.alloc hB.size _).grown hgrow (by have := hB.size; simp; omega) (fun x hx => (HO.out.lt x hx).1)⟩)
      clear hown' hgrow hrow2
      go_wp2_with fail
      exact ⟨HREL.out, by simp [intOf]⟩
    · rw [HV.out] at hrow
      have hrow : Row wr w.heap.size (.slice p m cap) [n / 16384 % 128 + 128, n / 128 % 128 + 128] := hrow
      obtain ⟨p, c, hp⟩ := row_shape hrow
      injection hp with ep em ec
      subst ep em ec
      have HO := Lib.hid hrow; clear hrow
      go_wp2_with (at_builtin; refine wpList_append_own _ rfl _ _ 43 rfl w.heap.size 5 i0 (.int .u8 0) 1 1 Tryd.underlying43 hi hz0 hz1 hz2 rfl (by decide) _ _ _ rfl (HO.out.alloc _) ⟨wr.heap.size, 0, none⟩ 1 1 [.int .u8 (bits .andNot .u8 (n % 256) 128)] rfl rfl ?e1 ?e2 ?e3 ?e4 ?e5 ?_)
      case e1 =>
        intro q u hq
        match q, hq with
        | 0, hq => simp at hq; subst hq; simp [Addr.add]
      case e2 => intro u hu; simp at hu; subst hu; rfl
      case e3 => simp; unfold maxLen; omega
      case e4 => simp
      case e5 => have := hB.size; simp; omega
      intro v' w2 hown' hgrow _
      rw [HL.out] at hown'
      have hrow2 := row_snoc hown'
      obtain ⟨p2, c2, rfl⟩ := row_shape hrow2
      have HB2 := Lib.hid (show Below w.heap.size w w2 from (hB.alloc hB.size _).grown hgrow (by have := hB.size; simp; omega) (fun x hx => (HO.out.lt x hx).1))
      have HR2 := Lib.hid hrow2
      clear hown' hgrow hrow2
      go_wp2_with fail
      go_ret
      exact ⟨_, rfl, by rw [HV.out]; exact HR2.out, HB2.out⟩
theorem var_val (n : Int) (h0 : 0 ≤ n) (h1 : n < 2097152) (w : World) : Calls Tryd.prog 58 #[.slice none 0 0, .int .u64 n] w (RetRow (varB n) w) := by
  by_cases a : n < 128
  · exact var_1 n h0 a w
  · by_cases b : n < 16384
    · exact var_2 n (by omega) b w
    · exact var_3 n (by omega) h1 w
end Go.Proofs.YtcjidlgmbjebjaaDoor

namespace Go.Proofs.YtcjidlgmbjebjaaDoor
open Go Go.RowKit Go.Proofs.YtcjidlgmbjebjaaDoorW.PrintWords
def lowB (n : Int) (j : Nat) : List Int := (List.range j : List Nat).map fun (i : Nat) => n / 2 ^ (8 * i) % 256
def PuR (n : Int) (W : World) (a i : Value) (w' : World) : Prop :=
  ∃ (j c : Nat) (p : Option Addr), j ≤ 8 ∧ i = .int .i64 j ∧ a = .slice p j c ∧ Row w' W.heap.size (.slice p j c) (lowB n j) ∧ Below W.heap.size W w'
theorem lowB_len (n : Int) (j : Nat) : (lowB n j).length = j := by simp [lowB]
theorem lowB_snoc (n : Int) (j : Nat) : lowB n (j + 1) = lowB n j ++ [n / 2 ^ (8 * j) % 256] := by simp [lowB, List.range_succ]
theorem low8 (n : Int) : lowB n 8 = [n / 1 % 256, n / 256 % 256, n / 65536 % 256, n / 16777216 % 256, n / 4294967296 % 256, n / 1099511627776 % 256, n / 281474976710656 % 256, n / 72057594037927936 % 256] := by rfl
theorem rev8 (a0 a1 a2 a3 a4 a5 a6 a7 : Int) : PValueForms.slices_Reverse_byte_byte.f 6 [a0, a1, a2, a3, a4, a5, a6, a7] = some [a7, a6, a5, a4, a3, a2, a1, a0] := by
  simp [PValueForms.slices_Reverse_byte_byte.f, PValueForms.slices_Reverse_byte_byte.l0, rd, wrap64]
theorem low_rev (n : Int) : PValueForms.slices_Reverse_byte_byte.f 6 (lowB n 8) = some (putB n) := by
  rw [low8, rev8]
  simp [putB]
theorem R_of_row {w : World} {base : Nat} {v : Value} {l : List Int} (h : Row w base v l) : Kd.R (Kd.int .u8) 5 w base (fun _ => True) v l := by
  refine ⟨fun _ _ => trivial, u8s l, h, (show (u8s l).length = l.length * 1 by simp [u8s]), fun j p hp => ?_⟩
  show ((u8s l).drop (j * 1)).take 1 = [.int .u8 p]
  have hl : j < (u8s l).length := by have := (List.getElem?_eq_some_iff.1 hp).1; simp [u8s]; exact this
  rw [Nat.mul_one, List.drop_eq_getElem_cons hl, List.take_succ_cons, List.take_zero]
  congr 1
  have : (u8s l)[j]? = some (.int .u8 p) := by unfold u8s; rw [List.getElem?_map, hp]; rfl
  rw [List.getElem?_eq_getElem hl] at this
  injection this
set_option maxHeartbeats 4000000 in
theorem put_val (n : Int) (h0 : 0 ≤ n) (h1 : n < 18446744073709551616) (w : World) : Calls Tryd.prog 115 #[.slice none 0 0, .int .u64 n, .int .i64 8, .bool false] w (RetRow (putB n) w) := by
  obtain ⟨i0, hi, hz0, hz1, hz2⟩ := info_parts byteinfo
  have hmx : max (8 : Int) 0 = 8 := by decide
  go_enter Tryd.func115, Tryd.ntmps115
  go_wp2_with fail
  refine (clone_nil _).mono ?_
  rintro e w ⟨rfl, rfl⟩
  dsimp only
  go_wp2_with fail
  go_loopw [9, 19] (fun a i w' => PuR n w a i w') (fun _ i _ => 8 - (intOf i).toNat)
  case atStart => exact ⟨0, 0, none, by omega, rfl, rfl, World.ownsRow_nil _ _ _ _, Below.refl _ _⟩
  case round =>
    obtain ⟨j, c, p, hj, rfl, rfl, hrow, hB⟩ := hrel
    have HO := Lib.hid hrow; clear hrow
    by_cases hp : j < 8
    · obtain ⟨p', c', hv⟩ := row_shape HO.out
      rw [lowB_len] at hv
      injection hv with ep _ ec
      subst ep ec
      have HO := Lib.hid (show wr.ownsRow w.heap.size 5 1 (.slice p j c) j (u8s (lowB n j)) by have := HO.out; unfold Row at this; rwa [lowB_len] at this)
      go_wp2_with (at_builtin; refine wpList_append_own _ rfl _ _ 43 rfl w.heap.size 5 i0 (.int .u8 0) 1 1 Tryd.underlying43 hi hz0 hz1 hz2 rfl (by decide) _ _ _ rfl (HO.out.alloc _) ⟨wr.heap.size, 0, none⟩ 1 1 [.int .u8 (n / 2 ^ (8 * j) % 256)] rfl rfl ?c1 ?c2 ?c3 ?c4 ?c5 ?_)
      case c2 => first | rfl | (intro u hu; simp at hu; subst hu; rfl)
      case c3 => unfold maxLen; omega
      case c4 => omega
      case c5 => have := hB.size; simp; omega
      intro v' w2 hown' hgrow _
      have hrow2 : Row w2 w.heap.size v' (lowB n (j + 1)) := by
        rw [lowB_snoc]
        refine row_snoc ?_
        rw [lowB_len]; exact hown'
      obtain ⟨p2, c2, hv2⟩ := row_shape hrow2
      rw [lowB_len] at hv2
      subst hv2
      have HREL := Lib.hid (show PuR n w (.slice p2 (j + 1) c2) (.int .i64 ((j + 1 : Nat) : Int)) w2 from
        ⟨j + 1, _, _, by omega, rfl, rfl, hrow2, (hB.alloc hB.size _).grown hgrow (by have := hB.size; simp; omega) (fun x hx => (HO.out.lt x hx).1)⟩)
      clear hown' hgrow hrow2
      go_wp2_with fail
      exact ⟨HREL.out, by simp [intOf]; omega⟩
    · obtain rfl : j = 8 := by omega
      go_wp2_with fail
      have HR := Lib.hid (PValueForms.slices_Reverse_byte_byte.calls 6 (fun _ => True) (.slice p 8 c) (lowB n 8) (putB n) w wr hB (R_of_row HO.out) (low_rev n))
      refine HR.out.mono ?_
      rintro e w3 ⟨rfl, hR, hb3, _⟩
      have HR3 := Lib.hid (row_of_R hR)
      clear hR
      dsimp only
      go_wp2_with fail
      go_ret
      exact ⟨_, rfl, HR3.out, hb3⟩
end Go.Proofs.YtcjidlgmbjebjaaDoor
