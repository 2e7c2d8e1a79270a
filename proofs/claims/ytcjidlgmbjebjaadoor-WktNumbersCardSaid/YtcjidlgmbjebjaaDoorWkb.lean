/- A part of the proof of WktNumbers. -/
import Derived.Test.YtcjidlgmbjebjaaDoorWka
import Derived.ChangeSame
import Derived.ChangeVars
import Derived.ProofKit
import Derived.Lib.SmallJoins
import Derived.Deep.Strs
import Derived.OpenShut
import Derived.Lib.LaidTab
import Derived.Stop.LaidErr
import Derived.Test.YtcjidlgmbjebjaaDoorRows
import Derived.Test.YtcjidlgmbjebjaaDoorWkI
import Derived.Test.YtcjidlgmbjebjaaDoorWkU
import Derived.JoinedOf
set_option linter.unusedVariables false
set_option linter.unusedSimpArgs false
set_option maxRecDepth 100000
namespace Go.Proofs.YtcjidlgmbjebjaaDoor
open Go Go.Shelf Go.RowKit Go.Sort Go.Lib
set_option maxHeartbeats 1000000 in
theorem isdig_val (r : Int) (w : World) : Calls Tryd.prog 107 #[.int .i32 r] w fun e w' => e = .returned (.bool (decide (48 ≤ r) && decide (r ≤ 57))) ∧ w' = w := by
  by_cases h1 : 48 ≤ r
  · go_enter Tryd.func107, Tryd.ntmps107
    go_wp2
    go_ret
    refine ⟨?_, rfl⟩
    rw [decide_eq_true h1]; rfl
  · go_enter Tryd.func107, Tryd.ntmps107
    go_wp2
    go_ret
    refine ⟨?_, rfl⟩
    rw [decide_eq_false (Int.not_le.2 h1)]; rfl
def RetNum (p : Int × Bool) (W : World) (e : Ending) (w' : World) : Prop := e = .returned (.tuple #[.int .i64 p.1, .bool p.2]) ∧ Below W.heap.size W w'
def NumR (D : List UInt8) (w : World) (k : Value) (w' : World) : Prop :=
  ∃ pos n : Nat, k = .int .u64 n ∧ n ≤ 9223372036854775807 ∧ w' = w.iter ⟨D.toArray⟩ pos ∧ pos ≤ D.length ∧ Wk.digs (D.drop pos) n = Wk.digs D 0
set_option maxHeartbeats 4000000 in
theorem num_val (l : List UInt8) (ha : ∀ c ∈ l, c.toNat < 128) (hl : l.length ≤ 1000) (w : World) : Calls Tryd.prog 48 #[.string ⟨l.toArray⟩] w (RetNum (Wk.numL l) w) := by
  have hsz := str_len l
  by_cases h40 : 40 < l.length
  · have e := Lib.hid (show Wk.numL l = (0, false) by unfold Wk.numL; rw [if_pos h40])
    go_enter Tryd.func48, Tryd.ntmps48
    go_wp2
    go_ret2
    exact ⟨by rw [e.out]; rfl, Below.refl _ _⟩
  have hN := Lib.hid (Wk.numL.eq_1 l)
  rw [if_neg h40] at hN
  have HT1 := Lib.hid (fun w' => Tryd.strings_TrimPrefix ⟨l.toArray⟩ ⟨#[45]⟩ w')
  have HT2 := Lib.hid (fun w' => Tryd.strings_TrimPrefix ⟨l.toArray⟩ ⟨#[43]⟩ w')
  dsimp only at hN HT1 HT2
  have hb1 : (trimPrefix l [45]).length ≤ l.length := by unfold trimPrefix; split <;> simp
  have hb2 : (trimPrefix l [43]).length ≤ l.length := by unfold trimPrefix; split <;> simp
  have ha1 : ∀ c ∈ trimPrefix l [45], c.toNat < 128 := by
    intro c hc
    unfold trimPrefix at hc
    split at hc
    · exact ha c (List.mem_of_mem_drop hc)
    · exact ha c hc
  have ha2 : ∀ c ∈ trimPrefix l [43], c.toNat < 128 := by
    intro c hc
    unfold trimPrefix at hc
    split at hc
    · exact ha c (List.mem_of_mem_drop hc)
    · exact ha c hc
  generalize trimPrefix l [45] = b1 at *
  generalize trimPrefix l [43] = b2 at *
  have hz1 := str_len b1
  have hz2 := str_len b2
  go_enter Tryd.func48, Tryd.ntmps48
  go_wp2_with fail
  refine (HT1.out _).mono ?_
  rintro e w1 ⟨rfl, rfl⟩
  dsimp only
  go_upto_if 23 with fail
  generalize decide (b1.length < l.length) = g at hN ⊢
  go_cut [4] (fun b wx => b = .string ⟨(if g = true then b1 else b2).toArray⟩ ∧ Below w1.heap.size w1 wx)
  case first =>
    cases g
    · go_wp2_with fail
      refine (HT2.out _).mono ?_
      rintro e w2 ⟨rfl, rfl⟩
      dsimp only
      go_wp2_with fail
      go_meet
      exact ⟨rfl, by go_grown⟩
    · go_wp2_with fail
      go_meet
      exact ⟨rfl, by go_grown⟩
  case rest =>
  obtain ⟨rfl, hB1⟩ := hcut
  have hb : (if g = true then b1 else b2).length ≤ l.length := by split <;> assumption
  have hab : ∀ c ∈ (if g = true then b1 else b2), c.toNat < 128 := by split <;> assumption
  generalize (if g = true then b1 else b2) = b at *
  have HC := Lib.hid (cut_val b (by omega) wc)
  unfold RetCut at HC
  have hcl : (cut b [46]).1.length ≤ b.length ∧ (cut b [46]).2.1.length ≤ b.length := by unfold cut; split <;> simp <;> omega
  have hca : (∀ c ∈ (cut b [46]).1, c.toNat < 128) ∧ (∀ c ∈ (cut b [46]).2.1, c.toNat < 128) := by
    unfold cut
    split
    · exact ⟨fun c hc => hab c (List.mem_of_mem_take hc), fun c hc => hab c (List.mem_of_mem_drop hc)⟩
    · exact ⟨hab, fun c hc => by simp at hc⟩
  generalize cut b [46] = p at *
  obtain ⟨W, P, pt⟩ := p
  dsimp only at *
  obtain ⟨hcl1, hcl2⟩ := hcl
  obtain ⟨hca1, hca2⟩ := hca
  clear HT1 HT2 ha1 ha2 hb1 hb2 hab
  go_wp2_with fail
  refine HC.out.mono ?_
  rintro e w2 ⟨rfl, hb2⟩
  have hB2 := below_step hB1 hb2
  clear hb2 hB1 HC
  dsimp only
  have hzW := str_len W
  have hzP := str_len P
  have hrep : Lib.repeatL [48] (7 - P.length) = List.replicate (7 - P.length) 48 := by
    generalize 7 - P.length = c
    induction c with
    | zero => rfl
    | succ c ih => rw [Lib.repeatL, ih, List.replicate_succ]; rfl
  by_cases hW : W = []
  · subst hW
    have HN := Lib.hid (hN.out.trans (if_pos (.inl rfl)))
    clear hN
    go_wp2_with fail
    go_ret2
    exact ⟨by rw [HN.out]; rfl, hB2⟩
  have hWe : W.isEmpty = false := by cases W with
    | nil => exact absurd rfl hW
    | cons => rfl
  by_cases hP7 : 7 < P.length
  · have hPe : P.isEmpty = false := by cases P with
      | nil => simp at hP7
      | cons => rfl
    have HN := Lib.hid (hN.out.trans (if_pos (.inr (.inr hP7))))
    clear hN
    cases pt
    all_goals
      go_wp2_with fail
      go_ret2
      exact ⟨by rw [HN.out]; rfl, hB2⟩
  by_cases hPP : pt = true ∧ P = []
  · obtain ⟨rfl, rfl⟩ := hPP
    have HN := Lib.hid (hN.out.trans (if_pos (.inr (.inl ⟨rfl, rfl⟩))))
    clear hN
    go_wp2_with fail
    go_ret2
    exact ⟨by rw [HN.out]; rfl, hB2⟩
  have HN := Lib.hid (hN.out.trans (if_neg (by simp [hW, hP7]; simpa using hPP)))
  clear hN
  have hway : pt = false ∨ (pt = true ∧ P.isEmpty = false) := by
    cases pt with
    | false => exact .inl rfl
    | true => exact .inr ⟨rfl, by cases P with
        | nil => exact absurd ⟨rfl, rfl⟩ hPP
        | cons => rfl⟩
  clear hPP
  have hw7 : wrap64 (7 - (P.length : Int)) = ((7 - P.length : Nat) : Int) := by unfold wrap64; omega
  have HR := Lib.hid (fun w' => Tryd.strings_Repeat ⟨#[48]⟩ (7 - P.length) w' (by omega) (by rw [show (ByteArray.mk #[48]).size = 1 from rfl]; omega))
  rw [show (ByteArray.mk #[48]).data.toList = [48] from rfl, hrep, show ((7 - P.length : Nat) : Int) = 7 - (P.length : Int) by omega] at HR
  have hzR := str_len (List.replicate (7 - P.length) 48)
  rw [List.length_replicate] at hzR
  have hcat : (ByteArray.mk W.toArray) ++ ⟨P.toArray⟩ ++ ⟨(List.replicate (7 - P.length) 48).toArray⟩ = ⟨(W ++ P ++ List.replicate (7 - P.length) 48).toArray⟩ := by rw [str_app, str_app]
  have hDa : ∀ c ∈ W ++ P ++ List.replicate (7 - P.length) 48, c.toNat < 128 := by
    intro c hc
    rcases List.mem_append.1 hc with hc | hc
    · rcases List.mem_append.1 hc with hc | hc
      · exact hca1 c hc
      · exact hca2 c hc
    · rw [List.eq_of_mem_replicate hc]; decide
  have hDl : (W ++ P ++ List.replicate (7 - P.length) 48).length ≤ 2007 := by simp; omega
  have hzc : ((ByteArray.mk W.toArray) ++ ⟨P.toArray⟩).size = W.length + P.length := by rw [str_app, str_len, List.length_append]
  generalize (ByteArray.mk (List.replicate (7 - P.length) 48).toArray) = R at HR hzR hcat
  generalize W ++ P ++ List.replicate (7 - P.length) 48 = D at HN hcat hDa hDl
  have HCAT := Lib.hid hcat
  have HDA := Lib.hid hDa
  clear hcat hDa hrep hca1 hca2
  rcases hway with rfl | ⟨rfl, hPe⟩
  · go_wp2_with fail
    refine (HR.out _).mono ?_
    rintro e w3 ⟨rfl, hb⟩
    have hB3 := below_step hB2 hb
    clear hb HR
    dsimp only
    go_wp2_with fail
    go_loopw [9] (fun k w' => NumR D w3 k w') (fun _ w' => D.length - w'.iterPos w3.heap.size)
    case atStart => exact ⟨0, 0, rfl, by decide, by rw [HCAT.out], Nat.zero_le _, rfl⟩
    case round =>
      clear hzW hzP hzR hzc hsz hz1 hz2 hcl1 hcl2 hW hWe hP7 hw7 hB2 hDl
      obtain ⟨pos, n, rfl, hn, rfl, hp0, hc⟩ := hrel
      have hBI := below_step hB3 (below_iter w3 ⟨D.toArray⟩ pos)
      have hBJ := below_step hB3 (below_iter w3 ⟨D.toArray⟩ (pos + 1))
      by_cases hp : pos < D.length
      · have hps : pos < (ByteArray.mk D.toArray).size := by rw [str_len]; exact hp
        have hnx : ∀ ty, (Instr.next (.pointer (some ⟨w3.heap.size, 0, none⟩)) true ty).run Tryd.prog (w3.iter ⟨D.toArray⟩ pos) = _ := fun ty => run_next_any w3 ⟨D.toArray⟩ pos ty hps
        have hby : Utf.byt ⟨D.toArray⟩ pos = (D[pos]).toNat := by
          have := get_list ⟨D.toArray⟩ pos hps
          rw [show (ByteArray.mk D.toArray).data.toList = D from rfl, List.getElem?_eq_getElem hp] at this
          unfold Utf.byt
          rw [← Option.some.inj this]
        have hd := Utf.decode_ascii ⟨D.toArray⟩ pos (by rw [hby]; exact HDA.out _ (List.getElem_mem hp))
        rw [hd, hby] at hnx
        dsimp only at hnx
        rw [List.drop_eq_getElem_cons hp, Wk.digs] at hc
        have hx8 : (D[pos]).toNat < 256 := (D[pos]).toNat_lt
        generalize (D[pos]).toNat = x at hnx hc hx8
        clear hby hd hps
        have HD7 := Lib.hid (fun w => isdig_val (x : Int) w)
        by_cases hdig : 48 ≤ x ∧ x ≤ 57
        · have hdg : (decide (48 ≤ (x : Int)) && decide ((x : Int) ≤ 57)) = true := by simp; omega
          rw [hdg] at HD7
          obtain ⟨d, rfl⟩ : ∃ d : Nat, x = 48 + d := ⟨x - 48, by omega⟩
          have hd9 : d ≤ 9 := by omega
          have q0 : ((48 + d : Nat) : Int) - 48 = (d : Int) := by omega
          have q1 : IntKind.i32.wrap (d : Int) = d := by rw [IntKind.wrap_i32]; omega
          have q2 : IntKind.u64.wrap (d : Int) = d := by rw [IntKind.wrap_u64]; omega
          have q3 : IntKind.u64.wrap (9223372036854775807 - (d : Int)) = 9223372036854775807 - (d : Int) := by rw [IntKind.wrap_u64]; omega
          have q4 : (9223372036854775807 - (d : Int)).tdiv 10 = ((9223372036854775807 - d) / 10 : Nat) := by rw [Int.tdiv_eq_ediv_of_nonneg (by omega)]; omega
          rw [show 48 + d - 48 = d by omega] at hc
          by_cases hov : (9223372036854775807 - d) / 10 < n
          · rw [if_pos (.inr (.inr hov))] at hc
            have HN2 := Lib.hid (show Wk.numL l = (0, false) by rw [HN.out, ← hc])
            have q5 : (((9223372036854775807 - d) / 10 : Nat) : Int) < (n : Int) := by omega
            clear hc HN hdig hdg
            go_wp2_with fail
            refine (HD7.out _).mono ?_
            rintro e w4 ⟨rfl, rfl⟩
            dsimp only
            go_wp2_with fail
            go_ret2
            exact ⟨by rw [HN2.out]; rfl, hBJ⟩
          · rw [if_neg (by omega)] at hc
            have HC2 := Lib.hid hc
            have q5 : ¬ (((9223372036854775807 - d) / 10 : Nat) : Int) < (n : Int) := by omega
            have q6 : IntKind.u64.wrap (10 * (n : Int)) = 10 * (n : Int) := by rw [IntKind.wrap_u64]; omega
            have q7 : IntKind.u64.wrap (10 * (n : Int) + (d : Int)) = 10 * (n : Int) + (d : Int) := by rw [IntKind.wrap_u64]; omega
            have hn2 : 10 * n + d ≤ 9223372036854775807 := by omega
            clear hc hdig hdg
            go_wp2_with fail
            refine (HD7.out _).mono ?_
            rintro e w4 ⟨rfl, rfl⟩
            dsimp only
            go_wp2_with fail
            go_roundw
            case rel => exact ⟨pos + 1, 10 * n + d, by simp; omega, hn2, rfl, hp, HC2.out⟩
            case measure => simp; omega
        · have hdg : (decide (48 ≤ (x : Int)) && decide ((x : Int) ≤ 57)) = false := by rw [Bool.and_eq_false_iff, decide_eq_false_iff_not, decide_eq_false_iff_not]; omega
          rw [hdg] at HD7
          rw [if_pos (by omega)] at hc
          have HN2 := Lib.hid (show Wk.numL l = (0, false) by rw [HN.out, ← hc])
          clear hc HN hdig hdg
          go_wp2_with fail
          refine (HD7.out _).mono ?_
          rintro e w4 ⟨rfl, rfl⟩
          dsimp only
          go_wp2_with fail
          go_ret2
          exact ⟨by rw [HN2.out]; rfl, hBJ⟩
      · have hnx : ∀ ty, (Instr.next (.pointer (some ⟨w3.heap.size, 0, none⟩)) true ty).run Tryd.prog (w3.iter ⟨D.toArray⟩ pos) = _ := fun ty => run_next_end w3 ⟨D.toArray⟩ pos ty (by rw [str_len]; exact hp)
        obtain rfl : pos = D.length := by omega
        rw [List.drop_length, Wk.digs] at hc
        have q1 : IntKind.i64.wrap (n : Int) = n := by rw [IntKind.wrap_i64]; omega
        have q2 : IntKind.i64.wrap (-(n : Int)) = -(n : Int) := by rw [IntKind.wrap_i64]; omega
        have q3 : wrap64 (-(n : Int)) = -(n : Int) := by unfold wrap64; omega
        have HN2 := Lib.hid (show Wk.numL l = (if g = true then -(n : Int) else (n : Int), true) by rw [HN.out, ← hc])
        clear hc HN
        cases g
        · go_wp2_with fail
          go_ret2
          exact ⟨by rw [HN2.out]; rfl, hBI⟩
        · go_wp2_with fail
          go_ret2
          exact ⟨by rw [HN2.out]; rfl, hBI⟩
  · go_wp2_with fail
    refine (HR.out _).mono ?_
    rintro e w3 ⟨rfl, hb⟩
    have hB3 := below_step hB2 hb
    clear hb HR
    dsimp only
    go_wp2_with fail
    go_loopw [9] (fun k w' => NumR D w3 k w') (fun _ w' => D.length - w'.iterPos w3.heap.size)
    case atStart => exact ⟨0, 0, rfl, by decide, by rw [HCAT.out], Nat.zero_le _, rfl⟩
    case round =>
      clear hzW hzP hzR hzc hsz hz1 hz2 hcl1 hcl2 hW hWe hP7 hw7 hB2 hDl
      obtain ⟨pos, n, rfl, hn, rfl, hp0, hc⟩ := hrel
      have hBI := below_step hB3 (below_iter w3 ⟨D.toArray⟩ pos)
      have hBJ := below_step hB3 (below_iter w3 ⟨D.toArray⟩ (pos + 1))
      by_cases hp : pos < D.length
      · have hps : pos < (ByteArray.mk D.toArray).size := by rw [str_len]; exact hp
        have hnx : ∀ ty, (Instr.next (.pointer (some ⟨w3.heap.size, 0, none⟩)) true ty).run Tryd.prog (w3.iter ⟨D.toArray⟩ pos) = _ := fun ty => run_next_any w3 ⟨D.toArray⟩ pos ty hps
        have hby : Utf.byt ⟨D.toArray⟩ pos = (D[pos]).toNat := by
          have := get_list ⟨D.toArray⟩ pos hps
          rw [show (ByteArray.mk D.toArray).data.toList = D from rfl, List.getElem?_eq_getElem hp] at this
          unfold Utf.byt
          rw [← Option.some.inj this]
        have hd := Utf.decode_ascii ⟨D.toArray⟩ pos (by rw [hby]; exact HDA.out _ (List.getElem_mem hp))
        rw [hd, hby] at hnx
        dsimp only at hnx
        rw [List.drop_eq_getElem_cons hp, Wk.digs] at hc
        have hx8 : (D[pos]).toNat < 256 := (D[pos]).toNat_lt
        generalize (D[pos]).toNat = x at hnx hc hx8
        clear hby hd hps
        have HD7 := Lib.hid (fun w => isdig_val (x : Int) w)
        by_cases hdig : 48 ≤ x ∧ x ≤ 57
        · have hdg : (decide (48 ≤ (x : Int)) && decide ((x : Int) ≤ 57)) = true := by simp; omega
          rw [hdg] at HD7
          obtain ⟨d, rfl⟩ : ∃ d : Nat, x = 48 + d := ⟨x - 48, by omega⟩
          have hd9 : d ≤ 9 := by omega
          have q0 : ((48 + d : Nat) : Int) - 48 = (d : Int) := by omega
          have q1 : IntKind.i32.wrap (d : Int) = d := by rw [IntKind.wrap_i32]; omega
          have q2 : IntKind.u64.wrap (d : Int) = d := by rw [IntKind.wrap_u64]; omega
          have q3 : IntKind.u64.wrap (9223372036854775807 - (d : Int)) = 9223372036854775807 - (d : Int) := by rw [IntKind.wrap_u64]; omega
          have q4 : (9223372036854775807 - (d : Int)).tdiv 10 = ((9223372036854775807 - d) / 10 : Nat) := by rw [Int.tdiv_eq_ediv_of_nonneg (by omega)]; omega
          rw [show 48 + d - 48 = d by omega] at hc
          by_cases hov : (9223372036854775807 - d) / 10 < n
          · rw [if_pos (.inr (.inr hov))] at hc
            have HN2 := Lib.hid (show Wk.numL l = (0, false) by rw [HN.out, ← hc])
            have q5 : (((9223372036854775807 - d) / 10 : Nat) : Int) < (n : Int) := by omega
            clear hc HN hdig hdg
            go_wp2_with fail
            refine (HD7.out _).mono ?_
            rintro e w4 ⟨rfl, rfl⟩
            dsimp only
            go_wp2_with fail
            go_ret2
            exact ⟨by rw [HN2.out]; rfl, hBJ⟩
          · rw [if_neg (by omega)] at hc
            have HC2 := Lib.hid hc
            have q5 : ¬ (((9223372036854775807 - d) / 10 : Nat) : Int) < (n : Int) := by omega
            have q6 : IntKind.u64.wrap (10 * (n : Int)) = 10 * (n : Int) := by rw [IntKind.wrap_u64]; omega
            have q7 : IntKind.u64.wrap (10 * (n : Int) + (d : Int)) = 10 * (n : Int) + (d : Int) := by rw [IntKind.wrap_u64]; omega
            have hn2 : 10 * n + d ≤ 9223372036854775807 := by omega
            clear hc hdig hdg
            go_wp2_with fail
            refine (HD7.out _).mono ?_
            rintro e w4 ⟨rfl, rfl⟩
            dsimp only
            go_wp2_with fail
            go_roundw
            case rel => exact ⟨pos + 1, 10 * n + d, by simp; omega, hn2, rfl, hp, HC2.out⟩
            case measure => simp; omega
        · have hdg : (decide (48 ≤ (x : Int)) && decide ((x : Int) ≤ 57)) = false := by rw [Bool.and_eq_false_iff, decide_eq_false_iff_not, decide_eq_false_iff_not]; omega
          rw [hdg] at HD7
          rw [if_pos (by omega)] at hc
          have HN2 := Lib.hid (show Wk.numL l = (0, false) by rw [HN.out, ← hc])
          clear hc HN hdig hdg
          go_wp2_with fail
          refine (HD7.out _).mono ?_
          rintro e w4 ⟨rfl, rfl⟩
          dsimp only
          go_wp2_with fail
          go_ret2
          exact ⟨by rw [HN2.out]; rfl, hBJ⟩
      · have hnx : ∀ ty, (Instr.next (.pointer (some ⟨w3.heap.size, 0, none⟩)) true ty).run Tryd.prog (w3.iter ⟨D.toArray⟩ pos) = _ := fun ty => run_next_end w3 ⟨D.toArray⟩ pos ty (by rw [str_len]; exact hp)
        obtain rfl : pos = D.length := by omega
        rw [List.drop_length, Wk.digs] at hc
        have q1 : IntKind.i64.wrap (n : Int) = n := by rw [IntKind.wrap_i64]; omega
        have q2 : IntKind.i64.wrap (-(n : Int)) = -(n : Int) := by rw [IntKind.wrap_i64]; omega
        have q3 : wrap64 (-(n : Int)) = -(n : Int) := by unfold wrap64; omega
        have HN2 := Lib.hid (show Wk.numL l = (if g = true then -(n : Int) else (n : Int), true) by rw [HN.out, ← hc])
        clear hc HN
        cases g
        · go_wp2_with fail
          go_ret2
          exact ⟨by rw [HN2.out]; rfl, hBI⟩
        · go_wp2_with fail
          go_ret2
          exact ⟨by rw [HN2.out]; rfl, hBI⟩
end Go.Proofs.YtcjidlgmbjebjaaDoor

namespace Go.Proofs.YtcjidlgmbjebjaaDoor
open Go Go.Shelf Go.RowKit Go.Sort
theorem rest2_snoc (l : List UInt8) (c : UInt8) (pt : Bool) (k : Nat) : Wk.rest2 (l ++ [c]) pt k = ((Wk.rest2 l pt k).1 || c == 46, if (Wk.rest2 l pt k).1 = true then (Wk.rest2 l pt k).2 + 1 else (Wk.rest2 l pt k).2) := by
  rw [Wk.rest2_app]; rfl
theorem rest2_le : ∀ (l : List UInt8) (pt : Bool) (k : Nat), (Wk.rest2 l pt k).2 ≤ k + l.length
  | [], _, _ => by simp [Wk.rest2]
  | c :: l, pt, k => by
    have := rest2_le l (pt || c == 46) (if pt = true then k + 1 else k)
    rw [Wk.rest2, List.length_cons]
    split at this <;> simp_all <;> omega
def LaR (S : List UInt8) (W : World) (w : World) (a b c : Value) (w' : World) : Prop :=
  ∃ i : Nat, i ≤ S.length ∧ c = .int .i64 i ∧ a = .bool (Wk.rest2 (S.take i) false 0).1 ∧ b = .int .i64 ((Wk.rest2 (S.take i) false 0).2 : Nat) ∧ w' = w
def LbR (S : List UInt8) (m : Nat) (w : World) (a b : Value) (w' : World) : Prop :=
  ∃ j : Nat, j ≤ m ∧ b = .int .i64 j ∧ a = .string ⟨(S ++ List.replicate j 48).toArray⟩ ∧ w' = w
theorem ord_ascii (n : Int) (hn : n.natAbs ≤ 9223372036854775807) : ∀ c ∈ Wk.ordL n, c.toNat < 128 := by
  obtain ⟨W, t, k, hW, hne, hl, ht, hk, hv, e⟩ := Wk.ord_parts n hn
  rw [e]
  intro c hc
  rcases List.mem_append.1 hc with hc | hc
  · unfold Wk.signL at hc
    split at hc
    · simp at hc; subst hc; decide
    · simp at hc
  · rcases List.mem_append.1 hc with hc | hc
    · have := hW c hc; unfold Wk.dgt at this; omega
    · split at hc
      · simp at hc
      · rcases List.mem_cons.1 hc with rfl | hc
        · decide
        · have := ht c hc; unfold Wk.dgt at this; omega
theorem beq46 (c : UInt8) : ((c.toNat : Int) == 46) = (c == 46) := by
  rw [Bool.eq_iff_iff, beq_iff_eq, beq_iff_eq]
  constructor
  · intro h; apply UInt8.toNat_inj.1; show c.toNat = 46; omega
  · intro h; subst h; rfl
theorem at_str (S : List UInt8) (i : Nat) (h : i < S.length) (h2 : i < (ByteArray.mk S.toArray).size) : ((ByteArray.mk S.toArray)[i]'h2) = S[i] := rfl
set_option maxHeartbeats 1600000 in
theorem numbers_walk (n : Int) (k : Int) (W : World) (h0 : -9223372036854775808 ≤ n) (h1 : n ≤ 9223372036854775807) (k0 : 0 ≤ k) (k1 : k < 256) (hpow : PowIs W)
    (hlives : ∀ w', Below W.heap.size W w' → Calls Tryd.prog 46 #[] w' (TrueBelow w')) :
    Calls Tryd.prog 10 #[.int .i64 n, .int .u8 k] W (TrueBelow W) := by
  have HL := Lib.hid hlives; clear hlives
  by_cases hmin : n = -9223372036854775808
  · subst hmin
    go_enter Tryd.func10, Tryd.ntmps10
    go_wp2_with fail
    refine (HL.out _ (by go_grown)).mono ?_
    rintro e w2 ⟨rfl, hb⟩
    dsimp only
    go_wp2_with fail
    go_ret
    exact ⟨rfl, hb⟩
  have hu : n.natAbs ≤ 9223372036854775807 := by omega
  have hmin2 : (n == -9223372036854775808) = false := by rw [beq_eq_false_iff_ne]; exact hmin
  have HO := Lib.hid (ord_val n (by omega) h1 W hpow)
  obtain ⟨hS1, hS2⟩ := Wk.ord_len n hu
  have HSA := Lib.hid (ord_ascii n hu)
  have HN1 := Lib.hid (fun w => num_val (Wk.ordL n) HSA.out (by omega) w)
  rw [Wk.num_ord n hu] at HN1
  have HMORE := Lib.hid (fun m hm => Wk.num_more n hu m hm)
  generalize Wk.ordL n = S at *
  have hz := str_len S
  clear hmin hpow
  go_enter Tryd.func10, Tryd.ntmps10
  go_wp2_with fail
  refine HO.out.mono ?_
  rintro e w1 ⟨rfl, hB1⟩
  dsimp only
  go_wp2_with fail
  refine (HN1.out _).mono ?_
  rintro e w2 ⟨rfl, hb⟩
  have hB2 := below_step hB1 hb
  clear hb hB1 HN1 HO
  dsimp only
  go_wp2_with fail
  go_loopw [8, 9, 10] (fun a b c w' => LaR S W w2 a b c w') (fun _ _ c _ => S.length - (intOf c).toNat)
  case atStart => exact ⟨0, Nat.zero_le _, rfl, rfl, rfl, rfl⟩
  case round =>
    obtain ⟨i, hi, rfl, rfl, rfl, rfl⟩ := hrel
    by_cases hp : i < S.length
    · have hps : i < (ByteArray.mk S.toArray).size := by rw [hz]; exact hp
      have hat := at_str S i hp hps
      have htk : S.take (i + 1) = S.take i ++ [S[i]] := (List.take_append_getElem hp).symm
      have hr := rest2_snoc (S.take i) S[i] false 0
      rw [← htk] at hr
      have hle := rest2_le (S.take i) false 0
      rw [List.length_take] at hle
      have h46 := beq46 S[i]
      generalize (S[i] == 46) = q46 at hr h46
      rw [← hat] at h46
      obtain ⟨pt, q, hpq⟩ : ∃ pt q, Wk.rest2 (S.take i) false 0 = (pt, q) := ⟨_, _, rfl⟩
      rw [hpq] at hr hle ⊢
      have HR := Lib.hid hr
      dsimp only at hle
      clear hat htk hpq hr
      cases pt
      · dsimp only
        have c1 : (0 : Int) ≤ (i : Int) := by omega
        have c2 : (i : Int) < (S.length : Int) := by omega
        go_wp2_with fail
        exact ⟨⟨i + 1, by omega, rfl, by rw [HR.out]; simp [h46], by rw [HR.out]; rfl, rfl⟩, by simp [intOf]; omega⟩
      · dsimp only
        go_wp2_with fail
        exact ⟨⟨i + 1, by omega, rfl, by rw [HR.out]; rfl, by rw [HR.out]; rfl, rfl⟩, by simp [intOf]; omega⟩
    · obtain rfl : i = S.length := by omega
      rw [List.take_length]
      obtain ⟨pt, q, hpq⟩ : ∃ pt q, Wk.rest2 S false 0 = (pt, q) := ⟨_, _, rfl⟩
      rw [hpq] at HMORE ⊢
      dsimp only at HMORE ⊢
      clear hpq hp hi
      have hm8 : ∃ m : Nat, k.tmod 8 = (m : Int) ∧ m < 8 ∧ IntKind.u8.wrap (k.tmod 8) = m := by
        refine ⟨(k.tmod 8).toNat, ?_, ?_, ?_⟩
        · rw [Int.tmod_eq_emod_of_nonneg k0]; omega
        · rw [Int.tmod_eq_emod_of_nonneg k0]; omega
        · rw [Int.tmod_eq_emod_of_nonneg k0, IntKind.wrap_u8]; omega
      obtain ⟨m, hm1, hm2, hm3⟩ := hm8
      have hmk : k % 8 = (m : Int) := by rw [← Int.tmod_eq_emod_of_nonneg k0]; exact hm1
      obtain ⟨hq7, hNM⟩ := HMORE.out m hm2
      clear HMORE
      cases pt
      · rw [show (if false = true then S else S ++ [46]) = (S ++ [46]) from rfl] at hNM
        have hS2l : ((S ++ [46])).length ≤ 22 := by simp; omega
        have hS2a : ∀ c ∈ (S ++ [46]), c.toNat < 128 := by
          intro c hc
          rcases List.mem_append.1 hc with hc | hc
          · exact HSA.out c hc
          · simp at hc; subst hc; decide
        have HST := Lib.hid (str_app S [46])
        go_wp2_with fail
        rw [show (ByteArray.mk S.toArray) ++ ⟨#[46]⟩ = ⟨(S ++ [46]).toArray⟩ from HST.out]
        generalize hS2 : (S ++ [46]) = S2 at hNM hS2l hS2a ⊢
        clear HST HSA hS2
        go_loopw [5, 12] (fun a b w' => LbR S2 m wr a b w') (fun _ b _ => m - (intOf b).toNat)
        case atStart => exact ⟨0, Nat.zero_le _, rfl, by simp, rfl⟩
        case round =>
          obtain ⟨j, hj, rfl, rfl, rfl⟩ := hrel
          have hzj := str_len (S2 ++ List.replicate j 48)
          rw [List.length_append, List.length_replicate] at hzj
          by_cases hjm : j < m
          · have HAP := Lib.hid (dec_cat _ _ (S2 ++ List.replicate j 48) [48] rfl rfl)
            go_wp2_with fail
            exact ⟨⟨j + 1, by omega, rfl, (congrArg Value.string HAP.out).trans (by rw [List.append_assoc, List.replicate_succ']), rfl⟩, by simp [intOf]; omega⟩
          · obtain rfl : j = m := by omega
            have HN2 := Lib.hid (fun w => num_val (S2 ++ List.replicate j 48) (fun c hc => by
              rcases List.mem_append.1 hc with hc | hc
              · exact hS2a c hc
              · rw [List.eq_of_mem_replicate hc]; decide) (by simp; omega) w)
            rw [hNM] at HN2
            clear hNM hS2a hzj hjm hj
            by_cases hbad : 7 < q + j ∨ j = 0
            · rw [if_pos (by simp; omega)] at HN2
              have hway : 7 < q + j ∨ (q + j ≤ 7 ∧ j = 0) := by omega
              rcases hway with hway | ⟨hway, hj0⟩
              · go_wp2_with fail
                refine (HN2.out _).mono ?_
                rintro e w4 ⟨rfl, hb⟩
                have hB4 := below_step hB2 hb
                clear hb HN2
                dsimp only
                go_wp2_with fail
                refine (HL.out _ hB4).mono ?_
                rintro e w5 ⟨rfl, hb⟩
                have hB5 := below_step hB4 hb
                clear hb
                dsimp only
                go_wp2_with fail
                go_ret
                exact ⟨rfl, hB5⟩
              · have hj1 : ((j : Int) == 0) = true := by rw [beq_iff_eq]; omega
                clear hj0 hbad
                go_wp2_with fail
                refine (HN2.out _).mono ?_
                rintro e w4 ⟨rfl, hb⟩
                have hB4 := below_step hB2 hb
                clear hb HN2
                dsimp only
                go_wp2_with fail
                refine (HL.out _ hB4).mono ?_
                rintro e w5 ⟨rfl, hb⟩
                have hB5 := below_step hB4 hb
                clear hb
                dsimp only
                go_wp2_with fail
                go_ret
                exact ⟨rfl, hB5⟩
            · rw [if_neg (by simp; omega)] at HN2
              have hj1 : ((j : Int) == 0) = false := by rw [beq_eq_false_iff_ne]; omega
              go_wp2_with fail
              refine (HN2.out _).mono ?_
              rintro e w4 ⟨rfl, hb⟩
              have hB4 := below_step hB2 hb
              clear hb HN2
              dsimp only
              go_wp2_with fail
              refine (HL.out _ hB4).mono ?_
              rintro e w5 ⟨rfl, hb⟩
              have hB5 := below_step hB4 hb
              clear hb
              dsimp only
              go_wp2_with fail
              go_ret
              exact ⟨rfl, hB5⟩
      · rw [show (if true = true then S else S ++ [46]) = S from rfl] at hNM
        have hS2l : (S).length ≤ 22 := by omega
        have hS2a : ∀ c ∈ S, c.toNat < 128 := by
          exact HSA.out
        have HST := Lib.hid (str_app S [46])
        go_wp2_with fail

        generalize hS2 : S = S2 at hNM hS2l hS2a ⊢
        clear HST HSA 
        go_loopw [5, 12] (fun a b w' => LbR S2 m wr a b w') (fun _ b _ => m - (intOf b).toNat)
        case atStart => exact ⟨0, Nat.zero_le _, rfl, by simp, rfl⟩
        case round =>
          obtain ⟨j, hj, rfl, rfl, rfl⟩ := hrel
          have hzj := str_len (S2 ++ List.replicate j 48)
          rw [List.length_append, List.length_replicate] at hzj
          by_cases hjm : j < m
          · have HAP := Lib.hid (dec_cat _ _ (S2 ++ List.replicate j 48) [48] rfl rfl)
            go_wp2_with fail
            exact ⟨⟨j + 1, by omega, rfl, (congrArg Value.string HAP.out).trans (by rw [List.append_assoc, List.replicate_succ']), rfl⟩, by simp [intOf]; omega⟩
          · obtain rfl : j = m := by omega
            have HN2 := Lib.hid (fun w => num_val (S2 ++ List.replicate j 48) (fun c hc => by
              rcases List.mem_append.1 hc with hc | hc
              · exact hS2a c hc
              · rw [List.eq_of_mem_replicate hc]; decide) (by simp; omega) w)
            rw [hNM] at HN2
            clear hNM hS2a hzj hjm hj
            by_cases hbad : 7 < q + j
            · rw [if_pos (by simp; omega)] at HN2
              go_wp2_with fail
              refine (HN2.out _).mono ?_
              rintro e w4 ⟨rfl, hb⟩
              have hB4 := below_step hB2 hb
              clear hb HN2
              dsimp only
              go_wp2_with fail
              refine (HL.out _ hB4).mono ?_
              rintro e w5 ⟨rfl, hb⟩
              have hB5 := below_step hB4 hb
              clear hb
              dsimp only
              go_wp2_with fail
              go_ret
              exact ⟨rfl, hB5⟩
            · rw [if_neg (by simp; omega)] at HN2
              go_wp2_with fail
              refine (HN2.out _).mono ?_
              rintro e w4 ⟨rfl, hb⟩
              have hB4 := below_step hB2 hb
              clear hb HN2
              dsimp only
              go_wp2_with fail
              refine (HL.out _ hB4).mono ?_
              rintro e w5 ⟨rfl, hb⟩
              have hB5 := below_step hB4 hb
              clear hb
              dsimp only
              go_wp2_with fail
              go_ret
              exact ⟨rfl, hB5⟩
end Go.Proofs.YtcjidlgmbjebjaaDoor

namespace Go.Proofs.YtcjidlgmbjebjaaDoor.wk
open Go Go.ChangeShapes Go.WideShapes Go.RowKit Go.Joins
theorem c9 : Tryd.prog.cellsOf 9 = 1 := by kernel_rfl
theorem c3 : Tryd.prog.cellsOf 3 = 1 := by kernel_rfl
theorem c167 : Tryd.prog.cellsOf 167 = 2 := by kernel_rfl
theorem c168 : Tryd.prog.cellsOf 168 = 16 := by kernel_rfl
def formsL : List Value := [.string ⟨[].toArray⟩, .int .i64 (-1), .string ⟨[80, 79, 73, 78, 84].toArray⟩, .int .i64 (-1), .string ⟨[76, 73, 78, 69, 83, 84, 82, 73, 78, 71].toArray⟩, .int .i64 (-1), .string ⟨[80, 79, 76, 89, 71, 79, 78].toArray⟩, .int .i64 0, .string ⟨[77, 85, 76, 84, 73, 80, 79, 73, 78, 84].toArray⟩, .int .i64 1, .string ⟨[77, 85, 76, 84, 73, 76, 73, 78, 69, 83, 84, 82, 73, 78, 71].toArray⟩, .int .i64 2, .string ⟨[77, 85, 76, 84, 73, 80, 79, 76, 89, 71, 79, 78].toArray⟩, .int .i64 3, .string ⟨[71, 69, 79, 77, 69, 84, 82, 89, 67, 79, 76, 76, 69, 67, 84, 73, 79, 78].toArray⟩, .int .i64 (-2)]
def FormsL (w : World) : Prop := ∀ (j : Nat) (v : Value), formsL[j]? = some v → w.cell? ⟨1, j, none⟩ = some v
theorem formsL_stays {w w' : World} (h : FormsL w) (hb : Below w.heap.size w w') : FormsL w' := fun j v hv => cell_later hb (h j v hv)
section
variable {H : Type} {enc : TypeId × Value → H} {P : Program} {w : World} {base : Nat} {sp : Nat → Bool} {held : Bool} {fuel : Nat}
theorem form2_at {t e n : Nat} {f0 f1 : Field} {cs : List Value} {ds : List (DataW H)} {ps : List MemPlace} (ht : P.underlying t = some (.array n e)) (he : P.underlying e = some (.struct #[f0, f1])) (h0 : P.underlying f0.type = some .string) (h1t : P.underlying f1.type = some (.int .i64)) (ho : f0.offset = 0) (ho1 : f1.offset = 1) (hc0 : P.cellsOf f0.type = 1) (hc1 : P.cellsOf f1.type = 1)
    (hc : P.cellsOf e = 2) (hC : P.cellsOf t = n * 2) (h : DataW.trod enc P w base sp held fuel t cs = some (.agg ds, ps)) (i : Nat) (z : List UInt8) (k : Int) (hd : ds[i]? = some (.agg [.lit (.string z), .lit (.int .i64 k)])) : cs[i * 2]? = some (.string ⟨z.toArray⟩) ∧ cs[i * 2 + 1]? = some (.int .i64 k) := by
  obtain ⟨xs, m, rfl, hx, hl, hn, hi⟩ := DataW.trod_array ht h
  simp only [Prod.mk.injEq, DataW.agg.injEq] at hx
  obtain ⟨rfl, _⟩ := hx
  rw [List.getElem?_map] at hd
  obtain ⟨y, hy, hy2⟩ := Option.map_eq_some_iff.1 hd
  have hin : i < n := by have := (List.getElem?_eq_some_iff.1 hy).1; omega
  have h1 := hi i hin
  rw [hc, hy] at h1
  obtain ⟨y0, y1, kk, rfl, _, g0, g1⟩ := trod_struct2 he h1
  rw [ho, hc0, List.drop_zero] at g0
  rw [ho1, hc1] at g1
  have hci : i * 2 < cs.length := by omega
  have hci1 : i * 2 + 1 < cs.length := by omega
  have h2 : ((cs.drop (i * 2)).take 2).take 1 = [cs[i * 2]] := by rw [List.drop_eq_getElem_cons hci, List.take_succ_cons, List.take_succ_cons, List.take_zero]
  have h3 : (((cs.drop (i * 2)).take 2).drop 1).take 1 = [cs[i * 2 + 1]] := by
    rw [List.drop_eq_getElem_cons hci, List.take_succ_cons, List.drop_succ_cons, List.drop_zero, List.drop_eq_getElem_cons hci1, List.take_succ_cons, List.take_zero, List.take_succ_cons, List.take_nil]
  rw [h2] at g0
  rw [h3] at g1
  obtain ⟨s, hs, hy3, _⟩ := DataW.trod_string h0 g0
  obtain ⟨q, hq, hy4, _⟩ := DataW.trod_int h1t g1
  simp only [List.cons.injEq, and_true] at hs hq
  rw [List.getElem?_eq_getElem hci, List.getElem?_eq_getElem hci1, hs, hq]
  rw [hy3, hy4] at hy2
  simp only [DataW.agg.injEq, List.cons.injEq, DataW.lit.injEq, Lit.string.injEq, Lit.int.injEq, and_true, true_and] at hy2
  rw [← hy2.1, hy2.2]
  exact ⟨rfl, rfl⟩
end
abbrev laidL : List (String × DataW Unit) := [("math/bits.deBruijn32tab", Rows.laid_math_bits_deBruijn32tab), ("math/bits.deBruijn64tab", Rows.laid_math_bits_deBruijn64tab), ("internal/strconv.uint64pow10", Rows.laid_internal_strconv_uint64pow10), ("unicode/utf8.acceptRanges", Rows.laid_unicode_utf8_acceptRanges), ("hachure/shape.forms", Rows.laid_hachure_shape_forms), ("unicode/utf8.first", Rows.laid_unicode_utf8_first)]
theorem tabP : Tryd.prog.globalNamed "internal/strconv.uint64pow10" = some 4 := by kernel_rfl
theorem tabPType : (Tryd.prog.globals[4]?).map (·.type) = some 266 := by kernel_rfl
theorem tabF : Tryd.prog.globalNamed "hachure/shape.forms" = some 1 := by kernel_rfl
theorem tabFType : (Tryd.prog.globals[1]?).map (·.type) = some 168 := by kernel_rfl
theorem pow_is {W : World} (h : laidMet Tryd.prog laidL W) : PowIs W := by
  obtain ⟨ps, ⟨g, t, cs, fuel, p, q, hg, ht, hvar, hd, _⟩, _⟩ := h.tail.tail
  obtain rfl := Option.some.inj (tabP.symm.trans hg)
  obtain rfl := Option.some.inj (tabPType.symm.trans ht)
  unfold PowIs Lib.TabIs
  rw [hvar, ← Lib.cells_of_tab (k := .u64) (zs := Lib.pow10Tab) Tryd.underlying266 (by kernel_rfl) (by kernel_rfl) (by kernel_rfl) hd]
theorem forms_is {W : World} (h : laidMet Tryd.prog laidL W) : FormsL W := by
  obtain ⟨ps, ⟨g, t, cs, fuel, p, q, hg, ht, hvar, hd, _⟩, _⟩ := h.tail.tail.tail.tail
  obtain rfl := Option.some.inj (tabF.symm.trans hg)
  obtain rfl := Option.some.inj (tabFType.symm.trans ht)
  have hc := fun i => World.var?_cell tabF hvar i
  have hf := fun i z k h => form2_at (P := Tryd.prog) (i := i) (z := z) (k := k) Tryd.underlying168 Tryd.underlying167 Tryd.underlying9 Tryd.underlying3 rfl rfl c9 c3 c167 c168 hd h
  have h0 := fun i z k h => (hc (i * 2)).trans ((Array.getElem?_toList).symm.trans (hf i z k h).1)
  have h1 := fun i z k h => (hc (i * 2 + 1)).trans ((Array.getElem?_toList).symm.trans (hf i z k h).2)
  intro j v hv
  match j, hv with
  | 0, hv => have := h0 0 _ _ rfl; simp [formsL] at hv; subst hv; exact this
  | 1, hv => have := h1 0 _ _ rfl; simp [formsL] at hv; subst hv; exact this
  | 2, hv => have := h0 1 _ _ rfl; simp [formsL] at hv; subst hv; exact this
  | 3, hv => have := h1 1 _ _ rfl; simp [formsL] at hv; subst hv; exact this
  | 4, hv => have := h0 2 _ _ rfl; simp [formsL] at hv; subst hv; exact this
  | 5, hv => have := h1 2 _ _ rfl; simp [formsL] at hv; subst hv; exact this
  | 6, hv => have := h0 3 _ _ rfl; simp [formsL] at hv; subst hv; exact this
  | 7, hv => have := h1 3 _ _ rfl; simp [formsL] at hv; subst hv; exact this
  | 8, hv => have := h0 4 _ _ rfl; simp [formsL] at hv; subst hv; exact this
  | 9, hv => have := h1 4 _ _ rfl; simp [formsL] at hv; subst hv; exact this
  | 10, hv => have := h0 5 _ _ rfl; simp [formsL] at hv; subst hv; exact this
  | 11, hv => have := h1 5 _ _ rfl; simp [formsL] at hv; subst hv; exact this
  | 12, hv => have := h0 6 _ _ rfl; simp [formsL] at hv; subst hv; exact this
  | 13, hv => have := h1 6 _ _ rfl; simp [formsL] at hv; subst hv; exact this
  | 14, hv => have := h0 7 _ _ rfl; simp [formsL] at hv; subst hv; exact this
  | 15, hv => have := h1 7 _ _ rfl; simp [formsL] at hv; subst hv; exact this
  | j + 16, hv => simp [formsL] at hv
theorem wf64 {n : Int} (h : (Lit.int .i64 n).wf = true) : -9223372036854775808 ≤ n ∧ n ≤ 9223372036854775807 := by
  simp only [Lit.wf, Bool.and_eq_true, decide_eq_true_eq] at h
  obtain ⟨h1, h2⟩ := h
  have e1 : IntKind.i64.min = -9223372036854775808 := by decide
  have e2 : IntKind.i64.max = 9223372036854775807 := by decide
  omega
theorem wf8 {n : Int} (h : (Lit.int .u8 n).wf = true) : 0 ≤ n ∧ n < 256 := by
  simp only [Lit.wf, Bool.and_eq_true, decide_eq_true_eq] at h
  obtain ⟨h1, h2⟩ := h
  have e1 : IntKind.u8.min = 0 := by decide
  have e2 : IntKind.u8.max = 255 := by decide
  omega
section
variable {H : Type} {enc : TypeId × Value → H} {W : World} {b0 : Nat} {sp : Nat → Bool} {held : Bool}
theorem open_int {r : Reach} {v : Value} {d : DataW H} {p : List MemPlace} (hv : Value.okWide Tryd.prog W r b0 3 v) (h : DataW.Trod enc Tryd.prog W 0 sp held 3 v d p) : ∃ n : Int, v = .int .i64 n ∧ -9223372036854775808 ≤ n ∧ n ≤ 9223372036854775807 := by
  obtain ⟨n, rfl⟩ := okWide_int Tryd.underlying3 hv
  obtain ⟨fuel, hf⟩ := h
  obtain ⟨m, e, _, hw⟩ := DataW.trod_int Tryd.underlying3 hf
  simp [Value.cells] at e
  subst e
  exact ⟨n, rfl, wf64 hw⟩
theorem open_u8 {r : Reach} {v : Value} {d : DataW H} {p : List MemPlace} (hv : Value.okWide Tryd.prog W r b0 5 v) (h : DataW.Trod enc Tryd.prog W 0 sp held 5 v d p) : ∃ n : Int, v = .int .u8 n ∧ 0 ≤ n ∧ n < 256 := by
  obtain ⟨n, rfl⟩ := okWide_int Tryd.underlying5 hv
  obtain ⟨fuel, hf⟩ := h
  obtain ⟨m, e, _, hw⟩ := DataW.trod_int Tryd.underlying5 hf
  simp [Value.cells] at e
  subst e
  exact ⟨n, rfl, wf8 hw⟩
end
end Go.Proofs.YtcjidlgmbjebjaaDoor.wk

set_option maxRecDepth 1000000
namespace Go.Proofs.YtcjidlgmbjebjaaDoor.Ev.Tryd
open Go Go.Proofs.YtcjidlgmbjebjaaDoor.Ev Go.Proofs.Tryd Go.RowKit
def strV (b : List UInt8) : V := .str b.length (packBytes b)
def outB (x : Option Out) : Nat :=
  match x with
  | some (.call (.bool true) _) => 1
  | some (.call (.bool false) _) => 2
  | some (.call _ _) => 3
  | some (.code _ _ _) => 4
  | none => 0
theorem outB_one {x : Option Out} (h : outB x = 1) : ∃ H', x = some (.call (.bool true) H') := by
  unfold outB at h
  split at h <;> first | exact ⟨_, rfl⟩ | (exact absurd h (by decide))
def formsV : List V := [strV [], .int .i64 (-1), strV [80, 79, 73, 78, 84], .int .i64 (-1), strV [76, 73, 78, 69, 83, 84, 82, 73, 78, 71], .int .i64 (-1), strV [80, 79, 76, 89, 71, 79, 78], .int .i64 0, strV [77, 85, 76, 84, 73, 80, 79, 73, 78, 84], .int .i64 1, strV [77, 85, 76, 84, 73, 76, 73, 78, 69, 83, 84, 82, 73, 78, 71], .int .i64 2, strV [77, 85, 76, 84, 73, 80, 79, 76, 89, 71, 79, 78], .int .i64 3, strV [71, 69, 79, 77, 69, 84, 82, 89, 67, 79, 76, 76, 69, 67, 84, 73, 79, 78], .int .i64 (-2)]
def g1 : Glob := ⟨167, 2, .vals formsV⟩
def H0 : Heap := { objs := .n (.n .e (some (objOf g1)) .e) none .e, next := 10 }
def ps : List Pu := [⟨48, [strV [49, 46, 53]], .tuple [.int .i64 15000000, .bool true]⟩, ⟨48, [strV [45, 50]], .tuple [.int .i64 (-20000000), .bool true]⟩]
theorem runLives : outB (evalP ps (E fun _ => none) 100000 (.call 46 [] false) H0) = 1 := by kernel_rfl
theorem vr_str {φ : Pm} {l : List UInt8} {v' : Value} (h : VR φ (strV l) v') : v' = .string ⟨l.toArray⟩ := by
  obtain ⟨s, rfl, h1, h2⟩ := h.str_inv
  have := packBytes_inj h1 h2
  obtain ⟨⟨x⟩⟩ := s
  have : l = x := this
  rw [this]
theorem vrs_one {φ : Pm} {l : List UInt8} {args : Array Value} (h : VRs φ [strV l] args.toList) : args = #[.string ⟨l.toArray⟩] := by
  obtain ⟨a⟩ := args
  match a, h with
  | [v], .cons h1 .nil => rw [vr_str h1]
theorem ps_ok : PuOk (E fun _ => none) prog ps := by
  have num := fun (l : List UInt8) (n : Int) (ha : ∀ c ∈ l, c.toNat < 128) (hl : l.length ≤ 1000) (hn : Wk.numL l = (n, true)) (H : Heap) =>
    callOk_of_calls (E := E fun _ => none) (P := prog) (f := 48) (args := [strV l]) (v := .tuple [.int .i64 n, .bool true]) (fun φ W args' h => by
      rw [vrs_one h]
      refine (Go.Proofs.YtcjidlgmbjebjaaDoor.num_val l ha hl W).mono ?_
      rintro e w' ⟨rfl, hb⟩
      rw [hn]
      exact ⟨_, rfl, .tuple (.cons (.int _ _) (.cons (.bool _) .nil)), hb⟩) H
  intro e he H
  simp only [ps, List.mem_cons, List.mem_nil_iff, or_false] at he
  rcases he with rfl | rfl
  · exact num _ _ (by decide) (by decide) (by decide +kernel) H
  · exact num _ _ (by decide) (by decide) (by decide +kernel) H
theorem glob_ok {w : World} (h : Go.Proofs.YtcjidlgmbjebjaaDoor.wk.FormsL w) : GlobOk (E fun _ => none) w 1 g1 := by
  have h0 := h 0 _ rfl
  have hs : ∀ l : List UInt8, VR (fun _ => none) (strV l) (.string ⟨l.toArray⟩) := fun l => VR.str ⟨l.toArray⟩
  refine ⟨by kernel_rfl, World.block_lt_of_cell? w ⟨1, 0, none⟩ h0, Go.Proofs.YtcjidlgmbjebjaaDoor.wk.formsL, ?_, ?_, fun i v hv => h i v hv⟩
  · exact .cons (hs _) (.cons (.int _ _) (.cons (hs _) (.cons (.int _ _) (.cons (hs _) (.cons (.int _ _) (.cons (hs _) (.cons (.int _ _) (.cons (hs _) (.cons (.int _ _) (.cons (hs _) (.cons (.int _ _) (.cons (hs _) (.cons (.int _ _) (.cons (hs _) (.cons (.int _ _) .nil)))))))))))))))
  · intro v hv
    simp only [Go.Proofs.YtcjidlgmbjebjaaDoor.wk.formsL, List.mem_cons, List.mem_nil_iff, or_false] at hv
    rcases hv with rfl | rfl | rfl | rfl | rfl | rfl | rfl | rfl | rfl | rfl | rfl | rfl | rfl | rfl | rfl | rfl <;> rfl
def gsF (g : Nat) : Option Glob := if g = 1 then some g1 else none
theorem begin_ok (w' : World) (hg : GlobOk (E fun _ => none) w' 1 g1) : St (E fun _ => none) (phi0 gsF 10 fun _ => none) H0 w' ∧ ∀ b, ¬ Wr (phi0 gsF 10 fun _ => none) H0.look b :=
  St.begin (E := E fun _ => none) (W := w') (gs := gsF) (n := 10) (base := fun _ => none) (H := H0) (by decide) (fun _ _ h => by cases h)
    (fun r o ho => by
      have ho : (T.n (T.n T.e (some (objOf g1)) T.e) none T.e).get r = some o := ho
      rw [T.get_n] at ho
      by_cases hr : r = 0
      · subst hr; rw [if_pos rfl] at ho; cases ho
      · rw [if_neg hr] at ho
        split at ho
        · rw [T.get_n] at ho
          by_cases h0 : r / 2 = 0
          · rw [if_pos h0] at ho
            have hr1 : r = 1 := by omega
            subst hr1
            exact ⟨g1, rfl, (Option.some.inj ho).symm, by omega⟩
          · rw [if_neg h0, T.get_e, T.get_e] at ho
            split at ho <;> cases ho
        · rw [T.get_e] at ho; cases ho)
    (fun g x hx hgl => by
      by_cases h0 : g = 1
      · subst h0
        have hx := Option.some.inj hx; subst hx
        exact hg
      · simp [gsF, h0] at hx)
theorem lives17 (w' : World) (hg : Go.Proofs.YtcjidlgmbjebjaaDoor.wk.FormsL w') : Calls prog 46 #[] w' (Go.Proofs.YtcjidlgmbjebjaaDoor.TrueBelow w') := by
  obtain ⟨H', hrun⟩ := outB_one runLives
  obtain ⟨hs, hro⟩ := begin_ok w' (glob_ok hg)
  exact (calls_of_runP (E_ok _) ps_ok hrun hs (GR.begin (E := E fun _ => none) (fun _ _ h => by cases h)) .nil hro).mono
    fun e W' ⟨φ', v', he, hvr, hb⟩ => ⟨by rw [he, hvr.bool_inv], hb⟩
end Go.Proofs.YtcjidlgmbjebjaaDoor.Ev.Tryd

namespace Go.Proofs.YtcjidlgmbjebjaaDoor.wktNumbers
open Go
theorem and2 {a b : Bool} (ha : a = true) (hb : b = true) : (a && b) = true := by rw [ha, hb]; rfl
set_option maxHeartbeats 4000000 in
theorem joined : joinedFacts Tryd.pinned.checked.prog 10 Tryd.f10 Rows.wktNumbersSpec Rows.wktNumbersRow = true := by
  unfold joinedFacts
  repeat' refine and2 ?_ ?_
  all_goals (as_aux_lemma => kernel_rfl)
end Go.Proofs.YtcjidlgmbjebjaaDoor.wktNumbers
