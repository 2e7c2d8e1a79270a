/- A part of the proof of ValueReads. -/
import Derived.Test.YtcjidlgmbjebjaaGreatDoorVrj
import Derived.Test.YtcjidlgmbjebjaaGreatDoorVrm
import Derived.Test.YtcjidlgmbjebjaaGreatDoorVrc
import Derived.Test.YtcjidlgmbjebjaaGreatDoorVro
import Derived.Lib.SliceRun
set_option linter.unusedVariables false
set_option linter.unusedSimpArgs false
set_option maxRecDepth 100000
namespace Go.Proofs.YtcjidlgmbjebjaaGreatDoor
open Go Go.RowKit Go.Proofs.YtcjidlgmbjebjaaGreatDoorW.PrintWords
theorem szs1 (x : Int) : shr .u64 x 7 = x / 128 := by unfold shr; rfl
theorem szs2 (x : Int) : shr .u64 x 14 = x / 16384 := by unfold shr; rfl
theorem szs3 (x : Int) : shr .u64 x 21 = x / 2097152 := by unfold shr; rfl
theorem szs4 (x : Int) : shr .u64 x 28 = x / 268435456 := by unfold shr; rfl
theorem szs5 (x : Int) : shr .u64 x 35 = x / 34359738368 := by unfold shr; rfl
theorem szs6 (x : Int) : shr .u64 x 42 = x / 4398046511104 := by unfold shr; rfl
theorem szs7 (x : Int) : shr .u64 x 49 = x / 562949953421312 := by unfold shr; rfl
theorem szs8 (x : Int) : shr .u64 x 56 = x / 72057594037927936 := by unfold shr; rfl
theorem zw1 : wrap64 (7 * 1) = 7 := by kernel_rfl
theorem zw2 : wrap64 (7 * 2) = 14 := by kernel_rfl
theorem zw3 : wrap64 (7 * 3) = 21 := by kernel_rfl
theorem zw4 : wrap64 (7 * 4) = 28 := by kernel_rfl
theorem zw5 : wrap64 (7 * 5) = 35 := by kernel_rfl
theorem zw6 : wrap64 (7 * 6) = 42 := by kernel_rfl
theorem zw7 : wrap64 (7 * 7) = 49 := by kernel_rfl
theorem zw8 : wrap64 (7 * 8) = 56 := by kernel_rfl
theorem zi1 : wrap64 (1 + 1) = 2 := by kernel_rfl
theorem zi2 : wrap64 (2 + 1) = 3 := by kernel_rfl
theorem zi3 : wrap64 (3 + 1) = 4 := by kernel_rfl
theorem zi4 : wrap64 (4 + 1) = 5 := by kernel_rfl
theorem zi5 : wrap64 (5 + 1) = 6 := by kernel_rfl
theorem zi6 : wrap64 (6 + 1) = 7 := by kernel_rfl
theorem zi7 : wrap64 (7 + 1) = 8 := by kernel_rfl
theorem zi8 : wrap64 (8 + 1) = 9 := by kernel_rfl
theorem size_all (n : Int) (h0 : 0 ≤ n) : PValueForms.octet_Size.f 9 n = some (Sb.sizeV n : Int) := by
  unfold PValueForms.octet_Size.f Sb.sizeV
  rw [PValueForms.octet_Size.l0, if_pos (by decide), zw1, if_pos (by decide), szs1]
  by_cases h1 : n < 128
  · rw [if_pos (by omega), if_pos h1]; rfl
  rw [if_neg (by omega), if_neg h1, zi1, PValueForms.octet_Size.l0, if_pos (by decide), zw2, if_pos (by decide), szs2]
  by_cases h2 : n < 16384
  · rw [if_pos (by omega), if_pos h2]; rfl
  rw [if_neg (by omega), if_neg h2, zi2, PValueForms.octet_Size.l0, if_pos (by decide), zw3, if_pos (by decide), szs3]
  by_cases h3 : n < 2097152
  · rw [if_pos (by omega), if_pos h3]; rfl
  rw [if_neg (by omega), if_neg h3, zi3, PValueForms.octet_Size.l0, if_pos (by decide), zw4, if_pos (by decide), szs4]
  by_cases h4 : n < 268435456
  · rw [if_pos (by omega), if_pos h4]; rfl
  rw [if_neg (by omega), if_neg h4, zi4, PValueForms.octet_Size.l0, if_pos (by decide), zw5, if_pos (by decide), szs5]
  by_cases h5 : n < 34359738368
  · rw [if_pos (by omega), if_pos h5]; rfl
  rw [if_neg (by omega), if_neg h5, zi5, PValueForms.octet_Size.l0, if_pos (by decide), zw6, if_pos (by decide), szs6]
  by_cases h6 : n < 4398046511104
  · rw [if_pos (by omega), if_pos h6]; rfl
  rw [if_neg (by omega), if_neg h6, zi6, PValueForms.octet_Size.l0, if_pos (by decide), zw7, if_pos (by decide), szs7]
  by_cases h7 : n < 562949953421312
  · rw [if_pos (by omega), if_pos h7]; rfl
  rw [if_neg (by omega), if_neg h7, zi7, PValueForms.octet_Size.l0, if_pos (by decide), zw8, if_pos (by decide), szs8]
  by_cases h8 : n < 72057594037927936
  · rw [if_pos (by omega), if_pos h8]; rfl
  rw [if_neg (by omega), if_neg h8, zi8, PValueForms.octet_Size.l0, if_neg (by decide)]; rfl
theorem size_val (n : Int) (h0 : 0 ≤ n) (w : World) : Calls Tryz.prog 144 #[.int .u64 n] w (RetS (.int .i64 (Sb.sizeV n : Nat)) w) :=
  (PValueForms.octet_Size.calls 9 n _ w (size_all n h0)).mono fun e w' h => ⟨h.1, by first | exact h.2 | exact drawn_below h.2⟩
theorem or128j (a b : Int) (h0 : 0 ≤ a) (h1 : a < 562949953421312) (h2 : 0 ≤ b) (h3 : b < 128) : bits .or .u64 (IntKind.u64.wrap (a * 128)) (IntKind.u64.wrap b) = a * 128 + b := by
  rw [wrapU64' (a * 128) (by omega) (by omega), wrapU64' b h2 (by omega)]
  exact bits_join .u64 64 (by decide) wrapU64' 7 (a * 128) b (by omega) (by omega) (by omega) h2 (by omega) (by omega)
theorem tk_bound {i : Nat} {n c : Int} (hi : i < 8) (h0 : 0 ≤ n) (h1 : n < 128 ^ i) : 0 ≤ n * 128 + c % 128 ∧ n * 128 + c % 128 < 128 ^ (i + 1) ∧ n < 562949953421312 := by
  have hp : (128 : Int) ^ (i + 1) = 128 ^ i * 128 := by rw [Int.pow_succ]
  have hb : (128 : Int) ^ i ≤ 562949953421312 := by
    match i, hi with
    | 0, _ => decide
    | 1, _ => decide
    | 2, _ => decide
    | 3, _ => decide
    | 4, _ => decide
    | 5, _ => decide
    | 6, _ => decide
    | 7, _ => decide
  rw [hp]
  generalize (128 : Int) ^ i = q at h1 hb
  omega
theorem kC_below_cell {w w' : World} {p : Addr} {v : Value} (hb : Below w.heap.size w w') (h : w.cell? p = some v) : w'.cell? p = some v := by
  have hl := World.block_lt_of_cell? w p h
  rw [hb.cell hl]; exact h
def TkR (l : List Int) (m : Nat) (w : World) (a i : Value) (w' : World) : Prop :=
  ∃ (n : Int) (j : Nat), a = .int .u64 n ∧ i = .int .i64 j ∧ j ≤ m ∧ j ≤ 8 ∧ 0 ≤ n ∧ n < 128 ^ j ∧ Sb.tk j n (l.drop j) = Sb.takeV l ∧ Below w.heap.size w w'
theorem tk_step {i : Nat} {n c : Int} {r : List Int} : Sb.tk i n (c :: r) = if i = 8 ∨ c < 128 then (if Sb.sizeV (Sb.tkN i n c) = i + 1 then (Sb.tkN i n c, i + 1) else (0, 0)) else Sb.tk (i + 1) (Sb.tkN i n c) r := by rw [Sb.tk]
set_option maxHeartbeats 1000000 in
theorem take_val (A : Option Addr) (c : Nat) (l : List Int) (W : World) (h : SlB W (.slice A l.length c) l) (hb : Byt l) : Calls Tryz.prog 159 #[.slice A l.length c] W (RetS (.tuple #[.int .u64 (Sb.takeV l).1, .int .i64 ((Sb.takeV l).2 : Nat)]) W) := by
  obtain ⟨A', c', e, hc, hC⟩ := h
  injection e with e1 e2 e3
  subst e1 e3
  have HC := Lib.hid hC
  have HB := Lib.hid hb
  clear hC hb
  have hm : ∃ m : Nat, m = min l.length 9 ∧ m ≤ l.length ∧ m ≤ 9 ∧ (m < 9 → m = l.length) := ⟨min l.length 9, rfl, by omega, by omega, by omega⟩
  obtain ⟨m, hm0, hm1, hm2, hm3⟩ := hm
  have e1 : min ((l.length : Nat) : Int) 9 = (m : Int) := by omega
  have e2 : max (m : Int) 0 = (m : Int) := by omega
  have e3 : ((m : Int)).toNat = m := Int.toNat_natCast m
  clear hm0
  go_enter Tryz.func159, Tryz.ntmps159
  go_wp2_with fail
  try simp only [e1, e2, e3]
  clear e1 e2 e3
  go_loopw [4, 13] (fun a i w' => TkR l m W a i w') (fun _ i _ => m - (intOf i).toNat)
  case atStart => exact ⟨0, 0, rfl, rfl, by omega, by omega, by omega, by decide, by rw [List.drop_zero]; rfl, Below.refl _ _⟩
  case round =>
    obtain ⟨n, j, rfl, rfl, hj, hj8, hn0, hn1, htk, hBr⟩ := hrel
    by_cases hp : j < m
    · obtain ⟨ad, rfl, hcell⟩ := kC_at HC.out (by omega)
      have hlt : j < l.length := by omega
      have hx := kC_below_cell hBr (hcell j l[j] (List.getElem?_eq_getElem hlt))
      have hdr : l.drop j = l[j] :: l.drop (j + 1) := List.drop_eq_getElem_cons hlt
      have hcb := HB.out l[j] (List.getElem_mem hlt)
      rw [hdr, tk_step] at htk
      generalize l[j] = x at hx hcb htk
      have hji : (0 : Int) ≤ (j : Int) := by omega
      have hjm : (j : Int) < (m : Int) := by omega
      by_cases h8 : j = 8
      · have hor := or256 n x hn0 (by
          have h9 : (128 : Int) ^ 8 = 72057594037927936 := by decide
          rw [h8, h9] at hn1
          exact hn1) hcb.1 hcb.2
        rw [wrapU64' x hcb.1 (by omega)] at hor
        rw [if_pos (.inl h8)] at htk
        have hN : Sb.tkN j n x = n * 256 + x := by unfold Sb.tkN; rw [if_pos h8]
        have hj8' : ((j : Int) == 8) = true := by rw [beq_iff_eq]; omega
        have hwj : wrap64 ((j : Int) + 1) = ((j + 1 : Nat) : Int) := by unfold wrap64; omega
        rw [hN] at htk
        generalize hNN : n * 256 + x = N at hor htk
        have hN0 : 0 ≤ N := by omega
        clear hNN hN
        have HSZ := Lib.hid (fun w => size_val N hN0 w)
        by_cases hs : Sb.sizeV N = j + 1
        · rw [if_pos hs] at htk
          rw [hs] at HSZ
          have HF := Lib.hid htk
          clear htk hs h8
          go_wp2_with fail
          (with_reducible refine Calls.mono (HSZ.out _) ?_)
          rintro _ w1 ⟨rfl, hb1⟩
          have hB1 := below_step hBr hb1
          clear hb1
          dsimp only
          go_wp2_with fail
          go_ret2
          exact ⟨by rw [← HF.out]; rfl, hB1⟩
        · rw [if_neg hs] at htk
          have HF := Lib.hid htk
          have hne : (((Sb.sizeV N : Nat) : Int) != ((j + 1 : Nat) : Int)) = true := by rw [bne_iff_ne]; omega
          clear htk hs h8
          go_wp2_with fail
          (with_reducible refine Calls.mono (HSZ.out _) ?_)
          rintro _ w1 ⟨rfl, hb1⟩
          have hB1 := below_step hBr hb1
          clear hb1
          dsimp only
          go_wp2_with fail
          go_ret2
          exact ⟨by rw [← HF.out]; rfl, hB1⟩
      · obtain ⟨q0, q1, q2⟩ := tk_bound (c := x) (show j < 8 by omega) hn0 hn1
        have hor := or128j n (x % 128) hn0 q2 (by omega) (by omega)
        rw [wrapU64' (x % 128) (by omega) (by omega)] at hor
        have han := andNot128 x hcb.1 hcb.2
        have hN : Sb.tkN j n x = n * 128 + x % 128 := by unfold Sb.tkN; rw [if_neg h8]
        rw [hN] at htk
        have hj8' : ((j : Int) == 8) = false := by rw [beq_eq_false_iff_ne]; omega
        have hwj : wrap64 ((j : Int) + 1) = ((j + 1 : Nat) : Int) := by unfold wrap64; omega
        generalize n * 128 + x % 128 = N at hor htk q0 q1
        have HSZ := Lib.hid (fun w => size_val N q0 w)
        have Q1 := Lib.hid q1
        clear hN q1 hn1 q2
        by_cases hx128 : x < 128
        · rw [if_pos (.inr hx128)] at htk
          by_cases hs : Sb.sizeV N = j + 1
          · rw [if_pos hs] at htk
            rw [hs] at HSZ
            have HF := Lib.hid htk
            clear htk hs
            go_wp2_with fail
            (with_reducible refine Calls.mono (HSZ.out _) ?_)
            rintro _ w1 ⟨rfl, hb1⟩
            have hB1 := below_step hBr hb1
            clear hb1
            dsimp only
            go_wp2_with fail
            go_ret2
            exact ⟨by rw [← HF.out]; rfl, hB1⟩
          · rw [if_neg hs] at htk
            have HF := Lib.hid htk
            have hne : (((Sb.sizeV N : Nat) : Int) != ((j + 1 : Nat) : Int)) = true := by rw [bne_iff_ne]; omega
            clear htk hs
            go_wp2_with fail
            (with_reducible refine Calls.mono (HSZ.out _) ?_)
            rintro _ w1 ⟨rfl, hb1⟩
            have hB1 := below_step hBr hb1
            clear hb1
            dsimp only
            go_wp2_with fail
            go_ret2
            exact ⟨by rw [← HF.out]; rfl, hB1⟩
        · rw [if_neg (by omega)] at htk
          have HREL := Lib.hid (show TkR l m W (.int .u64 N) (.int .i64 ((j + 1 : Nat) : Int)) wr from ⟨N, j + 1, rfl, rfl, by omega, by omega, q0, Q1.out, htk, hBr⟩)
          clear htk
          go_wp2_with fail
          exact ⟨HREL.out, by simp [intOf]; omega⟩
    · obtain rfl : j = m := by omega
      have hend : Sb.takeV l = (0, 0) := by
        have : l.drop j = [] := List.drop_eq_nil_of_le (by
          by_cases h : j < 9
          · have := hm3 h; omega
          · omega)
        rw [this] at htk
        rw [← htk]; rfl
      have HF := Lib.hid hend
      clear htk
      go_wp2_with fail
      go_ret2
      exact ⟨by rw [HF.out]; rfl, hBr⟩
end Go.Proofs.YtcjidlgmbjebjaaGreatDoor

namespace Go.Proofs.YtcjidlgmbjebjaaGreatDoor
open Go Go.RowKit Go.Proofs.YtcjidlgmbjebjaaGreatDoorW.PrintWords
theorem more_val (x : Int) (w : World) : Calls Tryz.prog 207 #[.int .u8 x] w (RetS (.bool (decide (x < 128))) w) := by
  go_enter Tryz.func207, Tryz.ntmps207
  go_wp2_with fail
  go_ret
  exact ⟨rfl, Below.refl _ _⟩
def RetIx (l : List Int) (W : World) (e : Ending) (w' : World) : Prop := (∃ i : Int, e = .returned (.int .i64 i) ∧ (0 ≤ i ↔ ∃ x ∈ l, x < 128) ∧ (0 ≤ i ∨ i = -1)) ∧ Below W.heap.size W w'
def FxR (l : List Int) (W : World) (i : Value) (w' : World) : Prop := ∃ j : Nat, j ≤ l.length ∧ i = .int .i64 j ∧ (∀ x ∈ l.take j, 128 ≤ x) ∧ Below W.heap.size W w'
set_option maxHeartbeats 1000000 in
theorem index_val (A : Option Addr) (c : Nat) (l : List Int) (W : World) (h : SlB W (.slice A l.length c) l) : Calls Tryz.prog 237 #[.slice A l.length c, .func (.func 207) #[] #[]] W (RetIx l W) := by
  obtain ⟨A', c', e, hc, hC⟩ := h
  injection e with e1 e2 e3
  subst e1 e3
  have HC := Lib.hid hC
  clear hC
  go_enter Tryz.func237, Tryz.ntmps237
  go_wp2_with fail
  go_loopw [8] (fun i w' => FxR l W i w') (fun i _ => l.length - (intOf i).toNat)
  case atStart => exact ⟨0, by omega, rfl, fun x hx => by simp at hx, Below.refl _ _⟩
  case round =>
    obtain ⟨j, hj, rfl, hall, hBr⟩ := hrel
    by_cases hp : j < l.length
    · obtain ⟨ad, rfl, hcell⟩ := kC_at HC.out (by omega)
      have hx := kC_below_cell hBr (hcell j l[j] (List.getElem?_eq_getElem hp))
      have hmem := List.getElem_mem hp
      have hsn : l.take (j + 1) = l.take j ++ [l[j]] := List.take_succ_eq_append_getElem hp
      generalize l[j] = x at hx hmem hsn
      have HM := Lib.hid (more_val x wr)
      by_cases hx128 : x < 128
      · rw [decide_eq_true hx128] at HM
        have HF := Lib.hid (show ∃ x ∈ l, x < 128 from ⟨x, hmem, hx128⟩)
        clear hall hsn hmem hcell
        go_wp2_with fail
        (with_reducible refine Calls.mono HM.out ?_)
        rintro _ w1 ⟨rfl, hb1⟩
        have hB1 := below_step hBr hb1
        clear hb1
        dsimp only
        go_wp2_with fail
        go_ret
        exact ⟨⟨(j : Int), rfl, ⟨fun _ => HF.out, fun _ => by omega⟩, .inl (by omega)⟩, hB1⟩
      · rw [decide_eq_false hx128] at HM
        have HA := Lib.hid (show ∀ y ∈ l.take (j + 1), 128 ≤ y from fun y hy => by
          rw [hsn] at hy
          rcases List.mem_append.1 hy with hy | hy
          · exact hall y hy
          · simp at hy; subst hy; omega)
        have hwj : wrap64 ((j : Int) + 1) = ((j + 1 : Nat) : Int) := by have := HC.out.2.1; unfold wrap64; omega
        clear hall hsn hmem hcell
        go_wp2_with fail
        (with_reducible refine Calls.mono HM.out ?_)
        rintro _ w1 ⟨rfl, hb1⟩
        have hB1 := below_step hBr hb1
        clear hb1
        dsimp only
        go_wp2_with fail
        rw [hwj]
        exact ⟨⟨j + 1, by omega, rfl, HA.out, hB1⟩, by simp [intOf]; omega⟩
    · obtain rfl : j = l.length := by omega
      rw [List.take_length] at hall
      have HA := Lib.hid hall
      clear hall
      go_wp2_with fail
      go_ret
      exact ⟨⟨-1, rfl, ⟨fun h => by omega, fun ⟨x, hx, h⟩ => by have := HA.out x hx; omega⟩, .inr rfl⟩, hBr⟩
theorem contains_val (A : Option Addr) (c : Nat) (l : List Int) (W : World) (h : SlB W (.slice A l.length c) l) : Calls Tryz.prog 206 #[.slice A l.length c, .func (.func 207) #[] #[]] W (RetS (.bool (l.any fun x => decide (x < 128))) W) := by
  have HI := Lib.hid (index_val A c l W h)
  generalize hM : l.length = M at HI
  clear h hM
  go_enter Tryz.func206, Tryz.ntmps206
  go_wp2_with fail
  (with_reducible refine Calls.mono HI.out ?_)
  rintro _ w1 ⟨⟨i, rfl, hi, hi2⟩, hb1⟩
  by_cases h0 : 0 ≤ i
  · have HF := Lib.hid (show (l.any fun x => decide (x < 128)) = true by
      obtain ⟨x, hx, h⟩ := hi.1 h0
      exact List.any_eq_true.2 ⟨x, hx, decide_eq_true h⟩)
    clear hi hi2
    dsimp only
    go_wp2_with fail
    go_ret
    exact ⟨by rw [HF.out]; rfl, hb1⟩
  · have HF := Lib.hid (show (l.any fun x => decide (x < 128)) = false by
      rw [List.any_eq_false]
      intro x hx h
      exact h0 (hi.2 ⟨x, hx, of_decide_eq_true h⟩))
    have hi3 : i < 0 := by omega
    clear hi hi2
    dsimp only
    go_wp2_with fail
    go_ret
    exact ⟨by rw [HF.out]; rfl, hb1⟩
theorem lacks_val (A : Option Addr) (c : Nat) (l : List Int) (W : World) (h : SlB W (.slice A l.length c) l) : Calls Tryz.prog 160 #[.slice A l.length c] W (RetS (.bool (Sb.lacksV l)) W) := by
  have HC := Lib.hid (contains_val A c l W h)
  have hl : Sb.lacksV l = (decide (l.length < 9) && !(l.any fun x => decide (x < 128))) := by
    unfold Sb.lacksV
    congr 1
    rw [List.all_eq_not_any_not]
    congr 2
    funext x
    by_cases hx : x < 128
    · simp [hx] <;> omega
    · simp [hx] <;> omega
  have HL := Lib.hid hl
  clear hl
  by_cases h9 : l.length < 9
  · cases hb : (l.any fun x => decide (x < 128))
    all_goals
      rw [hb] at HC HL
      rw [decide_eq_true h9] at HL
      clear hb
      generalize hM : l.length = M at HC h9
      have h9' : (M : Int) < 9 := by omega
      clear hM h9 h
      go_enter Tryz.func160, Tryz.ntmps160
      go_wp2_with fail
      (with_reducible refine Calls.mono HC.out ?_)
      rintro _ w1 ⟨rfl, hb1⟩
      dsimp only
      go_wp2_with fail
      go_ret
      exact ⟨by rw [HL.out]; rfl, hb1⟩
  · have HL2 := HL.out
    rw [decide_eq_false h9] at HL2
    generalize hM : l.length = M at HC h9
    have h9' : 9 ≤ (M : Int) := by omega
    clear hM h9 h HL
    have HL := Lib.hid HL2
    clear HL2
    go_enter Tryz.func160, Tryz.ntmps160
    go_wp2_with fail
    go_ret
    exact ⟨by rw [HL.out]; rfl, Below.refl _ _⟩
end Go.Proofs.YtcjidlgmbjebjaaGreatDoor

namespace Go.Proofs.YtcjidlgmbjebjaaGreatDoor
open Go Go.RowKit Go.Proofs.YtcjidlgmbjebjaaGreatDoorW.PrintWords
theorem row_empty {w : World} {base : Nat} (hb : base ≤ w.heap.size) : Row (w.alloc (.cells #[] 5)) base (.slice (some ⟨w.heap.size, 0, none⟩) 0 0) [] :=
  own_full (w := w) (base := base) (e := 5) #[] 0 rfl hb (by decide)
set_option maxHeartbeats 2000000 in
theorem clone_val (v : Value) (l : List Int) (W : World) (hv : SlB W v l) (hl : l.length ≤ 140737488355000) : Calls Tryz.prog 48 #[v] W (RetRow l W) := by
  obtain ⟨A, c, rfl, hc, hC⟩ := hv
  cases A with
  | none =>
    have hl0 : l.length = 0 := by
      rcases Nat.eq_zero_or_pos l.length with h | h
      · exact h
      · obtain ⟨ad, e, _⟩ := kC_at hC h; cases e
    obtain rfl : l = [] := List.eq_nil_of_length_eq_zero hl0
    have hx := fun w => Lib.run_eql_slice_nil (P := Tryz.prog) w 25 5 none 0 c 0 0 Tryz.underlying25
    go_enter Tryz.func48, Tryz.ntmps48
    go_wp2
    go_ret
    exact ⟨_, rfl, World.ownsRow_nil _ _ _ _, Below.refl _ _⟩
  | some ad =>
    have hx := fun w => Lib.run_eql_slice_nil (P := Tryz.prog) w 25 5 (some ad) l.length c 0 0 Tryz.underlying25
    have HC := Lib.hid hC; clear hC
    go_enter Tryz.func48, Tryz.ntmps48
    go_wp2_with (at_builtin; refine wpList_app (by rfl) _ _ (by rfl) (by rfl) (by rfl) (row_empty (base := W.heap.size) (Nat.le_refl _)) (by rfl) (Kd.C_alloc HC.out _) (by simp; omega) (by simp) ?_)
    intro v' w' hr hb _
    have HR := Lib.hid hr; have HB := Lib.hid hb; clear hr hb
    go_wp2_with fail
    go_ret
    exact ⟨_, rfl, by simpa using HR.out, ((Below.refl W.heap.size W).alloc (Nat.le_refl _) _).trans HB.out⟩
theorem is_val (p : Nat) (s : Sb.Src) (W : World) (hs : SrcP W p s) : Calls Tryz.prog 55 #[.pointer (some ⟨p, 0, none⟩)] W (Same1 (.bool true) W) := by
  obtain ⟨v, ⟨h, _⟩, _⟩ := hs
  have c0 : W.cell? ⟨p, 0, none⟩ = some (.bool true) := by rw [Lib.cell_of_heap h]; rfl
  clear h
  go_enter Tryz.func55, Tryz.ntmps55
  go_wp2
  go_ret
  exact ⟨rfl, rfl⟩
def RetSt (v : Value) (p : Nat) (s : Sb.Src) (W : World) (e : Ending) (w' : World) : Prop := e = .returned v ∧ SrcP w' p s ∧ Keep1 p W w'
end Go.Proofs.YtcjidlgmbjebjaaGreatDoor

namespace Go.Proofs.YtcjidlgmbjebjaaGreatDoor
open Go Go.RowKit Go.Proofs.YtcjidlgmbjebjaaGreatDoorW.PrintWords
def RetN (p : Nat) (s : Sb.Src) (W : World) (e : Ending) (w' : World) : Prop := e = .returned (.tuple #[]) ∧ SrcP w' p s ∧ Keep1 p W w'
set_option maxHeartbeats 2000000 in
theorem fail_val (p : Nat) (l : List Int) (er : Int) (W : World) (hs : SrcP W p (0, l)) : Calls Tryz.prog 205 #[.pointer (some ⟨p, 0, none⟩), .int .i64 er] W (RetN p (er, []) W) := by
  obtain ⟨v, ⟨h, _⟩, _⟩ := hs
  have c2 : W.cell? ⟨p, 2, none⟩ = some (.int .i64 0) := by rw [Lib.cell_of_heap h]; rfl
  have c1 : W.cell? ⟨p, 1, none⟩ = some v := by rw [Lib.cell_of_heap h]; rfl
  have f2 : W.frozen? ⟨p, 2, none⟩ = false := Lib.frozen_of_heap h 2
  have f1 : W.frozen? ⟨p, 1, none⟩ = false := Lib.frozen_of_heap h 1
  have H := Lib.hid h; clear h
  go_enter Tryz.func205, Tryz.ntmps205
  go_wp2
  go_end0
  have h2 := heap_setCell_same W p 2 _ _ (.int .i64 er) H.out
  have h1 := heap_setCell_same _ p 1 _ _ (.slice none 0 0) h2
  exact ⟨rfl, ⟨_, ⟨h1, vlt_nil _ _ _⟩, slb_nil _ _ _⟩, ((Keep1.refl p W).set 2 _).set 1 _⟩
def RetDo (p : Nat) (l : List Int) (Q : Int → Int → World → Prop) (e : Ending) (w' : World) : Prop :=
  ∃ n er : Int, e = .returned (.tuple #[.int .i64 n, .int .i64 er]) ∧ SrcP w' p (0, l) ∧ (er = 0 → 0 ≤ n ∧ n ≤ l.length) ∧ Q n er w'
theorem slb_cut {w : World} {A A' : Option Addr} {c n : Nat} {l : List Int} (hn : n ≤ l.length) (hc : l.length ≤ c) (hC : Kd.C (Kd.int .u8) w A l.length l) (hA : c ≠ n → A' = A.map (fun x => x.add n)) : SlB w (.slice A' (l.length - n) (c - n)) (l.drop n) := by
  have hl : (l.drop n).length = l.length - n := List.length_drop
  by_cases h0 : l.length = n
  · have h1 : l.drop n = [] := List.eq_nil_of_length_eq_zero (by omega)
    rw [h1, show l.length - n = 0 by omega]
    exact slb_nil _ _ _
  · obtain ⟨ad, rfl, _⟩ := kC_at hC (by omega)
    rw [hA (by omega)]
    have := kC_drop n hC
    rw [← hl]
    exact ⟨_, _, rfl, by omega, this⟩
def RetStep (p : Nat) (l : List Int) (Q : Int → Int → World → Prop) (e : Ending) (w' : World) : Prop :=
  e = .returned (.tuple #[]) ∧ ∃ (n er : Int) (w1 : World), Q n er w1 ∧ ((er = 0 ∧ SrcP w' p (0, l.drop n.toNat) ∧ Keep1 p w1 w') ∨ (er ≠ 0 ∧ SrcP w' p (er, []) ∧ Keep1 p w1 w'))
set_option maxHeartbeats 2000000 in
theorem step_151 (p : Nat) (caps : Array Value) (l : List Int) (W : World) (hs : SrcP W p (0, l)) (Q : Int → Int → World → Prop) (hdo : Calls Tryz.prog 208 caps W (RetDo p l Q)) :
    Calls Tryz.prog 156 #[.pointer (some ⟨p, 0, none⟩), .func (.func 208) #[] caps] W (RetStep p l Q) := by
  have HI := Lib.hid (is_val p (0, l) W hs)
  obtain ⟨v, ⟨h, _⟩, _⟩ := hs
  have c2 : W.cell? ⟨p, 2, none⟩ = some (.int .i64 0) := by rw [Lib.cell_of_heap h]; rfl
  clear h
  have HD := Lib.hid hdo; clear hdo
  go_enter Tryz.func156, Tryz.ntmps156
  go_wp2_with fail
  refine HI.out.mono ?_
  rintro e w ⟨rfl, rfl⟩
  dsimp only
  go_wp2_with fail
  refine HD.out.mono ?_
  rintro e w1 ⟨n, er, rfl, hs1, hn, hq⟩
  have HS1 := Lib.hid hs1
  have HQ := Lib.hid hq
  clear hs1 hq c2
  dsimp only
  by_cases he : er = 0
  · subst he
    obtain ⟨n0, n1⟩ := hn rfl
    obtain ⟨v1, ⟨h1, hq1⟩, A, c, rfl, hc, hC⟩ := HS1.out
    have c1 : w1.cell? ⟨p, 1, none⟩ = some (.slice A l.length c) := by rw [Lib.cell_of_heap h1]; rfl
    have f1 : w1.frozen? ⟨p, 1, none⟩ = false := Lib.frozen_of_heap h1 1
    have H1 := Lib.hid h1
    have HC := Lib.hid hC
    clear h1 hC hn
    go_wp2_with fail
    · go_end0
      rename_i hcn
      have hx : SlB w1 (.slice A (l.length - n.toNat) 0) (l.drop n.toNat) := by
        have h1 : l.drop n.toNat = [] := List.eq_nil_of_length_eq_zero (by rw [List.length_drop]; omega)
        rw [h1, show l.length - n.toNat = 0 by omega]
        exact slb_nil _ _ _
      exact ⟨rfl, n, 0, w1, HQ.out, .inl ⟨rfl, ⟨_, ⟨heap_setCell_same w1 p 1 _ _ _ H1.out, vlt_same hq1⟩, slb_keep (p := p) hx (src_nobyte HS1.out) ((Keep1.refl p w1).set 1 _)⟩, (Keep1.refl p w1).set 1 _⟩⟩
    · go_end0
      exact ⟨rfl, n, 0, w1, HQ.out, .inl ⟨rfl, ⟨_, ⟨heap_setCell_same w1 p 1 _ _ _ H1.out, vlt_map hq1⟩, slb_keep (p := p) (slb_cut (by omega) hc HC.out (fun h => rfl)) (src_nobyte HS1.out) ((Keep1.refl p w1).set 1 _)⟩, (Keep1.refl p w1).set 1 _⟩⟩
  · go_wp2_with fail
    refine (fail_val p l er _ HS1.out).mono ?_
    rintro e w2 ⟨rfl, hs2, hk2⟩
    have HS2 := Lib.hid hs2
    have HK2 := Lib.hid hk2
    clear hs2 hk2
    dsimp only
    go_wp2_with fail
    go_end0
    exact ⟨rfl, n, er, w1, HQ.out, .inr ⟨he, HS2.out, HK2.out⟩⟩

set_option maxHeartbeats 2000000 in
theorem step_121 (p : Nat) (caps : Array Value) (l : List Int) (W : World) (hs : SrcP W p (0, l)) (Q : Int → Int → World → Prop) (hdo : Calls Tryz.prog 157 caps W (RetDo p l Q)) :
    Calls Tryz.prog 156 #[.pointer (some ⟨p, 0, none⟩), .func (.func 157) #[] caps] W (RetStep p l Q) := by
  have HI := Lib.hid (is_val p (0, l) W hs)
  obtain ⟨v, ⟨h, _⟩, _⟩ := hs
  have c2 : W.cell? ⟨p, 2, none⟩ = some (.int .i64 0) := by rw [Lib.cell_of_heap h]; rfl
  clear h
  have HD := Lib.hid hdo; clear hdo
  go_enter Tryz.func156, Tryz.ntmps156
  go_wp2_with fail
  refine HI.out.mono ?_
  rintro e w ⟨rfl, rfl⟩
  dsimp only
  go_wp2_with fail
  refine HD.out.mono ?_
  rintro e w1 ⟨n, er, rfl, hs1, hn, hq⟩
  have HS1 := Lib.hid hs1
  have HQ := Lib.hid hq
  clear hs1 hq c2
  dsimp only
  by_cases he : er = 0
  · subst he
    obtain ⟨n0, n1⟩ := hn rfl
    obtain ⟨v1, ⟨h1, hq1⟩, A, c, rfl, hc, hC⟩ := HS1.out
    have c1 : w1.cell? ⟨p, 1, none⟩ = some (.slice A l.length c) := by rw [Lib.cell_of_heap h1]; rfl
    have f1 : w1.frozen? ⟨p, 1, none⟩ = false := Lib.frozen_of_heap h1 1
    have H1 := Lib.hid h1
    have HC := Lib.hid hC
    clear h1 hC hn
    go_wp2_with fail
    · go_end0
      rename_i hcn
      have hx : SlB w1 (.slice A (l.length - n.toNat) 0) (l.drop n.toNat) := by
        have h1 : l.drop n.toNat = [] := List.eq_nil_of_length_eq_zero (by rw [List.length_drop]; omega)
        rw [h1, show l.length - n.toNat = 0 by omega]
        exact slb_nil _ _ _
      exact ⟨rfl, n, 0, w1, HQ.out, .inl ⟨rfl, ⟨_, ⟨heap_setCell_same w1 p 1 _ _ _ H1.out, vlt_same hq1⟩, slb_keep (p := p) hx (src_nobyte HS1.out) ((Keep1.refl p w1).set 1 _)⟩, (Keep1.refl p w1).set 1 _⟩⟩
    · go_end0
      exact ⟨rfl, n, 0, w1, HQ.out, .inl ⟨rfl, ⟨_, ⟨heap_setCell_same w1 p 1 _ _ _ H1.out, vlt_map hq1⟩, slb_keep (p := p) (slb_cut (by omega) hc HC.out (fun h => rfl)) (src_nobyte HS1.out) ((Keep1.refl p w1).set 1 _)⟩, (Keep1.refl p w1).set 1 _⟩⟩
  · go_wp2_with fail
    refine (fail_val p l er _ HS1.out).mono ?_
    rintro e w2 ⟨rfl, hs2, hk2⟩
    have HS2 := Lib.hid hs2
    have HK2 := Lib.hid hk2
    clear hs2 hk2
    dsimp only
    go_wp2_with fail
    go_end0
    exact ⟨rfl, n, er, w1, HQ.out, .inr ⟨he, HS2.out, HK2.out⟩⟩

set_option maxHeartbeats 2000000 in
theorem step_185 (p : Nat) (caps : Array Value) (l : List Int) (W : World) (hs : SrcP W p (0, l)) (Q : Int → Int → World → Prop) (hdo : Calls Tryz.prog 158 caps W (RetDo p l Q)) :
    Calls Tryz.prog 156 #[.pointer (some ⟨p, 0, none⟩), .func (.func 158) #[] caps] W (RetStep p l Q) := by
  have HI := Lib.hid (is_val p (0, l) W hs)
  obtain ⟨v, ⟨h, _⟩, _⟩ := hs
  have c2 : W.cell? ⟨p, 2, none⟩ = some (.int .i64 0) := by rw [Lib.cell_of_heap h]; rfl
  clear h
  have HD := Lib.hid hdo; clear hdo
  go_enter Tryz.func156, Tryz.ntmps156
  go_wp2_with fail
  refine HI.out.mono ?_
  rintro e w ⟨rfl, rfl⟩
  dsimp only
  go_wp2_with fail
  refine HD.out.mono ?_
  rintro e w1 ⟨n, er, rfl, hs1, hn, hq⟩
  have HS1 := Lib.hid hs1
  have HQ := Lib.hid hq
  clear hs1 hq c2
  dsimp only
  by_cases he : er = 0
  · subst he
    obtain ⟨n0, n1⟩ := hn rfl
    obtain ⟨v1, ⟨h1, hq1⟩, A, c, rfl, hc, hC⟩ := HS1.out
    have c1 : w1.cell? ⟨p, 1, none⟩ = some (.slice A l.length c) := by rw [Lib.cell_of_heap h1]; rfl
    have f1 : w1.frozen? ⟨p, 1, none⟩ = false := Lib.frozen_of_heap h1 1
    have H1 := Lib.hid h1
    have HC := Lib.hid hC
    clear h1 hC hn
    go_wp2_with fail
    · go_end0
      rename_i hcn
      have hx : SlB w1 (.slice A (l.length - n.toNat) 0) (l.drop n.toNat) := by
        have h1 : l.drop n.toNat = [] := List.eq_nil_of_length_eq_zero (by rw [List.length_drop]; omega)
        rw [h1, show l.length - n.toNat = 0 by omega]
        exact slb_nil _ _ _
      exact ⟨rfl, n, 0, w1, HQ.out, .inl ⟨rfl, ⟨_, ⟨heap_setCell_same w1 p 1 _ _ _ H1.out, vlt_same hq1⟩, slb_keep (p := p) hx (src_nobyte HS1.out) ((Keep1.refl p w1).set 1 _)⟩, (Keep1.refl p w1).set 1 _⟩⟩
    · go_end0
      exact ⟨rfl, n, 0, w1, HQ.out, .inl ⟨rfl, ⟨_, ⟨heap_setCell_same w1 p 1 _ _ _ H1.out, vlt_map hq1⟩, slb_keep (p := p) (slb_cut (by omega) hc HC.out (fun h => rfl)) (src_nobyte HS1.out) ((Keep1.refl p w1).set 1 _)⟩, (Keep1.refl p w1).set 1 _⟩⟩
  · go_wp2_with fail
    refine (fail_val p l er _ HS1.out).mono ?_
    rintro e w2 ⟨rfl, hs2, hk2⟩
    have HS2 := Lib.hid hs2
    have HK2 := Lib.hid hk2
    clear hs2 hk2
    dsimp only
    go_wp2_with fail
    go_end0
    exact ⟨rfl, n, er, w1, HQ.out, .inr ⟨he, HS2.out, HK2.out⟩⟩

set_option maxHeartbeats 2000000 in
theorem step_err (p : Nat) (f : Value) (s : Sb.Src) (he : s.1 ≠ 0) (W : World) (hs : SrcP W p s) : Calls Tryz.prog 156 #[.pointer (some ⟨p, 0, none⟩), f] W (Same1 (.tuple #[]) W) := by
  have HI := Lib.hid (is_val p s W hs)
  obtain ⟨er, l⟩ := s
  obtain ⟨v, ⟨h, _⟩, _⟩ := hs
  have c2 : W.cell? ⟨p, 2, none⟩ = some (.int .i64 er) := by rw [Lib.cell_of_heap h]; rfl
  clear h
  dsimp only at he
  go_enter Tryz.func156, Tryz.ntmps156
  go_wp2_with fail
  refine HI.out.mono ?_
  rintro e w ⟨rfl, rfl⟩
  dsimp only
  go_wp2_with fail
  go_end0
  exact ⟨rfl, rfl⟩
end Go.Proofs.YtcjidlgmbjebjaaGreatDoor

namespace Go.Proofs.YtcjidlgmbjebjaaGreatDoor
open Go Go.RowKit Go.Proofs.YtcjidlgmbjebjaaGreatDoorW.PrintWords
theorem drawn_heap {w w' : World} (h : Drawn0 w w') : w'.heap = w.heap := by obtain ⟨n, rfl⟩ := h.out; rfl
theorem drawn_cell {w w' : World} (h : Drawn0 w w') {a : Addr} {v : Value} (hc : w.cell? a = some v) : w'.cell? a = some v := by unfold World.cell? at hc ⊢; rw [drawn_heap h]; exact hc
theorem drawn_keep {w w' : World} (h : Drawn0 w w') (p : Nat) : Keep1 p w w' := Keep1.of_below (drawn_below h)
theorem drawn_frozen {w w' : World} (h : Drawn0 w w') {a : Addr} {v : Bool} (hc : w.frozen? a = v) : w'.frozen? a = v := by unfold World.frozen? at hc ⊢; rw [drawn_heap h]; exact hc
def cAt (w : World) (b : Nat) : Value := (w.cell? ⟨b, 0, none⟩).getD (.bool false)
theorem cat_of {w : World} {b : Nat} (h : (w.cell? ⟨b, 0, none⟩).isSome = true) : w.cell? ⟨b, 0, none⟩ = some (cAt w b) := by
  unfold cAt
  cases hc : w.cell? ⟨b, 0, none⟩ with
  | none => rw [hc] at h; cases h
  | some v => rfl
theorem cell_setB {w : World} {b o q i : Nat} {v u : Value} (h : w.cell? ⟨b, o, none⟩ = some v) (hne : b ≠ q) : (w.setCell ⟨q, i, none⟩ u).cell? ⟨b, o, none⟩ = some v := by
  unfold World.cell? at h ⊢
  rw [Below.heap_setCell _ _ _ _ hne]; exact h
theorem frozen_setB {w : World} {a : Addr} {q i : Nat} {u : Value} {x : Bool} (h : w.frozen? a = x) : (w.setCell ⟨q, i, none⟩ u).frozen? a = x := by
  rw [← h]
  by_cases hq : a.block = q
  · subst hq
    cases hb : w.heap[a.block]? with
    | none => simp [World.frozen?, World.setCell, Array.getElem?_modify, hb]
    | some o => cases o <;> simp [World.frozen?, World.setCell, Array.getElem?_modify, hb]
  · unfold World.frozen?
    rw [Below.heap_setCell _ _ _ _ hq]
theorem cat_set {w : World} {b : Nat} {v u : Value} (h : w.cell? ⟨b, 0, none⟩ = some v) : (w.setCell ⟨b, 0, none⟩ u).cell? ⟨b, 0, none⟩ = some (cAt (w.setCell ⟨b, 0, none⟩ u) b) := by
  refine cat_of ?_
  unfold World.cell? at h ⊢
  cases hb : w.heap[b]? with
  | none => rw [hb] at h; cases h
  | some o =>
    rw [hb] at h
    cases o with
    | cells c e f =>
      simp only [World.setCell, Array.getElem?_modify, hb, if_true, Option.map_some]
      simp only [Option.isSome_none, Bool.false_eq_true, if_false] at h ⊢
      simp
      have := (Array.getElem?_eq_some_iff.1 h).1
      exact this
    | _ => cases h
theorem cell_setS {w : World} {b i : Nat} {v u : Value} (h : (w.setCell ⟨b, i, none⟩ u).cell? ⟨b, i, none⟩ = some v) : (w.setCell ⟨b, i, none⟩ u).cell? ⟨b, i, none⟩ = some u := by
  unfold World.cell? at h ⊢
  cases hb : w.heap[b]? with
  | none => simp [World.setCell, Array.getElem?_modify, hb] at h
  | some o =>
    cases o with
    | cells c e f =>
      simp only [World.setCell, Array.getElem?_modify, hb, if_true, Option.map_some] at h ⊢
      simp only [Option.isSome_none, Bool.false_eq_true, if_false] at h ⊢
      have h2 := (Array.getElem?_eq_some_iff.1 h).1
      simp at h2
      simp [h2]
    | _ => simp [World.setCell, Array.getElem?_modify, hb] at h
theorem get_val (A : Option Addr) (c : Nat) (l : List Int) (n : Nat) (hn : n = 1 ∨ n = 8) (hb : Byt l) (hc : l.length ≤ c) (w : World) (hC : Kd.C (Kd.int .u8) w A l.length l) :
    Calls Tryz.prog 139 #[.slice A l.length c, .int .i64 n, .bool false] w (fun e w' => e = .returned (.tuple #[.int .u64 (if n ≤ l.length then Sb.be (l.take n) else 0), .bool (decide (n ≤ l.length))]) ∧ Drawn0 w w') := by
  refine PSchemaForms.octet_Get.calls 10 A c l n false _ _ w hC hc ?_
  rcases hn with rfl | rfl
  · match l, hb with
    | [], _ => exact octet_Get_short [] 1 (by omega) (by omega) (by simp) 9
    | x :: r, hb =>
      rw [if_pos (by simp)]
      have h := hb x (by simp)
      have e : Sb.be ((x :: r).take 1) = x := by simp [Sb.be]
      rw [e]
      have := octet_Get_one x r h.1 h.2
      simpa using this
  · by_cases h : 8 ≤ l.length
    · obtain ⟨a0, a1, a2, a3, a4, a5, a6, a7, r, rfl⟩ := eight l h
      rw [if_pos h, decide_eq_true h]
      exact octet_Get_eight a0 a1 a2 a3 a4 a5 a6 a7 r hb
    · rw [if_neg h, decide_eq_false h]
      exact octet_Get_short l 8 (by omega) (by omega) (by omega) 9
def NumQ (p bn n : Nat) (l : List Int) (W0 : World) (m er : Int) (w' : World) : Prop :=
  Keep1 p W0 w' ∧ w'.cell? ⟨bn, 0, none⟩ = some (.int .u64 (Sb.be (Sb.sTake n (0, l)).1)) ∧ (n ≤ l.length → m = n ∧ er = 0) ∧ (¬ n ≤ l.length → er = 8)
set_option maxHeartbeats 4000000 in
theorem num1_val (bs bp bl bn p : Nat) (n : Nat) (hn : n = 1 ∨ n = 8) (l : List Int) (hb : Byt l) (W0 W : World) (hs : SrcP W p (0, l)) (hk0 : Keep1 p W0 W) (hbn : W0.heap.size ≤ bn) (hbp : bn ≠ p) 
    (z1 : W.cell? ⟨bp, 0, none⟩ = some (.pointer (some ⟨p, 0, none⟩))) (z2 : W.cell? ⟨bs, 0, none⟩ = some (.int .i64 n)) (z3 : W.cell? ⟨bl, 0, none⟩ = some (.bool false)) (z4 : W.heap[bn]? = some (.cells #[.int .u64 0] 111 (0, 0)))
    (d1 : bp ≠ bn) (d2 : bs ≠ bn) (d3 : bl ≠ bn) (d4 : p ≠ bn) :
    Calls Tryz.prog 208 #[.pointer (some ⟨bs, 0, none⟩), .pointer (some ⟨bp, 0, none⟩), .pointer (some ⟨bl, 0, none⟩), .pointer (some ⟨bn, 0, none⟩)] W
      (RetDo p l (NumQ p bn n l W0)) := by
  have HS := Lib.hid hs
  have hlt := src_lt hs
  obtain ⟨v, ⟨h, _⟩, A, c, rfl, hc, hC⟩ := hs
  have c1 : W.cell? ⟨p, 1, none⟩ = some (.slice A l.length c) := by rw [Lib.cell_of_heap h]; rfl
  have z5 : W.cell? ⟨bn, 0, none⟩ = some (.int .u64 0) := by rw [Lib.cell_of_heap z4]; rfl
  have f4 : W.frozen? ⟨bn, 0, none⟩ = false := Lib.frozen_of_heap z4 0
  have HC := Lib.hid hC
  have H4 := Lib.hid z4
  have HK := Lib.hid hk0
  have hn1 : 1 ≤ (n : Int) ∧ (n : Int) ≤ 8 := by omega
  by_cases hle : n ≤ l.length
  · have HG := Lib.hid (fun w hC => get_val A c l n hn hb hc w hC)
    rw [if_pos hle, decide_eq_true hle] at HG
    have HQ := Lib.hid (show Sb.be (Sb.sTake n (0, l)).1 = Sb.be (l.take n) by unfold Sb.sTake; rw [if_pos rfl, if_neg (by simpa using hle)])
    have HNB := Lib.hid (show NoByte W bn from nobyte_of z4 fun i x hi => by
      match i, hi with
      | 0, hi => simp at hi
      | i + 1, hi => simp at hi)
    clear h hC z4 hk0 hn hb
    go_enter Tryz.func208, Tryz.ntmps208
    go_wp2_with fail
    go_region_held3 (fun w' => w'.cell? ⟨bp, 0, none⟩ = some (.pointer (some ⟨p, 0, none⟩)) ∧ w'.cell? ⟨bs, 0, none⟩ = some (.int .i64 n) ∧ w'.cell? ⟨bl, 0, none⟩ = some (.bool false) ∧ w'.cell? ⟨p, 1, none⟩ = some (.slice A l.length c) ∧ w'.frozen? ⟨bn, 0, none⟩ = false ∧ w'.cell? ⟨bn, 0, none⟩ = some (cAt w' bn) ∧ Keep1 bn W w')
      (first
        | (go_keep; done)
        | ((repeat' apply And.intro) <;> first | assumption | (rw [World.cell?_drew]; assumption) | (exact cat_of (by rw [World.cell?_drew, z5]; rfl)) | (exact drawn_keep ((Drawn0.refl W).step 1) bn))
        | (go_split_ands; (repeat' apply And.intro) <;> first | (exact drawn_frozen hd1 (by assumption)) | (exact cat_of (by rw [drawn_cell hd1 (by assumption)]; rfl)) | (exact drawn_cell hd1 (by assumption)) | (exact Keep1.trans (by assumption) (drawn_keep hd1 bn)))
        | (go_split_ands; (repeat' apply And.intro) <;> first | (exact cat_set (by assumption)) | (exact cell_setB (by assumption) (by assumption)) | (exact frozen_setB (by assumption)) | (exact Keep1.set (by assumption) 0 _)))
      (first
        | (go_at_call 139; go_split_ands; refine (HG.out _ (kC_keep HC.out HNB.out (by assumption))).mono ?_; rintro e w1 ⟨rfl, hd1⟩))
    rename_i hH
    have HF := Lib.hid hH.2.2.2.2.2.2
    have HCN := Lib.hid (show World.cell? (w1.setCell ⟨bn, 0, none⟩ (.int .u64 (Sb.be (l.take n)))) ⟨bn, 0, none⟩ = some (.int .u64 (Sb.be (l.take n))) from cell_setS hH.2.2.2.2.2.1)
    go_wp2_with fail
    go_ret2
    exact ⟨n, 0, rfl, src_keep HS.out HNB.out d4 HF.out, fun _ => ⟨by omega, by omega⟩, keep_new HK.out HF.out hbn, by rw [HQ.out]; exact HCN.out, fun _ => ⟨rfl, rfl⟩, fun h => absurd hle h⟩
  · have HG := Lib.hid (fun w hC => get_val A c l n hn hb hc w hC)
    rw [if_neg hle, decide_eq_false hle] at HG
    have HQ := Lib.hid (show Sb.be (Sb.sTake n (0, l)).1 = 0 by unfold Sb.sTake; rw [if_pos rfl, if_pos (by simpa using hle)]; rfl)
    have HNB := Lib.hid (show NoByte W bn from nobyte_of z4 fun i x hi => by
      match i, hi with
      | 0, hi => simp at hi
      | i + 1, hi => simp at hi)
    clear h hC z4 hk0 hn hb
    go_enter Tryz.func208, Tryz.ntmps208
    go_wp2_with fail
    go_region_held3 (fun w' => w'.cell? ⟨bp, 0, none⟩ = some (.pointer (some ⟨p, 0, none⟩)) ∧ w'.cell? ⟨bs, 0, none⟩ = some (.int .i64 n) ∧ w'.cell? ⟨bl, 0, none⟩ = some (.bool false) ∧ w'.cell? ⟨p, 1, none⟩ = some (.slice A l.length c) ∧ w'.frozen? ⟨bn, 0, none⟩ = false ∧ w'.cell? ⟨bn, 0, none⟩ = some (cAt w' bn) ∧ Keep1 bn W w')
      (first
        | (go_keep; done)
        | ((repeat' apply And.intro) <;> first | assumption | (rw [World.cell?_drew]; assumption) | (exact cat_of (by rw [World.cell?_drew, z5]; rfl)) | (exact drawn_keep ((Drawn0.refl W).step 1) bn))
        | (go_split_ands; (repeat' apply And.intro) <;> first | (exact drawn_frozen hd1 (by assumption)) | (exact cat_of (by rw [drawn_cell hd1 (by assumption)]; rfl)) | (exact drawn_cell hd1 (by assumption)) | (exact Keep1.trans (by assumption) (drawn_keep hd1 bn)))
        | (go_split_ands; (repeat' apply And.intro) <;> first | (exact cat_set (by assumption)) | (exact cell_setB (by assumption) (by assumption)) | (exact frozen_setB (by assumption)) | (exact Keep1.set (by assumption) 0 _)))
      (first
        | (go_at_call 139; go_split_ands; refine (HG.out _ (kC_keep HC.out HNB.out (by assumption))).mono ?_; rintro e w1 ⟨rfl, hd1⟩))
    rename_i hH
    have HF := Lib.hid hH.2.2.2.2.2.2
    have HCN := Lib.hid (show World.cell? (w1.setCell ⟨bn, 0, none⟩ (.int .u64 0)) ⟨bn, 0, none⟩ = some (.int .u64 0) from cell_setS hH.2.2.2.2.2.1)
    go_wp2_with fail
    go_ret2
    exact ⟨0, 8, rfl, src_keep HS.out HNB.out d4 HF.out, fun h => by omega, keep_new HK.out HF.out hbn, by rw [HQ.out]; exact HCN.out, fun h => absurd h hle, fun _ => rfl⟩
set_option maxHeartbeats 4000000 in
theorem num_val (p n : Nat) (hn : n = 1 ∨ n = 8) (s : Sb.Src) (hb : Byt s.2) (W : World) (hs : SrcP W p s) :
    Calls Tryz.prog 161 #[.pointer (some ⟨p, 0, none⟩), .int .i64 n, .bool false] W (RetSt (.int .u64 (Sb.be (Sb.sTake n s).1)) p (Sb.sTake n s).2 W) := by
  have hlt := src_lt hs
  have hmf : ∀ (fn : Fn) (first cap : Array Value) (w : World), (Instr.makeFunc fn first cap).run Tryz.prog w = .ok (.func fn first cap) w := fun _ _ _ _ => rfl
  obtain ⟨er0, l⟩ := s
  by_cases he : er0 = 0
  · subst he
    have HS := Lib.hid hs; clear hs
    go_enter Tryz.func161, Tryz.ntmps161
    go_wp2_with fail
    have hs4 := src_alloc (src_alloc (src_alloc (src_alloc HS.out (.cells #[.pointer (some ⟨p, 0, none⟩)] 47)) (.cells #[.int .i64 n] 3)) (.cells #[.bool false] 4)) (.cells #[.int .u64 0] 111)
    have hst := step_151 p _ l _ hs4 _ (num1_val (W.heap.size + 1) W.heap.size (W.heap.size + 1 + 1) (W.heap.size + 1 + 1 + 1) p n hn l hb W _ hs4 ((((Keep1.refl p W).alloc _).alloc _).alloc _ |>.alloc _) (by omega) (by omega) (by go_cell) (by go_cell) (by go_cell) (hp_new _ _ _ (by simp)) (by omega) (by omega) (by omega) (by omega))
    refine hst.mono ?_
    rintro e w1 ⟨rfl, m, er, w2, ⟨hk2, hc2, q1, q2⟩, h3⟩
    have hres : SrcP w1 p (Sb.sTake n (0, l)).2 ∧ Keep1 p w2 w1 := by
      unfold Sb.sTake
      rw [if_pos rfl]
      by_cases hle : n ≤ l.length
      · obtain ⟨rfl, rfl⟩ := q1 hle
        rw [if_neg (by simpa using hle)]
        rcases h3 with ⟨_, h4, h5⟩ | ⟨h4, _⟩
        · exact ⟨h4, h5⟩
        · exact absurd rfl h4
      · obtain rfl := q2 hle
        rw [if_pos (by simpa using hle)]
        rcases h3 with ⟨h4, _⟩ | ⟨_, h4, h5⟩
        · cases h4
        · exact ⟨h4, h5⟩
    have hc1 : w1.cell? ⟨W.heap.size + 1 + 1 + 1, 0, none⟩ = some (.int .u64 (Sb.be (Sb.sTake n (0, l)).1)) := by
      rw [← hc2]
      unfold World.cell?
      rw [hres.2.block (cell_lt hc2) (by show _ ≠ p; omega)]
    have HR := Lib.hid hres
    have HK := Lib.hid hk2
    clear hs4 hst hk2 hc2 q1 q2 h3 hres
    dsimp only
    go_wp2_with fail
    go_ret
    exact ⟨rfl, HR.out.1, HK.out.trans HR.out.2⟩
  · have HS := Lib.hid hs; clear hs
    have HV := Lib.hid (show (Sb.sTake n (er0, l)) = ([], (er0, l)) by unfold Sb.sTake; rw [if_neg he])
    go_enter Tryz.func161, Tryz.ntmps161
    go_wp2_with fail
    have hs4 := src_alloc (src_alloc (src_alloc (src_alloc HS.out (.cells #[.pointer (some ⟨p, 0, none⟩)] 47)) (.cells #[.int .i64 n] 3)) (.cells #[.bool false] 4)) (.cells #[.int .u64 0] 111)
    refine (step_err p _ _ he _ hs4).mono ?_
    rintro e w1 ⟨rfl, rfl⟩
    have HR := Lib.hid hs4
    clear hs4
    dsimp only
    go_wp2_with fail
    go_ret
    rw [HV.out]
    exact ⟨rfl, HR.out, (((Keep1.refl p W).alloc _).alloc _).alloc _ |>.alloc _⟩
end Go.Proofs.YtcjidlgmbjebjaaGreatDoor

namespace Go.Proofs.YtcjidlgmbjebjaaGreatDoor
open Go Go.RowKit Go.Proofs.YtcjidlgmbjebjaaGreatDoorW.PrintWords
theorem take_byt {n : Nat} {s : Sb.Src} (h : Byt s.2) : Byt (Sb.sTake n s).1 ∧ Byt (Sb.sTake n s).2.2 := by
  unfold Sb.sTake
  split
  · split
    · exact ⟨fun x hx => by simp at hx, fun x hx => by simp at hx⟩
    · exact ⟨fun x hx => h x (List.mem_of_mem_take hx), fun x hx => h x (List.mem_of_mem_drop hx)⟩
  · exact ⟨fun x hx => by simp at hx, h⟩
theorem take_len {n : Nat} {s : Sb.Src} : (Sb.sTake n s).1.length ≤ n := by
  unfold Sb.sTake
  split
  · split
    · simp
    · simp; omega
  · simp
theorem be_one {s : Sb.Src} (h : Byt s.2) : Sb.be (Sb.sTake 1 s).1 = (Sb.sByte s).1 ∧ 0 ≤ (Sb.sByte s).1 ∧ (Sb.sByte s).1 < 256 := by
  have h1 := (take_byt (n := 1) h).1
  have h2 := take_len (n := 1) (s := s)
  unfold Sb.sByte
  match (Sb.sTake 1 s).1, h1, h2 with
  | [], _, _ => exact ⟨rfl, Int.le_refl _, (by show (0 : Int) < 256; decide)⟩
  | [x], h1, _ =>
    have := h1 x (by simp)
    exact ⟨by simp [Sb.be], this.1, this.2⟩
  | _ :: _ :: _, _, h2 => simp at h2
theorem be_bound : ∀ (l : List Int) (a : Int), Byt l → 0 ≤ a → 0 ≤ l.foldl (fun n b => n * 256 + b) a ∧ l.foldl (fun n b => n * 256 + b) a < (a + 1) * 256 ^ l.length := by
  intro l
  induction l with
  | nil => intro a _ h; simp; omega
  | cons x l ih =>
    intro a hb ha
    have hx := hb x (by simp)
    obtain ⟨h1, h2⟩ := ih (a * 256 + x) (fun y hy => hb y (List.mem_cons_of_mem _ hy)) (by omega)
    refine ⟨h1, Int.lt_of_lt_of_le h2 ?_⟩
    rw [List.length_cons, Int.pow_succ, Int.mul_comm (256 ^ l.length) 256, ← Int.mul_assoc]
    have hp : (0 : Int) ≤ 256 ^ l.length := Int.pow_nonneg (by decide)
    exact Int.mul_le_mul_of_nonneg_right (by omega) hp
theorem be_eight {s : Sb.Src} (h : Byt s.2) : 0 ≤ Sb.be (Sb.sTake 8 s).1 ∧ Sb.be (Sb.sTake 8 s).1 < 18446744073709551616 := by
  have h1 := (take_byt (n := 8) h).1
  have h2 := take_len (n := 8) (s := s)
  obtain ⟨a, b⟩ := be_bound _ 0 h1 (Int.le_refl _)
  refine ⟨a, Int.lt_of_lt_of_le b ?_⟩
  have : (256 : Int) ^ (Sb.sTake 8 s).1.length ≤ 256 ^ 8 := by exact_mod_cast Nat.pow_le_pow_right (n := 256) (by decide) h2
  simp only [Int.zero_add, Int.one_mul]
  exact Int.le_trans this (by decide)
set_option maxHeartbeats 2000000 in
theorem byte_val (p : Nat) (s : Sb.Src) (hb : Byt s.2) (W : World) (hs : SrcP W p s) : Calls Tryz.prog 103 #[.pointer (some ⟨p, 0, none⟩)] W (RetSt (.int .u8 (Sb.sByte s).1) p (Sb.sByte s).2 W) := by
  have hmf : ∀ (fn : Fn) (first cap : Array Value) (w : World), (Instr.makeFunc fn first cap).run Tryz.prog w = .ok (.func fn first cap) w := fun _ _ _ _ => rfl
  have HN := Lib.hid (num_val p 1 (.inl rfl) s hb W hs)
  obtain ⟨e1, e2, e3⟩ := be_one hb
  have HW := Lib.hid (show (Sb.be (Sb.sTake 1 s).1) % 256 = (Sb.sByte s).1 by rw [e1]; omega)
  go_enter Tryz.func103, Tryz.ntmps103
  go_wp2_with fail
  refine HN.out.mono ?_
  rintro e w1 ⟨rfl, h1, h2⟩
  dsimp only
  go_wp2_with fail
  go_ret
  exact ⟨by first | rfl | (rw [HW.out]; rfl), h1, h2⟩
set_option maxHeartbeats 2000000 in
theorem int_val (p : Nat) (s : Sb.Src) (hb : Byt s.2) (W : World) (hs : SrcP W p s) : Calls Tryz.prog 140 #[.pointer (some ⟨p, 0, none⟩), .bool false] W (RetSt (.int .i64 (Sb.sInt s).1) p (Sb.sInt s).2 W) := by
  have HN := Lib.hid (num_val p 8 (.inr rfl) s hb W hs)
  obtain ⟨e1, e2⟩ := be_eight hb
  have HW := Lib.hid (show wrap64 (Sb.be (Sb.sTake 8 s).1) = (Sb.sInt s).1 by unfold Sb.sInt Sb.i64of wrap64; dsimp only; split <;> omega)
  go_enter Tryz.func140, Tryz.ntmps140
  go_wp2_with fail
  refine HN.out.mono ?_
  rintro e w1 ⟨rfl, h1, h2⟩
  dsimp only
  go_wp2_with fail
  go_ret
  exact ⟨by first | rfl | (rw [HW.out]; rfl), h1, h2⟩
theorem err_val (p : Nat) (s : Sb.Src) (W : World) (hs : SrcP W p s) : Calls Tryz.prog 100 #[.pointer (some ⟨p, 0, none⟩)] W (Same1 (.int .i64 s.1) W) := by
  have HI := Lib.hid (is_val p s W hs)
  obtain ⟨v, ⟨h, _⟩, _⟩ := hs
  have c2 : W.cell? ⟨p, 2, none⟩ = some (.int .i64 s.1) := by rw [Lib.cell_of_heap h]; rfl
  clear h
  go_enter Tryz.func100, Tryz.ntmps100
  go_wp2_with fail
  refine HI.out.mono ?_
  rintro e w ⟨rfl, rfl⟩
  dsimp only
  go_wp2_with fail
  go_ret
  exact ⟨rfl, rfl⟩
theorem left_val (p : Nat) (s : Sb.Src) (W : World) (hs : SrcP W p s) : Calls Tryz.prog 22 #[.pointer (some ⟨p, 0, none⟩)] W (Same1 (.int .i64 s.2.length) W) := by
  have HI := Lib.hid (is_val p s W hs)
  obtain ⟨v, ⟨h, _⟩, A, c, rfl, _⟩ := hs
  have c1 : W.cell? ⟨p, 1, none⟩ = some (.slice A s.2.length c) := by rw [Lib.cell_of_heap h]; rfl
  clear h
  go_enter Tryz.func22, Tryz.ntmps22
  go_wp2_with fail
  refine HI.out.mono ?_
  rintro e w ⟨rfl, rfl⟩
  dsimp only
  go_wp2_with fail
  go_ret
  exact ⟨rfl, rfl⟩
def endOf (s : Sb.Src) : Int := if s.1 = 0 then (if s.2 = [] then 0 else 9) else s.1
theorem end_val (p : Nat) (s : Sb.Src) (W : World) (hs : SrcP W p s) : Calls Tryz.prog 46 #[.pointer (some ⟨p, 0, none⟩)] W (Same1 (.int .i64 (endOf s)) W) := by
  have HE := Lib.hid (err_val p s W hs)
  have HL := Lib.hid (left_val p s W hs)
  by_cases he : s.1 = 0
  · cases hl : s.2 with
    | nil =>
      have HV := Lib.hid (show endOf s = 0 by unfold endOf; rw [if_pos he, if_pos hl])
      rw [he] at HE
      rw [hl] at HL
      clear hl he
      go_enter Tryz.func46, Tryz.ntmps46
      go_wp2_with fail
      refine HE.out.mono ?_
      rintro e w ⟨rfl, rfl⟩
      dsimp only
      go_wp2_with fail
      refine HL.out.mono ?_
      rintro e w ⟨rfl, rfl⟩
      dsimp only
      go_wp2_with fail
      go_ret
      exact ⟨by first | rfl | (rw [HV.out]; rfl), rfl⟩
    | cons x r =>
      have HV := Lib.hid (show endOf s = 9 by unfold endOf; rw [if_pos he, if_neg (by rw [hl]; simp)])
      rw [he] at HE
      rw [hl] at HL
      have hp : (0 : Int) < ((x :: r).length : Int) := by simp only [List.length_cons]; omega
      generalize (x :: r).length = M at HL hp
      clear hl he
      go_enter Tryz.func46, Tryz.ntmps46
      go_wp2_with fail
      refine HE.out.mono ?_
      rintro e w ⟨rfl, rfl⟩
      dsimp only
      go_wp2_with fail
      refine HL.out.mono ?_
      rintro e w ⟨rfl, rfl⟩
      dsimp only
      go_wp2_with fail
      go_ret
      exact ⟨by first | rfl | (rw [HV.out]; rfl), rfl⟩
  · have HV := Lib.hid (show endOf s = s.1 by unfold endOf; rw [if_neg he])
    go_enter Tryz.func46, Tryz.ntmps46
    go_wp2_with fail
    refine HE.out.mono ?_
    rintro e w ⟨rfl, rfl⟩
    dsimp only
    go_wp2_with fail
    go_ret
    exact ⟨by first | rfl | (rw [HV.out]; rfl), rfl⟩
set_option maxHeartbeats 2000000 in
theorem read_val (v : Value) (l : List Int) (W : World) (hv : SlB W v l) (hl : l.length ≤ 140737488355000) :
    Calls Tryz.prog 17 #[v] W (fun e w' => ∃ p, e = .returned (.pointer (some ⟨p, 0, none⟩)) ∧ W.heap.size ≤ p ∧ SrcP w' p (0, l) ∧ Below W.heap.size W w') := by
  have HC := Lib.hid (clone_val v l W hv hl)
  go_enter Tryz.func17, Tryz.ntmps17
  go_wp2_with fail
  refine HC.out.mono ?_
  rintro e w1 ⟨v1, rfl, hr, hb⟩
  have hsl := slb_row hr (by omega)
  have HLT := Lib.hid (vlt_row hr)
  obtain ⟨A, c, rfl, hc, hC⟩ := hsl
  have HC1 := Lib.hid hC
  have HB := Lib.hid hb
  clear hr hb hC
  dsimp only
  go_wp2_with fail
  go_ret
  exact ⟨w1.heap.size, rfl, HB.out.size, ⟨_, ⟨hp_new _ _ _ rfl, HLT.out⟩, A, c, rfl, hc, Kd.C_alloc HC1.out _⟩, HB.out.alloc HB.out.size _⟩
end Go.Proofs.YtcjidlgmbjebjaaGreatDoor

namespace Go.Proofs.YtcjidlgmbjebjaaGreatDoor
open Go Go.RowKit Go.Proofs.YtcjidlgmbjebjaaGreatDoorW.PrintWords
theorem tk_le : ∀ (l : List Int) (i : Nat) (n : Int), (Sb.tk i n l).2 ≤ i + l.length
  | [], i, n => by simp [Sb.tk]
  | c :: r, i, n => by
    rw [Sb.tk]
    split
    · split
      · simp
      · simp
    · have := tk_le r (i + 1) (Sb.tkN i n c)
      simp at this ⊢; omega
theorem take_le (l : List Int) : (Sb.takeV l).2 ≤ l.length := by have := tk_le l 0 0; unfold Sb.takeV; omega
theorem tk_nonneg : ∀ (l : List Int) (i : Nat) (n : Int), Byt l → 0 ≤ n → 0 ≤ (Sb.tk i n l).1
  | [], i, n, _, _ => by simp [Sb.tk]
  | c :: r, i, n, h, hn => by
    have hc := h c (by simp)
    have hN : 0 ≤ Sb.tkN i n c := by unfold Sb.tkN; split <;> omega
    rw [Sb.tk]
    split
    · split
      · exact hN
      · simp
    · exact tk_nonneg r (i + 1) _ (fun x hx => h x (List.mem_cons_of_mem _ hx)) hN
def VarQ (p bn : Nat) (g : Int) (l : List Int) (W0 : World) (m er : Int) (w' : World) : Prop :=
  Keep1 p W0 w' ∧ w'.cell? ⟨bn, 0, none⟩ = some (.int .u64 (Sb.sVar g (0, l)).1) ∧ (er = 0 → (Sb.sVar g (0, l)).2 = (0, l.drop m.toNat)) ∧ (er ≠ 0 → (Sb.sVar g (0, l)).2 = (er, []))
set_option maxHeartbeats 1000000 in
theorem var1_val (bp bg bn p : Nat) (g : Int) (l : List Int) (hb : Byt l) (W0 W : World) (hs : SrcP W p (0, l)) (hk0 : Keep1 p W0 W) (hbn : W0.heap.size ≤ bn)
    (z1 : W.cell? ⟨bp, 0, none⟩ = some (.pointer (some ⟨p, 0, none⟩))) (z2 : W.cell? ⟨bg, 0, none⟩ = some (.int .u64 g)) (z4 : W.heap[bn]? = some (.cells #[.int .u64 0] 111 (0, 0)))
    (d1 : bp ≠ bn) (d2 : bg ≠ bn) (d4 : p ≠ bn) :
    Calls Tryz.prog 158 #[.pointer (some ⟨bp, 0, none⟩), .pointer (some ⟨bg, 0, none⟩), .pointer (some ⟨bn, 0, none⟩)] W (RetDo p l (VarQ p bn g l W0)) := by
  have HS := Lib.hid hs
  obtain ⟨v, ⟨h, _⟩, A, c, rfl, hc, hC⟩ := hs
  have c1 : W.cell? ⟨p, 1, none⟩ = some (.slice A l.length c) := by rw [Lib.cell_of_heap h]; rfl
  have HT := Lib.hid (take_val A c l W ⟨A, c, rfl, hc, hC⟩ hb)
  have HL := Lib.hid (fun w hw => lacks_val A c l w (slb_below (show SlB W (.slice A l.length c) l from ⟨A, c, rfl, hc, hC⟩) hw))
  obtain ⟨x, k, hxk⟩ : ∃ x k, Sb.takeV l = (x, k) := ⟨_, _, rfl⟩
  have hkl := take_le l
  have hSV : Sb.sVar g (0, l) = (if k = 0 then (0, (if Sb.lacksV l then 8 else 9, [])) else if x > g then (0, (11, [])) else (x, (0, l.drop k))) := by
    unfold Sb.sVar
    rw [if_pos rfl, hxk]
  rw [hxk] at HT hkl
  dsimp only at HT hkl
  have HSV := Lib.hid hSV
  have H4 := Lib.hid z4
  have HK := Lib.hid hk0
  clear h hC hxk hSV z4 hk0 hb hc
  have hML : ∃ M, l.length = M := ⟨_, rfl⟩
  obtain ⟨M, hM⟩ := hML
  rw [hM] at c1 HT HL
  by_cases hk : k = 0
  · subst hk
    cases hla : Sb.lacksV l
    all_goals
      rw [hla] at HL
      have HV := HSV.out
      rw [if_pos rfl, hla] at HV
      have HV := Lib.hid HV
      clear HSV hla
      go_enter Tryz.func158, Tryz.ntmps158
      go_wp2_with fail
      (with_reducible refine Calls.mono HT.out ?_)
      rintro _ w1 ⟨rfl, hb1⟩
      have y1 := cell_later hb1 z1
      have yc := cell_later hb1 c1
      dsimp only
      go_wp2_with fail
      (with_reducible refine Calls.mono (HL.out _ hb1) ?_)
      rintro _ w2 ⟨rfl, hb2⟩
      have hB2 := below_step hb1 hb2
      have HF := Lib.hid (show w2.cell? ⟨bn, 0, none⟩ = some (.int .u64 0) by rw [Lib.cell_of_heap ((hB2.block bn (Array.getElem?_eq_some_iff.1 H4.out).1).trans H4.out)]; rfl)
      have HR := Lib.hid (src_below HS.out hB2)
      clear hb1 hb2
      dsimp only
      go_wp2_with fail
      go_ret2
      refine ⟨0, _, rfl, HR.out, fun h => absurd h (by decide), HK.out.trans (Keep1.of_below hB2), by rw [HV.out]; exact HF.out, fun h => absurd h (by decide), fun _ => by rw [HV.out]; rfl⟩
  · have HV := HSV.out
    rw [if_neg hk] at HV
    have hkb : (((k : Nat) : Int) == 0) = false := by rw [beq_eq_false_iff_ne]; omega
    by_cases hg : x > g
    · rw [if_pos hg] at HV
      have HV := Lib.hid HV
      clear HSV HL
      go_enter Tryz.func158, Tryz.ntmps158
      go_wp2_with fail
      (with_reducible refine Calls.mono HT.out ?_)
      rintro _ w1 ⟨rfl, hb1⟩
      have y1 := cell_later hb1 z1
      have y2 := cell_later hb1 z2
      have HF := Lib.hid (show w1.cell? ⟨bn, 0, none⟩ = some (.int .u64 0) by rw [Lib.cell_of_heap ((hb1.block bn (Array.getElem?_eq_some_iff.1 H4.out).1).trans H4.out)]; rfl)
      have HR := Lib.hid (src_below HS.out hb1)
      dsimp only
      go_wp2_with fail
      go_ret2
      refine ⟨0, _, rfl, HR.out, fun h => absurd h (by decide), HK.out.trans (Keep1.of_below hb1), by rw [HV.out]; exact HF.out, fun h => absurd h (by decide), fun _ => by rw [HV.out]⟩
    · rw [if_neg hg] at HV
      have HV := Lib.hid HV
      have hg' : x ≤ g := by omega
      clear HSV HL hg
      go_enter Tryz.func158, Tryz.ntmps158
      go_wp2_with fail
      (with_reducible refine Calls.mono HT.out ?_)
      rintro _ w1 ⟨rfl, hb1⟩
      have y1 := cell_later hb1 z1
      have y2 := cell_later hb1 z2
      have hz4 : w1.heap[bn]? = some (.cells #[.int .u64 0] 111 (0, 0)) := (hb1.block bn (Array.getElem?_eq_some_iff.1 H4.out).1).trans H4.out
      have y4 : w1.cell? ⟨bn, 0, none⟩ = some (.int .u64 0) := by rw [Lib.cell_of_heap hz4]; rfl
      have f4 : w1.frozen? ⟨bn, 0, none⟩ = false := Lib.frozen_of_heap hz4 0
      have HNB := Lib.hid (show NoByte w1 bn from nobyte_of hz4 fun i x hi => by
        match i, hi with
        | 0, hi => simp at hi
        | i + 1, hi => simp at hi)
      have HK2 := Lib.hid (show Keep1 bn w1 (w1.setCell ⟨bn, 0, none⟩ (.int .u64 x)) from (Keep1.refl bn w1).set 0 _)
      have HR := Lib.hid (src_keep (src_below HS.out hb1) HNB.out d4 HK2.out)
      have HC := Lib.hid (show (w1.setCell ⟨bn, 0, none⟩ (.int .u64 x)).cell? ⟨bn, 0, none⟩ = some (.int .u64 x) by rw [Lib.cell_of_heap (heap_setCell_same w1 bn 0 _ _ (.int .u64 x) hz4)]; rfl)
      have HKK := Lib.hid (keep_new (HK.out.trans (Keep1.of_below hb1)) HK2.out hbn)
      clear hz4
      dsimp only
      go_wp2_with fail
      go_ret2
      refine ⟨(k : Int), 0, rfl, HR.out, fun _ => ⟨by omega, by omega⟩, HKK.out, by rw [HV.out]; exact HC.out, fun _ => by rw [HV.out]; simp, fun h => absurd rfl h⟩
set_option maxHeartbeats 1000000 in
theorem svar_val (p : Nat) (g : Int) (s : Sb.Src) (hb : Byt s.2) (W : World) (hs : SrcP W p s) :
    Calls Tryz.prog 102 #[.pointer (some ⟨p, 0, none⟩), .int .u64 g] W (RetSt (.int .u64 (Sb.sVar g s).1) p (Sb.sVar g s).2 W) := by
  have hlt := src_lt hs
  have hmf : ∀ (fn : Fn) (first cap : Array Value) (w : World), (Instr.makeFunc fn first cap).run Tryz.prog w = .ok (.func fn first cap) w := fun _ _ _ _ => rfl
  obtain ⟨er0, l⟩ := s
  by_cases he : er0 = 0
  · subst he
    have HS := Lib.hid hs; clear hs
    go_enter Tryz.func102, Tryz.ntmps102
    go_wp2_with fail
    have hs4 := src_alloc (src_alloc (src_alloc HS.out (.cells #[.pointer (some ⟨p, 0, none⟩)] 47)) (.cells #[.int .u64 g] 111)) (.cells #[.int .u64 0] 111)
    have hst := step_185 p _ l _ hs4 _ (var1_val W.heap.size (W.heap.size + 1) (W.heap.size + 1 + 1) p g l hb W _ hs4 (((Keep1.refl p W).alloc _).alloc _ |>.alloc _) (by omega) (by go_cell) (by go_cell) (hp_new _ _ _ (by simp)) (by omega) (by omega) (by omega))
    refine hst.mono ?_
    rintro e w1 ⟨rfl, m, er, w2, ⟨hk2, hc2, q1, q2⟩, h3⟩
    have hres : SrcP w1 p (Sb.sVar g (0, l)).2 ∧ Keep1 p w2 w1 := by
      rcases h3 with ⟨h4, h5, h6⟩ | ⟨h4, h5, h6⟩
      · rw [q1 h4]; exact ⟨h5, h6⟩
      · rw [q2 h4]; exact ⟨h5, h6⟩
    have hc1 : w1.cell? ⟨W.heap.size + 1 + 1, 0, none⟩ = some (.int .u64 (Sb.sVar g (0, l)).1) := by
      rw [← hc2]
      unfold World.cell?
      rw [hres.2.block (cell_lt hc2) (by show _ ≠ p; omega)]
    have HR := Lib.hid hres
    have HK := Lib.hid hk2
    clear hs4 hst hk2 hc2 q1 q2 h3 hres
    dsimp only
    go_wp2_with fail
    go_ret
    exact ⟨rfl, HR.out.1, HK.out.trans HR.out.2⟩
  · have HS := Lib.hid hs; clear hs
    have HV := Lib.hid (show (Sb.sVar g (er0, l)) = (0, (er0, l)) by unfold Sb.sVar; rw [if_neg he])
    go_enter Tryz.func102, Tryz.ntmps102
    go_wp2_with fail
    have hs4 := src_alloc (src_alloc (src_alloc HS.out (.cells #[.pointer (some ⟨p, 0, none⟩)] 47)) (.cells #[.int .u64 g] 111)) (.cells #[.int .u64 0] 111)
    refine (step_err p _ _ he _ hs4).mono ?_
    rintro e w1 ⟨rfl, rfl⟩
    have HR := Lib.hid hs4
    clear hs4
    dsimp only
    go_wp2_with fail
    go_ret
    rw [HV.out]
    exact ⟨rfl, HR.out, ((Keep1.refl p W).alloc _).alloc _ |>.alloc _⟩
end Go.Proofs.YtcjidlgmbjebjaaGreatDoor
