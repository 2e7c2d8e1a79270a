/- A part of the proof of ValueForms. -/
import Derived.Test.YtcjidlgmbjebjaaDoorVfJ
import Derived.Deep.RegionHeldLaw
import Derived.Test.YtcjidlgmbjebjaaDoorVfG
import Derived.Test.YtcjidlgmbjebjaaDoorVfE
set_option linter.unusedVariables false
set_option linter.unusedSimpArgs false
set_option maxRecDepth 100000
namespace Go.Proofs.YtcjidlgmbjebjaaDoor
open Go Go.RowKit Go.Proofs.YtcjidlgmbjebjaaDoorW.PrintWords Go.Proofs.YtcjidlgmbjebjaaDoorW.PrintMore
theorem wrap_succ (i : Nat) (h : i < 9223372036854775807) : wrap64 ((i : Int) + 1) = ((i + 1 : Nat) : Int) := by unfold wrap64; omega
theorem l0_same (n : Int) (a c : Int) (b d : List Int) (x0 x1 : List Va) : ∀ (k : Nat) (i : Int), PValueForms.hachureref21_Same.l0 k n i a b x0 c d x1 = PValueForms.api_Value.l0 k x0 x1 n i
  | 0, i => by rw [PValueForms.hachureref21_Same.l0, PValueForms.api_Value.l0]
  | k + 1, i => by rw [PValueForms.hachureref21_Same.l0, PValueForms.api_Value.l0, l0_same n a c b d x0 x1 k]
theorem l0_some (x0 x1 : List Va) (hl : x0.length = x1.length) (hm : x0.length ≤ 9223372036854775807) : ∀ d i : Nat, i + d = x0.length → ∃ r, PValueForms.api_Value.l0 (d + 1) x0 x1 (x0.length : Int) (i : Int) = some r
  | 0, i, h => by
    rw [PValueForms.api_Value.l0, if_neg (by omega)]
    exact ⟨_, rfl⟩
  | d + 1, i, h => by
    obtain ⟨r, hr⟩ := l0_some x0 x1 hl hm d (i + 1) (by omega)
    rw [PValueForms.api_Value.l0, if_pos (by omega), if_pos (by omega), if_pos (by omega), if_pos (by omega)]
    by_cases hc : (!(((PValueForms.rd_T51 x0 i).f0) == ((PValueForms.rd_T51 x1 i).f0)) || (!(((PValueForms.rd_T51 x0 i).f1) == ((PValueForms.rd_T51 x1 i).f1)) || (!((((PValueForms.rd_T51 x0 i).f2).toList) == (((PValueForms.rd_T51 x1 i).f2).toList))))) = true
    · rw [if_pos hc]; exact ⟨_, rfl⟩
    · rw [if_neg hc, wrap_succ i (by omega)]; exact ⟨r, hr⟩
theorem same_both (a0 : Int) (b0 : List Int) (x0 : List Va) (a1 : Int) (b1 : List Int) (x1 : List Va) (hm : x0.length ≤ 9223372036854775807) :
    ∃ k r, PValueForms.value_Same.f k a0 b0 x0 a1 b1 x1 = some r ∧ PValueForms.hachureref21_Same.f (k + 1) a0 b0 x0 a1 b1 x1 = some r := by
  by_cases ha : a0 = a1
  · by_cases hb : (strOfNums b0).toList = (strOfNums b1).toList
    · by_cases hl : x0.length = x1.length
      · obtain ⟨r, hr⟩ := l0_some x0 x1 hl hm x0.length 0 (by omega)
        refine ⟨x0.length + 1, r, ?_, ?_⟩
        · unfold PValueForms.value_Same.f PValueForms.bytes_Equal.f PValueForms.api_Value.f
          rw [if_pos ha, Option.bind_some, if_pos (by rw [hb]; simp), if_pos (by omega)]
          rw [show ((0 : Int)) = ((0 : Nat) : Int) from rfl, hr]; rfl
        · unfold PValueForms.hachureref21_Same.f
          rw [if_pos ha, if_pos hb, PValueForms.hachureref21_Same.j0, if_neg (by simp; omega), l0_same]
          exact hr
      · refine ⟨0, false, ?_, ?_⟩
        · unfold PValueForms.value_Same.f PValueForms.bytes_Equal.f PValueForms.api_Value.f
          rw [if_pos ha, Option.bind_some, if_pos (by rw [hb]; simp), if_neg (by omega)]; rfl
        · unfold PValueForms.hachureref21_Same.f
          rw [if_pos ha, if_pos hb, PValueForms.hachureref21_Same.j0, if_pos (by simp; omega)]
    · refine ⟨0, false, ?_, ?_⟩
      · unfold PValueForms.value_Same.f PValueForms.bytes_Equal.f
        rw [if_pos ha, Option.bind_some, if_neg (by simp; exact hb)]
      · unfold PValueForms.hachureref21_Same.f
        rw [if_pos ha, if_neg hb, PValueForms.hachureref21_Same.j0, if_pos rfl]
  · refine ⟨0, false, ?_, ?_⟩
    · unfold PValueForms.value_Same.f
      rw [if_neg ha]
    · unfold PValueForms.hachureref21_Same.f
      rw [if_neg ha, PValueForms.hachureref21_Same.j0, if_pos rfl]
end Go.Proofs.YtcjidlgmbjebjaaDoor

namespace Go.Proofs.YtcjidlgmbjebjaaDoor
open Go Go.RowKit Go.Proofs.YtcjidlgmbjebjaaDoorW.PrintWords Go.Proofs.YtcjidlgmbjebjaaDoorW.PrintMore
theorem light_l0 (x0 : List Va) (hm : x0.length ≤ 9223372036854775807) : ∀ (d i : Nat) (s : Int), i + d = x0.length → ∃ r, PValueForms.hachurelaw21_light.l0 (d + 1) s x0 (x0.length : Int) (i : Int) = some r
  | 0, i, s, h => by
    rw [PValueForms.hachurelaw21_light.l0, if_neg (by omega)]
    exact ⟨_, rfl⟩
  | d + 1, i, s, h => by
    rw [PValueForms.hachurelaw21_light.l0, if_pos (by omega), if_pos (by omega), if_pos (by omega)]
    split
    · exact ⟨_, rfl⟩
    · rw [wrap_succ i (by omega)]
      exact light_l0 x0 hm d (i + 1) _ (by omega)
theorem light_some (a : Int) (l : List Int) (vs : List Va) (hm : vs.length ≤ 9223372036854775807) : ∃ k r, PValueForms.hachurelaw21_light.f k a l vs = some r := by
  by_cases h1 : (vs.length : Int) > 20
  · refine ⟨1, false, ?_⟩
    unfold PValueForms.hachurelaw21_light.f
    rw [if_pos h1, PValueForms.hachurelaw21_light.j0, if_pos rfl]
  · by_cases h2 : (l.length : Int) > 25000
    · refine ⟨1, false, ?_⟩
      unfold PValueForms.hachurelaw21_light.f
      rw [if_neg h1, PValueForms.hachurelaw21_light.j0, if_pos (by simpa using h2)]
    · obtain ⟨r, hr⟩ := light_l0 vs hm vs.length 0 (l.length : Int) (by omega)
      refine ⟨vs.length + 2, r, ?_⟩
      unfold PValueForms.hachurelaw21_light.f
      rw [if_neg h1, PValueForms.hachurelaw21_light.j0, if_neg (by simpa using h2)]
      exact hr
end Go.Proofs.YtcjidlgmbjebjaaDoor

namespace Go.Proofs.YtcjidlgmbjebjaaDoor
open Go Go.RowKit Go.Proofs.YtcjidlgmbjebjaaDoorW.PrintWords Go.Proofs.YtcjidlgmbjebjaaDoorW.PrintMore
/-- What a feature's blob and values read as. -/
def FeatOk (w : World) (A : Option Addr) (cb : Nat) (lb : List Int) (pa : Option Addr) (cap : Nat) (vs : List Va) : Prop :=
  Kd.C (Kd.int .u8) w A lb.length lb ∧ lb.length ≤ cb ∧ VsV w (.slice pa vs.length cap) vs ∧ vs.length ≤ cap ∧ Kd.C PValueForms.k51 w pa vs.length vs
theorem vsV_stays {w w' : World} {v : Value} {vs : List Va} (h : VsV w v vs) (hb : Below w.heap.size w w') : VsV w' v vs := by
  obtain ⟨pa, b, o, cap, hv, h1, h2, h3⟩ := h
  exact ⟨pa, b, o, cap, hv, h1, h2, fun i x hx => va_stays (h3 i x hx) hb⟩
theorem featOk_stays {w w' : World} {A : Option Addr} {cb : Nat} {lb : List Int} {pa : Option Addr} {cap : Nat} {vs : List Va} (h : FeatOk w A cb lb pa cap vs) (hb : Below w.heap.size w w') : FeatOk w' A cb lb pa cap vs :=
  ⟨Kd.C_below h.1 hb, h.2.1, vsV_stays h.2.2.1 hb, h.2.2.2.1, Kd.C_below h.2.2.2.2 hb⟩
theorem conv_eq {w : World} {base m c : Nat} {p : Option Addr} {l : List Int} (h : Row w base (.slice p m c) l) (hm : l.length ≤ 9223372036854775807) : (Go.convert 43 9 (.slice p m c)).run Tryd.prog w = .ok (.string (strOfNums l)) w := by
  obtain ⟨rfl, _, hC⟩ := row_C h hm
  exact Kd.C_string Tryd.underlying43 Tryd.underlying5 Tryd.underlying9 hC
theorem feat_len (lb : List Int) (vs : List Va) : (featB lb vs).length ≤ 9223372036854775807 := by
  by_cases h1 : vs.length ≤ 4
  · by_cases h2 : lb.length ≤ 20000
    · by_cases h3 : ∀ x ∈ vs, goodX x = true
      · rw [feat_ok h1 h2 h3]
        have hv := varB_len (lb.length : Int)
        have : ∀ l : List Va, (∀ x ∈ l, goodX x = true) → (vsB l).length ≤ l.length * 221 := by
          intro l
          induction l with
          | nil => intro _; simp [vsB]
          | cons a l ih =>
            intro h
            have e : vsB (a :: l) = elB a ++ vsB l := by simp [vsB]
            have h1 := ih fun x hx => h x (List.mem_cons_of_mem _ hx)
            have h2 := valB_len (h a List.mem_cons_self)
            rw [e, List.length_append]
            simp only [elB, List.length_cons]
            rw [Nat.add_mul]; omega
        have h4 := this vs h3
        simp only [List.length_append, List.length_cons, List.length_nil]
        omega
      · obtain ⟨x, hx, hb⟩ : ∃ x ∈ vs, goodX x = false := by
          apply Classical.byContradiction
          intro hn
          exact h3 fun x hx => by
            cases hg : goodX x with
            | true => rfl
            | false => exact absurd ⟨x, hx, hg⟩ hn
        obtain ⟨i, hi, rfl⟩ := List.getElem_of_mem hx
        rw [feat_bad (List.getElem?_eq_getElem hi) hb]; decide
    · rw [feat_long h2]; decide
  · rw [feat_many h1]; decide
set_option maxHeartbeats 16000000 in
theorem forms_walk (r1 : Int) (A1 : Option Addr) (cb1 : Nat) (lb1 : List Int) (pa1 : Option Addr) (cap1 : Nat) (vs1 : List Va) (r2 : Int) (A2 : Option Addr) (cb2 : Nat) (lb2 : List Int) (pa2 : Option Addr) (cap2 : Nat) (vs2 : List Va) (W : World)
    (h1 : FeatOk W A1 cb1 lb1 pa1 cap1 vs1) (h2 : FeatOk W A2 cb2 lb2 pa2 cap2 vs2) (hz1 : ∀ x ∈ vs1, x.f2.size ≤ 9223372036854775807) (l1 : vs1.length ≤ 9223372036854775807) (l2 : vs2.length ≤ 9223372036854775807)
    (hlives : ∀ w', Below W.heap.size W w' → Calls Tryd.prog 24 #[] w' (TrueBelow w')) :
    Calls Tryd.prog 4 #[featV r1 A1 lb1.length cb1 (.slice pa1 vs1.length cap1), featV r2 A2 lb2.length cb2 (.slice pa2 vs2.length cap2)] W (TrueBelow W) := by
  obtain ⟨ka, ra, hla⟩ := light_some r1 lb1 vs1 l1
  obtain ⟨kb, rb, hlb⟩ := light_some r2 lb2 vs2 l2
  obtain ⟨ks, rs, hs1, hs2⟩ := same_both r1 lb1 vs1 r2 lb2 vs2 l1
  have H1 := Lib.hid h1; clear h1
  have H2 := Lib.hid h2; clear h2
  have HL := Lib.hid hlives; clear hlives
  have HA := Lib.hid (fun (w' : World) (h : Below W.heap.size W w') => have h1 := featOk_stays H1.out h; PValueForms.hachurelaw21_light.calls ka r1 A1 cb1 lb1 pa1 cap1 vs1 ra w' h1.1 h1.2.1 h1.2.2.2.2 h1.2.2.2.1 hla)
  have HB := Lib.hid (fun (w' : World) (h : Below W.heap.size W w') => have h1 := featOk_stays H2.out h; PValueForms.hachurelaw21_light.calls kb r2 A2 cb2 lb2 pa2 cap2 vs2 rb w' h1.1 h1.2.1 h1.2.2.2.2 h1.2.2.2.1 hlb)
  have HS7 := Lib.hid (fun (w' : World) (h : Below W.heap.size W w') => have h1 := featOk_stays H1.out h; have h2 := featOk_stays H2.out h; PValueForms.value_Same.calls ks r1 A1 cb1 lb1 pa1 cap1 vs1 r2 A2 cb2 lb2 pa2 cap2 vs2 rs w' h1.1 h1.2.1 h1.2.2.2.2 h1.2.2.2.1 h2.1 h2.2.1 h2.2.2.2.2 h2.2.2.2.1 hs1)
  have HS8 := Lib.hid (fun (w' : World) (h : Below W.heap.size W w') => have h1 := featOk_stays H1.out h; have h2 := featOk_stays H2.out h; PValueForms.hachureref21_Same.calls (ks + 1) r1 A1 cb1 lb1 pa1 cap1 vs1 r2 A2 cb2 lb2 pa2 cap2 vs2 rs w' h1.1 h1.2.1 h1.2.2.2.2 h1.2.2.2.1 h2.1 h2.2.1 h2.2.2.2.2 h2.2.2.2.1 hs2)
  have HB5 := Lib.hid (fun (w' : World) (h : Below W.heap.size W w') => have h1 := featOk_stays H1.out h; bytes_val r1 A1 cb1 lb1 _ vs1 w' h1.1 h1.2.2.1 hz1 l1)
  have HB6 := Lib.hid (fun (w' : World) (h : Below W.heap.size W w') => have h1 := featOk_stays H1.out h; refbytes_val r1 A1 cb1 lb1 _ vs1 w' h1.1 h1.2.2.1 hz1 l1)
  have hfl := Lib.hid (feat_len lb1 vs1)
  clear hla hlb hs1 hs2 hz1
  unfold featV at HB5 HB6 ⊢
  go_enter Tryd.func4, Tryd.ntmps4
  go_wp2_with fail
  refine (HA.out _ (by go_grown)).mono ?_
  rintro e w1 ⟨rfl, hb⟩
  have y0 := cell_later (v := .int .i64 r1) hb (show World.cell? _ ⟨W.heap.size, 0, none⟩ = some (.int .i64 r1) from by go_cell)
  have y1 := cell_later (v := .slice A1 lb1.length cb1) hb (show World.cell? _ ⟨W.heap.size, 1, none⟩ = some (.slice A1 lb1.length cb1) from by go_cell)
  have y2 := cell_later (v := .slice pa1 vs1.length cap1) hb (show World.cell? _ ⟨W.heap.size, 2, none⟩ = some (.slice pa1 vs1.length cap1) from by go_cell)
  have x0 := cell_later (v := .int .i64 r2) hb (show World.cell? _ ⟨W.heap.size + 1, 0, none⟩ = some (.int .i64 r2) from by go_cell)
  have x1 := cell_later (v := .slice A2 lb2.length cb2) hb (show World.cell? _ ⟨W.heap.size + 1, 1, none⟩ = some (.slice A2 lb2.length cb2) from by go_cell)
  have x2 := cell_later (v := .slice pa2 vs2.length cap2) hb (show World.cell? _ ⟨W.heap.size + 1, 2, none⟩ = some (.slice pa2 vs2.length cap2) from by go_cell)
  have hB1 := below_step (show Below W.heap.size W _ from by go_grown) hb
  clear hb
  cases ra with
  | false =>
    dsimp only
    go_wp2_with fail
    refine (HL.out _ hB1).mono ?_
    rintro e w2 ⟨rfl, hb⟩
    have hB2 := below_step hB1 hb
    clear hb
    dsimp only
    go_wp2_with fail
    go_ret
    exact ⟨rfl, hB2⟩
  | true =>
  dsimp only
  go_wp2_with fail
  refine (HB.out _ hB1).mono ?_
  rintro e w2 ⟨rfl, hb⟩
  have hB2 := below_step hB1 hb
  have y0 := cell_later hb y0
  have y1 := cell_later hb y1
  have y2 := cell_later hb y2
  have x0 := cell_later hb x0
  have x1 := cell_later hb x1
  have x2 := cell_later hb x2
  clear hb
  cases rb with
  | false =>
    dsimp only
    go_wp2_with fail
    refine (HL.out _ hB2).mono ?_
    rintro e w3 ⟨rfl, hb⟩
    have hB3 := below_step hB2 hb
    clear hb
    dsimp only
    go_wp2_with fail
    go_ret
    exact ⟨rfl, hB3⟩
  | true =>
  dsimp only
  go_wp2_with fail
  go_region_held_law (fun w' => w'.cell? ⟨W.heap.size, 0, none⟩ = some (.int .i64 r1) ∧ w'.cell? ⟨W.heap.size, 1, none⟩ = some (.slice A1 lb1.length cb1) ∧ w'.cell? ⟨W.heap.size, 2, none⟩ = some (.slice pa1 vs1.length cap1) ∧
      w'.cell? ⟨W.heap.size + 1, 0, none⟩ = some (.int .i64 r2) ∧ w'.cell? ⟨W.heap.size + 1, 1, none⟩ = some (.slice A2 lb2.length cb2) ∧ w'.cell? ⟨W.heap.size + 1, 2, none⟩ = some (.slice pa2 vs2.length cap2) ∧ Below W.heap.size W w')
    (first
      | (go_keep; done)
      | ((repeat' apply And.intro) <;> first | (go_keep; done) | (rw [World.cell?_drew]; assumption) | (exact below_drew hB2))
      | (go_split_ands; (repeat' apply And.intro) <;> first | (exact cell_later hb8 (by assumption)) | (exact below_step (by assumption) hb8))
      | (go_split_ands; (repeat' apply And.intro) <;> first | (exact cell_later hb7 (by assumption)) | (exact below_step (by assumption) hb7))
      | (go_split_ands; (repeat' apply And.intro) <;> first | (exact cell_later hb6 (by assumption)) | (exact below_step (by assumption) hb6))
      | (go_split_ands; (repeat' apply And.intro) <;> first | (exact cell_later hb5 (by assumption)) | (exact below_step (by assumption) hb5)))
    (first
      | (go_at_call 25; go_split_ands; refine (HB5.out _ (by assumption)).mono ?_; rintro e w5 ⟨v5, rfl, hr5, hb5⟩; obtain ⟨p5, c5, rfl⟩ := row_shape hr5; have e5 := conv_eq hr5 hfl.out)
      | (go_at_call 26; go_split_ands; refine (HB6.out _ (by assumption)).mono ?_; rintro e w6 ⟨v6, rfl, hr6, hb6⟩; obtain ⟨p6, c6, rfl⟩ := row_shape hr6; have e5 := conv_eq (row_below hr5 hb6) hfl.out; have e6 := conv_eq hr6 hfl.out)
      | (go_at_call 27; go_split_ands; refine (HS7.out _ (by assumption)).mono ?_; rintro e w7 ⟨rfl, hb7⟩)
      | (go_at_call 28; go_split_ands; refine (HS8.out _ (by assumption)).mono ?_; rintro e w8 ⟨rfl, hb8⟩)
      | (go_at_call 24; go_split_ands; refine (HL.out _ (by assumption)).mono ?_; rintro e w8 ⟨rfl, hb8⟩))
  all_goals
    rename_i hH
    have hfin : Below W.heap.size W _ := hH.2.2.2.2.2.2
    clear hH
    go_wp2_with fail
    go_ret
    exact ⟨rfl, hfin⟩
end Go.Proofs.YtcjidlgmbjebjaaDoor

namespace Go.Proofs.YtcjidlgmbjebjaaDoor
open Go Go.RowKit Go.Proofs.YtcjidlgmbjebjaaDoorW.PrintWords Go.Proofs.YtcjidlgmbjebjaaDoorW.PrintMore
theorem lives_feat : strOfNums (featB [] [⟨1, 5, ⟨#[]⟩⟩]) = ⟨#[0, 1, 1, 0, 0, 0, 0, 0, 0, 0, 5]⟩ := by kernel_rfl
theorem lives_print : prV 2 0 ⟨#[97, 34, 98]⟩ = ⟨#[34, 97, 92, 34, 98, 34]⟩ := by kernel_rfl
set_option maxHeartbeats 4000000 in
theorem lives21 (W : World) (hp : PowIs W) : Calls Tryd.prog 24 #[] W (TrueBelow W) := by
  have hv : VsV (W.alloc (.cells #[.int .i64 1, .int .i64 5, .string ⟨#[]⟩] 51)) (.slice (some ⟨W.heap.size, 0, none⟩) 1 1) [⟨1, 5, ⟨#[]⟩⟩] :=
    ⟨_, W.heap.size, 0, 1, rfl, Nat.le_refl _, fun _ => rfl, fun i x hx => by
      match i, hx with
      | 0, hx => simp at hx; subst hx; exact ⟨by simp, by simp, by simp⟩⟩
  have hx := bytes_val 0 none 0 [] _ [⟨1, 5, ⟨#[]⟩⟩] _ (C_nil _) hv (by intro x hx; simp at hx; subst hx; decide) (by decide)
  have HX := Lib.hid hx
  have HF := Lib.hid (feat_len [] [⟨1, 5, ⟨#[]⟩⟩])
  have HP := Lib.hid (fun (w' : World) (h : Below W.heap.size W w') => print_val 2 0 ⟨#[97, 34, 98]⟩ w' (by decide) (by decide) (by decide) (pow_stays hp h))
  rw [lives_print] at HP
  clear hx hv hp
  unfold featV at HX
  go_enter Tryd.func24, Tryd.ntmps24
  go_wp2_with fail
  refine HX.out.mono ?_
  rintro e w1 ⟨v1, rfl, hr1, hb1⟩
  obtain ⟨p1, c1, hv1⟩ := row_shape hr1
  have e1 := conv_eq (by rw [← hv1]; exact hr1) HF.out
  rw [lives_feat] at e1
  generalize (featB [] [⟨1, 5, ⟨#[]⟩⟩]).length = M at hv1 e1
  subst hv1
  have hB1 := below_step (show Below W.heap.size W _ from by go_grown) hb1
  clear hr1 hb1
  dsimp only
  go_wp2_with fail
  refine (HP.out _ hB1).mono ?_
  rintro e w2 ⟨rfl, hb2⟩
  have hB2 := below_step hB1 hb2
  clear hb2
  dsimp only
  go_wp2_with fail
  go_ret
  exact ⟨rfl, hB2⟩
end Go.Proofs.YtcjidlgmbjebjaaDoor
