/- A part of the proof of ValueReads. -/
import Derived.Test.YtcjidlgmbjebjaaGreatDoorVri
import Derived.Test.YtcjidlgmbjebjaaGreatDoorVrza
import Derived.Test.YtcjidlgmbjebjaaGreatDoorVrzd
import Derived.Deep.RegionHeldLaw
import Derived.Test.YtcjidlgmbjebjaaGreatDoorVrh
import Derived.Test.YtcjidlgmbjebjaaGreatDoorVry
set_option linter.unusedVariables false
set_option linter.unusedSimpArgs false
set_option maxRecDepth 100000
namespace Go.Proofs.YtcjidlgmbjebjaaGreatDoor.PValueForms
open Go.RowKit Go.Proofs.YtcjidlgmbjebjaaGreatDoorW.PrintWords Go.Proofs.YtcjidlgmbjebjaaGreatDoorW.PrintLast Go.Proofs.YtcjidlgmbjebjaaGreatDoorW.PrintMore
attribute [local go_sem] max2_int min2_int max_two min_two max_three min_three max_four min_four
mutual
def hachurelaw21_light.j0 : Nat → Int → Bool → Int → List Int → List (S51) → Option (Bool)
  | 0, _, _, _, _, _ => none
  | k + 1, x3, x16, x102000, x102001, x102002 => if x16 = true then (some false) else (hachurelaw21_light.l0 k x3 x102002 (x102002.length : Int) 0)
def hachurelaw21_light.l0 : Nat → Int → List (S51) → Int → Int → Option (Bool)
  | 0, _, _, _, _ => none
  | k + 1, x3, x18, x19, x20 => if x20 < x19 then (if 0 ≤ x20 then (if x20 < (x18.length : Int) then (if (wrap64 (x3 + (((rd_T51 x18 x20).f2).size : Int))) > 30000 then (some false) else (hachurelaw21_light.l0 k (wrap64 (x3 + (((rd_T51 x18 x20).f2).size : Int))) x18 x19 (wrap64 (x20 + 1)))) else (none)) else (none)) else (some true)
end
theorem hachurelaw21_light.mono_l : ∀ k, (∀ y0 y1 y2 y3 y4, LeO (hachurelaw21_light.j0 k y0 y1 y2 y3 y4) (hachurelaw21_light.j0 (k + 1) y0 y1 y2 y3 y4)) ∧ (∀ y0 y1 y2 y3, LeO (hachurelaw21_light.l0 k y0 y1 y2 y3) (hachurelaw21_light.l0 (k + 1) y0 y1 y2 y3))
  | 0 => ⟨fun _ _ _ _ _ r h => by simp [hachurelaw21_light.j0] at h, fun _ _ _ _ r h => by simp [hachurelaw21_light.l0] at h⟩
  | k + 1 => by
    obtain ⟨ih0, ih1⟩ := hachurelaw21_light.mono_l k
    refine ⟨?_, ?_⟩
    · intro y0 y1 y2 y3 y4
      unfold hachurelaw21_light.j0
      repeat' first
      | (with_reducible exact ih0 _ _ _ _ _)
      | (with_reducible exact ih1 _ _ _ _)
      | (with_reducible exact LeO.refl _)
      | (with_reducible exact LeO.none _)
      | (with_reducible refine LeO.ite ?_ ?_)
      | (with_reducible refine LeO.bind ?_ (fun _ => ?_))
      | exact ih0 _ _ _ _ _
      | exact ih1 _ _ _ _
      | exact LeO.none _
      | refine LeO.ite ?_ ?_
      | refine LeO.bind ?_ (fun _ => ?_)
    · intro y0 y1 y2 y3
      unfold hachurelaw21_light.l0
      repeat' first
      | (with_reducible exact ih0 _ _ _ _ _)
      | (with_reducible exact ih1 _ _ _ _)
      | (with_reducible exact LeO.refl _)
      | (with_reducible exact LeO.none _)
      | (with_reducible refine LeO.ite ?_ ?_)
      | (with_reducible refine LeO.bind ?_ (fun _ => ?_))
      | exact ih0 _ _ _ _ _
      | exact ih1 _ _ _ _
      | exact LeO.none _
      | refine LeO.ite ?_ ?_
      | refine LeO.bind ?_ (fun _ => ?_)
end Go.Proofs.YtcjidlgmbjebjaaGreatDoor.PValueForms

namespace Go.Proofs.YtcjidlgmbjebjaaGreatDoor
open Go Go.RowKit Go.Proofs.YtcjidlgmbjebjaaGreatDoorW.PrintWords Go.Proofs.YtcjidlgmbjebjaaGreatDoorW.PrintMore
end Go.Proofs.YtcjidlgmbjebjaaGreatDoor

namespace Go.Proofs.YtcjidlgmbjebjaaGreatDoor
open Go Go.RowKit Go.Proofs.YtcjidlgmbjebjaaGreatDoorW.PrintWords Go.Proofs.YtcjidlgmbjebjaaGreatDoorW.PrintMore
end Go.Proofs.YtcjidlgmbjebjaaGreatDoor

namespace Go.Proofs.YtcjidlgmbjebjaaGreatDoor
open Go Go.RowKit Go.Proofs.YtcjidlgmbjebjaaGreatDoorW.PrintWords Go.Proofs.YtcjidlgmbjebjaaGreatDoorW.PrintMore
theorem conv_eq {w : World} {base m c : Nat} {p : Option Addr} {l : List Int} (h : Row w base (.slice p m c) l) (hm : l.length ≤ 9223372036854775807) : (Go.convert 25 9 (.slice p m c)).run Tryz.prog w = .ok (.string (strOfNums l)) w := by
  obtain ⟨rfl, _, hC⟩ := row_C h hm
  exact Kd.C_string Tryz.underlying25 Tryz.underlying5 Tryz.underlying9 hC
theorem feat_len (lb : List Int) (vs : List Va) : (featB lb vs).length ≤ 9223372036854775807 := by
  by_cases h1 : vs.length ≤ 4
  · by_cases h2 : lb.length ≤ 20000
    · by_cases h3 : ∀ x ∈ vs, goodX x = true
      · rw [feat_ok h1 h2 h3]
        have hv := varB_len (lb.length : Int)
        have : ∀ l : List Va, (∀ x ∈ l, goodX x = true) → (vsB l).length ≤ l.length * 221 := by
          intro l
          induction l with
          | nil => intro _; simp [vsB]
          | cons a l ih =>
            intro h
            have e : vsB (a :: l) = elB a ++ vsB l := by simp [vsB]
            have h1 := ih fun x hx => h x (List.mem_cons_of_mem _ hx)
            have h2 := valB_len (h a List.mem_cons_self)
            rw [e, List.length_append]
            simp only [elB, List.length_cons]
            rw [Nat.add_mul]; omega
        have h4 := this vs h3
        simp only [List.length_append, List.length_cons, List.length_nil]
        omega
      · obtain ⟨x, hx, hb⟩ : ∃ x ∈ vs, goodX x = false := by
          apply Classical.byContradiction
          intro hn
          exact h3 fun x hx => by
            cases hg : goodX x with
            | true => rfl
            | false => exact absurd ⟨x, hx, hg⟩ hn
        obtain ⟨i, hi, rfl⟩ := List.getElem_of_mem hx
        rw [feat_bad (List.getElem?_eq_getElem hi) hb]; decide
    · rw [feat_long h2]; decide
  · rw [feat_many h1]; decide
end Go.Proofs.YtcjidlgmbjebjaaGreatDoor

namespace Go.Proofs.YtcjidlgmbjebjaaGreatDoor
open Go Go.RowKit Go.Proofs.YtcjidlgmbjebjaaGreatDoorW.PrintWords Go.Proofs.YtcjidlgmbjebjaaGreatDoorW.PrintMore
theorem lives_feat : strOfNums (featB [] [⟨1, 5, ⟨#[]⟩⟩]) = ⟨#[0, 1, 1, 0, 0, 0, 0, 0, 0, 0, 5]⟩ := by kernel_rfl
theorem lives_print : prV 2 0 ⟨#[97, 34, 98]⟩ = ⟨#[34, 97, 92, 34, 98, 34]⟩ := by kernel_rfl
set_option maxHeartbeats 4000000 in
theorem lives21 (W : World) (hp : PowIs W) : Calls Tryz.prog 12 #[] W (TrueBelow W) := by
  have hv : VsV (W.alloc (.cells #[.int .i64 1, .int .i64 5, .string ⟨#[]⟩] 32)) (.slice (some ⟨W.heap.size, 0, none⟩) 1 1) [⟨1, 5, ⟨#[]⟩⟩] :=
    ⟨_, W.heap.size, 0, 1, rfl, Nat.le_refl _, fun _ => rfl, fun i x hx => by
      match i, hx with
      | 0, hx => simp at hx; subst hx; exact ⟨by simp, by simp, by simp⟩⟩
  have hx := fbytes_val 0 none 0 [] _ [⟨1, 5, ⟨#[]⟩⟩] _ (C_nil _) hv (by intro x hx; simp at hx; subst hx; decide) (by decide)
  have HX := Lib.hid hx
  have HF := Lib.hid (feat_len [] [⟨1, 5, ⟨#[]⟩⟩])
  have HP := Lib.hid (fun (w' : World) (h : Below W.heap.size W w') => print_val 2 0 ⟨#[97, 34, 98]⟩ w' (by decide) (by decide) (by decide) (pow_stays hp h))
  rw [lives_print] at HP
  clear hx hv hp
  unfold featV at HX
  go_enter Tryz.func12, Tryz.ntmps12
  go_wp2_with fail
  refine HX.out.mono ?_
  rintro e w1 ⟨v1, rfl, hr1, hb1⟩
  obtain ⟨p1, c1, hv1⟩ := row_shape hr1
  have e1 := conv_eq (by rw [← hv1]; exact hr1) HF.out
  rw [lives_feat] at e1
  generalize (featB [] [⟨1, 5, ⟨#[]⟩⟩]).length = M at hv1 e1
  subst hv1
  have hB1 := below_step (show Below W.heap.size W _ from by go_grown) hb1
  clear hr1 hb1
  dsimp only
  go_wp2_with fail
  refine (HP.out _ hB1).mono ?_
  rintro e w2 ⟨rfl, hb2⟩
  have hB2 := below_step hB1 hb2
  clear hb2
  dsimp only
  go_wp2_with fail
  go_ret
  exact ⟨rfl, hB2⟩
end Go.Proofs.YtcjidlgmbjebjaaGreatDoor

namespace Go.Proofs.YtcjidlgmbjebjaaGreatDoor
open Go Go.RowKit Go.Proofs.YtcjidlgmbjebjaaGreatDoorW.PrintWords Go.Proofs.YtcjidlgmbjebjaaGreatDoorW.PrintMore
theorem slice_eq {a a' : Option Addr} {n n' c c' : Nat} (h : Value.slice a n c = .slice a' n' c') : a = a' ∧ n = n' ∧ c = c' := by injection h with h1 h2 h3; exact ⟨h1, h2, h3⟩
theorem flat3_get (vs : List Va) : ∀ (i : Nat) (x : Va), vs[i]? = some x → (flat3 (vs.map toV3))[i * 3]? = some (.int .i64 x.f0) ∧ (flat3 (vs.map toV3))[i * 3 + 1]? = some (.int .i64 x.f1) ∧ (flat3 (vs.map toV3))[i * 3 + 2]? = some (.string x.f2) := by
  induction vs with
  | nil => intro i c h; simp at h
  | cons d cs ih =>
    intro i c h
    cases i with
    | zero => simp at h; subst h; simp [flat3, toV3]
    | succ i =>
      simp at h
      obtain ⟨h1, h2, h3⟩ := ih i c h
      have e : ∀ j, (flat3 ((d :: cs).map toV3))[j + 3]? = (flat3 (cs.map toV3))[j]? := fun j => by
        show ([Value.int .i64 d.f0, .int .i64 d.f1, .string d.f2] ++ flat3 (cs.map toV3))[j + 3]? = _
        rw [List.getElem?_append_right (by simp)]; simp
      rw [show (i + 1) * 3 = i * 3 + 3 by omega, show i * 3 + 3 + 1 = i * 3 + 1 + 3 by omega, show i * 3 + 3 + 2 = i * 3 + 2 + 3 by omega, e, e, e]
      exact ⟨h1, h2, h3⟩
theorem own_k51 {w : World} {B vn vc : Nat} {vA : Option Addr} {vs : List Va} (h : w.ownsRow B 32 3 (.slice vA vn vc) vs.length (flat3 (vs.map toV3))) (hm : vs.length ≤ 9223372036854775807) :
    vn = vs.length ∧ vs.length ≤ vc ∧ Kd.C PValueForms.k51 w vA vs.length vs := by
  have h0 := h
  obtain ⟨_, ⟨hv, h2⟩ | ⟨g, cap, cur, hv, hg, hb, hcap, _⟩⟩ := h
  · obtain ⟨rfl, rfl, rfl⟩ := slice_eq hv
    obtain rfl : vs = [] := List.eq_nil_of_length_eq_zero (by omega)
    exact ⟨rfl, Nat.le_refl _, ⟨rfl, by decide, fun h => absurd h (by decide)⟩⟩
  · obtain ⟨rfl, rfl, rfl⟩ := slice_eq hv
    refine ⟨rfl, hcap, ⟨rfl, hm, fun _ => ⟨_, rfl, fun j d hd => ⟨_, rfl, PValueForms.k51_mk w d, fun i u hu => ?_⟩⟩⟩⟩
    obtain ⟨h1, h2, h3⟩ := flat3_get vs j d hd
    have hgc := h0.cells (g := g) (by rfl)
    have g0 := hgc _ _ h1
    have g1 := hgc _ _ h2
    have g2 := hgc _ _ h3
    match i, hu with
    | 0, hu => simp at hu; subst hu; exact g0
    | 1, hu => simp at hu; subst hu; exact g1
    | 2, hu => simp at hu; subst hu; exact g2
end Go.Proofs.YtcjidlgmbjebjaaGreatDoor

namespace Go.Proofs.YtcjidlgmbjebjaaGreatDoor
open Go Go.RowKit Go.Proofs.YtcjidlgmbjebjaaGreatDoorW.PrintWords Go.Proofs.YtcjidlgmbjebjaaGreatDoorW.PrintMore
open PValueForms in
theorem rsame_l (a : Int) (b : List Int) (x : List Va) (hm : x.length ≤ 9223372036854775806) : ∀ (d i : Nat), i + d = x.length → hachureref21_Same.l0 (d + 1) (x.length : Int) (i : Int) a b x a b x = some true := by
  intro d
  induction d with
  | zero =>
    intro i h
    rw [hachureref21_Same.l0, if_neg (by omega)]
  | succ d ih =>
    intro i h
    have hw : wrap64 ((i : Int) + 1) = ((i + 1 : Nat) : Int) := by unfold wrap64; omega
    rw [hachureref21_Same.l0, if_pos (by omega), if_pos (by omega), if_pos (by omega), if_pos (by omega), if_neg (by simp), hw]
    exact ih (i + 1) (by omega)
open PValueForms in
theorem rsame_self (a : Int) (b : List Int) (x : List Va) (hm : x.length ≤ 9223372036854775806) : hachureref21_Same.f (x.length + 2) a b x a b x = some true := by
  unfold hachureref21_Same.f
  rw [if_pos rfl, if_pos rfl, hachureref21_Same.j0, if_neg (by simp)]
  exact rsame_l a b x hm x.length 0 (by omega)
def FeatIs (w : World) (v : Value) (row : Int) (lb : List Int) (vs : List Sb.V3) : Prop :=
  ∃ bA bn bc vA vn vc B, v = .agg #[.int .i64 row, .slice bA bn bc, .slice vA vn vc] ∧ SlB w (.slice bA bn bc) lb ∧ w.ownsRow B 32 3 (.slice vA vn vc) vs.length (flat3 vs)
theorem FeatIs.below {w w' : World} {v : Value} {row : Int} {lb : List Int} {vs : List Sb.V3} (h : FeatIs w v row lb vs) (hb : Below w.heap.size w w') : FeatIs w' v row lb vs := by
  obtain ⟨bA, bn, bc, vA, vn, vc, B, e, h1, h2⟩ := h
  exact ⟨bA, bn, bc, vA, vn, vc, B, e, slb_below h1 hb, own_below h2 hb⟩
theorem own_notT {w wf : World} {R B n T : Nat} {v : Value} {xs : List Value} {cs : Array Value} (h : w.ownsRow B 32 3 v n xs) (hT : T ≠ 32) (hR : BlkAt w R cs T) (hk : Keep1 R w wf) : wf.ownsRow B 32 3 v n xs := by
  refine h.kept (keep_grown hk) ?_
  rcases h.2 with ⟨rfl, _⟩ | ⟨g, cap, cur, rfl, _, hg, _⟩
  · exact .inl rfl
  · refine .inr fun e => ?_
    injection e with e
    subst e
    have := hg.symm.trans hR
    injection this with this
    injection this with _ e2 _
    exact hT e2.symm
theorem FeatIs.keepR {w w' : World} {q : Nat} {s : Sb.Src} {v : Value} {row : Int} {lb : List Int} {vs : List Sb.V3} (h : FeatIs w v row lb vs) (hs : SrcR w q s) (hk : Keep1 q w w') : FeatIs w' v row lb vs := by
  obtain ⟨bA, bn, bc, vA, vn, vc, B, e, h1, h2⟩ := h
  have hs2 := hs
  obtain ⟨x, ⟨hb, _⟩, _⟩ := hs2
  exact ⟨bA, bn, bc, vA, vn, vc, B, e, slb_keep h1 (srcR_nobyte hs) hk, own_notT h2 (by decide) hb hk⟩
theorem feat_zero (w : World) : FeatIs w (.agg #[.int .i64 0, .slice none 0 0, .slice none 0 0]) 0 [] [] := ⟨none, 0, 0, none, 0, 0, 0, rfl, slb_nil _ _ _, World.ownsRow_nil _ _ _ _⟩
def ofV3 (x : Sb.V3) : Va := ⟨x.1, x.2.1, x.2.2⟩
theorem toV3_of (vs : List Sb.V3) : (vs.map ofV3).map toV3 = vs := by
  rw [List.map_map]
  have : (toV3 ∘ ofV3) = id := by funext x; rfl
  rw [this, List.map_id]
theorem same_feat {w : World} {v v' : Value} {row : Int} {lb : List Int} {vs : List Sb.V3} (h : FeatIs w v row lb vs) (h' : FeatIs w v' row lb vs) (hm : vs.length ≤ 1000) :
    Calls Tryz.prog 21 #[v, v'] w (fun e w' => e = .returned (.bool true) ∧ Below w.heap.size w w') := by
  obtain ⟨bA, bn, bc, vA, vn, vc, B, rfl, h1, h2⟩ := h
  obtain ⟨bA', bn', bc', vA', vn', vc', B', rfl, h1', h2'⟩ := h'
  obtain ⟨A, c, e1, hc, hC⟩ := h1
  obtain ⟨A', c', e1', hc', hC'⟩ := h1'
  obtain ⟨rfl, rfl, rfl⟩ := slice_eq e1
  obtain ⟨rfl, rfl, rfl⟩ := slice_eq e1'
  rw [← toV3_of vs] at h2 h2'
  rw [List.length_map] at h2 h2'
  have hl : (vs.map ofV3).length ≤ 1000 := by rw [List.length_map]; exact hm
  obtain ⟨rfl, hvc, hV⟩ := own_k51 h2 (by omega)
  obtain ⟨rfl, hvc', hV'⟩ := own_k51 h2' (by omega)
  exact PValueForms.hachureref21_Same.calls _ row bA bc lb vA vc (vs.map ofV3) row bA' bc' lb vA' vc' (vs.map ofV3) true w hC hc hV hvc hC' hc' hV' hvc' (rsame_self row lb (vs.map ofV3) (by omega))
end Go.Proofs.YtcjidlgmbjebjaaGreatDoor

namespace Go.Proofs.YtcjidlgmbjebjaaGreatDoor
open Go Go.RowKit Go.Proofs.YtcjidlgmbjebjaaGreatDoorW.PrintWords
theorem svals_len : ∀ (n : Nat) (s : Sb.Src) (vs : List Sb.V3), (Sb.sVals okV n s).1 = some vs → vs.length ≤ n := by
  intro n
  induction n with
  | zero => intro s vs h; simp [Sb.sVals] at h; subst h; simp
  | succ n ih =>
    intro s vs h
    rw [Sb.sVals] at h
    split at h
    · split at h
      · simp only [Option.map_eq_some_iff] at h
        obtain ⟨r, h1, rfl⟩ := h
        have := ih _ _ h1
        simp; omega
      · cases h
    · injection h with h; subst h; simp
theorem sfrom_len {s : Sb.Src} {lb : List Int} {vs : List Sb.V3} (h : (Sb.sFrom okV s).1 = some (lb, vs)) : vs.length ≤ 4 := by
  unfold Sb.sFrom at h
  split at h
  · cases h
  · split at h
    · simp only [Option.map_eq_some_iff] at h
      obtain ⟨r, h1, h2⟩ := h
      injection h2 with _ h2
      subst h2
      have := svals_len _ _ _ h1
      omega
    · cases h
theorem parse_len {l : List Int} {lb : List Int} {vs : List Sb.V3} (h : Sb.parseF okV l = some (lb, vs)) : vs.length ≤ 4 := by
  unfold Sb.parseF at h
  split at h
  · exact sfrom_len h
  · cases h
def RetPF (r : Int) (lb : List Int) (vs : List Sb.V3) (pe : Int) (W : World) (e : Ending) (w' : World) : Prop :=
  ∃ bA bn bc vA vn vc, e = .returned (.tuple #[.agg #[.int .i64 r, .slice bA bn bc, .slice vA vn vc], .int .i64 pe]) ∧ FeatIs w' (.agg #[.int .i64 r, .slice bA bn bc, .slice vA vn vc]) r lb vs ∧ Below W.heap.size W w'
theorem ret_pf {row : Int} {l : List Int} {W w' : World} {e : Ending} (h : RetPv row l W e w') :
    (∀ lb vs, Sb.parseF okV l = some (lb, vs) → RetPF row lb vs 0 W e w') ∧ (Sb.parseF okV l = none → RetPF 0 [] [] 9 W e w') := by
  obtain ⟨hb, ⟨lb, vs, B, bA, bn, bc, vA, vn, vc, hp, rfl, h1, h2⟩ | ⟨hp, rfl⟩⟩ := h
  · refine ⟨fun lb' vs' h => ?_, fun h => by rw [hp] at h; cases h⟩
    rw [hp] at h
    injection h with h
    injection h with h3 h4
    subst h3 h4
    exact ⟨bA, bn, bc, vA, vn, vc, rfl, ⟨_, _, _, _, _, _, B, rfl, h1, h2⟩, hb⟩
  · refine ⟨fun lb' vs' h => (by rw [hp] at h; cases h), fun h => ?_⟩
    exact ⟨none, 0, 0, none, 0, 0, rfl, feat_zero w', hb⟩
theorem parses (row : Int) (v0 : Value) (l : List Int) (hb : Byt l) (hl : l.length ≤ 100000) : ∃ r lb vs pe, vs.length ≤ 4 ∧ (∀ W, SlB W v0 l → Calls Tryz.prog 15 #[.int .i64 row, v0] W (RetPF r lb vs pe W)) ∧ ∀ W, SlB W v0 l → Calls Tryz.prog 16 #[.int .i64 row, v0] W (RetPF r lb vs pe W) := by
  cases hp : Sb.parseF okV l with
  | none => exact ⟨0, [], [], 9, by simp, fun W h => (vparse_val row v0 l hb hl W h).mono fun e w' h => (ret_pf h).2 hp, fun W h => (rparse_val row v0 l hb hl W h).mono fun e w' h => (ret_pf h).2 hp⟩
  | some x =>
    obtain ⟨lb, vs⟩ := x
    exact ⟨row, lb, vs, 0, parse_len hp, fun W h => (vparse_val row v0 l hb hl W h).mono fun e w' h => (ret_pf h).1 lb vs hp, fun W h => (rparse_val row v0 l hb hl W h).mono fun e w' h => (ret_pf h).1 lb vs hp⟩
def RetF1 (p : Nat) (r : Int) (lb : List Int) (vs : List Sb.V3) (ok : Bool) (s : Sb.Src) (W : World) (e : Ending) (w' : World) : Prop :=
  ∃ bA bn bc vA vn vc, e = .returned (.tuple #[.agg #[.int .i64 r, .slice bA bn bc, .slice vA vn vc], .bool ok]) ∧ FeatIs w' (.agg #[.int .i64 r, .slice bA bn bc, .slice vA vn vc]) r lb vs ∧ SrcP w' p s ∧ Keep1 p W w'
def RetF2 (p : Nat) (r : Int) (lb : List Int) (vs : List Sb.V3) (ok : Bool) (s : Sb.Src) (W : World) (e : Ending) (w' : World) : Prop :=
  ∃ c bA bn bc vA vn vc, e = .returned (.tuple #[.agg #[.int .i64 c, .slice bA bn bc, .slice vA vn vc], .bool ok]) ∧ (ok = true → FeatIs w' (.agg #[.int .i64 c, .slice bA bn bc, .slice vA vn vc]) r lb vs) ∧ SrcR w' p s ∧ Keep1 p W w'
theorem froms (row : Int) (l : List Int) (hb : Byt l) (hl : l.length ≤ 100000) : ∃ r lb vs ok s, vs.length ≤ 4 ∧ (ok = false → r = 0 ∧ lb = [] ∧ vs = []) ∧ (∀ p W, SrcP W p (0, l) → Calls Tryz.prog 19 #[.pointer (some ⟨p, 0, none⟩), .int .i64 row] W (RetF1 p r lb vs ok s W)) ∧ ∀ p W, SrcR W p (0, l) → Calls Tryz.prog 20 #[.pointer (some ⟨p, 0, none⟩), .int .i64 row] W (RetF2 p r lb vs ok s W) := by
  have I0 : Inv (0, l) := ⟨hb, by show l.length ≤ _; omega⟩
  cases hp : (Sb.sFrom okV (0, l)).1 with
  | none =>
    refine ⟨0, [], [], false, (Sb.sFrom okV (0, l)).2, by simp, fun _ => ⟨rfl, rfl, rfl⟩, fun p W h => (From_val p row (0, l) I0 W h).mono ?_, fun p W h => (rfrom_val p row (0, l) I0 hl W h).mono ?_⟩
    · rintro e w' ⟨h1, h2, ⟨lb, vs, B, bA, bn, bc, vA, vn, vc, h3, _⟩ | ⟨h3, rfl⟩⟩
      · rw [hp] at h3; cases h3
      · exact ⟨none, 0, 0, none, 0, 0, rfl, feat_zero w', h1, h2⟩
    · rintro e w' ⟨h1, h2, bA, bn, bc, vA, vn, vc, ⟨lb, vs, B, h3, _⟩ | ⟨h3, rfl⟩⟩
      · rw [hp] at h3; cases h3
      · exact ⟨row, bA, bn, bc, vA, vn, vc, rfl, fun h => (by cases h), h1, h2⟩
  | some x =>
    obtain ⟨lb, vs⟩ := x
    refine ⟨row, lb, vs, true, (Sb.sFrom okV (0, l)).2, sfrom_len hp, fun h => (by cases h), fun p W h => (From_val p row (0, l) I0 W h).mono ?_, fun p W h => (rfrom_val p row (0, l) I0 hl W h).mono ?_⟩
    · rintro e w' ⟨h1, h2, ⟨lb', vs', B, bA, bn, bc, vA, vn, vc, h3, rfl, h4, h5⟩ | ⟨h3, _⟩⟩
      · rw [hp] at h3
        injection h3 with h3
        injection h3 with h6 h7
        subst h6 h7
        exact ⟨bA, bn, bc, vA, vn, vc, rfl, ⟨_, _, _, _, _, _, B, rfl, h4, h5⟩, h1, h2⟩
      · rw [hp] at h3; cases h3
    · rintro e w' ⟨h1, h2, bA, bn, bc, vA, vn, vc, ⟨lb', vs', B, h3, rfl, h4, h5⟩ | ⟨h3, _⟩⟩
      · rw [hp] at h3
        injection h3 with h3
        injection h3 with h6 h7
        subst h6 h7
        exact ⟨row, bA, bn, bc, vA, vn, vc, rfl, fun _ => ⟨_, _, _, _, _, _, B, rfl, h4, h5⟩, h1, h2⟩
      · rw [hp] at h3; cases h3
theorem srcR_val {w : World} {p : Nat} {s : Sb.Src} (h : SrcR w p s) : ∃ A c, w.cell? ⟨p, 0, none⟩ = some (.slice A s.2.length c) ∧ w.heap[p]? = some (.cells #[.slice A s.2.length c, .int .i64 s.1] 57 (0, 0)) := by
  obtain ⟨v, ⟨h1, _⟩, A, c, rfl, _, _⟩ := h
  exact ⟨A, c, by rw [Lib.cell_of_heap h1]; rfl, h1⟩
end Go.Proofs.YtcjidlgmbjebjaaGreatDoor
