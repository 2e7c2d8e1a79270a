/- The rest of ModelNone, by the evaluator, out of the walk's frame. -/
import Derived.Test.YtecedjbhjdgnoaaGreatDoorMdRun
import Derived.Test.YtecedjbhjdgnoaaGreatDoorMdLives
import Derived.Test.YtecedjbhjdgnoaaGreatDoorEvE
import Derived.Handy
set_option linter.unusedVariables false
set_option linter.unusedSimpArgs false
set_option maxRecDepth 100000
namespace Go.Proofs.YtecedjbhjdgnoaaGreatDoor.Ev.Tryz
open Go Go.Proofs.YtecedjbhjdgnoaaGreatDoor.Ev Go.Proofs.Tryz Go.RowKit
def gsOf (r : Nat) : Option Glob := if r = 0 then some g0 else none
def baseOf (vs : List Value) (r : Nat) : Option Pl := if 9 ≤ r then (vs[r - 9]?).map parP else none
def phiOf (vs : List Value) (b0 r : Nat) : Option Pl := if r < 8 then some (globP gsOf r) else if r = 8 then some ⟨b0, 0, 16, 16, 16, false, true, none⟩ else  baseOf vs r
theorem GR_of (vs : List Value) (b0 : Nat) : GR (E (baseOf vs)) (phiOf vs b0) := by
  refine ⟨fun g hg => ?_, fun r p h => ?_⟩
  · have hg : g < 8 := hg
    refine ⟨_, if_pos hg, ?_, ?_⟩ <;> (unfold globP; split <;> rfl)
  · have h : baseOf vs r = some p := h
    have hr : 9 ≤ r := by
      unfold baseOf at h
      split at h
      · assumption
      · cases h
    unfold phiOf
    rw [if_neg (by omega), if_neg (by omega)]
    exact h
theorem phi_par {vs : List Value} {b0 k : Nat} {v : Value} (h : vs[k]? = some v) : phiOf vs b0 (k + 9) = some (parP v) := by
  unfold phiOf baseOf
  rw [if_neg (by omega), if_neg (by omega), if_pos (by omega), show k + 9 - 9 = k by omega, h]
  rfl
theorem par_of {vs : List Value} {b0 k : Nat} {v : Value} (h : vs[k]? = some v) (h1 : v.oneCell' = true) : VR (phiOf vs b0) (.par (k + 9)) v := .par (p := parP v) (phi_par h) rfl h1
theorem pin_of {vs : List Value} {b0 k : Nat} {n : Int} (h : vs[k]? = some (.int .i64 n)) : VR (phiOf vs b0) (.pin .i64 (k + 9)) (.int .i64 n) := .pin (p := parP (.int .i64 n)) (phi_par h) rfl
theorem base_lt {vs : List Value} {n r m : Nat} {p : Pl} (h : baseOf vs r = some p) (hl : vs.length = n) (hm : 9 + n ≤ m) : r < m := by
  unfold baseOf at h
  split at h
  · cases hv : vs[r - 9]? with
    | none => rw [hv] at h; cases h
    | some v =>
      have := (List.getElem?_eq_some_iff.1 hv).1
      omega
  · cases h
theorem gs_lt {r : Nat} {x : Glob} (h : gsOf r = some x) : r < 8 := by
  unfold gsOf at h
  split at h
  · omega
  · cases h
theorem objs_get {r : Nat} {o : Go.Proofs.YtecedjbhjdgnoaaGreatDoor.Ev.Obj} (h : objs0.get r = some o) : ∃ x, gsOf r = some x ∧ o = objOf x := by
  have hr : r < 8 := get_lt (n := 8) (t := objs0) rfl h
  match r, hr with
  | 0, _ => first | exact ⟨_, rfl, (Option.some.inj h).symm⟩ | cases h
  | 1, _ => first | exact ⟨_, rfl, (Option.some.inj h).symm⟩ | cases h
  | 2, _ => first | exact ⟨_, rfl, (Option.some.inj h).symm⟩ | cases h
  | 3, _ => first | exact ⟨_, rfl, (Option.some.inj h).symm⟩ | cases h
  | 4, _ => first | exact ⟨_, rfl, (Option.some.inj h).symm⟩ | cases h
  | 5, _ => first | exact ⟨_, rfl, (Option.some.inj h).symm⟩ | cases h
  | 6, _ => first | exact ⟨_, rfl, (Option.some.inj h).symm⟩ | cases h
  | 7, _ => first | exact ⟨_, rfl, (Option.some.inj h).symm⟩ | cases h

set_option maxHeartbeats 2000000 in
theorem rest_wp {Q : Exit → Act → World → Prop} (s0 : Value) (n0 : Int) (v1 : Value) (v2 : Value) (v3 : Value) (v4 : Value) (v5 : Value) (v6 : Value) (v7 : Value) (v8 : Value) (v9 : Value) (v10 : Value) (v11 : Value) (v12 : Value) (v13 : Value) (v14 : Value) (v15 : Value) (hs0 : s0.oneCell' = true) (hv1 : v1.oneCell' = true) (hv2 : v2.oneCell' = true) (hv3 : v3.oneCell' = true) (hv4 : v4.oneCell' = true) (hv5 : v5.oneCell' = true) (hv6 : v6.oneCell' = true) (hv7 : v7.oneCell' = true) (hv8 : v8.oneCell' = true) (hv9 : v9.oneCell' = true) (hv10 : v10.oneCell' = true) (hv11 : v11.oneCell' = true) (hv12 : v12.oneCell' = true) (hv13 : v13.oneCell' = true) (hv14 : v14.oneCell' = true) (hv15 : v15.oneCell' = true)
    (b0 : Nat) (W : World) (hb0 : b0 < W.heap.size) (hg : ∀ base g x, gsOf g = some x → GlobOk (E base) W g x)
    (k0 : W.cell? ⟨b0, 0, none⟩ = some (.int .i64 n0))
    (k1 : W.cell? ⟨b0, 1, none⟩ = some (v1))
    (k2 : W.cell? ⟨b0, 2, none⟩ = some (v2))
    (k3 : W.cell? ⟨b0, 3, none⟩ = some (v3))
    (k4 : W.cell? ⟨b0, 4, none⟩ = some (v4))
    (k5 : W.cell? ⟨b0, 5, none⟩ = some (v5))
    (k6 : W.cell? ⟨b0, 6, none⟩ = some (v6))
    (k7 : W.cell? ⟨b0, 7, none⟩ = some (v7))
    (k8 : W.cell? ⟨b0, 8, none⟩ = some (v8))
    (k9 : W.cell? ⟨b0, 9, none⟩ = some (v9))
    (k10 : W.cell? ⟨b0, 10, none⟩ = some (v10))
    (k11 : W.cell? ⟨b0, 11, none⟩ = some (v11))
    (k12 : W.cell? ⟨b0, 12, none⟩ = some (v12))
    (k13 : W.cell? ⟨b0, 13, none⟩ = some (v13))
    (k14 : W.cell? ⟨b0, 14, none⟩ = some (v14))
    (k15 : W.cell? ⟨b0, 15, none⟩ = some (v15))
    (hq : ∀ a' W', a'.defers = [] → a'.tmps.getD 2 undef = .bool true → Below W.heap.size W W' → Q .ret a' W') :
    codeRest.wp prog Q { tmps := ([.agg [.int .i64 n0, v1, v2, v3, v4, v5, v6, v7, v8, v9, v10, v11, v12, v13, v14, v15].toArray] ++ ([.pointer (some ⟨b0, 0, none⟩)] ++ ([.bool false] ++ (List.replicate 9 undef ++ ([.agg [.int .i64 n0, v1, v2, v3, v4, v5, v6, v7, v8, v9, v10, v11, v12, v13, v14, v15].toArray] ++ ([s0] ++ ([.bool true] ++ ([.bool false] ++ (List.replicate 57 undef)))))))) : List Value).toArray, defers := [] } W := by
  have hvs : ([s0, .int .i64 n0, v1, v2, v3, v4, v5, v6, v7, v8, v9, v10, v11, v12, v13, v14, v15] : List Value).length = 17 := rfl
  have hbx0 : VR (phiOf [s0, .int .i64 n0, v1, v2, v3, v4, v5, v6, v7, v8, v9, v10, v11, v12, v13, v14, v15] b0) (.agg boxC0) (.agg [.int .i64 n0, v1, v2, v3, v4, v5, v6, v7, v8, v9, v10, v11, v12, v13, v14, v15].toArray) :=
    .agg (.cons (pin_of rfl) (.cons (par_of rfl hv1) (.cons (par_of rfl hv2) (.cons (par_of rfl hv3) (.cons (par_of rfl hv4) (.cons (par_of rfl hv5) (.cons (par_of rfl hv6) (.cons (par_of rfl hv7) (.cons (par_of rfl hv8) (.cons (par_of rfl hv9) (.cons (par_of rfl hv10) (.cons (par_of rfl hv11) (.cons (par_of rfl hv12) (.cons (par_of rfl hv13) (.cons (par_of rfl hv14) (.cons (par_of rfl hv15) (.nil))))))))))))))))) (of_allOne rfl)
  have hp0 : VR (phiOf [s0, .int .i64 n0, v1, v2, v3, v4, v5, v6, v7, v8, v9, v10, v11, v12, v13, v14, v15] b0) (.ptr 8 0) (.pointer (some ⟨b0, 0, none⟩)) := VR.ptr (r := 8) (p := ⟨b0, 0, 16, 16, 16, false, true, none⟩) 0 rfl
  have hrow0 : RoRow (E (baseOf [s0, .int .i64 n0, v1, v2, v3, v4, v5, v6, v7, v8, v9, v10, v11, v12, v13, v14, v15])) (phiOf [s0, .int .i64 n0, v1, v2, v3, v4, v5, v6, v7, v8, v9, v10, v11, v12, v13, v14, v15] b0) W ⟨b0, 0, 16, 16, 16, false, true, none⟩ boxG0 := by
    refine ⟨⟨b0, 0, rfl⟩, by kernel_rfl, hb0, ?_⟩
    exact cells_of (l := boxC0) (l' := [.int .i64 n0, v1, v2, v3, v4, v5, v6, v7, v8, v9, v10, v11, v12, v13, v14, v15]) (.cons (pin_of rfl) (.cons (par_of rfl hv1) (.cons (par_of rfl hv2) (.cons (par_of rfl hv3) (.cons (par_of rfl hv4) (.cons (par_of rfl hv5) (.cons (par_of rfl hv6) (.cons (par_of rfl hv7) (.cons (par_of rfl hv8) (.cons (par_of rfl hv9) (.cons (par_of rfl hv10) (.cons (par_of rfl hv11) (.cons (par_of rfl hv12) (.cons (par_of rfl hv13) (.cons (par_of rfl hv14) (.cons (par_of rfl hv15) (.nil))))))))))))))))) (by
      intro v hv
      simp only [List.mem_cons, List.not_mem_nil, or_false] at hv
      rcases hv with rfl | rfl | rfl | rfl | rfl | rfl | rfl | rfl | rfl | rfl | rfl | rfl | rfl | rfl | rfl | rfl <;> first | rfl | assumption) (by
      intro j v hj
      have hj2 : j < 16 := (List.getElem?_eq_some_iff.1 hj).1
      match j, hj2 with
      | 0, _ => obtain rfl := Option.some.inj hj; exact k0
      | 1, _ => obtain rfl := Option.some.inj hj; exact k1
      | 2, _ => obtain rfl := Option.some.inj hj; exact k2
      | 3, _ => obtain rfl := Option.some.inj hj; exact k3
      | 4, _ => obtain rfl := Option.some.inj hj; exact k4
      | 5, _ => obtain rfl := Option.some.inj hj; exact k5
      | 6, _ => obtain rfl := Option.some.inj hj; exact k6
      | 7, _ => obtain rfl := Option.some.inj hj; exact k7
      | 8, _ => obtain rfl := Option.some.inj hj; exact k8
      | 9, _ => obtain rfl := Option.some.inj hj; exact k9
      | 10, _ => obtain rfl := Option.some.inj hj; exact k10
      | 11, _ => obtain rfl := Option.some.inj hj; exact k11
      | 12, _ => obtain rfl := Option.some.inj hj; exact k12
      | 13, _ => obtain rfl := Option.some.inj hj; exact k13
      | 14, _ => obtain rfl := Option.some.inj hj; exact k14
      | 15, _ => obtain rfl := Option.some.inj hj; exact k15)
  obtain ⟨hst, hro⟩ : St (E (baseOf [s0, .int .i64 n0, v1, v2, v3, v4, v5, v6, v7, v8, v9, v10, v11, v12, v13, v14, v15])) (phiOf [s0, .int .i64 n0, v1, v2, v3, v4, v5, v6, v7, v8, v9, v10, v11, v12, v13, v14, v15] b0) H1 W ∧ ∀ k, ¬ Wr (phiOf [s0, .int .i64 n0, v1, v2, v3, v4, v5, v6, v7, v8, v9, v10, v11, v12, v13, v14, v15] b0) H1.look k := by
    refine St.ofRows (fun r p h => ?_) (fun r o ho => ?_)
    · show r < 26
      unfold phiOf at h
      by_cases h1 : r < 8
      · omega
      · rw [if_neg h1] at h
        by_cases hr0 : r = 8
        · omega
        · rw [if_neg hr0] at h
          exact base_lt h hvs (by omega)
    · have ho : Heap.look ((Heap.mk objs0 26).put 8 (objOf boxG0)) r = some o := ho
      rw [Heap.look_put] at ho
      by_cases h0 : r = 8
      · subst h0
        rw [if_pos rfl] at ho
        exact ⟨boxG0, _, (Option.some.inj ho).symm, rfl, hrow0⟩
      · rw [if_neg h0] at ho
        have ho : objs0.get r = some o := ho
        obtain ⟨x, hx, rfl⟩ := objs_get ho
        have hr : r < 8 := gs_lt hx
        refine ⟨x, _, rfl, if_pos hr, ?_⟩
        have hgp : globP gsOf r = ⟨r, 0, x.cells.toList.length, x.cells.toList.length, x.esz, false, true, none⟩ := by unfold globP; rw [hx]
        rw [hgp]; exact (hg _ r x hx).row
  have hfr : FR (E (baseOf [s0, .int .i64 n0, v1, v2, v3, v4, v5, v6, v7, v8, v9, v10, v11, v12, v13, v14, v15])) (phiOf [s0, .int .i64 n0, v1, v2, v3, v4, v5, v6, v7, v8, v9, v10, v11, v12, v13, v14, v15] b0) 73 fr1 { tmps := ([.agg [.int .i64 n0, v1, v2, v3, v4, v5, v6, v7, v8, v9, v10, v11, v12, v13, v14, v15].toArray] ++ ([.pointer (some ⟨b0, 0, none⟩)] ++ ([.bool false] ++ (List.replicate 9 undef ++ ([.agg [.int .i64 n0, v1, v2, v3, v4, v5, v6, v7, v8, v9, v10, v11, v12, v13, v14, v15].toArray] ++ ([s0] ++ ([.bool true] ++ ([.bool false] ++ (List.replicate 57 undef)))))))) : List Value).toArray, defers := [] } :=
    FR.ofList (GR_of _ _) VR.undef (.append (.cons hbx0 .nil) (.append (.cons hp0 .nil) (.append (.cons (.bool _) .nil) (.append (.replicate 9) (.append (.cons hbx0 .nil) (.append (.cons (par_of rfl hs0) .nil) (.append (.cons (.bool _) .nil) (.append (.cons (.bool _) .nil) (.replicate 57))))))))) rfl
  have hrun := fun f => outC_one (runRest (baseOf [s0, .int .i64 n0, v1, v2, v3, v4, v5, v6, v7, v8, v9, v10, v11, v12, v13, v14, v15]) f)
  simp only [← R_evalM_eq] at hrun
  refine wp_of_evalM (E_ok _) MemOk.nil (fr' := fun f => (hrun f).choose) (H' := fun f => (hrun f).choose_spec.choose) (x := .ret) (n := 1000000) (H := H1) (fun f => (hrun f).choose_spec.choose_spec.1) hst hfr ?_
  intro f φ' a' W' hto hf
  obtain ⟨_, hd, ht⟩ := (hrun f).choose_spec.choose_spec
  refine hq a' W' ?_ ?_ (hto.fr.below hro)
  · have := hf.df
    rw [hd] at this
    generalize a'.defers = l at this
    cases this; rfl
  · have := hf.ar.at_ 2
    rw [ht] at this
    exact this.bool_inv
end Go.Proofs.YtecedjbhjdgnoaaGreatDoor.Ev.Tryz
