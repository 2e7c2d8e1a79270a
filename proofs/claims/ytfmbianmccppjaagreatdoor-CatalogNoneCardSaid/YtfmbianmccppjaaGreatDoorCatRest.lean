/- The rest of CatalogNone, by the evaluator, out of the walk's frame. -/
import Derived.Test.YtfmbianmccppjaaGreatDoorCatRun
import Derived.Test.YtfmbianmccppjaaGreatDoorCatLives
import Derived.Test.YtfmbianmccppjaaGreatDoorCatLight
import Derived.Handy
set_option linter.unusedVariables false
set_option linter.unusedSimpArgs false
set_option maxRecDepth 100000
namespace Go.Proofs.YtfmbianmccppjaaGreatDoor.Ev
open Go Go.RowKit
theorem GlobOk.row {E : Env} {φ : Pm} {W : World} {g : Nat} {x : Glob} (h : GlobOk E W g x) : RoRow E φ W ⟨g, 0, x.cells.toList.length, x.cells.toList.length, x.esz, false, true, none⟩ x := by
  obtain ⟨h1, hblk, l', h2, h3, h4⟩ := h
  refine ⟨⟨g, 0, rfl⟩, h1, hblk, fun i v hv => ?_⟩
  obtain ⟨v', hv', hvr⟩ := h2.get hv
  exact ⟨v', by rw [Nat.zero_add]; exact h4 i v' hv', hvr.mono (Le.none _), h3 v' (List.mem_of_getElem? hv')⟩
theorem Told.append {φ : Pm} : ∀ {a : List (Option V)} {a' : List Value} {b : List (Option V)} {b' : List Value}, Told φ a a' → Told φ b b' → Told φ (a ++ b) (a' ++ b')
  | _, _, _, _, .nil, h => h
  | _, _, _, _, .skip h1, h => .skip (h1.append h)
  | _, _, _, _, .cons v h1, h => .cons v (h1.append h)
theorem Told.replicate {φ : Pm} : ∀ n, Told φ (List.replicate n none) (List.replicate n undef)
  | 0 => .nil
  | n + 1 => .skip (Told.replicate n)
theorem var_later {P : Program} {W w1 : World} {nm : String} {cs : Array Value} (hb : Below W.heap.size W w1) (h : W.var? P nm = some cs) : w1.var? P nm = some cs := by
  unfold World.var? at h ⊢
  cases hg : P.globalNamed nm with
  | none => rw [hg] at h; cases h
  | some g =>
    rw [hg] at h
    simp only [Option.bind_some] at h ⊢
    cases hh : W.heap[g]? with
    | none => rw [hh] at h; cases h
    | some o =>
      rw [hb.block g (Array.getElem?_eq_some_iff.1 hh).1]
      exact h
end Go.Proofs.YtfmbianmccppjaaGreatDoor.Ev
namespace Go.Proofs.YtfmbianmccppjaaGreatDoor.Ev.Tryz
open Go Go.Proofs.YtfmbianmccppjaaGreatDoor.Ev Go.Proofs.Tryz Go.RowKit
def parP (v : Value) : Pl := ⟨0, 0, 0, 0, 0, false, true, some v⟩
def baseOf (vs : List Value) (r : Nat) : Option Pl := if 4 < r then (vs[r - 5]?).map parP else none
def phiOf (vs : List Value) (b r : Nat) : Option Pl :=
  if r < 3 then some (globP (fun g => if g = 0 then some g0 else none) r) else if r = 3 then some ⟨b, 0, 7, 7, 7, false, true, none⟩ else baseOf vs r
theorem GR_of (vs : List Value) (b : Nat) : GR (E (baseOf vs)) (phiOf vs b) := by
  refine ⟨fun g hg => ?_, fun r p h => ?_⟩
  · have hg : g < 3 := hg
    refine ⟨_, if_pos hg, ?_, ?_⟩ <;> (unfold globP; split <;> rfl)
  · have h : baseOf vs r = some p := h
    have hr : 4 < r := by
      unfold baseOf at h
      split at h
      · assumption
      · cases h
    unfold phiOf
    rw [if_neg (by omega), if_neg (by omega)]
    exact h
theorem par_of {vs : List Value} {b k : Nat} {v : Value} (h : vs[k]? = some v) (h1 : v.oneCell' = true) : VR (phiOf vs b) (.par (k + 5)) v := by
  refine .par (p := parP v) ?_ rfl h1
  unfold phiOf baseOf
  rw [if_neg (by omega), if_neg (by omega), if_pos (by omega), show k + 5 - 5 = k by omega, h]
  rfl
theorem St_of (vs : List Value) (hvs : vs.length = 8) (b : Nat) (W : World) (hb : b < W.heap.size) (h0 : GlobOk (E (baseOf vs)) W 0 g0)
    (hc : ∀ i, i < 7 → ∃ v, vs[i + 1]? = some v ∧ W.cell? ⟨b, i, none⟩ = some v ∧ v.oneCell' = true) : St (E (baseOf vs)) (phiOf vs b) H1 W ∧ ∀ k, ¬ Wr (phiOf vs b) H1.look k := by
  refine St.ofRows (fun r p h => ?_) (fun r o ho => ?_)
  · show r < 13
    unfold phiOf baseOf at h
    by_cases h1 : r < 3
    · omega
    · rw [if_neg h1] at h
      by_cases h2 : r = 3
      · omega
      · rw [if_neg h2] at h
        split at h
        · cases hv : vs[r - 5]? with
          | none => rw [hv] at h; cases h
          | some v =>
            have := (List.getElem?_eq_some_iff.1 hv).1
            omega
        · cases h
  · have ho : ((Heap.mk (.n .e (some (objOf g0)) .e) 13).put 3 (objOf boxG)).look r = some o := ho
    rw [Heap.look_put] at ho
    by_cases h3 : r = 3
    · subst h3
      rw [if_pos rfl] at ho
      refine ⟨boxG, ⟨b, 0, 7, 7, 7, false, true, none⟩, (Option.some.inj ho).symm, rfl, ⟨b, 0, rfl⟩, by kernel_rfl, hb, fun i v hv => ?_⟩
      have hi : i < 7 := (List.getElem?_eq_some_iff.1 hv).1
      obtain ⟨u, h1, h2, h4⟩ := hc i hi
      refine ⟨u, by rw [Nat.zero_add]; exact h2, ?_, h4⟩
      have hvv : v = .par (i + 1 + 5) := by
        have hv : boxC[i]? = some v := hv
        unfold boxC at hv
        rcases i with _ | _ | _ | _ | _ | _ | _ | i
        all_goals first | exact (Option.some.inj hv).symm | omega
      rw [hvv]
      exact par_of h1 h4
    · rw [if_neg h3] at ho
      have ho : (Ev.T.n Ev.T.e (some (Ev.objOf g0)) Ev.T.e).get r = some o := ho
      rw [Ev.T.get_n] at ho
      by_cases hr : r = 0
      · subst hr
        exact ⟨g0, _, (Option.some.inj ho).symm, rfl, h0.row⟩
      · rw [if_neg hr, Ev.T.get_e, Ev.T.get_e] at ho
        split at ho <;> cases ho
/-- The walk's frame at the rest. -/
def tmps1 (vs : List Value) (b : Nat) (s : Value) : List Value :=
  [.agg vs.toArray, .pointer (some ⟨b, 0, none⟩), .bool false] ++ (List.replicate 25 undef ++ ([.agg vs.toArray, s, .bool true, .bool false] ++ List.replicate 106 undef))
theorem rest_wp {Q : Exit → Act → World → Prop} (s v0 v1 v2 v3 v4 v5 v6 : Value) (hs : s.oneCell' = true) (h0 : v0.oneCell' = true) (h1 : v1.oneCell' = true) (h2 : v2.oneCell' = true) (h3 : v3.oneCell' = true) (h4 : v4.oneCell' = true) (h5 : v5.oneCell' = true) (h6 : v6.oneCell' = true)
    (b : Nat) (W : World) (hb : b < W.heap.size) (hg : ∀ base, GlobOk (E base) W 0 g0)
    (c0 : W.cell? ⟨b, 0, none⟩ = some v0) (c1 : W.cell? ⟨b, 1, none⟩ = some v1) (c2 : W.cell? ⟨b, 2, none⟩ = some v2) (c3 : W.cell? ⟨b, 3, none⟩ = some v3) (c4 : W.cell? ⟨b, 4, none⟩ = some v4) (c5 : W.cell? ⟨b, 5, none⟩ = some v5) (c6 : W.cell? ⟨b, 6, none⟩ = some v6)
    (hq : ∀ a' W', a'.defers = [] → a'.tmps.getD 2 undef = .bool true → Below W.heap.size W W' → Q .ret a' W') :
    codeRest.wp prog Q { tmps := (tmps1 [v0, v1, v2, v3, v4, v5, v6] b s).toArray, defers := [] } W := by
  obtain ⟨hst, hro⟩ := St_of [s, v0, v1, v2, v3, v4, v5, v6] rfl b W hb (hg _) (fun i hi => by
    rcases i with _ | _ | _ | _ | _ | _ | _ | i
    · exact ⟨v0, rfl, c0, h0⟩
    · exact ⟨v1, rfl, c1, h1⟩
    · exact ⟨v2, rfl, c2, h2⟩
    · exact ⟨v3, rfl, c3, h3⟩
    · exact ⟨v4, rfl, c4, h4⟩
    · exact ⟨v5, rfl, c5, h5⟩
    · exact ⟨v6, rfl, c6, h6⟩
    · omega)
  have hbx : VR (phiOf [s, v0, v1, v2, v3, v4, v5, v6] b) (.agg boxC) (.agg [v0, v1, v2, v3, v4, v5, v6].toArray) :=
    .agg (.cons (par_of rfl h0) (.cons (par_of rfl h1) (.cons (par_of rfl h2) (.cons (par_of rfl h3) (.cons (par_of rfl h4) (.cons (par_of rfl h5) (.cons (par_of rfl h6) .nil)))))))
      (fun v hv => by
        have hv : v ∈ boxC := hv
        obtain ⟨k, _, rfl⟩ : ∃ k, k < 7 ∧ v = .par (k + 6) := by
          unfold boxC at hv
          simp only [List.mem_cons, List.not_mem_nil, or_false] at hv
          rcases hv with rfl | rfl | rfl | rfl | rfl | rfl | rfl
          · exact ⟨0, by omega, rfl⟩
          · exact ⟨1, by omega, rfl⟩
          · exact ⟨2, by omega, rfl⟩
          · exact ⟨3, by omega, rfl⟩
          · exact ⟨4, by omega, rfl⟩
          · exact ⟨5, by omega, rfl⟩
          · exact ⟨6, by omega, rfl⟩
        rfl)
  have hp : VR (phiOf [s, v0, v1, v2, v3, v4, v5, v6] b) (.ptr 3 0) (.pointer (some ⟨b, 0, none⟩)) := VR.ptr (r := 3) (p := ⟨b, 0, 7, 7, 7, false, true, none⟩) 0 rfl
  have hfr : FR (E (baseOf [s, v0, v1, v2, v3, v4, v5, v6])) (phiOf [s, v0, v1, v2, v3, v4, v5, v6] b) 138 fr1 { tmps := (tmps1 [v0, v1, v2, v3, v4, v5, v6] b s).toArray, defers := [] } :=
    FR.ofList (GR_of _ _) VR.undef
      (.append (.cons hbx (.cons hp (.cons (.bool _) .nil))) (.append (.replicate 25) (.append (.cons hbx (.cons (par_of (k := 0) rfl hs) (.cons (.bool _) (.cons (.bool _) .nil)))) (.replicate 106)))) rfl
  have hrun := fun f => outC_one (runRest (baseOf [s, v0, v1, v2, v3, v4, v5, v6]) f)
  refine wp_of_evalM (E_ok _) MemOk.nil (fr' := fun f => (hrun f).choose) (H' := fun f => (hrun f).choose_spec.choose) (x := .ret) (n := 100000) (H := H1) (fun f => (hrun f).choose_spec.choose_spec.1) hst hfr ?_
  intro f φ' a' W' hto hf
  obtain ⟨_, hd, ht⟩ := (hrun f).choose_spec.choose_spec
  refine hq a' W' ?_ ?_ (hto.fr.below hro)
  · have := hf.df
    rw [hd] at this
    generalize a'.defers = l at this
    cases this; rfl
  · have := hf.ar.at_ 2
    rw [ht] at this
    exact this.bool_inv
end Go.Proofs.YtfmbianmccppjaaGreatDoor.Ev.Tryz
