/- The statement TreeNone of layer 11: for each act, a tree that no call made does nothing, a page that is no node is no root, and the example of the statement comes out: the call returns true, and the act reads as it read. Conditions: the package variable of package sum that is listed reads as the program's text lays it (the card's tie). -/
import Derived.Test.YtljenimhnojfhaaGreatDoorTreeRun
import Derived.Test.YtljenimhnojfhaaGreatDoorTie
import Derived.Test.YtljenimhnojfhaaGreatDoorCards
import Derived.ChangeSame
import Derived.ChangeVars
import Derived.JoinedOf
import Derived.RowKit
import Derived.WalkKit
import Derived.ProofKit
import Derived.Carry
import Derived.Handed
import Derived.Lib.SmallJoins
import Derived.SevenTiedAt
set_option linter.unusedVariables false
set_option linter.unusedSimpArgs false
namespace Go.Proofs.YtljenimhnojfhaaGreatDoor.treeNone
open Go Go.ChangeShapes Go.WideShapes Go.RowKit Go.Joins

theorem own : ownKnob Tryz.prog.godebug = none := by kernel_rfl
theorem laidOut : laidOutB Tryz.prog = true := by kernel_rfl
theorem tab : Tryz.prog.globalNamed "hachure/sum.table" = some 0 := by kernel_rfl
theorem tabType : (Tryz.prog.globals[0]?).map (·.type) = some 305 := by kernel_rfl

set_option maxRecDepth 100000
abbrev laidL : List (String × DataW Unit) := [("hachure/sum.table", Rows.laid_hachure_sum_table)]
theorem cells_of_laid {W : World} (h : laidMet Tryz.prog laidL W) : ∃ cs, W.var? Tryz.prog "hachure/sum.table" = some cs ∧ cs.toList = Ev.Tryz.table.map (Value.int .u32) := by
  obtain ⟨ps, ⟨g, t, cs, fuel, p, q, hg, ht, hvar, hd, _, _⟩, _⟩ := h
  obtain rfl := Option.some.inj (tab.symm.trans hg)
  obtain rfl := Option.some.inj (tabType.symm.trans ht)
  exact ⟨cs, hvar, Ev.tab_ints (n := 16) (zs := Ev.Tryz.table) Tryz.underlying305 Tryz.underlying229 (by kernel_rfl) (by kernel_rfl) hd⟩

theorem begin_ok (W : World) (hL : laidMet Tryz.prog laidL W) : Ev.St Ev.Tryz.E (Ev.phi0 (fun g => if g = 0 then some Ev.Tryz.g0 else none) 1) Ev.Tryz.H0 W ∧ ∀ b, ¬ Ev.Wr (Ev.phi0 (fun g => if g = 0 then some Ev.Tryz.g0 else none) 1) Ev.Tryz.H0.look b := by
  obtain ⟨cs, hv, hcs⟩ := cells_of_laid hL
  exact Ev.St.begin (E := Ev.Tryz.E) (W := W) (gs := fun g => if g = 0 then some Ev.Tryz.g0 else none) (n := 1) (H := Ev.Tryz.H0) rfl
    (fun r o ho => by
      have ho : (Ev.T.n Ev.T.e (some (Ev.objOf Ev.Tryz.g0)) Ev.T.e).get r = some o := ho
      rw [Ev.T.get_n] at ho
      by_cases hr : r = 0
      · subst hr
        exact ⟨Ev.Tryz.g0, rfl, (Option.some.inj ho).symm, Nat.zero_lt_one⟩
      · rw [if_neg hr, Ev.T.get_e, Ev.T.get_e] at ho
        split at ho <;> cases ho)
    (fun g x hx hg => by
      obtain rfl : g = 0 := by omega
      have hx := Option.some.inj hx; subst hx
      exact Ev.GlobOk.ints tab hv hcs rfl (by kernel_rfl))
theorem run (zs : List Int) (hz : zs.length = 5) : ∃ H', Ev.evalQ Ev.Tryz.E 100000 (.call 4 [.agg (zs.map (Ev.V.int .i64))] false) Ev.Tryz.H0 = some (.call (.bool true) H') := by
  match zs, hz with
  | [k, key, a, b, c], _ =>
    rcases key with n | n
    · rcases n with _ | n
      · exact Ev.Tryz.outB_one (Ev.Tryz.tree_0 k a b c)
      · rcases n with _ | n
        · exact Ev.Tryz.outB_one (Ev.Tryz.tree_1 k a b c)
        · exact Ev.Tryz.outB_one (Ev.Tryz.tree_2 k a b c n)
    · exact Ev.Tryz.outB_one (Ev.Tryz.tree_neg k a b c n)
theorem calls (zs : List Int) (hz : zs.length = 5) (W : World) (hL : laidMet Tryz.prog laidL W) :
    Calls Tryz.prog 4 #[.agg (zs.map (Value.int .i64)).toArray] W fun e W' => e = .returned (.bool true) ∧ Below W.heap.size W W' := by
  obtain ⟨H', hrun⟩ := run zs hz
  obtain ⟨hs, hro⟩ := begin_ok W hL
  exact (Ev.calls_of_run Ev.Tryz.E_ok hrun hs Ev.GR.begin (.cons (Ev.aggV_ints .i64 zs) .nil) hro).mono
    fun e W' ⟨φ', v', he, hvr, hb⟩ => ⟨by rw [he, hvr.bool_inv], hb⟩

def cellsT : Array Value := #[.int .u32 0, .int .u32 274646895, .int .u32 549293790, .int .u32 820201905, .int .u32 1098587580, .int .u32 1361435347, .int .u32 1640403810, .int .u32 1905808397, .int .u32 2197175160, .int .u32 2460548119, .int .u32 2722870694, .int .u32 2987750089, .int .u32 3280807620, .int .u32 3553878443, .int .u32 3811616794, .int .u32 4084100981]
noncomputable def laidWorld (os : Os) : World :=
  { World.holding Tryz.prog os ⟨#[], #[], []⟩ with heap := (World.holding Tryz.prog os ⟨#[], #[], []⟩).heap.modify 0 fun
      | .cells _ t frozen => .cells cellsT t frozen
      | o => o }
theorem laidWorld_met (os : Os) (args : Array Value) : laidMet Tryz.prog laidL ((laidWorld os).forCall (fun _ _ => 0) ⟨#[], args, []⟩).memory :=
  laidMet_of_run (ps := MemPlace.row ⟨0, 0, none⟩ 16) 8 (by kernel_rfl) (by kernel_rfl) (by kernel_rfl)

theorem lifted (os : Os) (started : os.Started) (H : Type) (enc : TypeId × Value → H) :
    ReturnsInHanded {} Tryz.checked os 4 .any (fun w args => (Rows.treeNoneSpec.pre enc Tryz.prog Tryz.f4 [] false w args ∧ laidMet Tryz.prog laidL w) ∧ sizedMet enc Tryz.prog Tryz.f4 (OpenSpec.ofChange Rows.treeNoneSpec) false w args)
      (Rows.treeNoneSpec.post enc Tryz.prog Tryz.f4 false true false false) := by
  refine returnsInHanded_of_change_and (C := Tryz.checked) (X := fun w _ => laidMet Tryz.prog laidL w) (fun _ _ _ hh h => h.of_heap hh) own started (by kernel_rfl) Tryz.func4
    (ChangeSpec.witness_at (enc := enc) (C := Tryz.checked) (os := os) (X := fun w _ => laidMet Tryz.prog laidL w) false (laidWorld os) #[.agg #[.int .i64 0, .int .i64 0, .int .i64 0, .int .i64 0, .int .i64 0]] 8 rfl (by kernel_rfl) (by kernel_rfl) (by kernel_rfl) (by kernel_rfl) (by kernel_rfl) (laidWorld_met os _)) ?_
  intro W base args ds gs before hval0 hW _ _ hL _
  have hval : ∀ (j : Nat) t v, Tryz.f4.params[j]? = some t → args[j]? = some v → Value.okWide Tryz.prog W .any base t v := hval0
  have hW' := hW
  obtain ⟨p, q, hA0, hV, rfl, hfz, hnd⟩ := hW
  have hA : DataW.TrodAll enc Tryz.prog W 0 (fun _ => true) true Tryz.f4.params.toList args.toList ds p := hA0
  rw [Tryz.params4] at hA hval
  obtain ⟨v0, d0, rfl, rfl, h0⟩ := trodAll_one hA
  obtain ⟨rfl, rfl⟩ := trodVars_none hV
  have k0 := h0
  have lt0 : ∀ x ∈ p, x.block < W.heap.size := by obtain ⟨m, hm⟩ := k0; exact DataW.trod_lt m _ _ _ hm
  obtain ⟨zs, hz, rfl⟩ := Ev.agg_ints (m := 5) (k := .i64) Tryz.underlying54 (by kernel_rfl) (fun i hi => by
    match i, hi with
    | 0, _ => exact ⟨_, rfl, rfl, by kernel_rfl, Tryz.underlying3⟩
    | 1, _ => exact ⟨_, rfl, rfl, by kernel_rfl, Tryz.underlying3⟩
    | 2, _ => exact ⟨_, rfl, rfl, by kernel_rfl, Tryz.underlying3⟩
    | 3, _ => exact ⟨_, rfl, rfl, by kernel_rfl, Tryz.underlying3⟩
    | 4, _ => exact ⟨_, rfl, rfl, by kernel_rfl, Tryz.underlying3⟩) (hval 0 54 v0 rfl rfl) h0
  clear hA0 hval0
  refine (calls zs hz W hL).mono fun e W' ⟨he, bel⟩ => ?_
  subst he
  exact ⟨_, rfl, _, _, _, [], _, [], hW', trodAll_mk1 (shut_bool Tryz.underlying4 _), trodAll_mk1 (Below.trod laidOut (by kernel_rfl) (of_decide_eq_true (by kernel_rfl)) k0 bel lt0), rfl, bel.frame _, fun h => by cases h⟩

theorem holds : Rows.TreeNoneSaid :=
  OpenClaim.holds_of_wide 4 Tryz.f4 rfl rfl rfl rfl rfl rfl rfl ⟨rfl, rfl, rfl, rfl, rfl⟩ rfl rfl rfl rfl rfl (by kernel_rfl) Tryz.func4 (by kernel_rfl)
    (of_decide_eq_true (by kernel_rfl)) (by unfold Func.isWrapper; first | (rw [if_pos (by decide +kernel)]; kernel_rfl) | (rw [if_neg (by decide +kernel)]; exact ⟨rfl, rfl⟩))
    (fun os started H enc _ => lifted os started H enc)

theorem card : Rows.TreeNoneCardSaid :=
  Claim7.holds_tied_plain_at .later [] [.data] true (true, "382f16337beccbf90d00bd15a97a5e6ce528279271021750af13ef91be465c05") false
    holds (fun _ h => by cases h) (by kernel_rfl) (fun _ h => by cases h) treeNone_row_tie rfl ⟨rfl, rfl⟩ (by kernel_rfl) rfl
    (fun f fn hf hfn => by
      obtain rfl : f = 4 := Option.some.inj ((show Tryz.prog.funcNamed "hachure/hachurelaw11.TreeNone" = some 4 by kernel_rfl).symm.trans hf) |>.symm
      obtain rfl : fn = Tryz.f4 := (Option.some.inj (Tryz.func4.symm.trans hfn)).symm
      exact ⟨by kernel_rfl, fun j t ht => by
        rw [Tryz.params4] at ht
        have h3 : t = 54 := by
          rcases j with _ | j
          · simpa using ht.symm
          · simp at ht
        subst h3
        exact (show Tryz.prog.wantsStandIn 54 = false by kernel_rfl)⟩)
    (by kernel_rfl)
#print axioms card
end Go.Proofs.YtljenimhnojfhaaGreatDoor.treeNone
