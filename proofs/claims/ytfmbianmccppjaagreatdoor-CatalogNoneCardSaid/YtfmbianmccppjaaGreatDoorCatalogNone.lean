/- The statement CatalogNone of layer 23: whatever the entry, nothing of a catalog that no call made is done, and the example of the statement comes out: the call returns true. Conditions: the listed package variable reads as the program's text lays it (the card's tie). -/
import Derived.Test.YtfmbianmccppjaaGreatDoorCatOpen
import Derived.Test.YtfmbianmccppjaaGreatDoorCatF
import Derived.Test.YtfmbianmccppjaaGreatDoorTie
import Derived.Test.YtfmbianmccppjaaGreatDoorCards
import Derived.ChangeSame
import Derived.ChangeVars
import Derived.JoinedOf
import Derived.RowKit
import Derived.WalkKit
import Derived.ProofKit
import Derived.Carry
import Derived.Handed
import Derived.Lib.SmallJoins
import Derived.SevenTiedAt
set_option linter.unusedVariables false
set_option linter.unusedSimpArgs false
namespace Go.Proofs.YtfmbianmccppjaaGreatDoor.catalogNone
open Go Go.ChangeShapes Go.WideShapes Go.RowKit Go.Joins

theorem own : ownKnob Tryz.prog.godebug = none := by kernel_rfl
theorem laidOut : laidOutB Tryz.prog = true := by kernel_rfl
theorem tab : Tryz.prog.globalNamed "hachure/sum.table" = some 0 := by kernel_rfl
theorem tabType : (Tryz.prog.globals[0]?).map (·.type) = some 430 := by kernel_rfl
set_option maxRecDepth 100000
abbrev laidL : List (String × DataW Unit) := [("hachure/sum.table", Rows.laid_hachure_sum_table)]
theorem cells_of_laid {W : World} (h : laidMet Tryz.prog laidL W) : ∃ cs, W.var? Tryz.prog "hachure/sum.table" = some cs ∧ cs.toList = Ev.Tryz.table.map (Value.int .u32) := by
  obtain ⟨ps, ⟨g, t, cs, fuel, p, q, hg, ht, hvar, hd, _, _⟩, _⟩ := h
  obtain rfl := Option.some.inj (tab.symm.trans hg)
  obtain rfl := Option.some.inj (tabType.symm.trans ht)
  exact ⟨cs, hvar, Ev.tab_ints (n := 16) (zs := Ev.Tryz.table) Tryz.underlying430 Tryz.underlying297 (by kernel_rfl) (by kernel_rfl) hd⟩
theorem glob_ok (W : World) (hL : laidMet Tryz.prog laidL W) (w' : World) (hb : Below W.heap.size W w') (base : Nat → Option Ev.Pl) : Ev.GlobOk (Ev.Tryz.E base) w' 0 Ev.Tryz.g0 := by
  obtain ⟨cs, hv, hcs⟩ := cells_of_laid hL
  exact Ev.GlobOk.ints tab (Ev.var_later hb hv) hcs rfl (by kernel_rfl)
theorem begin_ok (w' : World) (hg : Ev.GlobOk (Ev.Tryz.E fun _ => none) w' 0 Ev.Tryz.g0) : Ev.St (Ev.Tryz.E fun _ => none) (Ev.phi0 (fun g => if g = 0 then some Ev.Tryz.g0 else none) 3 fun _ => none) Ev.Tryz.H0 w' ∧ ∀ b, ¬ Ev.Wr (Ev.phi0 (fun g => if g = 0 then some Ev.Tryz.g0 else none) 3 fun _ => none) Ev.Tryz.H0.look b := by
  exact Ev.St.begin (E := Ev.Tryz.E fun _ => none) (W := w') (gs := fun g => if g = 0 then some Ev.Tryz.g0 else none) (n := 3) (base := fun _ => none) (H := Ev.Tryz.H0) (by decide) (fun _ _ h => by cases h)
    (fun r o ho => by
      have ho : (Ev.T.n Ev.T.e (some (Ev.objOf Ev.Tryz.g0)) Ev.T.e).get r = some o := ho
      rw [Ev.T.get_n] at ho
      by_cases hr : r = 0
      · subst hr
        exact ⟨Ev.Tryz.g0, rfl, (Option.some.inj ho).symm, by omega⟩
      · rw [if_neg hr, Ev.T.get_e, Ev.T.get_e] at ho
        split at ho <;> cases ho)
    (fun g x hx hgl => by
      by_cases h0 : g = 0
      · subst h0
        have hx := Option.some.inj hx; subst hx
        exact hg
      · simp [h0] at hx)
theorem lives (w' : World) (hg : Ev.GlobOk (Ev.Tryz.E fun _ => none) w' 0 Ev.Tryz.g0) : Calls Tryz.prog 6 #[] w' (TrueBelow w') := by
  obtain ⟨H', hrun⟩ := Ev.Tryz.outB_one Ev.Tryz.runLives
  obtain ⟨hs, hro⟩ := begin_ok w' hg
  exact (Ev.calls_of_runM (Ev.Tryz.E_ok _) Ev.MemOk.nil hrun hs (Ev.GR.begin (E := Ev.Tryz.E fun _ => none) (fun _ _ h => by cases h)) .nil hro).mono
    fun e W' ⟨φ', v', he, hvr, hb⟩ => ⟨by rw [he, hvr.bool_inv], hb⟩
def cells0 : Array Value := #[.int .u32 (0), .int .u32 (274646895), .int .u32 (549293790), .int .u32 (820201905), .int .u32 (1098587580), .int .u32 (1361435347), .int .u32 (1640403810), .int .u32 (1905808397), .int .u32 (2197175160), .int .u32 (2460548119), .int .u32 (2722870694), .int .u32 (2987750089), .int .u32 (3280807620), .int .u32 (3553878443), .int .u32 (3811616794), .int .u32 (4084100981)]
noncomputable def laidWorld (os : Os) : World :=
  { World.holding Tryz.prog os ⟨#[], #[], []⟩ with heap := ((World.holding Tryz.prog os ⟨#[], #[], []⟩).heap).modify 0 fun
      | .cells _ t frozen => .cells cells0 t frozen
      | o => o }
theorem laidWorld_met (os : Os) (args : Array Value) : laidMet Tryz.prog laidL ((laidWorld os).forCall (fun _ _ => 0) ⟨#[], args, []⟩).memory :=
  laidMet_of_run (ps := MemPlace.row ⟨0, 0, none⟩ 16) 8 (by kernel_rfl) (by kernel_rfl) (by kernel_rfl)
def arg0 : Value := .agg #[.int .i64 0, .int .i64 0, .string ⟨#[]⟩, .string ⟨#[]⟩, .int .i64 0, .int .i64 0, .slice none 0 0]

theorem lifted (os : Os) (started : os.Started) (H : Type) (enc : TypeId × Value → H) :
    ReturnsInHanded {} Tryz.checked os 3 .any (fun w args => (Rows.catalogNoneSpec.pre enc Tryz.prog Tryz.f3 [] false w args ∧ laidMet Tryz.prog laidL w) ∧ sizedMet enc Tryz.prog Tryz.f3 (OpenSpec.ofChange Rows.catalogNoneSpec) false w args)
      (Rows.catalogNoneSpec.post enc Tryz.prog Tryz.f3 false true false false) := by
  refine returnsInHanded_of_change_and (C := Tryz.checked) (X := fun w _ => laidMet Tryz.prog laidL w) (fun _ _ _ hh h => h.of_heap hh) own started (by kernel_rfl) Tryz.func3
    (ChangeSpec.witness_at (enc := enc) (C := Tryz.checked) (os := os) (X := fun w _ => laidMet Tryz.prog laidL w) false (laidWorld os) #[arg0] 8 rfl (by kernel_rfl) (by kernel_rfl) (by kernel_rfl) (by kernel_rfl) (by kernel_rfl) (laidWorld_met os _)) ?_
  intro W base args ds gs before hval0 hW _ hsz0 hL _
  have hval : ∀ (j : Nat) t v, Tryz.f3.params[j]? = some t → args[j]? = some v → Value.okWide Tryz.prog W .any base t v := hval0
  have hW' := hW
  obtain ⟨p, q, hA0, hV, rfl, hfz, hnd⟩ := hW
  have hA : DataW.TrodAll enc Tryz.prog W 0 (fun _ => true) true Tryz.f3.params.toList args.toList ds p := hA0
  rw [Tryz.params3] at hA hval
  obtain ⟨v0, d0, rfl, rfl, h0⟩ := trodAll_one hA
  obtain ⟨rfl, rfl⟩ := trodVars_none hV
  have k0 := h0
  have lt0 : ∀ x ∈ p, x.block < W.heap.size := by obtain ⟨m, hm⟩ := k0; exact DataW.trod_lt m _ _ _ hm
  obtain ⟨kd, id, nm, sn, sk, sr, ca, cl, cc, rfl, hn, hs, hcl, hco⟩ := open_act (hval 0 26 v0 rfl rfl) h0
  clear hA0 hval0
  refine (catalog_walk W kd id sk sr nm sn ca cl cc hn hs hcl hco (fun w' hb => glob_ok W hL w' hb) (fun w' hb => lives w' (glob_ok W hL w' hb _))).mono fun e W' ⟨he, bel⟩ => ?_
  subst he
  exact ⟨_, rfl, _, _, _, [], _, [], hW', trodAll_mk1 (shut_bool Tryz.underlying4 _), trodAll_mk1 (Below.trod laidOut (by kernel_rfl) (of_decide_eq_true (by kernel_rfl)) k0 bel lt0), rfl, bel.frame _, fun h => by cases h⟩

theorem holds : Rows.CatalogNoneSaid :=
  OpenClaim.holds_of_wide 3 Tryz.f3 rfl rfl rfl rfl rfl rfl rfl ⟨rfl, rfl, rfl, rfl, rfl⟩ rfl rfl rfl rfl rfl (by as_aux_lemma => kernel_rfl) Tryz.func3 joined
    (of_decide_eq_true (by as_aux_lemma => kernel_rfl)) (by unfold Func.isWrapper; first | (rw [if_pos (by decide +kernel)]; kernel_rfl) | (rw [if_neg (by decide +kernel)]; exact ⟨rfl, rfl⟩))
    (fun os started H enc _ => lifted os started H enc)

theorem card : Rows.CatalogNoneCardSaid :=
  Claim7.holds_tied_plain_at .later [] [.data] true (true, "edb0ebd745dbb9b4b3eba05f0baa0f3e4e93174df18a6aacf5caf0cad53435ef") true
    holds (fun _ h => by cases h) (by as_aux_lemma => kernel_rfl) (fun _ h => by cases h) catalogNone_row_tie rfl ⟨rfl, rfl⟩ (by as_aux_lemma => kernel_rfl) rfl
    (fun f fn hf hfn => by
      obtain rfl : f = 3 := Option.some.inj ((show Tryz.prog.funcNamed "hachure/hachurelaw23.CatalogNone" = some 3 by as_aux_lemma => kernel_rfl).symm.trans hf) |>.symm
      obtain rfl : fn = Tryz.f3 := (Option.some.inj (Tryz.func3.symm.trans hfn)).symm
      exact ⟨by as_aux_lemma => kernel_rfl, fun j t ht => by
        rw [Tryz.params3] at ht
        have h3 : t = 26
 := by
          rcases j with _ | j
          · simpa using ht.symm
          · simp at ht
        subst h3
        exact (show Tryz.prog.wantsStandIn 26
 = false by as_aux_lemma => kernel_rfl)⟩)
    (by as_aux_lemma => kernel_rfl)
#print axioms card
end Go.Proofs.YtfmbianmccppjaaGreatDoor.catalogNone
