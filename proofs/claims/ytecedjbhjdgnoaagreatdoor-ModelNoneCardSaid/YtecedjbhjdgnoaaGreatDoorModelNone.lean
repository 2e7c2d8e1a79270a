/- The statement ModelNone: a model that no call made does nothing; a catalog that no call made has no state: the call returns true. Conditions: the listed package variables read as the program's text lays them (the card's tie). -/
import Derived.Test.YtecedjbhjdgnoaaGreatDoorMdOpen
import Derived.Test.YtecedjbhjdgnoaaGreatDoorMdF
import Derived.Test.YtecedjbhjdgnoaaGreatDoorTie
import Derived.Test.YtecedjbhjdgnoaaGreatDoorCards
import Derived.ChangeSame
import Derived.ChangeVars
import Derived.JoinedOf
import Derived.RowKit
import Derived.WalkKit
import Derived.ProofKit
import Derived.Carry
import Derived.Handed
import Derived.Lib.SmallJoins
import Derived.SevenTiedAt
set_option linter.unusedVariables false
set_option linter.unusedSimpArgs false
set_option maxRecDepth 100000
namespace Go.Proofs.YtecedjbhjdgnoaaGreatDoor.modelNone
open Go Go.ChangeShapes Go.WideShapes Go.RowKit Go.Joins

theorem own : ownKnob Tryz.prog.godebug = none := by kernel_rfl
theorem laidOut : laidOutB Tryz.prog = true := by kernel_rfl
abbrev laidL : List (String × DataW Unit) := [("math/bits.deBruijn32tab", Rows.laid_math_bits_deBruijn32tab), ("math/bits.deBruijn64tab", Rows.laid_math_bits_deBruijn64tab), ("internal/strconv.uint64pow10", Rows.laid_internal_strconv_uint64pow10), ("hachure/shape.forms", Rows.laid_hachure_shape_forms), ("hachure/wkb.nowhere", Rows.laid_hachure_wkb_nowhere), ("hachure/schema.types", Rows.laid_hachure_schema_types), ("hachure/command.names", Rows.laid_hachure_command_names)]
theorem tab0 : Tryz.prog.globalNamed "hachure/command.names" = some 0 := by kernel_rfl
theorem tabType0 : (Tryz.prog.globals[0]?).map (·.type) = some 148 := by kernel_rfl
theorem cells0 {W : World} (h : laidMet Tryz.prog laidL W) : ∃ cs, W.var? Tryz.prog "hachure/command.names" = some cs ∧ cs.toList = Ev.Tryz.names0.map (fun z => Value.string (Ev.txt z)) := by
  obtain ⟨ps, h0, _⟩ := h
  obtain ⟨_, _, _, _, _, _, _, _, _, _, h1, _⟩ := h0
  obtain ⟨_, _, _, _, _, _, _, _, _, _, h2, _⟩ := h1
  obtain ⟨_, _, _, _, _, _, _, _, _, _, h3, _⟩ := h2
  obtain ⟨_, _, _, _, _, _, _, _, _, _, h4, _⟩ := h3
  obtain ⟨_, _, _, _, _, _, _, _, _, _, h5, _⟩ := h4
  obtain ⟨_, _, _, _, _, _, _, _, _, _, h6, _⟩ := h5
  obtain ⟨g, t, cs, fuel, p, q, hg, ht, hvar, hd, _, _⟩ := h6
  obtain rfl := Option.some.inj (tab0.symm.trans hg)
  obtain rfl := Option.some.inj (tabType0.symm.trans ht)
  exact ⟨cs, hvar, Ev.tab_strs (n := 17) (zs := Ev.Tryz.names0) Tryz.underlying148 Tryz.underlying9 (by kernel_rfl) (by kernel_rfl) hd⟩
theorem glob_ok (W : World) (hL : laidMet Tryz.prog laidL W) (w' : World) (hb : Below W.heap.size W w') (base : Nat → Option Ev.Pl) (g : Nat) (x : Ev.Glob) (hx : Ev.Tryz.gsOf g = some x) : Ev.GlobOk (Ev.Tryz.E base) w' g x := by
  unfold Ev.Tryz.gsOf at hx
  by_cases h0 : g = 0
  · subst h0
    rw [if_pos rfl] at hx
    obtain rfl := Option.some.inj hx
    obtain ⟨cs, hv, hcs⟩ := cells0 hL
    exact Ev.GlobOk.strs tab0 (Ev.var_later hb hv) hcs rfl (by kernel_rfl)
  · rw [if_neg h0] at hx
    cases hx
theorem begin_ok (w' : World) (hg : ∀ g x, Ev.Tryz.gsOf g = some x → Ev.GlobOk (Ev.Tryz.E fun _ => none) w' g x) : Ev.St (Ev.Tryz.E fun _ => none) (Ev.phi0 Ev.Tryz.gsOf 8 fun _ => none) Ev.Tryz.H0 w' ∧ ∀ b, ¬ Ev.Wr (Ev.phi0 Ev.Tryz.gsOf 8 fun _ => none) Ev.Tryz.H0.look b :=
  Ev.St.begin (E := Ev.Tryz.E fun _ => none) (W := w') (gs := Ev.Tryz.gsOf) (n := 8) (base := fun _ => none) (H := Ev.Tryz.H0) (by decide) (fun _ _ h => by cases h)
    (fun r o ho => by
      obtain ⟨x, hx, he⟩ := Ev.Tryz.objs_get (r := r) (o := o) ho
      exact ⟨x, hx, he, Ev.Tryz.gs_lt hx⟩)
    (fun g x hx _ => hg g x hx)
theorem lives (w' : World) (hg : ∀ g x, Ev.Tryz.gsOf g = some x → Ev.GlobOk (Ev.Tryz.E fun _ => none) w' g x) : Calls Tryz.prog 5 #[] w' (TrueBelow w') := by
  obtain ⟨H', hrun⟩ := Ev.Tryz.outB_one Ev.Tryz.runLives
  rw [← Ev.R_evalM_eq] at hrun
  obtain ⟨hs, hro⟩ := begin_ok w' hg
  exact (Ev.calls_of_runM (Ev.Tryz.E_ok _) Ev.MemOk.nil hrun hs (Ev.GR.begin (E := Ev.Tryz.E fun _ => none) (fun _ _ h => by cases h)) .nil hro).mono
    fun e W' ⟨φ', v', he, hvr, hb⟩ => ⟨by rw [he, hvr.bool_inv], hb⟩
def cells0_6 : Array Value := #[.int .u8 (0), .int .u8 (1), .int .u8 (28), .int .u8 (2), .int .u8 (29), .int .u8 (14), .int .u8 (24), .int .u8 (3), .int .u8 (30), .int .u8 (22), .int .u8 (20), .int .u8 (15), .int .u8 (25), .int .u8 (17), .int .u8 (4), .int .u8 (8), .int .u8 (31), .int .u8 (27), .int .u8 (13), .int .u8 (23), .int .u8 (21), .int .u8 (19), .int .u8 (16), .int .u8 (7), .int .u8 (26), .int .u8 (12), .int .u8 (18), .int .u8 (6), .int .u8 (11), .int .u8 (5), .int .u8 (10), .int .u8 (9)]
def cells0_7 : Array Value := #[.int .u8 (0), .int .u8 (1), .int .u8 (56), .int .u8 (2), .int .u8 (57), .int .u8 (49), .int .u8 (28), .int .u8 (3), .int .u8 (61), .int .u8 (58), .int .u8 (42), .int .u8 (50), .int .u8 (38), .int .u8 (29), .int .u8 (17), .int .u8 (4), .int .u8 (62), .int .u8 (47), .int .u8 (59), .int .u8 (36), .int .u8 (45), .int .u8 (43), .int .u8 (51), .int .u8 (22), .int .u8 (53), .int .u8 (39), .int .u8 (33), .int .u8 (30), .int .u8 (24), .int .u8 (18), .int .u8 (12), .int .u8 (5), .int .u8 (63), .int .u8 (55), .int .u8 (48), .int .u8 (27), .int .u8 (60), .int .u8 (41), .int .u8 (37), .int .u8 (16), .int .u8 (46), .int .u8 (35), .int .u8 (44), .int .u8 (21), .int .u8 (52), .int .u8 (32), .int .u8 (23), .int .u8 (11), .int .u8 (54), .int .u8 (26), .int .u8 (40), .int .u8 (15), .int .u8 (34), .int .u8 (20), .int .u8 (31), .int .u8 (10), .int .u8 (25), .int .u8 (14), .int .u8 (19), .int .u8 (9), .int .u8 (13), .int .u8 (8), .int .u8 (7), .int .u8 (6)]
def cells0_3 : Array Value := #[.int .u64 (1), .int .u64 (10), .int .u64 (100), .int .u64 (1000), .int .u64 (10000), .int .u64 (100000), .int .u64 (1000000), .int .u64 (10000000), .int .u64 (100000000), .int .u64 (1000000000), .int .u64 (10000000000), .int .u64 (100000000000), .int .u64 (1000000000000), .int .u64 (10000000000000), .int .u64 (100000000000000), .int .u64 (1000000000000000), .int .u64 (10000000000000000), .int .u64 (100000000000000000), .int .u64 (1000000000000000000), .int .u64 (10000000000000000000)]
def cells0_1 : Array Value := #[.string ⟨#[]⟩, .int .i64 (-1), .string ⟨#[80, 79, 73, 78, 84]⟩, .int .i64 (-1), .string ⟨#[76, 73, 78, 69, 83, 84, 82, 73, 78, 71]⟩, .int .i64 (-1), .string ⟨#[80, 79, 76, 89, 71, 79, 78]⟩, .int .i64 (0), .string ⟨#[77, 85, 76, 84, 73, 80, 79, 73, 78, 84]⟩, .int .i64 (1), .string ⟨#[77, 85, 76, 84, 73, 76, 73, 78, 69, 83, 84, 82, 73, 78, 71]⟩, .int .i64 (2), .string ⟨#[77, 85, 76, 84, 73, 80, 79, 76, 89, 71, 79, 78]⟩, .int .i64 (3), .string ⟨#[71, 69, 79, 77, 69, 84, 82, 89, 67, 79, 76, 76, 69, 67, 84, 73, 79, 78]⟩, .int .i64 (-2)]
def cells0_5 : Array Value := #[.int .i64 (-9223372036854775808), .int .i64 (-9223372036854775808)]
def cells0_2 : Array Value := #[.string ⟨#[]⟩, .string ⟨#[105, 110, 116]⟩, .string ⟨#[116, 101, 120, 116]⟩, .string ⟨#[102, 108, 97, 103]⟩]
def cells0_0 : Array Value := #[.string ⟨#[]⟩, .string ⟨#[97, 100, 100, 115, 114, 115]⟩, .string ⟨#[100, 114, 111, 112, 115, 114, 115]⟩, .string ⟨#[99, 114, 101, 97, 116, 101]⟩, .string ⟨#[100, 114, 111, 112]⟩, .string ⟨#[105, 110, 115, 101, 114, 116]⟩, .string ⟨#[117, 112, 100, 97, 116, 101]⟩, .string ⟨#[100, 101, 108, 101, 116, 101]⟩, .string ⟨#[103, 101, 116]⟩, .string ⟨#[115, 99, 97, 110]⟩, .string ⟨#[113, 117, 101, 114, 121]⟩, .string ⟨#[98, 101, 103, 105, 110]⟩, .string ⟨#[99, 111, 109, 109, 105, 116]⟩, .string ⟨#[114, 111, 108, 108, 98, 97, 99, 107]⟩, .string ⟨#[118, 97, 99, 117, 117, 109]⟩, .string ⟨#[99, 104, 101, 99, 107]⟩, .string ⟨#[105, 110, 102, 111]⟩]
noncomputable def laidWorld (os : Os) : World :=
  { World.holding Tryz.prog os ⟨#[], #[], []⟩ with heap := (((((((((((((((World.holding Tryz.prog os ⟨#[], #[], []⟩).heap).modify 6 fun
      | .cells _ t frozen => .cells cells0_6 t frozen
      | o => o)).modify 7 fun
      | .cells _ t frozen => .cells cells0_7 t frozen
      | o => o)).modify 3 fun
      | .cells _ t frozen => .cells cells0_3 t frozen
      | o => o)).modify 1 fun
      | .cells _ t frozen => .cells cells0_1 t frozen
      | o => o)).modify 5 fun
      | .cells _ t frozen => .cells cells0_5 t frozen
      | o => o)).modify 2 fun
      | .cells _ t frozen => .cells cells0_2 t frozen
      | o => o)).modify 0 fun
      | .cells _ t frozen => .cells cells0_0 t frozen
      | o => o) }
theorem laidWorld_met (os : Os) (args : Array Value) : laidMet Tryz.prog laidL ((laidWorld os).forCall (fun _ _ => 0) ⟨#[], args, []⟩).memory :=
  laidMet_of_run' 8 (by kernel_rfl) (by kernel_rfl)
def arg0 : Value := .agg #[.int .i64 0, .string ⟨#[]⟩, .int .i64 0, .int .i64 0, .string ⟨#[]⟩, .int .i64 0, .int .i64 0, .slice none 0 0, .int .i64 0, .slice none 0 0, .slice none 0 0, .bool false, .int .i64 0, .int .i64 0, .int .i64 0, .int .i64 0]
theorem lifted (os : Os) (started : os.Started) (H : Type) (enc : TypeId × Value → H) :
    ReturnsInHanded {} Tryz.checked os 3 .any (fun w args => (Rows.modelNoneSpec.pre enc Tryz.prog Tryz.f3 [] false w args ∧ laidMet Tryz.prog laidL w) ∧ sizedMet enc Tryz.prog Tryz.f3 (OpenSpec.ofChange Rows.modelNoneSpec) false w args)
      (Rows.modelNoneSpec.post enc Tryz.prog Tryz.f3 false true false false) := by
  refine returnsInHanded_of_change_and (C := Tryz.checked) (X := fun w _ => laidMet Tryz.prog laidL w) (fun _ _ _ hh h => h.of_heap hh) own started (by kernel_rfl) Tryz.func3
    (ChangeSpec.witness_at (enc := enc) (C := Tryz.checked) (os := os) (X := fun w _ => laidMet Tryz.prog laidL w) false (laidWorld os) #[arg0] 8 rfl (by kernel_rfl) (by kernel_rfl) (by kernel_rfl) (by kernel_rfl) (by kernel_rfl) (laidWorld_met os _)) ?_
  intro W base args ds gs before hval0 hW _ hsz0 hL _
  have hval : ∀ (j : Nat) t v, Tryz.f3.params[j]? = some t → args[j]? = some v → Value.okWide Tryz.prog W .any base t v := hval0
  have hW' := hW
  obtain ⟨p, q, hA0, hV, rfl, hfz, hnd⟩ := hW
  have hA : DataW.TrodAll enc Tryz.prog W 0 (fun _ => true) true Tryz.f3.params.toList args.toList ds p := hA0
  rw [Tryz.params3] at hA hval
  obtain ⟨v0, d0, rfl, rfl, h0⟩ := trodAll_one hA
  obtain ⟨rfl, rfl⟩ := trodVars_none hV
  have k0 := h0
  have lt0 : ∀ x ∈ p, x.block < W.heap.size := by obtain ⟨m, hm⟩ := k0; exact DataW.trod_lt m _ _ _ hm
  obtain ⟨x0, x1, x2, x3, x4, x5, x6, a7, l7, c7, x8, a9, l9, c9, a10, l10, c10, x11, x12, x13, x14, x15, rfl, s1, s4, s7, s9, s10⟩ := open_act (hval 0 34 v0 rfl rfl) h0
  clear hA0 hval0
  refine (law_walk W x0 x1 x2 x3 x4 x5 x6 a7 l7 c7 x8 a9 l9 c9 a10 l10 c10 x11 x12 x13 x14 x15 s1 s4 s7 s9 s10 (fun w' hb => glob_ok W hL w' hb) (fun w' hb => lives w' (glob_ok W hL w' hb _))).mono fun e W' ⟨he, bel⟩ => ?_
  subst he
  exact ⟨_, rfl, _, _, _, [], _, [], hW', trodAll_mk1 (shut_bool Tryz.underlying4 _), trodAll_mk1 (Below.trod laidOut (by kernel_rfl) (of_decide_eq_true (by kernel_rfl)) k0 bel lt0), rfl, bel.frame _, fun h => by cases h⟩

theorem holds : Rows.ModelNoneSaid :=
  OpenClaim.holds_of_wide 3 Tryz.f3 rfl rfl rfl rfl rfl rfl rfl ⟨rfl, rfl, rfl, rfl, rfl⟩ rfl rfl rfl rfl rfl (by as_aux_lemma => kernel_rfl) Tryz.func3 joined
    (of_decide_eq_true (by as_aux_lemma => kernel_rfl)) (by unfold Func.isWrapper; first | (rw [if_pos (by decide +kernel)]; kernel_rfl) | (rw [if_neg (by decide +kernel)]; exact ⟨rfl, rfl⟩))
    (fun os started H enc _ => lifted os started H enc)

theorem card : Rows.ModelNoneCardSaid :=
  Claim7.holds_tied_plain_at .later [] [.data, .data, .data, .data, .data, .widerDeep, .data] true (true, "bf442af74e3104076a7541ca806ec791583d60cbe682a2969e5ee5a246b7bc61") true
    holds (fun _ h => by cases h) (by as_aux_lemma => kernel_rfl) (fun _ h => by cases h) modelNone_row_tie rfl ⟨rfl, rfl⟩ (by as_aux_lemma => kernel_rfl) rfl
    (fun f fn hf hfn => by
      obtain rfl : f = 3 := Option.some.inj ((show Tryz.prog.funcNamed "hachure/hachurelaw30.ModelNone" = some 3 by as_aux_lemma => kernel_rfl).symm.trans hf) |>.symm
      obtain rfl : fn = Tryz.f3 := (Option.some.inj (Tryz.func3.symm.trans hfn)).symm
      exact ⟨by as_aux_lemma => kernel_rfl, fun j t ht => by
        rw [Tryz.params3] at ht
        have h3 : t = 34 := by
          rcases j with _ | j
          · simpa using ht.symm
          · simp at ht
        subst h3
        exact (show Tryz.prog.wantsStandIn 34 = false by as_aux_lemma => kernel_rfl)⟩)
    (by as_aux_lemma => kernel_rfl)
#print axioms card
end Go.Proofs.YtecedjbhjdgnoaaGreatDoor.modelNone
