/- What the runs of CatalogNone begin with. -/
import Derived.Test.YtfmbianmccppjaaGreatDoorCatI
set_option linter.unusedVariables false
set_option linter.unusedSimpArgs false
namespace Go.Proofs.YtfmbianmccppjaaGreatDoor.Ev.Tryz
open Go Go.Proofs.YtfmbianmccppjaaGreatDoor.Ev Go.Proofs.Tryz
def outB : Option Out → Nat
  | some (.call (.bool true) _) => 1
  | some (.call (.bool false) _) => 2
  | some (.call _ _) => 3
  | some (.code _ _ _) => 4
  | none => 0
theorem outB_one {x : Option Out} (h : outB x = 1) : ∃ H', x = some (.call (.bool true) H') := by
  unfold outB at h
  split at h <;> first | exact ⟨_, rfl⟩ | (exact absurd h (by decide))
def outC : Option Out → Nat
  | some (.code .ret fr _) =>
    match fr.df with
    | [] =>
      match fr.tm.get 2 with
      | some (.bool true) => 1
      | some (.bool false) => 2
      | _ => 3
    | _ => 4
  | some (.code _ _ _) => 5
  | some (.call _ _) => 6
  | none => 0
theorem outC_one {x : Option Out} (h : outC x = 1) : ∃ fr H', x = some (.code .ret fr H') ∧ fr.df = [] ∧ fr.tm.get 2 = some (.bool true) := by
  unfold outC at h
  split at h
  · rename_i fr H'
    split at h
    · rename_i hd
      split at h
      · rename_i ht
        exact ⟨fr, H', rfl, hd, ht⟩
      all_goals exact absurd h (by decide)
    · exact absurd h (by decide)
  all_goals exact absurd h (by decide)
def table : List Int := [0, 274646895, 549293790, 820201905, 1098587580, 1361435347, 1640403810, 1905808397, 2197175160, 2460548119, 2722870694, 2987750089, 3280807620, 3553878443, 3811616794, 4084100981]
def g0 : Glob := ⟨430, 16, .vals (table.map (V.int .u32))⟩
def H0 : Heap := { objs := .n .e (some (objOf g0)) .e, next := 3 }
def boxC : List V := [.par 6, .par 7, .par 8, .par 9, .par 10, .par 11, .par 12]
def boxG : Glob := ⟨26, 7, .vals boxC⟩
def H1 : Heap := (Heap.mk (.n .e (some (objOf g0)) .e) 13).put 3 (objOf boxG)
def restOf : Code → Code
  | .seq _ (.seq _ c) => c
  | c => c
noncomputable def codeRest : Code :=
  match f3.body with
  | some c => restOf c
  | none => .skip
def l1 : List (Option V) :=
  [some (.agg (boxC)), some (.ptr 3 0), some (.bool false)] ++ (List.replicate 25 none ++ ([some (.agg (boxC)), some (.par 5), some (.bool true), some (.bool false)] ++ List.replicate 106 none))
def fr1 : Fm := { tm := tmOf 0 (l1) .e, df := [] }
end Go.Proofs.YtfmbianmccppjaaGreatDoor.Ev.Tryz
