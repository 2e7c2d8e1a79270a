/- What the runs of ModelNone begin with. -/
import Derived.Test.YtecedjbhjdgnoaaGreatDoorMdI
set_option linter.unusedVariables false
set_option linter.unusedSimpArgs false
namespace Go.Proofs.YtecedjbhjdgnoaaGreatDoor.Ev.Tryz
open Go Go.Proofs.YtecedjbhjdgnoaaGreatDoor.Ev Go.Proofs.Tryz
def outB : Option Out → Nat
  | some (.call (.bool true) _) => 1
  | some (.call (.bool false) _) => 2
  | some (.call _ _) => 3
  | some (.code _ _ _) => 4
  | none => 0
theorem outB_one {x : Option Out} (h : outB x = 1) : ∃ H', x = some (.call (.bool true) H') := by
  unfold outB at h
  split at h <;> first | exact ⟨_, rfl⟩ | (exact absurd h (by decide))
noncomputable def outC : Option Out → Nat
  | some (.code .ret fr _) =>
    match fr.df with
    | [] =>
      match fr.tm.get 2 with
      | some (.bool true) => 1
      | some (.bool false) => 2
      | _ => 3
    | _ => 4
  | some (.code _ _ _) => 5
  | some (.call _ _) => 6
  | none => 0
theorem outC_one {x : Option Out} (h : outC x = 1) : ∃ fr H', x = some (.code .ret fr H') ∧ fr.df = [] ∧ fr.tm.get 2 = some (.bool true) := by
  unfold outC at h
  split at h
  · rename_i fr H'
    split at h
    · rename_i hd
      split at h
      · rename_i ht
        exact ⟨fr, H', rfl, hd, ht⟩
      all_goals exact absurd h (by decide)
    · exact absurd h (by decide)
  all_goals exact absurd h (by decide)
def names0 : List (List UInt8) := [[], [97, 100, 100, 115, 114, 115], [100, 114, 111, 112, 115, 114, 115], [99, 114, 101, 97, 116, 101], [100, 114, 111, 112], [105, 110, 115, 101, 114, 116], [117, 112, 100, 97, 116, 101], [100, 101, 108, 101, 116, 101], [103, 101, 116], [115, 99, 97, 110], [113, 117, 101, 114, 121], [98, 101, 103, 105, 110], [99, 111, 109, 109, 105, 116], [114, 111, 108, 108, 98, 97, 99, 107], [118, 97, 99, 117, 117, 109], [99, 104, 101, 99, 107], [105, 110, 102, 111]]
def g0 : Glob := ⟨148, 17, .vals (names0.map strV)⟩
def objs0 : T Obj := (.n .e (some (objOf g0)) .e)
def H0 : Heap := { objs := objs0, next := 8 }
def boxC0 : List V := [.pin .i64 10, .par 11, .par 12, .par 13, .par 14, .par 15, .par 16, .par 17, .par 18, .par 19, .par 20, .par 21, .par 22, .par 23, .par 24, .par 25]
def boxG0 : Glob := ⟨34, 16, .vals boxC0⟩
noncomputable def H1 : Heap := ((Heap.mk objs0 26).put 8 (objOf boxG0))
def restOf : Code → Code
  | .seq _ (.seq _ c) => c
  | c => c
noncomputable def codeRest : Code :=
  match f3.body with
  | some c => restOf c
  | none => .skip
def l1 : List (Option V) := [some (.agg boxC0)] ++ ([some (.ptr 8 0)] ++ ([some (.bool false)] ++ (List.replicate 9 none ++ ([some (.agg boxC0)] ++ ([some (.par 9)] ++ ([some (.bool true)] ++ ([some (.bool false)] ++ (List.replicate 57 none))))))))
noncomputable def fr1 : Fm := { tm := tmOf 0 l1 .e, df := [] }
end Go.Proofs.YtecedjbhjdgnoaaGreatDoor.Ev.Tryz
