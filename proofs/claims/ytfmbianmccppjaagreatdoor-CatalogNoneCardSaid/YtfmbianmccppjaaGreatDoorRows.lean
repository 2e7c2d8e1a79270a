/-
  NARROWER THAN 'FOR EVERY INPUT', by the rows' own cells (each row's printed sentence says how): CatalogNone: laid · IntegrityNone: laid.
  DERIVED. THE GIVEN ROWS OF THIS SEAT. 2 by the template 'for every input the law returns true; each argument reads behind the call as it read before'; 0 by the template 'total and deterministic' (their statements: YtfmbianmccppjaaGreatDoorTotals.lean).
  GIVEN WITH THE SEED: the statements are not yours to turn. If you find one false, say at which input.
  Laid BY PROGRAM, IN A SANDBOX (cutbox-rows.mjs): the forced cells as the released guide's own fill.sh prints them over the translation 4d779a8ded9a41f2… (all of the seat's roots in one cut). By AI agents, Wed Nov 11 2026. No macro, syntax, notation, axiom, sorry.
-/
import Derived.Test.YtfmbianmccppjaaGreatDoorChecked
import GoSem.Claim
import GoSem.ClaimJoined
import GoSem.ClaimMapViews
import Derived.JoinedTies
import Derived.KernelRfl
namespace Go.Proofs.YtfmbianmccppjaaGreatDoor
/- THE CELL 'sum', in the pinned program and in every row, IS THE sha256 OF THE DUMP (.gsa) THAT YtfmbianmccppjaaGreatDoorProg.lean LOADS. Nothing in Lean hashes anything: it is a label: what it is worth is what the hold of that sum in a sandbox is worth. -/
noncomputable def Tryz.pinned : Pinned := { name := "ytfmbianmccppjaagreatdoor", sum := "4d779a8ded9a41f2dc08fad04faa5b13e5c560468010314993431005f5600ff0", checked := Tryz.checked }
namespace Rows
def none {H : Type} : Left H := { results := [], args := [] }

/- WHAT THE LISTED PACKAGE-LEVEL VARIABLES READ AS WHEN THE CALL BEGINS. Each datum BY PROGRAM (the guide's laid-datum.mjs) off the statement by which the dump's own 'gosem.cut.vars' lays the variable. In a bare row this is a premise. The card (YtfmbianmccppjaaGreatDoorCards.lean) ties it to the program's text. -/
def laid_hachure_sum_table {H : Type} : DataW H := .agg [.lit (.int .u32 0), .lit (.int .u32 274646895), .lit (.int .u32 549293790), .lit (.int .u32 820201905), .lit (.int .u32 1098587580), .lit (.int .u32 1361435347), .lit (.int .u32 1640403810), .lit (.int .u32 1905808397), .lit (.int .u32 2197175160), .lit (.int .u32 2460548119), .lit (.int .u32 2722870694), .lit (.int .u32 2987750089), .lit (.int .u32 3280807620), .lit (.int .u32 3553878443), .lit (.int .u32 3811616794), .lit (.int .u32 4084100981)]
def laid_hachure_shape_forms {H : Type} : DataW H := .agg [.agg [.lit (.string []), .lit (.int .i64 (-1))], .agg [.lit (.string [80, 79, 73, 78, 84]), .lit (.int .i64 (-1))], .agg [.lit (.string [76, 73, 78, 69, 83, 84, 82, 73, 78, 71]), .lit (.int .i64 (-1))], .agg [.lit (.string [80, 79, 76, 89, 71, 79, 78]), .lit (.int .i64 0)], .agg [.lit (.string [77, 85, 76, 84, 73, 80, 79, 73, 78, 84]), .lit (.int .i64 1)], .agg [.lit (.string [77, 85, 76, 84, 73, 76, 73, 78, 69, 83, 84, 82, 73, 78, 71]), .lit (.int .i64 2)], .agg [.lit (.string [77, 85, 76, 84, 73, 80, 79, 76, 89, 71, 79, 78]), .lit (.int .i64 3)], .agg [.lit (.string [71, 69, 79, 77, 69, 84, 82, 89, 67, 79, 76, 76, 69, 67, 84, 73, 79, 78]), .lit (.int .i64 (-2))]]
def laid_hachure_wkb_nowhere {H : Type} : DataW H := .agg [.lit (.int .i64 (-9223372036854775808)), .lit (.int .i64 (-9223372036854775808))]

/-- 'hachurelaw23.CatalogNone': WHATEVER THE INPUT: true; the input reads as it did. -/
def catalogNoneSpec : ChangeSpec := { name := "catalogNone", fn := fun _ => fun
  | [d] => { results := [.lit (.bool true)], args := [d] }
  | _ => none }
def catalogNoneRow : OpenClaim := { program := "ytfmbianmccppjaagreatdoor", sum := "4d779a8ded9a41f2dc08fad04faa5b13e5c560468010314993431005f5600ff0", func := "hachure/hachurelaw23.CatalogNone", spec := "catalogNone", unfollowed := true, recurses := true, named := ["hachure/sum.table"], apart := false, laid := [("hachure/sum.table", laid_hachure_sum_table)] }
def CatalogNoneSaid : Prop := catalogNoneRow.holds Tryz.pinned (OpenSpec.ofChange catalogNoneSpec)

/-- ITS FALSE NEIGHBOUR: 'it returns false'. Refute it at one input. -/
def catalogNoneWrong : ChangeSpec := { name := "catalogNone", fn := fun _ => fun
  | [d] => { results := [.lit (.bool false)], args := [d] }
  | _ => none }
def CatalogNoneWrongFalsely : Prop := catalogNoneRow.holds Tryz.pinned (OpenSpec.ofChange catalogNoneWrong)

/-- 'hachurelaw27.IntegrityNone': WHATEVER THE INPUT: true; the input reads as it did. -/
def integrityNoneSpec : ChangeSpec := { name := "integrityNone", fn := fun _ => fun
  | [d] => { results := [.lit (.bool true)], args := [d] }
  | _ => none }
def integrityNoneRow : OpenClaim := { program := "ytfmbianmccppjaagreatdoor", sum := "4d779a8ded9a41f2dc08fad04faa5b13e5c560468010314993431005f5600ff0", func := "hachure/hachurelaw27.IntegrityNone", spec := "integrityNone", unfollowed := true, recurses := true, named := ["hachure/wkb.nowhere", "hachure/shape.forms", "hachure/sum.table"], apart := false, laid := [("hachure/sum.table", laid_hachure_sum_table), ("hachure/shape.forms", laid_hachure_shape_forms), ("hachure/wkb.nowhere", laid_hachure_wkb_nowhere)] }
def IntegrityNoneSaid : Prop := integrityNoneRow.holds Tryz.pinned (OpenSpec.ofChange integrityNoneSpec)

/-- ITS FALSE NEIGHBOUR: 'it returns false'. Refute it at one input. -/
def integrityNoneWrong : ChangeSpec := { name := "integrityNone", fn := fun _ => fun
  | [d] => { results := [.lit (.bool false)], args := [d] }
  | _ => none }
def IntegrityNoneWrongFalsely : Prop := integrityNoneRow.holds Tryz.pinned (OpenSpec.ofChange integrityNoneWrong)

/- THE SECOND FORM. 'bulk': how many values and letters a reading holds, each counted each time it is reached (what is shared counts as often as it is met; a slice's spare places count too). A statement '..UptoSaid' is the law's where the arguments, and the package variables that the reading takes, are together of bulk at most 1048576: NARROWER than '..Said'. Prove '..Said' where nothing that the law and all that it calls make is longer than what came in: it says more and counts as full. Else prove '..UptoSaid'. A law counts once. -/
mutual
def uptoBulk {H : Type} : DataW H → Nat
  | .lit (.string bytes) => bytes.length + 1
  | .lit _ => 1
  | .nil => 1
  | .ptr d => uptoBulk d + 1
  | .slice elems spare => uptoBulkAll elems + uptoBulkAll spare + 1
  | .agg parts => uptoBulkAll parts + 1
  | .iface _ d => uptoBulk d + 1
  | .map entries => uptoBulkEntries entries + 1
  | .held _ => 1
def uptoBulkAll {H : Type} : List (DataW H) → Nat
  | [] => 0
  | d :: r => uptoBulk d + uptoBulkAll r
def uptoBulkEntries {H : Type} : List (Lit × DataW H) → Nat
  | [] => 0
  | x :: r => uptoBulkEntry x + uptoBulkEntries r
def uptoBulkEntry {H : Type} : Lit × DataW H → Nat
  | (.string bytes, d) => bytes.length + uptoBulk d + 1
  | (_, d) => uptoBulk d + 1
 end
def uptoSmall : (H : Type) → List (DataW H) → Bool := fun _ ds => decide (uptoBulkAll ds ≤ 1048576)
def OpenSpec.upto (s : _root_.Go.ChangeSpec) : _root_.Go.OpenSpec := { _root_.Go.OpenSpec.ofChange s with cond := some uptoSmall }

/-- 'hachurelaw23.CatalogNone', WHERE WHAT IT READS IS OF BULK AT MOST 1048576: true; the input reads as it did. -/
def catalogNoneUptoRow : OpenClaim := { program := "ytfmbianmccppjaagreatdoor", sum := "4d779a8ded9a41f2dc08fad04faa5b13e5c560468010314993431005f5600ff0", func := "hachure/hachurelaw23.CatalogNone", spec := "catalogNone", unfollowed := true, recurses := true, named := ["hachure/sum.table"], apart := false, laid := [("hachure/sum.table", laid_hachure_sum_table)], narrowed := true }
def CatalogNoneUptoSaid : Prop := catalogNoneUptoRow.holds Tryz.pinned (OpenSpec.upto catalogNoneSpec)

/-- 'hachurelaw27.IntegrityNone', WHERE WHAT IT READS IS OF BULK AT MOST 1048576: true; the input reads as it did. -/
def integrityNoneUptoRow : OpenClaim := { program := "ytfmbianmccppjaagreatdoor", sum := "4d779a8ded9a41f2dc08fad04faa5b13e5c560468010314993431005f5600ff0", func := "hachure/hachurelaw27.IntegrityNone", spec := "integrityNone", unfollowed := true, recurses := true, named := ["hachure/wkb.nowhere", "hachure/shape.forms", "hachure/sum.table"], apart := false, laid := [("hachure/sum.table", laid_hachure_sum_table), ("hachure/shape.forms", laid_hachure_shape_forms), ("hachure/wkb.nowhere", laid_hachure_wkb_nowhere)], narrowed := true }
def IntegrityNoneUptoSaid : Prop := integrityNoneUptoRow.holds Tryz.pinned (OpenSpec.upto integrityNoneSpec)

end Rows
end Go.Proofs.YtfmbianmccppjaaGreatDoor
