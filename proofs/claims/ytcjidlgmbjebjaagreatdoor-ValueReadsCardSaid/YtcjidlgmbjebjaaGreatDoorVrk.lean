/- A part of the proof of ValueReads. -/
import Derived.Test.YtcjidlgmbjebjaaGreatDoorProg
import Derived.Below
import Derived.Deep.Draws
import Derived.Deep.AppendLies
import Derived.Maps.AppendAt
import Derived.OwnWalk
import Derived.Laws.BytesArg
import Derived.Laws.MakeOwn
import Derived.Laws.OwnMore
import Derived.Deep.OwnRows
import Derived.Tactics
import Derived.Lib.ConvBytes
import Derived.Laws.Slices
import Derived.WalkKit
import Derived.KernelRfl
import Derived.RowKit3
import Derived.Deep.LoopGhost
import Derived.Deep.QuietTactic
import Derived.BigQuiet
import Derived.WideLaws
import Derived.Deep.DeepCutAuto
import Derived.Deep.CutBlock
import Derived.Deep.RegionHeld3
import Derived.Laws.Rows
import Derived.Lib.AppendStr
import Derived.ArgAppend
import Derived.Laws.IdiomCopy
import Derived.OrdersHeld
import Derived.Laws.BitsLemmas
import Derived.RowKit
import Derived.Test.YtcjidlgmbjebjaaGreatDoorWWords
import Derived.Test.YtcjidlgmbjebjaaGreatDoorWLast
import Derived.Test.YtcjidlgmbjebjaaGreatDoorWTab
import Derived.Test.YtcjidlgmbjebjaaGreatDoorWFour
import Derived.Test.YtcjidlgmbjebjaaGreatDoorWQPut
import Derived.Test.YtcjidlgmbjebjaaGreatDoorWApart
import Derived.Test.YtcjidlgmbjebjaaGreatDoorWArr
import Derived.Test.YtcjidlgmbjebjaaGreatDoorWZeros
import Derived.Test.YtcjidlgmbjebjaaGreatDoorWFoot
import Derived.Test.YtcjidlgmbjebjaaGreatDoorWKept
import Derived.Test.YtcjidlgmbjebjaaGreatDoorWShare
import Derived.Test.YtcjidlgmbjebjaaGreatDoorWN
import Derived.Test.YtcjidlgmbjebjaaGreatDoorWFootNe
import Derived.Test.YtcjidlgmbjebjaaGreatDoorWAt
import Derived.Test.YtcjidlgmbjebjaaGreatDoorWEqStruct
import Derived.Test.YtcjidlgmbjebjaaGreatDoorWRepsOne
import Derived.Test.YtcjidlgmbjebjaaGreatDoorWInv
import Derived.Test.YtcjidlgmbjebjaaGreatDoorWInvWords
import Derived.Test.YtcjidlgmbjebjaaGreatDoorWGuard
import Derived.Test.YtcjidlgmbjebjaaGreatDoorWNEv
import Derived.Test.YtcjidlgmbjebjaaGreatDoorWMore
set_option linter.unusedVariables false
set_option linter.unusedSimpArgs false
set_option maxRecDepth 100000
-- PRINTED BY print.sh 35421559b90ae4d0a3588c463048766b98c2df88dd9212a6774a882060cdf62d: not written by this session
namespace Go.Proofs.YtcjidlgmbjebjaaGreatDoor.PSchemaForms
open Go.RowKit Go.Proofs.YtcjidlgmbjebjaaGreatDoorW.PrintWords Go.Proofs.YtcjidlgmbjebjaaGreatDoorW.PrintLast Go.Proofs.YtcjidlgmbjebjaaGreatDoorW.PrintMore
attribute [local go_sem] max2_int min2_int max_two min_two max_three min_three max_four min_four   -- for this text's walks alone
def errW : Option Int → Value
  | none => .nilIface
  | some c => .iface 0 (.int .i64 c)
theorem errW_none : errW none = .nilIface := rfl
theorem errW_some (c : Int) : errW (some c) = .iface 0 (.int .i64 c) := rfl

end Go.Proofs.YtcjidlgmbjebjaaGreatDoor.PSchemaForms
