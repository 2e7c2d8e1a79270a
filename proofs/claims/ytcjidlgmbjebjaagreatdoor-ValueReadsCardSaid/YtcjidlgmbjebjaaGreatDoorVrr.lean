/- A part of the proof of ValueReads. -/
import Derived.Test.YtcjidlgmbjebjaaGreatDoorVrk
set_option linter.unusedVariables false
set_option linter.unusedSimpArgs false
set_option maxRecDepth 100000
-- PRINTED BY print.sh 35421559b90ae4d0a3588c463048766b98c2df88dd9212a6774a882060cdf62d: not written by this session
namespace Go.Proofs.YtcjidlgmbjebjaaGreatDoor.PSchemaForms
open Go.RowKit Go.Proofs.YtcjidlgmbjebjaaGreatDoorW.PrintWords Go.Proofs.YtcjidlgmbjebjaaGreatDoorW.PrintLast Go.Proofs.YtcjidlgmbjebjaaGreatDoorW.PrintMore
attribute [local go_sem] max2_int min2_int max_two min_two max_three min_three max_four min_four   -- for this text's walks alone
end Go.Proofs.YtcjidlgmbjebjaaGreatDoor.PSchemaForms
