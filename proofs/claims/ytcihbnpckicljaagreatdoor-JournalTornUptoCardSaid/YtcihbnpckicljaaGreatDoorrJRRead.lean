/- The document's Read. Conditions: a text no longer than 2^40 bytes; utf8's tables read as the text lays them. -/
import Derived.Test.YtcihbnpckicljaaGreatDoorrJRRevRd
import Derived.Test.YtcihbnpckicljaaGreatDoorrJRead
set_option linter.unusedVariables false
set_option linter.unusedSimpArgs false
namespace Go.Proofs.YtcihbnpckicljaaGreatDoor
open Go Go.RowKit Go.BigFrame
open Go.Lib(hid)
set_option maxRecDepth 100000
end Go.Proofs.YtcihbnpckicljaaGreatDoor
