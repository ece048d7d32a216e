/- What is scanned of any bytes is in a row, and is scanned again. No conditions. -/
import Derived.Test.YtcihbnpckicljaaGreatDoorqJScan
import Derived.Test.YtcihbnpckicljaaGreatDoorqJReadP
set_option linter.unusedVariables false
set_option linter.unusedSimpArgs false
namespace Go.Proofs.YtcihbnpckicljaaGreatDoor
open Go Go.RowKit Go.BigFrame
open Go.Lib(hid)
set_option maxRecDepth 100000
def scanV (s:List UInt8):List DBlk×Nat:=scanP (s.length+1) s 0 zero32
end Go.Proofs.YtcihbnpckicljaaGreatDoor
