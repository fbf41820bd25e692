/- The reference: weeks as sets. -/
import Derived.Test.YtjaffpnegdcjnaaGreatDoorROw
set_option linter.unusedVariables false
set_option linter.unusedSimpArgs false
namespace Go.Proofs.YtjaffpnegdcjnaaGreatDoor
open Go.RowKit Go.Pl
def eitherQ (a b : List Sp) : List Sp := if (vl (-1) a && vl (-1) b) = true then eitherL a b else []
end Go.Proofs.YtjaffpnegdcjnaaGreatDoor
