/- The reference: weeks as sets. -/
import Derived.Test.YtjaffpnegdcjnaaGreatDoorQOw
set_option linter.unusedVariables false
set_option linter.unusedSimpArgs false
namespace Go.Proofs.YtjaffpnegdcjnaaGreatDoor
open Go.RowKit Go.Pl
/-- What the three answer for any lists: nothing where one is not valid. -/
def notQ (l : List Sp) : List Sp := if vl (-1) l = true then notL l else []
def bothQ (a b : List Sp) : List Sp := if (vl (-1) a && vl (-1) b) = true then bothL a b else []
def eitherQ (a b : List Sp) : List Sp := if (vl (-1) a && vl (-1) b) = true then eitherL a b else []
end Go.Proofs.YtjaffpnegdcjnaaGreatDoor
