/- The laws of the sets: the plain side. -/
import Derived.Test.YtjaffpnegdcjnaaGreatDoorSF1
set_option linter.unusedVariables false
set_option linter.unusedSimpArgs false
namespace Go.Proofs.YtjaffpnegdcjnaaGreatDoor
open Go.RowKit Go.Pl
section
variable {o : Oper} {w : World} {ρ : Operand → Value} {x y : Operand}
theorem run_beql {a b : Bool} (hx : ρ x = .bool a) (hy : ρ y = .bool b) (ho : o.op = .binOp .eql 4 x y 4) : (execOp ρ o).run Tryz.prog w = .ok (.value (.bool (a == b))) w := by
 cases a <;> cases b <;> simp [execOp, ho, hx, hy, go_sem]
end
theorem few2 {a b : Slv} (h : fewB [a, b] = true) : a.2.1 ≤ 150 ∧ b.2.1 ≤ 150 := by simpa [fewB] using h
theorem beq_of {a b : List Sp} (h : a = b) : (a == b) = true := by rw [h]; exact beq_self_eq_true b
end Go.Proofs.YtjaffpnegdcjnaaGreatDoor
