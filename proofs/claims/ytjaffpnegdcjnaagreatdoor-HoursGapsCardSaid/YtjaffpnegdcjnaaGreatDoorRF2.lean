/- The laws of the sets: the plain side. -/
import Derived.Test.YtjaffpnegdcjnaaGreatDoorRF1
set_option linter.unusedVariables false
set_option linter.unusedSimpArgs false
namespace Go.Proofs.YtjaffpnegdcjnaaGreatDoor
open Go.RowKit Go.Pl
section
variable {o : Oper} {w : World} {ρ : Operand → Value} {x y : Operand}
theorem run_bneq {a b : Bool} (hx : ρ x = .bool a) (hy : ρ y = .bool b) (ho : o.op = .binOp .neq 4 x y 4) : (execOp ρ o).run Tryz.prog w = .ok (.value (.bool (a != b))) w := by
 cases a <;> cases b <;> simp [execOp, ho, hx, hy, go_sem]
end
theorem few1 {a : Slv} (h : fewB [a] = true) : a.2.1 ≤ 150 := by simpa [fewB] using h
theorem open_mn {l : List Sp} {m : Int} (hv : vl (-1) l = true) (hm : minuteB m = true) : openB l m = true ↔ mn l (m % 10080) := by
 unfold openB
 rw [hv, hm]
 simp only [Bool.true_and, List.any_eq_true, mn, inB, Bool.and_eq_true, decide_eq_true_eq]
theorem beq_of {a b : List Sp} (h : a = b) : (a == b) = true := by rw [h]; exact beq_self_eq_true b
end Go.Proofs.YtjaffpnegdcjnaaGreatDoor
