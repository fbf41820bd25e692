/- Steps that the printed walks use beside Env, Drw, Drg. -/
import Derived.Test.YtiainjcimmeedaaR5
import Derived.Test.YtiainjcimmeedaaDrg
set_option linter.unusedVariables false
set_option linter.unusedSimpArgs false
namespace Go.Pl
open Go.RowKit
section
variable {P : Program} {O : Array Oper} {o : Oper} {a : Act} {w : World} {n d g s : Nat} {b : Bool} {L : List (Nat × Value)} {v : Value} {ρ : Operand → Value}
theorem Env.add (E : Env n L a) (h : a.eval (.tmp s) = v) : Env n ((s, v) :: L) a := ⟨E.size, fun x hx => by
  rcases List.mem_cons.1 hx with rfl | hx
  · exact h
  · exact E.at_ x hx, E.df⟩
theorem w_no (E : Env n L a) (hgd : o.guard = some (g, b)) (hg : (O[g]?).bind (·.dst) = some s) (hs : s < n) (hv : a.eval (.tmp s) = .bool (!b)) : Region.wanted o (yielded O a.tmps) = false := by
  rw [wanted_some hgd, yield_eq hg (by rw [E.size]; exact hs), hv]; cases b <;> rfl
theorem w_nou (E : Env n L a) (hgd : o.guard = some (g, b)) (hg : (O[g]?).bind (·.dst) = some s) (hs : s < n) (hv : a.eval (.tmp s) = undef) : Region.wanted o (yielded O a.tmps) = false := by
  rw [wanted_some hgd, yield_eq hg (by rw [E.size]; exact hs), hv]; cases b <;> rfl
theorem run_call0 {f : FuncId} {ts : Array TypeId} (eg : ∀ args w, (callFunc f args).run P w = .ok (.enter f args) w) (ho : o.op = .call ⟨.value (.func f), #[], ts⟩) (hf : ρ (.func f) = .func (.func f) #[] #[]) : (execOp ρ o).run P w = .ok (.enter f #[]) w := by
  simp [execOp, ho, hf, eg, resolve, Deferred.ofValue, invoke, go_sem]
end
end Go.Pl
namespace Go.Proofs.Ytiainjcimmeedaa
open Go.RowKit Go.Pl Go.Geo
section
variable {o : Oper} {w : World} {ρ : Operand → Value} {x y : Operand} {g off k : Nat} {cs : List Value}
theorem ld3_at {n : Int} (ho : o.op = .load 3 x) (hx : ρ x = .pointer (some ⟨g, off + k, none⟩)) (h : w.rangeAt g off cs) (hc : cs[k]? = some (.int .i64 n)) : (execOp ρ o).run Try.prog w = .ok (.value (.int .i64 n)) w := by
  have hc' : w.cell? ⟨g, off + k, none⟩ = some (.int .i64 n) := h k _ hc
  simp [execOp, ho, hx, go_sem, hc']
end
end Go.Proofs.Ytiainjcimmeedaa
