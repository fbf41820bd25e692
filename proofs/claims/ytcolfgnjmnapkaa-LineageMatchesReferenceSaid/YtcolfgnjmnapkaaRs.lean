/- The reference lineage's Follow, in plain words; steps of its walk. -/
import Derived.Test.YtcolfgnjmnapkaaRr
set_option linter.unusedVariables false
set_option linter.unusedSimpArgs false
namespace Go.Proofs.Ytcolfgnjmnapkaa
open Go.RowKit Go.Pl
noncomputable def stp (a b : ByteArray) (R : RefS) (x : ByteArray) : RefS := if pairB R x a = true then addR R x b else R
noncomputable def linR (R : RefS) : LinS := ⟨inB R.ms, pairB R⟩
noncomputable def refE (R : RefS) (e : Edt) : Int := followE (linR R) e
/-- The state behind an edit without an error. -/
noncomputable def refF (R : RefS) (e : Edt) : RefS :=
  if e.op = 1 then menR R e.oid
  else if e.op = 6 then (menR (menR R e.id) e.other).ms.foldl (stp e.id e.other) (menR (menR R e.id) e.other)
  else if e.op = 7 then dropR ((menR (menR R e.id) e.other).ms.foldl (stp e.other e.id) (menR (menR R e.id) e.other)) e.other
  else if e.op = 5 then dropR (menR R e.id) e.id else menR R e.id
theorem addR_ms (R : RefS) (a b : ByteArray) : (addR R a b).ms = R.ms := by unfold addR; split <;> rfl
theorem stp_ms (a b : ByteArray) (R : RefS) (x : ByteArray) : (stp a b R x).ms = R.ms := by unfold stp; split <;> (try rfl); exact addR_ms _ _ _
theorem fold_ms (a b : ByteArray) : ∀ (l : List ByteArray) (R : RefS), (l.foldl (stp a b) R).ms = R.ms
  | [], R => rfl
  | x :: l, R => by rw [List.foldl_cons, fold_ms a b l, stp_ms]
theorem addR_len (R : RefS) (a b : ByteArray) : (addR R a b).ps.length ≤ R.ps.length + 1 := by unfold addR; split <;> simp
theorem stp_len (a b : ByteArray) (R : RefS) (x : ByteArray) : (stp a b R x).ps.length ≤ R.ps.length + 1 := by
  unfold stp; split
  · exact addR_len _ _ _
  · omega
theorem fold_len (a b : ByteArray) : ∀ (l : List ByteArray) (R : RefS), (l.foldl (stp a b) R).ps.length ≤ R.ps.length + l.length
  | [], R => by simp
  | x :: l, R => by
    rw [List.foldl_cons, List.length_cons]
    have h1 := fold_len a b l (stp a b R x)
    have h2 := stp_len a b R x
    omega
theorem menR_ms (R : RefS) (a : ByteArray) : (menR R a).ms.length ≤ R.ms.length + 1 := by unfold menR; split <;> simp
theorem menR_ps (R : RefS) (a : ByteArray) : (menR R a).ps.length ≤ R.ps.length + 1 := by unfold menR; split <;> simp
theorem bx {w : World} {b : Nat} {cs : Array Value} {T : TypeId} (h : w.heap[b]? = some (.cells cs T (0, 0))) (k : Nat) {v : Value} (hv : cs[k]? = some v) : w.cell? ⟨b, k, none⟩ = some v := by rw [cell_of_blk h]; exact hv
section
variable {o : Oper} {w : World} {ρ : Operand → Value} {x y : Operand} {g off k : Nat}
theorem fa38_0 (ho : o.op = .fieldAddr 38 x 0) (hx : ρ x = .pointer (some ⟨g, 0, none⟩)) : (execOp ρ o).run Try.prog w = .ok (.value (.pointer (some ⟨g, 0, none⟩))) w := by simp [execOp, ho, hx, go_sem]
theorem fa38_1 (ho : o.op = .fieldAddr 38 x 1) (hx : ρ x = .pointer (some ⟨g, 0, none⟩)) : (execOp ρ o).run Try.prog w = .ok (.value (.pointer (some ⟨g, 1, none⟩))) w := by simp [execOp, ho, hx, go_sem]
theorem fa38_2 (ho : o.op = .fieldAddr 38 x 2) (hx : ρ x = .pointer (some ⟨g, 0, none⟩)) : (execOp ρ o).run Try.prog w = .ok (.value (.pointer (some ⟨g, 2, none⟩))) w := by simp [execOp, ho, hx, go_sem]
theorem fa38_8 (ho : o.op = .fieldAddr 38 x 8) (hx : ρ x = .pointer (some ⟨g, 0, none⟩)) : (execOp ρ o).run Try.prog w = .ok (.value (.pointer (some ⟨g, 9, none⟩))) w := by simp [execOp, ho, hx, go_sem]
theorem fa36_0 (ho : o.op = .fieldAddr 36 x 0) (hx : ρ x = .pointer (some ⟨g, off, none⟩)) : (execOp ρ o).run Try.prog w = .ok (.value (.pointer (some ⟨g, off, none⟩))) w := by simp [execOp, ho, hx, go_sem]
theorem run_box38 {e : Edt} (ho : o.op = .box 38 x) (hx : ρ x = .agg e.cells) : (execOp ρ o).run Try.prog w = .ok (.value (.pointer (some ⟨w.heap.size, 0, none⟩))) (w.alloc (.cells e.cells 38)) := by
  simp [execOp, ho, hx, go_sem]
end
section
variable {O : Array Oper} {Q : Exit → Act → World → Prop} {rest : List Oper} {o : Oper} {a : Act} {w : World} {n d : Nat} {L : List (Nat × Value)} {x y : Operand} {b : Nat}
theorem env_box38 {e : Edt} (En : Env n L a) (hd : o.dst = some d) (hn : d < n) (hf : (L.map (·.1)).contains d = false) (hw : Region.wanted o (yielded O a.tmps) = true) (ho : o.op = .box 38 x) (hx : a.eval x = .agg e.cells)
    (k : ∀ a' w' b, w.heap.size = b → w'.heap[b]? = some (.cells e.cells 38 (0, 0)) → Fr (fun _ => False) w w' → Env n ((d, .pointer (some ⟨b, 0, none⟩)) :: L) a' → wpList Try.prog O Q rest a' w') : wpList Try.prog O Q (o :: rest) a w :=
  env_put En hd hn hf hw (run_box38 ho hx) fun a' E' => k a' _ _ rfl (blk_alloc_new _ _) ((Fr.refl _ _).alloc _) E'
end
end Go.Proofs.Ytcolfgnjmnapkaa
