/- What waits in the heap: its order, its cells; steps at its types. -/
import Derived.Test.YtcafnanbdmapgaaL9
set_option linter.unusedVariables false
set_option linter.unusedSimpArgs false
namespace Go.Proofs.Ytcafnanbdmapgaa
open Go.RowKit Go.Pl Go.Sort

/-- A node of height h that waits, with its distance. -/
structure Wt where
  c : Nd
  h : Nat
  far : Int
def idOf (h : Nat) (L : List En) : ByteArray := if h = 0 then (L.head?.map (·.1)).getD ByteArray.empty else ByteArray.empty
abbrev Wt.id (x : Wt) : ByteArray := idOf x.h x.c.2.2
abbrev wtC (x : Wt) : Array Value := #[.pointer (some ⟨x.c.1, 0, none⟩), .int .i64 x.far]
abbrev wtL (x : Wt) : List Value := [.pointer (some ⟨x.c.1, 0, none⟩), .int .i64 x.far]
theorem wtL_len : ∀ x, (wtL x).length = 2 := fun _ => rfl
abbrev oWt (w : World) (B : Nat) (v : Value) (X : List Wt) : Prop := ow wtL 2 76 w B v X
/-- The waiting node is there. -/
abbrev WtAt (w : World) (S : Nat → Prop) (x : Wt) : Prop := NdAt w S x.h x.c.1 x.c.2.1 x.c.2.2
/-- The order of what waits. -/
def lsW (x y : Wt) : Bool := if x.far ≠ y.far then decide (x.far < y.far) else if (x.h == 0) != (y.h == 0) then x.h != 0 else Op.bytesLess x.id.toList y.id.toList
/-- The same, as a relation. -/
def LsW (x y : Wt) : Prop := x.far < y.far ∨ x.far = y.far ∧ (x.h ≠ 0 ∧ y.h = 0 ∨ (x.h = 0 ↔ y.h = 0) ∧ sl x.id y.id)
theorem lsW_iff (x y : Wt) : lsW x y = true ↔ LsW x y := by
  unfold lsW LsW
  by_cases h1 : x.far = y.far
  · rw [if_neg (by simpa using h1)]
    by_cases h2 : x.h = 0
    · have b2 : (x.h == 0) = true := beq_iff_eq.2 h2
      by_cases h3 : y.h = 0
      · have b3 : (y.h == 0) = true := beq_iff_eq.2 h3
        rw [b2, b3]; simp [h1, h2, h3, sl]
      · have b3 : (y.h == 0) = false := beq_eq_false_iff_ne.2 h3
        rw [b2, b3]; simp [h1, h2, h3, sl]
    · have b2 : (x.h == 0) = false := beq_eq_false_iff_ne.2 h2
      by_cases h3 : y.h = 0
      · have b3 : (y.h == 0) = true := beq_iff_eq.2 h3
        rw [b2, b3]; simp [h1, h2, h3, sl]
      · have b3 : (y.h == 0) = false := beq_eq_false_iff_ne.2 h3
        rw [b2, b3]; simp [h1, h2, h3, sl]
  · rw [if_pos h1]
    simp only [decide_eq_true_eq, h1, false_and, or_false]
theorem LsW.irrefl (x : Wt) : ¬ LsW x x := by
  unfold LsW
  rintro (h | ⟨_, ⟨h1, h2⟩ | ⟨_, h⟩⟩)
  · omega
  · exact h1 h2
  · exact sl_irrefl _ h
theorem LsW.trans {x y z : Wt} (h : LsW x y) (k : LsW y z) : LsW x z := by
  unfold LsW at *
  rcases h with h | ⟨h1, h⟩
  · rcases k with k | ⟨k1, _⟩
    · left; omega
    · left; omega
  · rcases k with k | ⟨k1, k⟩
    · left; omega
    · right
      refine ⟨h1.trans k1, ?_⟩
      rcases h with ⟨h2, h3⟩ | ⟨h2, h3⟩
      · rcases k with ⟨k2, k3⟩ | ⟨k2, k3⟩
        · exact absurd h3 k2
        · exact .inl ⟨h2, k2.1 h3⟩
      · rcases k with ⟨k2, k3⟩ | ⟨k2, k3⟩
        · exact .inl ⟨fun e => k2 (h2.1 e), k3⟩
        · exact .inr ⟨h2.trans k2, sl_trans h3 k3⟩
/-- Not less is transitive. -/
theorem LsW.ntrans {x y z : Wt} (h : ¬ LsW x y) (k : ¬ LsW y z) : ¬ LsW x z := by
  intro hxz
  have htri : LsW x y ∨ LsW y x ∨ (x.far = y.far ∧ (x.h = 0 ↔ y.h = 0) ∧ x.id = y.id) := by
    unfold LsW
    rcases Int.lt_trichotomy x.far y.far with h1 | h1 | h1
    · exact .inl (.inl h1)
    · by_cases h2 : x.h = 0 <;> by_cases h3 : y.h = 0
      · rcases sl_tri x.id y.id with h4 | h4 | h4
        · exact .inl (.inr ⟨h1, .inr ⟨by simp [h2, h3], h4⟩⟩)
        · exact .inr (.inr ⟨h1, by simp [h2, h3], h4⟩)
        · exact .inr (.inl (.inr ⟨h1.symm, .inr ⟨by simp [h2, h3], h4⟩⟩))
      · exact .inr (.inl (.inr ⟨h1.symm, .inl ⟨h3, h2⟩⟩))
      · exact .inl (.inr ⟨h1, .inl ⟨h2, h3⟩⟩)
      · rcases sl_tri x.id y.id with h4 | h4 | h4
        · exact .inl (.inr ⟨h1, .inr ⟨by simp [h2, h3], h4⟩⟩)
        · exact .inr (.inr ⟨h1, by simp [h2, h3], h4⟩)
        · exact .inr (.inl (.inr ⟨h1.symm, .inr ⟨by simp [h2, h3], h4⟩⟩))
    · exact .inr (.inl (.inl h1))
  rcases htri with h1 | h1 | ⟨h1, h2, h3⟩
  · exact h h1
  · exact k (LsW.trans h1 hxz)
  · apply k
    unfold LsW at *
    rw [h1, h3] at hxz
    rcases hxz with q | ⟨q1, q2⟩
    · exact .inl q
    · refine .inr ⟨q1, ?_⟩
      rcases q2 with ⟨q3, q4⟩ | ⟨q3, q4⟩
      · exact .inl ⟨fun e => q3 (h2.2 e), q4⟩
      · exact .inr ⟨h2.symm.trans q3, q4⟩

/-- The node's Id and parts, in its block. -/
theorem WtAt.cells {w : World} {S : Nat → Prop} {x : Wt} (h : WtAt w S x) : w.cell? ⟨x.c.1, 4, none⟩ = some (.string x.id) ∧ ∃ p n cap, w.cell? ⟨x.c.1, 5, none⟩ = some (.slice p n cap) ∧ (x.h = 0 → p = none ∧ n = 0 ∧ cap = 0) ∧ (x.h ≠ 0 → ∃ a, p = some a) := by
  obtain ⟨⟨pb, b, L⟩, hh, far⟩ := x
  cases hh with
  | zero =>
    obtain ⟨_, id, h2, h3⟩ := h
    simp only at h2 h3
    subst h3
    exact ⟨by rw [cell_of_blk h2]; rfl, none, 0, 0, by rw [cell_of_blk h2]; rfl, fun _ => ⟨rfl, rfl, rfl⟩, fun h => absurd rfl h⟩
  | succ n =>
    obtain ⟨_, g, off, cap, C, h2, _⟩ := h
    simp only at h2
    exact ⟨by rw [cell_of_blk h2]; rfl, some ⟨g, off, none⟩, C.length, cap, by rw [cell_of_blk h2]; rfl, fun h => by simp at h, fun _ => ⟨_, rfl⟩⟩

/-- The queue: its row and its comparison. -/
def quB (w : World) (q : Nat) (v : Value) : Prop := w.heap[q]? = some (.cells #[v, .func (.func 39) #[] #[]] 80 (0, 0))
abbrev wtB (w : World) (g : Nat) (x : Wt) : Prop := w.heap[g]? = some (.cells (wtC x) 76 (0, 0))
section
variable {o : Oper} {w : World} {ρ : Operand → Value} {x y z : Operand} {g off q n cap i : Nat} {s t : Wt} {v : Value} {p : Option Addr}
theorem info76 : (Try.prog.info? 76).map (·.size) = some 2 := by kernel_rfl
theorem info76z : (Try.prog.info? 76).map (fun i => (i.zero, i.size, i.bytes)) = some (some (.agg #[.pointer none, .int .i64 0]), 2, 16) := by kernel_rfl
theorem run_ld76 (ho : o.op = .load 76 x) (hx : ρ x = .pointer (some ⟨g, off, none⟩)) (h : w.rangeAt g off (wtC s).toList) : (execOp ρ o).run Try.prog w = .ok (.value (.agg (wtC s))) w := by
  have := run_loadAt_mid (P := Try.prog) w g off 76 (wtC s).toList _ h Try.underlying76 rfl info76
  simp only [execOp, ho, hx, Sem.run_bind, this, Result.andThen_ok, Sem.run_pure]
theorem run_box76 (ho : o.op = .box 76 x) (hx : ρ x = .agg (wtC s)) : (execOp ρ o).run Try.prog w = .ok (.value (.pointer (some ⟨w.heap.size, 0, none⟩))) (w.alloc (.cells (wtC s) 76)) := by
  simp [execOp, ho, hx, go_sem]
theorem run_alloc76 (ho : o.op = .alloc 76) : (execOp ρ o).run Try.prog w = .ok (.value (.pointer (some ⟨w.heap.size, 0, none⟩))) (w.alloc (.cells #[.pointer none, .int .i64 0] 76)) := by
  simp [execOp, ho, go_sem]
theorem run_st76 {u0 u1 : Value} (ho : o.op = .store 76 x y) (hx : ρ x = .pointer (some ⟨g, off, none⟩)) (hy : ρ y = .agg (wtC s)) (h0 : w.cell? ⟨g, off, none⟩ = some u0) (h1 : w.cell? ⟨g, off + 1, none⟩ = some u1) (z0 : w.frozen? ⟨g, off, none⟩ = false) (z1 : w.frozen? ⟨g, off + 1, none⟩ = false) :
    (execOp ρ o).run Try.prog w = .ok .skip ((w.setCell ⟨g, off, none⟩ (.pointer (some ⟨s.c.1, 0, none⟩))).setCell ⟨g, off + 1, none⟩ (.int .i64 s.far)) := by
  simp [execOp, ho, hx, hy, go_sem, h0, h1, z0, z1]
theorem run_ld77 (ho : o.op = .load 77 x) (hx : ρ x = .pointer (some ⟨g, off, none⟩)) (hc : w.cell? ⟨g, off, none⟩ = some v) : (execOp ρ o).run Try.prog w = .ok (.value v) w := by
  simp [execOp, ho, hx, go_sem, hc]
theorem run_st78 {u : Value} {n c : Nat} (hv : v = .slice p n c) (ho : o.op = .store 78 x y) (hx : ρ x = .pointer (some ⟨g, off, none⟩)) (hy : ρ y = v) (hc : w.cell? ⟨g, off, none⟩ = some u) (hz : w.frozen? ⟨g, off, none⟩ = false) : (execOp ρ o).run Try.prog w = .ok .skip (w.setCell ⟨g, off, none⟩ v) := by
  subst hv
  simp [execOp, ho, hx, hy, go_sem, hc, hz]
theorem run_build76 {pb : Nat} {f : Int} (ho : o.op = .build 76 #[(0, x), (1, y)]) (hx : ρ x = .pointer (some ⟨pb, 0, none⟩)) (hy : ρ y = .int .i64 f) : (execOp ρ o).run Try.prog w = .ok (.value (.agg #[.pointer (some ⟨pb, 0, none⟩), .int .i64 f])) w := by
  simp [execOp, ho, hx, hy, go_sem]
theorem run_mki74 (ho : o.op = .makeInterface 74 x) (hx : ρ x = .pointer p) : (execOp ρ o).run Try.prog w = .ok (.value (.iface 74 (.pointer p))) w := by
  simp [execOp, ho, hx, go_sem]
theorem run_mki76 (ho : o.op = .makeInterface 76 x) (hx : ρ x = .agg (wtC s)) : (execOp ρ o).run Try.prog w = .ok (.value (.iface 76 (.agg (wtC s)))) w := by
  simp [execOp, ho, hx, go_sem]
theorem run_ta76 (ho : o.op = .typeAssert x 20 76 true) (hx : ρ x = .iface 76 (.agg (wtC s))) : (execOp ρ o).run Try.prog w = .ok (.value (.tuple #[.agg (wtC s), .bool true])) w := by
  have h : (Instr.typeAssert (.iface 76 (.agg (wtC s))) 20 76 true).run Try.prog w = .ok (.tuple #[.agg (wtC s), .bool true]) w := by kernel_rfl
  simp only [execOp, ho, hx, Sem.run_bind, h, Result.andThen_ok, Sem.run_pure]
theorem run_snn69' {a : Addr} (ho : o.op = .binOp .neq 69 x y 69) (hx : ρ x = .slice (some a) n cap) (hy : ρ y = .slice none 0 0) : (execOp ρ o).run Try.prog w = .ok (.value (.bool true)) w := by
  have := Lib.run_eql_slice_nil (P := Try.prog) w 69 59 (some a) n cap 0 0 Try.underlying69
  simp [execOp, ho, hx, hy, go_sem, this]
/-- A method of the queue, by the interface. -/
theorem mt_len (q : Nat) (w : World) : (method 258 74 (.pointer (some ⟨q, 0, none⟩)) "Len").run Try.prog w = .ok (42, .pointer (some ⟨q, 0, none⟩)) w := by kernel_rfl
theorem mt_less (q : Nat) (w : World) : (method 258 74 (.pointer (some ⟨q, 0, none⟩)) "Less").run Try.prog w = .ok (110, .pointer (some ⟨q, 0, none⟩)) w := by kernel_rfl
theorem mt_swap (q : Nat) (w : World) : (method 258 74 (.pointer (some ⟨q, 0, none⟩)) "Swap").run Try.prog w = .ok (113, .pointer (some ⟨q, 0, none⟩)) w := by kernel_rfl
theorem mt_push (q : Nat) (w : World) : (method 258 74 (.pointer (some ⟨q, 0, none⟩)) "Push").run Try.prog w = .ok (112, .pointer (some ⟨q, 0, none⟩)) w := by kernel_rfl
theorem mt_pop (q : Nat) (w : World) : (method 258 74 (.pointer (some ⟨q, 0, none⟩)) "Pop").run Try.prog w = .ok (111, .pointer (some ⟨q, 0, none⟩)) w := by kernel_rfl
end
section
variable {o : Oper} {w : World} {ρ : Operand → Value} {x y z : Operand} {rv v u : Value} {f : Nat} {nm : String} {ts : Array TypeId}
theorem run_inv0 (hm : (method 258 74 rv nm).run Try.prog w = .ok (f, rv) w) (eg : ∀ args w, (callFunc f args).run Try.prog w = .ok (.enter f args) w) (ho : o.op = .call ⟨.invoke x nm, #[], ts⟩) (hx : ρ x = .iface 74 rv) : (execOp ρ o).run Try.prog w = .ok (.enter f #[rv]) w := by
  simp [execOp, ho, hx, resolve, invoke, callMethod, go_sem, hm, eg]
theorem run_inv1 (hm : (method 258 74 rv nm).run Try.prog w = .ok (f, rv) w) (eg : ∀ args w, (callFunc f args).run Try.prog w = .ok (.enter f args) w) (ho : o.op = .call ⟨.invoke x nm, #[y], ts⟩) (hx : ρ x = .iface 74 rv) (hy : ρ y = v) : (execOp ρ o).run Try.prog w = .ok (.enter f #[rv, v]) w := by
  simp [execOp, ho, hx, hy, resolve, invoke, callMethod, go_sem, hm, eg]
theorem run_inv2 (hm : (method 258 74 rv nm).run Try.prog w = .ok (f, rv) w) (eg : ∀ args w, (callFunc f args).run Try.prog w = .ok (.enter f args) w) (ho : o.op = .call ⟨.invoke x nm, #[y, z], ts⟩) (hx : ρ x = .iface 74 rv) (hy : ρ y = v) (hz : ρ z = u) : (execOp ρ o).run Try.prog w = .ok (.enter f #[rv, v, u]) w := by
  simp [execOp, ho, hx, hy, hz, resolve, invoke, callMethod, go_sem, hm, eg]
end
end Go.Proofs.Ytcafnanbdmapgaa
