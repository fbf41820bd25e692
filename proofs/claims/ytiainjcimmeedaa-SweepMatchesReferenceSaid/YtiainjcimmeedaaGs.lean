/- Steps of this program's regions: fields, loads, structs compared. -/
import Derived.Test.YtiainjcimmeedaaGn
import Derived.Test.YtiainjcimmeedaaEnv
import Derived.Laws.StructEq
import Derived.Shelf.Abstract
import Derived.Deep.Cut
import Derived.Deep.DeepCutAuto
set_option linter.unusedVariables false
set_option linter.unusedSimpArgs false
namespace Go.Proofs.Ytiainjcimmeedaa
open Go.RowKit Go.Pl Go.Geo

section
variable {o : Oper} {w : World} {ρ : Operand → Value} {x y : Operand} {b : Nat}
theorem fa34_0 (ho : o.op = .fieldAddr 34 x 0) (hx : ρ x = .pointer (some ⟨b, 0, none⟩)) : (execOp ρ o).run Try.prog w = .ok (.value (.pointer (some ⟨b, 0, none⟩))) w := by
  simp [execOp, ho, hx, go_sem]
theorem fa34_1 (ho : o.op = .fieldAddr 34 x 1) (hx : ρ x = .pointer (some ⟨b, 0, none⟩)) : (execOp ρ o).run Try.prog w = .ok (.value (.pointer (some ⟨b, 2, none⟩))) w := by
  simp [execOp, ho, hx, go_sem]
theorem ld_pt {p : Pt} (ho : o.op = .load 32 x) (hx : ρ x = .pointer (some ⟨b, 0, none⟩)) (h : ptB w b p) : (execOp ρ o).run Try.prog w = .ok (.value (.agg (ptC p))) w := by
  obtain ⟨c0, c1⟩ := h.c
  simp [execOp, ho, hx, go_sem, c0, c1]
theorem ld_sg1 {s : Sg} (ho : o.op = .load 32 x) (hx : ρ x = .pointer (some ⟨b, 0, none⟩)) (h : sgB w b s) : (execOp ρ o).run Try.prog w = .ok (.value (.agg (ptC s.1))) w := by
  obtain ⟨c0, c1, c2, c3⟩ := h.c
  simp [execOp, ho, hx, go_sem, c0, c1]
theorem ld_sg2 {s : Sg} (ho : o.op = .load 32 x) (hx : ρ x = .pointer (some ⟨b, 2, none⟩)) (h : sgB w b s) : (execOp ρ o).run Try.prog w = .ok (.value (.agg (ptC s.2))) w := by
  obtain ⟨c0, c1, c2, c3⟩ := h.c
  simp [execOp, ho, hx, go_sem, c2, c3]
theorem ld_sg {s : Sg} (ho : o.op = .load 34 x) (hx : ρ x = .pointer (some ⟨b, 0, none⟩)) (h : sgB w b s) : (execOp ρ o).run Try.prog w = .ok (.value (.agg (sgC s))) w := by
  obtain ⟨c0, c1, c2, c3⟩ := h.c
  simp [execOp, ho, hx, go_sem, c0, c1, c2, c3]
theorem eqP (p q : Pt) (w : World) : (binOp .eql 32 (.agg (ptC p)) (.agg (ptC q))).run Try.prog w = .ok (.bool (decide (p = q))) w := by
  have u3 := Try.underlying3
  have hS : Try.prog.underlying 32 = some (.struct (Try.prog.fieldsOf 32)) := by kernel_rfl
  have hp : Try.prog.stoodInHeld 32 = false := by kernel_rfl
  rw [run_eql_struct, show (10000 : Nat) = 9999 + 1 from rfl, run_equalIn_agg w 9999 32 _ _ hS hp]
  simp only [Program.fieldsOf, Try.underlying32]
  go_simp
  obtain ⟨a, b⟩ := p
  obtain ⟨c, d⟩ := q
  by_cases h1 : a = c <;> by_cases h2 : b = d <;> simp [h1, h2]
theorem eqPin (d : Nat) (p q : Pt) (w : World) : (Op.equalIn (d + 2) 32 (.agg (ptC p)) (.agg (ptC q))).run Try.prog w = .ok (decide (p = q)) w := by
  have u3 := Try.underlying3
  have hS : Try.prog.underlying 32 = some (.struct (Try.prog.fieldsOf 32)) := by kernel_rfl
  have hp : Try.prog.stoodInHeld 32 = false := by kernel_rfl
  rw [run_equalIn_agg w (d + 1) 32 _ _ hS hp]
  simp only [Program.fieldsOf, Try.underlying32]
  go_simp
  obtain ⟨a, b⟩ := p
  obtain ⟨c, d⟩ := q
  by_cases h1 : a = c <;> by_cases h2 : b = d <;> simp [h1, h2]
theorem eqSin (d : Nat) (p q : Sg) (w : World) : (Op.equalIn (d + 3) 34 (.agg (sgC p)) (.agg (sgC q))).run Try.prog w = .ok (decide (p = q)) w := by
  have hS : Try.prog.underlying 34 = some (.struct (Try.prog.fieldsOf 34)) := by kernel_rfl
  have hp : Try.prog.stoodInHeld 34 = false := by kernel_rfl
  have a32 := Try.isAgg32
  have z32 := Try.sizeOf32
  rw [run_equalIn_agg w (d + 2) 34 _ _ hS hp]
  simp only [Program.fieldsOf, Try.underlying34, Op.eqFields, part, Sem.run_bind, a32, z32, Result.andThen_ok]
  have h1 := eqPin d p.1 q.1 w
  have h2 := eqPin d p.2 q.2 w
  obtain ⟨p1, p2⟩ := p
  obtain ⟨q1, q2⟩ := q
  simp only at h1 h2
  have e1 : ∀ u v : Pt, (sgC (u, v)).extract 0 (0 + 2) = ptC u := fun _ _ => rfl
  have e2 : ∀ u v : Pt, (sgC (u, v)).extract 2 (2 + 2) = ptC v := fun _ _ => rfl
  have n1 : ("A" ≠ "_") = True := by decide
  have n2 : ("B" ≠ "_") = True := by decide
  simp only [n1, n2, if_true, Sem.run_bind, a32, z32, Result.andThen_ok, Sem.run_pure, e1, e2, h1]
  by_cases k1 : p1 = q1
  · simp only [k1, decide_true, Bool.not_true, Bool.false_eq_true, if_false, Sem.run_bind, a32, z32, Result.andThen_ok, if_true, Sem.run_pure, e2, h2]
    by_cases k2 : p2 = q2 <;> simp [k2]
  · simp [k1]
theorem eqS (p q : Sg) (w : World) : (binOp .eql 34 (.agg (sgC p)) (.agg (sgC q))).run Try.prog w = .ok (.bool (decide (p = q))) w := by
  rw [run_eql_struct, show (10000 : Nat) = 9997 + 3 from rfl, eqSin]; rfl
theorem eql32 {p q : Pt} {T : TypeId} (ho : o.op = .binOp .eql 32 x y T) (hx : ρ x = .agg (ptC p)) (hy : ρ y = .agg (ptC q)) : (execOp ρ o).run Try.prog w = .ok (.value (.bool (decide (p = q)))) w := by
  have hm : Try.prog.eqGuardType Try.prog.depth 32 = false := by kernel_rfl
  simp only [execOp, ho, hx, hy, Sem.run_bind, run_eqGuard_agg w _ 32 _ _ _ _ hm, Result.andThen_ok, eqP, Sem.run_pure]
theorem eql34 {p q : Sg} {T : TypeId} (ho : o.op = .binOp .eql 34 x y T) (hx : ρ x = .agg (sgC p)) (hy : ρ y = .agg (sgC q)) : (execOp ρ o).run Try.prog w = .ok (.value (.bool (decide (p = q)))) w := by
  have hm : Try.prog.eqGuardType Try.prog.depth 34 = false := by kernel_rfl
  simp only [execOp, ho, hx, hy, Sem.run_bind, run_eqGuard_agg w _ 34 _ _ _ _ hm, Result.andThen_ok, eqS, Sem.run_pure]
theorem neq32 {p q : Pt} {T : TypeId} (ho : o.op = .binOp .neq 32 x y T) (hx : ρ x = .agg (ptC p)) (hy : ρ y = .agg (ptC q)) : (execOp ρ o).run Try.prog w = .ok (.value (.bool (!decide (p = q)))) w := by
  have hm : Try.prog.eqGuardType Try.prog.depth 32 = false := by kernel_rfl
  have hn : (binOp .neq 32 (.agg (ptC p)) (.agg (ptC q))).run Try.prog w = .ok (.bool (!decide (p = q))) w := by
    have h := eqP p q w
    rw [run_eql_struct] at h
    rw [run_neq_struct]
    generalize (Op.equalIn 10000 32 (.agg (ptC p)) (.agg (ptC q))).run Try.prog w = r at h ⊢
    cases r with
    | ok v w' => simp [Result.andThen] at h ⊢; exact ⟨by rw [h.1], h.2⟩
    | halt a b => simp [Result.andThen] at h
  simp only [execOp, ho, hx, hy, Sem.run_bind, run_eqGuard_agg w _ 32 _ _ _ _ hm, Result.andThen_ok, hn, Sem.run_pure]
end
theorem sgB.set {w : World} {g : Nat} {s : Sg} (h : sgB w g s) (t : Sg) : sgB ((((w.setCell ⟨g, 0, none⟩ (.int .i64 t.1.1)).setCell ⟨g, 1, none⟩ (.int .i64 t.1.2)).setCell ⟨g, 2, none⟩ (.int .i64 t.2.1)).setCell ⟨g, 3, none⟩ (.int .i64 t.2.2)) g t := by
  have h1 := blk_setCell_same (off := 0) h (.int .i64 t.1.1)
  have h2 := blk_setCell_same (off := 1) h1 (.int .i64 t.1.2)
  have h3 := blk_setCell_same (off := 2) h2 (.int .i64 t.2.1)
  have h4 := blk_setCell_same (off := 3) h3 (.int .i64 t.2.2)
  exact h4
theorem ptB.set4 {w : World} {g g2 : Nat} {p : Pt} (h : ptB w g p) (hne : g ≠ g2) (v0 v1 v2 v3 : Value) : ptB ((((w.setCell ⟨g2, 0, none⟩ v0).setCell ⟨g2, 1, none⟩ v1).setCell ⟨g2, 2, none⟩ v2).setCell ⟨g2, 3, none⟩ v3) g p :=
  (blk_setCell (by exact hne) _).trans ((blk_setCell (by exact hne) _).trans ((blk_setCell (by exact hne) _).trans ((blk_setCell (by exact hne) _).trans h)))
theorem sgB.set4 {w : World} {g g2 : Nat} {p : Sg} (h : sgB w g p) (hne : g ≠ g2) (v0 v1 v2 v3 : Value) : sgB ((((w.setCell ⟨g2, 0, none⟩ v0).setCell ⟨g2, 1, none⟩ v1).setCell ⟨g2, 2, none⟩ v2).setCell ⟨g2, 3, none⟩ v3) g p :=
  (blk_setCell (by exact hne) _).trans ((blk_setCell (by exact hne) _).trans ((blk_setCell (by exact hne) _).trans ((blk_setCell (by exact hne) _).trans h)))

/-! ### steps that make or write memory: the world behind each is a letter -/
section
variable {O : Array Oper} {Q : Exit → Act → World → Prop} {rest : List Oper} {o : Oper} {a : Act} {w : World} {n d : Nat} {L : List (Nat × Value)} {x y : Operand} {b : Nat}
theorem run_box34 {ρ : Operand → Value} {s : Sg} (ho : o.op = .box 34 x) (hx : ρ x = .agg (sgC s)) : (execOp ρ o).run Try.prog w = .ok (.value (.pointer (some ⟨w.heap.size, 0, none⟩))) (w.alloc (.cells (sgC s) 34)) := by
  simp [execOp, ho, hx, go_sem]
theorem run_box32 {ρ : Operand → Value} {p : Pt} (ho : o.op = .box 32 x) (hx : ρ x = .agg (ptC p)) : (execOp ρ o).run Try.prog w = .ok (.value (.pointer (some ⟨w.heap.size, 0, none⟩))) (w.alloc (.cells (ptC p) 32)) := by
  simp [execOp, ho, hx, go_sem]
theorem env_box34 {s : Sg} (E : Env n L a) (hd : o.dst = some d) (hn : d < n) (hf : (L.map (·.1)).contains d = false) (hw : Region.wanted o (yielded O a.tmps) = true) (ho : o.op = .box 34 x) (hx : a.eval x = .agg (sgC s))
    (k : ∀ a' w' b, w.heap.size = b → sgB w' b s → Fr (fun _ => False) w w' → Env n ((d, .pointer (some ⟨b, 0, none⟩)) :: L) a' → wpList Try.prog O Q rest a' w') : wpList Try.prog O Q (o :: rest) a w :=
  env_put E hd hn hf hw (run_box34 ho hx) fun a' E' => k a' _ _ rfl (blk_alloc_new _ _) ((Fr.refl _ _).alloc _) E'
theorem env_box32 {p : Pt} (E : Env n L a) (hd : o.dst = some d) (hn : d < n) (hf : (L.map (·.1)).contains d = false) (hw : Region.wanted o (yielded O a.tmps) = true) (ho : o.op = .box 32 x) (hx : a.eval x = .agg (ptC p))
    (k : ∀ a' w' b, w.heap.size = b → ptB w' b p → Fr (fun _ => False) w w' → Env n ((d, .pointer (some ⟨b, 0, none⟩)) :: L) a' → wpList Try.prog O Q rest a' w') : wpList Try.prog O Q (o :: rest) a w :=
  env_put E hd hn hf hw (run_box32 ho hx) fun a' E' => k a' _ _ rfl (blk_alloc_new _ _) ((Fr.refl _ _).alloc _) E'
theorem run_st34 {ρ : Operand → Value} {s t : Sg} (ho : o.op = .store 34 x y) (hx : ρ x = .pointer (some ⟨b, 0, none⟩)) (hy : ρ y = .agg (sgC t)) (h : sgB w b s) :
    (execOp ρ o).run Try.prog w = .ok .skip ((((w.setCell ⟨b, 0, none⟩ (.int .i64 t.1.1)).setCell ⟨b, 1, none⟩ (.int .i64 t.1.2)).setCell ⟨b, 2, none⟩ (.int .i64 t.2.1)).setCell ⟨b, 3, none⟩ (.int .i64 t.2.2)) := by
  obtain ⟨c0, c1, c2, c3⟩ := h.c
  have z0 := free_of_blk h 0
  have z1 := free_of_blk h 1
  have z2 := free_of_blk h 2
  have z3 := free_of_blk h 3
  simp [execOp, ho, hx, hy, go_sem, c0, c1, c2, c3, z0, z1, z2, z3]
theorem run_st32 {ρ : Operand → Value} {p q : Pt} (ho : o.op = .store 32 x y) (hx : ρ x = .pointer (some ⟨b, 0, none⟩)) (hy : ρ y = .agg (ptC q)) (h : ptB w b p) :
    (execOp ρ o).run Try.prog w = .ok .skip ((w.setCell ⟨b, 0, none⟩ (.int .i64 q.1)).setCell ⟨b, 1, none⟩ (.int .i64 q.2)) := by
  obtain ⟨c0, c1⟩ := h.c
  have z0 := free_of_blk h 0
  have z1 := free_of_blk h 1
  simp [execOp, ho, hx, hy, go_sem, c0, c1, z0, z1]
theorem Fr.one4 (b : Nat) (w : World) (v0 v1 v2 v3 : Value) : Fr (fun k => k = b) w ((((w.setCell ⟨b, 0, none⟩ v0).setCell ⟨b, 1, none⟩ v1).setCell ⟨b, 2, none⟩ v2).setCell ⟨b, 3, none⟩ v3) :=
  ((((Fr.refl (fun k => k = b) w).setCell (p := ⟨b, 0, none⟩) (fun _ => rfl) v0).setCell (p := ⟨b, 1, none⟩) (fun _ => rfl) v1).setCell (p := ⟨b, 2, none⟩) (fun _ => rfl) v2).setCell (p := ⟨b, 3, none⟩) (fun _ => rfl) v3
theorem Fr.one2 (b : Nat) (w : World) (v0 v1 : Value) : Fr (fun k => k = b) w ((w.setCell ⟨b, 0, none⟩ v0).setCell ⟨b, 1, none⟩ v1) :=
  ((Fr.refl (fun k => k = b) w).setCell (p := ⟨b, 0, none⟩) (fun _ => rfl) v0).setCell (p := ⟨b, 1, none⟩) (fun _ => rfl) v1
theorem ptB.set {w : World} {g : Nat} {s : Pt} (h : ptB w g s) (t : Pt) : ptB ((w.setCell ⟨g, 0, none⟩ (.int .i64 t.1)).setCell ⟨g, 1, none⟩ (.int .i64 t.2)) g t := by
  have h1 := blk_setCell_same (off := 0) h (.int .i64 t.1)
  have h2 := blk_setCell_same (off := 1) h1 (.int .i64 t.2)
  exact h2
theorem env_st34 {s t : Sg} (E : Env n L a) (hd : o.dst = none) (hw : Region.wanted o (yielded O a.tmps) = true) (ho : o.op = .store 34 x y) (hx : a.eval x = .pointer (some ⟨b, 0, none⟩)) (hy : a.eval y = .agg (sgC t)) (h : sgB w b s)
    (k : ∀ w', sgB w' b t → Fr (fun k => k = b) w w' → Env n L a → wpList Try.prog O Q rest a w') : wpList Try.prog O Q (o :: rest) a w :=
  env_store E hd hw (run_st34 ho hx hy h) fun E => k _ (h.set t) (Fr.one4 _ _ _ _ _ _) E
theorem env_st32 {p q : Pt} (E : Env n L a) (hd : o.dst = none) (hw : Region.wanted o (yielded O a.tmps) = true) (ho : o.op = .store 32 x y) (hx : a.eval x = .pointer (some ⟨b, 0, none⟩)) (hy : a.eval y = .agg (ptC q)) (h : ptB w b p)
    (k : ∀ w', ptB w' b q → Fr (fun k => k = b) w w' → Env n L a → wpList Try.prog O Q rest a w') : wpList Try.prog O Q (o :: rest) a w :=
  env_store E hd hw (run_st32 ho hx hy h) fun E => k _ (h.set q) (Fr.one2 _ _ _ _) E
theorem run_pts4 {ρ : Operand → Value} {x1 x2 x3 x4 : Operand} {p1 p2 p3 p4 : Pt} (ho : o.op = .buildSlice 69 4 #[(0, x1), (1, x2), (2, x3), (3, x4)]) (h1 : ρ x1 = .agg (ptC p1)) (h2 : ρ x2 = .agg (ptC p2)) (h3 : ρ x3 = .agg (ptC p3)) (h4 : ρ x4 = .agg (ptC p4)) :
    (execOp ρ o).run Try.prog w = .ok (.value (.slice (some ⟨w.heap.size, 0, none⟩) 4 4)) (w.alloc (.cells #[.int .i64 p1.1, .int .i64 p1.2, .int .i64 p2.1, .int .i64 p2.2, .int .i64 p3.1, .int .i64 p3.2, .int .i64 p4.1, .int .i64 p4.2] 32)) := by
  simp [execOp, ho, h1, h2, h3, h4, go_sem]
theorem near4a (a b c d : Pt) (w : World) : Calls Try.prog 29 #[.slice (some ⟨w.heap.size, 0, none⟩) 4 4] (w.alloc (.cells #[.int .i64 a.1, .int .i64 a.2, .int .i64 b.1, .int .i64 b.2, .int .i64 c.1, .int .i64 c.2, .int .i64 d.1, .int .i64 d.2] 32)) fun e w' => e = .returned (.bool (decide (∀ p ∈ [a, b, c, d], nearP p))) ∧ Fr (fun _ => False) (w.alloc (.cells #[.int .i64 a.1, .int .i64 a.2, .int .i64 b.1, .int .i64 b.2, .int .i64 c.1, .int .i64 c.2, .int .i64 d.1, .int .i64 d.2] 32)) w' :=
  near_lit [a, b, c, d] _ (fun i p hp => by
    match i, hp with
    | 0, hp => simp at hp; subst hp; exact ⟨rfl, rfl⟩
    | 1, hp => simp at hp; subst hp; exact ⟨rfl, rfl⟩
    | 2, hp => simp at hp; subst hp; exact ⟨rfl, rfl⟩
    | 3, hp => simp at hp; subst hp; exact ⟨rfl, rfl⟩
    | i + 4, hp => simp at hp) (by simp) w
theorem env_pts4 {x1 x2 x3 x4 : Operand} {p1 p2 p3 p4 : Pt} (E : Env n L a) (hd : o.dst = some d) (hn : d < n) (hf : (L.map (·.1)).contains d = false) (hw : Region.wanted o (yielded O a.tmps) = true) (ho : o.op = .buildSlice 69 4 #[(0, x1), (1, x2), (2, x3), (3, x4)]) (h1 : a.eval x1 = .agg (ptC p1)) (h2 : a.eval x2 = .agg (ptC p2)) (h3 : a.eval x3 = .agg (ptC p3)) (h4 : a.eval x4 = .agg (ptC p4))
    (k : ∀ a' w' b, (Calls Try.prog 29 #[.slice (some ⟨b, 0, none⟩) 4 4] w' fun e w2 => e = .returned (.bool (decide (∀ p ∈ [p1, p2, p3, p4], nearP p))) ∧ Fr (fun _ => False) w' w2) → Fr (fun _ => False) w w' → Env n ((d, .slice (some ⟨b, 0, none⟩) 4 4) :: L) a' → wpList Try.prog O Q rest a' w') : wpList Try.prog O Q (o :: rest) a w :=
  env_put E hd hn hf hw (run_pts4 ho h1 h2 h3 h4) fun a' E' => k a' _ _ (near4a p1 p2 p3 p4 w) ((Fr.refl _ _).alloc _) E'
end
end Go.Proofs.Ytiainjcimmeedaa
