/- Steps of sweep.All: segments, rows made, rows that grow. -/
import Derived.Test.YtiainjcimmeedaaSf
import Derived.Laws.MakeOwn
set_option linter.unusedVariables false
set_option linter.unusedSimpArgs false
namespace Go.Proofs.Ytiainjcimmeedaa
open Go.RowKit Go.Pl Go.Geo

/-- The segments of l lie in block g from off on. -/
def segR (w : World) (g off : Nat) (l : List Sg) : Prop := ∀ i s, l[i]? = some s → w.rangeAt g (off + i * 4) (sgC s).toList
theorem segR.fr {w w' : World} {g off l} (h : segR w g off l) {F : Nat → Prop} (hf : Fr F w w') (hg : ¬ F g) : segR w' g off l := fun i s hs j v hv => hf.cell (h i s hs j v hv) hg

theorem parts_of {t n b : Nat} {z : Value} (h : (Try.prog.info? t).map (fun i => (i.size, i.bytes, i.zero)) = some (n, b, some z)) : ∃ i, Try.prog.info? t = some i ∧ i.zero = some z ∧ i.size = n ∧ i.bytes = b := by
  cases hi : Try.prog.info? t with
  | none => rw [hi] at h; cases h
  | some i =>
    rw [hi] at h
    simp only [Option.map_some, Option.some.injEq, Prod.mk.injEq] at h
    exact ⟨i, rfl, h.2.2, h.1, h.2.1⟩
theorem inf49 : (Try.prog.info? 49).map (fun i => (i.size, i.bytes, i.zero)) = some (9, 72, some (.agg (itC default).toArray)) := by kernel_rfl
theorem inf36 : (Try.prog.info? 36).map (fun i => (i.size, i.bytes, i.zero)) = some (3, 24, some (.agg (mtC default).toArray)) := by kernel_rfl

section
variable {o : Oper} {w : World} {ρ : Operand → Value} {x y : Operand} {g off : Nat}
theorem info34 : (Try.prog.info? 34).map (·.size) = some 4 := by kernel_rfl
theorem run_ld34 {s : Sg} (ho : o.op = .load 34 x) (hx : ρ x = .pointer (some ⟨g, off, none⟩)) (h : w.rangeAt g off (sgC s).toList) : (execOp ρ o).run Try.prog w = .ok (.value (.agg (sgC s))) w := by
  have := run_loadAt_mid (P := Try.prog) w g off 34 (sgC s).toList _ h Try.underlying34 rfl info34
  simp only [execOp, ho, hx, Sem.run_bind, this, Result.andThen_ok, Sem.run_pure]
theorem run_index22 {i n cap : Nat} (ho : o.op = .indexAddr 22 x y) (hx : ρ x = .slice (some ⟨g, off, none⟩) n cap) (hy : ρ y = .int .i64 i) (hi : i < n) : (execOp ρ o).run Try.prog w = .ok (.value (.pointer (some ⟨g, off + i * 4, none⟩))) w := by
  have h1 : (i : Int) < n := by omega
  simp [execOp, ho, hx, hy, go_sem, h1]
theorem run_len22 {n cap : Nat} {p : Option Addr} (ho : o.op = .call ⟨.builtin .len, #[x], #[22]⟩) (hx : ρ x = .slice p n cap) : (execOp ρ o).run Try.prog w = .ok (.value (.int .i64 n)) w := by
  simp [execOp, ho, hx, resolve, invoke, go_sem]
theorem run_alloc34 (ho : o.op = .alloc 34) : (execOp ρ o).run Try.prog w = .ok (.value (.pointer (some ⟨w.heap.size, 0, none⟩))) (w.alloc (.cells (sgC ((0, 0), (0, 0))) 34)) := by
  simp [execOp, ho, go_sem]
theorem madeI {n t c : Nat} (hc : c < 9) : (madeCells (itC default).toArray (n * 9))[t * 9 + c]? = if t * 9 + c < n * 9 then (itC default)[c]? else none := by
  unfold madeCells
  rw [Array.getElem?_map]
  by_cases h : t * 9 + c < n * 9
  · rw [if_pos h, Array.getElem?_eq_getElem (by simpa using h)]
    simp only [Array.getElem_range, Option.map_some]
    have e : (t * 9 + c) % 9 = c := by omega
    show some ((itC default).toArray[(t * 9 + c) % 9]!) = _
    rw [e]
    match c, hc with
    | 0, _ => rfl
    | 1, _ => rfl
    | 2, _ => rfl
    | 3, _ => rfl
    | 4, _ => rfl
    | 5, _ => rfl
    | 6, _ => rfl
    | 7, _ => rfl
    | 8, _ => rfl
  · rw [if_neg h, Array.getElem?_eq_none (by simpa using h)]; rfl
theorem run_make44 {n : Nat} (ho : o.op = .makeSlice 44 x x) (hx : ρ x = .int .i64 n) (hn : n ≤ 20000) :
    ∃ w', (execOp ρ o).run Try.prog w = .ok (.value (.slice (some ⟨w.heap.size, 0, none⟩) n n)) w' ∧ rowB w' w.heap.size n (List.replicate n default) ∧ Fr (fun _ => False) w w' := by
  obtain ⟨i, hi, hz, h1, h2⟩ := parts_of inf49
  have hr := run_make (P := Try.prog) w 44 49 i _ Try.underlying44 hi hz .i64 .i64 n n (by omega) (by omega) (by rw [h2]; omega) (by omega)
  rw [h1] at hr
  simp only [Int.toNat_natCast] at hr
  refine ⟨w.alloc (.cells (madeCells (itC default).toArray (n * 9)) 49), ?_, ⟨madeCells (itC default).toArray (n * 9), blk_alloc_new _ _, ?_, ?_, ?_, ?_⟩, (Fr.refl _ _).alloc _⟩
  · simp only [execOp, ho, hx, Sem.run_bind, hr, Result.andThen_ok, Sem.run_pure]
    rfl
  · rw [size_madeCells]
  · simp
  · unfold maxLen; omega
  · intro t x hx c u hu
    have ht : t < n := by have := (List.getElem?_eq_some_iff.1 hx).1; simpa using this
    have hc : c < 9 := by rw [← itC_len x]; exact (List.getElem?_eq_some_iff.1 hu).1
    have hxd : x = default := by rw [List.getElem?_replicate, if_pos ht] at hx; exact (Option.some.inj hx).symm
    subst hxd
    rw [madeI hc, if_pos (by omega)]; exact hu
theorem run_of49 {x1 x2 x3 x4 : Operand} {a : It} (ho : o.op = .build 49 #[(0, x1), (1, x2), (2, x3), (3, x4)]) (h1 : ρ x1 = .int .i64 a.n) (h2 : ρ x2 = .agg (sgC a.s)) (h3 : ρ x3 = .agg #[.int .i64 a.xl, .int .i64 a.xh]) (h4 : ρ x4 = .agg #[.int .i64 a.yl, .int .i64 a.yh]) : (execOp ρ o).run Try.prog w = .ok (.value (.agg (itC a).toArray)) w := by
  simp [execOp, ho, h1, h2, h3, h4, go_sem]
theorem run_of36 {x1 x2 x3 : Operand} {a : Mt} (ho : o.op = .build 36 #[(0, x1), (1, x2), (2, x3)]) (h1 : ρ x1 = .int .i64 (a.a.val : Int)) (h2 : ρ x2 = .int .i64 (a.b.val : Int)) (h3 : ρ x3 = .int .i64 a.k) : (execOp ρ o).run Try.prog w = .ok (.value (.agg (mtC a).toArray)) w := by
  simp [execOp, ho, h1, h2, h3, go_sem]
theorem run_one36 {a : Mt} (ho : o.op = .buildSlice 24 1 #[(0, x)]) (h1 : ρ x = .agg (mtC a).toArray) : (execOp ρ o).run Try.prog w = .ok (.value (.slice (some ⟨w.heap.size, 0, none⟩) 1 1)) (w.alloc (.cells (mtC a).toArray 36)) := by
  simp [execOp, ho, h1, go_sem]
theorem run_one49 {a : It} (ho : o.op = .buildSlice 44 1 #[(0, x)]) (h1 : ρ x = .agg (itC a).toArray) : (execOp ρ o).run Try.prog w = .ok (.value (.slice (some ⟨w.heap.size, 0, none⟩) 1 1)) (w.alloc (.cells (itC a).toArray 49)) := by
  simp [execOp, ho, h1, go_sem]
theorem run_min {m n : Int} (ho : o.op = .call ⟨.builtin .min, #[x, y], #[3, 3]⟩) (hx : ρ x = .int .i64 m) (hy : ρ y = .int .i64 n) : (execOp ρ o).run Try.prog w = .ok (.value (.int .i64 (min m n))) w := by
  simp only [execOp, ho, hx, hy, resolve, invoke, go_sem, List.map_toArray, List.map_cons, List.map_nil]
  by_cases h : m ≤ n
  · simp [go_sem, hx, hy, Int.min_eq_left h, h]
  · simp [go_sem, hx, hy, Int.min_eq_right (by omega : n ≤ m), h]
theorem run_max {m n : Int} (ho : o.op = .call ⟨.builtin .max, #[x, y], #[3, 3]⟩) (hx : ρ x = .int .i64 m) (hy : ρ y = .int .i64 n) : (execOp ρ o).run Try.prog w = .ok (.value (.int .i64 (max m n))) w := by
  simp only [execOp, ho, hx, hy, resolve, invoke, go_sem, List.map_toArray, List.map_cons, List.map_nil]
  by_cases h : m ≤ n
  · simp [go_sem, hx, hy, Int.max_eq_right h, h]
  · simp [go_sem, hx, hy, Int.max_eq_left (by omega : n ≤ m), h]
end
end Go.Proofs.Ytiainjcimmeedaa
