/- Steps at this program's types: boxes, points, rows. -/
import Derived.Test.YtcafnanbdmapgaaWa
import Derived.Test.YtcafnanbdmapgaaRows
import Derived.WalkLawsBesides
import Derived.Shelf.Abstract
set_option linter.unusedVariables false
set_option linter.unusedSimpArgs false
namespace Go.Proofs.Ytcafnanbdmapgaa
open Go.RowKit Go.Pl
abbrev Pt := Int × Int
abbrev Bx := Pt × Pt
abbrev ptC (p : Pt) : Array Value := #[.int .i64 p.1, .int .i64 p.2]
abbrev bxC (b : Bx) : Array Value := #[.int .i64 b.1.1, .int .i64 b.1.2, .int .i64 b.2.1, .int .i64 b.2.2]
section
variable {o : Oper} {w : World} {ρ : Operand → Value} {x y z : Operand} {g off k n cap i : Nat} {p : Option Addr}
theorem fa24_0 (ho : o.op = .fieldAddr 24 x 0) (hx : ρ x = .pointer (some ⟨g, off, none⟩)) : (execOp ρ o).run Try.prog w = .ok (.value (.pointer (some ⟨g, off + 0, none⟩))) w := by simp [execOp, ho, hx, go_sem]
theorem fa24_1 (ho : o.op = .fieldAddr 24 x 1) (hx : ρ x = .pointer (some ⟨g, off, none⟩)) : (execOp ρ o).run Try.prog w = .ok (.value (.pointer (some ⟨g, off + 1, none⟩))) w := by simp [execOp, ho, hx, go_sem]
theorem fa26_0 (ho : o.op = .fieldAddr 26 x 0) (hx : ρ x = .pointer (some ⟨g, off, none⟩)) : (execOp ρ o).run Try.prog w = .ok (.value (.pointer (some ⟨g, off + 0, none⟩))) w := by simp [execOp, ho, hx, go_sem]
theorem fa26_1 (ho : o.op = .fieldAddr 26 x 1) (hx : ρ x = .pointer (some ⟨g, off, none⟩)) : (execOp ρ o).run Try.prog w = .ok (.value (.pointer (some ⟨g, off + 2, none⟩))) w := by simp [execOp, ho, hx, go_sem]
theorem fa35_0 (ho : o.op = .fieldAddr 35 x 0) (hx : ρ x = .pointer (some ⟨g, off, none⟩)) : (execOp ρ o).run Try.prog w = .ok (.value (.pointer (some ⟨g, off + 0, none⟩))) w := by simp [execOp, ho, hx, go_sem]
theorem fa35_1 (ho : o.op = .fieldAddr 35 x 1) (hx : ρ x = .pointer (some ⟨g, off, none⟩)) : (execOp ρ o).run Try.prog w = .ok (.value (.pointer (some ⟨g, off + 1, none⟩))) w := by simp [execOp, ho, hx, go_sem]
theorem fa35_2 (ho : o.op = .fieldAddr 35 x 2) (hx : ρ x = .pointer (some ⟨g, off, none⟩)) : (execOp ρ o).run Try.prog w = .ok (.value (.pointer (some ⟨g, off + 2, none⟩))) w := by simp [execOp, ho, hx, go_sem]
theorem fa61_0 (ho : o.op = .fieldAddr 61 x 0) (hx : ρ x = .pointer (some ⟨g, off, none⟩)) : (execOp ρ o).run Try.prog w = .ok (.value (.pointer (some ⟨g, off + 0, none⟩))) w := by simp [execOp, ho, hx, go_sem]
theorem fa61_1 (ho : o.op = .fieldAddr 61 x 1) (hx : ρ x = .pointer (some ⟨g, off, none⟩)) : (execOp ρ o).run Try.prog w = .ok (.value (.pointer (some ⟨g, off + 1, none⟩))) w := by simp [execOp, ho, hx, go_sem]
theorem fa61_2 (ho : o.op = .fieldAddr 61 x 2) (hx : ρ x = .pointer (some ⟨g, off, none⟩)) : (execOp ρ o).run Try.prog w = .ok (.value (.pointer (some ⟨g, off + 2, none⟩))) w := by simp [execOp, ho, hx, go_sem]
theorem fa64_0 (ho : o.op = .fieldAddr 64 x 0) (hx : ρ x = .pointer (some ⟨g, off, none⟩)) : (execOp ρ o).run Try.prog w = .ok (.value (.pointer (some ⟨g, off + 0, none⟩))) w := by simp [execOp, ho, hx, go_sem]
theorem fa64_1 (ho : o.op = .fieldAddr 64 x 1) (hx : ρ x = .pointer (some ⟨g, off, none⟩)) : (execOp ρ o).run Try.prog w = .ok (.value (.pointer (some ⟨g, off + 1, none⟩))) w := by simp [execOp, ho, hx, go_sem]
theorem fa71_0 (ho : o.op = .fieldAddr 71 x 0) (hx : ρ x = .pointer (some ⟨g, off, none⟩)) : (execOp ρ o).run Try.prog w = .ok (.value (.pointer (some ⟨g, off + 0, none⟩))) w := by simp [execOp, ho, hx, go_sem]
theorem fa71_1 (ho : o.op = .fieldAddr 71 x 1) (hx : ρ x = .pointer (some ⟨g, off, none⟩)) : (execOp ρ o).run Try.prog w = .ok (.value (.pointer (some ⟨g, off + 4, none⟩))) w := by simp [execOp, ho, hx, go_sem]
theorem fa71_2 (ho : o.op = .fieldAddr 71 x 2) (hx : ρ x = .pointer (some ⟨g, off, none⟩)) : (execOp ρ o).run Try.prog w = .ok (.value (.pointer (some ⟨g, off + 5, none⟩))) w := by simp [execOp, ho, hx, go_sem]
theorem fa76_0 (ho : o.op = .fieldAddr 76 x 0) (hx : ρ x = .pointer (some ⟨g, off, none⟩)) : (execOp ρ o).run Try.prog w = .ok (.value (.pointer (some ⟨g, off + 0, none⟩))) w := by simp [execOp, ho, hx, go_sem]
theorem fa76_1 (ho : o.op = .fieldAddr 76 x 1) (hx : ρ x = .pointer (some ⟨g, off, none⟩)) : (execOp ρ o).run Try.prog w = .ok (.value (.pointer (some ⟨g, off + 1, none⟩))) w := by simp [execOp, ho, hx, go_sem]
theorem fa80_0 (ho : o.op = .fieldAddr 80 x 0) (hx : ρ x = .pointer (some ⟨g, off, none⟩)) : (execOp ρ o).run Try.prog w = .ok (.value (.pointer (some ⟨g, off + 0, none⟩))) w := by simp [execOp, ho, hx, go_sem]
theorem fa80_1 (ho : o.op = .fieldAddr 80 x 1) (hx : ρ x = .pointer (some ⟨g, off, none⟩)) : (execOp ρ o).run Try.prog w = .ok (.value (.pointer (some ⟨g, off + 1, none⟩))) w := by simp [execOp, ho, hx, go_sem]
theorem info24 : (Try.prog.info? 24).map (·.size) = some 2 := by kernel_rfl
theorem run_ld24 {s : Pt} (ho : o.op = .load 24 x) (hx : ρ x = .pointer (some ⟨g, off, none⟩)) (h : w.rangeAt g off (ptC s).toList) : (execOp ρ o).run Try.prog w = .ok (.value (.agg (ptC s))) w := by
  have := run_loadAt_mid (P := Try.prog) w g off 24 (ptC s).toList _ h Try.underlying24 rfl info24
  simp only [execOp, ho, hx, Sem.run_bind, this, Result.andThen_ok, Sem.run_pure]
theorem run_box24 {s : Pt} (ho : o.op = .box 24 x) (hx : ρ x = .agg (ptC s)) : (execOp ρ o).run Try.prog w = .ok (.value (.pointer (some ⟨w.heap.size, 0, none⟩))) (w.alloc (.cells (ptC s) 24)) := by
  simp [execOp, ho, hx, go_sem]
theorem info26 : (Try.prog.info? 26).map (·.size) = some 4 := by kernel_rfl
theorem run_ld26 {s : Bx} (ho : o.op = .load 26 x) (hx : ρ x = .pointer (some ⟨g, off, none⟩)) (h : w.rangeAt g off (bxC s).toList) : (execOp ρ o).run Try.prog w = .ok (.value (.agg (bxC s))) w := by
  have := run_loadAt_mid (P := Try.prog) w g off 26 (bxC s).toList _ h Try.underlying26 rfl info26
  simp only [execOp, ho, hx, Sem.run_bind, this, Result.andThen_ok, Sem.run_pure]
theorem run_box26 {s : Bx} (ho : o.op = .box 26 x) (hx : ρ x = .agg (bxC s)) : (execOp ρ o).run Try.prog w = .ok (.value (.pointer (some ⟨w.heap.size, 0, none⟩))) (w.alloc (.cells (bxC s) 26)) := by
  simp [execOp, ho, hx, go_sem]
theorem run_of24 {a b : Int} (ho : o.op = .build 24 #[(0, x), (1, y)]) (hx : ρ x = .int .i64 a) (hy : ρ y = .int .i64 b) : (execOp ρ o).run Try.prog w = .ok (.value (.agg (ptC (a, b)))) w := by
  simp [execOp, ho, hx, hy, go_sem]
theorem run_of26 {a b : Pt} (ho : o.op = .build 26 #[(0, x), (1, y)]) (hx : ρ x = .agg (ptC a)) (hy : ρ y = .agg (ptC b)) : (execOp ρ o).run Try.prog w = .ok (.value (.agg (bxC (a, b)))) w := by
  simp [execOp, ho, hx, hy, go_sem]
theorem run_zero26 (ho : o.op = .build 26 #[]) : (execOp ρ o).run Try.prog w = .ok (.value (.agg (bxC ((0, 0), (0, 0))))) w := by
  simp [execOp, ho, go_sem]
theorem run_ldi {n : Int} (ho : o.op = .load 3 x) (hx : ρ x = .pointer (some ⟨g, off, none⟩)) (hc : w.cell? ⟨g, off, none⟩ = some (.int .i64 n)) : (execOp ρ o).run Try.prog w = .ok (.value (.int .i64 n)) w := by
  simp [execOp, ho, hx, go_sem, hc]
theorem run_lds {s : ByteArray} (ho : o.op = .load 9 x) (hx : ρ x = .pointer (some ⟨g, off, none⟩)) (hc : w.cell? ⟨g, off, none⟩ = some (.string s)) : (execOp ρ o).run Try.prog w = .ok (.value (.string s)) w := by
  simp [execOp, ho, hx, go_sem, hc]
theorem run_ldb {b : Bool} (ho : o.op = .load 4 x) (hx : ρ x = .pointer (some ⟨g, off, none⟩)) (hc : w.cell? ⟨g, off, none⟩ = some (.bool b)) : (execOp ρ o).run Try.prog w = .ok (.value (.bool b)) w := by
  simp [execOp, ho, hx, go_sem, hc]
theorem run_ld42 {v : Value} (ho : o.op = .load 42 x) (hx : ρ x = .pointer (some ⟨g, off, none⟩)) (hc : w.cell? ⟨g, off, none⟩ = some v) : (execOp ρ o).run Try.prog w = .ok (.value v) w := by
  simp [execOp, ho, hx, go_sem, hc]
theorem run_ld62 {v : Value} (ho : o.op = .load 62 x) (hx : ρ x = .pointer (some ⟨g, off, none⟩)) (hc : w.cell? ⟨g, off, none⟩ = some v) : (execOp ρ o).run Try.prog w = .ok (.value v) w := by
  simp [execOp, ho, hx, go_sem, hc]
theorem run_ld69 {v : Value} (ho : o.op = .load 69 x) (hx : ρ x = .pointer (some ⟨g, off, none⟩)) (hc : w.cell? ⟨g, off, none⟩ = some v) : (execOp ρ o).run Try.prog w = .ok (.value v) w := by
  simp [execOp, ho, hx, go_sem, hc]
theorem run_ld78 {v : Value} (ho : o.op = .load 78 x) (hx : ρ x = .pointer (some ⟨g, off, none⟩)) (hc : w.cell? ⟨g, off, none⟩ = some v) : (execOp ρ o).run Try.prog w = .ok (.value v) w := by
  simp [execOp, ho, hx, go_sem, hc]
theorem run_ld59 {v : Value} (ho : o.op = .load 59 x) (hx : ρ x = .pointer (some ⟨g, off, none⟩)) (hc : w.cell? ⟨g, off, none⟩ = some v) : (execOp ρ o).run Try.prog w = .ok (.value v) w := by
  simp [execOp, ho, hx, go_sem, hc]
theorem run_ld58 {v : Value} (ho : o.op = .load 58 x) (hx : ρ x = .pointer (some ⟨g, off, none⟩)) (hc : w.cell? ⟨g, off, none⟩ = some v) : (execOp ρ o).run Try.prog w = .ok (.value v) w := by
  simp [execOp, ho, hx, go_sem, hc]
theorem run_len22 (ho : o.op = .call ⟨.builtin .len, #[x], #[22]⟩) (hx : ρ x = .slice p n cap) : (execOp ρ o).run Try.prog w = .ok (.value (.int .i64 n)) w := by
  simp [execOp, ho, hx, resolve, invoke, go_sem]
theorem run_index22 (ho : o.op = .indexAddr 22 x y) (hx : ρ x = .slice (some ⟨g, off, none⟩) n cap) (hy : ρ y = .int .i64 i) (hi : i < n) : (execOp ρ o).run Try.prog w = .ok (.value (.pointer (some ⟨g, off + i * 6, none⟩))) w := by
  have h1 : (i : Int) < n := by omega
  simp [execOp, ho, hx, hy, go_sem, h1]
theorem run_len42 (ho : o.op = .call ⟨.builtin .len, #[x], #[42]⟩) (hx : ρ x = .slice p n cap) : (execOp ρ o).run Try.prog w = .ok (.value (.int .i64 n)) w := by
  simp [execOp, ho, hx, resolve, invoke, go_sem]
theorem run_index42 (ho : o.op = .indexAddr 42 x y) (hx : ρ x = .slice (some ⟨g, off, none⟩) n cap) (hy : ρ y = .int .i64 i) (hi : i < n) : (execOp ρ o).run Try.prog w = .ok (.value (.pointer (some ⟨g, off + i, none⟩))) w := by
  have h1 : (i : Int) < n := by omega
  simp [execOp, ho, hx, hy, go_sem, h1]
theorem run_len62 (ho : o.op = .call ⟨.builtin .len, #[x], #[62]⟩) (hx : ρ x = .slice p n cap) : (execOp ρ o).run Try.prog w = .ok (.value (.int .i64 n)) w := by
  simp [execOp, ho, hx, resolve, invoke, go_sem]
theorem run_index62 (ho : o.op = .indexAddr 62 x y) (hx : ρ x = .slice (some ⟨g, off, none⟩) n cap) (hy : ρ y = .int .i64 i) (hi : i < n) : (execOp ρ o).run Try.prog w = .ok (.value (.pointer (some ⟨g, off + i * 4, none⟩))) w := by
  have h1 : (i : Int) < n := by omega
  simp [execOp, ho, hx, hy, go_sem, h1]
theorem run_len69 (ho : o.op = .call ⟨.builtin .len, #[x], #[69]⟩) (hx : ρ x = .slice p n cap) : (execOp ρ o).run Try.prog w = .ok (.value (.int .i64 n)) w := by
  simp [execOp, ho, hx, resolve, invoke, go_sem]
theorem run_index69 (ho : o.op = .indexAddr 69 x y) (hx : ρ x = .slice (some ⟨g, off, none⟩) n cap) (hy : ρ y = .int .i64 i) (hi : i < n) : (execOp ρ o).run Try.prog w = .ok (.value (.pointer (some ⟨g, off + i, none⟩))) w := by
  have h1 : (i : Int) < n := by omega
  simp [execOp, ho, hx, hy, go_sem, h1]
theorem run_len78 (ho : o.op = .call ⟨.builtin .len, #[x], #[78]⟩) (hx : ρ x = .slice p n cap) : (execOp ρ o).run Try.prog w = .ok (.value (.int .i64 n)) w := by
  simp [execOp, ho, hx, resolve, invoke, go_sem]
theorem run_index78 (ho : o.op = .indexAddr 78 x y) (hx : ρ x = .slice (some ⟨g, off, none⟩) n cap) (hy : ρ y = .int .i64 i) (hi : i < n) : (execOp ρ o).run Try.prog w = .ok (.value (.pointer (some ⟨g, off + i * 2, none⟩))) w := by
  have h1 : (i : Int) < n := by omega
  simp [execOp, ho, hx, hy, go_sem, h1]
theorem run_len87 (ho : o.op = .call ⟨.builtin .len, #[x], #[87]⟩) (hx : ρ x = .slice p n cap) : (execOp ρ o).run Try.prog w = .ok (.value (.int .i64 n)) w := by
  simp [execOp, ho, hx, resolve, invoke, go_sem]
theorem run_index87 (ho : o.op = .indexAddr 87 x y) (hx : ρ x = .slice (some ⟨g, off, none⟩) n cap) (hy : ρ y = .int .i64 i) (hi : i < n) : (execOp ρ o).run Try.prog w = .ok (.value (.pointer (some ⟨g, off + i, none⟩))) w := by
  have h1 : (i : Int) < n := by omega
  simp [execOp, ho, hx, hy, go_sem, h1]
theorem max_if (a b : Int) : (if a < b then b else a) = max a b := by omega
theorem min_if (a b : Int) : (if b < a then b else a) = min a b := by omega
theorem run_max3 {a b c : Int} (ho : o.op = .call ⟨.builtin .max, #[x, y, z], #[3, 3, 3]⟩) (hx : ρ x = .int .i64 a) (hy : ρ y = .int .i64 b) (hz : ρ z = .int .i64 c) : (execOp ρ o).run Try.prog w = .ok (.value (.int .i64 (max (max a b) c))) w := by
  simp [execOp, ho, hx, hy, hz, resolve, invoke, go_sem]
  try simp only [max_if]
  try omega
theorem run_min {m n : Int} (ho : o.op = .call ⟨.builtin .min, #[x, y], #[3, 3]⟩) (hx : ρ x = .int .i64 m) (hy : ρ y = .int .i64 n) : (execOp ρ o).run Try.prog w = .ok (.value (.int .i64 (min m n))) w := by
  simp [execOp, ho, hx, hy, resolve, invoke, go_sem]
  try omega
theorem run_max {m n : Int} (ho : o.op = .call ⟨.builtin .max, #[x, y], #[3, 3]⟩) (hx : ρ x = .int .i64 m) (hy : ρ y = .int .i64 n) : (execOp ρ o).run Try.prog w = .ok (.value (.int .i64 (max m n))) w := by
  simp [execOp, ho, hx, hy, resolve, invoke, go_sem]
  try omega
end
section
variable {w : World} {b k : Nat} {cs : Array Value} {T : TypeId}
theorem rng2 (h : w.heap[b]? = some (.cells cs T (0, 0))) (k : Nat) {p : Pt} (h0 : cs[k]? = some (.int .i64 p.1)) (h1 : cs[k + 1]? = some (.int .i64 p.2)) : w.rangeAt b k (ptC p).toList := by
  intro j v hv
  rw [cell_of_blk h]
  match j, hv with
  | 0, hv => rw [← Option.some.inj hv]; exact h0
  | 1, hv => rw [← Option.some.inj hv]; exact h1
  | j + 2, hv => simp at hv
theorem rng4 (h : w.heap[b]? = some (.cells cs T (0, 0))) (k : Nat) {p : Bx} (h0 : cs[k]? = some (.int .i64 p.1.1)) (h1 : cs[k + 1]? = some (.int .i64 p.1.2)) (h2 : cs[k + 2]? = some (.int .i64 p.2.1)) (h3 : cs[k + 3]? = some (.int .i64 p.2.2)) : w.rangeAt b k (bxC p).toList := by
  intro j v hv
  rw [cell_of_blk h]
  match j, hv with
  | 0, hv => rw [← Option.some.inj hv]; exact h0
  | 1, hv => rw [← Option.some.inj hv]; exact h1
  | 2, hv => rw [← Option.some.inj hv]; exact h2
  | 3, hv => rw [← Option.some.inj hv]; exact h3
  | j + 4, hv => simp at hv
end
section
variable {O : Array Oper} {Q : Exit → Act → World → Prop} {rest : List Oper} {o : Oper} {a : Act} {w : World} {n d : Nat} {L : List (Nat × Value)} {x y : Operand} {b : Nat}
theorem env_box24 {s : Pt} (En : Env n L a) (hd : o.dst = some d) (hn : d < n) (hf : (L.map (·.1)).contains d = false) (hw : Region.wanted o (yielded O a.tmps) = true) (ho : o.op = .box 24 x) (hx : a.eval x = .agg (ptC s))
    (k : ∀ a' w' b, w.heap.size = b → w'.heap[b]? = some (.cells (ptC s) 24 (0, 0)) → Fr (fun _ => False) w w' → Env n ((d, .pointer (some ⟨b, 0, none⟩)) :: L) a' → wpList Try.prog O Q rest a' w') : wpList Try.prog O Q (o :: rest) a w :=
  env_put En hd hn hf hw (run_box24 ho hx) fun a' E' => k a' _ _ rfl (blk_alloc_new _ _) ((Fr.refl _ _).alloc _) E'
theorem env_box26 {s : Bx} (En : Env n L a) (hd : o.dst = some d) (hn : d < n) (hf : (L.map (·.1)).contains d = false) (hw : Region.wanted o (yielded O a.tmps) = true) (ho : o.op = .box 26 x) (hx : a.eval x = .agg (bxC s))
    (k : ∀ a' w' b, w.heap.size = b → w'.heap[b]? = some (.cells (bxC s) 26 (0, 0)) → Fr (fun _ => False) w w' → Env n ((d, .pointer (some ⟨b, 0, none⟩)) :: L) a' → wpList Try.prog O Q rest a' w') : wpList Try.prog O Q (o :: rest) a w :=
  env_put En hd hn hf hw (run_box26 ho hx) fun a' E' => k a' _ _ rfl (blk_alloc_new _ _) ((Fr.refl _ _).alloc _) E'
end
end Go.Proofs.Ytcafnanbdmapgaa
