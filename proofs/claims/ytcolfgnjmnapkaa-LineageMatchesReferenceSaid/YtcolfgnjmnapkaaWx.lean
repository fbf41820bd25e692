/- Steps that printed walks use, at this program's types. -/
import Derived.Test.YtcolfgnjmnapkaaFol0
import Derived.Test.YtcolfgnjmnapkaaDrx
set_option linter.unusedVariables false
set_option linter.unusedSimpArgs false
namespace Go.Pl
open Go.RowKit
theorem wp_start1 {P : Program} {f : FuncId} {fn : Func} {c : Code} {R : Ending → World → Prop} {n : Nat} {w : World} {v0 : Value} (hf : P.funcs[f]? = some fn) (hb : fn.body = some c) (hn : fn.ntmps = n) (h2 : 1 ≤ n) (k : ∀ a, Env n [(0, v0)] a → c.wp P (bodyPost P fn R) a w) : Calls P f #[v0] w R := by
  refine calls_of_wp hf hb (k _ ⟨?_, ?_, rfl⟩)
  · simp [hn]; omega
  · intro x hx
    simp only [List.mem_cons, List.not_mem_nil, or_false] at hx
    subst hx
    show (#[v0] ++ Array.replicate (fn.ntmps - 1) undef).getD 0 undef = v0
    rw [Array.getD_eq_getD_getElem?, Array.getElem?_append_left (by simp)]; rfl
theorem ret_two {P : Program} {fn : Func} {R : Ending → World → Prop} {n : Nat} {L : List (Nat × Value)} {a : Act} {w : World} {t u : Tmp} {v x : Value} (hr : fn.results = #[.tmp t, .tmp u]) (E : Env n L a) (hv : a.eval (.tmp t) = v) (hu : a.eval (.tmp u) = x) (h : R (.returned (.tuple #[v, x])) w) : bodyPost P fn R .ret a w := by
  refine ⟨E.df, .tuple #[v, x], ?_, h⟩
  unfold results
  rw [hr]
  have h1 : a.tmps.getD t undef = v := hv
  have h2 : a.tmps.getD u undef = x := hu
  rw [Array.getD_eq_getD_getElem?] at h1 h2
  simp [h1, h2]
theorem wp_start3 {P : Program} {f : FuncId} {fn : Func} {c : Code} {R : Ending → World → Prop} {n : Nat} {w : World} {v0 v1 v2 : Value} (hf : P.funcs[f]? = some fn) (hb : fn.body = some c) (hn : fn.ntmps = n) (h2 : 3 ≤ n) (k : ∀ a, Env n [(0, v0), (1, v1), (2, v2)] a → c.wp P (bodyPost P fn R) a w) : Calls P f #[v0, v1, v2] w R := by
  refine calls_of_wp hf hb (k _ ⟨?_, ?_, rfl⟩)
  · simp [hn]; omega
  · intro x hx
    simp only [List.mem_cons, List.not_mem_nil, or_false] at hx
    rcases hx with rfl | rfl | rfl
    · show (#[v0, v1, v2] ++ Array.replicate (fn.ntmps - 3) undef).getD 0 undef = v0
      rw [Array.getD_eq_getD_getElem?, Array.getElem?_append_left (by simp)]; rfl
    · show (#[v0, v1, v2] ++ Array.replicate (fn.ntmps - 3) undef).getD 1 undef = v1
      rw [Array.getD_eq_getD_getElem?, Array.getElem?_append_left (by simp)]; rfl
    · show (#[v0, v1, v2] ++ Array.replicate (fn.ntmps - 3) undef).getD 2 undef = v2
      rw [Array.getD_eq_getD_getElem?, Array.getElem?_append_left (by simp)]; rfl
section
variable {P : Program} {o : Oper} {w : World} {ρ : Operand → Value} {x y : Operand} {m n : Int} {t t2 : TypeId} {k : IntKind}
theorem run_ineq (hx : ρ x = .int k m) (hy : ρ y = .int k n) (ht : P.underlying t = some (.int k)) (ho : o.op = .binOp .neq t x y t2) : (execOp ρ o).run P w = .ok (.value (.bool (m != n))) w := by
  simp [execOp, ho, hx, hy, go_sem, ht]
end
theorem run_igeq {P : Program} {o : Oper} {w : World} {ρ : Operand → Value} {t t2 : TypeId} {k : IntKind} {x y : Operand} {m n : Int} (hx : ρ x = .int k m) (hy : ρ y = .int k n) (ht : P.underlying t = some (.int k)) (ho : o.op = .binOp .geq t x y t2) : (execOp ρ o).run P w = .ok (.value (.bool (decide (n ≤ m)))) w := by
  simp [execOp, ho, hx, hy, go_sem, ht]
section
variable {P : Program} {o : Oper} {w : World} {ρ : Operand → Value}
theorem run_ext0 {x : Operand} {v u : Value} (ho : o.op = .extract x 0) (hx : ρ x = .tuple #[v, u]) : (execOp ρ o).run P w = .ok (.value v) w := by simp [execOp, ho, hx, go_sem]
theorem run_ext1 {x : Operand} {v u : Value} (ho : o.op = .extract x 1) (hx : ρ x = .tuple #[v, u]) : (execOp ρ o).run P w = .ok (.value u) w := by simp [execOp, ho, hx, go_sem]
theorem run_call4 {f : FuncId} {ts : Array TypeId} {x y z q : Operand} {v u t r : Value} (eg : ∀ args w, (callFunc f args).run P w = .ok (.enter f args) w) (ho : o.op = .call ⟨.value (.func f), #[x, y, z, q], ts⟩) (hf : ρ (.func f) = .func (.func f) #[] #[]) (hx : ρ x = v) (hy : ρ y = u) (hz : ρ z = t) (hq : ρ q = r) : (execOp ρ o).run P w = .ok (.enter f #[v, u, t, r]) w := by
  simp [execOp, ho, hf, hx, hy, hz, hq, eg, resolve, Deferred.ofValue, invoke, go_sem]
end
section
variable {P : Program} {O : Array Oper} {o : Oper} {a : Act} {w : World} {n d g s : Nat} {b : Bool} {L : List (Nat × Value)} {v : Value} {ρ : Operand → Value}
theorem Env.add (E : Env n L a) (h : a.eval (.tmp s) = v) : Env n ((s, v) :: L) a := ⟨E.size, fun x hx => by
  rcases List.mem_cons.1 hx with rfl | hx
  · exact h
  · exact E.at_ x hx, E.df⟩
theorem w_no (E : Env n L a) (hgd : o.guard = some (g, b)) (hg : (O[g]?).bind (·.dst) = some s) (hs : s < n) (hv : a.eval (.tmp s) = .bool (!b)) : Region.wanted o (yielded O a.tmps) = false := by
  rw [wanted_some hgd, yield_eq hg (by rw [E.size]; exact hs), hv]; cases b <;> rfl
theorem w_nou (E : Env n L a) (hgd : o.guard = some (g, b)) (hg : (O[g]?).bind (·.dst) = some s) (hs : s < n) (hv : a.eval (.tmp s) = undef) : Region.wanted o (yielded O a.tmps) = false := by
  rw [wanted_some hgd, yield_eq hg (by rw [E.size]; exact hs), hv]; cases b <;> rfl
theorem run_call0 {f : FuncId} {ts : Array TypeId} (eg : ∀ args w, (callFunc f args).run P w = .ok (.enter f args) w) (ho : o.op = .call ⟨.value (.func f), #[], ts⟩) (hf : ρ (.func f) = .func (.func f) #[] #[]) : (execOp ρ o).run P w = .ok (.enter f #[]) w := by
  simp [execOp, ho, hf, eg, resolve, Deferred.ofValue, invoke, go_sem]
end
theorem env_callv {P : Program} {O : Array Oper} {Q : Exit → Act → World → Prop} {rest : List Oper} {o : Oper} {a : Act} {w : World} {n d : Nat} {L : List (Nat × Value)} {f : FuncId} {args : Array Value} {R : Value → World → Prop} (E : Env n L a) (hd : o.dst = some d) (hn : d < n) (hf : (L.map (·.1)).contains d = false) (hw : Region.wanted o (yielded O a.tmps) = true) (hr : (execOp a.eval o).run P w = .ok (.enter f args) w)
    (hc : Calls P f args w fun e w' => ∃ v, e = .returned v ∧ R v w') (k : ∀ a' w' v, R v w' → Env n ((d, v) :: L) a' → wpList P O Q rest a' w') : wpList P O Q (o :: rest) a w := by
  refine st_call (R := R) hw hr hc ?_
  intro v w' hR
  rw [hd]
  exact k _ w' v hR (E.put hn hf)
end Go.Pl
namespace Go.Proofs.Ytcolfgnjmnapkaa
open Go.RowKit Go.Pl
section
variable {o : Oper} {w : World} {ρ : Operand → Value} {x y : Operand} {g off k : Nat}
theorem run_iadd {m n : Int} (hx : ρ x = .int .i64 m) (hy : ρ y = .int .i64 n) (h1 : -9223372036854775808 ≤ m + n) (h2 : m + n ≤ 9223372036854775807) (ho : o.op = .binOp .add 3 x y 3) : (execOp ρ o).run Try.prog w = .ok (.value (.int .i64 (m + n))) w := by
  simp [execOp, ho, hx, hy, go_sem, IntWalk.i64_in _ ⟨h1, h2⟩]
theorem run_isub {m n : Int} (hx : ρ x = .int .i64 m) (hy : ρ y = .int .i64 n) (h1 : -9223372036854775808 ≤ m - n) (h2 : m - n ≤ 9223372036854775807) (ho : o.op = .binOp .sub 3 x y 3) : (execOp ρ o).run Try.prog w = .ok (.value (.int .i64 (m - n))) w := by
  simp [execOp, ho, hx, hy, go_sem, IntWalk.i64_in _ ⟨h1, h2⟩]
theorem run_seql {s t : ByteArray} (hx : ρ x = .string s) (hy : ρ y = .string t) (ho : o.op = .binOp .eql 9 x y 9) : (execOp ρ o).run Try.prog w = .ok (.value (.bool (decide (s = t)))) w := by
  have e := beq_str s t
  simp [execOp, ho, hx, hy, go_sem, e]
theorem run_sneq {s t : ByteArray} (hx : ρ x = .string s) (hy : ρ y = .string t) (ho : o.op = .binOp .neq 9 x y 9) : (execOp ρ o).run Try.prog w = .ok (.value (.bool (!decide (s = t)))) w := by
  have e := beq_str s t
  simp [execOp, ho, hx, hy, go_sem, e]
theorem run_slss {s t : ByteArray} (hx : ρ x = .string s) (hy : ρ y = .string t) (ho : o.op = .binOp .lss 9 x y 9) : (execOp ρ o).run Try.prog w = .ok (.value (.bool (Op.bytesLess s.toList t.toList))) w := by
  simp [execOp, ho, hx, hy, go_sem]
theorem run_slen {s : ByteArray} (ho : o.op = .call ⟨.builtin .len, #[x], #[9]⟩) (hx : ρ x = .string s) : (execOp ρ o).run Try.prog w = .ok (.value (.int .i64 s.size)) w := by
  simp [execOp, ho, hx, resolve, invoke, go_sem]
theorem run_len33 {n cap : Nat} {p : Option Addr} (ho : o.op = .call ⟨.builtin .len, #[x], #[33]⟩) (hx : ρ x = .slice p n cap) : (execOp ρ o).run Try.prog w = .ok (.value (.int .i64 n)) w := by
  simp [execOp, ho, hx, resolve, invoke, go_sem]
theorem run_len56 {n cap : Nat} {p : Option Addr} (ho : o.op = .call ⟨.builtin .len, #[x], #[56]⟩) (hx : ρ x = .slice p n cap) : (execOp ρ o).run Try.prog w = .ok (.value (.int .i64 n)) w := by
  simp [execOp, ho, hx, resolve, invoke, go_sem]
theorem run_nilchk {a : Addr} (ho : o.op = .nilCheck x) (hx : ρ x = .pointer (some a)) : (execOp ρ o).run Try.prog w = .ok (.value (.pointer (some a))) w := by
  simp [execOp, ho, hx, go_sem]
theorem fa58_at (hk : k = 0 ∨ k = 1) (ho : o.op = .fieldAddr 58 x k) (hx : ρ x = .pointer (some ⟨g, 0, none⟩)) : (execOp ρ o).run Try.prog w = .ok (.value (.pointer (some ⟨g, k, none⟩))) w := by
  rcases hk with rfl | rfl <;> simp [execOp, ho, hx, go_sem]
theorem run_ld33 {v : Value} (ho : o.op = .load 33 x) (hx : ρ x = .pointer (some ⟨g, off, none⟩)) (hc : w.cell? ⟨g, off, none⟩ = some v) : (execOp ρ o).run Try.prog w = .ok (.value v) w := by
  simp [execOp, ho, hx, go_sem, hc]
theorem run_ld56 {v : Value} (ho : o.op = .load 56 x) (hx : ρ x = .pointer (some ⟨g, off, none⟩)) (hc : w.cell? ⟨g, off, none⟩ = some v) : (execOp ρ o).run Try.prog w = .ok (.value v) w := by
  simp [execOp, ho, hx, go_sem, hc]
theorem run_lds {s : ByteArray} (ho : o.op = .load 9 x) (hx : ρ x = .pointer (some ⟨g, off, none⟩)) (hc : w.cell? ⟨g, off, none⟩ = some (.string s)) : (execOp ρ o).run Try.prog w = .ok (.value (.string s)) w := by
  simp [execOp, ho, hx, go_sem, hc]
theorem run_ldi {n : Int} (ho : o.op = .load 3 x) (hx : ρ x = .pointer (some ⟨g, off, none⟩)) (hc : w.cell? ⟨g, off, none⟩ = some (.int .i64 n)) : (execOp ρ o).run Try.prog w = .ok (.value (.int .i64 n)) w := by
  simp [execOp, ho, hx, go_sem, hc]
theorem run_index33 {i n cap : Nat} (ho : o.op = .indexAddr 33 x y) (hx : ρ x = .slice (some ⟨g, off, none⟩) n cap) (hy : ρ y = .int .i64 i) (hi : i < n) : (execOp ρ o).run Try.prog w = .ok (.value (.pointer (some ⟨g, off + i, none⟩))) w := by
  have h1 : (i : Int) < n := by omega
  simp [execOp, ho, hx, hy, go_sem, h1]
theorem run_index56 {i n cap : Nat} (ho : o.op = .indexAddr 56 x y) (hx : ρ x = .slice (some ⟨g, off, none⟩) n cap) (hy : ρ y = .int .i64 i) (hi : i < n) : (execOp ρ o).run Try.prog w = .ok (.value (.pointer (some ⟨g, off + i * 2, none⟩))) w := by
  have h1 : (i : Int) < n := by omega
  simp [execOp, ho, hx, hy, go_sem, h1]
theorem run_index70 {i : Nat} (ho : o.op = .indexAddr 70 x y) (hx : ρ x = .pointer (some ⟨g, off, none⟩)) (hy : ρ y = .int .i64 i) (hi : i < 2) : (execOp ρ o).run Try.prog w = .ok (.value (.pointer (some ⟨g, off + i, none⟩))) w := by
  have h1 : (i : Int) < 2 := by omega
  simp [execOp, ho, hx, hy, go_sem, h1]
theorem run_ld70 {a b : ByteArray} (ho : o.op = .load 70 x) (hx : ρ x = .pointer (some ⟨g, off, none⟩)) (h0 : w.cell? ⟨g, off, none⟩ = some (.string a)) (h1 : w.cell? ⟨g, off + 1, none⟩ = some (.string b)) : (execOp ρ o).run Try.prog w = .ok (.value (.agg #[.string a, .string b])) w := by
  simp [execOp, ho, hx, go_sem, h0, h1]
theorem run_of70 {a b : ByteArray} (ho : o.op = .build 70 #[(0, x), (1, y)]) (hx : ρ x = .string a) (hy : ρ y = .string b) : (execOp ρ o).run Try.prog w = .ok (.value (.agg #[.string a, .string b])) w := by
  simp [execOp, ho, hx, hy, go_sem]
theorem run_empty33 (ho : o.op = .buildSlice 33 0 #[]) : (execOp ρ o).run Try.prog w = .ok (.value (.slice (some ⟨w.heap.size, 0, none⟩) 0 0)) (w.alloc (.cells #[] 9)) := by
  simp [execOp, ho, go_sem]
theorem run_empty56 (ho : o.op = .buildSlice 56 0 #[]) : (execOp ρ o).run Try.prog w = .ok (.value (.slice (some ⟨w.heap.size, 0, none⟩) 0 0)) (w.alloc (.cells #[] 70)) := by
  simp [execOp, ho, go_sem]
theorem run_one33 {a : ByteArray} (ho : o.op = .buildSlice 33 1 #[(0, x)]) (hx : ρ x = .string a) : (execOp ρ o).run Try.prog w = .ok (.value (.slice (some ⟨w.heap.size, 0, none⟩) 1 1)) (w.alloc (.cells #[.string a] 9)) := by
  simp [execOp, ho, hx, go_sem]
theorem run_one56 {a b : ByteArray} (ho : o.op = .buildSlice 56 1 #[(0, x)]) (hx : ρ x = .agg #[.string a, .string b]) : (execOp ρ o).run Try.prog w = .ok (.value (.slice (some ⟨w.heap.size, 0, none⟩) 1 1)) (w.alloc (.cells #[.string a, .string b] 70)) := by
  simp [execOp, ho, hx, go_sem]
theorem run_pnil {a : Addr} (ho : o.op = .binOp .eql 27 x y 27) (hx : ρ x = .pointer (some a)) (hy : ρ y = .pointer none) : (execOp ρ o).run Try.prog w = .ok (.value (.bool false)) w := by
  simp [execOp, ho, hx, hy, go_sem]
theorem run_pnne {a : Addr} (ho : o.op = .binOp .neq 27 x y 27) (hx : ρ x = .pointer (some a)) (hy : ρ y = .pointer none) : (execOp ρ o).run Try.prog w = .ok (.value (.bool true)) w := by
  simp [execOp, ho, hx, hy, go_sem]
theorem run_st33 {v u : Value} {n c : Nat} {p : Option Addr} (hv : v = .slice p n c) (ho : o.op = .store 33 x y) (hx : ρ x = .pointer (some ⟨g, off, none⟩)) (hy : ρ y = v) (hc : w.cell? ⟨g, off, none⟩ = some u) (hz : w.frozen? ⟨g, off, none⟩ = false) : (execOp ρ o).run Try.prog w = .ok .skip (w.setCell ⟨g, off, none⟩ v) := by
  subst hv
  simp [execOp, ho, hx, hy, go_sem, hc, hz]
theorem run_st56 {v u : Value} {n c : Nat} {p : Option Addr} (hv : v = .slice p n c) (ho : o.op = .store 56 x y) (hx : ρ x = .pointer (some ⟨g, off, none⟩)) (hy : ρ y = v) (hc : w.cell? ⟨g, off, none⟩ = some u) (hz : w.frozen? ⟨g, off, none⟩ = false) : (execOp ρ o).run Try.prog w = .ok .skip (w.setCell ⟨g, off, none⟩ v) := by
  subst hv
  simp [execOp, ho, hx, hy, go_sem, hc, hz]
theorem run_slo33 {i n cap : Nat} (ho : o.op = .slice 33 x (some y) none none) (hx : ρ x = .slice (some ⟨g, off, none⟩) n cap) (hy : ρ y = .int .i64 i) (hi : i ≤ n) (hn : n ≤ cap) : ∃ p, (execOp ρ o).run Try.prog w = .ok (.value (.slice (some p) (n - i) (cap - i))) w ∧ (i < n → p = ⟨g, off + i, none⟩) := by
  have h1 : (i : Int) ≤ n := by omega
  have h2 : (n : Int) ≤ cap := by omega
  by_cases h3 : cap = i
  · refine ⟨⟨g, off, none⟩, ?_, fun h => by omega⟩
    simp [execOp, ho, hx, hy, go_sem, h1, h2, h3]
  · refine ⟨⟨g, off + i, none⟩, ?_, fun _ => rfl⟩
    simp [execOp, ho, hx, hy, go_sem, h1, h2, h3]
theorem run_shi33 {i n cap : Nat} {p : Option Addr} (ho : o.op = .slice 33 x none (some y) none) (hx : ρ x = .slice p n cap) (hy : ρ y = .int .i64 i) (hi : i ≤ cap) : (execOp ρ o).run Try.prog w = .ok (.value (.slice p i cap)) w := by
  rcases p with _ | a
  · simp [execOp, ho, hx, hy, go_sem, hi]
  · simp [execOp, ho, hx, hy, go_sem, hi]
end
end Go.Proofs.Ytcolfgnjmnapkaa
