/- The tree in memory: by height. -/
import Derived.Test.YtcafnanbdmapgaaJ3
set_option linter.unusedVariables false
set_option linter.unusedSimpArgs false
namespace Go.Proofs.Ytcafnanbdmapgaa
open Go.RowKit Go.Pl
/-- An entry: an Id and its box. -/
abbrev En := ByteArray × Bx
/-- A box lies inside another. -/
def inB (x b : Bx) : Prop := b.1.1 ≤ x.1.1 ∧ b.1.2 ≤ x.1.2 ∧ x.2.1 ≤ b.2.1 ∧ x.2.2 ≤ b.2.2
theorem inB.meets {x b q : Bx} (h : inB x b) (hm : mtB x q) : mtB b q := by unfold inB at h; unfold mtB at *; omega
/-- A node of height n at block p, with its box and the entries below it; all its blocks are in S. -/
def NdAt (w : World) (S : Nat → Prop) : Nat → Nat → Bx → List En → Prop
  | 0, p, b, L => (S p ∧ okB b) ∧ ∃ id, w.heap[p]? = some (.cells #[.int .i64 b.1.1, .int .i64 b.1.2, .int .i64 b.2.1, .int .i64 b.2.2, .string id, .slice none 0 0] 71 (0, 0)) ∧ L = [(id, b)]
  | n + 1, p, b, L => (S p ∧ okB b) ∧ ∃ g off cap, ∃ C : List (Nat × Bx × List En), w.heap[p]? = some (.cells #[.int .i64 b.1.1, .int .i64 b.1.2, .int .i64 b.2.1, .int .i64 b.2.2, .string ByteArray.empty, .slice (some ⟨g, off, none⟩) C.length cap] 71 (0, 0)) ∧ S g ∧ C ≠ [] ∧ C.length ≤ 8 ∧
      (∀ (i : Nat) c, C[i]? = some c → w.cell? ⟨g, off + i, none⟩ = some (.pointer (some ⟨c.1, 0, none⟩)) ∧ NdAt w S n c.1 c.2.1 c.2.2) ∧ L = C.flatMap (·.2.2) ∧ ∀ x ∈ L, inB x.2 b
theorem NdAt.fr {w w' : World} {S F : Nat → Prop} (hf : Fr F w w') (hS : ∀ k, S k → ¬ F k) : ∀ {n p b L}, NdAt w S n p b L → NdAt w' S n p b L := by
  intro n
  induction n with
  | zero =>
    rintro p b L ⟨h1, id, h2, h3⟩
    exact ⟨h1, id, hf.obj h2 (hS p h1.1), h3⟩
  | succ n ih =>
    rintro p b L ⟨h1, g, off, cap, C, h2, h3, h4, h8, h5, h6⟩
    exact ⟨h1, g, off, cap, C, hf.obj h2 (hS p h1.1), h3, h4, h8, fun i c hc => ⟨hf.cell (h5 i c hc).1 (hS g h3), ih (h5 i c hc).2⟩, h6⟩
theorem NdAt.mono {w : World} {S S' : Nat → Prop} (hS : ∀ k, S k → S' k) : ∀ {n p b L}, NdAt w S n p b L → NdAt w S' n p b L := by
  intro n
  induction n with
  | zero => rintro p b L ⟨h1, id, h2, h3⟩; exact ⟨⟨hS p h1.1, h1.2⟩, id, h2, h3⟩
  | succ n ih =>
    rintro p b L ⟨h1, g, off, cap, C, h2, h3, h4, h8, h5, h6⟩
    exact ⟨⟨hS p h1.1, h1.2⟩, g, off, cap, C, h2, hS g h3, h4, h8, fun i c hc => ⟨(h5 i c hc).1, ih (h5 i c hc).2⟩, h6⟩
theorem NdAt.ok {w : World} {S : Nat → Prop} : ∀ {n p b L}, NdAt w S n p b L → okB b := by
  intro n
  cases n with
  | zero => rintro p b L ⟨h1, _⟩; exact h1.2
  | succ n => rintro p b L ⟨h1, _⟩; exact h1.2
theorem NdAt.mem {w : World} {S : Nat → Prop} : ∀ {n p b L}, NdAt w S n p b L → S p := by
  intro n
  cases n with
  | zero => rintro p b L ⟨h1, _⟩; exact h1.1
  | succ n => rintro p b L ⟨h1, _⟩; exact h1.1
theorem NdAt.in_ {w : World} {S : Nat → Prop} : ∀ {n p b L}, NdAt w S n p b L → ∀ x ∈ L, inB x.2 b := by
  intro n
  cases n with
  | zero =>
    rintro p b L ⟨h1, id, h2, rfl⟩ x hx
    simp at hx; subst hx
    simp [inB]
  | succ n => rintro p b L ⟨h1, g, off, cap, C, h2, h3, h4, h8, h5, h6, h7⟩; exact h7
theorem NdAt.ne {w : World} {S : Nat → Prop} : ∀ {n p b L}, NdAt w S n p b L → L ≠ [] := by
  intro n
  induction n with
  | zero => rintro p b L ⟨h1, id, h2, rfl⟩; simp
  | succ n ih =>
    rintro p b L ⟨h1, g, off, cap, C, h2, h3, h4, h8, h5, rfl, h7⟩
    intro e
    obtain ⟨c, hc⟩ := List.exists_mem_of_ne_nil C h4
    obtain ⟨i, hi⟩ := List.mem_iff_getElem?.1 hc
    have h9 := ih (h5 i c hi).2
    rw [List.flatMap_eq_nil_iff] at e
    exact h9 (e c hc)
/-- The Ids of the entries whose boxes meet. -/
def mtIds (L : List En) (q : Bx) : List ByteArray := (L.filter fun x => decide (mtB x.2 q)).map (·.1)
theorem mtIds_append (L K : List En) (q : Bx) : mtIds (L ++ K) q = mtIds L q ++ mtIds K q := by simp [mtIds]
theorem mtIds_none {L : List En} {b q : Bx} (h : ∀ x ∈ L, inB x.2 b) (hm : ¬ mtB b q) : mtIds L q = [] := by
  unfold mtIds
  rw [List.map_eq_nil_iff, List.filter_eq_nil_iff]
  intro x hx
  simp only [decide_eq_true_eq]
  exact fun h2 => hm ((h x hx).meets h2)
theorem mtIds_one {id : ByteArray} {b q : Bx} (hm : mtB b q) : mtIds [(id, b)] q = [id] := by simp [mtIds, hm]
theorem mtIds_flat (C : List (Nat × Bx × List En)) (q : Bx) (i : Nat) {c : Nat × Bx × List En} (h : C[i]? = some c) : mtIds ((C.take (i + 1)).flatMap (·.2.2)) q = mtIds ((C.take i).flatMap (·.2.2)) q ++ mtIds c.2.2 q := by
  rw [List.take_add_one, h, List.flatMap_append, mtIds_append]; simp
/-- The distance to a box around is not greater. -/
theorem dx_mono {lo hi lo' hi' p : Int} (h1 : lo' ≤ lo) (h2 : hi ≤ hi') : dx lo' hi' p ≤ dx lo hi p ∧ 0 ≤ dx lo' hi' p := by unfold dx; omega
theorem inB.far {x b : Bx} (h : inB x b) (q : Pt) : dsB b q ≤ dsB x q := by
  obtain ⟨h1, h2⟩ := dx_mono (p := q.1) h.1 h.2.2.1
  obtain ⟨h3, h4⟩ := dx_mono (p := q.2) h.2.1 h.2.2.2
  unfold dsB
  have h5 := Int.mul_le_mul h1 h1 h2 (Int.le_trans h2 h1)
  have h6 := Int.mul_le_mul h3 h3 h4 (Int.le_trans h4 h3)
  omega
section
variable {o : Oper} {w : World} {ρ : Operand → Value} {x y : Operand} {g off : Nat}
theorem run_callf1c {f : FuncId} {ts : Array TypeId} {v c1 c2 c3 : Value} (eg : ∀ args w, (callFunc f args).run Try.prog w = .ok (.enter f args) w) (ho : o.op = .call ⟨.value y, #[x], ts⟩) (hf : ρ y = .func (.func f) #[] #[c1, c2, c3]) (hx : ρ x = v) : (execOp ρ o).run Try.prog w = .ok (.enter f #[v, c1, c2, c3]) w := by
  simp [execOp, ho, hf, hx, eg, resolve, Deferred.ofValue, invoke, go_sem]
theorem run_ld68 {v : Value} (ho : o.op = .load 68 x) (hx : ρ x = .pointer (some ⟨g, off, none⟩)) (hc : w.cell? ⟨g, off, none⟩ = some v) : (execOp ρ o).run Try.prog w = .ok (.value v) w := by
  simp [execOp, ho, hx, go_sem, hc]
theorem run_pn59 {a : Addr} (ho : o.op = .binOp .eql 59 x y 59) (hx : ρ x = .pointer (some a)) (hy : ρ y = .pointer none) : (execOp ρ o).run Try.prog w = .ok (.value (.bool false)) w := by
  simp [execOp, ho, hx, hy, go_sem]
theorem run_snil69 {n cap : Nat} (ho : o.op = .binOp .eql 69 x y 69) (hx : ρ x = .slice none n cap) (hy : ρ y = .slice none 0 0) : (execOp ρ o).run Try.prog w = .ok (.value (.bool true)) w := by
  have := Lib.run_eql_slice_nil (P := Try.prog) w 69 59 none n cap 0 0 Try.underlying69
  simp [execOp, ho, hx, hy, go_sem, this]
theorem run_snn69 {a : Addr} {n cap : Nat} (ho : o.op = .binOp .eql 69 x y 69) (hx : ρ x = .slice (some a) n cap) (hy : ρ y = .slice none 0 0) : (execOp ρ o).run Try.prog w = .ok (.value (.bool false)) w := by
  have := Lib.run_eql_slice_nil (P := Try.prog) w 69 59 (some a) n cap 0 0 Try.underlying69
  simp [execOp, ho, hx, hy, go_sem, this]
end
end Go.Proofs.Ytcafnanbdmapgaa
