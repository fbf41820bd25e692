/- Rows of Bools; the nearest, as the reference finds them. -/
import Derived.Test.YtcafnanbdmapgaaI8
import Derived.Laws.MakeOwn
set_option linter.unusedVariables false
set_option linter.unusedSimpArgs false
namespace Go.Proofs.Ytcafnanbdmapgaa
open Go.RowKit Go.Pl
theorem info4 : (Try.prog.info? 4).map (fun i => (i.zero, i.size, i.bytes)) = some (some (.bool false), 1, 1) := by kernel_rfl
/-- A row of Bools, from a block's first cell on. -/
def tkB (w : World) (b n : Nat) (t : Nat → Bool) : Prop := ∃ cs, w.heap[b]? = some (.cells cs 4 (0, 0)) ∧ cs.size = n ∧ ∀ i, i < n → cs[i]? = some (.bool (t i))
theorem tkB.fr {w w' : World} {b n : Nat} {t : Nat → Bool} (h : tkB w b n t) {F : Nat → Prop} (hf : Fr F w w') (hb : ¬ F b) : tkB w' b n t := by
  obtain ⟨cs, h1, h2, h3⟩ := h
  exact ⟨cs, hf.obj h1 hb, h2, h3⟩
theorem tkB.lt {w : World} {b n : Nat} {t : Nat → Bool} (h : tkB w b n t) : b < w.heap.size := by
  obtain ⟨cs, h1, _⟩ := h
  exact lt_of_blk h1
theorem tkB.at {w : World} {b n : Nat} {t : Nat → Bool} (h : tkB w b n t) {i : Nat} (hi : i < n) : w.cell? ⟨b, 0 + i, none⟩ = some (.bool (t i)) := by
  obtain ⟨cs, h1, _, h3⟩ := h
  rw [cell_of_blk h1, Nat.zero_add]; exact h3 i hi
theorem tkB.set {w : World} {b n : Nat} {t : Nat → Bool} (h : tkB w b n t) {k : Nat} (hk : k < n) : (w.cell? ⟨b, 0 + k, none⟩ = some (.bool (t k)) ∧ w.frozen? ⟨b, 0 + k, none⟩ = false) ∧ tkB (w.setCell ⟨b, 0 + k, none⟩ (.bool true)) b n (fun i => i == k || t i) ∧ Fr (fun r => r = b) w (w.setCell ⟨b, 0 + k, none⟩ (.bool true)) := by
  have h0 := h.at hk
  obtain ⟨cs, h1, h2, h3⟩ := h
  refine ⟨⟨h0, free_of_blk h1 _⟩, ⟨_, blk_setCell_same h1 _, by simp [h2], fun i hi => ?_⟩, (Fr.refl (fun r => r = b) w).setCell (p := ⟨b, 0 + k, none⟩) (fun _ => rfl) _⟩
  rw [Array.getElem?_setIfInBounds, Nat.zero_add]
  by_cases e : k = i
  · subst e; simp [h2, hk]
  · rw [if_neg e, h3 i hi]
    have : (i == k) = false := by simp; omega
    simp [this]
section
variable {o : Oper} {w : World} {ρ : Operand → Value} {x y : Operand} {g off : Nat}
theorem run_make85 {n : Nat} (ho : o.op = .makeSlice 85 x x) (hx : ρ x = .int .i64 n) (hn : n ≤ 200000) :
    ∃ w', (execOp ρ o).run Try.prog w = .ok (.value (.slice (some ⟨w.heap.size, 0, none⟩) n n)) w' ∧ tkB w' w.heap.size n (fun _ => false) ∧ Fr (fun _ => False) w w' := by
  obtain ⟨i, hi, hz, h1, h2⟩ := info_parts info4
  have hr := run_make (P := Try.prog) w 85 4 i _ Try.underlying85 hi hz .i64 .i64 n n (by omega) (by omega) (by rw [h2]; omega) (by omega)
  rw [h1] at hr
  simp only [Int.toNat_natCast] at hr
  refine ⟨w.alloc (.cells (madeCells #[.bool false] (n * 1)) 4), ?_, ⟨madeCells #[.bool false] (n * 1), blk_alloc_new _ _, by rw [size_madeCells, Nat.mul_one], fun i hi => ?_⟩, (Fr.refl _ _).alloc _⟩
  · simp only [execOp, ho, hx, Sem.run_bind, hr, Result.andThen_ok, Sem.run_pure]
    rfl
  · unfold madeCells
    rw [Array.getElem?_map, Array.getElem?_eq_getElem (by simpa using hi)]
    simp [Nat.mod_one]
theorem run_index85 {n cap i : Nat} (ho : o.op = .indexAddr 85 x y) (hx : ρ x = .slice (some ⟨g, off, none⟩) n cap) (hy : ρ y = .int .i64 i) (hi : i < n) : (execOp ρ o).run Try.prog w = .ok (.value (.pointer (some ⟨g, off + i, none⟩))) w := by
  have h1 : (i : Int) < n := by omega
  simp [execOp, ho, hx, hy, go_sem, h1]
theorem run_st4 {u : Value} {b : Bool} (ho : o.op = .store 4 x y) (hx : ρ x = .pointer (some ⟨g, off, none⟩)) (hy : ρ y = .bool b) (hc : w.cell? ⟨g, off, none⟩ = some u) (hz : w.frozen? ⟨g, off, none⟩ = false) : (execOp ρ o).run Try.prog w = .ok .skip (w.setCell ⟨g, off, none⟩ (.bool b)) := by
  simp [execOp, ho, hx, hy, go_sem, hc, hz]
end
section
variable {O : Array Oper} {Q : Exit → Act → World → Prop} {rest : List Oper} {o : Oper} {a : Act} {w : World} {n d : Nat} {L : List (Nat × Value)} {x y : Operand} {b : Nat}
theorem env_make85 {m : Nat} (E : Env n L a) (hd : o.dst = some d) (hn : d < n) (hf : (L.map (·.1)).contains d = false) (hw : Region.wanted o (yielded O a.tmps) = true) (ho : o.op = .makeSlice 85 x x) (hx : a.eval x = .int .i64 m) (hm : m ≤ 200000)
    (k : ∀ a' w' b, w.heap.size = b → tkB w' b m (fun _ => false) → Fr (fun _ => False) w w' → Env n ((d, .slice (some ⟨b, 0, none⟩) m m) :: L) a' → wpList Try.prog O Q rest a' w') : wpList Try.prog O Q (o :: rest) a w := by
  obtain ⟨w', h1, h2, h3⟩ := run_make85 (w := w) ho hx hm
  exact env_put E hd hn hf hw h1 fun a' E' => k a' _ _ rfl h2 h3 E'
end
/-- The best of the first i: the first of the least that is not taken; -1 where there is none. -/
def bst (d : Nat → Int) (t : Nat → Bool) : Nat → Int
  | 0 => -1
  | i + 1 => if !t i && (decide (bst d t i < 0) || decide (d i < d (bst d t i).toNat)) then (i : Int) else bst d t i
theorem bst_lt (d : Nat → Int) (t : Nat → Bool) (i : Nat) : -1 ≤ bst d t i ∧ bst d t i < i := by
  induction i with
  | zero => simp [bst]
  | succ i ih =>
    unfold bst
    split
    · omega
    · omega
theorem bst_free (d : Nat → Int) (t : Nat → Bool) (i : Nat) (h : 0 ≤ bst d t i) : t (bst d t i).toNat = false := by
  induction i with
  | zero => simp [bst] at h
  | succ i ih =>
    unfold bst at h ⊢
    split at h
    · rename_i hc
      rw [if_pos hc]
      simp at hc
      simpa using hc.1
    · rename_i hc
      rw [if_neg hc]; exact ih h
theorem bst_some (d : Nat → Int) (t : Nat → Bool) (i : Nat) (h : bst d t i < 0) : ∀ j, j < i → t j = true := by
  induction i with
  | zero => intro j hj; omega
  | succ i ih =>
    unfold bst at h
    split at h
    · omega
    · rename_i hc
      intro j hj
      have h1 := ih h
      by_cases e : j = i
      · subst e
        simp [h] at hc
        exact hc
      · exact h1 j (by omega)
theorem bst_min (d : Nat → Int) (t : Nat → Bool) (i : Nat) : ∀ j, j < i → t j = false → 0 ≤ bst d t i ∧ (d (bst d t i).toNat < d j ∨ (d (bst d t i).toNat = d j ∧ bst d t i ≤ j)) := by
  induction i with
  | zero => intro j hj; omega
  | succ i ih =>
    intro j hj hf
    unfold bst
    by_cases e : j = i
    · subst e
      split
      · exact ⟨by omega, .inr ⟨by simp, by omega⟩⟩
      · rename_i hc
        simp [hf] at hc
        have := (bst_lt d t j).2
        refine ⟨hc.1, ?_⟩
        rcases Int.lt_or_eq_of_le hc.2 with h | h
        · exact .inl h
        · exact .inr ⟨h, by omega⟩
    · obtain ⟨h1, h2⟩ := ih j (by omega) hf
      split
      · rename_i hc
        simp only [Bool.and_eq_true, Bool.or_eq_true, decide_eq_true_eq, Bool.not_eq_true'] at hc
        have h3 : d i < d (bst d t i).toNat := hc.2.resolve_left (by omega)
        simp only [Int.toNat_natCast]
        refine ⟨by omega, .inl ?_⟩
        rcases h2 with h | h <;> omega
      · exact ⟨h1, h2⟩
theorem cnt_add (t : Nat → Bool) (b : Nat) (hb : t b = false) (N : Nat) : (N ≤ b → (List.range N).countP (fun i => i == b || t i) = (List.range N).countP t) ∧ (b < N → (List.range N).countP (fun i => i == b || t i) = (List.range N).countP t + 1) := by
  induction N with
  | zero => exact ⟨fun _ => by simp, fun h => by omega⟩
  | succ N ih =>
    rw [List.range_succ, List.countP_append, List.countP_append, List.countP_singleton, List.countP_singleton]
    refine ⟨fun h => ?_, fun h => ?_⟩
    · rw [ih.1 (by omega)]
      have e : (N == b) = false := by simp; omega
      rw [e, Bool.false_or]
    · by_cases e : b = N
      · subst e
        rw [ih.1 (Nat.le_refl _), hb]; simp
      · rw [ih.2 (by omega)]
        have e2 : (N == b) = false := by simp; omega
        rw [e2, Bool.false_or]; omega
/-- What is taken behind k rounds. -/
def tks (d : Nat → Int) (N : Nat) : Nat → Nat → Bool
  | 0 => fun _ => false
  | k + 1 => fun i => i == (bst d (tks d N k) N).toNat || tks d N k i
theorem tks_count (d : Nat → Int) (N : Nat) : ∀ k, k ≤ N → ((List.range N).countP (tks d N k) = k) ∧ ∀ j, j < k → 0 ≤ bst d (tks d N j) N := by
  intro k
  induction k with
  | zero => intro _; exact ⟨by simp [tks], fun j hj => by omega⟩
  | succ k ih =>
    intro hk
    obtain ⟨h1, h2⟩ := ih (by omega)
    have h3 : 0 ≤ bst d (tks d N k) N := by
      by_cases h : 0 ≤ bst d (tks d N k) N
      · exact h
      · have h4 := bst_some d (tks d N k) N (by omega)
        have : (List.range N).countP (tks d N k) = (List.range N).length := List.countP_eq_length.2 fun j hj => h4 j (List.mem_range.1 hj)
        rw [h1, List.length_range] at this
        omega
    have h5 := bst_free d (tks d N k) N h3
    have h6 := (bst_lt d (tks d N k) N).2
    refine ⟨?_, fun j hj => ?_⟩
    · have hb : (bst d (tks d N k) N).toNat < N := by omega
      have := (cnt_add (tks d N k) _ h5 N).2 hb
      unfold tks; rw [this, h1]
    · by_cases e : j = k
      · subst e; exact h3
      · exact h2 j (by omega)
/-- The squared distance of the box at a place. -/
def dsJ (J : List Bx) (q : Pt) (i : Nat) : Int := dsB (J[i]?.getD ((0, 0), (0, 0))) q
theorem dsJ_of {J : List Bx} {q : Pt} {i : Nat} {z : Bx} (h : J[i]? = some z) : dsJ J q i = dsB z q := by unfold dsJ; rw [h]; rfl
/-- The Id at the best place behind k rounds. -/
def nrId (I : List ByteArray) (J : List Bx) (q : Pt) (k : Nat) : ByteArray := I[(bst (dsJ J q) (tks (dsJ J q) I.length k) I.length).toNat]?.getD ByteArray.empty
/-- The nearest, as the reference finds them. -/
def rnearL (I : List ByteArray) (J : List Bx) (q : Pt) (n : Int) : List ByteArray := (List.range (min n.toNat I.length)).map (nrId I J q)
end Go.Proofs.Ytcafnanbdmapgaa
