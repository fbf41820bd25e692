/- Steps of the laws of the sweep: the segments handed in, rows of segments of the law's own. -/
import Derived.Test.YtiainjcimmeedaaWk
import Derived.Test.YtiainjcimmeedaaPn
set_option linter.unusedVariables false
set_option linter.unusedSimpArgs false
namespace Go.Proofs.Ytiainjcimmeedaa
open Go.RowKit Go.Pl Go.Geo

/-- The slice at p holds the segments l. -/
def SegAt (w : World) (p : Option Addr) (l : List Sg) : Prop := l = [] ∨ ∃ g off, p = some ⟨g, off, none⟩ ∧ g < w.heap.size ∧ segR w g off l
theorem SegAt.fr {w w' : World} {p l} (h : SegAt w p l) (hf : Fr (fun _ => False) w w') : SegAt w' p l := by
  rcases h with h | ⟨g, off, h1, h2, h3⟩
  · exact .inl h
  · exact .inr ⟨g, off, h1, Nat.lt_of_lt_of_le h2 hf.size, h3.fr hf id⟩
theorem SegAt.at {w : World} {p l} (h : SegAt w p l) {i : Nat} (hi : i < l.length) : ∃ g off, p = some ⟨g, off, none⟩ ∧ g < w.heap.size ∧ segR w g off l := h.resolve_left (by rintro rfl; exact absurd hi (Nat.not_lt_zero _))
theorem SegAt.take {w : World} {p l} (h : SegAt w p l) (n : Nat) : SegAt w p (l.take n) := by
  rcases h with h | ⟨g, off, h1, h2, h3⟩
  · exact .inl (by rw [h]; simp)
  · refine .inr ⟨g, off, h1, h2, fun i s hs => h3 i s ?_⟩
    rw [List.getElem?_take] at hs
    split at hs
    · exact hs
    · cases hs
section
variable {o : Oper} {w : World} {ρ : Operand → Value} {x y : Operand} {g off k : Nat}
theorem fa36_at (hk : k = 0 ∨ k = 1 ∨ k = 2) (ho : o.op = .fieldAddr 36 x k) (hx : ρ x = .pointer (some ⟨g, off, none⟩)) : (execOp ρ o).run Try.prog w = .ok (.value (.pointer (some ⟨g, off + k, none⟩))) w := by
  rcases hk with rfl | rfl | rfl <;> simp [execOp, ho, hx, go_sem]
theorem fa32_at (hk : k = 0 ∨ k = 1) (ho : o.op = .fieldAddr 32 x k) (hx : ρ x = .pointer (some ⟨g, off, none⟩)) : (execOp ρ o).run Try.prog w = .ok (.value (.pointer (some ⟨g, off + k, none⟩))) w := by
  rcases hk with rfl | rfl <;> simp [execOp, ho, hx, go_sem]
theorem fa34_at0 (ho : o.op = .fieldAddr 34 x 0) (hx : ρ x = .pointer (some ⟨g, off, none⟩)) : (execOp ρ o).run Try.prog w = .ok (.value (.pointer (some ⟨g, off + 0, none⟩))) w := by simp [execOp, ho, hx, go_sem]
theorem fa34_at1 (ho : o.op = .fieldAddr 34 x 1) (hx : ρ x = .pointer (some ⟨g, off, none⟩)) : (execOp ρ o).run Try.prog w = .ok (.value (.pointer (some ⟨g, off + 2, none⟩))) w := by simp [execOp, ho, hx, go_sem]
theorem ld32_at0 {s : Sg} (ho : o.op = .load 32 x) (hx : ρ x = .pointer (some ⟨g, off + 0, none⟩)) (h : w.rangeAt g off (sgC s).toList) : (execOp ρ o).run Try.prog w = .ok (.value (.agg (ptC s.1))) w := by
  have c0 : w.cell? ⟨g, off, none⟩ = some (.int .i64 s.1.1) := h 0 _ rfl
  have c1 : w.cell? ⟨g, off + 1, none⟩ = some (.int .i64 s.1.2) := h 1 _ rfl
  simp [execOp, ho, hx, go_sem, c0, c1]
theorem ld32_at2 {s : Sg} (ho : o.op = .load 32 x) (hx : ρ x = .pointer (some ⟨g, off + 2, none⟩)) (h : w.rangeAt g off (sgC s).toList) : (execOp ρ o).run Try.prog w = .ok (.value (.agg (ptC s.2))) w := by
  have c0 : w.cell? ⟨g, off + 2, none⟩ = some (.int .i64 s.2.1) := h 2 _ rfl
  have c1 : w.cell? ⟨g, off + 2 + 1, none⟩ = some (.int .i64 s.2.2) := h 3 _ rfl
  simp [execOp, ho, hx, go_sem, c0, c1]
theorem run_of34 {p q : Pt} {y : Operand} (ho : o.op = .build 34 #[(0, x), (1, y)]) (hx : ρ x = .agg (ptC p)) (hy : ρ y = .agg (ptC q)) : (execOp ρ o).run Try.prog w = .ok (.value (.agg (sgC (p, q)))) w := by
  simp [execOp, ho, hx, hy, go_sem]
theorem run_conv5 {n : Nat} (ho : o.op = .convert 5 3 x) (hx : ρ x = .int .u8 n) (hn : n < 256) : (execOp ρ o).run Try.prog w = .ok (.value (.int .i64 n)) w := by
  simp [execOp, ho, hx, go_sem, IntWalk.i64_in (n : Int) ⟨by omega, by omega⟩]
theorem run_irem {m n : Int} (hx : ρ x = .int .i64 m) (hy : ρ y = .int .i64 n) (hm : 0 ≤ m) (hn : 0 < n) (hn2 : n ≤ 9223372036854775807) (ho : o.op = .binOp .rem 3 x y 3) : (execOp ρ o).run Try.prog w = .ok (.value (.int .i64 (m % n))) w := by
  have h1 : m.tmod n = m % n := Int.tmod_eq_emod_of_nonneg hm
  have h2 := Int.emod_nonneg m (by omega : n ≠ 0)
  have h3 := Int.emod_lt_of_pos m hn
  have h := IntWalk.i64_in (m % n) ⟨by omega, by omega⟩
  have h4 : (n == 0) = false := by simp; omega
  have h5 : (n = 0) = False := by simp; omega
  have h6 : n ≠ 0 := by omega
  simp [execOp, ho, hx, hy, go_sem, h1, h, h4, h5, h6]
theorem run_one34 {s : Sg} (ho : o.op = .buildSlice 22 1 #[(0, x)]) (h1 : ρ x = .agg (sgC s)) : (execOp ρ o).run Try.prog w = .ok (.value (.slice (some ⟨w.heap.size, 0, none⟩) 1 1)) (w.alloc (.cells (sgC s) 34)) := by
  simp [execOp, ho, h1, go_sem]
end
def oS (w : World) (B : Nat) (v : Value) (L : List Sg) : Prop := w.ownsRow B 34 4 v L.length (L.flatMap fun s => (sgC s).toList)
theorem inf34 : (Try.prog.info? 34).map (fun i => (i.size, i.bytes, i.zero)) = some (4, 32, some (.agg (sgC ((0, 0), (0, 0))))) := by kernel_rfl
section
variable {O : Array Oper} {Q : Exit → Act → World → Prop} {rest : List Oper} {o : Oper} {a : Act} {w : World} {n d : Nat} {L : List (Nat × Value)} {x y : Operand} {b : Nat}
theorem env_one34 {m : Sg} (E : Env n L a) (hd : o.dst = some d) (hn : d < n) (hf : (L.map (·.1)).contains d = false) (hw : Region.wanted o (yielded O a.tmps) = true) (ho : o.op = .buildSlice 22 1 #[(0, x)]) (hx : a.eval x = .agg (sgC m))
    (k : ∀ a' w' b, w.heap.size = b → sgB w' b m → Fr (fun _ => False) w w' → Env n ((d, .slice (some ⟨b, 0, none⟩) 1 1) :: L) a' → wpList Try.prog O Q rest a' w') : wpList Try.prog O Q (o :: rest) a w :=
  env_put E hd hn hf hw (run_one34 ho hx) fun a' E' => k a' _ _ rfl (blk_alloc_new _ _) ((Fr.refl _ _).alloc _) E'
theorem env_app34 {B : Nat} {v : Value} {A : List Sg} {m : Sg} (E : Env n L a) (hd : o.dst = some d) (hn : d < n) (hf : (L.map (·.1)).contains d = false) (hg : o.guard = none) (ho : o.op = .call { callee := .builtin .append, args := #[x, y], argTypes := #[22, 22] }) (hx : a.eval x = v) (hv : oS w B v A) (hy : a.eval y = .slice (some ⟨b, 0, none⟩) 1 1) (hb : sgB w b m) (hl : A.length ≤ 400000000) (hB : B ≤ w.heap.size)
    (k : ∀ a' w' v', oS w' B v' (A ++ [m]) → Fr (fun k => v.ownBlock = some k) w w' → (v'.ownBlock = v.ownBlock ∨ v'.ownBlock = some w.heap.size) → Env n ((d, v') :: L) a' → wpList Try.prog O Q rest a' w') : wpList Try.prog O Q (o :: rest) a w := by
  obtain ⟨i, hi, hz, h1, h2⟩ := parts_of inf34
  refine wpList_append_own_at w hg _ _ 22 ho B 34 i _ 4 32 Try.underlying22 hi hz h1 h2 rfl (by decide) v A.length _ hx hv ⟨b, 0, none⟩ 1 1 (sgC m).toList hy rfl (fun j u hu => ?_) (fun u hu => ?_) (by unfold maxLen; omega) (by omega) hB fun v' w' c1 c2 c3 c4 => ?_
  · rw [show (⟨b, 0, none⟩ : Addr).add j = ⟨b, j, none⟩ by simp [Addr.add]; exact fun h => h.symm, cell_of_blk hb]; simpa using hu
  · simp only [List.mem_cons, List.not_mem_nil, or_false] at hu
    rcases hu with rfl | rfl | rfl | rfl <;> rfl
  · rw [hd]
    refine k _ w' v' ?_ ((Fr.refl _ _).grown c2 fun k hk _ => hk) c4 (E.put hn hf)
    unfold oS
    rw [List.length_append, List.flatMap_append]
    simpa using c1
end
theorem oS.segAt {w : World} {B : Nat} {v : Value} {L : List Sg} (h : oS w B v L) : ∃ p cap, v = .slice p L.length cap ∧ SegAt w p L := by
  rcases h.2 with ⟨h1, h2⟩ | ⟨g, cap, cur, h1, hB, h2, h3, h4, h5, h6⟩
  · exact ⟨none, 0, by rw [h1, h2], .inl (List.eq_nil_of_length_eq_zero h2)⟩
  · refine ⟨_, cap, h1, .inr ⟨g, 0, rfl, lt_of_blk h2, fun i s hs j u hu => ?_⟩⟩
    have hi := (List.getElem?_eq_some_iff.1 hs).1
    have hj : j < 4 := (List.getElem?_eq_some_iff.1 hu).1
    have := flat_at (f := fun s : Sg => (sgC s).toList) (c := 4) (fun _ => rfl) L i s hs j hj
    rw [hu, ← h6, List.getElem?_take_of_lt (by omega), Array.getElem?_toList] at this
    rw [cell_of_blk h2, Nat.zero_add]; exact this
section
variable {l : List Sg} (hn : l.length ≤ 20000)
include hn
theorem mtAt_a (x : Fin l.length × Fin l.length) : ((mtAt l x).a.val : Int) = x.1.val := by
  unfold mtAt
  simp only
  rw [show (Fin.ofNat 20000 x.1.val).val = x.1.val from Nat.mod_eq_of_lt (by have := x.1.isLt; omega)]
theorem mtAt_b (x : Fin l.length × Fin l.length) : ((mtAt l x).b.val : Int) = x.2.val := by
  unfold mtAt
  simp only
  rw [show (Fin.ofNat 20000 x.2.val).val = x.2.val from Nat.mod_eq_of_lt (by have := x.2.isLt; omega)]
end
theorem kAt_eq {l : List Sg} {i j : Nat} (hi : i < l.length) (hj : j < l.length) {s t : Sg} (hs : l[i]? = some s) (ht : l[j]? = some t) : kAt l ⟨i, hi⟩ ⟨j, hj⟩ = meetsN s t := by
  obtain ⟨_, h1⟩ := List.getElem?_eq_some_iff.1 hs
  obtain ⟨_, h2⟩ := List.getElem?_eq_some_iff.1 ht
  unfold kAt; rw [← h1, ← h2]; rfl
end Go.Proofs.Ytiainjcimmeedaa
