/- Steps of the laws: meetings below a bound, a slice cut. -/
import Derived.Test.YtiainjcimmeedaaPw
import Derived.Test.YtiainjcimmeedaaDrx
set_option linter.unusedVariables false
set_option linter.unusedSimpArgs false
namespace Go.Proofs.Ytiainjcimmeedaa
open Go.RowKit Go.Pl Go.Geo

/-- v is a slice of the meetings L, in a block below B. -/
def mtR2 (w : World) (B : Nat) (v : Value) (L : List Mt) : Prop := (∃ p cap, v = .slice p L.length cap) ∧ (L = [] ∨ ∃ g cap, v = .slice (some ⟨g, 0, none⟩) L.length cap ∧ g < B ∧ ∀ i m, L[i]? = some m → w.rangeAt g (i * 3) (mtC m))
theorem mtR.to2 {w : World} {v : Value} {L : List Mt} (h : mtR w v L) : mtR2 w w.heap.size v L := h
theorem mtR2.fr {w w' : World} {B : Nat} {v : Value} {L : List Mt} (h : mtR2 w B v L) {F : Nat → Prop} (hf : Fr F w w') (hF : ∀ r, r < B → ¬ F r) : mtR2 w' B v L := by
  refine ⟨h.1, ?_⟩
  rcases h.2 with h | ⟨g, cap, h1, h2, h3⟩
  · exact .inl h
  · exact .inr ⟨g, cap, h1, h2, fun i m hm j u hu => hf.cell (h3 i m hm j u hu) (hF g h2)⟩
theorem mtR2.mtR {w : World} {B : Nat} {v : Value} {L : List Mt} (h : mtR2 w B v L) (hB : B ≤ w.heap.size) : mtR w v L := by
  refine ⟨h.1, ?_⟩
  rcases h.2 with h | ⟨g, cap, h1, h2, h3⟩
  · exact .inl h
  · exact .inr ⟨g, cap, h1, by omega, h3⟩
/-- The slice at p holds the segments l, in a block below B. -/
def SegAt2 (w : World) (B : Nat) (p : Option Addr) (l : List Sg) : Prop := l = [] ∨ ∃ g off, p = some ⟨g, off, none⟩ ∧ g < B ∧ segR w g off l
theorem SegAt2.fr {w w' : World} {B : Nat} {p l} (h : SegAt2 w B p l) {F : Nat → Prop} (hf : Fr F w w') (hF : ∀ r, r < B → ¬ F r) : SegAt2 w' B p l := by
  rcases h with h | ⟨g, off, h1, h2, h3⟩
  · exact .inl h
  · exact .inr ⟨g, off, h1, h2, h3.fr hf (hF g h2)⟩
theorem SegAt2.segAt {w : World} {B : Nat} {p l} (h : SegAt2 w B p l) (hB : B ≤ w.heap.size) : SegAt w p l := by
  rcases h with h | ⟨g, off, h1, h2, h3⟩
  · exact .inl h
  · exact .inr ⟨g, off, h1, by omega, h3⟩
theorem SegAt2.at {w : World} {B : Nat} {p l} (h : SegAt2 w B p l) {i : Nat} (hi : i < l.length) : ∃ g off, p = some ⟨g, off, none⟩ ∧ g < B ∧ segR w g off l := h.resolve_left (by rintro rfl; exact absurd hi (Nat.not_lt_zero _))
section
variable {o : Oper} {w : World} {ρ : Operand → Value} {x y : Operand} {g off k : Nat}
theorem run_sl22 {i n cap : Nat} {p : Option Addr} (ho : o.op = .slice 22 x none (some y) none) (hx : ρ x = .slice p n cap) (hy : ρ y = .int .i64 i) (hi : i ≤ cap) : (execOp ρ o).run Try.prog w = .ok (.value (.slice p i cap)) w := by
  rcases p with _ | a
  · simp [execOp, ho, hx, hy, go_sem, hi]
  · simp [execOp, ho, hx, hy, go_sem, hi]
end
section
variable {o : Oper} {w : World} {ρ : Operand → Value} {x y : Operand} {b : Nat}
theorem appx34 {B : Nat} {v : Value} {A : List Sg} {m : Sg} (ho : o.op = .call { callee := .builtin .append, args := #[x, y], argTypes := #[22, 22] }) (hx : ρ x = v) (hy : ρ y = .slice (some ⟨b, 0, none⟩) 1 1) (hv : oS w B v A) (hb : sgB w b m) (hl : A.length ≤ 400000000) (hB : B ≤ w.heap.size) :
    ∃ v' w', (execOp ρ o).run Try.prog w = .ok (.value v') w' ∧ oS w' B v' (A ++ [m]) ∧ Fr (fun k => v.ownBlock = some k) w w' ∧ (v'.ownBlock = v.ownBlock ∨ v'.ownBlock = some w.heap.size) := by
  obtain ⟨i, hi, hz, h1, h2⟩ := parts_of inf34
  obtain ⟨v', w', c0, c1, c2, _, c4⟩ := run_append_own_at (P := Try.prog) (w := w) B 22 o.type 34 i _ 4 32 Try.underlying22 hi hz h1 h2 rfl (by decide) v A.length _ hv ⟨b, 0, none⟩ 1 1 (sgC m).toList rfl (fun j u hu => by
    rw [show (⟨b, 0, none⟩ : Addr).add j = ⟨b, j, none⟩ by simp [Addr.add]; exact fun h => h.symm, cell_of_blk hb]; simpa using hu) (fun u hu => by
    simp only [List.mem_cons, List.not_mem_nil, or_false] at hu
    rcases hu with rfl | rfl | rfl | rfl <;> rfl) (by unfold maxLen; omega) (by omega) hB
  refine ⟨v', w', ?_, ?_, (Fr.refl _ _).grown c2 fun k hk _ => hk, c4⟩
  · unfold execOp
    simp only [ho, resolve, invoke, builtin, Sem.run_bind, Sem.run_pure, Result.andThen_ok, List.map_toArray, List.map_cons, List.map_nil, hx, hy, c0]
  · unfold oS
    rw [List.length_append, List.flatMap_append]
    simpa using c1
end
end Go.Proofs.Ytiainjcimmeedaa
