/- The reference lineage: mention. -/
import Derived.Test.YtcolfgnjmnapkaaRa1
namespace Go.Proofs.Ytcolfgnjmnapkaa
open Go.RowKit Go.Pl

theorem info70 : (Try.prog.info? 70).map (fun i => (i.zero, i.size, i.bytes)) = some (some (.agg #[.string ByteArray.empty, .string ByteArray.empty]), 2, 32) := by kernel_rfl
theorem own_empty (w : World) (E c : Nat) : (w.alloc (.cells #[] E)).ownsRow w.heap.size E c (.slice (some ⟨w.heap.size, 0, none⟩) 0 0) 0 [] :=
  ⟨by simp, .inr ⟨w.heap.size, 0, #[], rfl, Nat.le_refl _, blk_alloc_new _ _, Nat.le_refl _, by unfold maxLen; omega, by simp, by simp⟩⟩
/-- A row's cells, as a source of an append. -/
theorem own_src {w : World} {B E c : Nat} {v : Value} {n : Nat} {xs : List Value} (h : w.ownsRow B E c v n xs) : (v = .slice none 0 0 ∧ n = 0) ∨ ∃ g cap, v = .slice (some ⟨g, 0, none⟩) n cap ∧ g < w.heap.size ∧ ∀ w' : World, w'.heap[g]? = w.heap[g]? → ∀ j u, xs[j]? = some u → w'.cell? ((⟨g, 0, none⟩ : Addr).add j) = some u := by
  have hl := h.1
  rcases h.2 with h1 | ⟨g, cap, cur, h1, _, hb, h3, h4, h5, h6⟩
  · exact .inl h1
  · refine .inr ⟨g, cap, h1, lt_of_blk hb, fun w' hw j u hj => ?_⟩
    rw [Addr.add_lit, Nat.zero_add, cell_of_blk (hw.trans hb)]
    have hjm : j < n * c := by
      have := (List.getElem?_eq_some_iff.1 hj).1
      omega
    have h7 : (cur.toList.take (n * c))[j]? = xs[j]? := by rw [h6]
    rw [List.getElem?_take_of_lt hjm, hj] at h7
    rw [← Array.getElem?_toList]; exact h7

/-- What a renewed row of mentioned Ids leads to: append(append([]string{}, old..), a) in two steps. -/
theorem men_row {w : World} {mv : Value} {ms : List ByteArray} (h : w.ownsRow 0 9 1 mv ms.length (ms.map .string)) :
    (w.alloc (.cells #[] 9)).ownsRow w.heap.size 9 1 (.slice (some ⟨w.heap.size, 0, none⟩) 0 0) 0 [] ∧
    ((mv = .slice none 0 0 ∧ ms = []) ∨ ∃ g cap, mv = .slice (some ⟨g, 0, none⟩) ms.length cap ∧ ∀ j u, (ms.map Value.string)[j]? = some u → (w.alloc (.cells #[] 9)).cell? ((⟨g, 0, none⟩ : Addr).add j) = some u) := by
  refine ⟨own_empty w 9 1, ?_⟩
  rcases own_src h with ⟨h1, h2⟩ | ⟨g, cap, h1, h2, h3⟩
  · exact .inl ⟨h1, List.length_eq_zero_iff.1 h2⟩
  · exact .inr ⟨g, cap, h1, h3 _ (blk_alloc h2 _)⟩
end Go.Proofs.Ytcolfgnjmnapkaa
