/- The reference lineage: put, in plain words; slices of a row. -/
import Derived.Test.YtcolfgnjmnapkaaRh
set_option linter.unusedVariables false
set_option linter.unusedSimpArgs false
namespace Go.Proofs.Ytcolfgnjmnapkaa
open Go.RowKit Go.Pl
def putL (L : List ByteArray) (s : ByteArray) : List ByteArray := L.takeWhile (fun x => Op.bytesLess x.toList s.toList) ++ s :: L.dropWhile (fun x => Op.bytesLess x.toList s.toList)
theorem tw_of {α : Type} {P : α → Bool} : ∀ {L : List α} {i : Nat}, (∀ (t : Nat) x, t < i → L[t]? = some x → P x = true) → (L.length ≤ i ∨ ∃ x, L[i]? = some x ∧ P x = false) → L.takeWhile P = L.take i ∧ L.dropWhile P = L.drop i
  | [], i, _, _ => by simp
  | y :: L, 0, _, h => by
    rcases h with h | ⟨x, hx, hp⟩
    · simp at h
    · simp at hx; subst hx; simp [hp]
  | y :: L, i + 1, h, h2 => by
    have hy : P y = true := h 0 y (by omega) rfl
    have ih := tw_of (P := P) (L := L) (i := i) (fun t x ht hx => h (t + 1) x (by omega) (by simpa using hx)) (by simpa using h2)
    rw [List.takeWhile_cons, List.dropWhile_cons, if_pos hy, if_pos hy, ih.1, ih.2]
    simp
theorem putL_of {L : List ByteArray} {s : ByteArray} {i : Nat} (h : ∀ (t : Nat) x, t < i → L[t]? = some x → Op.bytesLess x.toList s.toList = true) (h2 : L.length ≤ i ∨ ∃ x, L[i]? = some x ∧ Op.bytesLess x.toList s.toList = false) : putL L s = L.take i ++ ([s] ++ L.drop i) := by
  have := tw_of (P := fun x : ByteArray => Op.bytesLess x.toList s.toList) h h2
  unfold putL
  rw [this.1, this.2]; rfl
theorem src_drop {w : World} {G : Nat} {o : Oper} {ρ : Operand → Value} {x y : Operand} {p : Option Addr} {L : List ByteArray} {cap i : Nat} (hs : srcAt strC 1 w G p L) (hz : p = none → cap = 0) (hle : L.length ≤ cap) (hi : i ≤ L.length) (ho : o.op = .slice 33 x (some y) none none) (hx : ρ x = .slice p L.length cap) (hy : ρ y = .int .i64 i) :
    ∃ p' c', (execOp ρ o).run Try.prog w = .ok (.value (.slice p' (L.drop i).length c')) w ∧ srcAt strC 1 w G p' (L.drop i) ∧ (p' = none → c' = 0) := by
  have h1 : (i : Int) ≤ L.length := by omega
  have h2 : (L.length : Int) ≤ cap := by omega
  rcases p with _ | ad
  · obtain rfl := hz rfl
    have hL : L = [] := List.eq_nil_of_length_eq_zero (by omega)
    subst hL
    obtain rfl : i = 0 := by simpa using hi
    exact ⟨none, 0, by simp [execOp, ho, hx, hy, go_sem], .inl rfl, fun _ => rfl⟩
  · have hrun : ∃ ad', (execOp ρ o).run Try.prog w = .ok (.value (.slice (some ad') (L.length - i) (cap - i))) w ∧ (i < L.length → ad' = ad.add i) := by
      by_cases h3 : cap = i
      · refine ⟨ad, ?_, fun h => by omega⟩
        simp [execOp, ho, hx, hy, go_sem, h1, h2, h3]
      · refine ⟨ad.add i, ?_, fun _ => rfl⟩
        simp [execOp, ho, hx, hy, go_sem, h1, h2, h3]
    obtain ⟨ad', hr, ha⟩ := hrun
    refine ⟨some ad', cap - i, by rw [hr, List.length_drop], ?_, fun h => by cases h⟩
    by_cases hlt : i < L.length
    · rcases hs with h | ⟨g, off, h3, h4, h5⟩
      · subst h; simp at hlt
      · obtain rfl := Option.some.inj h3
        refine .inr ⟨g, off + i, by rw [ha hlt, Addr.add_mid], h4, fun k z hk => ?_⟩
        rw [List.getElem?_drop] at hk
        have := h5 _ z hk
        rw [show off + i + k * 1 = off + (i + k) * 1 by omega]; exact this
    · exact .inl (List.drop_of_length_le (by omega))
end Go.Proofs.Ytcolfgnjmnapkaa
