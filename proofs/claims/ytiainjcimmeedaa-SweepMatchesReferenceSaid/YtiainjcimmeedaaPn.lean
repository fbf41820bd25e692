/- The pairs that meet, in the order in which two loops find them. -/
import Derived.Test.YtiainjcimmeedaaSw
set_option linter.unusedVariables false
set_option linter.unusedSimpArgs false
namespace Go.Swp

variable {n : Nat} (K : Fin n → Fin n → Int)
def hitS (i j : Nat) : List (Fin n × Fin n) := if h : i < n ∧ j < n then (if i < j ∧ K ⟨i, h.1⟩ ⟨j, h.2⟩ ≠ 0 then [(⟨i, h.1⟩, ⟨j, h.2⟩)] else []) else []
def rowS (i j : Nat) : List (Fin n × Fin n) := (List.range j).flatMap (hitS K i)
def preS (i j : Nat) : List (Fin n × Fin n) := ((List.range i).flatMap fun i => rowS K i n) ++ rowS K i j
variable {K}
theorem hitS_of {i j : Nat} (hi : i < n) (hj : j < n) (hij : i < j) (hk : K ⟨i, hi⟩ ⟨j, hj⟩ ≠ 0) : hitS K i j = [(⟨i, hi⟩, ⟨j, hj⟩)] := by
  unfold hitS; rw [dif_pos ⟨hi, hj⟩, if_pos ⟨hij, hk⟩]
theorem hitS_not {i j : Nat} (hi : i < n) (hj : j < n) (hk : K ⟨i, hi⟩ ⟨j, hj⟩ = 0) : hitS K i j = [] := by
  unfold hitS; rw [dif_pos ⟨hi, hj⟩, if_neg (fun h => h.2 hk)]
theorem hitS_le {i j : Nat} (h : j ≤ i) : hitS K i j = [] := by
  unfold hitS
  split
  · rw [if_neg (by omega)]
  · rfl
theorem rowS_zero (i : Nat) : rowS K i 0 = [] := rfl
theorem rowS_succ (i j : Nat) : rowS K i (j + 1) = rowS K i j ++ hitS K i j := by
  unfold rowS; rw [List.range_succ, List.flatMap_append]; simp
theorem rowS_le {i : Nat} : ∀ {j : Nat}, j ≤ i + 1 → rowS K i j = []
  | 0, _ => rfl
  | j + 1, h => by rw [rowS_succ, rowS_le (j := j) (by omega), hitS_le (by omega)]; rfl
theorem preS_zero : preS K 0 0 = [] := rfl
theorem preS_succ (i j : Nat) : preS K i (j + 1) = preS K i j ++ hitS K i j := by unfold preS; rw [rowS_succ, List.append_assoc]
theorem preS_start (i : Nat) : preS K i (i + 1) = preS K i 0 := by unfold preS; rw [rowS_le (Nat.le_refl _), rowS_zero]
theorem preS_next (i : Nat) : preS K (i + 1) 0 = preS K i n := by
  unfold preS; rw [List.range_succ, List.flatMap_append, rowS_zero]; simp
theorem range_fin : ∀ n : Nat, List.range n = (List.finRange n).map (·.val) := by
  intro n
  apply List.ext_getElem?
  intro t
  by_cases h : t < n
  · simp [h]
  · rw [List.getElem?_eq_none (by simp; omega), List.getElem?_eq_none (by simp; omega)]
theorem spec_pre : spec K = preS K n 0 := by
  unfold spec preS
  rw [rowS_zero, List.append_nil, range_fin n, List.flatMap_map]
  congr 1
  funext i
  unfold rowS
  rw [range_fin n, List.flatMap_map]
  generalize List.finRange n = l
  induction l with
  | nil => rfl
  | cons j l ih =>
    rw [List.filterMap_cons, List.flatMap_cons, ← ih]
    unfold hitS
    rw [dif_pos ⟨i.isLt, j.isLt⟩]
    by_cases h : i < j ∧ K i j ≠ 0
    · rw [if_pos h, if_pos (show i.val < j.val ∧ _ from h)]; rfl
    · rw [if_neg h, if_neg (show ¬ (i.val < j.val ∧ _) from h)]; rfl
theorem row_pre (i : Nat) {j m : Nat} (h : j ≤ m) : ∃ t, rowS K i m = rowS K i j ++ t := by
  obtain ⟨d, rfl⟩ : ∃ d, m = j + d := ⟨m - j, by omega⟩
  induction d with
  | zero => exact ⟨[], by simp⟩
  | succ d ih =>
    obtain ⟨t, ht⟩ := ih (by omega)
    refine ⟨t ++ hitS K i (j + d), ?_⟩
    rw [show j + (d + 1) = (j + d) + 1 from rfl, rowS_succ, ht, List.append_assoc]
theorem pre_spec {i : Nat} : ∀ {j : Nat}, i ≤ n → j ≤ n → (j = 0 ∨ i < n) → ∃ t, spec K = preS K i j ++ t := by
  have h1 : ∀ d i, i + d = n → ∃ t, preS K n 0 = preS K i 0 ++ t := by
    intro d
    induction d with
    | zero => intro i h; obtain rfl : i = n := by omega
              exact ⟨[], by simp⟩
    | succ d ih =>
      intro i h
      obtain ⟨t, ht⟩ := ih (i + 1) (by omega)
      obtain ⟨u, hu⟩ := row_pre (K := K) i (Nat.zero_le n)
      rw [preS_next] at ht
      refine ⟨u ++ t, ?_⟩
      rw [ht]; unfold preS; rw [hu, List.append_assoc, List.append_assoc, List.append_assoc]
  intro j hi hj h
  rw [spec_pre]
  rcases h with rfl | h
  · exact h1 (n - i) i (by omega)
  · obtain ⟨t, ht⟩ := h1 (n - (i + 1)) (i + 1) (by omega)
    obtain ⟨u, hu⟩ := row_pre (K := K) i hj
    rw [preS_next] at ht
    refine ⟨u ++ t, ?_⟩
    rw [ht]; unfold preS; rw [hu, List.append_assoc, List.append_assoc, List.append_assoc]
/-- The next pair that the loops find stands next in the list. -/
theorem spec_at {i j : Nat} (hi : i < n) (hj : j < n) (hij : i < j) (hk : K ⟨i, hi⟩ ⟨j, hj⟩ ≠ 0) : (spec K)[(preS K i j).length]? = some (⟨i, hi⟩, ⟨j, hj⟩) := by
  obtain ⟨t, ht⟩ := pre_spec (K := K) (i := i) (j := j + 1) (by omega) (by omega) (.inr hi)
  rw [preS_succ, hitS_of hi hj hij hk] at ht
  rw [ht]; simp
theorem pre_len {i j : Nat} (hi : i ≤ n) (hj : j ≤ n) (h : j = 0 ∨ i < n) : (preS K i j).length ≤ (spec K).length := by
  obtain ⟨t, ht⟩ := pre_spec (K := K) hi hj h
  rw [ht]; simp
theorem row_len (i j : Nat) : (rowS K i j).length ≤ j := by
  induction j with
  | zero => simp [rowS]
  | succ j ih =>
    rw [rowS_succ, List.length_append]
    have : (hitS K i j).length ≤ 1 := by unfold hitS; split <;> (try split) <;> simp
    omega
theorem pre_len_le (i j : Nat) : (preS K i j).length ≤ i * n + j := by
  unfold preS
  rw [List.length_append]
  have h1 := row_len (K := K) i j
  have h2 : ((List.range i).flatMap fun i => rowS K i n).length ≤ i * n := by
    induction i with
    | zero => simp
    | succ i ih =>
      rw [List.range_succ, List.flatMap_append, List.length_append]
      have h3 := row_len (K := K) i n
      have h4 := ih (row_len i j)
      have h5 : (List.flatMap (fun i => rowS K i n) [i]).length = (rowS K i n).length := by simp
      rw [h5, Nat.add_mul]; omega
  omega
end Go.Swp
