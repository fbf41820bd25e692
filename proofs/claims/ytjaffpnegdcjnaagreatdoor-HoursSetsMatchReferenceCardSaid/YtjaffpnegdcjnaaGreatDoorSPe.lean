/- Tokens of texts that are put together, in plain Lean. -/
import Derived.Test.YtjaffpnegdcjnaaGreatDoorSPd
set_option linter.unusedVariables false
set_option linter.unusedSimpArgs false
namespace Go.Proofs.YtjaffpnegdcjnaaGreatDoor
theorem u8_all {p : UInt8 → Bool} (h : (List.range 256).all (fun n => p (UInt8.ofNat n)) = true) (b : UInt8) : p b = true := by
  have := List.all_eq_true.1 h b.toNat (List.mem_range.2 b.toNat_lt)
  simpa using this
theorem cls (b : UInt8) : (!isSym b || (!isBlk b && b != 35 && !isLet b && !isDig b && b != 34 && !isWrd b)) = true := u8_all (p := fun b => !isSym b || (!isBlk b && b != 35 && !isLet b && !isDig b && b != 34 && !isWrd b)) (by decide +kernel) b
theorem clsL (b : UInt8) : (!isLet b || (!isBlk b && b != 35 && !isDig b && isWrd b)) = true := u8_all (p := fun b => !isLet b || (!isBlk b && b != 35 && !isDig b && isWrd b)) (by decide +kernel) b
theorem clsD (b : UInt8) : (!isDig b || (!isBlk b && b != 35 && !isLet b && isWrd b)) = true := u8_all (p := fun b => !isDig b || (!isBlk b && b != 35 && !isLet b && isWrd b)) (by decide +kernel) b
theorem isSym_cls {b : UInt8} (h : isSym b = true) : isBlk b = false ∧ (b == 35) = false ∧ isLet b = false ∧ isDig b = false ∧ (b == 34) = false ∧ isWrd b = false := by
  have := cls b
  rw [h] at this
  simp only [Bool.not_true, Bool.false_or, Bool.and_eq_true, Bool.not_eq_true', bne_iff_ne] at this
  obtain ⟨⟨⟨⟨⟨h1, h2⟩, h3⟩, h4⟩, h5⟩, h6⟩ := this
  exact ⟨h1, beq_false_of_ne h2, h3, h4, beq_false_of_ne h5, h6⟩
theorem isLet_cls {b : UInt8} (h : isLet b = true) : isBlk b = false ∧ (b == 35) = false ∧ isDig b = false ∧ isWrd b = true := by
  have := clsL b
  rw [h] at this
  simp only [Bool.not_true, Bool.false_or, Bool.and_eq_true, Bool.not_eq_true', bne_iff_ne] at this
  obtain ⟨⟨⟨h1, h2⟩, h3⟩, h4⟩ := this
  exact ⟨h1, beq_false_of_ne h2, h3, h4⟩
theorem isDig_cls {b : UInt8} (h : isDig b = true) : isBlk b = false ∧ (b == 35) = false ∧ isLet b = false ∧ isWrd b = true := by
  have := clsD b
  rw [h] at this
  simp only [Bool.not_true, Bool.false_or, Bool.and_eq_true, Bool.not_eq_true', bne_iff_ne] at this
  obtain ⟨⟨⟨h1, h2⟩, h3⟩, h4⟩ := this
  exact ⟨h1, beq_false_of_ne h2, h3, h4⟩
theorem one_blk {c : UInt8} {l : Bys} (h : isBlk c = true) : one c l = (0, [], 0, 0) := by unfold one; rw [if_pos h]
theorem one_sym {c : UInt8} {l : Bys} (h : isSym c = true) : one c l = (4, [c], 0, 0) := by
  obtain ⟨h1, h2, h3, h4, h5, _⟩ := isSym_cls h
  unfold one; simp only [h1, h2, h3, h4, h5, h, Bool.false_eq_true, if_false, if_true]
/-- The offsets of the tokens increase. -/
theorem lexL_inc : ∀ (n : Nat) (l : Bys) (a : Int), l.length ≤ n → ((lexL l a).Pairwise fun x y => x.1.2.2 < y.1.2.2) ∧ ∀ x ∈ lexL l a, a ≤ x.1.2.2 ∧ x.1.2.2 < a + l.length := by
  intro n
  induction n with
  | zero => intro l a h; have : l = [] := by cases l with | nil => rfl | cons => simp at h
            subst this; exact ⟨.nil, fun x hx => by cases hx⟩
  | succ n ih =>
    intro l a h
    cases l with
    | nil => exact ⟨.nil, fun x hx => by cases hx⟩
    | cons c l =>
      simp only [List.length_cons] at h ⊢
      rw [lexL_cons]
      have ih2 : ∀ k, ∀ x ∈ lexL (l.drop k) (a + 1 + k), a + 1 ≤ x.1.2.2 ∧ x.1.2.2 < a + ((l.length + 1 : Nat) : Int) := fun k x hx => by
        by_cases hk : k ≤ l.length
        · have := (ih (l.drop k) (a + 1 + k) (by simp; omega)).2 x hx
          rw [List.length_drop] at this
          omega
        · rw [List.drop_of_length_le (by omega)] at hx; cases hx
      split
      · exact ⟨List.pairwise_singleton _ _, fun x hx => by rw [List.mem_singleton] at hx; subst hx; simp only; omega⟩
      · split
        · exact ⟨(ih _ _ (by simp; omega)).1, fun x hx => by have := ih2 _ x hx; omega⟩
        · refine ⟨List.pairwise_cons.2 ⟨fun y hy => by have := ih2 _ y hy; simp only; omega, (ih _ _ (by simp; omega)).1⟩, fun x hx => ?_⟩
          rcases List.mem_cons.1 hx with rfl | hx
          · simp only; omega
          · have := ih2 _ x hx; omega
theorem strL_app : ∀ (n : Nat) (l r : Bys), l.length ≤ n → ∀ {s : Bys} {k : Nat}, strL l = some (s, k) → strL (l ++ r) = some (s, k) ∧ k ≤ l.length := by
  intro n
  induction n with
  | zero => intro l r h s k hs; have : l = [] := by cases l with | nil => rfl | cons => simp at h
            subst this; cases hs
  | succ n ih =>
    intro l r h s k hs
    cases l with
    | nil => cases hs
    | cons c l =>
      simp only [List.length_cons, List.cons_append] at h ⊢
      unfold strL at hs ⊢
      split at hs
      · rename_i h1; rw [if_pos h1]; cases hs; exact ⟨rfl, by omega⟩
      rename_i h1; rw [if_neg h1]
      split at hs
      · cases hs
      rename_i h2; rw [if_neg h2]
      split at hs
      · rename_i h3; rw [if_pos h3]
        cases l with
        | nil => cases hs
        | cons d l =>
          simp only [List.cons_append] at hs ⊢
          split at hs
          · rename_i h4; rw [if_pos h4]
            cases hq : strL l with
            | none => rw [hq] at hs; cases hs
            | some q =>
              obtain ⟨s1, k1⟩ := q
              rw [hq] at hs
              obtain ⟨e, e2⟩ := ih l r (by simp only [List.length_cons] at h; omega) hq
              rw [e]
              cases hs
              exact ⟨rfl, by simp only [List.length_cons]; omega⟩
          · cases hs
      · rename_i h3; rw [if_neg h3]
        cases hq : strL l with
        | none => rw [hq] at hs; cases hs
        | some q =>
          obtain ⟨s1, k1⟩ := q
          rw [hq] at hs
          obtain ⟨e, e2⟩ := ih l r (by omega) hq
          rw [e]
          cases hs
          exact ⟨rfl, by omega⟩
end Go.Proofs.YtjaffpnegdcjnaaGreatDoor
