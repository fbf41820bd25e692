/- The reference: Open, Next. -/
import Derived.Test.YtjaffpnegdcjnaaGreatDoorRA1
set_option linter.unusedVariables false
set_option linter.unusedSimpArgs false
namespace Go.Proofs.YtjaffpnegdcjnaaGreatDoor
open Go.RowKit Go.Pl
def minuteB (m : Int) : Bool := decide (0 ≤ m) && decide (m ≤ 1000000000)
def inB (m : Int) (s : Sp) : Bool := decide (s.1 ≤ m % 10080) && decide (m % 10080 < s.2)
def openB (l : List Sp) (m : Int) : Bool := vl (-1) l && minuteB m && l.any (inB m)
/-- The first open minute from a minute on, of a list that is not empty. -/
def nextA (l : List Sp) (m : Int) : Int := match l.find? (fun s => decide (m % 10080 < s.2)) with | some s => m + max 0 (s.1 - m % 10080) | none => m - m % 10080 + 10080 + (l.headD (0, 0)).1
def nextP (l : List Sp) (m : Int) : Int × Bool := if vl (-1) l && minuteB m && !l.isEmpty then (nextA l m, true) else (0, false)
theorem vl_sorted {lo : Int} {l : List Sp} (h0 : -1 ≤ lo) (h : vl lo l = true) : ∀ (i j : Nat) (y z : Sp), i < j → l[i]? = some y → l[j]? = some z → y.2 < z.1 := by
 induction l generalizing lo with
 | nil => intro i j y z _ h; simp at h
 | cons s l ih =>
  obtain ⟨h1, h2, h3, h4⟩ := vl_cons.1 h
  intro i j y z hij hy hz
  cases j with
  | zero => omega
  | succ j =>
   simp only [List.getElem?_cons_succ] at hz
   cases i with
   | zero =>
    simp only [List.getElem?_cons_zero, Option.some.injEq] at hy; subst hy
    have hm := List.mem_of_getElem? hz
    have := vl_lo (m := z.1) h4 ⟨z, hm, Int.le_refl _, (vl_wk (lo := s.2) (by omega) h4 z hm).2.1⟩
    exact this
   | succ i => exact ih (by omega) h4 i j y z (by omega) (by simpa using hy) hz
theorem openB_next (l : List Sp) (m : Int) : openB l m = ((nextP l m).2 && ((nextP l m).1 == m)) := by
 unfold openB nextP
 cases hv : vl (-1) l with
 | false => rfl
 | true =>
  cases hm : minuteB m with
  | false => rfl
  | true =>
   simp only [Bool.true_and]
   cases l with
   | nil => rfl
   | cons s0 l0 =>
    simp only [List.isEmpty_cons, Bool.not_false, if_true, Bool.true_and]
    generalize hl : s0 :: l0 = l at *
    have h0 : (l.headD (0, 0)).1 = s0.1 := by rw [← hl]; rfl
    have hs0 : s0 ∈ l := by rw [← hl]; simp
    have hw := vl_wk (Int.le_refl _) hv
    have hmod := Int.emod_lt_of_pos m (show (0 : Int) < 10080 by omega)
    unfold nextA
    cases hf : l.find? (fun s => decide (m % 10080 < s.2)) with
    | none =>
     simp only
     have : l.any (inB m) = false := by
      rw [List.any_eq_false]
      intro s hs
      have := List.find?_eq_none.1 hf s hs
      unfold inB
      simp only [decide_eq_true_eq] at this
      simp [this]
     rw [this, eq_comm, beq_eq_false_iff_ne]
     have := hw s0 hs0
     omega
    | some s =>
     simp only
     have hs := List.find?_some hf
     simp only [decide_eq_true_eq] at hs
     obtain ⟨i, hi, hb⟩ := List.find?_eq_some_iff_getElem.1 hf |>.2
     obtain ⟨hi1, hi2, hi3⟩ : ∃ _ : i < l.length, l[i] = s ∧ ∀ j (hj : j < i), (!decide (m % 10080 < (l[j]).2)) = true := ⟨hi, hb⟩
     by_cases hle : s.1 ≤ m % 10080
     ·rw [show (m + max 0 (s.1 - m % 10080) == m) = true by rw [beq_iff_eq]; omega, List.any_eq_true]
      exact ⟨s, by rw [← hi2]; exact List.getElem_mem _, by unfold inB; simp [hle, hs]⟩
     ·rw [show (m + max 0 (s.1 - m % 10080) == m) = false by rw [beq_eq_false_iff_ne]; omega, List.any_eq_false]
      intro t ht
      obtain ⟨j, hj, hjt⟩ := List.mem_iff_getElem.1 ht
      unfold inB
      simp only [Bool.and_eq_true, decide_eq_true_eq]
      rintro ⟨h1, h2⟩
      rcases Nat.lt_trichotomy i j with h | h | h
      ·have := vl_sorted (Int.le_refl _) hv i j s t h (by rw [List.getElem?_eq_getElem hi1, hi2]) (by rw [List.getElem?_eq_getElem hj, hjt])
       have := hw s (by rw [← hi2]; exact List.getElem_mem _)
       omega
      ·subst h; rw [hi2] at hjt; subst hjt; omega
      ·have := hi3 j h
       rw [hjt] at this
       simp at this; omega
theorem len0_eq {α : Type} (l : List α) : (((l.length : Int)) == 0) = l.isEmpty := by
 cases l <;> simp
 omega
theorem nextP_no1 {l : List Sp} {m : Int} (h : vl (-1) l = false) : nextP l m = (0, false) := by unfold nextP; rw [h]; rfl
theorem nextP_no2 {l : List Sp} {m : Int} (h : minuteB m = false) : nextP l m = (0, false) := by unfold nextP; rw [h]; simp
theorem nextP_no3 {l : List Sp} {m : Int} (h : l.isEmpty = true) : nextP l m = (0, false) := by unfold nextP; rw [h]; simp
theorem nextP_is {l : List Sp} {m : Int} (h1 : vl (-1) l = true) (h2 : minuteB m = true) (h3 : l.isEmpty = false) : nextP l m = (nextA l m, true) := by unfold nextP; rw [h1, h2, h3]; rfl
theorem nextA_find {l : List Sp} {m : Int} {s : Sp} (h : l.find? (fun s => decide (m % 10080 < s.2)) = some s) : nextA l m = m + max 0 (s.1 - m % 10080) := by unfold nextA; rw [h]
theorem nextA_none {l : List Sp} {m : Int} {s : Sp} (h : l.find? (fun s => decide (m % 10080 < s.2)) = none) (h0 : l[0]? = some s) : nextA l m = m - m % 10080 + 10080 + s.1 := by
 unfold nextA; rw [h]
 cases l with
 | nil => simp at h0
 | cons a l => simp at h0; subst h0; rfl
section
variable {P : Program} {a : Act} {w : World} {fn : Func} {R : Ending → World → Prop} {n : Nat} {L : List (Nat × Value)} {v u : Value}
theorem ret_tmp2 {t t2 : Tmp} (hr : fn.results = #[.tmp t, .tmp t2]) (E : Env n L a) (hv : a.eval (.tmp t) = v) (hu : a.eval (.tmp t2) = u) (h : R (.returned (.tuple #[v, u])) w) : bodyPost P fn R .ret a w := by
 refine ⟨E.df, .tuple #[v, u], ?_, h⟩
 unfold results
 rw [hr]
 have h1 : a.tmps.getD t undef = v := hv
 have h2 : a.tmps.getD t2 undef = u := hu
 rw [Array.getD_eq_getD_getElem?] at h1 h2
 simp [h1, h2, go_sem]
end
end Go.Proofs.YtjaffpnegdcjnaaGreatDoor
