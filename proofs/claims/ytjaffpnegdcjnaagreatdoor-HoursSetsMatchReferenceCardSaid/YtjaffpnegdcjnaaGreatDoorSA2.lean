/- The reference: Open, Next. -/
import Derived.Test.YtjaffpnegdcjnaaGreatDoorSA1
set_option linter.unusedVariables false
set_option linter.unusedSimpArgs false
namespace Go.Proofs.YtjaffpnegdcjnaaGreatDoor
open Go.RowKit Go.Pl
theorem drop_go {α : Type} {l : List α} {i : Nat} {y : α} (hy : l[i]? = some y) : l.drop i = y :: l.drop (i + 1) := by
 have hi := (List.getElem?_eq_some_iff.1 hy).1
 rw [List.drop_eq_getElem_cons hi, (List.getElem?_eq_some_iff.1 hy).2]
def minuteB (m : Int) : Bool := decide (0 ≤ m) && decide (m ≤ 1000000000)
def inB (m : Int) (s : Sp) : Bool := decide (s.1 ≤ m % 10080) && decide (m % 10080 < s.2)
def openB (l : List Sp) (m : Int) : Bool := vl (-1) l && minuteB m && l.any (inB m)
/-- The first open minute from a minute on, of a list that is not empty. -/
def nextA (l : List Sp) (m : Int) : Int := match l.find? (fun s => decide (m % 10080 < s.2)) with | some s => m + max 0 (s.1 - m % 10080) | none => m - m % 10080 + 10080 + (l.headD (0, 0)).1
def nextP (l : List Sp) (m : Int) : Int × Bool := if vl (-1) l && minuteB m && !l.isEmpty then (nextA l m, true) else (0, false)
theorem vl_sorted {lo : Int} {l : List Sp} (h0 : -1 ≤ lo) (h : vl lo l = true) : ∀ (i j : Nat) (y z : Sp), i < j → l[i]? = some y → l[j]? = some z → y.2 < z.1 := by
 induction l generalizing lo with
 | nil => intro i j y z _ h; simp at h
 | cons s l ih =>
  obtain ⟨h1, h2, h3, h4⟩ := vl_cons.1 h
  intro i j y z hij hy hz
  cases j with
  | zero => omega
  | succ j =>
   simp only [List.getElem?_cons_succ] at hz
   cases i with
   | zero =>
    simp only [List.getElem?_cons_zero, Option.some.injEq] at hy; subst hy
    have hm := List.mem_of_getElem? hz
    have := vl_lo (m := z.1) h4 ⟨z, hm, Int.le_refl _, (vl_wk (lo := s.2) (by omega) h4 z hm).2.1⟩
    exact this
   | succ i => exact ih (by omega) h4 i j y z (by omega) (by simpa using hy) hz
theorem openB_next (l : List Sp) (m : Int) : openB l m = ((nextP l m).2 && ((nextP l m).1 == m)) := by
 unfold openB nextP
 cases hv : vl (-1) l with
 | false => rfl
 | true =>
  cases hm : minuteB m with
  | false => rfl
  | true =>
   simp only [Bool.true_and]
   cases l with
   | nil => rfl
   | cons s0 l0 =>
    simp only [List.isEmpty_cons, Bool.not_false, if_true, Bool.true_and]
    generalize hl : s0 :: l0 = l at *
    have h0 : (l.headD (0, 0)).1 = s0.1 := by rw [← hl]; rfl
    have hs0 : s0 ∈ l := by rw [← hl]; simp
    have hw := vl_wk (Int.le_refl _) hv
    have hmod := Int.emod_lt_of_pos m (show (0 : Int) < 10080 by omega)
    unfold nextA
    cases hf : l.find? (fun s => decide (m % 10080 < s.2)) with
    | none =>
     simp only
     have : l.any (inB m) = false := by
      rw [List.any_eq_false]
      intro s hs
      have := List.find?_eq_none.1 hf s hs
      unfold inB
      simp only [decide_eq_true_eq] at this
      simp [this]
     rw [this, eq_comm, beq_eq_false_iff_ne]
     have := hw s0 hs0
     omega
    | some s =>
     simp only
     have hs := List.find?_some hf
     simp only [decide_eq_true_eq] at hs
     obtain ⟨i, hi, hb⟩ := List.find?_eq_some_iff_getElem.1 hf |>.2
     obtain ⟨hi1, hi2, hi3⟩ : ∃ _ : i < l.length, l[i] = s ∧ ∀ j (hj : j < i), (!decide (m % 10080 < (l[j]).2)) = true := ⟨hi, hb⟩
     by_cases hle : s.1 ≤ m % 10080
     ·rw [show (m + max 0 (s.1 - m % 10080) == m) = true by rw [beq_iff_eq]; omega, List.any_eq_true]
      exact ⟨s, by rw [← hi2]; exact List.getElem_mem _, by unfold inB; simp [hle, hs]⟩
     ·rw [show (m + max 0 (s.1 - m % 10080) == m) = false by rw [beq_eq_false_iff_ne]; omega, List.any_eq_false]
      intro t ht
      obtain ⟨j, hj, hjt⟩ := List.mem_iff_getElem.1 ht
      unfold inB
      simp only [Bool.and_eq_true, decide_eq_true_eq]
      rintro ⟨h1, h2⟩
      rcases Nat.lt_trichotomy i j with h | h | h
      ·have := vl_sorted (Int.le_refl _) hv i j s t h (by rw [List.getElem?_eq_getElem hi1, hi2]) (by rw [List.getElem?_eq_getElem hj, hjt])
       have := hw s (by rw [← hi2]; exact List.getElem_mem _)
       omega
      ·subst h; rw [hi2] at hjt; subst hjt; omega
      ·have := hi3 j h
       rw [hjt] at this
       simp at this; omega
set_option maxRecDepth 100000 in
set_option maxHeartbeats 4000000 in
theorem minute_calls (m : Int) (w : World) : Calls Tryz.prog 54 #[.int .i64 m] w fun e w' => e = .returned (.bool (minuteB m)) ∧ Fr (fun _ => False) w w' := by
 refine wp_start1 Tryz.func54 rfl rfl (n := 9) (by decide) fun a E => ?_
 have hf : Fr (fun _ => False) w w := Fr.refl _ _
 refine wp_seq ?_
 refine wp_region_lit ?_
 refine ep (v := .bool false) E (run_assign rfl rfl) fun a E => ?_
 refine wpList_nil ?_
 refine then_n ?_
 refine wp_seq ?_
 refine wp_region_lit ?_
 refine ep (v := .int .i64 m) E (run_move rfl (E.get 1 rfl)) fun a E => ?_
 refine ep (v := .bool (decide (0 ≤ m))) E (run_igeq (E.get 0 rfl) rfl Tryz.underlying3 rfl) fun a E => ?_
 refine ep (v := .bool (decide (0 ≤ m))) E (run_move rfl (E.get 0 rfl)) fun a E => ?_
 cases hq1 : (decide (0 ≤ m)) with
 | false =>
  rw [hq1] at E
  refine ek E rfl (E.get 0 rfl) fun a E => ?_
  refine ek E rfl (E.get 1 rfl) fun a E => ?_
  refine ep (v := .bool false) E (run_pick_f rfl (E.get 2 rfl) rfl) fun a E => ?_
  refine env_set (d := 2) (v := .bool false) E rfl (by decide) (wanted_none rfl _) (run_assign rfl (E.get 0 rfl)) fun a E => ?_
  refine wpList_nil ?_
  refine then_n ?_
  refine wp_ret ?_
  refine ret_tmp (t := 2) rfl E (E.get 0 rfl) ⟨?_, hf⟩
  unfold minuteB
  rw [hq1]
  rfl
 | true =>
  rw [hq1] at E
  refine eg (v := .int .i64 m) E (w_yes (g := 2) (s := 5) E rfl rfl (by decide) (E.get 0 rfl)) (run_move rfl (E.get 4 rfl)) fun a E => ?_
  refine eg (v := .bool (decide (m ≤ 1000000000))) E (w_yes (g := 2) (s := 5) E rfl rfl (by decide) (E.get 1 rfl)) (run_ileq (E.get 0 rfl) rfl Tryz.underlying3 rfl) fun a E => ?_
  refine ep (v := .bool (decide (m ≤ 1000000000))) E (run_pick_t rfl (E.get 2 rfl) (E.get 0 rfl)) fun a E => ?_
  refine env_set (d := 2) (v := .bool (decide (m ≤ 1000000000))) E rfl (by decide) (wanted_none rfl _) (run_assign rfl (E.get 0 rfl)) fun a E => ?_
  refine wpList_nil ?_
  refine then_n ?_
  refine wp_ret ?_
  refine ret_tmp (t := 2) rfl E (E.get 0 rfl) ⟨?_, hf⟩
  unfold minuteB
  rw [hq1]
  rfl
set_option maxRecDepth 100000 in
set_option maxHeartbeats 4000000 in
theorem ropen_calls {w : World} {v : Value} {l : List Sp} (hl : SpV w v l) (m : Int) : Calls Tryz.prog 28 #[v, .int .i64 m] w fun e w' => e = .returned (.bool (openB l m)) ∧ Fr (fun _ => False) w w' := by
 obtain ⟨p0, cp0, hvp0, hlep0, hcapp0, hsp0, hzp0⟩ := hl
 subst hvp0
 refine wp_start2 Tryz.func28 rfl rfl (n := 38) (by decide) fun a E => ?_
 have hf : Fr (fun _ => False) w w := Fr.refl _ _
 refine wp_seq ?_
 refine wp_region_lit ?_
 refine ep (v := .bool false) E (run_assign rfl rfl) fun a E => ?_
 refine wpList_nil ?_
 refine then_n ?_
 refine wp_seq ?_
 refine wp_seq ?_
 refine wp_region_lit ?_
 refine ep (v := .slice (p0) l.length cp0) E (run_move rfl (E.get 1 rfl)) fun a E => ?_
 refine env_call (d := 7) (v := .bool (vl (-1) l)) E rfl (by decide) rfl (wanted_none rfl _) (run_call1 (enters_of Tryz.func19 (by kernel_rfl) rfl) rfl rfl (E.get 0 rfl)) (rvalid_calls ⟨_, _, rfl, hlep0, hcapp0, hsp0.mono (by first | exact hf.size | omega), hzp0⟩) fun a w1 f1 E => ?_
 have hsp0 := srcAt.fr hsp0 f1 (fun r hr => id)
 have hf := hf.trans f1
 clear f1
 refine ep (v := .bool (!(vl (-1) l))) E (run_not rfl (E.get 0 rfl)) fun a E => ?_
 refine ep (v := .bool (!(vl (-1) l))) E (run_move rfl (E.get 0 rfl)) fun a E => ?_
 cases hq2 : (vl (-1) l) with
 | false =>
  rw [hq2] at E
  refine ek E rfl (E.get 0 rfl) fun a E => ?_
  refine ek E rfl (E.get 1 rfl) fun a E => ?_
  refine ek E rfl (E.get 2 rfl) fun a E => ?_
  refine ep (v := .bool true) E (run_pick_t rfl (E.get 3 rfl) rfl) fun a E => ?_
  refine wpList_nil ?_
  refine then_n ?_
  refine wp_cond_true (E.get 0 rfl) ?_
  refine wp_seq ?_
  refine wp_region_lit ?_
  refine env_set (d := 4) (v := .bool false) E rfl (by decide) (wanted_none rfl _) (run_assign rfl rfl) fun a E => ?_
  refine wpList_nil ?_
  refine then_n ?_
  refine wp_ret ?_
  refine then_r ?_
  refine ret_tmp (t := 4) rfl E (E.get 0 rfl) ⟨?_, hf⟩
  unfold openB
  rw [hq2]
  rfl
 | true =>
  rw [hq2] at E
  refine eg (v := .int .i64 m) E (w_yes (g := 3) (s := 9) E rfl rfl (by decide) (E.get 0 rfl)) (run_move rfl (E.get 6 rfl)) fun a E => ?_
  refine env_call (d := 11) (v := .bool (minuteB m)) E rfl (by decide) rfl (w_yes (g := 3) (s := 9) E rfl rfl (by decide) (E.get 1 rfl)) (run_call1 (enters_of Tryz.func54 (by kernel_rfl) rfl) rfl rfl (E.get 0 rfl)) (minute_calls m _) fun a w1 f1 E => ?_
  have hsp0 := srcAt.fr hsp0 f1 (fun r hr => id)
  have hf := hf.trans f1
  clear f1
  refine eg (v := .bool (!(minuteB m))) E (w_yes (g := 3) (s := 9) E rfl rfl (by decide) (E.get 2 rfl)) (run_not rfl (E.get 0 rfl)) fun a E => ?_
  refine ep (v := .bool (!(minuteB m))) E (run_pick_f rfl (E.get 3 rfl) (E.get 0 rfl)) fun a E => ?_
  refine wpList_nil ?_
  refine then_n ?_
  cases hq3 : (minuteB m) with
  | false =>
   rw [hq3] at E
   refine wp_cond_true (E.get 0 rfl) ?_
   refine wp_seq ?_
   refine wp_region_lit ?_
   refine env_set (d := 4) (v := .bool false) E rfl (by decide) (wanted_none rfl _) (run_assign rfl rfl) fun a E => ?_
   refine wpList_nil ?_
   refine then_n ?_
   refine wp_ret ?_
   refine then_r ?_
   refine ret_tmp (t := 4) rfl E (E.get 0 rfl) ⟨?_, hf⟩
   unfold openB
   rw [hq2]
   rw [hq3]
   rfl
  | true =>
   rw [hq3] at E
   refine wp_cond_false (E.get 0 rfl) ?_
   refine wp_skip ?_
   refine then_n ?_
   refine wp_seq ?_
   refine wp_seq ?_
   refine wp_region_lit ?_
   refine ep (v := .int .i64 0) E (run_assign rfl rfl) fun a E => ?_
   refine wpList_nil ?_
   refine then_n ?_
   refine wp_block ?_
   have hvv := hq2
   have hmm : minuteB m = true := hq3
   have hm9 := hmm
   unfold minuteB at hm9
   simp only [Bool.and_eq_true, decide_eq_true_eq] at hm9
   refine wp_loop (fun a w2 => ∃ (i : Nat), Env 38 [(5, .int .i64 (i : Int)), (0, .slice (p0) l.length cp0), (1, .int .i64 m)] a ∧ i ≤ l.length ∧ l.any (inB m) = (l.drop i).any (inB m) ∧ srcAt spL 2 w2 w.heap.size p0 l ∧ Fr (fun _ => False) w w2) (fun a _ => l.length - (intOf (a.eval (.tmp 5))).toNat) ?_ ?_
   ·exact ⟨0, E.of ⟨E.get 0 rfl, E.get 10 rfl, E.get 11 rfl, trivial⟩, Nat.zero_le _, rfl, hsp0, hf⟩
   clear E
   rintro a w2 ⟨i, E, hi, hv, hsp0, hf⟩
   have hmu : l.length - (intOf (a.eval (.tmp 5))).toNat = l.length - i := by rw [E.get 0 rfl]; first | rfl | (simp [intOf]; done) | (simp only [intOf]; omega)
   rw [hmu]
   clear hmu
   refine wp_seq ?_
   refine wp_seq ?_
   refine wp_region_lit ?_
   refine ep (v := .int .i64 (i : Int)) E (run_move rfl (E.get 0 rfl)) fun a E => ?_
   refine ep (v := .slice (p0) l.length cp0) E (run_move rfl (E.get 2 rfl)) fun a E => ?_
   refine ep (v := .int .i64 (l.length : Int)) E (run_len22 rfl (E.get 0 rfl)) fun a E => ?_
   refine ep (v := .bool (decide ((i : Int) < (l.length : Int)))) E (run_ilss (E.get 2 rfl) (E.get 0 rfl) Tryz.underlying3 rfl) fun a E => ?_
   refine wpList_nil ?_
   refine then_n ?_
   cases hq5 : (decide ((i : Int) < (l.length : Int))) with
   | false =>
    rw [hq5] at E
    have hie : i = l.length := by have := of_decide_eq_false hq5; omega
    refine wp_cond_false (E.get 0 rfl) ?_
    refine wp_exit ?_
    refine then_e ?_
    refine then_e ?_
    refine blk_e ?_
    refine then_n ?_
    refine wp_seq ?_
    refine wp_region_lit ?_
    refine ep (v := .bool false) E (run_assign rfl rfl) fun a E => ?_
    refine wpList_nil ?_
    refine then_n ?_
    refine wp_ret ?_
    refine ret_tmp (t := 4) rfl E (E.get 0 rfl) ⟨?_, hf⟩
    unfold openB
    have qhq5 := of_decide_eq_false hq5
    rw [hvv, hmm, hv]
    rw [hie, List.drop_length]; rfl
   | true =>
    rw [hq5] at E
    have hlt : i < l.length := by have := of_decide_eq_true hq5; omega
    obtain ⟨y, hy⟩ : ∃ y, l[i]? = some y := ⟨_, List.getElem?_eq_getElem hlt⟩
    obtain ⟨g6, off6, hpe6, hgl6, hrow6⟩ := hsp0.at hlt
    replace hrow6 := hrow6 i y hy
    refine wp_cond_true (E.get 0 rfl) ?_
    refine wp_skip ?_
    refine then_n ?_
    refine wp_seq ?_
    refine wp_block ?_
    refine wp_seq ?_
    refine wp_region_lit ?_
    refine ep (v := .slice (p0) l.length cp0) E (run_move rfl (E.get 5 rfl)) fun a E => ?_
    refine ep (v := .int .i64 (i : Int)) E (run_move rfl (E.get 5 rfl)) fun a E => ?_
    refine ep (v := .pointer (some ⟨g6, (off6 + i * 2), none⟩)) E (run_index22 (i := i) rfl ((E.get 1 rfl).trans (by rw [hpe6])) (E.get 0 rfl) hlt) fun a E => ?_
    refine ep (v := .pointer (some ⟨g6, ((off6 + i * 2) + 0), none⟩)) E (fa48_0 rfl (E.get 0 rfl)) fun a E => ?_
    refine ep (v := .int .i64 y.1) E (run_ldi rfl (E.get 0 rfl) (hrow6 0 _ rfl)) fun a E => ?_
    refine ep (v := .int .i64 m) E (run_move rfl (E.get 11 rfl)) fun a E => ?_
    refine ep (v := .int .i64 (m % 10080)) E (run_irem (E.get 0 rfl) rfl (by omega) (by omega) (by omega) (by omega) rfl) fun a E => ?_
    refine ep (v := .bool (decide (y.1 ≤ (m % 10080)))) E (run_ileq (E.get 2 rfl) (E.get 0 rfl) Tryz.underlying3 rfl) fun a E => ?_
    refine ep (v := .bool (decide (y.1 ≤ (m % 10080)))) E (run_move rfl (E.get 0 rfl)) fun a E => ?_
    cases hq7 : (decide (y.1 ≤ (m % 10080))) with
    | false =>
     rw [hq7] at E
     refine ek E rfl (E.get 0 rfl) fun a E => ?_
     refine ek E rfl (E.get 1 rfl) fun a E => ?_
     refine ek E rfl (E.get 2 rfl) fun a E => ?_
     refine ek E rfl (E.get 3 rfl) fun a E => ?_
     refine ek E rfl (E.get 4 rfl) fun a E => ?_
     refine ek E rfl (E.get 5 rfl) fun a E => ?_
     refine ek E rfl (E.get 6 rfl) fun a E => ?_
     refine ek E rfl (E.get 7 rfl) fun a E => ?_
     refine ep (v := .bool false) E (run_pick_f rfl (E.get 8 rfl) rfl) fun a E => ?_
     refine wpList_nil ?_
     refine then_n ?_
     refine wp_cond_false (E.get 0 rfl) ?_
     refine wp_skip ?_
     refine blk_n ?_
     refine then_n ?_
     refine wp_region_lit ?_
     refine ep (v := .int .i64 (i : Int)) E (run_move rfl (E.get 22 rfl)) fun a E => ?_
     refine ep (v := .int .i64 ((i : Int) + 1)) E (run_iadd Tryz.underlying3 (E.get 0 rfl) rfl (by omega) (by omega) rfl) fun a E => ?_
     refine env_set (d := 5) (v := .int .i64 ((i : Int) + 1)) E rfl (by decide) (wanted_none rfl _) (run_assign rfl (E.get 0 rfl)) fun a E => ?_
     refine wpList_nil ?_
     refine then_n ?_
     have qhq5 := of_decide_eq_true hq5
     have qhq7 := of_decide_eq_false hq7
     refine ⟨⟨i + 1, E.of ⟨E.get 0 rfl, E.get 25 rfl, E.get 26 rfl, trivial⟩, hlt, ?_, hsp0, hf⟩, ?_⟩
     ·rw [hv, drop_go hy, List.any_cons]
      have h9 : inB m y = false := by
       unfold inB; rw [Bool.eq_false_iff]; simp only [ne_eq, Bool.and_eq_true, decide_eq_true_eq]; omega
      rw [h9, Bool.false_or]
     ·rw [E.get 0 rfl]; simp only [intOf]; omega
    | true =>
     rw [hq7] at E
     refine eg (v := .int .i64 m) E (w_yes (g := 8) (s := 28) E rfl rfl (by decide) (E.get 0 rfl)) (run_move rfl (E.get 15 rfl)) fun a E => ?_
     refine eg (v := .int .i64 (m % 10080)) E (w_yes (g := 8) (s := 28) E rfl rfl (by decide) (E.get 1 rfl)) (run_irem (E.get 0 rfl) rfl (by omega) (by omega) (by omega) (by omega) rfl) fun a E => ?_
     refine eg (v := .slice (p0) l.length cp0) E (w_yes (g := 8) (s := 28) E rfl rfl (by decide) (E.get 2 rfl)) (run_move rfl (E.get 16 rfl)) fun a E => ?_
     refine eg (v := .int .i64 (i : Int)) E (w_yes (g := 8) (s := 28) E rfl rfl (by decide) (E.get 3 rfl)) (run_move rfl (E.get 16 rfl)) fun a E => ?_
     refine eg (v := .pointer (some ⟨g6, (off6 + i * 2), none⟩)) E (w_yes (g := 8) (s := 28) E rfl rfl (by decide) (E.get 4 rfl)) (run_index22 (i := i) rfl ((E.get 1 rfl).trans (by rw [hpe6])) (E.get 0 rfl) hlt) fun a E => ?_
     refine eg (v := .pointer (some ⟨g6, ((off6 + i * 2) + 1), none⟩)) E (w_yes (g := 8) (s := 28) E rfl rfl (by decide) (E.get 5 rfl)) (fa48_1 rfl (E.get 0 rfl)) fun a E => ?_
     refine eg (v := .int .i64 y.2) E (w_yes (g := 8) (s := 28) E rfl rfl (by decide) (E.get 6 rfl)) (run_ldi rfl (E.get 0 rfl) (hrow6 1 _ rfl)) fun a E => ?_
     refine eg (v := .bool (decide ((m % 10080) < y.2))) E (w_yes (g := 8) (s := 28) E rfl rfl (by decide) (E.get 7 rfl)) (run_ilss (E.get 5 rfl) (E.get 0 rfl) Tryz.underlying3 rfl) fun a E => ?_
     refine ep (v := .bool (decide ((m % 10080) < y.2))) E (run_pick_t rfl (E.get 8 rfl) (E.get 0 rfl)) fun a E => ?_
     refine wpList_nil ?_
     refine then_n ?_
     cases hq8 : (decide ((m % 10080) < y.2)) with
     | false =>
      rw [hq8] at E
      refine wp_cond_false (E.get 0 rfl) ?_
      refine wp_skip ?_
      refine blk_n ?_
      refine then_n ?_
      refine wp_region_lit ?_
      refine ep (v := .int .i64 (i : Int)) E (run_move rfl (E.get 22 rfl)) fun a E => ?_
      refine ep (v := .int .i64 ((i : Int) + 1)) E (run_iadd Tryz.underlying3 (E.get 0 rfl) rfl (by omega) (by omega) rfl) fun a E => ?_
      refine env_set (d := 5) (v := .int .i64 ((i : Int) + 1)) E rfl (by decide) (wanted_none rfl _) (run_assign rfl (E.get 0 rfl)) fun a E => ?_
      refine wpList_nil ?_
      refine then_n ?_
      have qhq5 := of_decide_eq_true hq5
      have qhq7 := of_decide_eq_true hq7
      have qhq8 := of_decide_eq_false hq8
      refine ⟨⟨i + 1, E.of ⟨E.get 0 rfl, E.get 25 rfl, E.get 26 rfl, trivial⟩, hlt, ?_, hsp0, hf⟩, ?_⟩
      ·rw [hv, drop_go hy, List.any_cons]
       have h9 : inB m y = false := by
        unfold inB; rw [Bool.eq_false_iff]; simp only [ne_eq, Bool.and_eq_true, decide_eq_true_eq]; omega
       rw [h9, Bool.false_or]
      ·rw [E.get 0 rfl]; simp only [intOf]; omega
     | true =>
      rw [hq8] at E
      refine wp_cond_true (E.get 0 rfl) ?_
      refine wp_seq ?_
      refine wp_region_lit ?_
      refine ep (v := .bool true) E (run_assign rfl rfl) fun a E => ?_
      refine wpList_nil ?_
      refine then_n ?_
      refine wp_ret ?_
      refine blk_r ?_
      refine then_r ?_
      refine then_r ?_
      refine blk_r ?_
      refine then_r ?_
      refine ret_tmp (t := 4) rfl E (E.get 0 rfl) ⟨?_, hf⟩
      unfold openB
      have qhq5 := of_decide_eq_true hq5
      have qhq7 := of_decide_eq_true hq7
      have qhq8 := of_decide_eq_true hq8
      rw [hvv, hmm, hv]
      rw [drop_go hy, List.any_cons]
      have h9 : inB m y = true := by
       unfold inB; simp only [Bool.and_eq_true, decide_eq_true_eq]; omega
      rw [h9]; rfl
theorem len0_eq {α : Type} (l : List α) : (((l.length : Int)) == 0) = l.isEmpty := by
 cases l <;> simp
 omega
theorem nextP_no1 {l : List Sp} {m : Int} (h : vl (-1) l = false) : nextP l m = (0, false) := by unfold nextP; rw [h]; rfl
theorem nextP_no2 {l : List Sp} {m : Int} (h : minuteB m = false) : nextP l m = (0, false) := by unfold nextP; rw [h]; simp
theorem nextP_no3 {l : List Sp} {m : Int} (h : l.isEmpty = true) : nextP l m = (0, false) := by unfold nextP; rw [h]; simp
theorem nextP_is {l : List Sp} {m : Int} (h1 : vl (-1) l = true) (h2 : minuteB m = true) (h3 : l.isEmpty = false) : nextP l m = (nextA l m, true) := by unfold nextP; rw [h1, h2, h3]; rfl
theorem nextA_find {l : List Sp} {m : Int} {s : Sp} (h : l.find? (fun s => decide (m % 10080 < s.2)) = some s) : nextA l m = m + max 0 (s.1 - m % 10080) := by unfold nextA; rw [h]
theorem nextA_none {l : List Sp} {m : Int} {s : Sp} (h : l.find? (fun s => decide (m % 10080 < s.2)) = none) (h0 : l[0]? = some s) : nextA l m = m - m % 10080 + 10080 + s.1 := by
 unfold nextA; rw [h]
 cases l with
 | nil => simp at h0
 | cons a l => simp at h0; subst h0; rfl
section
variable {P : Program} {a : Act} {w : World} {fn : Func} {R : Ending → World → Prop} {n : Nat} {L : List (Nat × Value)} {v u : Value}
theorem ret_tmp2 {t t2 : Tmp} (hr : fn.results = #[.tmp t, .tmp t2]) (E : Env n L a) (hv : a.eval (.tmp t) = v) (hu : a.eval (.tmp t2) = u) (h : R (.returned (.tuple #[v, u])) w) : bodyPost P fn R .ret a w := by
 refine ⟨E.df, .tuple #[v, u], ?_, h⟩
 unfold results
 rw [hr]
 have h1 : a.tmps.getD t undef = v := hv
 have h2 : a.tmps.getD t2 undef = u := hu
 rw [Array.getD_eq_getD_getElem?] at h1 h2
 simp [h1, h2, go_sem]
end
set_option maxRecDepth 100000 in
set_option maxHeartbeats 4000000 in
theorem rnext_calls {w : World} {v : Value} {l : List Sp} (hl : SpV w v l) (m : Int) : Calls Tryz.prog 27 #[v, .int .i64 m] w fun e w' => e = .returned (.tuple #[.int .i64 (nextP l m).1, .bool (nextP l m).2]) ∧ Fr (fun _ => False) w w' := by
 obtain ⟨p0, cp0, hvp0, hlep0, hcapp0, hsp0, hzp0⟩ := hl
 subst hvp0
 refine wp_start2 Tryz.func27 rfl rfl (n := 56) (by decide) fun a E => ?_
 have hf : Fr (fun _ => False) w w := Fr.refl _ _
 refine wp_seq ?_
 refine wp_region_lit ?_
 refine ep (v := .int .i64 0) E (run_assign rfl rfl) fun a E => ?_
 refine ep (v := .bool false) E (run_assign rfl rfl) fun a E => ?_
 refine wpList_nil ?_
 refine then_n ?_
 refine wp_seq ?_
 refine wp_seq ?_
 refine wp_region_lit ?_
 refine ep (v := .slice (p0) l.length cp0) E (run_move rfl (E.get 2 rfl)) fun a E => ?_
 refine env_call (d := 9) (v := .bool (vl (-1) l)) E rfl (by decide) rfl (wanted_none rfl _) (run_call1 (enters_of Tryz.func19 (by kernel_rfl) rfl) rfl rfl (E.get 0 rfl)) (rvalid_calls ⟨_, _, rfl, hlep0, hcapp0, hsp0.mono (by first | exact hf.size | omega), hzp0⟩) fun a w1 f1 E => ?_
 have hsp0 := srcAt.fr hsp0 f1 (fun r hr => id)
 have hf := hf.trans f1
 clear f1
 refine ep (v := .bool (!(vl (-1) l))) E (run_not rfl (E.get 0 rfl)) fun a E => ?_
 refine ep (v := .bool (!(vl (-1) l))) E (run_move rfl (E.get 0 rfl)) fun a E => ?_
 cases hq9 : (vl (-1) l) with
 | false =>
  rw [hq9] at E
  refine ek E rfl (E.get 0 rfl) fun a E => ?_
  refine ek E rfl (E.get 1 rfl) fun a E => ?_
  refine ek E rfl (E.get 2 rfl) fun a E => ?_
  refine ep (v := .bool true) E (run_pick_t rfl (E.get 3 rfl) rfl) fun a E => ?_
  refine ep (v := .bool true) E (run_move rfl (E.get 0 rfl)) fun a E => ?_
  refine ek E rfl (E.get 0 rfl) fun a E => ?_
  refine ek E rfl (E.get 1 rfl) fun a E => ?_
  refine ek E rfl (E.get 2 rfl) fun a E => ?_
  refine ep (v := .bool true) E (run_pick_t rfl (E.get 3 rfl) rfl) fun a E => ?_
  refine wpList_nil ?_
  refine then_n ?_
  refine wp_cond_true (E.get 0 rfl) ?_
  refine wp_seq ?_
  refine wp_region_lit ?_
  refine env_set (d := 4) (v := .int .i64 0) E rfl (by decide) (wanted_none rfl _) (run_assign rfl rfl) fun a E => ?_
  refine env_set (d := 5) (v := .bool false) E rfl (by decide) (wanted_none rfl _) (run_assign rfl rfl) fun a E => ?_
  refine wpList_nil ?_
  refine then_n ?_
  refine wp_ret ?_
  refine then_r ?_
  refine ret_tmp2 (t := 4) (t2 := 5) rfl E (E.get 1 rfl) (E.get 0 rfl) ⟨?_, hf⟩
  rw [nextP_no1 hq9]
 | true =>
  rw [hq9] at E
  refine eg (v := .int .i64 m) E (w_yes (g := 3) (s := 11) E rfl rfl (by decide) (E.get 0 rfl)) (run_move rfl (E.get 7 rfl)) fun a E => ?_
  refine env_call (d := 13) (v := .bool (minuteB m)) E rfl (by decide) rfl (w_yes (g := 3) (s := 11) E rfl rfl (by decide) (E.get 1 rfl)) (run_call1 (enters_of Tryz.func54 (by kernel_rfl) rfl) rfl rfl (E.get 0 rfl)) (minute_calls m _) fun a w1 f1 E => ?_
  have hsp0 := srcAt.fr hsp0 f1 (fun r hr => id)
  have hf := hf.trans f1
  clear f1
  refine eg (v := .bool (!(minuteB m))) E (w_yes (g := 3) (s := 11) E rfl rfl (by decide) (E.get 2 rfl)) (run_not rfl (E.get 0 rfl)) fun a E => ?_
  refine ep (v := .bool (!(minuteB m))) E (run_pick_f rfl (E.get 3 rfl) (E.get 0 rfl)) fun a E => ?_
  refine ep (v := .bool (!(minuteB m))) E (run_move rfl (E.get 0 rfl)) fun a E => ?_
  cases hq10 : (minuteB m) with
  | false =>
   rw [hq10] at E
   refine ek E rfl (E.get 0 rfl) fun a E => ?_
   refine ek E rfl (E.get 1 rfl) fun a E => ?_
   refine ek E rfl (E.get 2 rfl) fun a E => ?_
   refine ep (v := .bool true) E (run_pick_t rfl (E.get 3 rfl) rfl) fun a E => ?_
   refine wpList_nil ?_
   refine then_n ?_
   refine wp_cond_true (E.get 0 rfl) ?_
   refine wp_seq ?_
   refine wp_region_lit ?_
   refine env_set (d := 4) (v := .int .i64 0) E rfl (by decide) (wanted_none rfl _) (run_assign rfl rfl) fun a E => ?_
   refine env_set (d := 5) (v := .bool false) E rfl (by decide) (wanted_none rfl _) (run_assign rfl rfl) fun a E => ?_
   refine wpList_nil ?_
   refine then_n ?_
   refine wp_ret ?_
   refine then_r ?_
   refine ret_tmp2 (t := 4) (t2 := 5) rfl E (E.get 1 rfl) (E.get 0 rfl) ⟨?_, hf⟩
   rw [nextP_no2 hq10]
  | true =>
   rw [hq10] at E
   refine eg (v := .slice (p0) l.length cp0) E (w_yes (g := 8) (s := 16) E rfl rfl (by decide) (E.get 0 rfl)) (run_move rfl (E.get 11 rfl)) fun a E => ?_
   refine eg (v := .int .i64 (l.length : Int)) E (w_yes (g := 8) (s := 16) E rfl rfl (by decide) (E.get 1 rfl)) (run_len22 rfl (E.get 0 rfl)) fun a E => ?_
   refine eg (v := .bool ((l.length : Int) == 0)) E (w_yes (g := 8) (s := 16) E rfl rfl (by decide) (E.get 2 rfl)) (run_ieql (E.get 0 rfl) rfl Tryz.underlying3 rfl) fun a E => ?_
   refine ep (v := .bool ((l.length : Int) == 0)) E (run_pick_f rfl (E.get 3 rfl) (E.get 0 rfl)) fun a E => ?_
   refine wpList_nil ?_
   refine then_n ?_
   cases hq11 : ((l.length : Int) == 0) with
   | false =>
    rw [hq11] at E
    refine wp_cond_false (E.get 0 rfl) ?_
    refine wp_skip ?_
    refine then_n ?_
    refine wp_seq ?_
    have hvv := hq9
    have hmm : minuteB m = true := hq10
    have hm9 := hmm
    unfold minuteB at hm9
    simp only [Bool.and_eq_true, decide_eq_true_eq] at hm9
    have hne : l.isEmpty = false := by rw [← len0_eq]; exact hq11
    have hmod0 := Int.emod_nonneg m (show (10080 : Int) ≠ 0 by omega)
    have hmod1 := Int.emod_lt_of_pos m (show (0 : Int) < 10080 by omega)
    have hw := vl_wk (Int.le_refl _) hvv
    have hlen : 0 < l.length := by cases l with | nil => cases hne | cons => simp
    refine wp_region_lit ?_
    refine ep (v := .int .i64 m) E (run_move rfl (E.get 16 rfl)) fun a E => ?_
    refine ep (v := .int .i64 (m % 10080)) E (run_irem (E.get 0 rfl) rfl (by omega) (by omega) (by omega) (by omega) rfl) fun a E => ?_
    refine ep (v := .int .i64 (m % 10080)) E (run_assign rfl (E.get 0 rfl)) fun a E => ?_
    refine wpList_nil ?_
    refine then_n ?_
    refine wp_seq ?_
    refine wp_seq ?_
    refine wp_region_lit ?_
    refine ep (v := .int .i64 0) E (run_assign rfl rfl) fun a E => ?_
    refine wpList_nil ?_
    refine then_n ?_
    refine wp_block ?_
    refine wp_loop (fun a w2 => ∃ (i : Nat), Env 56 [(7, .int .i64 (i : Int)), (6, .int .i64 (m % 10080)), (0, .slice (p0) l.length cp0), (1, .int .i64 m)] a ∧ i ≤ l.length ∧ l.find? (fun s => decide (m % 10080 < s.2)) = (l.drop i).find? (fun s => decide (m % 10080 < s.2)) ∧ srcAt spL 2 w2 w.heap.size p0 l ∧ Fr (fun _ => False) w w2) (fun a _ => l.length - (intOf (a.eval (.tmp 7))).toNat) ?_ ?_
    ·exact ⟨0, E.of ⟨E.get 0 rfl, E.get 1 rfl, E.get 19 rfl, E.get 20 rfl, trivial⟩, Nat.zero_le _, rfl, hsp0, hf⟩
    clear E
    rintro a w2 ⟨i, E, hi, hv, hsp0, hf⟩
    have hmu : l.length - (intOf (a.eval (.tmp 7))).toNat = l.length - i := by rw [E.get 0 rfl]; first | rfl | (simp [intOf]; done) | (simp only [intOf]; omega)
    rw [hmu]
    clear hmu
    refine wp_seq ?_
    refine wp_seq ?_
    refine wp_region_lit ?_
    refine ep (v := .int .i64 (i : Int)) E (run_move rfl (E.get 0 rfl)) fun a E => ?_
    refine ep (v := .slice (p0) l.length cp0) E (run_move rfl (E.get 3 rfl)) fun a E => ?_
    refine ep (v := .int .i64 (l.length : Int)) E (run_len22 rfl (E.get 0 rfl)) fun a E => ?_
    refine ep (v := .bool (decide ((i : Int) < (l.length : Int)))) E (run_ilss (E.get 2 rfl) (E.get 0 rfl) Tryz.underlying3 rfl) fun a E => ?_
    refine wpList_nil ?_
    refine then_n ?_
    cases hq13 : (decide ((i : Int) < (l.length : Int))) with
    | false =>
     rw [hq13] at E
     have hie : i = l.length := by have := of_decide_eq_false hq13; omega
     refine wp_cond_false (E.get 0 rfl) ?_
     refine wp_exit ?_
     refine then_e ?_
     refine then_e ?_
     refine blk_e ?_
     refine then_n ?_
     refine wp_seq ?_
     obtain ⟨z, hz⟩ : ∃ y, l[0]? = some y := ⟨_, List.getElem?_eq_getElem hlen⟩
     obtain ⟨g14, off14, hpe14, hgl14, hrow14⟩ := hsp0.at hlen
     replace hrow14 := hrow14 0 z hz
     have hwz := hw z (List.mem_of_getElem? hz)
     refine wp_region_lit ?_
     refine ep (v := .int .i64 m) E (run_move rfl (E.get 7 rfl)) fun a E => ?_
     refine ep (v := .int .i64 (m % 10080)) E (run_move rfl (E.get 6 rfl)) fun a E => ?_
     refine ep (v := .int .i64 (m - (m % 10080))) E (run_isub Tryz.underlying3 (E.get 1 rfl) (E.get 0 rfl) (by omega) (by omega) rfl) fun a E => ?_
     refine ep (v := .int .i64 ((m - (m % 10080)) + 10080)) E (run_iadd Tryz.underlying3 (E.get 0 rfl) rfl (by omega) (by omega) rfl) fun a E => ?_
     refine ep (v := .slice (p0) l.length cp0) E (run_move rfl (E.get 10 rfl)) fun a E => ?_
     refine ep (v := .pointer (some ⟨g14, (off14 + 0 * 2), none⟩)) E (run_index22 (i := 0) rfl ((E.get 0 rfl).trans (by rw [hpe14])) rfl hlen) fun a E => ?_
     refine ep (v := .pointer (some ⟨g14, ((off14 + 0 * 2) + 0), none⟩)) E (fa48_0 rfl (E.get 0 rfl)) fun a E => ?_
     refine ep (v := .int .i64 z.1) E (run_ldi rfl (E.get 0 rfl) (hrow14 0 _ rfl)) fun a E => ?_
     refine ep (v := .int .i64 (((m - (m % 10080)) + 10080) + z.1)) E (run_iadd Tryz.underlying3 (E.get 4 rfl) (E.get 0 rfl) (by omega) (by omega) rfl) fun a E => ?_
     refine ep (v := .int .i64 (((m - (m % 10080)) + 10080) + z.1)) E (run_assign rfl (E.get 0 rfl)) fun a E => ?_
     refine ep (v := .bool true) E (run_assign rfl rfl) fun a E => ?_
     refine wpList_nil ?_
     refine then_n ?_
     refine wp_ret ?_
     refine ret_tmp2 (t := 4) (t2 := 5) rfl E (E.get 1 rfl) (E.get 0 rfl) ⟨?_, hf⟩
     have qhq11 := hq11; simp only [beq_iff_eq, bne_iff_ne, beq_eq_false_iff_ne, bne_eq_false_iff_eq, ne_eq] at qhq11
     have qhq13 := of_decide_eq_false hq13
     rw [nextP_is hvv hmm hne]
     rw [nextA_none (s := z) (by rw [hv, hie, List.drop_length]; rfl) hz]
    | true =>
     rw [hq13] at E
     have hlt : i < l.length := by have := of_decide_eq_true hq13; omega
     obtain ⟨y, hy⟩ : ∃ y, l[i]? = some y := ⟨_, List.getElem?_eq_getElem hlt⟩
     obtain ⟨g15, off15, hpe15, hgl15, hrow15⟩ := hsp0.at hlt
     replace hrow15 := hrow15 i y hy
     have hwy := hw y (List.mem_of_getElem? hy)
     refine wp_cond_true (E.get 0 rfl) ?_
     refine wp_skip ?_
     refine then_n ?_
     refine wp_seq ?_
     refine wp_block ?_
     refine wp_seq ?_
     refine wp_region_lit ?_
     refine ep (v := .int .i64 (m % 10080)) E (run_move rfl (E.get 5 rfl)) fun a E => ?_
     refine ep (v := .slice (p0) l.length cp0) E (run_move rfl (E.get 7 rfl)) fun a E => ?_
     refine ep (v := .int .i64 (i : Int)) E (run_move rfl (E.get 6 rfl)) fun a E => ?_
     refine ep (v := .pointer (some ⟨g15, (off15 + i * 2), none⟩)) E (run_index22 (i := i) rfl ((E.get 1 rfl).trans (by rw [hpe15])) (E.get 0 rfl) hlt) fun a E => ?_
     refine ep (v := .pointer (some ⟨g15, ((off15 + i * 2) + 1), none⟩)) E (fa48_1 rfl (E.get 0 rfl)) fun a E => ?_
     refine ep (v := .int .i64 y.2) E (run_ldi rfl (E.get 0 rfl) (hrow15 1 _ rfl)) fun a E => ?_
     refine ep (v := .bool (decide ((m % 10080) < y.2))) E (run_ilss (E.get 5 rfl) (E.get 0 rfl) Tryz.underlying3 rfl) fun a E => ?_
     refine wpList_nil ?_
     refine then_n ?_
     cases hq16 : (decide ((m % 10080) < y.2)) with
     | false =>
      rw [hq16] at E
      refine wp_cond_false (E.get 0 rfl) ?_
      refine wp_skip ?_
      refine blk_n ?_
      refine then_n ?_
      refine wp_region_lit ?_
      refine ep (v := .int .i64 (i : Int)) E (run_move rfl (E.get 11 rfl)) fun a E => ?_
      refine ep (v := .int .i64 ((i : Int) + 1)) E (run_iadd Tryz.underlying3 (E.get 0 rfl) rfl (by omega) (by omega) rfl) fun a E => ?_
      refine env_set (d := 7) (v := .int .i64 ((i : Int) + 1)) E rfl (by decide) (wanted_none rfl _) (run_assign rfl (E.get 0 rfl)) fun a E => ?_
      refine wpList_nil ?_
      refine then_n ?_
      have qhq11 := hq11; simp only [beq_iff_eq, bne_iff_ne, beq_eq_false_iff_ne, bne_eq_false_iff_eq, ne_eq] at qhq11
      have qhq13 := of_decide_eq_true hq13
      have qhq16 := of_decide_eq_false hq16
      refine ⟨⟨i + 1, E.of ⟨E.get 0 rfl, E.get 14 rfl, E.get 15 rfl, E.get 16 rfl, trivial⟩, hlt, ?_, hsp0, hf⟩, ?_⟩
      ·rw [hv, drop_go hy, List.find?_cons_of_neg (by simp only [decide_eq_true_eq]; omega)]
      ·rw [E.get 0 rfl]; simp only [intOf]; omega
     | true =>
      rw [hq16] at E
      refine wp_cond_true (E.get 0 rfl) ?_
      refine wp_seq ?_
      refine wp_region_lit ?_
      refine ep (v := .int .i64 m) E (run_move rfl (E.get 14 rfl)) fun a E => ?_
      refine ep (v := .int .i64 (m % 10080)) E (run_move rfl (E.get 13 rfl)) fun a E => ?_
      refine ep (v := .int .i64 (m - (m % 10080))) E (run_isub Tryz.underlying3 (E.get 1 rfl) (E.get 0 rfl) (by omega) (by omega) rfl) fun a E => ?_
      refine ep (v := .int .i64 (m % 10080)) E (run_move rfl (E.get 15 rfl)) fun a E => ?_
      refine ep (v := .slice (p0) l.length cp0) E (run_move rfl (E.get 17 rfl)) fun a E => ?_
      refine ep (v := .int .i64 (i : Int)) E (run_move rfl (E.get 16 rfl)) fun a E => ?_
      refine ep (v := .pointer (some ⟨g15, (off15 + i * 2), none⟩)) E (run_index22 (i := i) rfl ((E.get 1 rfl).trans (by rw [hpe15])) (E.get 0 rfl) hlt) fun a E => ?_
      refine ep (v := .pointer (some ⟨g15, ((off15 + i * 2) + 0), none⟩)) E (fa48_0 rfl (E.get 0 rfl)) fun a E => ?_
      refine ep (v := .int .i64 y.1) E (run_ldi rfl (E.get 0 rfl) (hrow15 0 _ rfl)) fun a E => ?_
      refine ep (v := .int .i64 (max (m % 10080) y.1)) E (run_max rfl (E.get 5 rfl) (E.get 0 rfl)) fun a E => ?_
      refine ep (v := .int .i64 ((m - (m % 10080)) + (max (m % 10080) y.1))) E (run_iadd Tryz.underlying3 (E.get 7 rfl) (E.get 0 rfl) (by omega) (by omega) rfl) fun a E => ?_
      refine ep (v := .int .i64 ((m - (m % 10080)) + (max (m % 10080) y.1))) E (run_assign rfl (E.get 0 rfl)) fun a E => ?_
      refine ep (v := .bool true) E (run_assign rfl rfl) fun a E => ?_
      refine wpList_nil ?_
      refine then_n ?_
      refine wp_ret ?_
      refine blk_r ?_
      refine then_r ?_
      refine then_r ?_
      refine blk_r ?_
      refine then_r ?_
      refine ret_tmp2 (t := 4) (t2 := 5) rfl E (E.get 1 rfl) (E.get 0 rfl) ⟨?_, hf⟩
      have qhq11 := hq11; simp only [beq_iff_eq, bne_iff_ne, beq_eq_false_iff_ne, bne_eq_false_iff_eq, ne_eq] at qhq11
      have qhq13 := of_decide_eq_true hq13
      have qhq16 := of_decide_eq_true hq16
      rw [nextP_is hvv hmm hne]
      rw [nextA_find (s := y) (by rw [hv, drop_go hy, List.find?_cons_of_pos (by simp only [decide_eq_true_eq]; omega)])]
      have e : m - m % 10080 + max (m % 10080) y.1 = m + max 0 (y.1 - m % 10080) := by omega
      rw [e]
   | true =>
    rw [hq11] at E
    refine wp_cond_true (E.get 0 rfl) ?_
    refine wp_seq ?_
    refine wp_region_lit ?_
    refine env_set (d := 4) (v := .int .i64 0) E rfl (by decide) (wanted_none rfl _) (run_assign rfl rfl) fun a E => ?_
    refine env_set (d := 5) (v := .bool false) E rfl (by decide) (wanted_none rfl _) (run_assign rfl rfl) fun a E => ?_
    refine wpList_nil ?_
    refine then_n ?_
    refine wp_ret ?_
    refine then_r ?_
    refine ret_tmp2 (t := 4) (t2 := 5) rfl E (E.get 1 rfl) (E.get 0 rfl) ⟨?_, hf⟩
    rw [nextP_no3 (by rw [← len0_eq]; exact hq11)]
end Go.Proofs.YtjaffpnegdcjnaaGreatDoor
