/- Next, Open. -/
import Derived.Test.YtjaffpnegdcjnaaGreatDoorSA3
set_option linter.unusedVariables false
set_option linter.unusedSimpArgs false
namespace Go.Proofs.YtjaffpnegdcjnaaGreatDoor
open Go.RowKit Go.Pl
theorem find_at {l : List Sp} {m : Int} {i : Nat} {y : Sp} (hA : ∀ j z, j < i → l[j]? = some z → z.2 ≤ m) (hy : l[i]? = some y) (h : m < y.2) : l.find? (fun s => decide (m < s.2)) = some y := by
 have hi := (List.getElem?_eq_some_iff.1 hy).1
 rw [List.find?_eq_some_iff_getElem]
 refine ⟨decide_eq_true h, i, hi, (List.getElem?_eq_some_iff.1 hy).2, fun j hj => ?_⟩
 have := hA j l[j] hj (List.getElem?_eq_getElem (by omega))
 simp only [Bool.not_eq_true', decide_eq_false_iff_not]; omega
theorem find_no {l : List Sp} {m : Int} (hA : ∀ j z, j < l.length → l[j]? = some z → z.2 ≤ m) : l.find? (fun s => decide (m < s.2)) = none := by
 rw [List.find?_eq_none]
 intro s hs
 obtain ⟨j, hj, rfl⟩ := List.mem_iff_getElem.1 hs
 have := hA j l[j] hj (List.getElem?_eq_getElem hj)
 simp only [decide_eq_true_eq]; omega
set_option maxRecDepth 100000 in
set_option maxHeartbeats 4000000 in
theorem next_calls {w : World} {v : Value} {l : List Sp} (hl : SpV w v l) (hlen0 : l.length ≤ 20000) (m : Int) : Calls Tryz.prog 21 #[v, .int .i64 m] w fun e w' => e = .returned (.tuple #[.int .i64 (nextP l m).1, .bool (nextP l m).2]) ∧ Fr (fun _ => False) w w' := by
 obtain ⟨p0, cp0, hvp0, hlep0, hcapp0, hsp0, hzp0⟩ := hl
 subst hvp0
 refine wp_start2 Tryz.func21 rfl rfl (n := 56) (by decide) fun a E => ?_
 have hf : Fr (fun _ => False) w w := Fr.refl _ _
 refine wp_seq ?_
 refine wp_region_lit ?_
 refine ep (v := .int .i64 0) E (run_assign rfl rfl) fun a E => ?_
 refine ep (v := .bool false) E (run_assign rfl rfl) fun a E => ?_
 refine wpList_nil ?_
 refine then_n ?_
 refine wp_seq ?_
 refine wp_seq ?_
 refine wp_region_lit ?_
 refine ep (v := .slice (p0) l.length cp0) E (run_move rfl (E.get 2 rfl)) fun a E => ?_
 refine env_call (d := 10) (v := .bool (vl (-1) l)) E rfl (by decide) rfl (wanted_none rfl _) (run_call1 (enters_of Tryz.func18 (by kernel_rfl) rfl) rfl rfl (E.get 0 rfl)) (valid_calls ⟨_, _, rfl, hlep0, hcapp0, hsp0.mono (by first | exact hf.size | omega), hzp0⟩) fun a w1 f1 E => ?_
 have hsp0 := srcAt.fr hsp0 f1 (fun r hr => id)
 have hf := hf.trans f1
 clear f1
 refine ep (v := .bool (!(vl (-1) l))) E (run_not rfl (E.get 0 rfl)) fun a E => ?_
 refine ep (v := .bool (!(vl (-1) l))) E (run_move rfl (E.get 0 rfl)) fun a E => ?_
 cases hq1 : (vl (-1) l) with
 | false =>
  rw [hq1] at E
  refine ek E rfl (E.get 0 rfl) fun a E => ?_
  refine ek E rfl (E.get 1 rfl) fun a E => ?_
  refine ek E rfl (E.get 2 rfl) fun a E => ?_
  refine ep (v := .bool true) E (run_pick_t rfl (E.get 3 rfl) rfl) fun a E => ?_
  refine ep (v := .bool true) E (run_move rfl (E.get 0 rfl)) fun a E => ?_
  refine ek E rfl (E.get 0 rfl) fun a E => ?_
  refine ek E rfl (E.get 1 rfl) fun a E => ?_
  refine ep (v := .bool true) E (run_pick_t rfl (E.get 2 rfl) rfl) fun a E => ?_
  refine ep (v := .bool true) E (run_move rfl (E.get 0 rfl)) fun a E => ?_
  refine ek E rfl (E.get 0 rfl) fun a E => ?_
  refine ek E rfl (E.get 1 rfl) fun a E => ?_
  refine ep (v := .bool true) E (run_pick_t rfl (E.get 2 rfl) rfl) fun a E => ?_
  refine wpList_nil ?_
  refine then_n ?_
  refine wp_cond_true (E.get 0 rfl) ?_
  refine wp_seq ?_
  refine wp_region_lit ?_
  refine env_set (d := 4) (v := .int .i64 0) E rfl (by decide) (wanted_none rfl _) (run_assign rfl rfl) fun a E => ?_
  refine env_set (d := 5) (v := .bool false) E rfl (by decide) (wanted_none rfl _) (run_assign rfl rfl) fun a E => ?_
  refine wpList_nil ?_
  refine then_n ?_
  refine wp_ret ?_
  refine then_r ?_
  refine ret_tmp2 (t := 4) (t2 := 5) rfl E (E.get 1 rfl) (E.get 0 rfl) ⟨?_, hf⟩
  rw [nextP_no1 hq1]
 | true =>
  rw [hq1] at E
  refine eg (v := .slice (p0) l.length cp0) E (w_yes (g := 3) (s := 12) E rfl rfl (by decide) (E.get 0 rfl)) (run_move rfl (E.get 6 rfl)) fun a E => ?_
  refine eg (v := .int .i64 (l.length : Int)) E (w_yes (g := 3) (s := 12) E rfl rfl (by decide) (E.get 1 rfl)) (run_len22 rfl (E.get 0 rfl)) fun a E => ?_
  refine eg (v := .bool ((l.length : Int) == 0)) E (w_yes (g := 3) (s := 12) E rfl rfl (by decide) (E.get 2 rfl)) (run_ieql (E.get 0 rfl) rfl Tryz.underlying3 rfl) fun a E => ?_
  refine ep (v := .bool ((l.length : Int) == 0)) E (run_pick_f rfl (E.get 3 rfl) (E.get 0 rfl)) fun a E => ?_
  refine ep (v := .bool ((l.length : Int) == 0)) E (run_move rfl (E.get 0 rfl)) fun a E => ?_
  cases hq2 : ((l.length : Int) == 0) with
  | false =>
   rw [hq2] at E
   refine eg (v := .int .i64 m) E (w_yes (g := 8) (s := 17) E rfl rfl (by decide) (E.get 0 rfl)) (run_move rfl (E.get 12 rfl)) fun a E => ?_
   refine eg (v := .bool (decide (m < 0))) E (w_yes (g := 8) (s := 17) E rfl rfl (by decide) (E.get 1 rfl)) (run_ilss (E.get 0 rfl) rfl Tryz.underlying3 rfl) fun a E => ?_
   refine ep (v := .bool (decide (m < 0))) E (run_pick_f rfl (E.get 2 rfl) (E.get 0 rfl)) fun a E => ?_
   refine ep (v := .bool (decide (m < 0))) E (run_move rfl (E.get 0 rfl)) fun a E => ?_
   cases hq3 : (decide (m < 0)) with
   | false =>
    rw [hq3] at E
    refine eg (v := .int .i64 m) E (w_yes (g := 12) (s := 21) E rfl rfl (by decide) (E.get 0 rfl)) (run_move rfl (E.get 16 rfl)) fun a E => ?_
    refine eg (v := .bool (decide (1000000000 < m))) E (w_yes (g := 12) (s := 21) E rfl rfl (by decide) (E.get 1 rfl)) (run_igtr (E.get 0 rfl) rfl Tryz.underlying3 rfl) fun a E => ?_
    refine ep (v := .bool (decide (1000000000 < m))) E (run_pick_f rfl (E.get 2 rfl) (E.get 0 rfl)) fun a E => ?_
    refine wpList_nil ?_
    refine then_n ?_
    cases hq4 : (decide (1000000000 < m)) with
    | false =>
     rw [hq4] at E
     refine wp_cond_false (E.get 0 rfl) ?_
     refine wp_skip ?_
     refine then_n ?_
     refine wp_seq ?_
     have hvv := hq1
     have hm0 := of_decide_eq_false hq3
     have hm1 := of_decide_eq_false hq4
     have hmm : minuteB m = true := by unfold minuteB; simp only [Bool.and_eq_true, decide_eq_true_eq]; omega
     have hne : l.isEmpty = false := by rw [← len0_eq]; exact hq2
     have hmod0 := Int.emod_nonneg m (show (10080 : Int) ≠ 0 by omega)
     have hmod1 := Int.emod_lt_of_pos m (show (0 : Int) < 10080 by omega)
     have hw := vl_wk (Int.le_refl _) hvv
     have hlen : 0 < l.length := by cases l with | nil => cases hne | cons => simp
     refine wp_region_lit ?_
     refine ep (v := .int .i64 m) E (run_move rfl (E.get 19 rfl)) fun a E => ?_
     refine ep (v := .int .i64 (m % 10080)) E (run_irem (E.get 0 rfl) rfl (by omega) (by omega) (by omega) (by omega) rfl) fun a E => ?_
     refine ep (v := .int .i64 (m % 10080)) E (run_assign rfl (E.get 0 rfl)) fun a E => ?_
     refine wpList_nil ?_
     refine then_n ?_
     refine wp_seq ?_
     refine wp_region_lit ?_
     refine ep (v := .slice (p0) l.length cp0) E (run_move rfl (E.get 21 rfl)) fun a E => ?_
     refine ep (v := .int .i64 (m % 10080)) E (run_move rfl (E.get 1 rfl)) fun a E => ?_
     refine env_callv (d := 30) (R := fun u w8 => ∃ (i : Nat) (b : Bool), u = .tuple #[.int .i64 i, .bool b] ∧ i ≤ l.length ∧ (∀ j z, j < i → l[j]? = some z → z.2 ≤ m % 10080) ∧ (∀ j z, i ≤ j → l[j]? = some z → m % 10080 < z.2) ∧ Fr (fun _ => False) w1 w8) E rfl (by decide) rfl (wanted_none rfl _) (run_call3 (enters_of Tryz.func49 (by kernel_rfl) rfl) rfl rfl (E.get 1 rfl) (E.get 0 rfl) rfl) ((search_calls ⟨_, _, rfl, hlep0, hcapp0, hsp0.mono (by first | exact hf.size | omega), hzp0⟩ hvv hlen0 (by omega) (by omega)).mono fun e w8 h => by obtain ⟨i, b, rfl, h⟩ := h; exact ⟨_, rfl, i, b, rfl, h⟩) fun a w1 u ⟨i, b, hu, hil, hA, hB, f1⟩ E => ?_
     subst hu
     have hsp0 := srcAt.fr hsp0 f1 (fun r hr => id)
     have hf := hf.trans f1
     clear f1
     refine ep (v := .tuple #[.int .i64 (i : Int), .bool b]) E (run_move rfl (E.get 0 rfl)) fun a E => ?_
     refine ep (v := .int .i64 (i : Int)) E (run_ext0 rfl (E.get 0 rfl)) fun a E => ?_
     refine ep (v := .bool b) E (run_ext1 rfl (E.get 1 rfl)) fun a E => ?_
     refine ep (v := .int .i64 (i : Int)) E (run_assign rfl (E.get 1 rfl)) fun a E => ?_
     refine ep (v := .bool b) E (run_assign rfl (E.get 1 rfl)) fun a E => ?_
     refine wpList_nil ?_
     refine then_n ?_
     refine wp_seq ?_
     refine wp_seq ?_
     refine wp_region_lit ?_
     refine ep (v := .int .i64 (i : Int)) E (run_move rfl (E.get 1 rfl)) fun a E => ?_
     refine ep (v := .slice (p0) l.length cp0) E (run_move rfl (E.get 30 rfl)) fun a E => ?_
     refine ep (v := .int .i64 (l.length : Int)) E (run_len22 rfl (E.get 0 rfl)) fun a E => ?_
     refine ep (v := .bool ((i : Int) == (l.length : Int))) E (run_ieql (E.get 2 rfl) (E.get 0 rfl) Tryz.underlying3 rfl) fun a E => ?_
     refine wpList_nil ?_
     refine then_n ?_
     cases hq5 : ((i : Int) == (l.length : Int)) with
     | false =>
      rw [hq5] at E
      have hlt : i < l.length := by have := hq5; rw [beq_eq_false_iff_ne] at this; omega
      obtain ⟨y, hy⟩ : ∃ y, l[i]? = some y := ⟨_, List.getElem?_eq_getElem hlt⟩
      obtain ⟨g6, off6, hpe6, hgl6, hrow6⟩ := hsp0.at hlt
      replace hrow6 := hrow6 i y hy
      have hwy := hw y (List.mem_of_getElem? hy)
      refine wp_cond_false (E.get 0 rfl) ?_
      refine wp_skip ?_
      refine then_n ?_
      refine wp_seq ?_
      refine wp_region_lit ?_
      refine ep (v := .int .i64 m) E (run_move rfl (E.get 34 rfl)) fun a E => ?_
      refine ep (v := .slice (p0) l.length cp0) E (run_move rfl (E.get 34 rfl)) fun a E => ?_
      refine ep (v := .int .i64 (i : Int)) E (run_move rfl (E.get 7 rfl)) fun a E => ?_
      refine ep (v := .pointer (some ⟨g6, (off6 + i * 2), none⟩)) E (run_index22 (i := i) rfl ((E.get 1 rfl).trans (by rw [hpe6])) (E.get 0 rfl) hlt) fun a E => ?_
      refine ep (v := .pointer (some ⟨g6, ((off6 + i * 2) + 0), none⟩)) E (fa48_0 rfl (E.get 0 rfl)) fun a E => ?_
      refine ep (v := .int .i64 y.1) E (run_ldi rfl (E.get 0 rfl) (hrow6 0 _ rfl)) fun a E => ?_
      refine ep (v := .int .i64 (m % 10080)) E (run_move rfl (E.get 18 rfl)) fun a E => ?_
      refine ep (v := .int .i64 (y.1 - (m % 10080))) E (run_isub Tryz.underlying3 (E.get 1 rfl) (E.get 0 rfl) (by omega) (by omega) rfl) fun a E => ?_
      refine ep (v := .int .i64 (max 0 (y.1 - (m % 10080)))) E (run_max rfl rfl (E.get 0 rfl)) fun a E => ?_
      refine ep (v := .int .i64 (m + (max 0 (y.1 - (m % 10080))))) E (run_iadd Tryz.underlying3 (E.get 8 rfl) (E.get 0 rfl) (by omega) (by omega) rfl) fun a E => ?_
      refine env_set (d := 4) (v := .int .i64 (m + (max 0 (y.1 - (m % 10080))))) E rfl (by decide) (wanted_none rfl _) (run_assign rfl (E.get 0 rfl)) fun a E => ?_
      refine env_set (d := 5) (v := .bool true) E rfl (by decide) (wanted_none rfl _) (run_assign rfl rfl) fun a E => ?_
      refine wpList_nil ?_
      refine then_n ?_
      refine wp_ret ?_
      refine ret_tmp2 (t := 4) (t2 := 5) rfl E (E.get 1 rfl) (E.get 0 rfl) ⟨?_, hf⟩
      rw [nextP_is hvv hmm hne]
      rw [nextA_find (find_at hA hy (hB i y (Nat.le_refl _) hy))]
     | true =>
      rw [hq5] at E
      have hie : i = l.length := by have := hq5; rw [beq_iff_eq] at this; omega
      obtain ⟨z, hz⟩ : ∃ y, l[0]? = some y := ⟨_, List.getElem?_eq_getElem hlen⟩
      obtain ⟨g7, off7, hpe7, hgl7, hrow7⟩ := hsp0.at hlen
      replace hrow7 := hrow7 0 z hz
      have hwz := hw z (List.mem_of_getElem? hz)
      refine wp_cond_true (E.get 0 rfl) ?_
      refine wp_seq ?_
      refine wp_region_lit ?_
      refine ep (v := .int .i64 m) E (run_move rfl (E.get 34 rfl)) fun a E => ?_
      refine ep (v := .int .i64 (m % 10080)) E (run_move rfl (E.get 13 rfl)) fun a E => ?_
      refine ep (v := .int .i64 (m - (m % 10080))) E (run_isub Tryz.underlying3 (E.get 1 rfl) (E.get 0 rfl) (by omega) (by omega) rfl) fun a E => ?_
      refine ep (v := .int .i64 ((m - (m % 10080)) + 10080)) E (run_iadd Tryz.underlying3 (E.get 0 rfl) rfl (by omega) (by omega) rfl) fun a E => ?_
      refine ep (v := .slice (p0) l.length cp0) E (run_move rfl (E.get 37 rfl)) fun a E => ?_
      refine ep (v := .pointer (some ⟨g7, (off7 + 0 * 2), none⟩)) E (run_index22 (i := 0) rfl ((E.get 0 rfl).trans (by rw [hpe7])) rfl hlen) fun a E => ?_
      refine ep (v := .pointer (some ⟨g7, ((off7 + 0 * 2) + 0), none⟩)) E (fa48_0 rfl (E.get 0 rfl)) fun a E => ?_
      refine ep (v := .int .i64 z.1) E (run_ldi rfl (E.get 0 rfl) (hrow7 0 _ rfl)) fun a E => ?_
      refine ep (v := .int .i64 (((m - (m % 10080)) + 10080) + z.1)) E (run_iadd Tryz.underlying3 (E.get 4 rfl) (E.get 0 rfl) (by omega) (by omega) rfl) fun a E => ?_
      refine env_set (d := 4) (v := .int .i64 (((m - (m % 10080)) + 10080) + z.1)) E rfl (by decide) (wanted_none rfl _) (run_assign rfl (E.get 0 rfl)) fun a E => ?_
      refine env_set (d := 5) (v := .bool true) E rfl (by decide) (wanted_none rfl _) (run_assign rfl rfl) fun a E => ?_
      refine wpList_nil ?_
      refine then_n ?_
      refine wp_ret ?_
      refine then_r ?_
      refine ret_tmp2 (t := 4) (t2 := 5) rfl E (E.get 1 rfl) (E.get 0 rfl) ⟨?_, hf⟩
      rw [nextP_is hvv hmm hne]
      rw [nextA_none (find_no (by rw [← hie]; exact hA)) hz]
    | true =>
     rw [hq4] at E
     refine wp_cond_true (E.get 0 rfl) ?_
     refine wp_seq ?_
     refine wp_region_lit ?_
     refine env_set (d := 4) (v := .int .i64 0) E rfl (by decide) (wanted_none rfl _) (run_assign rfl rfl) fun a E => ?_
     refine env_set (d := 5) (v := .bool false) E rfl (by decide) (wanted_none rfl _) (run_assign rfl rfl) fun a E => ?_
     refine wpList_nil ?_
     refine then_n ?_
     refine wp_ret ?_
     refine then_r ?_
     refine ret_tmp2 (t := 4) (t2 := 5) rfl E (E.get 1 rfl) (E.get 0 rfl) ⟨?_, hf⟩
     have qhq2 := hq2; simp only [beq_iff_eq, bne_iff_ne, beq_eq_false_iff_ne, bne_eq_false_iff_eq, ne_eq] at qhq2
     have qhq3 := of_decide_eq_false hq3
     have qhq4 := of_decide_eq_true hq4
     rw [nextP_no2 (by unfold minuteB; rw [Bool.eq_false_iff]; simp only [ne_eq, Bool.and_eq_true, decide_eq_true_eq]; omega)]
   | true =>
    rw [hq3] at E
    refine ek E rfl (E.get 0 rfl) fun a E => ?_
    refine ek E rfl (E.get 1 rfl) fun a E => ?_
    refine ep (v := .bool true) E (run_pick_t rfl (E.get 2 rfl) rfl) fun a E => ?_
    refine wpList_nil ?_
    refine then_n ?_
    refine wp_cond_true (E.get 0 rfl) ?_
    refine wp_seq ?_
    refine wp_region_lit ?_
    refine env_set (d := 4) (v := .int .i64 0) E rfl (by decide) (wanted_none rfl _) (run_assign rfl rfl) fun a E => ?_
    refine env_set (d := 5) (v := .bool false) E rfl (by decide) (wanted_none rfl _) (run_assign rfl rfl) fun a E => ?_
    refine wpList_nil ?_
    refine then_n ?_
    refine wp_ret ?_
    refine then_r ?_
    refine ret_tmp2 (t := 4) (t2 := 5) rfl E (E.get 1 rfl) (E.get 0 rfl) ⟨?_, hf⟩
    have qhq2 := hq2; simp only [beq_iff_eq, bne_iff_ne, beq_eq_false_iff_ne, bne_eq_false_iff_eq, ne_eq] at qhq2
    have qhq3 := of_decide_eq_true hq3
    rw [nextP_no2 (by unfold minuteB; rw [Bool.eq_false_iff]; simp only [ne_eq, Bool.and_eq_true, decide_eq_true_eq]; omega)]
  | true =>
   rw [hq2] at E
   refine ek E rfl (E.get 0 rfl) fun a E => ?_
   refine ek E rfl (E.get 1 rfl) fun a E => ?_
   refine ep (v := .bool true) E (run_pick_t rfl (E.get 2 rfl) rfl) fun a E => ?_
   refine ep (v := .bool true) E (run_move rfl (E.get 0 rfl)) fun a E => ?_
   refine ek E rfl (E.get 0 rfl) fun a E => ?_
   refine ek E rfl (E.get 1 rfl) fun a E => ?_
   refine ep (v := .bool true) E (run_pick_t rfl (E.get 2 rfl) rfl) fun a E => ?_
   refine wpList_nil ?_
   refine then_n ?_
   refine wp_cond_true (E.get 0 rfl) ?_
   refine wp_seq ?_
   refine wp_region_lit ?_
   refine env_set (d := 4) (v := .int .i64 0) E rfl (by decide) (wanted_none rfl _) (run_assign rfl rfl) fun a E => ?_
   refine env_set (d := 5) (v := .bool false) E rfl (by decide) (wanted_none rfl _) (run_assign rfl rfl) fun a E => ?_
   refine wpList_nil ?_
   refine then_n ?_
   refine wp_ret ?_
   refine then_r ?_
   refine ret_tmp2 (t := 4) (t2 := 5) rfl E (E.get 1 rfl) (E.get 0 rfl) ⟨?_, hf⟩
   rw [nextP_no3 (by rw [← len0_eq]; exact hq2)]
set_option maxRecDepth 100000 in
set_option maxHeartbeats 4000000 in
theorem open_calls {w : World} {v : Value} {l : List Sp} (hl : SpV w v l) (hlen0 : l.length ≤ 20000) (m : Int) : Calls Tryz.prog 22 #[v, .int .i64 m] w fun e w' => e = .returned (.bool (openB l m)) ∧ Fr (fun _ => False) w w' := by
 obtain ⟨p0, cp0, hvp0, hlep0, hcapp0, hsp0, hzp0⟩ := hl
 subst hvp0
 refine wp_start2 Tryz.func22 rfl rfl (n := 19) (by decide) fun a E => ?_
 have hf : Fr (fun _ => False) w w := Fr.refl _ _
 refine wp_seq ?_
 refine wp_region_lit ?_
 refine ep (v := .bool false) E (run_assign rfl rfl) fun a E => ?_
 refine wpList_nil ?_
 refine then_n ?_
 refine wp_seq ?_
 refine wp_region_lit ?_
 refine ep (v := .slice (p0) l.length cp0) E (run_move rfl (E.get 1 rfl)) fun a E => ?_
 refine ep (v := .int .i64 m) E (run_move rfl (E.get 3 rfl)) fun a E => ?_
 refine env_call (d := 10) (v := .tuple #[.int .i64 (nextP l m).1, .bool (nextP l m).2]) E rfl (by decide) rfl (wanted_none rfl _) (run_call2 (enters_of Tryz.func21 (by kernel_rfl) rfl) rfl rfl (E.get 1 rfl) (E.get 0 rfl)) (next_calls ⟨_, _, rfl, hlep0, hcapp0, hsp0.mono (by first | exact hf.size | omega), hzp0⟩ hlen0 m) fun a w1 f1 E => ?_
 have hsp0 := srcAt.fr hsp0 f1 (fun r hr => id)
 have hf := hf.trans f1
 clear f1
 refine ep (v := .tuple #[.int .i64 (nextP l m).1, .bool (nextP l m).2]) E (run_move rfl (E.get 0 rfl)) fun a E => ?_
 refine ep (v := .int .i64 (nextP l m).1) E (run_ext0 rfl (E.get 0 rfl)) fun a E => ?_
 refine ep (v := .bool (nextP l m).2) E (run_ext1 rfl (E.get 1 rfl)) fun a E => ?_
 refine ep (v := .int .i64 (nextP l m).1) E (run_assign rfl (E.get 1 rfl)) fun a E => ?_
 refine ep (v := .bool (nextP l m).2) E (run_assign rfl (E.get 1 rfl)) fun a E => ?_
 refine wpList_nil ?_
 refine then_n ?_
 refine wp_seq ?_
 refine wp_region_lit ?_
 refine ep (v := .bool (nextP l m).2) E (run_move rfl (E.get 0 rfl)) fun a E => ?_
 refine ep (v := .bool (nextP l m).2) E (run_move rfl (E.get 0 rfl)) fun a E => ?_
 cases hq8 : (nextP l m).2 with
 | false =>
  rw [hq8] at E
  refine ek E rfl (E.get 0 rfl) fun a E => ?_
  refine ek E rfl (E.get 1 rfl) fun a E => ?_
  refine ek E rfl (E.get 2 rfl) fun a E => ?_
  refine ep (v := .bool false) E (run_pick_f rfl (E.get 3 rfl) rfl) fun a E => ?_
  refine env_set (d := 4) (v := .bool false) E rfl (by decide) (wanted_none rfl _) (run_assign rfl (E.get 0 rfl)) fun a E => ?_
  refine wpList_nil ?_
  refine then_n ?_
  refine wp_ret ?_
  refine ret_tmp (t := 4) rfl E (E.get 0 rfl) ⟨?_, hf⟩
  rw [openB_next]
  rw [hq8]
  rfl
 | true =>
  rw [hq8] at E
  refine eg (v := .int .i64 (nextP l m).1) E (w_yes (g := 1) (s := 14) E rfl rfl (by decide) (E.get 0 rfl)) (run_move rfl (E.get 3 rfl)) fun a E => ?_
  refine eg (v := .int .i64 m) E (w_yes (g := 1) (s := 14) E rfl rfl (by decide) (E.get 1 rfl)) (run_move rfl (E.get 13 rfl)) fun a E => ?_
  refine eg (v := .bool ((nextP l m).1 == m)) E (w_yes (g := 1) (s := 14) E rfl rfl (by decide) (E.get 2 rfl)) (run_ieql (E.get 1 rfl) (E.get 0 rfl) Tryz.underlying3 rfl) fun a E => ?_
  refine ep (v := .bool ((nextP l m).1 == m)) E (run_pick_t rfl (E.get 3 rfl) (E.get 0 rfl)) fun a E => ?_
  refine env_set (d := 4) (v := .bool ((nextP l m).1 == m)) E rfl (by decide) (wanted_none rfl _) (run_assign rfl (E.get 0 rfl)) fun a E => ?_
  refine wpList_nil ?_
  refine then_n ?_
  refine wp_ret ?_
  refine ret_tmp (t := 4) rfl E (E.get 0 rfl) ⟨?_, hf⟩
  rw [openB_next]
  rw [hq8]
  rfl
end Go.Proofs.YtjaffpnegdcjnaaGreatDoor
