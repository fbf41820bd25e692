/- The Index chapter: coordinates, boxes that are valid, boxes that meet. -/
import Derived.Test.YtcafnanbdmapgaaTy
set_option linter.unusedVariables false
set_option linter.unusedSimpArgs false
namespace Go.Proofs.Ytcafnanbdmapgaa
open Go.RowKit Go.Pl

/-- A coordinate that is allowed. -/
def isI (n : Int) : Prop := -2097152 ≤ n ∧ n ≤ 2097152
instance (n : Int) : Decidable (isI n) := by unfold isI; infer_instance
set_option maxRecDepth 100000 in
set_option maxHeartbeats 4000000 in
theorem is_calls (n : Int) (w : World) : Calls Try.prog 44 #[.int .i64 n] w fun e w' => e = .returned (.bool (decide (isI n))) ∧ Fr (fun _ => False) w w' := by
  refine wp_start1 Try.func44 rfl rfl (n := 9) (by decide) fun a E => ?_
  have hf : Fr (fun _ => False) w w := Fr.refl _ _
  refine wp_seq ?_
  refine wp_region_lit ?_
  refine env_put (d := 2) (v := .bool false) E rfl (by decide) rfl (wanted_none rfl _) (run_assign rfl rfl) fun a E => ?_
  refine wpList_nil ?_
  refine then_n ?_
  refine wp_seq ?_
  refine wp_region_lit ?_
  refine env_put (d := 3) (v := .int .i64 n) E rfl (by decide) rfl (wanted_none rfl _) (run_move rfl (E.get 1 rfl)) fun a E => ?_
  refine env_put (d := 4) (v := .bool (decide ((-2097152) ≤ n))) E rfl (by decide) rfl (wanted_none rfl _) (run_igeq (E.get 0 rfl) rfl Try.underlying3 rfl) fun a E => ?_
  refine env_put (d := 5) (v := .bool (decide ((-2097152) ≤ n))) E rfl (by decide) rfl (wanted_none rfl _) (run_move rfl (E.get 0 rfl)) fun a E => ?_
  cases hq1 : (decide ((-2097152) ≤ n)) with
  | false =>
    rw [hq1] at E
    refine env_skip (d := 6) (g := 2) (s := 5) E rfl (by decide) rfl rfl rfl (by decide) (E.get 0 rfl) fun a E => ?_
    refine env_skip (d := 7) (g := 2) (s := 5) E rfl (by decide) rfl rfl rfl (by decide) (E.get 1 rfl) fun a E => ?_
    refine env_put (d := 8) (v := .bool false) E rfl (by decide) rfl (wanted_none rfl _) (run_pick_f rfl (E.get 2 rfl) rfl) fun a E => ?_
    refine env_set (d := 2) (v := .bool false) E rfl (by decide) (wanted_none rfl _) (run_assign rfl (E.get 0 rfl)) fun a E => ?_
    refine wpList_nil ?_
    refine then_n ?_
    refine wp_ret ?_
    refine ret_tmp (t := 2) rfl E (E.get 0 rfl) ⟨?_, hf⟩
    congr 2
    have khq1 := of_decide_eq_false hq1
    exact (decide_eq_false (by unfold isI; first | omega | (simp only [*]; omega) | simp [*])).symm
  | true =>
    rw [hq1] at E
    refine env_put (d := 6) (v := .int .i64 n) E rfl (by decide) rfl (w_yes (g := 2) (s := 5) E rfl rfl (by decide) (E.get 0 rfl)) (run_move rfl (E.get 4 rfl)) fun a E => ?_
    refine env_put (d := 7) (v := .bool (decide (n ≤ 2097152))) E rfl (by decide) rfl (w_yes (g := 2) (s := 5) E rfl rfl (by decide) (E.get 1 rfl)) (run_ileq (E.get 0 rfl) rfl Try.underlying3 rfl) fun a E => ?_
    refine env_put (d := 8) (v := .bool (decide (n ≤ 2097152))) E rfl (by decide) rfl (wanted_none rfl _) (run_pick_t rfl (E.get 2 rfl) (E.get 0 rfl)) fun a E => ?_
    refine env_set (d := 2) (v := .bool (decide (n ≤ 2097152))) E rfl (by decide) (wanted_none rfl _) (run_assign rfl (E.get 0 rfl)) fun a E => ?_
    refine wpList_nil ?_
    refine then_n ?_
    refine wp_ret ?_
    refine ret_tmp (t := 2) rfl E (E.get 0 rfl) ⟨?_, hf⟩
    have khq1 := of_decide_eq_true hq1
    congr 2
    exact decide_eq_decide.2 (by unfold isI; first | omega | (simp only [*]; omega) | simp [*])
def isP (p : Pt) : Prop := isI p.1 ∧ isI p.2
instance (p : Pt) : Decidable (isP p) := by unfold isP; infer_instance
set_option maxRecDepth 100000 in
set_option maxHeartbeats 4000000 in
theorem point_calls (p : Pt) (w : World) : Calls Try.prog 27 #[.agg (ptC p)] w fun e w' => e = .returned (.bool (decide (isP p))) ∧ Fr (fun _ => False) w w' := by
  refine wp_start1 Try.func27 rfl rfl (n := 11) (by decide) fun a E => ?_
  have hf : Fr (fun _ => False) w w := Fr.refl _ _
  refine wp_seq ?_
  refine wp_region_lit ?_
  refine env_box24 (d := 1) E rfl (by decide) rfl (wanted_none rfl _) rfl (E.get 0 rfl) fun a w1 b2 eb2 hb2 f1 E => ?_
  have hf := hf.trans f1
  clear f1
  refine env_put (d := 2) (v := .bool false) E rfl (by decide) rfl (wanted_none rfl _) (run_assign rfl rfl) fun a E => ?_
  refine wpList_nil ?_
  refine then_n ?_
  refine wp_seq ?_
  refine wp_region_lit ?_
  refine env_put (d := 3) (v := .pointer (some ⟨b2, 0, none⟩)) E rfl (by decide) rfl (wanted_none rfl _) (fa24_0 rfl (E.get 1 rfl)) fun a E => ?_
  refine env_put (d := 4) (v := .int .i64 p.1) E rfl (by decide) rfl (wanted_none rfl _) (run_ldi rfl (E.get 0 rfl) (bx hb2 0 rfl)) fun a E => ?_
  refine env_call (d := 5) (v := .bool (decide (isI p.1))) E rfl (by decide) rfl (wanted_none rfl _) (run_call1 (enters_of Try.func44 (by kernel_rfl) rfl) rfl rfl (E.get 0 rfl)) (is_calls _ _) fun a w1 f1 E => ?_
  have hb2 := f1.obj hb2 id
  have hf := hf.trans f1
  clear f1
  refine env_put (d := 6) (v := .bool (decide (isI p.1))) E rfl (by decide) rfl (wanted_none rfl _) (run_move rfl (E.get 0 rfl)) fun a E => ?_
  cases hq3 : (decide (isI p.1)) with
  | false =>
    rw [hq3] at E
    refine env_skip (d := 7) (g := 3) (s := 6) E rfl (by decide) rfl rfl rfl (by decide) (E.get 0 rfl) fun a E => ?_
    refine env_skip (d := 8) (g := 3) (s := 6) E rfl (by decide) rfl rfl rfl (by decide) (E.get 1 rfl) fun a E => ?_
    refine env_skip (d := 9) (g := 3) (s := 6) E rfl (by decide) rfl rfl rfl (by decide) (E.get 2 rfl) fun a E => ?_
    refine env_put (d := 10) (v := .bool false) E rfl (by decide) rfl (wanted_none rfl _) (run_pick_f rfl (E.get 3 rfl) rfl) fun a E => ?_
    refine env_set (d := 2) (v := .bool false) E rfl (by decide) (wanted_none rfl _) (run_assign rfl (E.get 0 rfl)) fun a E => ?_
    refine wpList_nil ?_
    refine then_n ?_
    refine wp_ret ?_
    refine ret_tmp (t := 2) rfl E (E.get 0 rfl) ⟨?_, hf⟩
    congr 2
    have khq3 := of_decide_eq_false hq3
    exact (decide_eq_false (by unfold isP; first | omega | (simp only [*]; omega) | simp [*])).symm
  | true =>
    rw [hq3] at E
    refine env_put (d := 7) (v := .pointer (some ⟨b2, 1, none⟩)) E rfl (by decide) rfl (w_yes (g := 3) (s := 6) E rfl rfl (by decide) (E.get 0 rfl)) (fa24_1 rfl (E.get 5 rfl)) fun a E => ?_
    refine env_put (d := 8) (v := .int .i64 p.2) E rfl (by decide) rfl (w_yes (g := 3) (s := 6) E rfl rfl (by decide) (E.get 1 rfl)) (run_ldi rfl (E.get 0 rfl) (bx hb2 1 rfl)) fun a E => ?_
    refine env_call (d := 9) (v := .bool (decide (isI p.2))) E rfl (by decide) rfl (w_yes (g := 3) (s := 6) E rfl rfl (by decide) (E.get 2 rfl)) (run_call1 (enters_of Try.func44 (by kernel_rfl) rfl) rfl rfl (E.get 0 rfl)) (is_calls _ _) fun a w1 f1 E => ?_
    have hb2 := f1.obj hb2 id
    have hf := hf.trans f1
    clear f1
    refine env_put (d := 10) (v := .bool (decide (isI p.2))) E rfl (by decide) rfl (wanted_none rfl _) (run_pick_t rfl (E.get 3 rfl) (E.get 0 rfl)) fun a E => ?_
    refine env_set (d := 2) (v := .bool (decide (isI p.2))) E rfl (by decide) (wanted_none rfl _) (run_assign rfl (E.get 0 rfl)) fun a E => ?_
    refine wpList_nil ?_
    refine then_n ?_
    refine wp_ret ?_
    refine ret_tmp (t := 2) rfl E (E.get 0 rfl) ⟨?_, hf⟩
    have khq3 := of_decide_eq_true hq3
    congr 2
    exact decide_eq_decide.2 (by unfold isP; first | omega | (simp only [*]; omega) | simp [*])
/-- A box that is valid. -/
def okB (b : Bx) : Prop := isP b.1 ∧ isP b.2 ∧ b.1.1 ≤ b.2.1 ∧ b.1.2 ≤ b.2.2
instance (b : Bx) : Decidable (okB b) := by unfold okB; infer_instance
set_option maxRecDepth 100000 in
set_option maxHeartbeats 4000000 in
theorem valid_calls (b : Bx) (w : World) : Calls Try.prog 24 #[.agg (bxC b)] w fun e w' => e = .returned (.bool (decide (okB b))) ∧ Fr (fun _ => False) w w' := by
  refine wp_start1 Try.func24 rfl rfl (n := 29) (by decide) fun a E => ?_
  have hf : Fr (fun _ => False) w w := Fr.refl _ _
  refine wp_seq ?_
  refine wp_region_lit ?_
  refine env_box26 (d := 1) E rfl (by decide) rfl (wanted_none rfl _) rfl (E.get 0 rfl) fun a w1 b4 eb4 hb4 f1 E => ?_
  have hf := hf.trans f1
  clear f1
  refine env_put (d := 2) (v := .bool false) E rfl (by decide) rfl (wanted_none rfl _) (run_assign rfl rfl) fun a E => ?_
  refine wpList_nil ?_
  refine then_n ?_
  refine wp_seq ?_
  refine wp_region_lit ?_
  refine env_put (d := 3) (v := .pointer (some ⟨b4, 0, none⟩)) E rfl (by decide) rfl (wanted_none rfl _) (fa26_0 rfl (E.get 1 rfl)) fun a E => ?_
  refine env_put (d := 4) (v := .agg (ptC b.1)) E rfl (by decide) rfl (wanted_none rfl _) (run_ld24 rfl (E.get 0 rfl) (rng2 (p := b.1) hb4 0 rfl rfl)) fun a E => ?_
  refine env_call (d := 5) (v := .bool (decide (isP b.1))) E rfl (by decide) rfl (wanted_none rfl _) (run_call1 (enters_of Try.func27 (by kernel_rfl) rfl) rfl rfl (E.get 0 rfl)) (point_calls _ _) fun a w1 f1 E => ?_
  have hb4 := f1.obj hb4 id
  have hf := hf.trans f1
  clear f1
  refine env_put (d := 6) (v := .bool (decide (isP b.1))) E rfl (by decide) rfl (wanted_none rfl _) (run_move rfl (E.get 0 rfl)) fun a E => ?_
  cases hq5 : (decide (isP b.1)) with
  | false =>
    rw [hq5] at E
    refine env_skip (d := 7) (g := 3) (s := 6) E rfl (by decide) rfl rfl rfl (by decide) (E.get 0 rfl) fun a E => ?_
    refine env_skip (d := 8) (g := 3) (s := 6) E rfl (by decide) rfl rfl rfl (by decide) (E.get 1 rfl) fun a E => ?_
    refine env_skip (d := 9) (g := 3) (s := 6) E rfl (by decide) rfl rfl rfl (by decide) (E.get 2 rfl) fun a E => ?_
    refine env_put (d := 10) (v := .bool false) E rfl (by decide) rfl (wanted_none rfl _) (run_pick_f rfl (E.get 3 rfl) rfl) fun a E => ?_
    refine env_put (d := 11) (v := .bool false) E rfl (by decide) rfl (wanted_none rfl _) (run_move rfl (E.get 0 rfl)) fun a E => ?_
    refine env_skip (d := 12) (g := 8) (s := 11) E rfl (by decide) rfl rfl rfl (by decide) (E.get 0 rfl) fun a E => ?_
    refine env_skip (d := 13) (g := 8) (s := 11) E rfl (by decide) rfl rfl rfl (by decide) (E.get 1 rfl) fun a E => ?_
    refine env_skip (d := 14) (g := 8) (s := 11) E rfl (by decide) rfl rfl rfl (by decide) (E.get 2 rfl) fun a E => ?_
    refine env_skip (d := 15) (g := 8) (s := 11) E rfl (by decide) rfl rfl rfl (by decide) (E.get 3 rfl) fun a E => ?_
    refine env_skip (d := 16) (g := 8) (s := 11) E rfl (by decide) rfl rfl rfl (by decide) (E.get 4 rfl) fun a E => ?_
    refine env_skip (d := 17) (g := 8) (s := 11) E rfl (by decide) rfl rfl rfl (by decide) (E.get 5 rfl) fun a E => ?_
    refine env_skip (d := 18) (g := 8) (s := 11) E rfl (by decide) rfl rfl rfl (by decide) (E.get 6 rfl) fun a E => ?_
    refine env_put (d := 19) (v := .bool false) E rfl (by decide) rfl (wanted_none rfl _) (run_pick_f rfl (E.get 7 rfl) rfl) fun a E => ?_
    refine env_put (d := 20) (v := .bool false) E rfl (by decide) rfl (wanted_none rfl _) (run_move rfl (E.get 0 rfl)) fun a E => ?_
    refine env_skip (d := 21) (g := 17) (s := 20) E rfl (by decide) rfl rfl rfl (by decide) (E.get 0 rfl) fun a E => ?_
    refine env_skip (d := 22) (g := 17) (s := 20) E rfl (by decide) rfl rfl rfl (by decide) (E.get 1 rfl) fun a E => ?_
    refine env_skip (d := 23) (g := 17) (s := 20) E rfl (by decide) rfl rfl rfl (by decide) (E.get 2 rfl) fun a E => ?_
    refine env_skip (d := 24) (g := 17) (s := 20) E rfl (by decide) rfl rfl rfl (by decide) (E.get 3 rfl) fun a E => ?_
    refine env_skip (d := 25) (g := 17) (s := 20) E rfl (by decide) rfl rfl rfl (by decide) (E.get 4 rfl) fun a E => ?_
    refine env_skip (d := 26) (g := 17) (s := 20) E rfl (by decide) rfl rfl rfl (by decide) (E.get 5 rfl) fun a E => ?_
    refine env_skip (d := 27) (g := 17) (s := 20) E rfl (by decide) rfl rfl rfl (by decide) (E.get 6 rfl) fun a E => ?_
    refine env_put (d := 28) (v := .bool false) E rfl (by decide) rfl (wanted_none rfl _) (run_pick_f rfl (E.get 7 rfl) rfl) fun a E => ?_
    refine env_set (d := 2) (v := .bool false) E rfl (by decide) (wanted_none rfl _) (run_assign rfl (E.get 0 rfl)) fun a E => ?_
    refine wpList_nil ?_
    refine then_n ?_
    refine wp_ret ?_
    refine ret_tmp (t := 2) rfl E (E.get 0 rfl) ⟨?_, hf⟩
    congr 2
    have khq5 := of_decide_eq_false hq5
    exact (decide_eq_false (by unfold okB; first | omega | (simp only [*]; omega) | simp [*])).symm
  | true =>
    rw [hq5] at E
    refine env_put (d := 7) (v := .pointer (some ⟨b4, 2, none⟩)) E rfl (by decide) rfl (w_yes (g := 3) (s := 6) E rfl rfl (by decide) (E.get 0 rfl)) (fa26_1 rfl (E.get 5 rfl)) fun a E => ?_
    refine env_put (d := 8) (v := .agg (ptC b.2)) E rfl (by decide) rfl (w_yes (g := 3) (s := 6) E rfl rfl (by decide) (E.get 1 rfl)) (run_ld24 rfl (E.get 0 rfl) (rng2 (p := b.2) hb4 2 rfl rfl)) fun a E => ?_
    refine env_call (d := 9) (v := .bool (decide (isP b.2))) E rfl (by decide) rfl (w_yes (g := 3) (s := 6) E rfl rfl (by decide) (E.get 2 rfl)) (run_call1 (enters_of Try.func27 (by kernel_rfl) rfl) rfl rfl (E.get 0 rfl)) (point_calls _ _) fun a w1 f1 E => ?_
    have hb4 := f1.obj hb4 id
    have hf := hf.trans f1
    clear f1
    refine env_put (d := 10) (v := .bool (decide (isP b.2))) E rfl (by decide) rfl (wanted_none rfl _) (run_pick_t rfl (E.get 3 rfl) (E.get 0 rfl)) fun a E => ?_
    refine env_put (d := 11) (v := .bool (decide (isP b.2))) E rfl (by decide) rfl (wanted_none rfl _) (run_move rfl (E.get 0 rfl)) fun a E => ?_
    cases hq6 : (decide (isP b.2)) with
    | false =>
      rw [hq6] at E
      refine env_skip (d := 12) (g := 8) (s := 11) E rfl (by decide) rfl rfl rfl (by decide) (E.get 0 rfl) fun a E => ?_
      refine env_skip (d := 13) (g := 8) (s := 11) E rfl (by decide) rfl rfl rfl (by decide) (E.get 1 rfl) fun a E => ?_
      refine env_skip (d := 14) (g := 8) (s := 11) E rfl (by decide) rfl rfl rfl (by decide) (E.get 2 rfl) fun a E => ?_
      refine env_skip (d := 15) (g := 8) (s := 11) E rfl (by decide) rfl rfl rfl (by decide) (E.get 3 rfl) fun a E => ?_
      refine env_skip (d := 16) (g := 8) (s := 11) E rfl (by decide) rfl rfl rfl (by decide) (E.get 4 rfl) fun a E => ?_
      refine env_skip (d := 17) (g := 8) (s := 11) E rfl (by decide) rfl rfl rfl (by decide) (E.get 5 rfl) fun a E => ?_
      refine env_skip (d := 18) (g := 8) (s := 11) E rfl (by decide) rfl rfl rfl (by decide) (E.get 6 rfl) fun a E => ?_
      refine env_put (d := 19) (v := .bool false) E rfl (by decide) rfl (wanted_none rfl _) (run_pick_f rfl (E.get 7 rfl) rfl) fun a E => ?_
      refine env_put (d := 20) (v := .bool false) E rfl (by decide) rfl (wanted_none rfl _) (run_move rfl (E.get 0 rfl)) fun a E => ?_
      refine env_skip (d := 21) (g := 17) (s := 20) E rfl (by decide) rfl rfl rfl (by decide) (E.get 0 rfl) fun a E => ?_
      refine env_skip (d := 22) (g := 17) (s := 20) E rfl (by decide) rfl rfl rfl (by decide) (E.get 1 rfl) fun a E => ?_
      refine env_skip (d := 23) (g := 17) (s := 20) E rfl (by decide) rfl rfl rfl (by decide) (E.get 2 rfl) fun a E => ?_
      refine env_skip (d := 24) (g := 17) (s := 20) E rfl (by decide) rfl rfl rfl (by decide) (E.get 3 rfl) fun a E => ?_
      refine env_skip (d := 25) (g := 17) (s := 20) E rfl (by decide) rfl rfl rfl (by decide) (E.get 4 rfl) fun a E => ?_
      refine env_skip (d := 26) (g := 17) (s := 20) E rfl (by decide) rfl rfl rfl (by decide) (E.get 5 rfl) fun a E => ?_
      refine env_skip (d := 27) (g := 17) (s := 20) E rfl (by decide) rfl rfl rfl (by decide) (E.get 6 rfl) fun a E => ?_
      refine env_put (d := 28) (v := .bool false) E rfl (by decide) rfl (wanted_none rfl _) (run_pick_f rfl (E.get 7 rfl) rfl) fun a E => ?_
      refine env_set (d := 2) (v := .bool false) E rfl (by decide) (wanted_none rfl _) (run_assign rfl (E.get 0 rfl)) fun a E => ?_
      refine wpList_nil ?_
      refine then_n ?_
      refine wp_ret ?_
      refine ret_tmp (t := 2) rfl E (E.get 0 rfl) ⟨?_, hf⟩
      congr 2
      have khq5 := of_decide_eq_true hq5
      have khq6 := of_decide_eq_false hq6
      exact (decide_eq_false (by unfold okB; first | omega | (simp only [*]; omega) | simp [*])).symm
    | true =>
      rw [hq6] at E
      refine env_put (d := 12) (v := .pointer (some ⟨b4, 0, none⟩)) E rfl (by decide) rfl (w_yes (g := 8) (s := 11) E rfl rfl (by decide) (E.get 0 rfl)) (fa26_0 rfl (E.get 10 rfl)) fun a E => ?_
      refine env_put (d := 13) (v := .pointer (some ⟨b4, 0, none⟩)) E rfl (by decide) rfl (w_yes (g := 8) (s := 11) E rfl rfl (by decide) (E.get 1 rfl)) (fa24_0 rfl (E.get 0 rfl)) fun a E => ?_
      refine env_put (d := 14) (v := .int .i64 b.1.1) E rfl (by decide) rfl (w_yes (g := 8) (s := 11) E rfl rfl (by decide) (E.get 2 rfl)) (run_ldi rfl (E.get 0 rfl) (bx hb4 0 rfl)) fun a E => ?_
      refine env_put (d := 15) (v := .pointer (some ⟨b4, 2, none⟩)) E rfl (by decide) rfl (w_yes (g := 8) (s := 11) E rfl rfl (by decide) (E.get 3 rfl)) (fa26_1 rfl (E.get 13 rfl)) fun a E => ?_
      refine env_put (d := 16) (v := .pointer (some ⟨b4, 2, none⟩)) E rfl (by decide) rfl (w_yes (g := 8) (s := 11) E rfl rfl (by decide) (E.get 4 rfl)) (fa24_0 rfl (E.get 0 rfl)) fun a E => ?_
      refine env_put (d := 17) (v := .int .i64 b.2.1) E rfl (by decide) rfl (w_yes (g := 8) (s := 11) E rfl rfl (by decide) (E.get 5 rfl)) (run_ldi rfl (E.get 0 rfl) (bx hb4 2 rfl)) fun a E => ?_
      refine env_put (d := 18) (v := .bool (decide (b.1.1 ≤ b.2.1))) E rfl (by decide) rfl (w_yes (g := 8) (s := 11) E rfl rfl (by decide) (E.get 6 rfl)) (run_ileq (E.get 3 rfl) (E.get 0 rfl) Try.underlying3 rfl) fun a E => ?_
      refine env_put (d := 19) (v := .bool (decide (b.1.1 ≤ b.2.1))) E rfl (by decide) rfl (wanted_none rfl _) (run_pick_t rfl (E.get 7 rfl) (E.get 0 rfl)) fun a E => ?_
      refine env_put (d := 20) (v := .bool (decide (b.1.1 ≤ b.2.1))) E rfl (by decide) rfl (wanted_none rfl _) (run_move rfl (E.get 0 rfl)) fun a E => ?_
      cases hq7 : (decide (b.1.1 ≤ b.2.1)) with
      | false =>
        rw [hq7] at E
        refine env_skip (d := 21) (g := 17) (s := 20) E rfl (by decide) rfl rfl rfl (by decide) (E.get 0 rfl) fun a E => ?_
        refine env_skip (d := 22) (g := 17) (s := 20) E rfl (by decide) rfl rfl rfl (by decide) (E.get 1 rfl) fun a E => ?_
        refine env_skip (d := 23) (g := 17) (s := 20) E rfl (by decide) rfl rfl rfl (by decide) (E.get 2 rfl) fun a E => ?_
        refine env_skip (d := 24) (g := 17) (s := 20) E rfl (by decide) rfl rfl rfl (by decide) (E.get 3 rfl) fun a E => ?_
        refine env_skip (d := 25) (g := 17) (s := 20) E rfl (by decide) rfl rfl rfl (by decide) (E.get 4 rfl) fun a E => ?_
        refine env_skip (d := 26) (g := 17) (s := 20) E rfl (by decide) rfl rfl rfl (by decide) (E.get 5 rfl) fun a E => ?_
        refine env_skip (d := 27) (g := 17) (s := 20) E rfl (by decide) rfl rfl rfl (by decide) (E.get 6 rfl) fun a E => ?_
        refine env_put (d := 28) (v := .bool false) E rfl (by decide) rfl (wanted_none rfl _) (run_pick_f rfl (E.get 7 rfl) rfl) fun a E => ?_
        refine env_set (d := 2) (v := .bool false) E rfl (by decide) (wanted_none rfl _) (run_assign rfl (E.get 0 rfl)) fun a E => ?_
        refine wpList_nil ?_
        refine then_n ?_
        refine wp_ret ?_
        refine ret_tmp (t := 2) rfl E (E.get 0 rfl) ⟨?_, hf⟩
        congr 2
        have khq5 := of_decide_eq_true hq5
        have khq6 := of_decide_eq_true hq6
        have khq7 := of_decide_eq_false hq7
        exact (decide_eq_false (by unfold okB; first | omega | (simp only [*]; omega) | simp [*])).symm
      | true =>
        rw [hq7] at E
        refine env_put (d := 21) (v := .pointer (some ⟨b4, 0, none⟩)) E rfl (by decide) rfl (w_yes (g := 17) (s := 20) E rfl rfl (by decide) (E.get 0 rfl)) (fa26_0 rfl (E.get 19 rfl)) fun a E => ?_
        refine env_put (d := 22) (v := .pointer (some ⟨b4, 1, none⟩)) E rfl (by decide) rfl (w_yes (g := 17) (s := 20) E rfl rfl (by decide) (E.get 1 rfl)) (fa24_1 rfl (E.get 0 rfl)) fun a E => ?_
        refine env_put (d := 23) (v := .int .i64 b.1.2) E rfl (by decide) rfl (w_yes (g := 17) (s := 20) E rfl rfl (by decide) (E.get 2 rfl)) (run_ldi rfl (E.get 0 rfl) (bx hb4 1 rfl)) fun a E => ?_
        refine env_put (d := 24) (v := .pointer (some ⟨b4, 2, none⟩)) E rfl (by decide) rfl (w_yes (g := 17) (s := 20) E rfl rfl (by decide) (E.get 3 rfl)) (fa26_1 rfl (E.get 22 rfl)) fun a E => ?_
        refine env_put (d := 25) (v := .pointer (some ⟨b4, 3, none⟩)) E rfl (by decide) rfl (w_yes (g := 17) (s := 20) E rfl rfl (by decide) (E.get 4 rfl)) (fa24_1 rfl (E.get 0 rfl)) fun a E => ?_
        refine env_put (d := 26) (v := .int .i64 b.2.2) E rfl (by decide) rfl (w_yes (g := 17) (s := 20) E rfl rfl (by decide) (E.get 5 rfl)) (run_ldi rfl (E.get 0 rfl) (bx hb4 3 rfl)) fun a E => ?_
        refine env_put (d := 27) (v := .bool (decide (b.1.2 ≤ b.2.2))) E rfl (by decide) rfl (w_yes (g := 17) (s := 20) E rfl rfl (by decide) (E.get 6 rfl)) (run_ileq (E.get 3 rfl) (E.get 0 rfl) Try.underlying3 rfl) fun a E => ?_
        refine env_put (d := 28) (v := .bool (decide (b.1.2 ≤ b.2.2))) E rfl (by decide) rfl (wanted_none rfl _) (run_pick_t rfl (E.get 7 rfl) (E.get 0 rfl)) fun a E => ?_
        refine env_set (d := 2) (v := .bool (decide (b.1.2 ≤ b.2.2))) E rfl (by decide) (wanted_none rfl _) (run_assign rfl (E.get 0 rfl)) fun a E => ?_
        refine wpList_nil ?_
        refine then_n ?_
        refine wp_ret ?_
        refine ret_tmp (t := 2) rfl E (E.get 0 rfl) ⟨?_, hf⟩
        have khq5 := of_decide_eq_true hq5
        have khq6 := of_decide_eq_true hq6
        have khq7 := of_decide_eq_true hq7
        congr 2
        exact decide_eq_decide.2 (by unfold okB; first | omega | (simp only [*]; omega) | simp [*])
/-- Two boxes have a common point. -/
def mtB (a b : Bx) : Prop := a.1.1 ≤ b.2.1 ∧ b.1.1 ≤ a.2.1 ∧ a.1.2 ≤ b.2.2 ∧ b.1.2 ≤ a.2.2
instance (a b : Bx) : Decidable (mtB a b) := by unfold mtB; infer_instance
set_option maxRecDepth 100000 in
set_option maxHeartbeats 4000000 in
theorem rmeet_calls (p q : Bx) (w : World) : Calls Try.prog 25 #[.agg (bxC p), .agg (bxC q)] w fun e w' => e = .returned (.bool (decide (mtB p q))) ∧ Fr (fun _ => False) w w' := by
  refine wp_start2 Try.func25 rfl rfl (n := 39) (by decide) fun a E => ?_
  have hf : Fr (fun _ => False) w w := Fr.refl _ _
  refine wp_seq ?_
  refine wp_region_lit ?_
  refine env_box26 (d := 2) E rfl (by decide) rfl (wanted_none rfl _) rfl (E.get 0 rfl) fun a w1 b8 eb8 hb8 f1 E => ?_
  have hf := hf.trans f1
  clear f1
  refine env_box26 (d := 3) E rfl (by decide) rfl (wanted_none rfl _) rfl (E.get 2 rfl) fun a w1 b9 eb9 hb9 f1 E => ?_
  have hb8 := f1.obj hb8 id
  have hf := hf.trans f1
  clear f1
  refine env_put (d := 4) (v := .bool false) E rfl (by decide) rfl (wanted_none rfl _) (run_assign rfl rfl) fun a E => ?_
  refine wpList_nil ?_
  refine then_n ?_
  refine wp_seq ?_
  refine wp_region_lit ?_
  refine env_put (d := 5) (v := .pointer (some ⟨b8, 0, none⟩)) E rfl (by decide) rfl (wanted_none rfl _) (fa26_0 rfl (E.get 2 rfl)) fun a E => ?_
  refine env_put (d := 6) (v := .pointer (some ⟨b8, 0, none⟩)) E rfl (by decide) rfl (wanted_none rfl _) (fa24_0 rfl (E.get 0 rfl)) fun a E => ?_
  refine env_put (d := 7) (v := .int .i64 p.1.1) E rfl (by decide) rfl (wanted_none rfl _) (run_ldi rfl (E.get 0 rfl) (bx hb8 0 rfl)) fun a E => ?_
  refine env_put (d := 8) (v := .pointer (some ⟨b9, 2, none⟩)) E rfl (by decide) rfl (wanted_none rfl _) (fa26_1 rfl (E.get 4 rfl)) fun a E => ?_
  refine env_put (d := 9) (v := .pointer (some ⟨b9, 2, none⟩)) E rfl (by decide) rfl (wanted_none rfl _) (fa24_0 rfl (E.get 0 rfl)) fun a E => ?_
  refine env_put (d := 10) (v := .int .i64 q.2.1) E rfl (by decide) rfl (wanted_none rfl _) (run_ldi rfl (E.get 0 rfl) (bx hb9 2 rfl)) fun a E => ?_
  refine env_put (d := 11) (v := .bool (decide (p.1.1 ≤ q.2.1))) E rfl (by decide) rfl (wanted_none rfl _) (run_ileq (E.get 3 rfl) (E.get 0 rfl) Try.underlying3 rfl) fun a E => ?_
  refine env_put (d := 12) (v := .bool (decide (p.1.1 ≤ q.2.1))) E rfl (by decide) rfl (wanted_none rfl _) (run_move rfl (E.get 0 rfl)) fun a E => ?_
  cases hq10 : (decide (p.1.1 ≤ q.2.1)) with
  | false =>
    rw [hq10] at E
    refine env_skip (d := 13) (g := 7) (s := 12) E rfl (by decide) rfl rfl rfl (by decide) (E.get 0 rfl) fun a E => ?_
    refine env_skip (d := 14) (g := 7) (s := 12) E rfl (by decide) rfl rfl rfl (by decide) (E.get 1 rfl) fun a E => ?_
    refine env_skip (d := 15) (g := 7) (s := 12) E rfl (by decide) rfl rfl rfl (by decide) (E.get 2 rfl) fun a E => ?_
    refine env_skip (d := 16) (g := 7) (s := 12) E rfl (by decide) rfl rfl rfl (by decide) (E.get 3 rfl) fun a E => ?_
    refine env_skip (d := 17) (g := 7) (s := 12) E rfl (by decide) rfl rfl rfl (by decide) (E.get 4 rfl) fun a E => ?_
    refine env_skip (d := 18) (g := 7) (s := 12) E rfl (by decide) rfl rfl rfl (by decide) (E.get 5 rfl) fun a E => ?_
    refine env_skip (d := 19) (g := 7) (s := 12) E rfl (by decide) rfl rfl rfl (by decide) (E.get 6 rfl) fun a E => ?_
    refine env_put (d := 20) (v := .bool false) E rfl (by decide) rfl (wanted_none rfl _) (run_pick_f rfl (E.get 7 rfl) rfl) fun a E => ?_
    refine env_put (d := 21) (v := .bool false) E rfl (by decide) rfl (wanted_none rfl _) (run_move rfl (E.get 0 rfl)) fun a E => ?_
    refine env_skip (d := 22) (g := 16) (s := 21) E rfl (by decide) rfl rfl rfl (by decide) (E.get 0 rfl) fun a E => ?_
    refine env_skip (d := 23) (g := 16) (s := 21) E rfl (by decide) rfl rfl rfl (by decide) (E.get 1 rfl) fun a E => ?_
    refine env_skip (d := 24) (g := 16) (s := 21) E rfl (by decide) rfl rfl rfl (by decide) (E.get 2 rfl) fun a E => ?_
    refine env_skip (d := 25) (g := 16) (s := 21) E rfl (by decide) rfl rfl rfl (by decide) (E.get 3 rfl) fun a E => ?_
    refine env_skip (d := 26) (g := 16) (s := 21) E rfl (by decide) rfl rfl rfl (by decide) (E.get 4 rfl) fun a E => ?_
    refine env_skip (d := 27) (g := 16) (s := 21) E rfl (by decide) rfl rfl rfl (by decide) (E.get 5 rfl) fun a E => ?_
    refine env_skip (d := 28) (g := 16) (s := 21) E rfl (by decide) rfl rfl rfl (by decide) (E.get 6 rfl) fun a E => ?_
    refine env_put (d := 29) (v := .bool false) E rfl (by decide) rfl (wanted_none rfl _) (run_pick_f rfl (E.get 7 rfl) rfl) fun a E => ?_
    refine env_put (d := 30) (v := .bool false) E rfl (by decide) rfl (wanted_none rfl _) (run_move rfl (E.get 0 rfl)) fun a E => ?_
    refine env_skip (d := 31) (g := 25) (s := 30) E rfl (by decide) rfl rfl rfl (by decide) (E.get 0 rfl) fun a E => ?_
    refine env_skip (d := 32) (g := 25) (s := 30) E rfl (by decide) rfl rfl rfl (by decide) (E.get 1 rfl) fun a E => ?_
    refine env_skip (d := 33) (g := 25) (s := 30) E rfl (by decide) rfl rfl rfl (by decide) (E.get 2 rfl) fun a E => ?_
    refine env_skip (d := 34) (g := 25) (s := 30) E rfl (by decide) rfl rfl rfl (by decide) (E.get 3 rfl) fun a E => ?_
    refine env_skip (d := 35) (g := 25) (s := 30) E rfl (by decide) rfl rfl rfl (by decide) (E.get 4 rfl) fun a E => ?_
    refine env_skip (d := 36) (g := 25) (s := 30) E rfl (by decide) rfl rfl rfl (by decide) (E.get 5 rfl) fun a E => ?_
    refine env_skip (d := 37) (g := 25) (s := 30) E rfl (by decide) rfl rfl rfl (by decide) (E.get 6 rfl) fun a E => ?_
    refine env_put (d := 38) (v := .bool false) E rfl (by decide) rfl (wanted_none rfl _) (run_pick_f rfl (E.get 7 rfl) rfl) fun a E => ?_
    refine env_set (d := 4) (v := .bool false) E rfl (by decide) (wanted_none rfl _) (run_assign rfl (E.get 0 rfl)) fun a E => ?_
    refine wpList_nil ?_
    refine then_n ?_
    refine wp_ret ?_
    refine ret_tmp (t := 4) rfl E (E.get 0 rfl) ⟨?_, hf⟩
    congr 2
    have khq10 := of_decide_eq_false hq10
    exact (decide_eq_false (by unfold mtB; first | omega | (simp only [*]; omega) | simp [*])).symm
  | true =>
    rw [hq10] at E
    refine env_put (d := 13) (v := .pointer (some ⟨b9, 0, none⟩)) E rfl (by decide) rfl (w_yes (g := 7) (s := 12) E rfl rfl (by decide) (E.get 0 rfl)) (fa26_0 rfl (E.get 9 rfl)) fun a E => ?_
    refine env_put (d := 14) (v := .pointer (some ⟨b9, 0, none⟩)) E rfl (by decide) rfl (w_yes (g := 7) (s := 12) E rfl rfl (by decide) (E.get 1 rfl)) (fa24_0 rfl (E.get 0 rfl)) fun a E => ?_
    refine env_put (d := 15) (v := .int .i64 q.1.1) E rfl (by decide) rfl (w_yes (g := 7) (s := 12) E rfl rfl (by decide) (E.get 2 rfl)) (run_ldi rfl (E.get 0 rfl) (bx hb9 0 rfl)) fun a E => ?_
    refine env_put (d := 16) (v := .pointer (some ⟨b8, 2, none⟩)) E rfl (by decide) rfl (w_yes (g := 7) (s := 12) E rfl rfl (by decide) (E.get 3 rfl)) (fa26_1 rfl (E.get 13 rfl)) fun a E => ?_
    refine env_put (d := 17) (v := .pointer (some ⟨b8, 2, none⟩)) E rfl (by decide) rfl (w_yes (g := 7) (s := 12) E rfl rfl (by decide) (E.get 4 rfl)) (fa24_0 rfl (E.get 0 rfl)) fun a E => ?_
    refine env_put (d := 18) (v := .int .i64 p.2.1) E rfl (by decide) rfl (w_yes (g := 7) (s := 12) E rfl rfl (by decide) (E.get 5 rfl)) (run_ldi rfl (E.get 0 rfl) (bx hb8 2 rfl)) fun a E => ?_
    refine env_put (d := 19) (v := .bool (decide (q.1.1 ≤ p.2.1))) E rfl (by decide) rfl (w_yes (g := 7) (s := 12) E rfl rfl (by decide) (E.get 6 rfl)) (run_ileq (E.get 3 rfl) (E.get 0 rfl) Try.underlying3 rfl) fun a E => ?_
    refine env_put (d := 20) (v := .bool (decide (q.1.1 ≤ p.2.1))) E rfl (by decide) rfl (wanted_none rfl _) (run_pick_t rfl (E.get 7 rfl) (E.get 0 rfl)) fun a E => ?_
    refine env_put (d := 21) (v := .bool (decide (q.1.1 ≤ p.2.1))) E rfl (by decide) rfl (wanted_none rfl _) (run_move rfl (E.get 0 rfl)) fun a E => ?_
    cases hq11 : (decide (q.1.1 ≤ p.2.1)) with
    | false =>
      rw [hq11] at E
      refine env_skip (d := 22) (g := 16) (s := 21) E rfl (by decide) rfl rfl rfl (by decide) (E.get 0 rfl) fun a E => ?_
      refine env_skip (d := 23) (g := 16) (s := 21) E rfl (by decide) rfl rfl rfl (by decide) (E.get 1 rfl) fun a E => ?_
      refine env_skip (d := 24) (g := 16) (s := 21) E rfl (by decide) rfl rfl rfl (by decide) (E.get 2 rfl) fun a E => ?_
      refine env_skip (d := 25) (g := 16) (s := 21) E rfl (by decide) rfl rfl rfl (by decide) (E.get 3 rfl) fun a E => ?_
      refine env_skip (d := 26) (g := 16) (s := 21) E rfl (by decide) rfl rfl rfl (by decide) (E.get 4 rfl) fun a E => ?_
      refine env_skip (d := 27) (g := 16) (s := 21) E rfl (by decide) rfl rfl rfl (by decide) (E.get 5 rfl) fun a E => ?_
      refine env_skip (d := 28) (g := 16) (s := 21) E rfl (by decide) rfl rfl rfl (by decide) (E.get 6 rfl) fun a E => ?_
      refine env_put (d := 29) (v := .bool false) E rfl (by decide) rfl (wanted_none rfl _) (run_pick_f rfl (E.get 7 rfl) rfl) fun a E => ?_
      refine env_put (d := 30) (v := .bool false) E rfl (by decide) rfl (wanted_none rfl _) (run_move rfl (E.get 0 rfl)) fun a E => ?_
      refine env_skip (d := 31) (g := 25) (s := 30) E rfl (by decide) rfl rfl rfl (by decide) (E.get 0 rfl) fun a E => ?_
      refine env_skip (d := 32) (g := 25) (s := 30) E rfl (by decide) rfl rfl rfl (by decide) (E.get 1 rfl) fun a E => ?_
      refine env_skip (d := 33) (g := 25) (s := 30) E rfl (by decide) rfl rfl rfl (by decide) (E.get 2 rfl) fun a E => ?_
      refine env_skip (d := 34) (g := 25) (s := 30) E rfl (by decide) rfl rfl rfl (by decide) (E.get 3 rfl) fun a E => ?_
      refine env_skip (d := 35) (g := 25) (s := 30) E rfl (by decide) rfl rfl rfl (by decide) (E.get 4 rfl) fun a E => ?_
      refine env_skip (d := 36) (g := 25) (s := 30) E rfl (by decide) rfl rfl rfl (by decide) (E.get 5 rfl) fun a E => ?_
      refine env_skip (d := 37) (g := 25) (s := 30) E rfl (by decide) rfl rfl rfl (by decide) (E.get 6 rfl) fun a E => ?_
      refine env_put (d := 38) (v := .bool false) E rfl (by decide) rfl (wanted_none rfl _) (run_pick_f rfl (E.get 7 rfl) rfl) fun a E => ?_
      refine env_set (d := 4) (v := .bool false) E rfl (by decide) (wanted_none rfl _) (run_assign rfl (E.get 0 rfl)) fun a E => ?_
      refine wpList_nil ?_
      refine then_n ?_
      refine wp_ret ?_
      refine ret_tmp (t := 4) rfl E (E.get 0 rfl) ⟨?_, hf⟩
      congr 2
      have khq10 := of_decide_eq_true hq10
      have khq11 := of_decide_eq_false hq11
      exact (decide_eq_false (by unfold mtB; first | omega | (simp only [*]; omega) | simp [*])).symm
    | true =>
      rw [hq11] at E
      refine env_put (d := 22) (v := .pointer (some ⟨b8, 0, none⟩)) E rfl (by decide) rfl (w_yes (g := 16) (s := 21) E rfl rfl (by decide) (E.get 0 rfl)) (fa26_0 rfl (E.get 19 rfl)) fun a E => ?_
      refine env_put (d := 23) (v := .pointer (some ⟨b8, 1, none⟩)) E rfl (by decide) rfl (w_yes (g := 16) (s := 21) E rfl rfl (by decide) (E.get 1 rfl)) (fa24_1 rfl (E.get 0 rfl)) fun a E => ?_
      refine env_put (d := 24) (v := .int .i64 p.1.2) E rfl (by decide) rfl (w_yes (g := 16) (s := 21) E rfl rfl (by decide) (E.get 2 rfl)) (run_ldi rfl (E.get 0 rfl) (bx hb8 1 rfl)) fun a E => ?_
      refine env_put (d := 25) (v := .pointer (some ⟨b9, 2, none⟩)) E rfl (by decide) rfl (w_yes (g := 16) (s := 21) E rfl rfl (by decide) (E.get 3 rfl)) (fa26_1 rfl (E.get 21 rfl)) fun a E => ?_
      refine env_put (d := 26) (v := .pointer (some ⟨b9, 3, none⟩)) E rfl (by decide) rfl (w_yes (g := 16) (s := 21) E rfl rfl (by decide) (E.get 4 rfl)) (fa24_1 rfl (E.get 0 rfl)) fun a E => ?_
      refine env_put (d := 27) (v := .int .i64 q.2.2) E rfl (by decide) rfl (w_yes (g := 16) (s := 21) E rfl rfl (by decide) (E.get 5 rfl)) (run_ldi rfl (E.get 0 rfl) (bx hb9 3 rfl)) fun a E => ?_
      refine env_put (d := 28) (v := .bool (decide (p.1.2 ≤ q.2.2))) E rfl (by decide) rfl (w_yes (g := 16) (s := 21) E rfl rfl (by decide) (E.get 6 rfl)) (run_ileq (E.get 3 rfl) (E.get 0 rfl) Try.underlying3 rfl) fun a E => ?_
      refine env_put (d := 29) (v := .bool (decide (p.1.2 ≤ q.2.2))) E rfl (by decide) rfl (wanted_none rfl _) (run_pick_t rfl (E.get 7 rfl) (E.get 0 rfl)) fun a E => ?_
      refine env_put (d := 30) (v := .bool (decide (p.1.2 ≤ q.2.2))) E rfl (by decide) rfl (wanted_none rfl _) (run_move rfl (E.get 0 rfl)) fun a E => ?_
      cases hq12 : (decide (p.1.2 ≤ q.2.2)) with
      | false =>
        rw [hq12] at E
        refine env_skip (d := 31) (g := 25) (s := 30) E rfl (by decide) rfl rfl rfl (by decide) (E.get 0 rfl) fun a E => ?_
        refine env_skip (d := 32) (g := 25) (s := 30) E rfl (by decide) rfl rfl rfl (by decide) (E.get 1 rfl) fun a E => ?_
        refine env_skip (d := 33) (g := 25) (s := 30) E rfl (by decide) rfl rfl rfl (by decide) (E.get 2 rfl) fun a E => ?_
        refine env_skip (d := 34) (g := 25) (s := 30) E rfl (by decide) rfl rfl rfl (by decide) (E.get 3 rfl) fun a E => ?_
        refine env_skip (d := 35) (g := 25) (s := 30) E rfl (by decide) rfl rfl rfl (by decide) (E.get 4 rfl) fun a E => ?_
        refine env_skip (d := 36) (g := 25) (s := 30) E rfl (by decide) rfl rfl rfl (by decide) (E.get 5 rfl) fun a E => ?_
        refine env_skip (d := 37) (g := 25) (s := 30) E rfl (by decide) rfl rfl rfl (by decide) (E.get 6 rfl) fun a E => ?_
        refine env_put (d := 38) (v := .bool false) E rfl (by decide) rfl (wanted_none rfl _) (run_pick_f rfl (E.get 7 rfl) rfl) fun a E => ?_
        refine env_set (d := 4) (v := .bool false) E rfl (by decide) (wanted_none rfl _) (run_assign rfl (E.get 0 rfl)) fun a E => ?_
        refine wpList_nil ?_
        refine then_n ?_
        refine wp_ret ?_
        refine ret_tmp (t := 4) rfl E (E.get 0 rfl) ⟨?_, hf⟩
        congr 2
        have khq10 := of_decide_eq_true hq10
        have khq11 := of_decide_eq_true hq11
        have khq12 := of_decide_eq_false hq12
        exact (decide_eq_false (by unfold mtB; first | omega | (simp only [*]; omega) | simp [*])).symm
      | true =>
        rw [hq12] at E
        refine env_put (d := 31) (v := .pointer (some ⟨b9, 0, none⟩)) E rfl (by decide) rfl (w_yes (g := 25) (s := 30) E rfl rfl (by decide) (E.get 0 rfl)) (fa26_0 rfl (E.get 27 rfl)) fun a E => ?_
        refine env_put (d := 32) (v := .pointer (some ⟨b9, 1, none⟩)) E rfl (by decide) rfl (w_yes (g := 25) (s := 30) E rfl rfl (by decide) (E.get 1 rfl)) (fa24_1 rfl (E.get 0 rfl)) fun a E => ?_
        refine env_put (d := 33) (v := .int .i64 q.1.2) E rfl (by decide) rfl (w_yes (g := 25) (s := 30) E rfl rfl (by decide) (E.get 2 rfl)) (run_ldi rfl (E.get 0 rfl) (bx hb9 1 rfl)) fun a E => ?_
        refine env_put (d := 34) (v := .pointer (some ⟨b8, 2, none⟩)) E rfl (by decide) rfl (w_yes (g := 25) (s := 30) E rfl rfl (by decide) (E.get 3 rfl)) (fa26_1 rfl (E.get 31 rfl)) fun a E => ?_
        refine env_put (d := 35) (v := .pointer (some ⟨b8, 3, none⟩)) E rfl (by decide) rfl (w_yes (g := 25) (s := 30) E rfl rfl (by decide) (E.get 4 rfl)) (fa24_1 rfl (E.get 0 rfl)) fun a E => ?_
        refine env_put (d := 36) (v := .int .i64 p.2.2) E rfl (by decide) rfl (w_yes (g := 25) (s := 30) E rfl rfl (by decide) (E.get 5 rfl)) (run_ldi rfl (E.get 0 rfl) (bx hb8 3 rfl)) fun a E => ?_
        refine env_put (d := 37) (v := .bool (decide (q.1.2 ≤ p.2.2))) E rfl (by decide) rfl (w_yes (g := 25) (s := 30) E rfl rfl (by decide) (E.get 6 rfl)) (run_ileq (E.get 3 rfl) (E.get 0 rfl) Try.underlying3 rfl) fun a E => ?_
        refine env_put (d := 38) (v := .bool (decide (q.1.2 ≤ p.2.2))) E rfl (by decide) rfl (wanted_none rfl _) (run_pick_t rfl (E.get 7 rfl) (E.get 0 rfl)) fun a E => ?_
        refine env_set (d := 4) (v := .bool (decide (q.1.2 ≤ p.2.2))) E rfl (by decide) (wanted_none rfl _) (run_assign rfl (E.get 0 rfl)) fun a E => ?_
        refine wpList_nil ?_
        refine then_n ?_
        refine wp_ret ?_
        refine ret_tmp (t := 4) rfl E (E.get 0 rfl) ⟨?_, hf⟩
        have khq10 := of_decide_eq_true hq10
        have khq11 := of_decide_eq_true hq11
        have khq12 := of_decide_eq_true hq12
        congr 2
        exact decide_eq_decide.2 (by unfold mtB; first | omega | (simp only [*]; omega) | simp [*])
set_option maxRecDepth 100000 in
set_option maxHeartbeats 4000000 in
theorem pmeet_calls (p q : Bx) (w : World) : Calls Try.prog 36 #[.agg (bxC p), .agg (bxC q)] w fun e w' => e = .returned (.bool (decide (mtB p q))) ∧ Fr (fun _ => False) w w' := by
  refine wp_start2 Try.func36 rfl rfl (n := 39) (by decide) fun a E => ?_
  have hf : Fr (fun _ => False) w w := Fr.refl _ _
  refine wp_seq ?_
  refine wp_region_lit ?_
  refine env_box26 (d := 2) E rfl (by decide) rfl (wanted_none rfl _) rfl (E.get 0 rfl) fun a w1 b13 eb13 hb13 f1 E => ?_
  have hf := hf.trans f1
  clear f1
  refine env_box26 (d := 3) E rfl (by decide) rfl (wanted_none rfl _) rfl (E.get 2 rfl) fun a w1 b14 eb14 hb14 f1 E => ?_
  have hb13 := f1.obj hb13 id
  have hf := hf.trans f1
  clear f1
  refine env_put (d := 4) (v := .bool false) E rfl (by decide) rfl (wanted_none rfl _) (run_assign rfl rfl) fun a E => ?_
  refine wpList_nil ?_
  refine then_n ?_
  refine wp_seq ?_
  refine wp_region_lit ?_
  refine env_put (d := 5) (v := .pointer (some ⟨b13, 0, none⟩)) E rfl (by decide) rfl (wanted_none rfl _) (fa26_0 rfl (E.get 2 rfl)) fun a E => ?_
  refine env_put (d := 6) (v := .pointer (some ⟨b13, 0, none⟩)) E rfl (by decide) rfl (wanted_none rfl _) (fa24_0 rfl (E.get 0 rfl)) fun a E => ?_
  refine env_put (d := 7) (v := .int .i64 p.1.1) E rfl (by decide) rfl (wanted_none rfl _) (run_ldi rfl (E.get 0 rfl) (bx hb13 0 rfl)) fun a E => ?_
  refine env_put (d := 8) (v := .pointer (some ⟨b14, 2, none⟩)) E rfl (by decide) rfl (wanted_none rfl _) (fa26_1 rfl (E.get 4 rfl)) fun a E => ?_
  refine env_put (d := 9) (v := .pointer (some ⟨b14, 2, none⟩)) E rfl (by decide) rfl (wanted_none rfl _) (fa24_0 rfl (E.get 0 rfl)) fun a E => ?_
  refine env_put (d := 10) (v := .int .i64 q.2.1) E rfl (by decide) rfl (wanted_none rfl _) (run_ldi rfl (E.get 0 rfl) (bx hb14 2 rfl)) fun a E => ?_
  refine env_put (d := 11) (v := .bool (decide (p.1.1 ≤ q.2.1))) E rfl (by decide) rfl (wanted_none rfl _) (run_ileq (E.get 3 rfl) (E.get 0 rfl) Try.underlying3 rfl) fun a E => ?_
  refine env_put (d := 12) (v := .bool (decide (p.1.1 ≤ q.2.1))) E rfl (by decide) rfl (wanted_none rfl _) (run_move rfl (E.get 0 rfl)) fun a E => ?_
  cases hq15 : (decide (p.1.1 ≤ q.2.1)) with
  | false =>
    rw [hq15] at E
    refine env_skip (d := 13) (g := 7) (s := 12) E rfl (by decide) rfl rfl rfl (by decide) (E.get 0 rfl) fun a E => ?_
    refine env_skip (d := 14) (g := 7) (s := 12) E rfl (by decide) rfl rfl rfl (by decide) (E.get 1 rfl) fun a E => ?_
    refine env_skip (d := 15) (g := 7) (s := 12) E rfl (by decide) rfl rfl rfl (by decide) (E.get 2 rfl) fun a E => ?_
    refine env_skip (d := 16) (g := 7) (s := 12) E rfl (by decide) rfl rfl rfl (by decide) (E.get 3 rfl) fun a E => ?_
    refine env_skip (d := 17) (g := 7) (s := 12) E rfl (by decide) rfl rfl rfl (by decide) (E.get 4 rfl) fun a E => ?_
    refine env_skip (d := 18) (g := 7) (s := 12) E rfl (by decide) rfl rfl rfl (by decide) (E.get 5 rfl) fun a E => ?_
    refine env_skip (d := 19) (g := 7) (s := 12) E rfl (by decide) rfl rfl rfl (by decide) (E.get 6 rfl) fun a E => ?_
    refine env_put (d := 20) (v := .bool false) E rfl (by decide) rfl (wanted_none rfl _) (run_pick_f rfl (E.get 7 rfl) rfl) fun a E => ?_
    refine env_put (d := 21) (v := .bool false) E rfl (by decide) rfl (wanted_none rfl _) (run_move rfl (E.get 0 rfl)) fun a E => ?_
    refine env_skip (d := 22) (g := 16) (s := 21) E rfl (by decide) rfl rfl rfl (by decide) (E.get 0 rfl) fun a E => ?_
    refine env_skip (d := 23) (g := 16) (s := 21) E rfl (by decide) rfl rfl rfl (by decide) (E.get 1 rfl) fun a E => ?_
    refine env_skip (d := 24) (g := 16) (s := 21) E rfl (by decide) rfl rfl rfl (by decide) (E.get 2 rfl) fun a E => ?_
    refine env_skip (d := 25) (g := 16) (s := 21) E rfl (by decide) rfl rfl rfl (by decide) (E.get 3 rfl) fun a E => ?_
    refine env_skip (d := 26) (g := 16) (s := 21) E rfl (by decide) rfl rfl rfl (by decide) (E.get 4 rfl) fun a E => ?_
    refine env_skip (d := 27) (g := 16) (s := 21) E rfl (by decide) rfl rfl rfl (by decide) (E.get 5 rfl) fun a E => ?_
    refine env_skip (d := 28) (g := 16) (s := 21) E rfl (by decide) rfl rfl rfl (by decide) (E.get 6 rfl) fun a E => ?_
    refine env_put (d := 29) (v := .bool false) E rfl (by decide) rfl (wanted_none rfl _) (run_pick_f rfl (E.get 7 rfl) rfl) fun a E => ?_
    refine env_put (d := 30) (v := .bool false) E rfl (by decide) rfl (wanted_none rfl _) (run_move rfl (E.get 0 rfl)) fun a E => ?_
    refine env_skip (d := 31) (g := 25) (s := 30) E rfl (by decide) rfl rfl rfl (by decide) (E.get 0 rfl) fun a E => ?_
    refine env_skip (d := 32) (g := 25) (s := 30) E rfl (by decide) rfl rfl rfl (by decide) (E.get 1 rfl) fun a E => ?_
    refine env_skip (d := 33) (g := 25) (s := 30) E rfl (by decide) rfl rfl rfl (by decide) (E.get 2 rfl) fun a E => ?_
    refine env_skip (d := 34) (g := 25) (s := 30) E rfl (by decide) rfl rfl rfl (by decide) (E.get 3 rfl) fun a E => ?_
    refine env_skip (d := 35) (g := 25) (s := 30) E rfl (by decide) rfl rfl rfl (by decide) (E.get 4 rfl) fun a E => ?_
    refine env_skip (d := 36) (g := 25) (s := 30) E rfl (by decide) rfl rfl rfl (by decide) (E.get 5 rfl) fun a E => ?_
    refine env_skip (d := 37) (g := 25) (s := 30) E rfl (by decide) rfl rfl rfl (by decide) (E.get 6 rfl) fun a E => ?_
    refine env_put (d := 38) (v := .bool false) E rfl (by decide) rfl (wanted_none rfl _) (run_pick_f rfl (E.get 7 rfl) rfl) fun a E => ?_
    refine env_set (d := 4) (v := .bool false) E rfl (by decide) (wanted_none rfl _) (run_assign rfl (E.get 0 rfl)) fun a E => ?_
    refine wpList_nil ?_
    refine then_n ?_
    refine wp_ret ?_
    refine ret_tmp (t := 4) rfl E (E.get 0 rfl) ⟨?_, hf⟩
    congr 2
    have khq15 := of_decide_eq_false hq15
    exact (decide_eq_false (by unfold mtB; first | omega | (simp only [*]; omega) | simp [*])).symm
  | true =>
    rw [hq15] at E
    refine env_put (d := 13) (v := .pointer (some ⟨b14, 0, none⟩)) E rfl (by decide) rfl (w_yes (g := 7) (s := 12) E rfl rfl (by decide) (E.get 0 rfl)) (fa26_0 rfl (E.get 9 rfl)) fun a E => ?_
    refine env_put (d := 14) (v := .pointer (some ⟨b14, 0, none⟩)) E rfl (by decide) rfl (w_yes (g := 7) (s := 12) E rfl rfl (by decide) (E.get 1 rfl)) (fa24_0 rfl (E.get 0 rfl)) fun a E => ?_
    refine env_put (d := 15) (v := .int .i64 q.1.1) E rfl (by decide) rfl (w_yes (g := 7) (s := 12) E rfl rfl (by decide) (E.get 2 rfl)) (run_ldi rfl (E.get 0 rfl) (bx hb14 0 rfl)) fun a E => ?_
    refine env_put (d := 16) (v := .pointer (some ⟨b13, 2, none⟩)) E rfl (by decide) rfl (w_yes (g := 7) (s := 12) E rfl rfl (by decide) (E.get 3 rfl)) (fa26_1 rfl (E.get 13 rfl)) fun a E => ?_
    refine env_put (d := 17) (v := .pointer (some ⟨b13, 2, none⟩)) E rfl (by decide) rfl (w_yes (g := 7) (s := 12) E rfl rfl (by decide) (E.get 4 rfl)) (fa24_0 rfl (E.get 0 rfl)) fun a E => ?_
    refine env_put (d := 18) (v := .int .i64 p.2.1) E rfl (by decide) rfl (w_yes (g := 7) (s := 12) E rfl rfl (by decide) (E.get 5 rfl)) (run_ldi rfl (E.get 0 rfl) (bx hb13 2 rfl)) fun a E => ?_
    refine env_put (d := 19) (v := .bool (decide (q.1.1 ≤ p.2.1))) E rfl (by decide) rfl (w_yes (g := 7) (s := 12) E rfl rfl (by decide) (E.get 6 rfl)) (run_ileq (E.get 3 rfl) (E.get 0 rfl) Try.underlying3 rfl) fun a E => ?_
    refine env_put (d := 20) (v := .bool (decide (q.1.1 ≤ p.2.1))) E rfl (by decide) rfl (wanted_none rfl _) (run_pick_t rfl (E.get 7 rfl) (E.get 0 rfl)) fun a E => ?_
    refine env_put (d := 21) (v := .bool (decide (q.1.1 ≤ p.2.1))) E rfl (by decide) rfl (wanted_none rfl _) (run_move rfl (E.get 0 rfl)) fun a E => ?_
    cases hq16 : (decide (q.1.1 ≤ p.2.1)) with
    | false =>
      rw [hq16] at E
      refine env_skip (d := 22) (g := 16) (s := 21) E rfl (by decide) rfl rfl rfl (by decide) (E.get 0 rfl) fun a E => ?_
      refine env_skip (d := 23) (g := 16) (s := 21) E rfl (by decide) rfl rfl rfl (by decide) (E.get 1 rfl) fun a E => ?_
      refine env_skip (d := 24) (g := 16) (s := 21) E rfl (by decide) rfl rfl rfl (by decide) (E.get 2 rfl) fun a E => ?_
      refine env_skip (d := 25) (g := 16) (s := 21) E rfl (by decide) rfl rfl rfl (by decide) (E.get 3 rfl) fun a E => ?_
      refine env_skip (d := 26) (g := 16) (s := 21) E rfl (by decide) rfl rfl rfl (by decide) (E.get 4 rfl) fun a E => ?_
      refine env_skip (d := 27) (g := 16) (s := 21) E rfl (by decide) rfl rfl rfl (by decide) (E.get 5 rfl) fun a E => ?_
      refine env_skip (d := 28) (g := 16) (s := 21) E rfl (by decide) rfl rfl rfl (by decide) (E.get 6 rfl) fun a E => ?_
      refine env_put (d := 29) (v := .bool false) E rfl (by decide) rfl (wanted_none rfl _) (run_pick_f rfl (E.get 7 rfl) rfl) fun a E => ?_
      refine env_put (d := 30) (v := .bool false) E rfl (by decide) rfl (wanted_none rfl _) (run_move rfl (E.get 0 rfl)) fun a E => ?_
      refine env_skip (d := 31) (g := 25) (s := 30) E rfl (by decide) rfl rfl rfl (by decide) (E.get 0 rfl) fun a E => ?_
      refine env_skip (d := 32) (g := 25) (s := 30) E rfl (by decide) rfl rfl rfl (by decide) (E.get 1 rfl) fun a E => ?_
      refine env_skip (d := 33) (g := 25) (s := 30) E rfl (by decide) rfl rfl rfl (by decide) (E.get 2 rfl) fun a E => ?_
      refine env_skip (d := 34) (g := 25) (s := 30) E rfl (by decide) rfl rfl rfl (by decide) (E.get 3 rfl) fun a E => ?_
      refine env_skip (d := 35) (g := 25) (s := 30) E rfl (by decide) rfl rfl rfl (by decide) (E.get 4 rfl) fun a E => ?_
      refine env_skip (d := 36) (g := 25) (s := 30) E rfl (by decide) rfl rfl rfl (by decide) (E.get 5 rfl) fun a E => ?_
      refine env_skip (d := 37) (g := 25) (s := 30) E rfl (by decide) rfl rfl rfl (by decide) (E.get 6 rfl) fun a E => ?_
      refine env_put (d := 38) (v := .bool false) E rfl (by decide) rfl (wanted_none rfl _) (run_pick_f rfl (E.get 7 rfl) rfl) fun a E => ?_
      refine env_set (d := 4) (v := .bool false) E rfl (by decide) (wanted_none rfl _) (run_assign rfl (E.get 0 rfl)) fun a E => ?_
      refine wpList_nil ?_
      refine then_n ?_
      refine wp_ret ?_
      refine ret_tmp (t := 4) rfl E (E.get 0 rfl) ⟨?_, hf⟩
      congr 2
      have khq15 := of_decide_eq_true hq15
      have khq16 := of_decide_eq_false hq16
      exact (decide_eq_false (by unfold mtB; first | omega | (simp only [*]; omega) | simp [*])).symm
    | true =>
      rw [hq16] at E
      refine env_put (d := 22) (v := .pointer (some ⟨b13, 0, none⟩)) E rfl (by decide) rfl (w_yes (g := 16) (s := 21) E rfl rfl (by decide) (E.get 0 rfl)) (fa26_0 rfl (E.get 19 rfl)) fun a E => ?_
      refine env_put (d := 23) (v := .pointer (some ⟨b13, 1, none⟩)) E rfl (by decide) rfl (w_yes (g := 16) (s := 21) E rfl rfl (by decide) (E.get 1 rfl)) (fa24_1 rfl (E.get 0 rfl)) fun a E => ?_
      refine env_put (d := 24) (v := .int .i64 p.1.2) E rfl (by decide) rfl (w_yes (g := 16) (s := 21) E rfl rfl (by decide) (E.get 2 rfl)) (run_ldi rfl (E.get 0 rfl) (bx hb13 1 rfl)) fun a E => ?_
      refine env_put (d := 25) (v := .pointer (some ⟨b14, 2, none⟩)) E rfl (by decide) rfl (w_yes (g := 16) (s := 21) E rfl rfl (by decide) (E.get 3 rfl)) (fa26_1 rfl (E.get 21 rfl)) fun a E => ?_
      refine env_put (d := 26) (v := .pointer (some ⟨b14, 3, none⟩)) E rfl (by decide) rfl (w_yes (g := 16) (s := 21) E rfl rfl (by decide) (E.get 4 rfl)) (fa24_1 rfl (E.get 0 rfl)) fun a E => ?_
      refine env_put (d := 27) (v := .int .i64 q.2.2) E rfl (by decide) rfl (w_yes (g := 16) (s := 21) E rfl rfl (by decide) (E.get 5 rfl)) (run_ldi rfl (E.get 0 rfl) (bx hb14 3 rfl)) fun a E => ?_
      refine env_put (d := 28) (v := .bool (decide (p.1.2 ≤ q.2.2))) E rfl (by decide) rfl (w_yes (g := 16) (s := 21) E rfl rfl (by decide) (E.get 6 rfl)) (run_ileq (E.get 3 rfl) (E.get 0 rfl) Try.underlying3 rfl) fun a E => ?_
      refine env_put (d := 29) (v := .bool (decide (p.1.2 ≤ q.2.2))) E rfl (by decide) rfl (wanted_none rfl _) (run_pick_t rfl (E.get 7 rfl) (E.get 0 rfl)) fun a E => ?_
      refine env_put (d := 30) (v := .bool (decide (p.1.2 ≤ q.2.2))) E rfl (by decide) rfl (wanted_none rfl _) (run_move rfl (E.get 0 rfl)) fun a E => ?_
      cases hq17 : (decide (p.1.2 ≤ q.2.2)) with
      | false =>
        rw [hq17] at E
        refine env_skip (d := 31) (g := 25) (s := 30) E rfl (by decide) rfl rfl rfl (by decide) (E.get 0 rfl) fun a E => ?_
        refine env_skip (d := 32) (g := 25) (s := 30) E rfl (by decide) rfl rfl rfl (by decide) (E.get 1 rfl) fun a E => ?_
        refine env_skip (d := 33) (g := 25) (s := 30) E rfl (by decide) rfl rfl rfl (by decide) (E.get 2 rfl) fun a E => ?_
        refine env_skip (d := 34) (g := 25) (s := 30) E rfl (by decide) rfl rfl rfl (by decide) (E.get 3 rfl) fun a E => ?_
        refine env_skip (d := 35) (g := 25) (s := 30) E rfl (by decide) rfl rfl rfl (by decide) (E.get 4 rfl) fun a E => ?_
        refine env_skip (d := 36) (g := 25) (s := 30) E rfl (by decide) rfl rfl rfl (by decide) (E.get 5 rfl) fun a E => ?_
        refine env_skip (d := 37) (g := 25) (s := 30) E rfl (by decide) rfl rfl rfl (by decide) (E.get 6 rfl) fun a E => ?_
        refine env_put (d := 38) (v := .bool false) E rfl (by decide) rfl (wanted_none rfl _) (run_pick_f rfl (E.get 7 rfl) rfl) fun a E => ?_
        refine env_set (d := 4) (v := .bool false) E rfl (by decide) (wanted_none rfl _) (run_assign rfl (E.get 0 rfl)) fun a E => ?_
        refine wpList_nil ?_
        refine then_n ?_
        refine wp_ret ?_
        refine ret_tmp (t := 4) rfl E (E.get 0 rfl) ⟨?_, hf⟩
        congr 2
        have khq15 := of_decide_eq_true hq15
        have khq16 := of_decide_eq_true hq16
        have khq17 := of_decide_eq_false hq17
        exact (decide_eq_false (by unfold mtB; first | omega | (simp only [*]; omega) | simp [*])).symm
      | true =>
        rw [hq17] at E
        refine env_put (d := 31) (v := .pointer (some ⟨b14, 0, none⟩)) E rfl (by decide) rfl (w_yes (g := 25) (s := 30) E rfl rfl (by decide) (E.get 0 rfl)) (fa26_0 rfl (E.get 27 rfl)) fun a E => ?_
        refine env_put (d := 32) (v := .pointer (some ⟨b14, 1, none⟩)) E rfl (by decide) rfl (w_yes (g := 25) (s := 30) E rfl rfl (by decide) (E.get 1 rfl)) (fa24_1 rfl (E.get 0 rfl)) fun a E => ?_
        refine env_put (d := 33) (v := .int .i64 q.1.2) E rfl (by decide) rfl (w_yes (g := 25) (s := 30) E rfl rfl (by decide) (E.get 2 rfl)) (run_ldi rfl (E.get 0 rfl) (bx hb14 1 rfl)) fun a E => ?_
        refine env_put (d := 34) (v := .pointer (some ⟨b13, 2, none⟩)) E rfl (by decide) rfl (w_yes (g := 25) (s := 30) E rfl rfl (by decide) (E.get 3 rfl)) (fa26_1 rfl (E.get 31 rfl)) fun a E => ?_
        refine env_put (d := 35) (v := .pointer (some ⟨b13, 3, none⟩)) E rfl (by decide) rfl (w_yes (g := 25) (s := 30) E rfl rfl (by decide) (E.get 4 rfl)) (fa24_1 rfl (E.get 0 rfl)) fun a E => ?_
        refine env_put (d := 36) (v := .int .i64 p.2.2) E rfl (by decide) rfl (w_yes (g := 25) (s := 30) E rfl rfl (by decide) (E.get 5 rfl)) (run_ldi rfl (E.get 0 rfl) (bx hb13 3 rfl)) fun a E => ?_
        refine env_put (d := 37) (v := .bool (decide (q.1.2 ≤ p.2.2))) E rfl (by decide) rfl (w_yes (g := 25) (s := 30) E rfl rfl (by decide) (E.get 6 rfl)) (run_ileq (E.get 3 rfl) (E.get 0 rfl) Try.underlying3 rfl) fun a E => ?_
        refine env_put (d := 38) (v := .bool (decide (q.1.2 ≤ p.2.2))) E rfl (by decide) rfl (wanted_none rfl _) (run_pick_t rfl (E.get 7 rfl) (E.get 0 rfl)) fun a E => ?_
        refine env_set (d := 4) (v := .bool (decide (q.1.2 ≤ p.2.2))) E rfl (by decide) (wanted_none rfl _) (run_assign rfl (E.get 0 rfl)) fun a E => ?_
        refine wpList_nil ?_
        refine then_n ?_
        refine wp_ret ?_
        refine ret_tmp (t := 4) rfl E (E.get 0 rfl) ⟨?_, hf⟩
        have khq15 := of_decide_eq_true hq15
        have khq16 := of_decide_eq_true hq16
        have khq17 := of_decide_eq_true hq17
        congr 2
        exact decide_eq_decide.2 (by unfold mtB; first | omega | (simp only [*]; omega) | simp [*])
/-- The squared distance. -/
def dx (lo hi p : Int) : Int := max (max (lo - p) (p - hi)) 0
def dsB (b : Bx) (p : Pt) : Int := dx b.1.1 b.2.1 p.1 * dx b.1.1 b.2.1 p.1 + dx b.1.2 b.2.2 p.2 * dx b.1.2 b.2.2 p.2
end Go.Proofs.Ytcafnanbdmapgaa
