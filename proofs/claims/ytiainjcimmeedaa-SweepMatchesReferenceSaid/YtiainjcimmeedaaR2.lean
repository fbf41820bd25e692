/- planisphereref03.Segment. -/
import Derived.Test.YtiainjcimmeedaaR1
set_option linter.unusedVariables false
set_option linter.unusedSimpArgs false
namespace Go.Proofs.Ytiainjcimmeedaa
open Go.RowKit Go.Pl Go.Geo

set_option maxRecDepth 100000 in
theorem seg_calls (s : Sg) (w : World) : Calls Try.prog 16 #[.agg (sgC s)] w fun e w' => e = .returned (.bool (decide (nearS s))) ∧ Fr (fun _ => False) w w' := by
  refine wp_start1 Try.func16 rfl rfl (n := 11) (by decide) fun a E => ?_
  refine wp_seq ?_
  refine wp_region_lit ?_
  refine env_box34 (d := 1) E rfl (by decide) rfl (wanted_none rfl _) rfl (E.get 0 rfl) fun a w1 b _ hb hf E => ?_
  refine env_put (d := 2) (v := .bool false) E rfl (by decide) rfl (wanted_none rfl _) (run_assign rfl rfl) fun a E => ?_
  refine wpList_nil ?_
  refine then_n ?_
  refine wp_seq ?_
  refine wp_region_lit ?_
  refine env_put (d := 3) (v := .pointer (some ⟨b, 0, none⟩)) E rfl (by decide) rfl (wanted_none rfl _) (fa34_0 rfl (E.get 1 rfl)) fun a E => ?_
  refine env_put (d := 4) (v := .agg (ptC s.1)) E rfl (by decide) rfl (wanted_none rfl _) (ld_sg1 rfl (E.get 0 rfl) hb) fun a E => ?_
  refine env_call (d := 5) (v := .bool (decide (nearP s.1))) E rfl (by decide) rfl (wanted_none rfl _) (run_call1 (enters_of Try.func15 (by kernel_rfl) rfl) rfl rfl (E.get 0 rfl)) (is_calls _ _) fun a w1 f1 E => ?_
  have hb := sgB.fr hb f1 id
  have hf := hf.trans f1
  clear f1
  refine env_put (d := 6) (v := .bool (decide (nearP s.1))) E rfl (by decide) rfl (wanted_none rfl _) (run_move rfl (E.get 0 rfl)) fun a E => ?_
  cases hq : decide (nearP s.1) with
  | true =>
    rw [hq] at E
    refine env_put (d := 7) (v := .pointer (some ⟨b, 2, none⟩)) E rfl (by decide) rfl (w_yes E rfl rfl (by decide) (E.get 0 rfl)) (fa34_1 rfl (E.get 5 rfl)) fun a E => ?_
    refine env_put (d := 8) (v := .agg (ptC s.2)) E rfl (by decide) rfl (w_yes E rfl rfl (by decide) (E.get 1 rfl)) (ld_sg2 rfl (E.get 0 rfl) hb) fun a E => ?_
    refine env_call (d := 9) (v := .bool (decide (nearP s.2))) E rfl (by decide) rfl (w_yes E rfl rfl (by decide) (E.get 2 rfl)) (run_call1 (enters_of Try.func15 (by kernel_rfl) rfl) rfl rfl (E.get 0 rfl)) (is_calls _ _) fun a w1 f1 E => ?_
    have hf := hf.trans f1
    clear f1
    refine env_put (d := 10) (v := .bool (decide (nearP s.2))) E rfl (by decide) rfl (wanted_none rfl _) (run_pick_t rfl (E.get 3 rfl) (E.get 0 rfl)) fun a E => ?_
    refine env_set (d := 2) (v := .bool (decide (nearP s.2))) E rfl (by decide) (wanted_none rfl _) (run_assign rfl (E.get 0 rfl)) fun a E => ?_
    refine wpList_nil ?_
    refine then_n ?_
    refine wp_ret ?_
    refine ret_tmp (t := 2) rfl E (E.get 0 rfl) ⟨?_, hf⟩
    congr 2; exact decide_eq_decide.2 ⟨fun h => ⟨of_decide_eq_true hq, h⟩, fun h => h.2⟩
  | false =>
    rw [hq] at E
    refine env_skip (d := 7) E rfl (by decide) rfl rfl rfl (by decide) (E.get 0 rfl) fun a E => ?_
    refine env_skip (d := 8) E rfl (by decide) rfl rfl rfl (by decide) (E.get 1 rfl) fun a E => ?_
    refine env_skip (d := 9) E rfl (by decide) rfl rfl rfl (by decide) (E.get 2 rfl) fun a E => ?_
    refine env_put (d := 10) (v := .bool false) E rfl (by decide) rfl (wanted_none rfl _) (run_pick_f rfl (E.get 3 rfl) rfl) fun a E => ?_
    refine env_set (d := 2) (v := .bool false) E rfl (by decide) (wanted_none rfl _) (run_assign rfl (E.get 0 rfl)) fun a E => ?_
    refine wpList_nil ?_
    refine then_n ?_
    refine wp_ret ?_
    refine ret_tmp (t := 2) rfl E (E.get 0 rfl) ⟨?_, hf⟩
    rw [decide_eq_false]; exact fun h => of_decide_eq_false hq h.1
end Go.Proofs.Ytiainjcimmeedaa
