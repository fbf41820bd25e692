/- planisphereref03.end. -/
import Derived.Test.YtiainjcimmeedaaR2
set_option linter.unusedVariables false
set_option linter.unusedSimpArgs false
namespace Go.Proofs.Ytiainjcimmeedaa
open Go.RowKit Go.Pl Go.Geo

set_option maxRecDepth 100000 in
theorem rend_calls (s : Sg) (p : Pt) (w : World) : Calls Try.prog 39 #[.agg (sgC s), .agg (ptC p)] w fun e w' => e = .returned (.bool (decide (p = s.1 ∨ p = s.2))) ∧ Fr (fun _ => False) w w' := by
  refine wp_start2 Try.func39 rfl rfl (n := 15) (by decide) fun a E => ?_
  refine wp_seq ?_
  refine wp_region_lit ?_
  refine env_box34 (d := 2) E rfl (by decide) rfl (wanted_none rfl _) rfl (E.get 0 rfl) fun a w1 b _ hb hf E => ?_
  refine env_box32 (d := 3) E rfl (by decide) rfl (wanted_none rfl _) rfl (E.get 2 rfl) fun a w1 b2 _ hb2 f1 E => ?_
  have hb := sgB.fr hb f1 id
  have hf := hf.trans f1
  clear f1
  refine env_put (d := 4) (v := .bool false) E rfl (by decide) rfl (wanted_none rfl _) (run_assign rfl rfl) fun a E => ?_
  refine wpList_nil ?_
  refine then_n ?_
  refine wp_seq ?_
  refine wp_region_lit ?_
  refine env_put (d := 5) (v := .agg (ptC p)) E rfl (by decide) rfl (wanted_none rfl _) (ld_pt rfl (E.get 1 rfl) hb2) fun a E => ?_
  refine env_put (d := 6) (v := .pointer (some ⟨b, 0, none⟩)) E rfl (by decide) rfl (wanted_none rfl _) (fa34_0 rfl (E.get 3 rfl)) fun a E => ?_
  refine env_put (d := 7) (v := .agg (ptC s.1)) E rfl (by decide) rfl (wanted_none rfl _) (ld_sg1 rfl (E.get 0 rfl) hb) fun a E => ?_
  refine env_put (d := 8) (v := .bool (decide (p = s.1))) E rfl (by decide) rfl (wanted_none rfl _) (eql32 rfl (E.get 2 rfl) (E.get 0 rfl)) fun a E => ?_
  refine env_put (d := 9) (v := .bool (decide (p = s.1))) E rfl (by decide) rfl (wanted_none rfl _) (run_move rfl (E.get 0 rfl)) fun a E => ?_
  cases hq : decide (p = s.1) with
  | false =>
    rw [hq] at E
    refine env_put (d := 10) (v := .agg (ptC p)) E rfl (by decide) rfl (w_yes E rfl rfl (by decide) (E.get 0 rfl)) (ld_pt rfl (E.get 6 rfl) hb2) fun a E => ?_
    refine env_put (d := 11) (v := .pointer (some ⟨b, 2, none⟩)) E rfl (by decide) rfl (w_yes E rfl rfl (by decide) (E.get 1 rfl)) (fa34_1 rfl (E.get 8 rfl)) fun a E => ?_
    refine env_put (d := 12) (v := .agg (ptC s.2)) E rfl (by decide) rfl (w_yes E rfl rfl (by decide) (E.get 2 rfl)) (ld_sg2 rfl (E.get 0 rfl) hb) fun a E => ?_
    refine env_put (d := 13) (v := .bool (decide (p = s.2))) E rfl (by decide) rfl (w_yes E rfl rfl (by decide) (E.get 3 rfl)) (eql32 rfl (E.get 2 rfl) (E.get 0 rfl)) fun a E => ?_
    refine env_put (d := 14) (v := .bool (decide (p = s.2))) E rfl (by decide) rfl (wanted_none rfl _) (run_pick_f rfl (E.get 4 rfl) (E.get 0 rfl)) fun a E => ?_
    refine env_set (d := 4) (v := .bool (decide (p = s.2))) E rfl (by decide) (wanted_none rfl _) (run_assign rfl (E.get 0 rfl)) fun a E => ?_
    refine wpList_nil ?_
    refine then_n ?_
    refine wp_ret ?_
    refine ret_tmp (t := 4) rfl E (E.get 0 rfl) ⟨?_, hf⟩
    congr 2; exact decide_eq_decide.2 ⟨fun h => .inr h, fun h => h.resolve_left (of_decide_eq_false hq)⟩
  | true =>
    rw [hq] at E
    refine env_skip (d := 10) E rfl (by decide) rfl rfl rfl (by decide) (E.get 0 rfl) fun a E => ?_
    refine env_skip (d := 11) E rfl (by decide) rfl rfl rfl (by decide) (E.get 1 rfl) fun a E => ?_
    refine env_skip (d := 12) E rfl (by decide) rfl rfl rfl (by decide) (E.get 2 rfl) fun a E => ?_
    refine env_skip (d := 13) E rfl (by decide) rfl rfl rfl (by decide) (E.get 3 rfl) fun a E => ?_
    refine env_put (d := 14) (v := .bool true) E rfl (by decide) rfl (wanted_none rfl _) (run_pick_t rfl (E.get 4 rfl) rfl) fun a E => ?_
    refine env_set (d := 4) (v := .bool true) E rfl (by decide) (wanted_none rfl _) (run_assign rfl (E.get 0 rfl)) fun a E => ?_
    refine wpList_nil ?_
    refine then_n ?_
    refine wp_ret ?_
    refine ret_tmp (t := 4) rfl E (E.get 0 rfl) ⟨?_, hf⟩
    rw [decide_eq_true]; exact .inl (of_decide_eq_true hq)
end Go.Proofs.Ytiainjcimmeedaa
