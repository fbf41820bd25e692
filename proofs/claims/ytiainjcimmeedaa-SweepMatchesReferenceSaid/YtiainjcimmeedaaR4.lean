/- planisphereref03.Orient. -/
import Derived.Test.YtiainjcimmeedaaR3
set_option linter.unusedVariables false
set_option linter.unusedSimpArgs false
namespace Go.Pl
theorem wp_start3 {P : Program} {f : FuncId} {fn : Func} {c : Code} {R : Ending → World → Prop} {n : Nat} {w : World} {v0 v1 v2 : Value} (hf : P.funcs[f]? = some fn) (hb : fn.body = some c) (hn : fn.ntmps = n) (h2 : 3 ≤ n) (k : ∀ a, Env n [(0, v0), (1, v1), (2, v2)] a → c.wp P (bodyPost P fn R) a w) : Calls P f #[v0, v1, v2] w R := by
  refine calls_of_wp hf hb (k _ ⟨?_, ?_, rfl⟩)
  · simp [hn]; omega
  · intro x hx
    simp only [List.mem_cons, List.not_mem_nil, or_false] at hx
    rcases hx with rfl | rfl | rfl
    · show (#[v0, v1, v2] ++ Array.replicate (fn.ntmps - 3) undef).getD 0 undef = v0
      rw [Array.getD_eq_getD_getElem?, Array.getElem?_append_left (by simp)]; rfl
    · show (#[v0, v1, v2] ++ Array.replicate (fn.ntmps - 3) undef).getD 1 undef = v1
      rw [Array.getD_eq_getD_getElem?, Array.getElem?_append_left (by simp)]; rfl
    · show (#[v0, v1, v2] ++ Array.replicate (fn.ntmps - 3) undef).getD 2 undef = v2
      rw [Array.getD_eq_getD_getElem?, Array.getElem?_append_left (by simp)]; rfl
end Go.Pl
namespace Go.Proofs.Ytiainjcimmeedaa
open Go.RowKit Go.Pl Go.Geo

set_option maxRecDepth 100000 in
theorem ror_calls (p q r : Pt) (w : World) : Calls Try.prog 40 #[.agg (ptC p), .agg (ptC q), .agg (ptC r)] w fun e w' => e = .returned (.int .i64 (oriN p q r)) ∧ Fr (fun _ => False) w w' := by
  refine wp_start3 Try.func40 rfl rfl (n := 25) (by decide) fun a E => ?_
  refine wp_seq ?_
  refine wp_region_lit ?_
  refine env_box32 (d := 3) E rfl (by decide) rfl (wanted_none rfl _) rfl (E.get 0 rfl) fun a w1 b0 _ hb0 f1 E => ?_
  have hf := f1
  clear f1
  refine env_box32 (d := 4) E rfl (by decide) rfl (wanted_none rfl _) rfl (E.get 2 rfl) fun a w1 b1 _ hb1 f1 E => ?_
  have hb0 := ptB.fr hb0 f1 id
  have hf := hf.trans f1
  clear f1
  refine env_box32 (d := 5) E rfl (by decide) rfl (wanted_none rfl _) rfl (E.get 4 rfl) fun a w1 b2 _ hb2 f1 E => ?_
  have hb0 := ptB.fr hb0 f1 id
  have hb1 := ptB.fr hb1 f1 id
  have hf := hf.trans f1
  clear f1
  refine env_put (d := 6) (v := .int .i64 0) E rfl (by decide) rfl (wanted_none rfl _) (run_assign rfl rfl) fun a E => ?_
  refine wpList_nil ?_
  refine then_n ?_
  refine wp_seq ?_
  refine wp_seq ?_
  refine wp_region_lit ?_
  refine env_put (d := 7) (v := .agg (ptC p)) E rfl (by decide) rfl (wanted_none rfl _) (ld_pt rfl (E.get 3 rfl) hb0) fun a E => ?_
  refine env_call (d := 8) (v := .bool (decide (nearP p))) E rfl (by decide) rfl (wanted_none rfl _) (run_call1 (enters_of Try.func15 (by kernel_rfl) rfl) rfl rfl (E.get 0 rfl)) (is_calls _ _) fun a w1 f1 E => ?_
  have hb0 := ptB.fr hb0 f1 id
  have hb1 := ptB.fr hb1 f1 id
  have hb2 := ptB.fr hb2 f1 id
  have hf := hf.trans f1
  clear f1
  cases h1 : decide (nearP p) with
  | false =>
    rw [h1] at E
    refine env_put (d := 9) (v := .bool true) E rfl (by decide) rfl (wanted_none rfl _) (run_not rfl (E.get 0 rfl)) fun a E => ?_
    refine env_put (d := 10) (v := .bool true) E rfl (by decide) rfl (wanted_none rfl _) (run_move rfl (E.get 0 rfl)) fun a E => ?_
    refine env_skip (d := 11) E rfl (by decide) rfl rfl rfl (by decide) (E.get 0 rfl) fun a E => ?_
    refine env_skip (d := 12) E rfl (by decide) rfl rfl rfl (by decide) (E.get 1 rfl) fun a E => ?_
    refine env_skip (d := 13) E rfl (by decide) rfl rfl rfl (by decide) (E.get 2 rfl) fun a E => ?_
    refine env_put (d := 14) (v := .bool true) E rfl (by decide) rfl (wanted_none rfl _) (run_pick_t rfl (E.get 3 rfl) rfl) fun a E => ?_
    refine env_put (d := 15) (v := .bool true) E rfl (by decide) rfl (wanted_none rfl _) (run_move rfl (E.get 0 rfl)) fun a E => ?_
    refine env_skip (d := 16) E rfl (by decide) rfl rfl rfl (by decide) (E.get 0 rfl) fun a E => ?_
    refine env_skip (d := 17) E rfl (by decide) rfl rfl rfl (by decide) (E.get 1 rfl) fun a E => ?_
    refine env_skip (d := 18) E rfl (by decide) rfl rfl rfl (by decide) (E.get 2 rfl) fun a E => ?_
    refine env_put (d := 19) (v := .bool true) E rfl (by decide) rfl (wanted_none rfl _) (run_pick_t rfl (E.get 3 rfl) rfl) fun a E => ?_
    refine wpList_nil ?_
    refine then_n ?_
    refine wp_cond_true (E.get 0 rfl) ?_
    refine wp_seq ?_
    refine wp_region_lit ?_
    refine env_set (d := 6) (v := .int .i64 0) E rfl (by decide) (wanted_none rfl _) (run_assign rfl rfl) fun a E => ?_
    refine wpList_nil ?_
    refine then_n ?_
    refine wp_ret ?_
    refine then_r ?_
    refine ret_tmp (t := 6) rfl E (E.get 0 rfl) ⟨?_, hf⟩
    unfold oriN; rw [if_neg (fun h => of_decide_eq_false h1 (h p (by simp)))]
  | true =>
    rw [h1] at E
    refine env_put (d := 9) (v := .bool false) E rfl (by decide) rfl (wanted_none rfl _) (run_not rfl (E.get 0 rfl)) fun a E => ?_
    refine env_put (d := 10) (v := .bool false) E rfl (by decide) rfl (wanted_none rfl _) (run_move rfl (E.get 0 rfl)) fun a E => ?_
    refine env_put (d := 11) (v := .agg (ptC q)) E rfl (by decide) rfl (w_yes E rfl rfl (by decide) (E.get 0 rfl)) (ld_pt rfl (E.get 6 rfl) hb1) fun a E => ?_
    refine env_call (d := 12) (v := .bool (decide (nearP q))) E rfl (by decide) rfl (w_yes E rfl rfl (by decide) (E.get 1 rfl)) (run_call1 (enters_of Try.func15 (by kernel_rfl) rfl) rfl rfl (E.get 0 rfl)) (is_calls _ _) fun a w1 f1 E => ?_
    have hb0 := ptB.fr hb0 f1 id
    have hb1 := ptB.fr hb1 f1 id
    have hb2 := ptB.fr hb2 f1 id
    have hf := hf.trans f1
    clear f1
    cases h2 : decide (nearP q) with
    | false =>
      rw [h2] at E
      refine env_put (d := 13) (v := .bool true) E rfl (by decide) rfl (w_yes E rfl rfl (by decide) (E.get 2 rfl)) (run_not rfl (E.get 0 rfl)) fun a E => ?_
      refine env_put (d := 14) (v := .bool true) E rfl (by decide) rfl (wanted_none rfl _) (run_pick_f rfl (E.get 3 rfl) (E.get 0 rfl)) fun a E => ?_
      refine env_put (d := 15) (v := .bool true) E rfl (by decide) rfl (wanted_none rfl _) (run_move rfl (E.get 0 rfl)) fun a E => ?_
      refine env_skip (d := 16) E rfl (by decide) rfl rfl rfl (by decide) (E.get 0 rfl) fun a E => ?_
      refine env_skip (d := 17) E rfl (by decide) rfl rfl rfl (by decide) (E.get 1 rfl) fun a E => ?_
      refine env_skip (d := 18) E rfl (by decide) rfl rfl rfl (by decide) (E.get 2 rfl) fun a E => ?_
      refine env_put (d := 19) (v := .bool true) E rfl (by decide) rfl (wanted_none rfl _) (run_pick_t rfl (E.get 3 rfl) rfl) fun a E => ?_
      refine wpList_nil ?_
      refine then_n ?_
      refine wp_cond_true (E.get 0 rfl) ?_
      refine wp_seq ?_
      refine wp_region_lit ?_
      refine env_set (d := 6) (v := .int .i64 0) E rfl (by decide) (wanted_none rfl _) (run_assign rfl rfl) fun a E => ?_
      refine wpList_nil ?_
      refine then_n ?_
      refine wp_ret ?_
      refine then_r ?_
      refine ret_tmp (t := 6) rfl E (E.get 0 rfl) ⟨?_, hf⟩
      unfold oriN; rw [if_neg (fun h => of_decide_eq_false h2 (h q (by simp)))]
    | true =>
      rw [h2] at E
      refine env_put (d := 13) (v := .bool false) E rfl (by decide) rfl (w_yes E rfl rfl (by decide) (E.get 2 rfl)) (run_not rfl (E.get 0 rfl)) fun a E => ?_
      refine env_put (d := 14) (v := .bool false) E rfl (by decide) rfl (wanted_none rfl _) (run_pick_f rfl (E.get 3 rfl) (E.get 0 rfl)) fun a E => ?_
      refine env_put (d := 15) (v := .bool false) E rfl (by decide) rfl (wanted_none rfl _) (run_move rfl (E.get 0 rfl)) fun a E => ?_
      refine env_put (d := 16) (v := .agg (ptC r)) E rfl (by decide) rfl (w_yes E rfl rfl (by decide) (E.get 0 rfl)) (ld_pt rfl (E.get 10 rfl) hb2) fun a E => ?_
      refine env_call (d := 17) (v := .bool (decide (nearP r))) E rfl (by decide) rfl (w_yes E rfl rfl (by decide) (E.get 1 rfl)) (run_call1 (enters_of Try.func15 (by kernel_rfl) rfl) rfl rfl (E.get 0 rfl)) (is_calls _ _) fun a w1 f1 E => ?_
      have hb0 := ptB.fr hb0 f1 id
      have hb1 := ptB.fr hb1 f1 id
      have hb2 := ptB.fr hb2 f1 id
      have hf := hf.trans f1
      clear f1
      cases h3 : decide (nearP r) with
      | false =>
        rw [h3] at E
        refine env_put (d := 18) (v := .bool true) E rfl (by decide) rfl (w_yes E rfl rfl (by decide) (E.get 2 rfl)) (run_not rfl (E.get 0 rfl)) fun a E => ?_
        refine env_put (d := 19) (v := .bool true) E rfl (by decide) rfl (wanted_none rfl _) (run_pick_f rfl (E.get 3 rfl) (E.get 0 rfl)) fun a E => ?_
        refine wpList_nil ?_
        refine then_n ?_
        refine wp_cond_true (E.get 0 rfl) ?_
        refine wp_seq ?_
        refine wp_region_lit ?_
        refine env_set (d := 6) (v := .int .i64 0) E rfl (by decide) (wanted_none rfl _) (run_assign rfl rfl) fun a E => ?_
        refine wpList_nil ?_
        refine then_n ?_
        refine wp_ret ?_
        refine then_r ?_
        refine ret_tmp (t := 6) rfl E (E.get 0 rfl) ⟨?_, hf⟩
        unfold oriN; rw [if_neg (fun h => of_decide_eq_false h3 (h r (by simp)))]
      | true =>
        rw [h3] at E
        refine env_put (d := 18) (v := .bool false) E rfl (by decide) rfl (w_yes E rfl rfl (by decide) (E.get 2 rfl)) (run_not rfl (E.get 0 rfl)) fun a E => ?_
        refine env_put (d := 19) (v := .bool false) E rfl (by decide) rfl (wanted_none rfl _) (run_pick_f rfl (E.get 3 rfl) (E.get 0 rfl)) fun a E => ?_
        refine wpList_nil ?_
        refine then_n ?_
        refine wp_cond_false (E.get 0 rfl) ?_
        refine wp_skip ?_
        refine then_n ?_
        have n1 := of_decide_eq_true h1
        have n2 := of_decide_eq_true h2
        have n3 := of_decide_eq_true h3
        refine wp_seq ?_
        refine wp_region_lit ?_
        refine env_put (d := 20) (v := .agg (ptC p)) E rfl (by decide) rfl (wanted_none rfl _) (ld_pt rfl (E.get 16 rfl) hb0) fun a E => ?_
        refine env_put (d := 21) (v := .agg (ptC q)) E rfl (by decide) rfl (wanted_none rfl _) (ld_pt rfl (E.get 16 rfl) hb1) fun a E => ?_
        refine env_put (d := 22) (v := .agg (ptC r)) E rfl (by decide) rfl (wanted_none rfl _) (ld_pt rfl (E.get 16 rfl) hb2) fun a E => ?_
        refine env_call (d := 23) (v := .int .i64 (crs p q r)) E rfl (by decide) rfl (wanted_none rfl _) (run_call3 (enters_of Try.func63 (by kernel_rfl) rfl) rfl rfl (E.get 2 rfl) (E.get 1 rfl) (E.get 0 rfl)) (rcross_calls p q r n1 n2 n3 _) fun a w1 f1 E => ?_
        have hf := hf.trans f1
        clear f1
        refine env_call (d := 24) (v := .int .i64 (ori p q r)) E rfl (by decide) rfl (wanted_none rfl _) (run_call1 (enters_of Try.func64 (by kernel_rfl) rfl) rfl rfl (E.get 0 rfl)) (rsign_calls _ _) fun a w1 f1 E => ?_
        have hf := hf.trans f1
        clear f1
        refine env_set (d := 6) (v := .int .i64 (ori p q r)) E rfl (by decide) (wanted_none rfl _) (run_assign rfl (E.get 0 rfl)) fun a E => ?_
        refine wpList_nil ?_
        refine then_n ?_
        refine wp_ret ?_
        refine ret_tmp (t := 6) rfl E (E.get 0 rfl) ⟨?_, hf⟩
        unfold oriN; rw [if_pos (by intro x hx; simp only [List.mem_cons, List.not_mem_nil, or_false] at hx; rcases hx with rfl | rfl | rfl <;> assumption)]
end Go.Proofs.Ytiainjcimmeedaa
