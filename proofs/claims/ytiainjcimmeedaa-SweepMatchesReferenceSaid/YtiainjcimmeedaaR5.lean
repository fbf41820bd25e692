/- planisphereref03.On. -/
import Derived.Test.YtiainjcimmeedaaR4
set_option linter.unusedVariables false
set_option linter.unusedSimpArgs false
namespace Go.Pl
theorem run_igeq {P : Program} {o : Oper} {w : World} {ρ : Operand → Value} {t t2 : TypeId} {k : IntKind} {x y : Operand} {m n : Int} (hx : ρ x = .int k m) (hy : ρ y = .int k n) (ht : P.underlying t = some (.int k)) (ho : o.op = .binOp .geq t x y t2) : (execOp ρ o).run P w = .ok (.value (.bool (decide (n ≤ m)))) w := by
  simp [execOp, ho, hx, hy, go_sem, ht]
end Go.Pl
namespace Go.Proofs.Ytiainjcimmeedaa
open Go.RowKit Go.Pl Go.Geo

instance (s : Sg) (p : Pt) : Decidable (onB s p) := by unfold onB; infer_instance
def ronP (s : Sg) (p : Pt) : Prop := (nearS s ∧ nearP p) ∧ onB s p
instance (s : Sg) (p : Pt) : Decidable (ronP s p) := by unfold ronP; infer_instance

set_option maxRecDepth 100000 in
set_option maxHeartbeats 2000000 in
theorem ron_calls (s : Sg) (p : Pt) (w : World) : Calls Try.prog 38 #[.agg (sgC s), .agg (ptC p)] w fun e w' => e = .returned (.bool (decide (ronP s p))) ∧ Fr (fun _ => False) w w' := by
  refine wp_start2 Try.func38 rfl rfl (n := 70) (by decide) fun a E => ?_
  refine wp_seq ?_
  refine wp_region_lit ?_
  refine env_box34 (d := 2) E rfl (by decide) rfl (wanted_none rfl _) rfl (E.get 0 rfl) fun a w1 b _ hb hf E => ?_
  refine env_box32 (d := 3) E rfl (by decide) rfl (wanted_none rfl _) rfl (E.get 2 rfl) fun a w1 b2 _ hb2 f1 E => ?_
  have hb := sgB.fr hb f1 id
  have hf := hf.trans f1
  clear f1
  refine env_put (d := 4) (v := .bool false) E rfl (by decide) rfl (wanted_none rfl _) (run_assign rfl rfl) fun a E => ?_
  refine wpList_nil ?_
  refine then_n ?_
  refine wp_seq ?_
  refine wp_seq ?_
  refine wp_region_lit ?_
  refine env_put (d := 6) (v := .agg (sgC s)) E rfl (by decide) rfl (wanted_none rfl _) (ld_sg rfl (E.get 2 rfl) hb) fun a E => ?_
  refine env_call (d := 7) (v := .bool (decide (nearS s))) E rfl (by decide) rfl (wanted_none rfl _) (run_call1 (enters_of Try.func16 (by kernel_rfl) rfl) rfl rfl (E.get 0 rfl)) (seg_calls _ _) fun a w1 f1 E => ?_
  have hb := sgB.fr hb f1 id
  have hb2 := ptB.fr hb2 f1 id
  have hf := hf.trans f1
  clear f1
  cases h1 : decide (nearS s) with
  | false =>
    rw [h1] at E
    refine env_put (d := 8) (v := .bool true) E rfl (by decide) rfl (wanted_none rfl _) (run_not rfl (E.get 0 rfl)) fun a E => ?_
    refine env_put (d := 9) (v := .bool true) E rfl (by decide) rfl (wanted_none rfl _) (run_move rfl (E.get 0 rfl)) fun a E => ?_
    refine env_skip (d := 10) E rfl (by decide) rfl rfl rfl (by decide) (E.get 0 rfl) fun a E => ?_
    refine env_skip (d := 11) E rfl (by decide) rfl rfl rfl (by decide) (E.get 1 rfl) fun a E => ?_
    refine env_skip (d := 12) E rfl (by decide) rfl rfl rfl (by decide) (E.get 2 rfl) fun a E => ?_
    refine env_put (d := 13) (v := .bool true) E rfl (by decide) rfl (wanted_none rfl _) (run_pick_t rfl (E.get 3 rfl) rfl) fun a E => ?_
    refine wpList_nil ?_
    refine then_n ?_
    refine wp_cond_true (E.get 0 rfl) ?_
    refine wp_seq ?_
    refine wp_region_lit ?_
    refine env_set (d := 4) (v := .bool false) E rfl (by decide) (wanted_none rfl _) (run_assign rfl rfl) fun a E => ?_
    refine wpList_nil ?_
    refine then_n ?_
    refine wp_ret ?_
    refine then_r ?_
    refine ret_tmp (t := 4) rfl E (E.get 0 rfl) ⟨?_, hf⟩
    rw [decide_eq_false]; exact fun h => of_decide_eq_false h1 h.1.1
  | true =>
    rw [h1] at E
    refine env_put (d := 8) (v := .bool false) E rfl (by decide) rfl (wanted_none rfl _) (run_not rfl (E.get 0 rfl)) fun a E => ?_
    refine env_put (d := 9) (v := .bool false) E rfl (by decide) rfl (wanted_none rfl _) (run_move rfl (E.get 0 rfl)) fun a E => ?_
    refine env_put (d := 10) (v := .agg (ptC p)) E rfl (by decide) rfl (w_yes E rfl rfl (by decide) (E.get 0 rfl)) (ld_pt rfl (E.get 5 rfl) hb2) fun a E => ?_
    refine env_call (d := 11) (v := .bool (decide (nearP p))) E rfl (by decide) rfl (w_yes E rfl rfl (by decide) (E.get 1 rfl)) (run_call1 (enters_of Try.func15 (by kernel_rfl) rfl) rfl rfl (E.get 0 rfl)) (is_calls _ _) fun a w1 f1 E => ?_
    have hb := sgB.fr hb f1 id
    have hb2 := ptB.fr hb2 f1 id
    have hf := hf.trans f1
    clear f1
    cases h2 : decide (nearP p) with
    | false =>
      rw [h2] at E
      refine env_put (d := 12) (v := .bool true) E rfl (by decide) rfl (w_yes E rfl rfl (by decide) (E.get 2 rfl)) (run_not rfl (E.get 0 rfl)) fun a E => ?_
      refine env_put (d := 13) (v := .bool true) E rfl (by decide) rfl (wanted_none rfl _) (run_pick_f rfl (E.get 3 rfl) (E.get 0 rfl)) fun a E => ?_
      refine wpList_nil ?_
      refine then_n ?_
      refine wp_cond_true (E.get 0 rfl) ?_
      refine wp_seq ?_
      refine wp_region_lit ?_
      refine env_set (d := 4) (v := .bool false) E rfl (by decide) (wanted_none rfl _) (run_assign rfl rfl) fun a E => ?_
      refine wpList_nil ?_
      refine then_n ?_
      refine wp_ret ?_
      refine then_r ?_
      refine ret_tmp (t := 4) rfl E (E.get 0 rfl) ⟨?_, hf⟩
      rw [decide_eq_false]; exact fun h => of_decide_eq_false h2 h.1.2
    | true =>
      rw [h2] at E
      refine env_put (d := 12) (v := .bool false) E rfl (by decide) rfl (w_yes E rfl rfl (by decide) (E.get 2 rfl)) (run_not rfl (E.get 0 rfl)) fun a E => ?_
      refine env_put (d := 13) (v := .bool false) E rfl (by decide) rfl (wanted_none rfl _) (run_pick_f rfl (E.get 3 rfl) (E.get 0 rfl)) fun a E => ?_
      refine wpList_nil ?_
      refine then_n ?_
      refine wp_cond_false (E.get 0 rfl) ?_
      refine wp_skip ?_
      refine then_n ?_
      refine wp_seq ?_
      refine wp_region_lit ?_
      refine env_put (d := 14) (v := .pointer (some ⟨b2, 0, none⟩)) E rfl (by decide) rfl (wanted_none rfl _) (fa32_0 rfl (E.get 9 rfl)) fun a E => ?_
      refine env_put (d := 15) (v := .int .i64 p.1) E rfl (by decide) rfl (wanted_none rfl _) (ld_int rfl (E.get 0 rfl) hb2 rfl) fun a E => ?_
      refine env_put (d := 16) (v := .pointer (some ⟨b, 0, none⟩)) E rfl (by decide) rfl (wanted_none rfl _) (fa34_0 rfl (E.get 12 rfl)) fun a E => ?_
      refine env_put (d := 17) (v := .pointer (some ⟨b, 0, none⟩)) E rfl (by decide) rfl (wanted_none rfl _) (fa32_0 rfl (E.get 0 rfl)) fun a E => ?_
      refine env_put (d := 18) (v := .int .i64 s.1.1) E rfl (by decide) rfl (wanted_none rfl _) (ld_int rfl (E.get 0 rfl) hb rfl) fun a E => ?_
      refine env_put (d := 19) (v := .pointer (some ⟨b, 2, none⟩)) E rfl (by decide) rfl (wanted_none rfl _) (fa34_1 rfl (E.get 15 rfl)) fun a E => ?_
      refine env_put (d := 20) (v := .pointer (some ⟨b, 2, none⟩)) E rfl (by decide) rfl (wanted_none rfl _) (fa32_0 rfl (E.get 0 rfl)) fun a E => ?_
      refine env_put (d := 21) (v := .int .i64 s.2.1) E rfl (by decide) rfl (wanted_none rfl _) (ld_int rfl (E.get 0 rfl) hb rfl) fun a E => ?_
      refine env_put (d := 22) (v := .int .i64 (min s.1.1 s.2.1)) E rfl (by decide) rfl (wanted_none rfl _) (run_min rfl (E.get 3 rfl) (E.get 0 rfl)) fun a E => ?_
      refine env_put (d := 23) (v := .bool (decide (min s.1.1 s.2.1 ≤ p.1))) E rfl (by decide) rfl (wanted_none rfl _) (run_igeq (E.get 7 rfl) (E.get 0 rfl) Try.underlying3 rfl) fun a E => ?_
      cases k1 : decide (min s.1.1 s.2.1 ≤ p.1) with
      | false =>
        rw [k1] at E
        refine env_put (d := 24) (v := .bool false) E rfl (by decide) rfl (wanted_none rfl _) (run_move rfl (E.get 0 rfl)) fun a E => ?_
        refine env_skip (d := 25) E rfl (by decide) rfl rfl rfl (by decide) (E.get 0 rfl) fun a E => ?_
        refine env_skip (d := 26) E rfl (by decide) rfl rfl rfl (by decide) (E.get 1 rfl) fun a E => ?_
        refine env_skip (d := 27) E rfl (by decide) rfl rfl rfl (by decide) (E.get 2 rfl) fun a E => ?_
        refine env_skip (d := 28) E rfl (by decide) rfl rfl rfl (by decide) (E.get 3 rfl) fun a E => ?_
        refine env_skip (d := 29) E rfl (by decide) rfl rfl rfl (by decide) (E.get 4 rfl) fun a E => ?_
        refine env_skip (d := 30) E rfl (by decide) rfl rfl rfl (by decide) (E.get 5 rfl) fun a E => ?_
        refine env_skip (d := 31) E rfl (by decide) rfl rfl rfl (by decide) (E.get 6 rfl) fun a E => ?_
        refine env_skip (d := 32) E rfl (by decide) rfl rfl rfl (by decide) (E.get 7 rfl) fun a E => ?_
        refine env_skip (d := 33) E rfl (by decide) rfl rfl rfl (by decide) (E.get 8 rfl) fun a E => ?_
        refine env_skip (d := 34) E rfl (by decide) rfl rfl rfl (by decide) (E.get 9 rfl) fun a E => ?_
        refine env_put (d := 35) (v := .bool false) E rfl (by decide) rfl (wanted_none rfl _) (run_pick_f rfl (E.get 10 rfl) rfl) fun a E => ?_
        refine env_put (d := 36) (v := .bool false) E rfl (by decide) rfl (wanted_none rfl _) (run_move rfl (E.get 0 rfl)) fun a E => ?_
        refine env_skip (d := 37) E rfl (by decide) rfl rfl rfl (by decide) (E.get 0 rfl) fun a E => ?_
        refine env_skip (d := 38) E rfl (by decide) rfl rfl rfl (by decide) (E.get 1 rfl) fun a E => ?_
        refine env_skip (d := 39) E rfl (by decide) rfl rfl rfl (by decide) (E.get 2 rfl) fun a E => ?_
        refine env_skip (d := 40) E rfl (by decide) rfl rfl rfl (by decide) (E.get 3 rfl) fun a E => ?_
        refine env_skip (d := 41) E rfl (by decide) rfl rfl rfl (by decide) (E.get 4 rfl) fun a E => ?_
        refine env_skip (d := 42) E rfl (by decide) rfl rfl rfl (by decide) (E.get 5 rfl) fun a E => ?_
        refine env_skip (d := 43) E rfl (by decide) rfl rfl rfl (by decide) (E.get 6 rfl) fun a E => ?_
        refine env_skip (d := 44) E rfl (by decide) rfl rfl rfl (by decide) (E.get 7 rfl) fun a E => ?_
        refine env_skip (d := 45) E rfl (by decide) rfl rfl rfl (by decide) (E.get 8 rfl) fun a E => ?_
        refine env_skip (d := 46) E rfl (by decide) rfl rfl rfl (by decide) (E.get 9 rfl) fun a E => ?_
        refine env_put (d := 47) (v := .bool false) E rfl (by decide) rfl (wanted_none rfl _) (run_pick_f rfl (E.get 10 rfl) rfl) fun a E => ?_
        refine env_put (d := 48) (v := .bool false) E rfl (by decide) rfl (wanted_none rfl _) (run_move rfl (E.get 0 rfl)) fun a E => ?_
        refine env_skip (d := 49) E rfl (by decide) rfl rfl rfl (by decide) (E.get 0 rfl) fun a E => ?_
        refine env_skip (d := 50) E rfl (by decide) rfl rfl rfl (by decide) (E.get 1 rfl) fun a E => ?_
        refine env_skip (d := 51) E rfl (by decide) rfl rfl rfl (by decide) (E.get 2 rfl) fun a E => ?_
        refine env_skip (d := 52) E rfl (by decide) rfl rfl rfl (by decide) (E.get 3 rfl) fun a E => ?_
        refine env_skip (d := 53) E rfl (by decide) rfl rfl rfl (by decide) (E.get 4 rfl) fun a E => ?_
        refine env_skip (d := 54) E rfl (by decide) rfl rfl rfl (by decide) (E.get 5 rfl) fun a E => ?_
        refine env_skip (d := 55) E rfl (by decide) rfl rfl rfl (by decide) (E.get 6 rfl) fun a E => ?_
        refine env_skip (d := 56) E rfl (by decide) rfl rfl rfl (by decide) (E.get 7 rfl) fun a E => ?_
        refine env_skip (d := 57) E rfl (by decide) rfl rfl rfl (by decide) (E.get 8 rfl) fun a E => ?_
        refine env_skip (d := 58) E rfl (by decide) rfl rfl rfl (by decide) (E.get 9 rfl) fun a E => ?_
        refine env_put (d := 59) (v := .bool false) E rfl (by decide) rfl (wanted_none rfl _) (run_pick_f rfl (E.get 10 rfl) rfl) fun a E => ?_
        refine env_set (d := 5) (v := .bool false) E rfl (by decide) (wanted_none rfl _) (run_assign rfl (E.get 0 rfl)) fun a E => ?_
        refine wpList_nil ?_
        refine then_n ?_
        refine wp_seq ?_
        refine wp_region_lit ?_
        refine env_put (d := 60) (v := .bool false) E rfl (by decide) rfl (wanted_none rfl _) (run_move rfl (E.get 0 rfl)) fun a E => ?_
        refine env_put (d := 61) (v := .bool false) E rfl (by decide) rfl (wanted_none rfl _) (run_move rfl (E.get 0 rfl)) fun a E => ?_
        refine env_skip (d := 62) E rfl (by decide) rfl rfl rfl (by decide) (E.get 0 rfl) fun a E => ?_
        refine env_skip (d := 63) E rfl (by decide) rfl rfl rfl (by decide) (E.get 1 rfl) fun a E => ?_
        refine env_skip (d := 64) E rfl (by decide) rfl rfl rfl (by decide) (E.get 2 rfl) fun a E => ?_
        refine env_skip (d := 65) E rfl (by decide) rfl rfl rfl (by decide) (E.get 3 rfl) fun a E => ?_
        refine env_skip (d := 66) E rfl (by decide) rfl rfl rfl (by decide) (E.get 4 rfl) fun a E => ?_
        refine env_skip (d := 67) E rfl (by decide) rfl rfl rfl (by decide) (E.get 5 rfl) fun a E => ?_
        refine env_skip (d := 68) E rfl (by decide) rfl rfl rfl (by decide) (E.get 6 rfl) fun a E => ?_
        refine env_put (d := 69) (v := .bool false) E rfl (by decide) rfl (wanted_none rfl _) (run_pick_f rfl (E.get 7 rfl) rfl) fun a E => ?_
        refine env_set (d := 4) (v := .bool false) E rfl (by decide) (wanted_none rfl _) (run_assign rfl (E.get 0 rfl)) fun a E => ?_
        refine wpList_nil ?_
        refine then_n ?_
        refine wp_ret ?_
        refine ret_tmp (t := 4) rfl E (E.get 0 rfl) ⟨?_, hf⟩
        rw [decide_eq_false]; exact fun h => of_decide_eq_false k1 h.2.1.1
      | true =>
        rw [k1] at E
        refine env_put (d := 24) (v := .bool true) E rfl (by decide) rfl (wanted_none rfl _) (run_move rfl (E.get 0 rfl)) fun a E => ?_
        refine env_put (d := 25) (v := .pointer (some ⟨b2, 0, none⟩)) E rfl (by decide) rfl (w_yes E rfl rfl (by decide) (E.get 0 rfl)) (fa32_0 rfl (E.get 20 rfl)) fun a E => ?_
        refine env_put (d := 26) (v := .int .i64 p.1) E rfl (by decide) rfl (w_yes E rfl rfl (by decide) (E.get 1 rfl)) (ld_int rfl (E.get 0 rfl) hb2 rfl) fun a E => ?_
        refine env_put (d := 27) (v := .pointer (some ⟨b, 0, none⟩)) E rfl (by decide) rfl (w_yes E rfl rfl (by decide) (E.get 2 rfl)) (fa34_0 rfl (E.get 23 rfl)) fun a E => ?_
        refine env_put (d := 28) (v := .pointer (some ⟨b, 0, none⟩)) E rfl (by decide) rfl (w_yes E rfl rfl (by decide) (E.get 3 rfl)) (fa32_0 rfl (E.get 0 rfl)) fun a E => ?_
        refine env_put (d := 29) (v := .int .i64 s.1.1) E rfl (by decide) rfl (w_yes E rfl rfl (by decide) (E.get 4 rfl)) (ld_int rfl (E.get 0 rfl) hb rfl) fun a E => ?_
        refine env_put (d := 30) (v := .pointer (some ⟨b, 2, none⟩)) E rfl (by decide) rfl (w_yes E rfl rfl (by decide) (E.get 5 rfl)) (fa34_1 rfl (E.get 26 rfl)) fun a E => ?_
        refine env_put (d := 31) (v := .pointer (some ⟨b, 2, none⟩)) E rfl (by decide) rfl (w_yes E rfl rfl (by decide) (E.get 6 rfl)) (fa32_0 rfl (E.get 0 rfl)) fun a E => ?_
        refine env_put (d := 32) (v := .int .i64 s.2.1) E rfl (by decide) rfl (w_yes E rfl rfl (by decide) (E.get 7 rfl)) (ld_int rfl (E.get 0 rfl) hb rfl) fun a E => ?_
        refine env_put (d := 33) (v := .int .i64 (max s.1.1 s.2.1)) E rfl (by decide) rfl (w_yes E rfl rfl (by decide) (E.get 8 rfl)) (run_max rfl (E.get 3 rfl) (E.get 0 rfl)) fun a E => ?_
        refine env_put (d := 34) (v := .bool (decide (p.1 ≤ max s.1.1 s.2.1))) E rfl (by decide) rfl (w_yes E rfl rfl (by decide) (E.get 9 rfl)) (run_ileq (E.get 7 rfl) (E.get 0 rfl) Try.underlying3 rfl) fun a E => ?_
        cases k2 : decide (p.1 ≤ max s.1.1 s.2.1) with
        | false =>
          rw [k2] at E
          refine env_put (d := 35) (v := .bool false) E rfl (by decide) rfl (wanted_none rfl _) (run_pick_t rfl (E.get 10 rfl) (E.get 0 rfl)) fun a E => ?_
          refine env_put (d := 36) (v := .bool false) E rfl (by decide) rfl (wanted_none rfl _) (run_move rfl (E.get 0 rfl)) fun a E => ?_
          refine env_skip (d := 37) E rfl (by decide) rfl rfl rfl (by decide) (E.get 0 rfl) fun a E => ?_
          refine env_skip (d := 38) E rfl (by decide) rfl rfl rfl (by decide) (E.get 1 rfl) fun a E => ?_
          refine env_skip (d := 39) E rfl (by decide) rfl rfl rfl (by decide) (E.get 2 rfl) fun a E => ?_
          refine env_skip (d := 40) E rfl (by decide) rfl rfl rfl (by decide) (E.get 3 rfl) fun a E => ?_
          refine env_skip (d := 41) E rfl (by decide) rfl rfl rfl (by decide) (E.get 4 rfl) fun a E => ?_
          refine env_skip (d := 42) E rfl (by decide) rfl rfl rfl (by decide) (E.get 5 rfl) fun a E => ?_
          refine env_skip (d := 43) E rfl (by decide) rfl rfl rfl (by decide) (E.get 6 rfl) fun a E => ?_
          refine env_skip (d := 44) E rfl (by decide) rfl rfl rfl (by decide) (E.get 7 rfl) fun a E => ?_
          refine env_skip (d := 45) E rfl (by decide) rfl rfl rfl (by decide) (E.get 8 rfl) fun a E => ?_
          refine env_skip (d := 46) E rfl (by decide) rfl rfl rfl (by decide) (E.get 9 rfl) fun a E => ?_
          refine env_put (d := 47) (v := .bool false) E rfl (by decide) rfl (wanted_none rfl _) (run_pick_f rfl (E.get 10 rfl) rfl) fun a E => ?_
          refine env_put (d := 48) (v := .bool false) E rfl (by decide) rfl (wanted_none rfl _) (run_move rfl (E.get 0 rfl)) fun a E => ?_
          refine env_skip (d := 49) E rfl (by decide) rfl rfl rfl (by decide) (E.get 0 rfl) fun a E => ?_
          refine env_skip (d := 50) E rfl (by decide) rfl rfl rfl (by decide) (E.get 1 rfl) fun a E => ?_
          refine env_skip (d := 51) E rfl (by decide) rfl rfl rfl (by decide) (E.get 2 rfl) fun a E => ?_
          refine env_skip (d := 52) E rfl (by decide) rfl rfl rfl (by decide) (E.get 3 rfl) fun a E => ?_
          refine env_skip (d := 53) E rfl (by decide) rfl rfl rfl (by decide) (E.get 4 rfl) fun a E => ?_
          refine env_skip (d := 54) E rfl (by decide) rfl rfl rfl (by decide) (E.get 5 rfl) fun a E => ?_
          refine env_skip (d := 55) E rfl (by decide) rfl rfl rfl (by decide) (E.get 6 rfl) fun a E => ?_
          refine env_skip (d := 56) E rfl (by decide) rfl rfl rfl (by decide) (E.get 7 rfl) fun a E => ?_
          refine env_skip (d := 57) E rfl (by decide) rfl rfl rfl (by decide) (E.get 8 rfl) fun a E => ?_
          refine env_skip (d := 58) E rfl (by decide) rfl rfl rfl (by decide) (E.get 9 rfl) fun a E => ?_
          refine env_put (d := 59) (v := .bool false) E rfl (by decide) rfl (wanted_none rfl _) (run_pick_f rfl (E.get 10 rfl) rfl) fun a E => ?_
          refine env_set (d := 5) (v := .bool false) E rfl (by decide) (wanted_none rfl _) (run_assign rfl (E.get 0 rfl)) fun a E => ?_
          refine wpList_nil ?_
          refine then_n ?_
          refine wp_seq ?_
          refine wp_region_lit ?_
          refine env_put (d := 60) (v := .bool false) E rfl (by decide) rfl (wanted_none rfl _) (run_move rfl (E.get 0 rfl)) fun a E => ?_
          refine env_put (d := 61) (v := .bool false) E rfl (by decide) rfl (wanted_none rfl _) (run_move rfl (E.get 0 rfl)) fun a E => ?_
          refine env_skip (d := 62) E rfl (by decide) rfl rfl rfl (by decide) (E.get 0 rfl) fun a E => ?_
          refine env_skip (d := 63) E rfl (by decide) rfl rfl rfl (by decide) (E.get 1 rfl) fun a E => ?_
          refine env_skip (d := 64) E rfl (by decide) rfl rfl rfl (by decide) (E.get 2 rfl) fun a E => ?_
          refine env_skip (d := 65) E rfl (by decide) rfl rfl rfl (by decide) (E.get 3 rfl) fun a E => ?_
          refine env_skip (d := 66) E rfl (by decide) rfl rfl rfl (by decide) (E.get 4 rfl) fun a E => ?_
          refine env_skip (d := 67) E rfl (by decide) rfl rfl rfl (by decide) (E.get 5 rfl) fun a E => ?_
          refine env_skip (d := 68) E rfl (by decide) rfl rfl rfl (by decide) (E.get 6 rfl) fun a E => ?_
          refine env_put (d := 69) (v := .bool false) E rfl (by decide) rfl (wanted_none rfl _) (run_pick_f rfl (E.get 7 rfl) rfl) fun a E => ?_
          refine env_set (d := 4) (v := .bool false) E rfl (by decide) (wanted_none rfl _) (run_assign rfl (E.get 0 rfl)) fun a E => ?_
          refine wpList_nil ?_
          refine then_n ?_
          refine wp_ret ?_
          refine ret_tmp (t := 4) rfl E (E.get 0 rfl) ⟨?_, hf⟩
          rw [decide_eq_false]; exact fun h => of_decide_eq_false k2 h.2.1.2.1
        | true =>
          rw [k2] at E
          refine env_put (d := 35) (v := .bool true) E rfl (by decide) rfl (wanted_none rfl _) (run_pick_t rfl (E.get 10 rfl) (E.get 0 rfl)) fun a E => ?_
          refine env_put (d := 36) (v := .bool true) E rfl (by decide) rfl (wanted_none rfl _) (run_move rfl (E.get 0 rfl)) fun a E => ?_
          refine env_put (d := 37) (v := .pointer (some ⟨b2, 1, none⟩)) E rfl (by decide) rfl (w_yes E rfl rfl (by decide) (E.get 0 rfl)) (fa32_1 rfl (E.get 32 rfl)) fun a E => ?_
          refine env_put (d := 38) (v := .int .i64 p.2) E rfl (by decide) rfl (w_yes E rfl rfl (by decide) (E.get 1 rfl)) (ld_int rfl (E.get 0 rfl) hb2 rfl) fun a E => ?_
          refine env_put (d := 39) (v := .pointer (some ⟨b, 0, none⟩)) E rfl (by decide) rfl (w_yes E rfl rfl (by decide) (E.get 2 rfl)) (fa34_0 rfl (E.get 35 rfl)) fun a E => ?_
          refine env_put (d := 40) (v := .pointer (some ⟨b, 1, none⟩)) E rfl (by decide) rfl (w_yes E rfl rfl (by decide) (E.get 3 rfl)) (fa32_1 rfl (E.get 0 rfl)) fun a E => ?_
          refine env_put (d := 41) (v := .int .i64 s.1.2) E rfl (by decide) rfl (w_yes E rfl rfl (by decide) (E.get 4 rfl)) (ld_int rfl (E.get 0 rfl) hb rfl) fun a E => ?_
          refine env_put (d := 42) (v := .pointer (some ⟨b, 2, none⟩)) E rfl (by decide) rfl (w_yes E rfl rfl (by decide) (E.get 5 rfl)) (fa34_1 rfl (E.get 38 rfl)) fun a E => ?_
          refine env_put (d := 43) (v := .pointer (some ⟨b, 3, none⟩)) E rfl (by decide) rfl (w_yes E rfl rfl (by decide) (E.get 6 rfl)) (fa32_1 rfl (E.get 0 rfl)) fun a E => ?_
          refine env_put (d := 44) (v := .int .i64 s.2.2) E rfl (by decide) rfl (w_yes E rfl rfl (by decide) (E.get 7 rfl)) (ld_int rfl (E.get 0 rfl) hb rfl) fun a E => ?_
          refine env_put (d := 45) (v := .int .i64 (min s.1.2 s.2.2)) E rfl (by decide) rfl (w_yes E rfl rfl (by decide) (E.get 8 rfl)) (run_min rfl (E.get 3 rfl) (E.get 0 rfl)) fun a E => ?_
          refine env_put (d := 46) (v := .bool (decide (min s.1.2 s.2.2 ≤ p.2))) E rfl (by decide) rfl (w_yes E rfl rfl (by decide) (E.get 9 rfl)) (run_igeq (E.get 7 rfl) (E.get 0 rfl) Try.underlying3 rfl) fun a E => ?_
          cases k3 : decide (min s.1.2 s.2.2 ≤ p.2) with
          | false =>
            rw [k3] at E
            refine env_put (d := 47) (v := .bool false) E rfl (by decide) rfl (wanted_none rfl _) (run_pick_t rfl (E.get 10 rfl) (E.get 0 rfl)) fun a E => ?_
            refine env_put (d := 48) (v := .bool false) E rfl (by decide) rfl (wanted_none rfl _) (run_move rfl (E.get 0 rfl)) fun a E => ?_
            refine env_skip (d := 49) E rfl (by decide) rfl rfl rfl (by decide) (E.get 0 rfl) fun a E => ?_
            refine env_skip (d := 50) E rfl (by decide) rfl rfl rfl (by decide) (E.get 1 rfl) fun a E => ?_
            refine env_skip (d := 51) E rfl (by decide) rfl rfl rfl (by decide) (E.get 2 rfl) fun a E => ?_
            refine env_skip (d := 52) E rfl (by decide) rfl rfl rfl (by decide) (E.get 3 rfl) fun a E => ?_
            refine env_skip (d := 53) E rfl (by decide) rfl rfl rfl (by decide) (E.get 4 rfl) fun a E => ?_
            refine env_skip (d := 54) E rfl (by decide) rfl rfl rfl (by decide) (E.get 5 rfl) fun a E => ?_
            refine env_skip (d := 55) E rfl (by decide) rfl rfl rfl (by decide) (E.get 6 rfl) fun a E => ?_
            refine env_skip (d := 56) E rfl (by decide) rfl rfl rfl (by decide) (E.get 7 rfl) fun a E => ?_
            refine env_skip (d := 57) E rfl (by decide) rfl rfl rfl (by decide) (E.get 8 rfl) fun a E => ?_
            refine env_skip (d := 58) E rfl (by decide) rfl rfl rfl (by decide) (E.get 9 rfl) fun a E => ?_
            refine env_put (d := 59) (v := .bool false) E rfl (by decide) rfl (wanted_none rfl _) (run_pick_f rfl (E.get 10 rfl) rfl) fun a E => ?_
            refine env_set (d := 5) (v := .bool false) E rfl (by decide) (wanted_none rfl _) (run_assign rfl (E.get 0 rfl)) fun a E => ?_
            refine wpList_nil ?_
            refine then_n ?_
            refine wp_seq ?_
            refine wp_region_lit ?_
            refine env_put (d := 60) (v := .bool false) E rfl (by decide) rfl (wanted_none rfl _) (run_move rfl (E.get 0 rfl)) fun a E => ?_
            refine env_put (d := 61) (v := .bool false) E rfl (by decide) rfl (wanted_none rfl _) (run_move rfl (E.get 0 rfl)) fun a E => ?_
            refine env_skip (d := 62) E rfl (by decide) rfl rfl rfl (by decide) (E.get 0 rfl) fun a E => ?_
            refine env_skip (d := 63) E rfl (by decide) rfl rfl rfl (by decide) (E.get 1 rfl) fun a E => ?_
            refine env_skip (d := 64) E rfl (by decide) rfl rfl rfl (by decide) (E.get 2 rfl) fun a E => ?_
            refine env_skip (d := 65) E rfl (by decide) rfl rfl rfl (by decide) (E.get 3 rfl) fun a E => ?_
            refine env_skip (d := 66) E rfl (by decide) rfl rfl rfl (by decide) (E.get 4 rfl) fun a E => ?_
            refine env_skip (d := 67) E rfl (by decide) rfl rfl rfl (by decide) (E.get 5 rfl) fun a E => ?_
            refine env_skip (d := 68) E rfl (by decide) rfl rfl rfl (by decide) (E.get 6 rfl) fun a E => ?_
            refine env_put (d := 69) (v := .bool false) E rfl (by decide) rfl (wanted_none rfl _) (run_pick_f rfl (E.get 7 rfl) rfl) fun a E => ?_
            refine env_set (d := 4) (v := .bool false) E rfl (by decide) (wanted_none rfl _) (run_assign rfl (E.get 0 rfl)) fun a E => ?_
            refine wpList_nil ?_
            refine then_n ?_
            refine wp_ret ?_
            refine ret_tmp (t := 4) rfl E (E.get 0 rfl) ⟨?_, hf⟩
            rw [decide_eq_false]; exact fun h => of_decide_eq_false k3 h.2.1.2.2.1
          | true =>
            rw [k3] at E
            refine env_put (d := 47) (v := .bool true) E rfl (by decide) rfl (wanted_none rfl _) (run_pick_t rfl (E.get 10 rfl) (E.get 0 rfl)) fun a E => ?_
            refine env_put (d := 48) (v := .bool true) E rfl (by decide) rfl (wanted_none rfl _) (run_move rfl (E.get 0 rfl)) fun a E => ?_
            refine env_put (d := 49) (v := .pointer (some ⟨b2, 1, none⟩)) E rfl (by decide) rfl (w_yes E rfl rfl (by decide) (E.get 0 rfl)) (fa32_1 rfl (E.get 44 rfl)) fun a E => ?_
            refine env_put (d := 50) (v := .int .i64 p.2) E rfl (by decide) rfl (w_yes E rfl rfl (by decide) (E.get 1 rfl)) (ld_int rfl (E.get 0 rfl) hb2 rfl) fun a E => ?_
            refine env_put (d := 51) (v := .pointer (some ⟨b, 0, none⟩)) E rfl (by decide) rfl (w_yes E rfl rfl (by decide) (E.get 2 rfl)) (fa34_0 rfl (E.get 47 rfl)) fun a E => ?_
            refine env_put (d := 52) (v := .pointer (some ⟨b, 1, none⟩)) E rfl (by decide) rfl (w_yes E rfl rfl (by decide) (E.get 3 rfl)) (fa32_1 rfl (E.get 0 rfl)) fun a E => ?_
            refine env_put (d := 53) (v := .int .i64 s.1.2) E rfl (by decide) rfl (w_yes E rfl rfl (by decide) (E.get 4 rfl)) (ld_int rfl (E.get 0 rfl) hb rfl) fun a E => ?_
            refine env_put (d := 54) (v := .pointer (some ⟨b, 2, none⟩)) E rfl (by decide) rfl (w_yes E rfl rfl (by decide) (E.get 5 rfl)) (fa34_1 rfl (E.get 50 rfl)) fun a E => ?_
            refine env_put (d := 55) (v := .pointer (some ⟨b, 3, none⟩)) E rfl (by decide) rfl (w_yes E rfl rfl (by decide) (E.get 6 rfl)) (fa32_1 rfl (E.get 0 rfl)) fun a E => ?_
            refine env_put (d := 56) (v := .int .i64 s.2.2) E rfl (by decide) rfl (w_yes E rfl rfl (by decide) (E.get 7 rfl)) (ld_int rfl (E.get 0 rfl) hb rfl) fun a E => ?_
            refine env_put (d := 57) (v := .int .i64 (max s.1.2 s.2.2)) E rfl (by decide) rfl (w_yes E rfl rfl (by decide) (E.get 8 rfl)) (run_max rfl (E.get 3 rfl) (E.get 0 rfl)) fun a E => ?_
            refine env_put (d := 58) (v := .bool (decide (p.2 ≤ max s.1.2 s.2.2))) E rfl (by decide) rfl (w_yes E rfl rfl (by decide) (E.get 9 rfl)) (run_ileq (E.get 7 rfl) (E.get 0 rfl) Try.underlying3 rfl) fun a E => ?_
            cases k4 : decide (p.2 ≤ max s.1.2 s.2.2) with
            | false =>
              rw [k4] at E
              refine env_put (d := 59) (v := .bool false) E rfl (by decide) rfl (wanted_none rfl _) (run_pick_t rfl (E.get 10 rfl) (E.get 0 rfl)) fun a E => ?_
              refine env_set (d := 5) (v := .bool false) E rfl (by decide) (wanted_none rfl _) (run_assign rfl (E.get 0 rfl)) fun a E => ?_
              refine wpList_nil ?_
              refine then_n ?_
              refine wp_seq ?_
              refine wp_region_lit ?_
              refine env_put (d := 60) (v := .bool false) E rfl (by decide) rfl (wanted_none rfl _) (run_move rfl (E.get 0 rfl)) fun a E => ?_
              refine env_put (d := 61) (v := .bool false) E rfl (by decide) rfl (wanted_none rfl _) (run_move rfl (E.get 0 rfl)) fun a E => ?_
              refine env_skip (d := 62) E rfl (by decide) rfl rfl rfl (by decide) (E.get 0 rfl) fun a E => ?_
              refine env_skip (d := 63) E rfl (by decide) rfl rfl rfl (by decide) (E.get 1 rfl) fun a E => ?_
              refine env_skip (d := 64) E rfl (by decide) rfl rfl rfl (by decide) (E.get 2 rfl) fun a E => ?_
              refine env_skip (d := 65) E rfl (by decide) rfl rfl rfl (by decide) (E.get 3 rfl) fun a E => ?_
              refine env_skip (d := 66) E rfl (by decide) rfl rfl rfl (by decide) (E.get 4 rfl) fun a E => ?_
              refine env_skip (d := 67) E rfl (by decide) rfl rfl rfl (by decide) (E.get 5 rfl) fun a E => ?_
              refine env_skip (d := 68) E rfl (by decide) rfl rfl rfl (by decide) (E.get 6 rfl) fun a E => ?_
              refine env_put (d := 69) (v := .bool false) E rfl (by decide) rfl (wanted_none rfl _) (run_pick_f rfl (E.get 7 rfl) rfl) fun a E => ?_
              refine env_set (d := 4) (v := .bool false) E rfl (by decide) (wanted_none rfl _) (run_assign rfl (E.get 0 rfl)) fun a E => ?_
              refine wpList_nil ?_
              refine then_n ?_
              refine wp_ret ?_
              refine ret_tmp (t := 4) rfl E (E.get 0 rfl) ⟨?_, hf⟩
              rw [decide_eq_false]; exact fun h => of_decide_eq_false k4 h.2.1.2.2.2
            | true =>
              rw [k4] at E
              refine env_put (d := 59) (v := .bool true) E rfl (by decide) rfl (wanted_none rfl _) (run_pick_t rfl (E.get 10 rfl) (E.get 0 rfl)) fun a E => ?_
              refine env_set (d := 5) (v := .bool true) E rfl (by decide) (wanted_none rfl _) (run_assign rfl (E.get 0 rfl)) fun a E => ?_
              refine wpList_nil ?_
              refine then_n ?_
              refine wp_seq ?_
              refine wp_region_lit ?_
              have n1 := of_decide_eq_true h1
              have n2 := of_decide_eq_true h2
              refine env_put (d := 60) (v := .bool true) E rfl (by decide) rfl (wanted_none rfl _) (run_move rfl (E.get 0 rfl)) fun a E => ?_
              refine env_put (d := 61) (v := .bool true) E rfl (by decide) rfl (wanted_none rfl _) (run_move rfl (E.get 0 rfl)) fun a E => ?_
              refine env_put (d := 62) (v := .pointer (some ⟨b, 0, none⟩)) E rfl (by decide) rfl (w_yes E rfl rfl (by decide) (E.get 0 rfl)) (fa34_0 rfl (E.get 59 rfl)) fun a E => ?_
              refine env_put (d := 63) (v := .agg (ptC s.1)) E rfl (by decide) rfl (w_yes E rfl rfl (by decide) (E.get 1 rfl)) (ld_sg1 rfl (E.get 0 rfl) hb) fun a E => ?_
              refine env_put (d := 64) (v := .pointer (some ⟨b, 2, none⟩)) E rfl (by decide) rfl (w_yes E rfl rfl (by decide) (E.get 2 rfl)) (fa34_1 rfl (E.get 61 rfl)) fun a E => ?_
              refine env_put (d := 65) (v := .agg (ptC s.2)) E rfl (by decide) rfl (w_yes E rfl rfl (by decide) (E.get 3 rfl)) (ld_sg2 rfl (E.get 0 rfl) hb) fun a E => ?_
              refine env_put (d := 66) (v := .agg (ptC p)) E rfl (by decide) rfl (w_yes E rfl rfl (by decide) (E.get 4 rfl)) (ld_pt rfl (E.get 62 rfl) hb2) fun a E => ?_
              refine env_call (d := 67) (v := .int .i64 (crs s.1 s.2 p)) E rfl (by decide) rfl (w_yes E rfl rfl (by decide) (E.get 5 rfl)) (run_call3 (enters_of Try.func63 (by kernel_rfl) rfl) rfl rfl (E.get 3 rfl) (E.get 1 rfl) (E.get 0 rfl)) (rcross_calls _ _ _ n1.1 n1.2 n2 _) fun a w1 f1 E => ?_
              have hb := sgB.fr hb f1 id
              have hb2 := ptB.fr hb2 f1 id
              have hf := hf.trans f1
              clear f1
              refine env_put (d := 68) (v := .bool (crs s.1 s.2 p == 0)) E rfl (by decide) rfl (w_yes E rfl rfl (by decide) (E.get 6 rfl)) (run_ieql (E.get 0 rfl) rfl Try.underlying3 rfl) fun a E => ?_
              refine env_put (d := 69) (v := .bool (crs s.1 s.2 p == 0)) E rfl (by decide) rfl (wanted_none rfl _) (run_pick_t rfl (E.get 7 rfl) (E.get 0 rfl)) fun a E => ?_
              refine env_set (d := 4) (v := .bool (crs s.1 s.2 p == 0)) E rfl (by decide) (wanted_none rfl _) (run_assign rfl (E.get 0 rfl)) fun a E => ?_
              refine wpList_nil ?_
              refine then_n ?_
              refine wp_ret ?_
              refine ret_tmp (t := 4) rfl E (E.get 0 rfl) ⟨?_, hf⟩
              congr 2; exact decide_eq_decide.2 ⟨fun h => ⟨⟨n1, n2⟩, ⟨of_decide_eq_true k1, of_decide_eq_true k2, of_decide_eq_true k3, of_decide_eq_true k4⟩, h⟩, fun h => h.2.2⟩
end Go.Proofs.Ytiainjcimmeedaa
