/- The reference lineage: Follow. -/
import Derived.Test.YtcolfgnjmnapkaaRt
set_option linter.unusedVariables false
set_option linter.unusedSimpArgs false
namespace Go.Proofs.Ytcolfgnjmnapkaa
open Go.RowKit Go.Pl

set_option maxRecDepth 100000 in
set_option maxHeartbeats 8000000 in
theorem rfol_6 {w : World} {r : Nat} {σ : Nat → Prop} {R : RefS} {pv mv : Value} (h : RefAt w r σ R pv mv) (hb1 : R.ms.length ≤ 40000) (hb2 : R.ps.length ≤ 40000) (e : Edt) (hop : e.op = 6) : Calls Try.prog 15 #[.pointer (some ⟨r, 0, none⟩), .agg e.cells] w (RPost r σ (if refE R e = 0 then refF R e else R) (.int .i64 (refE R e)) w) := by
  refine wp_start2 Try.func15 rfl rfl (n := 174) (by decide) fun a E => ?_
  have hT : Fr σ w w := Fr.refl _ _
  have hS : ∀ k, k < w.heap.size → σ k → σ k := fun _ _ h => h
  have hk0 : (e.op == 6) = true := by simp only [beq_iff_eq]; omega
  have hk1 : (e.op == 7) = false := by rw [beq_eq_false_iff_ne]; omega
  have hk2 : (e.op == 1) = false := by rw [beq_eq_false_iff_ne]; omega
  have hk3 : (e.op == 5) = false := by rw [beq_eq_false_iff_ne]; omega
  have hk4 : (e.op != 1) = true := by rw [bne_iff_ne]; omega
  have hk5 : (decide (e.op < 1)) = false := by exact decide_eq_false (by omega)
  have hk6 : (decide (7 < e.op)) = false := by exact decide_eq_false (by omega)
  refine wp_seq ?_
  refine wp_region_lit ?_
  refine env_box38 (d := 3) E rfl (by decide) rfl (wanted_none rfl _) rfl (E.get 1 rfl) fun a w1 b0 e0 hb f1 E => ?_
  have hnb : ¬ σ b0 := fun hh => by have := h.lt b0 hh; omega
  have h := h.fr f1 (fun _ _ h => h)
  have hT := hT.trans' f1 (fun _ _ h => h.elim)
  clear f1 e0
  obtain ⟨pa1, ca1, hva, _⟩ := h.msrc
  subst hva
  refine env_put (d := 4) (v := .int .i64 0) E rfl (by decide) rfl (wanted_none rfl _) (run_assign rfl rfl) fun a E => ?_
  refine wpList_nil ?_
  refine then_n ?_
  refine wp_seq ?_
  refine wp_region_lit ?_
  refine env_put (d := 9) (v := .pointer (some ⟨b0, 0, none⟩)) E rfl (by decide) rfl (wanted_none rfl _) (fa38_0 rfl (E.get 1 rfl)) fun a E => ?_
  refine env_put (d := 10) (v := .int .i64 e.op) E rfl (by decide) rfl (wanted_none rfl _) (run_ldi rfl (E.get 0 rfl) (bx hb 0 rfl)) fun a E => ?_
  refine env_put (d := 11) (v := .bool true) E rfl (by decide) rfl (wanted_none rfl _) ((run_ieql (E.get 0 rfl) rfl Try.underlying3 rfl).trans (by rw [hk0] <;> rfl)) fun a E => ?_
  refine env_put (d := 12) (v := .bool true) E rfl (by decide) rfl (wanted_none rfl _) (run_move rfl (E.get 0 rfl)) fun a E => ?_
  refine env_skip (d := 13) (g := 3) (s := 12) E rfl (by decide) rfl rfl rfl (by decide) (E.get 0 rfl) fun a E => ?_
  refine env_skip (d := 14) (g := 3) (s := 12) E rfl (by decide) rfl rfl rfl (by decide) (E.get 1 rfl) fun a E => ?_
  refine env_skip (d := 15) (g := 3) (s := 12) E rfl (by decide) rfl rfl rfl (by decide) (E.get 2 rfl) fun a E => ?_
  refine env_put (d := 16) (v := .bool true) E rfl (by decide) rfl (wanted_none rfl _) (run_pick_t rfl (E.get 3 rfl) rfl) fun a E => ?_
  refine env_put (d := 5) (v := .bool true) E rfl (by decide) rfl (wanted_none rfl _) (run_assign rfl (E.get 0 rfl)) fun a E => ?_
  refine wpList_nil ?_
  refine then_n ?_
  refine wp_seq ?_
  refine wp_seq ?_
  refine wp_region_lit ?_
  refine env_put (d := 17) (v := .pointer (some ⟨r, 0, none⟩)) E rfl (by decide) rfl (wanted_none rfl _) (run_move rfl (E.get 11 rfl)) fun a E => ?_
  refine env_put (d := 18) (v := .bool false) E rfl (by decide) rfl (wanted_none rfl _) (run_pnil rfl (E.get 0 rfl) rfl) fun a E => ?_
  refine env_put (d := 19) (v := .bool false) E rfl (by decide) rfl (wanted_none rfl _) (run_move rfl (E.get 0 rfl)) fun a E => ?_
  refine env_put (d := 20) (v := .pointer (some ⟨b0, 0, none⟩)) E rfl (by decide) rfl (w_yes (g := 2) (s := 19) E rfl rfl (by decide) (E.get 0 rfl)) (fa38_0 rfl (E.get 13 rfl)) fun a E => ?_
  refine env_put (d := 21) (v := .int .i64 e.op) E rfl (by decide) rfl (w_yes (g := 2) (s := 19) E rfl rfl (by decide) (E.get 1 rfl)) (run_ldi rfl (E.get 0 rfl) (bx hb 0 rfl)) fun a E => ?_
  refine env_put (d := 22) (v := .bool false) E rfl (by decide) rfl (w_yes (g := 2) (s := 19) E rfl rfl (by decide) (E.get 2 rfl)) ((run_ilss (E.get 0 rfl) rfl Try.underlying3 rfl).trans (by rw [hk5] <;> rfl)) fun a E => ?_
  refine env_put (d := 23) (v := .bool false) E rfl (by decide) rfl (wanted_none rfl _) (run_pick_f rfl (E.get 3 rfl) (E.get 0 rfl)) fun a E => ?_
  refine env_put (d := 24) (v := .bool false) E rfl (by decide) rfl (wanted_none rfl _) (run_move rfl (E.get 0 rfl)) fun a E => ?_
  refine env_put (d := 25) (v := .pointer (some ⟨b0, 0, none⟩)) E rfl (by decide) rfl (w_yes (g := 7) (s := 24) E rfl rfl (by decide) (E.get 0 rfl)) (fa38_0 rfl (E.get 18 rfl)) fun a E => ?_
  refine env_put (d := 26) (v := .int .i64 e.op) E rfl (by decide) rfl (w_yes (g := 7) (s := 24) E rfl rfl (by decide) (E.get 1 rfl)) (run_ldi rfl (E.get 0 rfl) (bx hb 0 rfl)) fun a E => ?_
  refine env_put (d := 27) (v := .bool false) E rfl (by decide) rfl (w_yes (g := 7) (s := 24) E rfl rfl (by decide) (E.get 2 rfl)) ((run_igtr (E.get 0 rfl) rfl Try.underlying3 rfl).trans (by rw [hk6] <;> rfl)) fun a E => ?_
  refine env_put (d := 28) (v := .bool false) E rfl (by decide) rfl (wanted_none rfl _) (run_pick_f rfl (E.get 3 rfl) (E.get 0 rfl)) fun a E => ?_
  refine env_put (d := 29) (v := .bool false) E rfl (by decide) rfl (wanted_none rfl _) (run_move rfl (E.get 0 rfl)) fun a E => ?_
  refine env_put (d := 30) (v := .bool true) E rfl (by decide) rfl (w_yes (g := 12) (s := 29) E rfl rfl (by decide) (E.get 0 rfl)) (run_move rfl (E.get 13 rfl)) fun a E => ?_
  refine env_put (d := 31) (v := .bool true) E rfl (by decide) rfl (w_yes (g := 12) (s := 29) E rfl rfl (by decide) (E.get 1 rfl)) (run_move rfl (E.get 0 rfl)) fun a E => ?_
  refine env_put (d := 32) (v := .pointer (some ⟨b0, 1, none⟩)) E rfl (by decide) rfl (w_yes (g := 14) (s := 31) E rfl rfl (by decide) (E.get 0 rfl)) (fa38_1 rfl (E.get 25 rfl)) fun a E => ?_
  refine env_put (d := 33) (v := .string e.id) E rfl (by decide) rfl (w_yes (g := 14) (s := 31) E rfl rfl (by decide) (E.get 1 rfl)) (run_lds rfl (E.get 0 rfl) (bx hb 1 rfl)) fun a E => ?_
  refine env_put (d := 34) (v := .pointer (some ⟨b0, 2, none⟩)) E rfl (by decide) rfl (w_yes (g := 14) (s := 31) E rfl rfl (by decide) (E.get 2 rfl)) (fa38_2 rfl (E.get 27 rfl)) fun a E => ?_
  refine env_put (d := 35) (v := .string e.other) E rfl (by decide) rfl (w_yes (g := 14) (s := 31) E rfl rfl (by decide) (E.get 3 rfl)) (run_lds rfl (E.get 0 rfl) (bx hb 2 rfl)) fun a E => ?_
  refine env_put (d := 36) (v := .bool (decide (e.id = e.other))) E rfl (by decide) rfl (w_yes (g := 14) (s := 31) E rfl rfl (by decide) (E.get 4 rfl)) (run_seql (E.get 2 rfl) (E.get 0 rfl) rfl) fun a E => ?_
  refine env_put (d := 37) (v := .bool (decide (e.id = e.other))) E rfl (by decide) rfl (w_yes (g := 12) (s := 29) E rfl rfl (by decide) (E.get 7 rfl)) (run_pick_t rfl (E.get 5 rfl) (E.get 0 rfl)) fun a E => ?_
  refine env_put (d := 38) (v := .bool (decide (e.id = e.other))) E rfl (by decide) rfl (wanted_none rfl _) (run_pick_f rfl (E.get 8 rfl) (E.get 0 rfl)) fun a E => ?_
  refine wpList_nil ?_
  refine then_n ?_
  cases hq1 : (decide (e.id = e.other)) with
  | false =>
    rw [hq1] at E
    refine wp_cond_false (E.get 0 rfl) ?_
    refine wp_skip ?_
    refine then_n ?_
    refine wp_seq ?_
    refine wp_seq ?_
    refine wp_region_lit ?_
    refine env_put (d := 39) (v := .pointer (some ⟨b0, 0, none⟩)) E rfl (by decide) rfl (wanted_none rfl _) (fa38_0 rfl (E.get 32 rfl)) fun a E => ?_
    refine env_put (d := 40) (v := .int .i64 e.op) E rfl (by decide) rfl (wanted_none rfl _) (run_ldi rfl (E.get 0 rfl) (bx hb 0 rfl)) fun a E => ?_
    refine env_put (d := 41) (v := .bool true) E rfl (by decide) rfl (wanted_none rfl _) ((run_ineq (E.get 0 rfl) rfl Try.underlying3 rfl).trans (by rw [hk4] <;> rfl)) fun a E => ?_
    refine env_put (d := 42) (v := .bool true) E rfl (by decide) rfl (wanted_none rfl _) (run_move rfl (E.get 0 rfl)) fun a E => ?_
    refine env_put (d := 43) (v := .pointer (some ⟨r, 0, none⟩)) E rfl (by decide) rfl (w_yes (g := 3) (s := 42) E rfl rfl (by decide) (E.get 0 rfl)) (run_move rfl (E.get 37 rfl)) fun a E => ?_
    refine env_put (d := 44) (v := .pointer (some ⟨b0, 1, none⟩)) E rfl (by decide) rfl (w_yes (g := 3) (s := 42) E rfl rfl (by decide) (E.get 1 rfl)) (fa38_1 rfl (E.get 37 rfl)) fun a E => ?_
    refine env_put (d := 45) (v := .string e.id) E rfl (by decide) rfl (w_yes (g := 3) (s := 42) E rfl rfl (by decide) (E.get 2 rfl)) (run_lds rfl (E.get 0 rfl) (bx hb 1 rfl)) fun a E => ?_
    refine env_put (d := 46) (v := .pointer (some ⟨b0, 1, none⟩)) E rfl (by decide) rfl (w_yes (g := 3) (s := 42) E rfl rfl (by decide) (E.get 3 rfl)) (fa38_1 rfl (E.get 39 rfl)) fun a E => ?_
    refine env_put (d := 47) (v := .string e.id) E rfl (by decide) rfl (w_yes (g := 3) (s := 42) E rfl rfl (by decide) (E.get 4 rfl)) (run_lds rfl (E.get 0 rfl) (bx hb 1 rfl)) fun a E => ?_
    refine env_call (d := 48) (v := .bool (pairB R e.id e.id)) E rfl (by decide) rfl (w_yes (g := 3) (s := 42) E rfl rfl (by decide) (E.get 5 rfl)) (run_call3 (enters_of Try.func32 (by kernel_rfl) rfl) rfl rfl (E.get 4 rfl) (E.get 2 rfl) (E.get 0 rfl)) (h.pairC e.id e.id) fun a w1 f1 E => ?_
    have h := RefAt.fr h f1 (fun _ _ h => h)
    have hT := hT.trans' f1 (fun _ _ h => h.elim)
    have hb := f1.obj hb id
    clear f1
    refine env_put (d := 49) (v := .bool (!(pairB R e.id e.id))) E rfl (by decide) rfl (w_yes (g := 3) (s := 42) E rfl rfl (by decide) (E.get 6 rfl)) (run_not rfl (E.get 0 rfl)) fun a E => ?_
    refine env_put (d := 50) (v := .bool (!(pairB R e.id e.id))) E rfl (by decide) rfl (wanted_none rfl _) (run_pick_t rfl (E.get 7 rfl) (E.get 0 rfl)) fun a E => ?_
    refine env_put (d := 51) (v := .bool (!(pairB R e.id e.id))) E rfl (by decide) rfl (wanted_none rfl _) (run_move rfl (E.get 0 rfl)) fun a E => ?_
    cases hq2 : (pairB R e.id e.id) with
    | false =>
      rw [hq2] at E
      refine env_skip (d := 52) (g := 12) (s := 51) E rfl (by decide) rfl rfl rfl (by decide) (E.get 0 rfl) fun a E => ?_
      refine env_skip (d := 53) (g := 12) (s := 51) E rfl (by decide) rfl rfl rfl (by decide) (E.get 1 rfl) fun a E => ?_
      refine env_skip (d := 54) (g := 12) (s := 51) E rfl (by decide) rfl rfl rfl (by decide) (E.get 2 rfl) fun a E => ?_
      refine env_skip (d := 55) (g := 12) (s := 51) E rfl (by decide) rfl rfl rfl (by decide) (E.get 3 rfl) fun a E => ?_
      refine env_skipu (d := 56) (g := 16) (s := 55) E rfl (by decide) rfl rfl rfl (by decide) (E.get 0 rfl) fun a E => ?_
      refine env_skipu (d := 57) (g := 16) (s := 55) E rfl (by decide) rfl rfl rfl (by decide) (E.get 1 rfl) fun a E => ?_
      refine env_skipu (d := 58) (g := 16) (s := 55) E rfl (by decide) rfl rfl rfl (by decide) (E.get 2 rfl) fun a E => ?_
      refine env_skipu (d := 59) (g := 16) (s := 55) E rfl (by decide) rfl rfl rfl (by decide) (E.get 3 rfl) fun a E => ?_
      refine env_skipu (d := 60) (g := 16) (s := 55) E rfl (by decide) rfl rfl rfl (by decide) (E.get 4 rfl) fun a E => ?_
      refine env_skipu (d := 61) (g := 16) (s := 55) E rfl (by decide) rfl rfl rfl (by decide) (E.get 5 rfl) fun a E => ?_
      refine env_skipu (d := 62) (g := 16) (s := 55) E rfl (by decide) rfl rfl rfl (by decide) (E.get 6 rfl) fun a E => ?_
      refine env_skip (d := 63) (g := 12) (s := 51) E rfl (by decide) rfl rfl rfl (by decide) (E.get 11 rfl) fun a E => ?_
      refine env_put (d := 64) (v := .bool true) E rfl (by decide) rfl (wanted_none rfl _) (run_pick_t rfl (E.get 12 rfl) rfl) fun a E => ?_
      refine wpList_nil ?_
      refine then_n ?_
      refine wp_cond_true (E.get 0 rfl) ?_
      refine wp_seq ?_
      refine wp_region_lit ?_
      refine env_set (d := 4) (v := .int .i64 11) E rfl (by decide) (wanted_none rfl _) (run_assign rfl rfl) fun a E => ?_
      refine wpList_nil ?_
      refine then_n ?_
      refine wp_ret ?_
      refine then_r ?_
      have hio : e.id ≠ e.other := of_decide_eq_false hq1
      have hE : refE R e = 11 := by
        simp [refE, followE, Edt.bad, Edt.two, Edt.fresh, linR, hop, hq2, hio]
      have hR : (if refE R e = 0 then refF R e else R) = R := if_neg (by rw [hE]; decide)
      refine ret_tmp (t := 4) rfl E (E.get 0 rfl) ⟨by rw [hE], _, ?_, hT, hS⟩
      rw [hR]; exact ⟨_, _, h⟩
    | true =>
      rw [hq2] at E
      refine env_put (d := 52) (v := .pointer (some ⟨b0, 0, none⟩)) E rfl (by decide) rfl (w_yes (g := 12) (s := 51) E rfl rfl (by decide) (E.get 0 rfl)) (fa38_0 rfl (E.get 45 rfl)) fun a E => ?_
      refine env_put (d := 53) (v := .int .i64 e.op) E rfl (by decide) rfl (w_yes (g := 12) (s := 51) E rfl rfl (by decide) (E.get 1 rfl)) (run_ldi rfl (E.get 0 rfl) (bx hb 0 rfl)) fun a E => ?_
      refine env_put (d := 54) (v := .bool false) E rfl (by decide) rfl (w_yes (g := 12) (s := 51) E rfl rfl (by decide) (E.get 2 rfl)) ((run_ieql (E.get 0 rfl) rfl Try.underlying3 rfl).trans (by rw [hk1] <;> rfl)) fun a E => ?_
      refine env_put (d := 55) (v := .bool false) E rfl (by decide) rfl (w_yes (g := 12) (s := 51) E rfl rfl (by decide) (E.get 3 rfl)) (run_move rfl (E.get 0 rfl)) fun a E => ?_
      refine env_skip (d := 56) (g := 16) (s := 55) E rfl (by decide) rfl rfl rfl (by decide) (E.get 0 rfl) fun a E => ?_
      refine env_skip (d := 57) (g := 16) (s := 55) E rfl (by decide) rfl rfl rfl (by decide) (E.get 1 rfl) fun a E => ?_
      refine env_skip (d := 58) (g := 16) (s := 55) E rfl (by decide) rfl rfl rfl (by decide) (E.get 2 rfl) fun a E => ?_
      refine env_skip (d := 59) (g := 16) (s := 55) E rfl (by decide) rfl rfl rfl (by decide) (E.get 3 rfl) fun a E => ?_
      refine env_skip (d := 60) (g := 16) (s := 55) E rfl (by decide) rfl rfl rfl (by decide) (E.get 4 rfl) fun a E => ?_
      refine env_skip (d := 61) (g := 16) (s := 55) E rfl (by decide) rfl rfl rfl (by decide) (E.get 5 rfl) fun a E => ?_
      refine env_skip (d := 62) (g := 16) (s := 55) E rfl (by decide) rfl rfl rfl (by decide) (E.get 6 rfl) fun a E => ?_
      refine env_put (d := 63) (v := .bool false) E rfl (by decide) rfl (w_yes (g := 12) (s := 51) E rfl rfl (by decide) (E.get 11 rfl)) (run_pick_f rfl (E.get 7 rfl) rfl) fun a E => ?_
      refine env_put (d := 64) (v := .bool false) E rfl (by decide) rfl (wanted_none rfl _) (run_pick_f rfl (E.get 12 rfl) (E.get 0 rfl)) fun a E => ?_
      refine wpList_nil ?_
      refine then_n ?_
      refine wp_cond_false (E.get 0 rfl) ?_
      refine wp_skip ?_
      refine then_n ?_
      refine wp_seq ?_
      refine wp_seq ?_
      refine wp_region_invg (n := 174) (base := [(64, .bool false), (63, .bool false), (62, undef), (61, undef), (60, undef), (59, undef), (58, undef), (57, undef), (56, undef), (55, .bool false), (54, .bool false), (53, .int .i64 e.op), (52, .pointer (some ⟨b0, 0, none⟩)), (51, .bool false), (50, .bool false), (49, .bool false), (48, .bool true), (47, .string e.id), (46, .pointer (some ⟨b0, 1, none⟩)), (45, .string e.id), (44, .pointer (some ⟨b0, 1, none⟩)), (43, .pointer (some ⟨r, 0, none⟩)), (42, .bool true), (41, .bool true), (40, .int .i64 e.op), (39, .pointer (some ⟨b0, 0, none⟩)), (38, .bool false), (37, .bool false), (36, .bool false), (35, .string e.other), (34, .pointer (some ⟨b0, 2, none⟩)), (33, .string e.id), (32, .pointer (some ⟨b0, 1, none⟩)), (31, .bool true), (30, .bool true), (29, .bool false), (28, .bool false), (27, .bool false), (26, .int .i64 e.op), (25, .pointer (some ⟨b0, 0, none⟩)), (24, .bool false), (23, .bool false), (22, .bool false), (21, .int .i64 e.op), (20, .pointer (some ⟨b0, 0, none⟩)), (19, .bool false), (18, .bool false), (17, .pointer (some ⟨r, 0, none⟩)), (5, .bool true), (16, .bool true), (15, undef), (14, undef), (13, undef), (12, .bool true), (11, .bool true), (10, .int .i64 e.op), (9, .pointer (some ⟨b0, 0, none⟩)), (4, .int .i64 0), (3, .pointer (some ⟨b0, 0, none⟩)), (0, .pointer (some ⟨r, 0, none⟩)), (1, .agg e.cells)]) (T := [some (65, .pointer (some ⟨b0, 0, none⟩)), some (66, .int .i64 e.op), some (67, .bool false), some (68, .bool false), some (69, undef), some (70, undef), some (71, undef), some (72, undef), some (73, undef), some (74, undef), some (75, undef), some (76, undef), some (77, .bool false), some (78, .bool false), some (79, .pointer (some ⟨b0, 0, none⟩)), some (80, .int .i64 e.op), some (81, .bool true), some (82, .bool true), some (83, .pointer (some ⟨r, 0, none⟩)), some (84, .pointer (some ⟨r, 0, none⟩)), some (85, .pointer (some ⟨r, 1, none⟩)), some (86, .slice (pa1) R.ms.length ca1), some (87, .pointer (some ⟨b0, 2, none⟩)), some (88, .string e.other), some (89, .bool (inB R.ms e.other)), some (90, .bool (inB R.ms e.other)), some (91, .bool (inB R.ms e.other))]) (M := fun _ wm => Fr (fun _ => False) w1 wm) (by kernel_rfl) (by kernel_rfl) (by kernel_rfl) (E.of ⟨E.get 0 rfl, E.get 1 rfl, E.get 2 rfl, E.get 3 rfl, E.get 4 rfl, E.get 5 rfl, E.get 6 rfl, E.get 7 rfl, E.get 8 rfl, E.get 9 rfl, E.get 10 rfl, E.get 11 rfl, E.get 12 rfl, E.get 13 rfl, E.get 14 rfl, E.get 15 rfl, E.get 16 rfl, E.get 17 rfl, E.get 18 rfl, E.get 19 rfl, E.get 20 rfl, E.get 21 rfl, E.get 22 rfl, E.get 23 rfl, E.get 24 rfl, E.get 25 rfl, E.get 26 rfl, E.get 27 rfl, E.get 28 rfl, E.get 29 rfl, E.get 30 rfl, E.get 31 rfl, E.get 32 rfl, E.get 33 rfl, E.get 34 rfl, E.get 35 rfl, E.get 36 rfl, E.get 37 rfl, E.get 38 rfl, E.get 39 rfl, E.get 40 rfl, E.get 41 rfl, E.get 42 rfl, E.get 43 rfl, E.get 44 rfl, E.get 45 rfl, E.get 46 rfl, E.get 47 rfl, E.get 48 rfl, E.get 49 rfl, E.get 50 rfl, E.get 51 rfl, E.get 52 rfl, E.get 53 rfl, E.get 54 rfl, E.get 55 rfl, E.get 56 rfl, E.get 57 rfl, E.get 58 rfl, E.get 59 rfl, E.get 60 rfl, trivial⟩) (Fr.refl _ _).drew ?_ ?_
      · intro j9 o9 t9 ls9 a w5 ho hT0 hl E D DL hM
        have h := RefAt.fr h hM (fun _ _ h => h)
        have hT := hT.trans' hM (fun _ _ h => h.elim)
        have hb := hM.obj hb id
        match j9, ho, hT0, hl, D, DL with
        | 0, ho, hT0, hl, D, DL =>
          obtain rfl := Option.some.inj ho
          obtain rfl := Option.some.inj hT0
          clear ho hT0
          exact ⟨fun _ => val_wp (fa38_0 rfl (E.get 58 rfl)) rfl hM, fun h => by rw [wanted_none rfl] at h; cases h⟩
        | 1, ho, hT0, hl, D, DL =>
          obtain rfl := Option.some.inj ho
          obtain rfl := Option.some.inj hT0
          clear ho hT0
          exact ⟨fun _ => val_wp (run_ldi rfl (D 0 _ rfl rfl) (bx hb 0 rfl)) rfl hM, fun h => by rw [wanted_none rfl] at h; cases h⟩
        | 2, ho, hT0, hl, D, DL =>
          obtain rfl := Option.some.inj ho
          obtain rfl := Option.some.inj hT0
          clear ho hT0
          exact ⟨fun _ => val_wp ((run_ieql (D 1 _ rfl rfl) rfl Try.underlying3 rfl).trans (by rw [hk2] <;> rfl)) rfl hM, fun h => by rw [wanted_none rfl] at h; cases h⟩
        | 3, ho, hT0, hl, D, DL =>
          obtain rfl := Option.some.inj ho
          obtain rfl := Option.some.inj hT0
          clear ho hT0
          exact ⟨fun _ => val_wp (run_move rfl (D 2 _ rfl rfl)) rfl hM, fun h => by rw [wanted_none rfl] at h; cases h⟩
        | 4, ho, hT0, hl, D, DL =>
          obtain rfl := Option.some.inj ho
          obtain rfl := Option.some.inj hT0
          clear ho hT0
          exact ⟨fun h => (by rw [w_no (g := 3) (s := 68) (b := true) E rfl rfl (by decide) (D 3 _ rfl rfl)] at h; cases h), fun _ => ⟨fun x hx => by cases hx; rfl, hM⟩⟩
        | 5, ho, hT0, hl, D, DL =>
          obtain rfl := Option.some.inj ho
          obtain rfl := Option.some.inj hT0
          clear ho hT0
          exact ⟨fun h => (by rw [w_no (g := 3) (s := 68) (b := true) E rfl rfl (by decide) (D 3 _ rfl rfl)] at h; cases h), fun _ => ⟨fun x hx => by cases hx; rfl, hM⟩⟩
        | 6, ho, hT0, hl, D, DL =>
          obtain rfl := Option.some.inj ho
          obtain rfl := Option.some.inj hT0
          clear ho hT0
          exact ⟨fun h => (by rw [w_no (g := 3) (s := 68) (b := true) E rfl rfl (by decide) (D 3 _ rfl rfl)] at h; cases h), fun _ => ⟨fun x hx => by cases hx; rfl, hM⟩⟩
        | 7, ho, hT0, hl, D, DL =>
          obtain rfl := Option.some.inj ho
          obtain rfl := Option.some.inj hT0
          clear ho hT0
          exact ⟨fun h => (by rw [w_no (g := 3) (s := 68) (b := true) E rfl rfl (by decide) (D 3 _ rfl rfl)] at h; cases h), fun _ => ⟨fun x hx => by cases hx; rfl, hM⟩⟩
        | 8, ho, hT0, hl, D, DL =>
          obtain rfl := Option.some.inj ho
          obtain rfl := Option.some.inj hT0
          clear ho hT0
          exact ⟨fun h => (by rw [w_no (g := 3) (s := 68) (b := true) E rfl rfl (by decide) (D 3 _ rfl rfl)] at h; cases h), fun _ => ⟨fun x hx => by cases hx; rfl, hM⟩⟩
        | 9, ho, hT0, hl, D, DL =>
          obtain rfl := Option.some.inj ho
          obtain rfl := Option.some.inj hT0
          clear ho hT0
          exact ⟨fun h => (by rw [w_no (g := 3) (s := 68) (b := true) E rfl rfl (by decide) (D 3 _ rfl rfl)] at h; cases h), fun _ => ⟨fun x hx => by cases hx; rfl, hM⟩⟩
        | 10, ho, hT0, hl, D, DL =>
          obtain rfl := Option.some.inj ho
          obtain rfl := Option.some.inj hT0
          clear ho hT0
          exact ⟨fun h => (by rw [w_no (g := 3) (s := 68) (b := true) E rfl rfl (by decide) (D 3 _ rfl rfl)] at h; cases h), fun _ => ⟨fun x hx => by cases hx; rfl, hM⟩⟩
        | 11, ho, hT0, hl, D, DL =>
          obtain rfl := Option.some.inj ho
          obtain rfl := Option.some.inj hT0
          clear ho hT0
          exact ⟨fun h => (by rw [w_no (g := 3) (s := 68) (b := true) E rfl rfl (by decide) (D 3 _ rfl rfl)] at h; cases h), fun _ => ⟨fun x hx => by cases hx; rfl, hM⟩⟩
        | 12, ho, hT0, hl, D, DL =>
          obtain rfl := Option.some.inj ho
          obtain rfl := Option.some.inj hT0
          clear ho hT0
          exact ⟨fun _ => val_wp (run_pick_f rfl (D 3 _ rfl rfl) rfl) rfl hM, fun h => by rw [wanted_none rfl] at h; cases h⟩
        | 13, ho, hT0, hl, D, DL =>
          obtain rfl := Option.some.inj ho
          obtain rfl := Option.some.inj hT0
          clear ho hT0
          exact ⟨fun _ => val_wp (run_move rfl (D 12 _ rfl rfl)) rfl hM, fun h => by rw [wanted_none rfl] at h; cases h⟩
        | 14, ho, hT0, hl, D, DL =>
          obtain rfl := Option.some.inj ho
          obtain rfl := Option.some.inj hT0
          clear ho hT0
          exact ⟨fun _ => val_wp (fa38_0 rfl (E.get 58 rfl)) rfl hM, fun h => by rw [w_yes (g := 13) (s := 78) (b := false) E rfl rfl (by decide) (D 13 _ rfl rfl)] at h; cases h⟩
        | 15, ho, hT0, hl, D, DL =>
          obtain rfl := Option.some.inj ho
          obtain rfl := Option.some.inj hT0
          clear ho hT0
          exact ⟨fun _ => val_wp (run_ldi rfl (D 14 _ rfl rfl) (bx hb 0 rfl)) rfl hM, fun h => by rw [w_yes (g := 13) (s := 78) (b := false) E rfl rfl (by decide) (D 13 _ rfl rfl)] at h; cases h⟩
        | 16, ho, hT0, hl, D, DL =>
          obtain rfl := Option.some.inj ho
          obtain rfl := Option.some.inj hT0
          clear ho hT0
          exact ⟨fun _ => val_wp ((run_ieql (D 15 _ rfl rfl) rfl Try.underlying3 rfl).trans (by rw [hk0] <;> rfl)) rfl hM, fun h => by rw [w_yes (g := 13) (s := 78) (b := false) E rfl rfl (by decide) (D 13 _ rfl rfl)] at h; cases h⟩
        | 17, ho, hT0, hl, D, DL =>
          obtain rfl := Option.some.inj ho
          obtain rfl := Option.some.inj hT0
          clear ho hT0
          exact ⟨fun _ => val_wp (run_move rfl (D 16 _ rfl rfl)) rfl hM, fun h => by rw [w_yes (g := 13) (s := 78) (b := false) E rfl rfl (by decide) (D 13 _ rfl rfl)] at h; cases h⟩
        | 18, ho, hT0, hl, D, DL =>
          obtain rfl := Option.some.inj ho
          obtain rfl := Option.some.inj hT0
          clear ho hT0
          exact ⟨fun _ => val_wp (run_move rfl (E.get 59 rfl)) rfl hM, fun h => by rw [w_yes (g := 17) (s := 82) (b := true) E rfl rfl (by decide) (D 17 _ rfl rfl)] at h; cases h⟩
        | 19, ho, hT0, hl, D, DL =>
          obtain rfl := Option.some.inj ho
          obtain rfl := Option.some.inj hT0
          clear ho hT0
          exact ⟨fun _ => val_wp (run_nilchk rfl (D 18 _ rfl rfl)) rfl hM, fun h => by rw [w_yes (g := 17) (s := 82) (b := true) E rfl rfl (by decide) (D 17 _ rfl rfl)] at h; cases h⟩
        | 20, ho, hT0, hl, D, DL =>
          obtain rfl := Option.some.inj ho
          obtain rfl := Option.some.inj hT0
          clear ho hT0
          exact ⟨fun _ => val_wp (fa58_at (by decide) rfl (D 19 _ rfl rfl)) rfl hM, fun h => by rw [w_yes (g := 17) (s := 82) (b := true) E rfl rfl (by decide) (D 17 _ rfl rfl)] at h; cases h⟩
        | 21, ho, hT0, hl, D, DL =>
          obtain rfl := Option.some.inj ho
          obtain rfl := Option.some.inj hT0
          clear ho hT0
          exact ⟨fun _ => val_wp (run_ld33 rfl (D 20 _ rfl rfl) h.c1) rfl hM, fun h => by rw [w_yes (g := 17) (s := 82) (b := true) E rfl rfl (by decide) (D 17 _ rfl rfl)] at h; cases h⟩
        | 22, ho, hT0, hl, D, DL =>
          obtain rfl := Option.some.inj ho
          obtain rfl := Option.some.inj hT0
          clear ho hT0
          exact ⟨fun _ => val_wp (fa38_2 rfl (E.get 58 rfl)) rfl hM, fun h => by rw [w_yes (g := 17) (s := 82) (b := true) E rfl rfl (by decide) (D 17 _ rfl rfl)] at h; cases h⟩
        | 23, ho, hT0, hl, D, DL =>
          obtain rfl := Option.some.inj ho
          obtain rfl := Option.some.inj hT0
          clear ho hT0
          exact ⟨fun _ => val_wp (run_lds rfl (D 22 _ rfl rfl) (bx hb 2 rfl)) rfl hM, fun h => by rw [w_yes (g := 17) (s := 82) (b := true) E rfl rfl (by decide) (D 17 _ rfl rfl)] at h; cases h⟩
        | 24, ho, hT0, hl, D, DL =>
          obtain rfl := Option.some.inj ho
          obtain rfl := Option.some.inj hT0
          clear ho hT0
          exact ⟨fun _ => call_wp (run_call2 (enters_of Try.func24 (by kernel_rfl) rfl) rfl rfl (D 21 _ rfl rfl) (D 23 _ rfl rfl)) (h.inC e.other) rfl fun w9 f1 => (hM.trans f1), fun h => by rw [w_yes (g := 17) (s := 82) (b := true) E rfl rfl (by decide) (D 17 _ rfl rfl)] at h; cases h⟩
        | 25, ho, hT0, hl, D, DL =>
          obtain rfl := Option.some.inj ho
          obtain rfl := Option.some.inj hT0
          clear ho hT0
          exact ⟨fun _ => val_wp (run_pick_t rfl (D 17 _ rfl rfl) (D 24 _ rfl rfl)) rfl hM, fun h => by rw [w_yes (g := 13) (s := 78) (b := false) E rfl rfl (by decide) (D 13 _ rfl rfl)] at h; cases h⟩
        | 26, ho, hT0, hl, D, DL =>
          obtain rfl := Option.some.inj ho
          obtain rfl := Option.some.inj hT0
          clear ho hT0
          exact ⟨fun _ => val_wp (run_pick_f rfl (D 13 _ rfl rfl) (D 25 _ rfl rfl)) rfl hM, fun h => by rw [wanted_none rfl] at h; cases h⟩
        | j9 + 27, ho, hT0, hl, D, DL => exact absurd hT0 (by simp)
      · intro a w5 E V hM
        have E := E.add (V 26 _ rfl)
        clear V
        have h := RefAt.fr h hM (fun _ _ h => h)
        have hT := hT.trans' hM (fun _ _ h => h.elim)
        have hb := hM.obj hb id
        clear hM
        refine then_n ?_
        cases hq4 : (inB R.ms e.other) with
        | false =>
          rw [hq4] at E
          refine wp_cond_false (E.get 0 rfl) ?_
          refine wp_skip ?_
          refine then_n ?_
          refine wp_seq ?_
          refine wp_seq ?_
          refine wp_region_lit ?_
          refine env_put (d := 92) (v := .pointer (some ⟨b0, 0, none⟩)) E rfl (by decide) rfl (wanted_none rfl _) (fa38_0 rfl (E.get 59 rfl)) fun a E => ?_
          refine env_put (d := 93) (v := .int .i64 e.op) E rfl (by decide) rfl (wanted_none rfl _) (run_ldi rfl (E.get 0 rfl) (bx hb 0 rfl)) fun a E => ?_
          refine env_put (d := 94) (v := .bool false) E rfl (by decide) rfl (wanted_none rfl _) ((run_ieql (E.get 0 rfl) rfl Try.underlying3 rfl).trans (by rw [hk2] <;> rfl)) fun a E => ?_
          refine wpList_nil ?_
          refine then_n ?_
          refine wp_cond_false (E.get 0 rfl) ?_
          refine wp_skip ?_
          refine then_n ?_
          refine wp_seq ?_
          refine wp_region_lit ?_
          refine env_put (d := 100) (v := .pointer (some ⟨r, 0, none⟩)) E rfl (by decide) rfl (wanted_none rfl _) (run_move rfl (E.get 63 rfl)) fun a E => ?_
          refine env_put (d := 101) (v := .pointer (some ⟨b0, 1, none⟩)) E rfl (by decide) rfl (wanted_none rfl _) (fa38_1 rfl (E.get 63 rfl)) fun a E => ?_
          refine env_put (d := 102) (v := .string e.id) E rfl (by decide) rfl (wanted_none rfl _) (run_lds rfl (E.get 0 rfl) (bx hb 1 rfl)) fun a E => ?_
          refine env_call (d := 103) (v := .tuple #[]) E rfl (by decide) rfl (wanted_none rfl _) (run_call2 (enters_of Try.func33 (by kernel_rfl) rfl) rfl rfl (E.get 2 rfl) (E.get 0 rfl)) (rmen_calls h (by omega) (by omega) e.id) fun a w1 f1 E => ?_
          obtain ⟨σ1, ⟨pv1, mv1, hn⟩, f2, hs⟩ := f1
          have hS' := fun k (hk : k < w.heap.size) h => hS k hk (hs k (Nat.lt_of_lt_of_le hk hT.size) h)
          have hT' := hT.trans' f2 (fun r hr h => hS r hr h)
          have hnb' : ¬ σ1 b0 := fun hh => hnb (hs b0 (lt_of_blk hb) hh)
          have hb' := f2.obj hb hnb
          clear f2 hs h hT hS hnb hb
          have h := hn
          have hT := hT'
          have hS := hS'
          have hnb := hnb'
          have hb := hb'
          clear hn hT' hS' hnb' hb'
          refine wpList_nil ?_
          refine then_n ?_
          refine wp_seq ?_
          refine wp_seq ?_
          refine wp_region_lit ?_
          refine env_put (d := 104) (v := .bool true) E rfl (by decide) rfl (wanted_none rfl _) (run_move rfl (E.get 56 rfl)) fun a E => ?_
          refine wpList_nil ?_
          refine then_n ?_
          refine wp_cond_true (E.get 0 rfl) ?_
          refine wp_region_lit ?_
          refine env_put (d := 105) (v := .pointer (some ⟨r, 0, none⟩)) E rfl (by decide) rfl (wanted_none rfl _) (run_move rfl (E.get 68 rfl)) fun a E => ?_
          refine env_put (d := 106) (v := .pointer (some ⟨b0, 2, none⟩)) E rfl (by decide) rfl (wanted_none rfl _) (fa38_2 rfl (E.get 68 rfl)) fun a E => ?_
          refine env_put (d := 107) (v := .string e.other) E rfl (by decide) rfl (wanted_none rfl _) (run_lds rfl (E.get 0 rfl) (bx hb 2 rfl)) fun a E => ?_
          refine env_call (d := 108) (v := .tuple #[]) E rfl (by decide) rfl (wanted_none rfl _) (run_call2 (enters_of Try.func33 (by kernel_rfl) rfl) rfl rfl (E.get 2 rfl) (E.get 0 rfl)) (rmen_calls h (by have := menR_ms R e.id; omega) (by have := menR_ps R e.id; omega) e.other) fun a w1 f1 E => ?_
          obtain ⟨σ2, ⟨pv2, mv2, hn⟩, f2, hs⟩ := f1
          have hS' := fun k (hk : k < w.heap.size) h => hS k hk (hs k (Nat.lt_of_lt_of_le hk hT.size) h)
          have hT' := hT.trans' f2 (fun r hr h => hS r hr h)
          have hnb' : ¬ σ2 b0 := fun hh => hnb (hs b0 (lt_of_blk hb) hh)
          have hb' := f2.obj hb hnb
          clear f2 hs h hT hS hnb hb
          have h := hn
          have hT := hT'
          have hS := hS'
          have hnb := hnb'
          have hb := hb'
          clear hn hT' hS' hnb' hb'
          refine wpList_nil ?_
          refine then_n ?_
          refine wp_seq ?_
          obtain ⟨pa2, ca2, hva, _⟩ := h.msrc
          subst hva
          refine wp_region_lit ?_
          refine env_put (d := 109) (v := .pointer (some ⟨r, 0, none⟩)) E rfl (by decide) rfl (wanted_none rfl _) (run_move rfl (E.get 72 rfl)) fun a E => ?_
          refine env_put (d := 110) (v := .pointer (some ⟨r, 0, none⟩)) E rfl (by decide) rfl (wanted_none rfl _) (run_nilchk rfl (E.get 0 rfl)) fun a E => ?_
          refine env_put (d := 111) (v := .pointer (some ⟨r, 1, none⟩)) E rfl (by decide) rfl (wanted_none rfl _) (fa58_at (by decide) rfl (E.get 0 rfl)) fun a E => ?_
          refine env_put (d := 112) (v := .slice (pa2) (menR (menR R e.id) e.other).ms.length ca2) E rfl (by decide) rfl (wanted_none rfl _) (run_ld33 rfl (E.get 0 rfl) h.c1) fun a E => ?_
          refine env_put (d := 6) (v := .slice (pa2) (menR (menR R e.id) e.other).ms.length ca2) E rfl (by decide) rfl (wanted_none rfl _) (run_assign rfl (E.get 0 rfl)) fun a E => ?_
          refine wpList_nil ?_
          refine then_n ?_
          refine wp_seq ?_
          refine wp_seq ?_
          refine wp_region_lit ?_
          refine env_put (d := 113) (v := .pointer (some ⟨b0, 0, none⟩)) E rfl (by decide) rfl (wanted_none rfl _) (fa38_0 rfl (E.get 76 rfl)) fun a E => ?_
          refine env_put (d := 114) (v := .int .i64 e.op) E rfl (by decide) rfl (wanted_none rfl _) (run_ldi rfl (E.get 0 rfl) (bx hb 0 rfl)) fun a E => ?_
          refine env_put (d := 115) (v := .bool true) E rfl (by decide) rfl (wanted_none rfl _) ((run_ieql (E.get 0 rfl) rfl Try.underlying3 rfl).trans (by rw [hk0] <;> rfl)) fun a E => ?_
          refine wpList_nil ?_
          refine then_n ?_
          refine wp_cond_true (E.get 0 rfl) ?_
          refine wp_seq ?_
          refine wp_region_lit ?_
          refine env_put (d := 7) (v := .int .i64 0) E rfl (by decide) rfl (wanted_none rfl _) (run_assign rfl rfl) fun a E => ?_
          refine wpList_nil ?_
          refine then_n ?_
          refine wp_block ?_
          obtain ⟨R2, hR2⟩ : ∃ R2, R2 = (menR (menR R e.id) e.other) := ⟨_, rfl⟩
          refine wp_loop (fun a w2 => ∃ (i : Nat) (σ2 : Nat → Prop) (pv2 : Value), Env 174 [(7, .int .i64 (i : Int)), (6, .slice (pa2) (menR (menR R e.id) e.other).ms.length ca2), (3, .pointer (some ⟨b0, 0, none⟩)), (0, .pointer (some ⟨r, 0, none⟩))] a ∧ i ≤ (menR (menR R e.id) e.other).ms.length ∧ RefAt w2 r σ2 (((menR (menR R e.id) e.other).ms.take i).foldl (stp e.id e.other) (menR (menR R e.id) e.other)) pv2 (.slice pa2 (menR (menR R e.id) e.other).ms.length ca2) ∧ Fr σ w w2 ∧ (∀ k, k < w.heap.size → σ2 k → σ k) ∧ w2.heap[b0]? = some (.cells e.cells 38 (0, 0)) ∧ ¬ σ2 b0) (fun a _ => (menR (menR R e.id) e.other).ms.length - (intOf (a.eval (.tmp 7))).toNat) ?_ ?_
          · exact ⟨0, _, _, E.of ⟨E.get 0 rfl, E.get 4 rfl, E.get 80 rfl, E.get 81 rfl, trivial⟩, Nat.zero_le _, h, hT, hS, hb, hnb⟩
          clear E
          rintro a w2 ⟨i, σ2, pv2, E, hi, h, hT, hS, hb, hnb⟩
          have hmu : (menR (menR R e.id) e.other).ms.length - (intOf (a.eval (.tmp 7))).toNat = (menR (menR R e.id) e.other).ms.length - i := by rw [E.get 0 rfl]; first | (simp [intOf]; done) | (simp only [intOf]; omega)
          rw [hmu]
          clear hmu
          refine wp_seq ?_
          refine wp_seq ?_
          refine wp_region_lit ?_
          refine env_put (d := 116) (v := .int .i64 (i : Int)) E rfl (by decide) rfl (wanted_none rfl _) (run_move rfl (E.get 0 rfl)) fun a E => ?_
          refine env_put (d := 117) (v := .slice (pa2) (menR (menR R e.id) e.other).ms.length ca2) E rfl (by decide) rfl (wanted_none rfl _) (run_move rfl (E.get 2 rfl)) fun a E => ?_
          refine env_put (d := 118) (v := .int .i64 ((menR (menR R e.id) e.other).ms.length : Int)) E rfl (by decide) rfl (wanted_none rfl _) (run_len33 rfl (E.get 0 rfl)) fun a E => ?_
          refine env_put (d := 119) (v := .bool (decide ((i : Int) < ((menR (menR R e.id) e.other).ms.length : Int)))) E rfl (by decide) rfl (wanted_none rfl _) (run_ilss (E.get 2 rfl) (E.get 0 rfl) Try.underlying3 rfl) fun a E => ?_
          refine wpList_nil ?_
          refine then_n ?_
          cases hq6 : (decide ((i : Int) < ((menR (menR R e.id) e.other).ms.length : Int))) with
          | false =>
            rw [hq6] at E
            have hie : i = (menR (menR R e.id) e.other).ms.length := by have := of_decide_eq_false hq6; omega
            rw [hie, List.take_length] at h
            clear hR2 R2
            refine wp_cond_false (E.get 0 rfl) ?_
            refine wp_exit ?_
            refine then_e ?_
            refine then_e ?_
            refine blk_e ?_
            refine then_n ?_
            refine wp_seq ?_
            refine wp_seq ?_
            refine wp_region_lit ?_
            refine env_put (d := 138) (v := .pointer (some ⟨b0, 0, none⟩)) E rfl (by decide) rfl (wanted_none rfl _) (fa38_0 rfl (E.get 6 rfl)) fun a E => ?_
            refine env_put (d := 139) (v := .int .i64 e.op) E rfl (by decide) rfl (wanted_none rfl _) (run_ldi rfl (E.get 0 rfl) (bx hb 0 rfl)) fun a E => ?_
            refine env_put (d := 140) (v := .bool false) E rfl (by decide) rfl (wanted_none rfl _) ((run_ieql (E.get 0 rfl) rfl Try.underlying3 rfl).trans (by rw [hk1] <;> rfl)) fun a E => ?_
            refine wpList_nil ?_
            refine then_n ?_
            refine wp_cond_false (E.get 0 rfl) ?_
            refine wp_skip ?_
            refine then_n ?_
            refine wp_seq ?_
            refine wp_seq ?_
            refine wp_region_lit ?_
            refine env_put (d := 167) (v := .pointer (some ⟨b0, 0, none⟩)) E rfl (by decide) rfl (wanted_none rfl _) (fa38_0 rfl (E.get 9 rfl)) fun a E => ?_
            refine env_put (d := 168) (v := .int .i64 e.op) E rfl (by decide) rfl (wanted_none rfl _) (run_ldi rfl (E.get 0 rfl) (bx hb 0 rfl)) fun a E => ?_
            refine env_put (d := 169) (v := .bool false) E rfl (by decide) rfl (wanted_none rfl _) ((run_ieql (E.get 0 rfl) rfl Try.underlying3 rfl).trans (by rw [hk3] <;> rfl)) fun a E => ?_
            refine wpList_nil ?_
            refine then_n ?_
            refine wp_cond_false (E.get 0 rfl) ?_
            refine wp_skip ?_
            refine then_n ?_
            refine wp_seq ?_
            refine wp_region_lit ?_
            refine env_put (d := 4) (v := .int .i64 0) E rfl (by decide) rfl (wanted_none rfl _) (run_assign rfl rfl) fun a E => ?_
            refine wpList_nil ?_
            refine then_n ?_
            refine wp_ret ?_
            have hio : e.id ≠ e.other := of_decide_eq_false hq1
            have hE : refE R e = 0 := by
              simp [refE, followE, Edt.bad, Edt.two, Edt.fresh, linR, hop, hq2, hq4, hio]
            have hF : refF R e = ((menR (menR R e.id) e.other).ms.foldl (stp e.id e.other) (menR (menR R e.id) e.other)) := by simp [refF, hop]
            have hR : (if refE R e = 0 then refF R e else R) = ((menR (menR R e.id) e.other).ms.foldl (stp e.id e.other) (menR (menR R e.id) e.other)) := by rw [if_pos hE, hF]
            refine ret_tmp (t := 4) rfl E (E.get 0 rfl) ⟨by rw [hE], _, ?_, hT, hS⟩
            rw [hR]; exact ⟨_, _, h⟩
          | true =>
            rw [hq6] at E
            have hlt : i < (menR (menR R e.id) e.other).ms.length := by have := of_decide_eq_true hq6; omega
            obtain ⟨y, hy⟩ : ∃ y, (menR (menR R e.id) e.other).ms[i]? = some y := ⟨_, List.getElem?_eq_getElem hlt⟩
            have hms := h.msrc'.2
            rw [fold_ms] at hms
            obtain ⟨g, off, hpe, hgl, hrow⟩ := hms.at hlt
            replace hrow := hrow i y hy
            clear hms
            refine wp_cond_true (E.get 0 rfl) ?_
            refine wp_skip ?_
            refine then_n ?_
            refine wp_seq ?_
            refine wp_block ?_
            refine wp_seq ?_
            refine wp_region_inv (n := 174) (base := [(119, .bool true), (118, .int .i64 ((menR (menR R e.id) e.other).ms.length : Int)), (117, .slice (pa2) (menR (menR R e.id) e.other).ms.length ca2), (116, .int .i64 (i : Int)), (7, .int .i64 (i : Int)), (6, .slice (pa2) (menR (menR R e.id) e.other).ms.length ca2), (3, .pointer (some ⟨b0, 0, none⟩)), (0, .pointer (some ⟨r, 0, none⟩))]) (T := [some (122, .pointer (some ⟨r, 0, none⟩)), some (123, .slice (pa2) (menR (menR R e.id) e.other).ms.length ca2), some (124, .int .i64 (i : Int)), some (125, .pointer (some ⟨g, (off + i), none⟩)), some (126, .string y), some (127, .pointer (some ⟨b0, 1, none⟩)), some (128, .string e.id), some (129, .bool (pairB (((menR (menR R e.id) e.other).ms.take i).foldl (stp e.id e.other) (menR (menR R e.id) e.other)) y e.id))]) (M := fun _ wm => Fr (fun _ => False) w2 wm) (by kernel_rfl) (by kernel_rfl) (by kernel_rfl) (E.of ⟨E.get 0 rfl, E.get 1 rfl, E.get 2 rfl, E.get 3 rfl, E.get 4 rfl, E.get 5 rfl, E.get 6 rfl, E.get 7 rfl, trivial⟩) (Fr.refl _ _).drew ?_ ?_
            · intro j9 o9 t9 ls9 a w5 ho hT0 hl E D DL hM
              have h := RefAt.fr h hM (fun _ _ h => h)
              have hT := hT.trans' hM (fun _ _ h => h.elim)
              have hb := hM.obj hb id
              have hrow := fun j u hu => hM.cell (hrow j u hu) id
              match j9, ho, hT0, hl, D, DL with
              | 0, ho, hT0, hl, D, DL =>
                obtain rfl := Option.some.inj ho
                obtain rfl := Option.some.inj hT0
                clear ho hT0
                exact val_wp (run_move rfl (E.get 7 rfl)) rfl hM
              | 1, ho, hT0, hl, D, DL =>
                obtain rfl := Option.some.inj ho
                obtain rfl := Option.some.inj hT0
                clear ho hT0
                exact val_wp (run_move rfl (E.get 5 rfl)) rfl hM
              | 2, ho, hT0, hl, D, DL =>
                obtain rfl := Option.some.inj ho
                obtain rfl := Option.some.inj hT0
                clear ho hT0
                exact val_wp (run_move rfl (E.get 4 rfl)) rfl hM
              | 3, ho, hT0, hl, D, DL =>
                obtain rfl := Option.some.inj ho
                obtain rfl := Option.some.inj hT0
                clear ho hT0
                exact val_wp (run_index33 (i := i) rfl ((D 1 _ rfl rfl).trans (by rw [hpe])) (D 2 _ rfl rfl) hlt) rfl hM
              | 4, ho, hT0, hl, D, DL =>
                obtain rfl := Option.some.inj ho
                obtain rfl := Option.some.inj hT0
                clear ho hT0
                exact val_wp (run_lds rfl (D 3 _ rfl rfl) (by have := hrow 0 _ rfl; rwa [Nat.mul_one] at this)) rfl hM
              | 5, ho, hT0, hl, D, DL =>
                obtain rfl := Option.some.inj ho
                obtain rfl := Option.some.inj hT0
                clear ho hT0
                exact val_wp (fa38_1 rfl (E.get 6 rfl)) rfl hM
              | 6, ho, hT0, hl, D, DL =>
                obtain rfl := Option.some.inj ho
                obtain rfl := Option.some.inj hT0
                clear ho hT0
                exact val_wp (run_lds rfl (D 5 _ rfl rfl) (bx hb 1 rfl)) rfl hM
              | 7, ho, hT0, hl, D, DL =>
                obtain rfl := Option.some.inj ho
                obtain rfl := Option.some.inj hT0
                clear ho hT0
                exact call_wp (run_call3 (enters_of Try.func32 (by kernel_rfl) rfl) rfl rfl (D 0 _ rfl rfl) (D 4 _ rfl rfl) (D 6 _ rfl rfl)) (h.pairC y e.id) rfl fun w9 f1 => (hM.trans f1)
              | j9 + 8, ho, hT0, hl, D, DL => exact absurd hT0 (by simp)
            · intro a w5 E V hM
              have E := E.add (V 7 _ rfl)
              clear V
              have h := RefAt.fr h hM (fun _ _ h => h)
              have hT := hT.trans' hM (fun _ _ h => h.elim)
              have hb := hM.obj hb id
              have hrow := fun j u hu => hM.cell (hrow j u hu) id
              clear hM
              refine then_n ?_
              cases hq8 : (pairB (((menR (menR R e.id) e.other).ms.take i).foldl (stp e.id e.other) (menR (menR R e.id) e.other)) y e.id) with
              | false =>
                rw [hq8] at E
                refine wp_cond_false (E.get 0 rfl) ?_
                refine wp_skip ?_
                refine blk_n ?_
                refine then_n ?_
                refine wp_region_lit ?_
                refine env_put (d := 120) (v := .int .i64 (i : Int)) E rfl (by decide) rfl (wanted_none rfl _) (run_move rfl (E.get 5 rfl)) fun a E => ?_
                refine env_put (d := 121) (v := .int .i64 ((i : Int) + 1)) E rfl (by decide) rfl (wanted_none rfl _) (run_iadd (E.get 0 rfl) rfl (by omega) (by omega) rfl) fun a E => ?_
                refine env_set (d := 7) (v := .int .i64 ((i : Int) + 1)) E rfl (by decide) (wanted_none rfl _) (run_assign rfl (E.get 0 rfl)) fun a E => ?_
                refine wpList_nil ?_
                refine then_n ?_
                refine ⟨⟨i + 1, σ2, pv2, E.of ⟨E.get 0 rfl, E.get 8 rfl, E.get 9 rfl, E.get 10 rfl, trivial⟩, hlt, ?_, hT, hS, hb, hnb⟩, ?_⟩
                · rw [List.take_add_one, hy]; simp only [Option.toList_some, List.foldl_append, List.foldl_cons, List.foldl_nil]; rw [stp_neg hq8]; exact h
                · rw [E.get 0 rfl]; simp only [intOf]; omega
              | true =>
                rw [hq8] at E
                refine wp_cond_true (E.get 0 rfl) ?_
                refine wp_region_invx (G := Unit) () (n := 174) (base := [(129, .bool true), (119, .bool true), (118, .int .i64 ((menR (menR R e.id) e.other).ms.length : Int)), (117, .slice (pa2) (menR (menR R e.id) e.other).ms.length ca2), (116, .int .i64 (i : Int)), (7, .int .i64 (i : Int)), (6, .slice (pa2) (menR (menR R e.id) e.other).ms.length ca2), (3, .pointer (some ⟨b0, 0, none⟩)), (0, .pointer (some ⟨r, 0, none⟩))]) (U := []) (T := fun γ => [some (130, .pointer (some ⟨r, 0, none⟩)), some (131, .slice (pa2) (menR (menR R e.id) e.other).ms.length ca2), some (132, .int .i64 (i : Int)), some (133, .pointer (some ⟨g, (off + i), none⟩)), some (134, .string y), some (135, .pointer (some ⟨b0, 2, none⟩)), some (136, .string e.other), some (137, .tuple #[])]) (M := fun γ ls9 wm => (ls9 7 = false → Fr (fun _ => False) w5 wm) ∧ (ls9 7 = true → ∃ σ3, (∃ pv3, RefAt wm r σ3 (addR (((menR (menR R e.id) e.other).ms.take i).foldl (stp e.id e.other) (menR (menR R e.id) e.other)) y e.other) pv3 (.slice pa2 (menR (menR R e.id) e.other).ms.length ca2)) ∧ Fr σ2 w5 wm ∧ ∀ k, k < w5.heap.size → σ3 k → σ2 k)) (by kernel_rfl) (by kernel_rfl) (fun _ => by kernel_rfl) (E.of ⟨E.get 0 rfl, E.get 1 rfl, E.get 2 rfl, E.get 3 rfl, E.get 4 rfl, E.get 5 rfl, E.get 6 rfl, E.get 7 rfl, E.get 8 rfl, trivial⟩) (fun x hx => by cases hx) ⟨fun _ => (Fr.refl _ _).drew, fun h => absurd h Bool.false_ne_true⟩ ?_ ?_
                · intro j9 o9 γ ls9 a w5 ho hl E D DL DL2 hB hM
                  match j9, ho, hl, D, DL, hB with
                  | 0, ho, hl, D, DL, hB =>
                    obtain rfl := Option.some.inj ho
                    clear ho
                    have h7 : ls9 7 = false := by
                      cases h9 : ls9 7 with
                      | false => rfl
                      | true => exact absurd (hl.symm.trans (DL2 7 0 rfl h9)) (by decide)
                    have hM1 := hM.1 h7
                    have h := RefAt.fr h hM1 (fun _ _ h => h)
                    have hT := hT.trans' hM1 (fun _ _ h => h.elim)
                    have hb := hM1.obj hb id
                    have hrow := fun j u hu => hM1.cell (hrow j u hu) id
                    exact ⟨fun _ => valx rfl (run_move rfl (E.get 8 rfl)) rfl hM, fun h => by rw [wanted_none rfl] at h; cases h⟩
                  | 1, ho, hl, D, DL, hB =>
                    obtain rfl := Option.some.inj ho
                    clear ho
                    have h7 : ls9 7 = false := by
                      cases h9 : ls9 7 with
                      | false => rfl
                      | true => exact absurd (hl.symm.trans (DL2 3 1 rfl (DL2 4 3 rfl (DL2 7 4 rfl h9)))) (by decide)
                    have hM1 := hM.1 h7
                    have h := RefAt.fr h hM1 (fun _ _ h => h)
                    have hT := hT.trans' hM1 (fun _ _ h => h.elim)
                    have hb := hM1.obj hb id
                    have hrow := fun j u hu => hM1.cell (hrow j u hu) id
                    exact ⟨fun _ => valx rfl (run_move rfl (E.get 6 rfl)) rfl hM, fun h => by rw [wanted_none rfl] at h; cases h⟩
                  | 2, ho, hl, D, DL, hB =>
                    obtain rfl := Option.some.inj ho
                    clear ho
                    have h7 : ls9 7 = false := by
                      cases h9 : ls9 7 with
                      | false => rfl
                      | true => exact absurd (hl.symm.trans (DL2 3 2 rfl (DL2 4 3 rfl (DL2 7 4 rfl h9)))) (by decide)
                    have hM1 := hM.1 h7
                    have h := RefAt.fr h hM1 (fun _ _ h => h)
                    have hT := hT.trans' hM1 (fun _ _ h => h.elim)
                    have hb := hM1.obj hb id
                    have hrow := fun j u hu => hM1.cell (hrow j u hu) id
                    exact ⟨fun _ => valx rfl (run_move rfl (E.get 5 rfl)) rfl hM, fun h => by rw [wanted_none rfl] at h; cases h⟩
                  | 3, ho, hl, D, DL, hB =>
                    obtain rfl := Option.some.inj ho
                    clear ho
                    have h7 : ls9 7 = false := by
                      cases h9 : ls9 7 with
                      | false => rfl
                      | true => exact absurd (hl.symm.trans (DL2 4 3 rfl (DL2 7 4 rfl h9))) (by decide)
                    have hM1 := hM.1 h7
                    have h := RefAt.fr h hM1 (fun _ _ h => h)
                    have hT := hT.trans' hM1 (fun _ _ h => h.elim)
                    have hb := hM1.obj hb id
                    have hrow := fun j u hu => hM1.cell (hrow j u hu) id
                    exact ⟨fun _ => valx rfl (run_index33 (i := i) rfl ((D 1 _ rfl rfl).trans (by rw [hpe])) (D 2 _ rfl rfl) hlt) rfl hM, fun h => by rw [wanted_none rfl] at h; cases h⟩
                  | 4, ho, hl, D, DL, hB =>
                    obtain rfl := Option.some.inj ho
                    clear ho
                    have h7 : ls9 7 = false := by
                      cases h9 : ls9 7 with
                      | false => rfl
                      | true => exact absurd (hl.symm.trans (DL2 7 4 rfl h9)) (by decide)
                    have hM1 := hM.1 h7
                    have h := RefAt.fr h hM1 (fun _ _ h => h)
                    have hT := hT.trans' hM1 (fun _ _ h => h.elim)
                    have hb := hM1.obj hb id
                    have hrow := fun j u hu => hM1.cell (hrow j u hu) id
                    exact ⟨fun _ => valx rfl (run_lds rfl (D 3 _ rfl rfl) (by have := hrow 0 _ rfl; rwa [Nat.mul_one] at this)) rfl hM, fun h => by rw [wanted_none rfl] at h; cases h⟩
                  | 5, ho, hl, D, DL, hB =>
                    obtain rfl := Option.some.inj ho
                    clear ho
                    have h7 : ls9 7 = false := by
                      cases h9 : ls9 7 with
                      | false => rfl
                      | true => exact absurd (hl.symm.trans (DL2 6 5 rfl (DL2 7 6 rfl h9))) (by decide)
                    have hM1 := hM.1 h7
                    have h := RefAt.fr h hM1 (fun _ _ h => h)
                    have hT := hT.trans' hM1 (fun _ _ h => h.elim)
                    have hb := hM1.obj hb id
                    have hrow := fun j u hu => hM1.cell (hrow j u hu) id
                    exact ⟨fun _ => valx rfl (fa38_2 rfl (E.get 7 rfl)) rfl hM, fun h => by rw [wanted_none rfl] at h; cases h⟩
                  | 6, ho, hl, D, DL, hB =>
                    obtain rfl := Option.some.inj ho
                    clear ho
                    have h7 : ls9 7 = false := by
                      cases h9 : ls9 7 with
                      | false => rfl
                      | true => exact absurd (hl.symm.trans (DL2 7 6 rfl h9)) (by decide)
                    have hM1 := hM.1 h7
                    have h := RefAt.fr h hM1 (fun _ _ h => h)
                    have hT := hT.trans' hM1 (fun _ _ h => h.elim)
                    have hb := hM1.obj hb id
                    have hrow := fun j u hu => hM1.cell (hrow j u hu) id
                    exact ⟨fun _ => valx rfl (run_lds rfl (D 5 _ rfl rfl) (bx hb 2 rfl)) rfl hM, fun h => by rw [wanted_none rfl] at h; cases h⟩
                  | 7, ho, hl, D, DL, hB =>
                    obtain rfl := Option.some.inj ho
                    clear ho
                    have hM1 := hM.1 hl
                    have h := RefAt.fr h hM1 (fun _ _ h => h)
                    have hT := hT.trans' hM1 (fun _ _ h => h.elim)
                    have hb := hM1.obj hb id
                    have hrow := fun j u hu => hM1.cell (hrow j u hu) id
                    exact ⟨fun _ => callx rfl (run_call3 (enters_of Try.func34 (by kernel_rfl) rfl) rfl rfl (D 0 _ rfl rfl) (D 4 _ rfl rfl) (D 6 _ rfl rfl)) (radd_calls h (by have h5 := fold_len e.id e.other ((menR (menR R e.id) e.other).ms.take i) (menR (menR R e.id) e.other); rw [List.length_take] at h5; have h1 := menR_ms R e.id; have h2 := menR_ps R e.id; have h3 := menR_ms (menR R e.id) e.other; have h4 := menR_ps (menR R e.id) e.other; omega) y e.other |>.mono fun e9 w9 h9 => ⟨h9.1, addpost hM1 h9.2⟩) rfl fun w9 f9 => ⟨fun h => by simp at h, fun _ => f9⟩, fun h => by rw [wanted_none rfl] at h; cases h⟩
                  | j9 + 8, ho, hl, D, DL, hB => exact absurd ho (by simp)
                · rintro _ a w5 E V hM
                  clear V
                  have f1 := hM.2 rfl
                  clear hM
                  obtain ⟨σ3, ⟨pv3, hn⟩, f2, hs⟩ := f1
                  have hS' := fun k (hk : k < w.heap.size) h => hS k hk (hs k (Nat.lt_of_lt_of_le hk hT.size) h)
                  have hT' := hT.trans' f2 (fun r hr h => hS r hr h)
                  have hnb' : ¬ σ3 b0 := fun hh => hnb (hs b0 (lt_of_blk hb) hh)
                  have hb' := f2.obj hb hnb
                  clear f2 hs h hT hS hnb hb hrow
                  have h := hn
                  have hT := hT'
                  have hS := hS'
                  have hnb := hnb'
                  have hb := hb'
                  clear hn hT' hS' hnb' hb'
                  refine blk_n ?_
                  refine then_n ?_
                  refine wp_region_lit ?_
                  refine env_put (d := 120) (v := .int .i64 (i : Int)) E rfl (by decide) rfl (wanted_none rfl _) (run_move rfl (E.get 5 rfl)) fun a E => ?_
                  refine env_put (d := 121) (v := .int .i64 ((i : Int) + 1)) E rfl (by decide) rfl (wanted_none rfl _) (run_iadd (E.get 0 rfl) rfl (by omega) (by omega) rfl) fun a E => ?_
                  refine env_set (d := 7) (v := .int .i64 ((i : Int) + 1)) E rfl (by decide) (wanted_none rfl _) (run_assign rfl (E.get 0 rfl)) fun a E => ?_
                  refine wpList_nil ?_
                  refine then_n ?_
                  refine ⟨⟨i + 1, σ3, pv3, E.of ⟨E.get 0 rfl, E.get 8 rfl, E.get 9 rfl, E.get 10 rfl, trivial⟩, hlt, ?_, hT, hS, hb, hnb⟩, ?_⟩
                  · rw [List.take_add_one, hy]; simp only [Option.toList_some, List.foldl_append, List.foldl_cons, List.foldl_nil]; rw [stp_pos hq8]; exact h
                  · rw [E.get 0 rfl]; simp only [intOf]; omega
        | true =>
          rw [hq4] at E
          refine wp_cond_true (E.get 0 rfl) ?_
          refine wp_seq ?_
          refine wp_region_lit ?_
          refine env_set (d := 4) (v := .int .i64 9) E rfl (by decide) (wanted_none rfl _) (run_assign rfl rfl) fun a E => ?_
          refine wpList_nil ?_
          refine then_n ?_
          refine wp_ret ?_
          refine then_r ?_
          have hio : e.id ≠ e.other := of_decide_eq_false hq1
          have hE : refE R e = 9 := by
            simp [refE, followE, Edt.bad, Edt.two, Edt.fresh, linR, hop, hq2, hq4, hio]
          have hR : (if refE R e = 0 then refF R e else R) = R := if_neg (by rw [hE]; decide)
          refine ret_tmp (t := 4) rfl E (E.get 0 rfl) ⟨by rw [hE], _, ?_, hT, hS⟩
          rw [hR]; exact ⟨_, _, h⟩
  | true =>
    rw [hq1] at E
    refine wp_cond_true (E.get 0 rfl) ?_
    refine wp_seq ?_
    refine wp_region_lit ?_
    refine env_set (d := 4) (v := .int .i64 1) E rfl (by decide) (wanted_none rfl _) (run_assign rfl rfl) fun a E => ?_
    refine wpList_nil ?_
    refine then_n ?_
    refine wp_ret ?_
    refine then_r ?_
    have hio : e.id = e.other := of_decide_eq_true hq1
    have hE : refE R e = 1 := by
      simp [refE, followE, Edt.bad, Edt.two, Edt.fresh, linR, hop, hio]
    have hR : (if refE R e = 0 then refF R e else R) = R := if_neg (by rw [hE]; decide)
    refine ret_tmp (t := 4) rfl E (E.get 0 rfl) ⟨by rw [hE], _, ?_, hT, hS⟩
    rw [hR]; exact ⟨_, _, h⟩
set_option maxRecDepth 100000 in
set_option maxHeartbeats 8000000 in
theorem rfol_7 {w : World} {r : Nat} {σ : Nat → Prop} {R : RefS} {pv mv : Value} (h : RefAt w r σ R pv mv) (hb1 : R.ms.length ≤ 40000) (hb2 : R.ps.length ≤ 40000) (e : Edt) (hop : e.op = 7) : Calls Try.prog 15 #[.pointer (some ⟨r, 0, none⟩), .agg e.cells] w (RPost r σ (if refE R e = 0 then refF R e else R) (.int .i64 (refE R e)) w) := by
  refine wp_start2 Try.func15 rfl rfl (n := 174) (by decide) fun a E => ?_
  have hT : Fr σ w w := Fr.refl _ _
  have hS : ∀ k, k < w.heap.size → σ k → σ k := fun _ _ h => h
  have hk0 : (e.op == 6) = false := by rw [beq_eq_false_iff_ne]; omega
  have hk1 : (e.op == 7) = true := by simp only [beq_iff_eq]; omega
  have hk2 : (e.op == 1) = false := by rw [beq_eq_false_iff_ne]; omega
  have hk3 : (e.op == 5) = false := by rw [beq_eq_false_iff_ne]; omega
  have hk4 : (e.op != 1) = true := by rw [bne_iff_ne]; omega
  have hk5 : (decide (e.op < 1)) = false := by exact decide_eq_false (by omega)
  have hk6 : (decide (7 < e.op)) = false := by exact decide_eq_false (by omega)
  refine wp_seq ?_
  refine wp_region_lit ?_
  refine env_box38 (d := 3) E rfl (by decide) rfl (wanted_none rfl _) rfl (E.get 1 rfl) fun a w1 b0 e0 hb f1 E => ?_
  have hnb : ¬ σ b0 := fun hh => by have := h.lt b0 hh; omega
  have h := h.fr f1 (fun _ _ h => h)
  have hT := hT.trans' f1 (fun _ _ h => h.elim)
  clear f1 e0
  obtain ⟨pa1, ca1, hva, _⟩ := h.msrc
  subst hva
  refine env_put (d := 4) (v := .int .i64 0) E rfl (by decide) rfl (wanted_none rfl _) (run_assign rfl rfl) fun a E => ?_
  refine wpList_nil ?_
  refine then_n ?_
  refine wp_seq ?_
  refine wp_region_lit ?_
  refine env_put (d := 9) (v := .pointer (some ⟨b0, 0, none⟩)) E rfl (by decide) rfl (wanted_none rfl _) (fa38_0 rfl (E.get 1 rfl)) fun a E => ?_
  refine env_put (d := 10) (v := .int .i64 e.op) E rfl (by decide) rfl (wanted_none rfl _) (run_ldi rfl (E.get 0 rfl) (bx hb 0 rfl)) fun a E => ?_
  refine env_put (d := 11) (v := .bool false) E rfl (by decide) rfl (wanted_none rfl _) ((run_ieql (E.get 0 rfl) rfl Try.underlying3 rfl).trans (by rw [hk0] <;> rfl)) fun a E => ?_
  refine env_put (d := 12) (v := .bool false) E rfl (by decide) rfl (wanted_none rfl _) (run_move rfl (E.get 0 rfl)) fun a E => ?_
  refine env_put (d := 13) (v := .pointer (some ⟨b0, 0, none⟩)) E rfl (by decide) rfl (w_yes (g := 3) (s := 12) E rfl rfl (by decide) (E.get 0 rfl)) (fa38_0 rfl (E.get 5 rfl)) fun a E => ?_
  refine env_put (d := 14) (v := .int .i64 e.op) E rfl (by decide) rfl (w_yes (g := 3) (s := 12) E rfl rfl (by decide) (E.get 1 rfl)) (run_ldi rfl (E.get 0 rfl) (bx hb 0 rfl)) fun a E => ?_
  refine env_put (d := 15) (v := .bool true) E rfl (by decide) rfl (w_yes (g := 3) (s := 12) E rfl rfl (by decide) (E.get 2 rfl)) ((run_ieql (E.get 0 rfl) rfl Try.underlying3 rfl).trans (by rw [hk1] <;> rfl)) fun a E => ?_
  refine env_put (d := 16) (v := .bool true) E rfl (by decide) rfl (wanted_none rfl _) (run_pick_f rfl (E.get 3 rfl) (E.get 0 rfl)) fun a E => ?_
  refine env_put (d := 5) (v := .bool true) E rfl (by decide) rfl (wanted_none rfl _) (run_assign rfl (E.get 0 rfl)) fun a E => ?_
  refine wpList_nil ?_
  refine then_n ?_
  refine wp_seq ?_
  refine wp_seq ?_
  refine wp_region_lit ?_
  refine env_put (d := 17) (v := .pointer (some ⟨r, 0, none⟩)) E rfl (by decide) rfl (wanted_none rfl _) (run_move rfl (E.get 11 rfl)) fun a E => ?_
  refine env_put (d := 18) (v := .bool false) E rfl (by decide) rfl (wanted_none rfl _) (run_pnil rfl (E.get 0 rfl) rfl) fun a E => ?_
  refine env_put (d := 19) (v := .bool false) E rfl (by decide) rfl (wanted_none rfl _) (run_move rfl (E.get 0 rfl)) fun a E => ?_
  refine env_put (d := 20) (v := .pointer (some ⟨b0, 0, none⟩)) E rfl (by decide) rfl (w_yes (g := 2) (s := 19) E rfl rfl (by decide) (E.get 0 rfl)) (fa38_0 rfl (E.get 13 rfl)) fun a E => ?_
  refine env_put (d := 21) (v := .int .i64 e.op) E rfl (by decide) rfl (w_yes (g := 2) (s := 19) E rfl rfl (by decide) (E.get 1 rfl)) (run_ldi rfl (E.get 0 rfl) (bx hb 0 rfl)) fun a E => ?_
  refine env_put (d := 22) (v := .bool false) E rfl (by decide) rfl (w_yes (g := 2) (s := 19) E rfl rfl (by decide) (E.get 2 rfl)) ((run_ilss (E.get 0 rfl) rfl Try.underlying3 rfl).trans (by rw [hk5] <;> rfl)) fun a E => ?_
  refine env_put (d := 23) (v := .bool false) E rfl (by decide) rfl (wanted_none rfl _) (run_pick_f rfl (E.get 3 rfl) (E.get 0 rfl)) fun a E => ?_
  refine env_put (d := 24) (v := .bool false) E rfl (by decide) rfl (wanted_none rfl _) (run_move rfl (E.get 0 rfl)) fun a E => ?_
  refine env_put (d := 25) (v := .pointer (some ⟨b0, 0, none⟩)) E rfl (by decide) rfl (w_yes (g := 7) (s := 24) E rfl rfl (by decide) (E.get 0 rfl)) (fa38_0 rfl (E.get 18 rfl)) fun a E => ?_
  refine env_put (d := 26) (v := .int .i64 e.op) E rfl (by decide) rfl (w_yes (g := 7) (s := 24) E rfl rfl (by decide) (E.get 1 rfl)) (run_ldi rfl (E.get 0 rfl) (bx hb 0 rfl)) fun a E => ?_
  refine env_put (d := 27) (v := .bool false) E rfl (by decide) rfl (w_yes (g := 7) (s := 24) E rfl rfl (by decide) (E.get 2 rfl)) ((run_igtr (E.get 0 rfl) rfl Try.underlying3 rfl).trans (by rw [hk6] <;> rfl)) fun a E => ?_
  refine env_put (d := 28) (v := .bool false) E rfl (by decide) rfl (wanted_none rfl _) (run_pick_f rfl (E.get 3 rfl) (E.get 0 rfl)) fun a E => ?_
  refine env_put (d := 29) (v := .bool false) E rfl (by decide) rfl (wanted_none rfl _) (run_move rfl (E.get 0 rfl)) fun a E => ?_
  refine env_put (d := 30) (v := .bool true) E rfl (by decide) rfl (w_yes (g := 12) (s := 29) E rfl rfl (by decide) (E.get 0 rfl)) (run_move rfl (E.get 13 rfl)) fun a E => ?_
  refine env_put (d := 31) (v := .bool true) E rfl (by decide) rfl (w_yes (g := 12) (s := 29) E rfl rfl (by decide) (E.get 1 rfl)) (run_move rfl (E.get 0 rfl)) fun a E => ?_
  refine env_put (d := 32) (v := .pointer (some ⟨b0, 1, none⟩)) E rfl (by decide) rfl (w_yes (g := 14) (s := 31) E rfl rfl (by decide) (E.get 0 rfl)) (fa38_1 rfl (E.get 25 rfl)) fun a E => ?_
  refine env_put (d := 33) (v := .string e.id) E rfl (by decide) rfl (w_yes (g := 14) (s := 31) E rfl rfl (by decide) (E.get 1 rfl)) (run_lds rfl (E.get 0 rfl) (bx hb 1 rfl)) fun a E => ?_
  refine env_put (d := 34) (v := .pointer (some ⟨b0, 2, none⟩)) E rfl (by decide) rfl (w_yes (g := 14) (s := 31) E rfl rfl (by decide) (E.get 2 rfl)) (fa38_2 rfl (E.get 27 rfl)) fun a E => ?_
  refine env_put (d := 35) (v := .string e.other) E rfl (by decide) rfl (w_yes (g := 14) (s := 31) E rfl rfl (by decide) (E.get 3 rfl)) (run_lds rfl (E.get 0 rfl) (bx hb 2 rfl)) fun a E => ?_
  refine env_put (d := 36) (v := .bool (decide (e.id = e.other))) E rfl (by decide) rfl (w_yes (g := 14) (s := 31) E rfl rfl (by decide) (E.get 4 rfl)) (run_seql (E.get 2 rfl) (E.get 0 rfl) rfl) fun a E => ?_
  refine env_put (d := 37) (v := .bool (decide (e.id = e.other))) E rfl (by decide) rfl (w_yes (g := 12) (s := 29) E rfl rfl (by decide) (E.get 7 rfl)) (run_pick_t rfl (E.get 5 rfl) (E.get 0 rfl)) fun a E => ?_
  refine env_put (d := 38) (v := .bool (decide (e.id = e.other))) E rfl (by decide) rfl (wanted_none rfl _) (run_pick_f rfl (E.get 8 rfl) (E.get 0 rfl)) fun a E => ?_
  refine wpList_nil ?_
  refine then_n ?_
  cases hq9 : (decide (e.id = e.other)) with
  | false =>
    rw [hq9] at E
    refine wp_cond_false (E.get 0 rfl) ?_
    refine wp_skip ?_
    refine then_n ?_
    refine wp_seq ?_
    refine wp_seq ?_
    refine wp_region_lit ?_
    refine env_put (d := 39) (v := .pointer (some ⟨b0, 0, none⟩)) E rfl (by decide) rfl (wanted_none rfl _) (fa38_0 rfl (E.get 32 rfl)) fun a E => ?_
    refine env_put (d := 40) (v := .int .i64 e.op) E rfl (by decide) rfl (wanted_none rfl _) (run_ldi rfl (E.get 0 rfl) (bx hb 0 rfl)) fun a E => ?_
    refine env_put (d := 41) (v := .bool true) E rfl (by decide) rfl (wanted_none rfl _) ((run_ineq (E.get 0 rfl) rfl Try.underlying3 rfl).trans (by rw [hk4] <;> rfl)) fun a E => ?_
    refine env_put (d := 42) (v := .bool true) E rfl (by decide) rfl (wanted_none rfl _) (run_move rfl (E.get 0 rfl)) fun a E => ?_
    refine env_put (d := 43) (v := .pointer (some ⟨r, 0, none⟩)) E rfl (by decide) rfl (w_yes (g := 3) (s := 42) E rfl rfl (by decide) (E.get 0 rfl)) (run_move rfl (E.get 37 rfl)) fun a E => ?_
    refine env_put (d := 44) (v := .pointer (some ⟨b0, 1, none⟩)) E rfl (by decide) rfl (w_yes (g := 3) (s := 42) E rfl rfl (by decide) (E.get 1 rfl)) (fa38_1 rfl (E.get 37 rfl)) fun a E => ?_
    refine env_put (d := 45) (v := .string e.id) E rfl (by decide) rfl (w_yes (g := 3) (s := 42) E rfl rfl (by decide) (E.get 2 rfl)) (run_lds rfl (E.get 0 rfl) (bx hb 1 rfl)) fun a E => ?_
    refine env_put (d := 46) (v := .pointer (some ⟨b0, 1, none⟩)) E rfl (by decide) rfl (w_yes (g := 3) (s := 42) E rfl rfl (by decide) (E.get 3 rfl)) (fa38_1 rfl (E.get 39 rfl)) fun a E => ?_
    refine env_put (d := 47) (v := .string e.id) E rfl (by decide) rfl (w_yes (g := 3) (s := 42) E rfl rfl (by decide) (E.get 4 rfl)) (run_lds rfl (E.get 0 rfl) (bx hb 1 rfl)) fun a E => ?_
    refine env_call (d := 48) (v := .bool (pairB R e.id e.id)) E rfl (by decide) rfl (w_yes (g := 3) (s := 42) E rfl rfl (by decide) (E.get 5 rfl)) (run_call3 (enters_of Try.func32 (by kernel_rfl) rfl) rfl rfl (E.get 4 rfl) (E.get 2 rfl) (E.get 0 rfl)) (h.pairC e.id e.id) fun a w1 f1 E => ?_
    have h := RefAt.fr h f1 (fun _ _ h => h)
    have hT := hT.trans' f1 (fun _ _ h => h.elim)
    have hb := f1.obj hb id
    clear f1
    refine env_put (d := 49) (v := .bool (!(pairB R e.id e.id))) E rfl (by decide) rfl (w_yes (g := 3) (s := 42) E rfl rfl (by decide) (E.get 6 rfl)) (run_not rfl (E.get 0 rfl)) fun a E => ?_
    refine env_put (d := 50) (v := .bool (!(pairB R e.id e.id))) E rfl (by decide) rfl (wanted_none rfl _) (run_pick_t rfl (E.get 7 rfl) (E.get 0 rfl)) fun a E => ?_
    refine env_put (d := 51) (v := .bool (!(pairB R e.id e.id))) E rfl (by decide) rfl (wanted_none rfl _) (run_move rfl (E.get 0 rfl)) fun a E => ?_
    cases hq10 : (pairB R e.id e.id) with
    | false =>
      rw [hq10] at E
      refine env_skip (d := 52) (g := 12) (s := 51) E rfl (by decide) rfl rfl rfl (by decide) (E.get 0 rfl) fun a E => ?_
      refine env_skip (d := 53) (g := 12) (s := 51) E rfl (by decide) rfl rfl rfl (by decide) (E.get 1 rfl) fun a E => ?_
      refine env_skip (d := 54) (g := 12) (s := 51) E rfl (by decide) rfl rfl rfl (by decide) (E.get 2 rfl) fun a E => ?_
      refine env_skip (d := 55) (g := 12) (s := 51) E rfl (by decide) rfl rfl rfl (by decide) (E.get 3 rfl) fun a E => ?_
      refine env_skipu (d := 56) (g := 16) (s := 55) E rfl (by decide) rfl rfl rfl (by decide) (E.get 0 rfl) fun a E => ?_
      refine env_skipu (d := 57) (g := 16) (s := 55) E rfl (by decide) rfl rfl rfl (by decide) (E.get 1 rfl) fun a E => ?_
      refine env_skipu (d := 58) (g := 16) (s := 55) E rfl (by decide) rfl rfl rfl (by decide) (E.get 2 rfl) fun a E => ?_
      refine env_skipu (d := 59) (g := 16) (s := 55) E rfl (by decide) rfl rfl rfl (by decide) (E.get 3 rfl) fun a E => ?_
      refine env_skipu (d := 60) (g := 16) (s := 55) E rfl (by decide) rfl rfl rfl (by decide) (E.get 4 rfl) fun a E => ?_
      refine env_skipu (d := 61) (g := 16) (s := 55) E rfl (by decide) rfl rfl rfl (by decide) (E.get 5 rfl) fun a E => ?_
      refine env_skipu (d := 62) (g := 16) (s := 55) E rfl (by decide) rfl rfl rfl (by decide) (E.get 6 rfl) fun a E => ?_
      refine env_skip (d := 63) (g := 12) (s := 51) E rfl (by decide) rfl rfl rfl (by decide) (E.get 11 rfl) fun a E => ?_
      refine env_put (d := 64) (v := .bool true) E rfl (by decide) rfl (wanted_none rfl _) (run_pick_t rfl (E.get 12 rfl) rfl) fun a E => ?_
      refine wpList_nil ?_
      refine then_n ?_
      refine wp_cond_true (E.get 0 rfl) ?_
      refine wp_seq ?_
      refine wp_region_lit ?_
      refine env_set (d := 4) (v := .int .i64 11) E rfl (by decide) (wanted_none rfl _) (run_assign rfl rfl) fun a E => ?_
      refine wpList_nil ?_
      refine then_n ?_
      refine wp_ret ?_
      refine then_r ?_
      have hio : e.id ≠ e.other := of_decide_eq_false hq9
      have hE : refE R e = 11 := by
        simp [refE, followE, Edt.bad, Edt.two, Edt.fresh, linR, hop, hq10, hio]
      have hR : (if refE R e = 0 then refF R e else R) = R := if_neg (by rw [hE]; decide)
      refine ret_tmp (t := 4) rfl E (E.get 0 rfl) ⟨by rw [hE], _, ?_, hT, hS⟩
      rw [hR]; exact ⟨_, _, h⟩
    | true =>
      rw [hq10] at E
      refine env_put (d := 52) (v := .pointer (some ⟨b0, 0, none⟩)) E rfl (by decide) rfl (w_yes (g := 12) (s := 51) E rfl rfl (by decide) (E.get 0 rfl)) (fa38_0 rfl (E.get 45 rfl)) fun a E => ?_
      refine env_put (d := 53) (v := .int .i64 e.op) E rfl (by decide) rfl (w_yes (g := 12) (s := 51) E rfl rfl (by decide) (E.get 1 rfl)) (run_ldi rfl (E.get 0 rfl) (bx hb 0 rfl)) fun a E => ?_
      refine env_put (d := 54) (v := .bool true) E rfl (by decide) rfl (w_yes (g := 12) (s := 51) E rfl rfl (by decide) (E.get 2 rfl)) ((run_ieql (E.get 0 rfl) rfl Try.underlying3 rfl).trans (by rw [hk1] <;> rfl)) fun a E => ?_
      refine env_put (d := 55) (v := .bool true) E rfl (by decide) rfl (w_yes (g := 12) (s := 51) E rfl rfl (by decide) (E.get 3 rfl)) (run_move rfl (E.get 0 rfl)) fun a E => ?_
      refine env_put (d := 56) (v := .pointer (some ⟨r, 0, none⟩)) E rfl (by decide) rfl (w_yes (g := 16) (s := 55) E rfl rfl (by decide) (E.get 0 rfl)) (run_move rfl (E.get 50 rfl)) fun a E => ?_
      refine env_put (d := 57) (v := .pointer (some ⟨b0, 2, none⟩)) E rfl (by decide) rfl (w_yes (g := 16) (s := 55) E rfl rfl (by decide) (E.get 1 rfl)) (fa38_2 rfl (E.get 50 rfl)) fun a E => ?_
      refine env_put (d := 58) (v := .string e.other) E rfl (by decide) rfl (w_yes (g := 16) (s := 55) E rfl rfl (by decide) (E.get 2 rfl)) (run_lds rfl (E.get 0 rfl) (bx hb 2 rfl)) fun a E => ?_
      refine env_put (d := 59) (v := .pointer (some ⟨b0, 2, none⟩)) E rfl (by decide) rfl (w_yes (g := 16) (s := 55) E rfl rfl (by decide) (E.get 3 rfl)) (fa38_2 rfl (E.get 52 rfl)) fun a E => ?_
      refine env_put (d := 60) (v := .string e.other) E rfl (by decide) rfl (w_yes (g := 16) (s := 55) E rfl rfl (by decide) (E.get 4 rfl)) (run_lds rfl (E.get 0 rfl) (bx hb 2 rfl)) fun a E => ?_
      refine env_call (d := 61) (v := .bool (pairB R e.other e.other)) E rfl (by decide) rfl (w_yes (g := 16) (s := 55) E rfl rfl (by decide) (E.get 5 rfl)) (run_call3 (enters_of Try.func32 (by kernel_rfl) rfl) rfl rfl (E.get 4 rfl) (E.get 2 rfl) (E.get 0 rfl)) (h.pairC e.other e.other) fun a w1 f1 E => ?_
      have h := RefAt.fr h f1 (fun _ _ h => h)
      have hT := hT.trans' f1 (fun _ _ h => h.elim)
      have hb := f1.obj hb id
      clear f1
      refine env_put (d := 62) (v := .bool (!(pairB R e.other e.other))) E rfl (by decide) rfl (w_yes (g := 16) (s := 55) E rfl rfl (by decide) (E.get 6 rfl)) (run_not rfl (E.get 0 rfl)) fun a E => ?_
      refine env_put (d := 63) (v := .bool (!(pairB R e.other e.other))) E rfl (by decide) rfl (w_yes (g := 12) (s := 51) E rfl rfl (by decide) (E.get 11 rfl)) (run_pick_t rfl (E.get 7 rfl) (E.get 0 rfl)) fun a E => ?_
      refine env_put (d := 64) (v := .bool (!(pairB R e.other e.other))) E rfl (by decide) rfl (wanted_none rfl _) (run_pick_f rfl (E.get 12 rfl) (E.get 0 rfl)) fun a E => ?_
      refine wpList_nil ?_
      refine then_n ?_
      cases hq11 : (pairB R e.other e.other) with
      | false =>
        rw [hq11] at E
        refine wp_cond_true (E.get 0 rfl) ?_
        refine wp_seq ?_
        refine wp_region_lit ?_
        refine env_set (d := 4) (v := .int .i64 11) E rfl (by decide) (wanted_none rfl _) (run_assign rfl rfl) fun a E => ?_
        refine wpList_nil ?_
        refine then_n ?_
        refine wp_ret ?_
        refine then_r ?_
        have hio : e.id ≠ e.other := of_decide_eq_false hq9
        have hE : refE R e = 11 := by
          simp [refE, followE, Edt.bad, Edt.two, Edt.fresh, linR, hop, hq10, hq11, hio]
        have hR : (if refE R e = 0 then refF R e else R) = R := if_neg (by rw [hE]; decide)
        refine ret_tmp (t := 4) rfl E (E.get 0 rfl) ⟨by rw [hE], _, ?_, hT, hS⟩
        rw [hR]; exact ⟨_, _, h⟩
      | true =>
        rw [hq11] at E
        refine wp_cond_false (E.get 0 rfl) ?_
        refine wp_skip ?_
        refine then_n ?_
        refine wp_seq ?_
        refine wp_seq ?_
        refine wp_region_invg (n := 174) (base := [(64, .bool false), (63, .bool false), (62, .bool false), (61, .bool true), (60, .string e.other), (59, .pointer (some ⟨b0, 2, none⟩)), (58, .string e.other), (57, .pointer (some ⟨b0, 2, none⟩)), (56, .pointer (some ⟨r, 0, none⟩)), (55, .bool true), (54, .bool true), (53, .int .i64 e.op), (52, .pointer (some ⟨b0, 0, none⟩)), (51, .bool false), (50, .bool false), (49, .bool false), (48, .bool true), (47, .string e.id), (46, .pointer (some ⟨b0, 1, none⟩)), (45, .string e.id), (44, .pointer (some ⟨b0, 1, none⟩)), (43, .pointer (some ⟨r, 0, none⟩)), (42, .bool true), (41, .bool true), (40, .int .i64 e.op), (39, .pointer (some ⟨b0, 0, none⟩)), (38, .bool false), (37, .bool false), (36, .bool false), (35, .string e.other), (34, .pointer (some ⟨b0, 2, none⟩)), (33, .string e.id), (32, .pointer (some ⟨b0, 1, none⟩)), (31, .bool true), (30, .bool true), (29, .bool false), (28, .bool false), (27, .bool false), (26, .int .i64 e.op), (25, .pointer (some ⟨b0, 0, none⟩)), (24, .bool false), (23, .bool false), (22, .bool false), (21, .int .i64 e.op), (20, .pointer (some ⟨b0, 0, none⟩)), (19, .bool false), (18, .bool false), (17, .pointer (some ⟨r, 0, none⟩)), (5, .bool true), (16, .bool true), (15, .bool true), (14, .int .i64 e.op), (13, .pointer (some ⟨b0, 0, none⟩)), (12, .bool false), (11, .bool false), (10, .int .i64 e.op), (9, .pointer (some ⟨b0, 0, none⟩)), (4, .int .i64 0), (3, .pointer (some ⟨b0, 0, none⟩)), (0, .pointer (some ⟨r, 0, none⟩)), (1, .agg e.cells)]) (T := [some (65, .pointer (some ⟨b0, 0, none⟩)), some (66, .int .i64 e.op), some (67, .bool false), some (68, .bool false), some (69, undef), some (70, undef), some (71, undef), some (72, undef), some (73, undef), some (74, undef), some (75, undef), some (76, undef), some (77, .bool false), some (78, .bool false), some (79, .pointer (some ⟨b0, 0, none⟩)), some (80, .int .i64 e.op), some (81, .bool false), some (82, .bool false), some (83, undef), some (84, undef), some (85, undef), some (86, undef), some (87, undef), some (88, undef), some (89, undef), some (90, .bool false), some (91, .bool false)]) (M := fun _ wm => Fr (fun _ => False) w1 wm) (by kernel_rfl) (by kernel_rfl) (by kernel_rfl) (E.of ⟨E.get 0 rfl, E.get 1 rfl, E.get 2 rfl, E.get 3 rfl, E.get 4 rfl, E.get 5 rfl, E.get 6 rfl, E.get 7 rfl, E.get 8 rfl, E.get 9 rfl, E.get 10 rfl, E.get 11 rfl, E.get 12 rfl, E.get 13 rfl, E.get 14 rfl, E.get 15 rfl, E.get 16 rfl, E.get 17 rfl, E.get 18 rfl, E.get 19 rfl, E.get 20 rfl, E.get 21 rfl, E.get 22 rfl, E.get 23 rfl, E.get 24 rfl, E.get 25 rfl, E.get 26 rfl, E.get 27 rfl, E.get 28 rfl, E.get 29 rfl, E.get 30 rfl, E.get 31 rfl, E.get 32 rfl, E.get 33 rfl, E.get 34 rfl, E.get 35 rfl, E.get 36 rfl, E.get 37 rfl, E.get 38 rfl, E.get 39 rfl, E.get 40 rfl, E.get 41 rfl, E.get 42 rfl, E.get 43 rfl, E.get 44 rfl, E.get 45 rfl, E.get 46 rfl, E.get 47 rfl, E.get 48 rfl, E.get 49 rfl, E.get 50 rfl, E.get 51 rfl, E.get 52 rfl, E.get 53 rfl, E.get 54 rfl, E.get 55 rfl, E.get 56 rfl, E.get 57 rfl, E.get 58 rfl, E.get 59 rfl, E.get 60 rfl, trivial⟩) (Fr.refl _ _).drew ?_ ?_
        · intro j9 o9 t9 ls9 a w5 ho hT0 hl E D DL hM
          have h := RefAt.fr h hM (fun _ _ h => h)
          have hT := hT.trans' hM (fun _ _ h => h.elim)
          have hb := hM.obj hb id
          match j9, ho, hT0, hl, D, DL with
          | 0, ho, hT0, hl, D, DL =>
            obtain rfl := Option.some.inj ho
            obtain rfl := Option.some.inj hT0
            clear ho hT0
            exact ⟨fun _ => val_wp (fa38_0 rfl (E.get 58 rfl)) rfl hM, fun h => by rw [wanted_none rfl] at h; cases h⟩
          | 1, ho, hT0, hl, D, DL =>
            obtain rfl := Option.some.inj ho
            obtain rfl := Option.some.inj hT0
            clear ho hT0
            exact ⟨fun _ => val_wp (run_ldi rfl (D 0 _ rfl rfl) (bx hb 0 rfl)) rfl hM, fun h => by rw [wanted_none rfl] at h; cases h⟩
          | 2, ho, hT0, hl, D, DL =>
            obtain rfl := Option.some.inj ho
            obtain rfl := Option.some.inj hT0
            clear ho hT0
            exact ⟨fun _ => val_wp ((run_ieql (D 1 _ rfl rfl) rfl Try.underlying3 rfl).trans (by rw [hk2] <;> rfl)) rfl hM, fun h => by rw [wanted_none rfl] at h; cases h⟩
          | 3, ho, hT0, hl, D, DL =>
            obtain rfl := Option.some.inj ho
            obtain rfl := Option.some.inj hT0
            clear ho hT0
            exact ⟨fun _ => val_wp (run_move rfl (D 2 _ rfl rfl)) rfl hM, fun h => by rw [wanted_none rfl] at h; cases h⟩
          | 4, ho, hT0, hl, D, DL =>
            obtain rfl := Option.some.inj ho
            obtain rfl := Option.some.inj hT0
            clear ho hT0
            exact ⟨fun h => (by rw [w_no (g := 3) (s := 68) (b := true) E rfl rfl (by decide) (D 3 _ rfl rfl)] at h; cases h), fun _ => ⟨fun x hx => by cases hx; rfl, hM⟩⟩
          | 5, ho, hT0, hl, D, DL =>
            obtain rfl := Option.some.inj ho
            obtain rfl := Option.some.inj hT0
            clear ho hT0
            exact ⟨fun h => (by rw [w_no (g := 3) (s := 68) (b := true) E rfl rfl (by decide) (D 3 _ rfl rfl)] at h; cases h), fun _ => ⟨fun x hx => by cases hx; rfl, hM⟩⟩
          | 6, ho, hT0, hl, D, DL =>
            obtain rfl := Option.some.inj ho
            obtain rfl := Option.some.inj hT0
            clear ho hT0
            exact ⟨fun h => (by rw [w_no (g := 3) (s := 68) (b := true) E rfl rfl (by decide) (D 3 _ rfl rfl)] at h; cases h), fun _ => ⟨fun x hx => by cases hx; rfl, hM⟩⟩
          | 7, ho, hT0, hl, D, DL =>
            obtain rfl := Option.some.inj ho
            obtain rfl := Option.some.inj hT0
            clear ho hT0
            exact ⟨fun h => (by rw [w_no (g := 3) (s := 68) (b := true) E rfl rfl (by decide) (D 3 _ rfl rfl)] at h; cases h), fun _ => ⟨fun x hx => by cases hx; rfl, hM⟩⟩
          | 8, ho, hT0, hl, D, DL =>
            obtain rfl := Option.some.inj ho
            obtain rfl := Option.some.inj hT0
            clear ho hT0
            exact ⟨fun h => (by rw [w_no (g := 3) (s := 68) (b := true) E rfl rfl (by decide) (D 3 _ rfl rfl)] at h; cases h), fun _ => ⟨fun x hx => by cases hx; rfl, hM⟩⟩
          | 9, ho, hT0, hl, D, DL =>
            obtain rfl := Option.some.inj ho
            obtain rfl := Option.some.inj hT0
            clear ho hT0
            exact ⟨fun h => (by rw [w_no (g := 3) (s := 68) (b := true) E rfl rfl (by decide) (D 3 _ rfl rfl)] at h; cases h), fun _ => ⟨fun x hx => by cases hx; rfl, hM⟩⟩
          | 10, ho, hT0, hl, D, DL =>
            obtain rfl := Option.some.inj ho
            obtain rfl := Option.some.inj hT0
            clear ho hT0
            exact ⟨fun h => (by rw [w_no (g := 3) (s := 68) (b := true) E rfl rfl (by decide) (D 3 _ rfl rfl)] at h; cases h), fun _ => ⟨fun x hx => by cases hx; rfl, hM⟩⟩
          | 11, ho, hT0, hl, D, DL =>
            obtain rfl := Option.some.inj ho
            obtain rfl := Option.some.inj hT0
            clear ho hT0
            exact ⟨fun h => (by rw [w_no (g := 3) (s := 68) (b := true) E rfl rfl (by decide) (D 3 _ rfl rfl)] at h; cases h), fun _ => ⟨fun x hx => by cases hx; rfl, hM⟩⟩
          | 12, ho, hT0, hl, D, DL =>
            obtain rfl := Option.some.inj ho
            obtain rfl := Option.some.inj hT0
            clear ho hT0
            exact ⟨fun _ => val_wp (run_pick_f rfl (D 3 _ rfl rfl) rfl) rfl hM, fun h => by rw [wanted_none rfl] at h; cases h⟩
          | 13, ho, hT0, hl, D, DL =>
            obtain rfl := Option.some.inj ho
            obtain rfl := Option.some.inj hT0
            clear ho hT0
            exact ⟨fun _ => val_wp (run_move rfl (D 12 _ rfl rfl)) rfl hM, fun h => by rw [wanted_none rfl] at h; cases h⟩
          | 14, ho, hT0, hl, D, DL =>
            obtain rfl := Option.some.inj ho
            obtain rfl := Option.some.inj hT0
            clear ho hT0
            exact ⟨fun _ => val_wp (fa38_0 rfl (E.get 58 rfl)) rfl hM, fun h => by rw [w_yes (g := 13) (s := 78) (b := false) E rfl rfl (by decide) (D 13 _ rfl rfl)] at h; cases h⟩
          | 15, ho, hT0, hl, D, DL =>
            obtain rfl := Option.some.inj ho
            obtain rfl := Option.some.inj hT0
            clear ho hT0
            exact ⟨fun _ => val_wp (run_ldi rfl (D 14 _ rfl rfl) (bx hb 0 rfl)) rfl hM, fun h => by rw [w_yes (g := 13) (s := 78) (b := false) E rfl rfl (by decide) (D 13 _ rfl rfl)] at h; cases h⟩
          | 16, ho, hT0, hl, D, DL =>
            obtain rfl := Option.some.inj ho
            obtain rfl := Option.some.inj hT0
            clear ho hT0
            exact ⟨fun _ => val_wp ((run_ieql (D 15 _ rfl rfl) rfl Try.underlying3 rfl).trans (by rw [hk0] <;> rfl)) rfl hM, fun h => by rw [w_yes (g := 13) (s := 78) (b := false) E rfl rfl (by decide) (D 13 _ rfl rfl)] at h; cases h⟩
          | 17, ho, hT0, hl, D, DL =>
            obtain rfl := Option.some.inj ho
            obtain rfl := Option.some.inj hT0
            clear ho hT0
            exact ⟨fun _ => val_wp (run_move rfl (D 16 _ rfl rfl)) rfl hM, fun h => by rw [w_yes (g := 13) (s := 78) (b := false) E rfl rfl (by decide) (D 13 _ rfl rfl)] at h; cases h⟩
          | 18, ho, hT0, hl, D, DL =>
            obtain rfl := Option.some.inj ho
            obtain rfl := Option.some.inj hT0
            clear ho hT0
            exact ⟨fun h => (by rw [w_no (g := 17) (s := 82) (b := true) E rfl rfl (by decide) (D 17 _ rfl rfl)] at h; cases h), fun _ => ⟨fun x hx => by cases hx; rfl, hM⟩⟩
          | 19, ho, hT0, hl, D, DL =>
            obtain rfl := Option.some.inj ho
            obtain rfl := Option.some.inj hT0
            clear ho hT0
            exact ⟨fun h => (by rw [w_no (g := 17) (s := 82) (b := true) E rfl rfl (by decide) (D 17 _ rfl rfl)] at h; cases h), fun _ => ⟨fun x hx => by cases hx; rfl, hM⟩⟩
          | 20, ho, hT0, hl, D, DL =>
            obtain rfl := Option.some.inj ho
            obtain rfl := Option.some.inj hT0
            clear ho hT0
            exact ⟨fun h => (by rw [w_no (g := 17) (s := 82) (b := true) E rfl rfl (by decide) (D 17 _ rfl rfl)] at h; cases h), fun _ => ⟨fun x hx => by cases hx; rfl, hM⟩⟩
          | 21, ho, hT0, hl, D, DL =>
            obtain rfl := Option.some.inj ho
            obtain rfl := Option.some.inj hT0
            clear ho hT0
            exact ⟨fun h => (by rw [w_no (g := 17) (s := 82) (b := true) E rfl rfl (by decide) (D 17 _ rfl rfl)] at h; cases h), fun _ => ⟨fun x hx => by cases hx; rfl, hM⟩⟩
          | 22, ho, hT0, hl, D, DL =>
            obtain rfl := Option.some.inj ho
            obtain rfl := Option.some.inj hT0
            clear ho hT0
            exact ⟨fun h => (by rw [w_no (g := 17) (s := 82) (b := true) E rfl rfl (by decide) (D 17 _ rfl rfl)] at h; cases h), fun _ => ⟨fun x hx => by cases hx; rfl, hM⟩⟩
          | 23, ho, hT0, hl, D, DL =>
            obtain rfl := Option.some.inj ho
            obtain rfl := Option.some.inj hT0
            clear ho hT0
            exact ⟨fun h => (by rw [w_no (g := 17) (s := 82) (b := true) E rfl rfl (by decide) (D 17 _ rfl rfl)] at h; cases h), fun _ => ⟨fun x hx => by cases hx; rfl, hM⟩⟩
          | 24, ho, hT0, hl, D, DL =>
            obtain rfl := Option.some.inj ho
            obtain rfl := Option.some.inj hT0
            clear ho hT0
            exact ⟨fun h => (by rw [w_no (g := 17) (s := 82) (b := true) E rfl rfl (by decide) (D 17 _ rfl rfl)] at h; cases h), fun _ => ⟨fun x hx => by cases hx; rfl, hM⟩⟩
          | 25, ho, hT0, hl, D, DL =>
            obtain rfl := Option.some.inj ho
            obtain rfl := Option.some.inj hT0
            clear ho hT0
            exact ⟨fun _ => val_wp (run_pick_f rfl (D 17 _ rfl rfl) rfl) rfl hM, fun h => by rw [w_yes (g := 13) (s := 78) (b := false) E rfl rfl (by decide) (D 13 _ rfl rfl)] at h; cases h⟩
          | 26, ho, hT0, hl, D, DL =>
            obtain rfl := Option.some.inj ho
            obtain rfl := Option.some.inj hT0
            clear ho hT0
            exact ⟨fun _ => val_wp (run_pick_f rfl (D 13 _ rfl rfl) (D 25 _ rfl rfl)) rfl hM, fun h => by rw [wanted_none rfl] at h; cases h⟩
          | j9 + 27, ho, hT0, hl, D, DL => exact absurd hT0 (by simp)
        · intro a w5 E V hM
          have E := E.add (V 26 _ rfl)
          clear V
          have h := RefAt.fr h hM (fun _ _ h => h)
          have hT := hT.trans' hM (fun _ _ h => h.elim)
          have hb := hM.obj hb id
          clear hM
          refine then_n ?_
          refine wp_cond_false (E.get 0 rfl) ?_
          refine wp_skip ?_
          refine then_n ?_
          refine wp_seq ?_
          refine wp_seq ?_
          refine wp_region_lit ?_
          refine env_put (d := 92) (v := .pointer (some ⟨b0, 0, none⟩)) E rfl (by decide) rfl (wanted_none rfl _) (fa38_0 rfl (E.get 59 rfl)) fun a E => ?_
          refine env_put (d := 93) (v := .int .i64 e.op) E rfl (by decide) rfl (wanted_none rfl _) (run_ldi rfl (E.get 0 rfl) (bx hb 0 rfl)) fun a E => ?_
          refine env_put (d := 94) (v := .bool false) E rfl (by decide) rfl (wanted_none rfl _) ((run_ieql (E.get 0 rfl) rfl Try.underlying3 rfl).trans (by rw [hk2] <;> rfl)) fun a E => ?_
          refine wpList_nil ?_
          refine then_n ?_
          refine wp_cond_false (E.get 0 rfl) ?_
          refine wp_skip ?_
          refine then_n ?_
          refine wp_seq ?_
          refine wp_region_lit ?_
          refine env_put (d := 100) (v := .pointer (some ⟨r, 0, none⟩)) E rfl (by decide) rfl (wanted_none rfl _) (run_move rfl (E.get 63 rfl)) fun a E => ?_
          refine env_put (d := 101) (v := .pointer (some ⟨b0, 1, none⟩)) E rfl (by decide) rfl (wanted_none rfl _) (fa38_1 rfl (E.get 63 rfl)) fun a E => ?_
          refine env_put (d := 102) (v := .string e.id) E rfl (by decide) rfl (wanted_none rfl _) (run_lds rfl (E.get 0 rfl) (bx hb 1 rfl)) fun a E => ?_
          refine env_call (d := 103) (v := .tuple #[]) E rfl (by decide) rfl (wanted_none rfl _) (run_call2 (enters_of Try.func33 (by kernel_rfl) rfl) rfl rfl (E.get 2 rfl) (E.get 0 rfl)) (rmen_calls h (by omega) (by omega) e.id) fun a w1 f1 E => ?_
          obtain ⟨σ1, ⟨pv1, mv1, hn⟩, f2, hs⟩ := f1
          have hS' := fun k (hk : k < w.heap.size) h => hS k hk (hs k (Nat.lt_of_lt_of_le hk hT.size) h)
          have hT' := hT.trans' f2 (fun r hr h => hS r hr h)
          have hnb' : ¬ σ1 b0 := fun hh => hnb (hs b0 (lt_of_blk hb) hh)
          have hb' := f2.obj hb hnb
          clear f2 hs h hT hS hnb hb
          have h := hn
          have hT := hT'
          have hS := hS'
          have hnb := hnb'
          have hb := hb'
          clear hn hT' hS' hnb' hb'
          refine wpList_nil ?_
          refine then_n ?_
          refine wp_seq ?_
          refine wp_seq ?_
          refine wp_region_lit ?_
          refine env_put (d := 104) (v := .bool true) E rfl (by decide) rfl (wanted_none rfl _) (run_move rfl (E.get 56 rfl)) fun a E => ?_
          refine wpList_nil ?_
          refine then_n ?_
          refine wp_cond_true (E.get 0 rfl) ?_
          refine wp_region_lit ?_
          refine env_put (d := 105) (v := .pointer (some ⟨r, 0, none⟩)) E rfl (by decide) rfl (wanted_none rfl _) (run_move rfl (E.get 68 rfl)) fun a E => ?_
          refine env_put (d := 106) (v := .pointer (some ⟨b0, 2, none⟩)) E rfl (by decide) rfl (wanted_none rfl _) (fa38_2 rfl (E.get 68 rfl)) fun a E => ?_
          refine env_put (d := 107) (v := .string e.other) E rfl (by decide) rfl (wanted_none rfl _) (run_lds rfl (E.get 0 rfl) (bx hb 2 rfl)) fun a E => ?_
          refine env_call (d := 108) (v := .tuple #[]) E rfl (by decide) rfl (wanted_none rfl _) (run_call2 (enters_of Try.func33 (by kernel_rfl) rfl) rfl rfl (E.get 2 rfl) (E.get 0 rfl)) (rmen_calls h (by have := menR_ms R e.id; omega) (by have := menR_ps R e.id; omega) e.other) fun a w1 f1 E => ?_
          obtain ⟨σ2, ⟨pv2, mv2, hn⟩, f2, hs⟩ := f1
          have hS' := fun k (hk : k < w.heap.size) h => hS k hk (hs k (Nat.lt_of_lt_of_le hk hT.size) h)
          have hT' := hT.trans' f2 (fun r hr h => hS r hr h)
          have hnb' : ¬ σ2 b0 := fun hh => hnb (hs b0 (lt_of_blk hb) hh)
          have hb' := f2.obj hb hnb
          clear f2 hs h hT hS hnb hb
          have h := hn
          have hT := hT'
          have hS := hS'
          have hnb := hnb'
          have hb := hb'
          clear hn hT' hS' hnb' hb'
          refine wpList_nil ?_
          refine then_n ?_
          refine wp_seq ?_
          obtain ⟨pa2, ca2, hva, _⟩ := h.msrc
          subst hva
          refine wp_region_lit ?_
          refine env_put (d := 109) (v := .pointer (some ⟨r, 0, none⟩)) E rfl (by decide) rfl (wanted_none rfl _) (run_move rfl (E.get 72 rfl)) fun a E => ?_
          refine env_put (d := 110) (v := .pointer (some ⟨r, 0, none⟩)) E rfl (by decide) rfl (wanted_none rfl _) (run_nilchk rfl (E.get 0 rfl)) fun a E => ?_
          refine env_put (d := 111) (v := .pointer (some ⟨r, 1, none⟩)) E rfl (by decide) rfl (wanted_none rfl _) (fa58_at (by decide) rfl (E.get 0 rfl)) fun a E => ?_
          refine env_put (d := 112) (v := .slice (pa2) (menR (menR R e.id) e.other).ms.length ca2) E rfl (by decide) rfl (wanted_none rfl _) (run_ld33 rfl (E.get 0 rfl) h.c1) fun a E => ?_
          refine env_put (d := 6) (v := .slice (pa2) (menR (menR R e.id) e.other).ms.length ca2) E rfl (by decide) rfl (wanted_none rfl _) (run_assign rfl (E.get 0 rfl)) fun a E => ?_
          refine wpList_nil ?_
          refine then_n ?_
          refine wp_seq ?_
          refine wp_seq ?_
          refine wp_region_lit ?_
          refine env_put (d := 113) (v := .pointer (some ⟨b0, 0, none⟩)) E rfl (by decide) rfl (wanted_none rfl _) (fa38_0 rfl (E.get 76 rfl)) fun a E => ?_
          refine env_put (d := 114) (v := .int .i64 e.op) E rfl (by decide) rfl (wanted_none rfl _) (run_ldi rfl (E.get 0 rfl) (bx hb 0 rfl)) fun a E => ?_
          refine env_put (d := 115) (v := .bool false) E rfl (by decide) rfl (wanted_none rfl _) ((run_ieql (E.get 0 rfl) rfl Try.underlying3 rfl).trans (by rw [hk0] <;> rfl)) fun a E => ?_
          refine wpList_nil ?_
          refine then_n ?_
          refine wp_cond_false (E.get 0 rfl) ?_
          refine wp_skip ?_
          refine then_n ?_
          refine wp_seq ?_
          refine wp_seq ?_
          refine wp_region_lit ?_
          refine env_put (d := 138) (v := .pointer (some ⟨b0, 0, none⟩)) E rfl (by decide) rfl (wanted_none rfl _) (fa38_0 rfl (E.get 79 rfl)) fun a E => ?_
          refine env_put (d := 139) (v := .int .i64 e.op) E rfl (by decide) rfl (wanted_none rfl _) (run_ldi rfl (E.get 0 rfl) (bx hb 0 rfl)) fun a E => ?_
          refine env_put (d := 140) (v := .bool true) E rfl (by decide) rfl (wanted_none rfl _) ((run_ieql (E.get 0 rfl) rfl Try.underlying3 rfl).trans (by rw [hk1] <;> rfl)) fun a E => ?_
          refine wpList_nil ?_
          refine then_n ?_
          refine wp_cond_true (E.get 0 rfl) ?_
          refine wp_seq ?_
          refine wp_seq ?_
          refine wp_region_lit ?_
          refine env_put (d := 8) (v := .int .i64 0) E rfl (by decide) rfl (wanted_none rfl _) (run_assign rfl rfl) fun a E => ?_
          refine wpList_nil ?_
          refine then_n ?_
          refine wp_block ?_
          obtain ⟨R2, hR2⟩ : ∃ R2, R2 = (menR (menR R e.id) e.other) := ⟨_, rfl⟩
          refine wp_loop (fun a w2 => ∃ (i : Nat) (σ2 : Nat → Prop) (pv2 : Value), Env 174 [(8, .int .i64 (i : Int)), (6, .slice (pa2) (menR (menR R e.id) e.other).ms.length ca2), (3, .pointer (some ⟨b0, 0, none⟩)), (0, .pointer (some ⟨r, 0, none⟩))] a ∧ i ≤ (menR (menR R e.id) e.other).ms.length ∧ RefAt w2 r σ2 (((menR (menR R e.id) e.other).ms.take i).foldl (stp e.other e.id) (menR (menR R e.id) e.other)) pv2 (.slice pa2 (menR (menR R e.id) e.other).ms.length ca2) ∧ Fr σ w w2 ∧ (∀ k, k < w.heap.size → σ2 k → σ k) ∧ w2.heap[b0]? = some (.cells e.cells 38 (0, 0)) ∧ ¬ σ2 b0) (fun a _ => (menR (menR R e.id) e.other).ms.length - (intOf (a.eval (.tmp 8))).toNat) ?_ ?_
          · exact ⟨0, _, _, E.of ⟨E.get 0 rfl, E.get 7 rfl, E.get 83 rfl, E.get 84 rfl, trivial⟩, Nat.zero_le _, h, hT, hS, hb, hnb⟩
          clear E
          rintro a w2 ⟨i, σ2, pv2, E, hi, h, hT, hS, hb, hnb⟩
          have hmu : (menR (menR R e.id) e.other).ms.length - (intOf (a.eval (.tmp 8))).toNat = (menR (menR R e.id) e.other).ms.length - i := by rw [E.get 0 rfl]; first | (simp [intOf]; done) | (simp only [intOf]; omega)
          rw [hmu]
          clear hmu
          refine wp_seq ?_
          refine wp_seq ?_
          refine wp_region_lit ?_
          refine env_put (d := 141) (v := .int .i64 (i : Int)) E rfl (by decide) rfl (wanted_none rfl _) (run_move rfl (E.get 0 rfl)) fun a E => ?_
          refine env_put (d := 142) (v := .slice (pa2) (menR (menR R e.id) e.other).ms.length ca2) E rfl (by decide) rfl (wanted_none rfl _) (run_move rfl (E.get 2 rfl)) fun a E => ?_
          refine env_put (d := 143) (v := .int .i64 ((menR (menR R e.id) e.other).ms.length : Int)) E rfl (by decide) rfl (wanted_none rfl _) (run_len33 rfl (E.get 0 rfl)) fun a E => ?_
          refine env_put (d := 144) (v := .bool (decide ((i : Int) < ((menR (menR R e.id) e.other).ms.length : Int)))) E rfl (by decide) rfl (wanted_none rfl _) (run_ilss (E.get 2 rfl) (E.get 0 rfl) Try.underlying3 rfl) fun a E => ?_
          refine wpList_nil ?_
          refine then_n ?_
          cases hq14 : (decide ((i : Int) < ((menR (menR R e.id) e.other).ms.length : Int))) with
          | false =>
            rw [hq14] at E
            have hie : i = (menR (menR R e.id) e.other).ms.length := by have := of_decide_eq_false hq14; omega
            rw [hie, List.take_length] at h
            clear hR2 R2
            refine wp_cond_false (E.get 0 rfl) ?_
            refine wp_exit ?_
            refine then_e ?_
            refine then_e ?_
            refine blk_e ?_
            refine then_n ?_
            refine wp_region_lit ?_
            refine env_put (d := 163) (v := .pointer (some ⟨r, 0, none⟩)) E rfl (by decide) rfl (wanted_none rfl _) (run_move rfl (E.get 7 rfl)) fun a E => ?_
            refine env_put (d := 164) (v := .pointer (some ⟨b0, 2, none⟩)) E rfl (by decide) rfl (wanted_none rfl _) (fa38_2 rfl (E.get 7 rfl)) fun a E => ?_
            refine env_put (d := 165) (v := .string e.other) E rfl (by decide) rfl (wanted_none rfl _) (run_lds rfl (E.get 0 rfl) (bx hb 2 rfl)) fun a E => ?_
            refine env_call (d := 166) (v := .tuple #[]) E rfl (by decide) rfl (wanted_none rfl _) (run_call2 (enters_of Try.func35 (by kernel_rfl) rfl) rfl rfl (E.get 2 rfl) (E.get 0 rfl)) (rdrop_calls h (by have h1 := menR_ms R e.id; have h2 := menR_ps R e.id; have h3 := menR_ms (menR R e.id) e.other; have h4 := menR_ps (menR R e.id) e.other; have h5 := fold_len e.other e.id (menR (menR R e.id) e.other).ms (menR (menR R e.id) e.other); omega) e.other) fun a w1 f1 E => ?_
            obtain ⟨σ3, ⟨pv3, mv3, hn⟩, f2, hs⟩ := f1
            have hS' := fun k (hk : k < w.heap.size) h => hS k hk (hs k (Nat.lt_of_lt_of_le hk hT.size) h)
            have hT' := hT.trans' f2 (fun r hr h => hS r hr h)
            have hnb' : ¬ σ3 b0 := fun hh => hnb (hs b0 (lt_of_blk hb) hh)
            have hb' := f2.obj hb hnb
            clear f2 hs h hT hS hnb hb
            have h := hn
            have hT := hT'
            have hS := hS'
            have hnb := hnb'
            have hb := hb'
            clear hn hT' hS' hnb' hb'
            refine wpList_nil ?_
            refine then_n ?_
            refine wp_seq ?_
            refine wp_seq ?_
            refine wp_region_lit ?_
            refine env_put (d := 167) (v := .pointer (some ⟨b0, 0, none⟩)) E rfl (by decide) rfl (wanted_none rfl _) (fa38_0 rfl (E.get 10 rfl)) fun a E => ?_
            refine env_put (d := 168) (v := .int .i64 e.op) E rfl (by decide) rfl (wanted_none rfl _) (run_ldi rfl (E.get 0 rfl) (bx hb 0 rfl)) fun a E => ?_
            refine env_put (d := 169) (v := .bool false) E rfl (by decide) rfl (wanted_none rfl _) ((run_ieql (E.get 0 rfl) rfl Try.underlying3 rfl).trans (by rw [hk3] <;> rfl)) fun a E => ?_
            refine wpList_nil ?_
            refine then_n ?_
            refine wp_cond_false (E.get 0 rfl) ?_
            refine wp_skip ?_
            refine then_n ?_
            refine wp_seq ?_
            refine wp_region_lit ?_
            refine env_put (d := 4) (v := .int .i64 0) E rfl (by decide) rfl (wanted_none rfl _) (run_assign rfl rfl) fun a E => ?_
            refine wpList_nil ?_
            refine then_n ?_
            refine wp_ret ?_
            have hio : e.id ≠ e.other := of_decide_eq_false hq9
            have hE : refE R e = 0 := by
              simp [refE, followE, Edt.bad, Edt.two, Edt.fresh, linR, hop, hq10, hq11, hio]
            have hF : refF R e = (dropR ((menR (menR R e.id) e.other).ms.foldl (stp e.other e.id) (menR (menR R e.id) e.other)) e.other) := by simp [refF, hop]
            have hR : (if refE R e = 0 then refF R e else R) = (dropR ((menR (menR R e.id) e.other).ms.foldl (stp e.other e.id) (menR (menR R e.id) e.other)) e.other) := by rw [if_pos hE, hF]
            refine ret_tmp (t := 4) rfl E (E.get 0 rfl) ⟨by rw [hE], _, ?_, hT, hS⟩
            rw [hR]; exact ⟨_, _, h⟩
          | true =>
            rw [hq14] at E
            have hlt : i < (menR (menR R e.id) e.other).ms.length := by have := of_decide_eq_true hq14; omega
            obtain ⟨y, hy⟩ : ∃ y, (menR (menR R e.id) e.other).ms[i]? = some y := ⟨_, List.getElem?_eq_getElem hlt⟩
            have hms := h.msrc'.2
            rw [fold_ms] at hms
            obtain ⟨g, off, hpe, hgl, hrow⟩ := hms.at hlt
            replace hrow := hrow i y hy
            clear hms
            refine wp_cond_true (E.get 0 rfl) ?_
            refine wp_skip ?_
            refine then_n ?_
            refine wp_seq ?_
            refine wp_block ?_
            refine wp_seq ?_
            refine wp_region_inv (n := 174) (base := [(144, .bool true), (143, .int .i64 ((menR (menR R e.id) e.other).ms.length : Int)), (142, .slice (pa2) (menR (menR R e.id) e.other).ms.length ca2), (141, .int .i64 (i : Int)), (8, .int .i64 (i : Int)), (6, .slice (pa2) (menR (menR R e.id) e.other).ms.length ca2), (3, .pointer (some ⟨b0, 0, none⟩)), (0, .pointer (some ⟨r, 0, none⟩))]) (T := [some (147, .pointer (some ⟨r, 0, none⟩)), some (148, .slice (pa2) (menR (menR R e.id) e.other).ms.length ca2), some (149, .int .i64 (i : Int)), some (150, .pointer (some ⟨g, (off + i), none⟩)), some (151, .string y), some (152, .pointer (some ⟨b0, 2, none⟩)), some (153, .string e.other), some (154, .bool (pairB (((menR (menR R e.id) e.other).ms.take i).foldl (stp e.other e.id) (menR (menR R e.id) e.other)) y e.other))]) (M := fun _ wm => Fr (fun _ => False) w2 wm) (by kernel_rfl) (by kernel_rfl) (by kernel_rfl) (E.of ⟨E.get 0 rfl, E.get 1 rfl, E.get 2 rfl, E.get 3 rfl, E.get 4 rfl, E.get 5 rfl, E.get 6 rfl, E.get 7 rfl, trivial⟩) (Fr.refl _ _).drew ?_ ?_
            · intro j9 o9 t9 ls9 a w5 ho hT0 hl E D DL hM
              have h := RefAt.fr h hM (fun _ _ h => h)
              have hT := hT.trans' hM (fun _ _ h => h.elim)
              have hb := hM.obj hb id
              have hrow := fun j u hu => hM.cell (hrow j u hu) id
              match j9, ho, hT0, hl, D, DL with
              | 0, ho, hT0, hl, D, DL =>
                obtain rfl := Option.some.inj ho
                obtain rfl := Option.some.inj hT0
                clear ho hT0
                exact val_wp (run_move rfl (E.get 7 rfl)) rfl hM
              | 1, ho, hT0, hl, D, DL =>
                obtain rfl := Option.some.inj ho
                obtain rfl := Option.some.inj hT0
                clear ho hT0
                exact val_wp (run_move rfl (E.get 5 rfl)) rfl hM
              | 2, ho, hT0, hl, D, DL =>
                obtain rfl := Option.some.inj ho
                obtain rfl := Option.some.inj hT0
                clear ho hT0
                exact val_wp (run_move rfl (E.get 4 rfl)) rfl hM
              | 3, ho, hT0, hl, D, DL =>
                obtain rfl := Option.some.inj ho
                obtain rfl := Option.some.inj hT0
                clear ho hT0
                exact val_wp (run_index33 (i := i) rfl ((D 1 _ rfl rfl).trans (by rw [hpe])) (D 2 _ rfl rfl) hlt) rfl hM
              | 4, ho, hT0, hl, D, DL =>
                obtain rfl := Option.some.inj ho
                obtain rfl := Option.some.inj hT0
                clear ho hT0
                exact val_wp (run_lds rfl (D 3 _ rfl rfl) (by have := hrow 0 _ rfl; rwa [Nat.mul_one] at this)) rfl hM
              | 5, ho, hT0, hl, D, DL =>
                obtain rfl := Option.some.inj ho
                obtain rfl := Option.some.inj hT0
                clear ho hT0
                exact val_wp (fa38_2 rfl (E.get 6 rfl)) rfl hM
              | 6, ho, hT0, hl, D, DL =>
                obtain rfl := Option.some.inj ho
                obtain rfl := Option.some.inj hT0
                clear ho hT0
                exact val_wp (run_lds rfl (D 5 _ rfl rfl) (bx hb 2 rfl)) rfl hM
              | 7, ho, hT0, hl, D, DL =>
                obtain rfl := Option.some.inj ho
                obtain rfl := Option.some.inj hT0
                clear ho hT0
                exact call_wp (run_call3 (enters_of Try.func32 (by kernel_rfl) rfl) rfl rfl (D 0 _ rfl rfl) (D 4 _ rfl rfl) (D 6 _ rfl rfl)) (h.pairC y e.other) rfl fun w9 f1 => (hM.trans f1)
              | j9 + 8, ho, hT0, hl, D, DL => exact absurd hT0 (by simp)
            · intro a w5 E V hM
              have E := E.add (V 7 _ rfl)
              clear V
              have h := RefAt.fr h hM (fun _ _ h => h)
              have hT := hT.trans' hM (fun _ _ h => h.elim)
              have hb := hM.obj hb id
              have hrow := fun j u hu => hM.cell (hrow j u hu) id
              clear hM
              refine then_n ?_
              cases hq16 : (pairB (((menR (menR R e.id) e.other).ms.take i).foldl (stp e.other e.id) (menR (menR R e.id) e.other)) y e.other) with
              | false =>
                rw [hq16] at E
                refine wp_cond_false (E.get 0 rfl) ?_
                refine wp_skip ?_
                refine blk_n ?_
                refine then_n ?_
                refine wp_region_lit ?_
                refine env_put (d := 145) (v := .int .i64 (i : Int)) E rfl (by decide) rfl (wanted_none rfl _) (run_move rfl (E.get 5 rfl)) fun a E => ?_
                refine env_put (d := 146) (v := .int .i64 ((i : Int) + 1)) E rfl (by decide) rfl (wanted_none rfl _) (run_iadd (E.get 0 rfl) rfl (by omega) (by omega) rfl) fun a E => ?_
                refine env_set (d := 8) (v := .int .i64 ((i : Int) + 1)) E rfl (by decide) (wanted_none rfl _) (run_assign rfl (E.get 0 rfl)) fun a E => ?_
                refine wpList_nil ?_
                refine then_n ?_
                refine ⟨⟨i + 1, σ2, pv2, E.of ⟨E.get 0 rfl, E.get 8 rfl, E.get 9 rfl, E.get 10 rfl, trivial⟩, hlt, ?_, hT, hS, hb, hnb⟩, ?_⟩
                · rw [List.take_add_one, hy]; simp only [Option.toList_some, List.foldl_append, List.foldl_cons, List.foldl_nil]; rw [stp_neg hq16]; exact h
                · rw [E.get 0 rfl]; simp only [intOf]; omega
              | true =>
                rw [hq16] at E
                refine wp_cond_true (E.get 0 rfl) ?_
                refine wp_region_invx (G := Unit) () (n := 174) (base := [(154, .bool true), (144, .bool true), (143, .int .i64 ((menR (menR R e.id) e.other).ms.length : Int)), (142, .slice (pa2) (menR (menR R e.id) e.other).ms.length ca2), (141, .int .i64 (i : Int)), (8, .int .i64 (i : Int)), (6, .slice (pa2) (menR (menR R e.id) e.other).ms.length ca2), (3, .pointer (some ⟨b0, 0, none⟩)), (0, .pointer (some ⟨r, 0, none⟩))]) (U := []) (T := fun γ => [some (155, .pointer (some ⟨r, 0, none⟩)), some (156, .slice (pa2) (menR (menR R e.id) e.other).ms.length ca2), some (157, .int .i64 (i : Int)), some (158, .pointer (some ⟨g, (off + i), none⟩)), some (159, .string y), some (160, .pointer (some ⟨b0, 1, none⟩)), some (161, .string e.id), some (162, .tuple #[])]) (M := fun γ ls9 wm => (ls9 7 = false → Fr (fun _ => False) w5 wm) ∧ (ls9 7 = true → ∃ σ3, (∃ pv3, RefAt wm r σ3 (addR (((menR (menR R e.id) e.other).ms.take i).foldl (stp e.other e.id) (menR (menR R e.id) e.other)) y e.id) pv3 (.slice pa2 (menR (menR R e.id) e.other).ms.length ca2)) ∧ Fr σ2 w5 wm ∧ ∀ k, k < w5.heap.size → σ3 k → σ2 k)) (by kernel_rfl) (by kernel_rfl) (fun _ => by kernel_rfl) (E.of ⟨E.get 0 rfl, E.get 1 rfl, E.get 2 rfl, E.get 3 rfl, E.get 4 rfl, E.get 5 rfl, E.get 6 rfl, E.get 7 rfl, E.get 8 rfl, trivial⟩) (fun x hx => by cases hx) ⟨fun _ => (Fr.refl _ _).drew, fun h => absurd h Bool.false_ne_true⟩ ?_ ?_
                · intro j9 o9 γ ls9 a w5 ho hl E D DL DL2 hB hM
                  match j9, ho, hl, D, DL, hB with
                  | 0, ho, hl, D, DL, hB =>
                    obtain rfl := Option.some.inj ho
                    clear ho
                    have h7 : ls9 7 = false := by
                      cases h9 : ls9 7 with
                      | false => rfl
                      | true => exact absurd (hl.symm.trans (DL2 7 0 rfl h9)) (by decide)
                    have hM1 := hM.1 h7
                    have h := RefAt.fr h hM1 (fun _ _ h => h)
                    have hT := hT.trans' hM1 (fun _ _ h => h.elim)
                    have hb := hM1.obj hb id
                    have hrow := fun j u hu => hM1.cell (hrow j u hu) id
                    exact ⟨fun _ => valx rfl (run_move rfl (E.get 8 rfl)) rfl hM, fun h => by rw [wanted_none rfl] at h; cases h⟩
                  | 1, ho, hl, D, DL, hB =>
                    obtain rfl := Option.some.inj ho
                    clear ho
                    have h7 : ls9 7 = false := by
                      cases h9 : ls9 7 with
                      | false => rfl
                      | true => exact absurd (hl.symm.trans (DL2 3 1 rfl (DL2 4 3 rfl (DL2 7 4 rfl h9)))) (by decide)
                    have hM1 := hM.1 h7
                    have h := RefAt.fr h hM1 (fun _ _ h => h)
                    have hT := hT.trans' hM1 (fun _ _ h => h.elim)
                    have hb := hM1.obj hb id
                    have hrow := fun j u hu => hM1.cell (hrow j u hu) id
                    exact ⟨fun _ => valx rfl (run_move rfl (E.get 6 rfl)) rfl hM, fun h => by rw [wanted_none rfl] at h; cases h⟩
                  | 2, ho, hl, D, DL, hB =>
                    obtain rfl := Option.some.inj ho
                    clear ho
                    have h7 : ls9 7 = false := by
                      cases h9 : ls9 7 with
                      | false => rfl
                      | true => exact absurd (hl.symm.trans (DL2 3 2 rfl (DL2 4 3 rfl (DL2 7 4 rfl h9)))) (by decide)
                    have hM1 := hM.1 h7
                    have h := RefAt.fr h hM1 (fun _ _ h => h)
                    have hT := hT.trans' hM1 (fun _ _ h => h.elim)
                    have hb := hM1.obj hb id
                    have hrow := fun j u hu => hM1.cell (hrow j u hu) id
                    exact ⟨fun _ => valx rfl (run_move rfl (E.get 5 rfl)) rfl hM, fun h => by rw [wanted_none rfl] at h; cases h⟩
                  | 3, ho, hl, D, DL, hB =>
                    obtain rfl := Option.some.inj ho
                    clear ho
                    have h7 : ls9 7 = false := by
                      cases h9 : ls9 7 with
                      | false => rfl
                      | true => exact absurd (hl.symm.trans (DL2 4 3 rfl (DL2 7 4 rfl h9))) (by decide)
                    have hM1 := hM.1 h7
                    have h := RefAt.fr h hM1 (fun _ _ h => h)
                    have hT := hT.trans' hM1 (fun _ _ h => h.elim)
                    have hb := hM1.obj hb id
                    have hrow := fun j u hu => hM1.cell (hrow j u hu) id
                    exact ⟨fun _ => valx rfl (run_index33 (i := i) rfl ((D 1 _ rfl rfl).trans (by rw [hpe])) (D 2 _ rfl rfl) hlt) rfl hM, fun h => by rw [wanted_none rfl] at h; cases h⟩
                  | 4, ho, hl, D, DL, hB =>
                    obtain rfl := Option.some.inj ho
                    clear ho
                    have h7 : ls9 7 = false := by
                      cases h9 : ls9 7 with
                      | false => rfl
                      | true => exact absurd (hl.symm.trans (DL2 7 4 rfl h9)) (by decide)
                    have hM1 := hM.1 h7
                    have h := RefAt.fr h hM1 (fun _ _ h => h)
                    have hT := hT.trans' hM1 (fun _ _ h => h.elim)
                    have hb := hM1.obj hb id
                    have hrow := fun j u hu => hM1.cell (hrow j u hu) id
                    exact ⟨fun _ => valx rfl (run_lds rfl (D 3 _ rfl rfl) (by have := hrow 0 _ rfl; rwa [Nat.mul_one] at this)) rfl hM, fun h => by rw [wanted_none rfl] at h; cases h⟩
                  | 5, ho, hl, D, DL, hB =>
                    obtain rfl := Option.some.inj ho
                    clear ho
                    have h7 : ls9 7 = false := by
                      cases h9 : ls9 7 with
                      | false => rfl
                      | true => exact absurd (hl.symm.trans (DL2 6 5 rfl (DL2 7 6 rfl h9))) (by decide)
                    have hM1 := hM.1 h7
                    have h := RefAt.fr h hM1 (fun _ _ h => h)
                    have hT := hT.trans' hM1 (fun _ _ h => h.elim)
                    have hb := hM1.obj hb id
                    have hrow := fun j u hu => hM1.cell (hrow j u hu) id
                    exact ⟨fun _ => valx rfl (fa38_1 rfl (E.get 7 rfl)) rfl hM, fun h => by rw [wanted_none rfl] at h; cases h⟩
                  | 6, ho, hl, D, DL, hB =>
                    obtain rfl := Option.some.inj ho
                    clear ho
                    have h7 : ls9 7 = false := by
                      cases h9 : ls9 7 with
                      | false => rfl
                      | true => exact absurd (hl.symm.trans (DL2 7 6 rfl h9)) (by decide)
                    have hM1 := hM.1 h7
                    have h := RefAt.fr h hM1 (fun _ _ h => h)
                    have hT := hT.trans' hM1 (fun _ _ h => h.elim)
                    have hb := hM1.obj hb id
                    have hrow := fun j u hu => hM1.cell (hrow j u hu) id
                    exact ⟨fun _ => valx rfl (run_lds rfl (D 5 _ rfl rfl) (bx hb 1 rfl)) rfl hM, fun h => by rw [wanted_none rfl] at h; cases h⟩
                  | 7, ho, hl, D, DL, hB =>
                    obtain rfl := Option.some.inj ho
                    clear ho
                    have hM1 := hM.1 hl
                    have h := RefAt.fr h hM1 (fun _ _ h => h)
                    have hT := hT.trans' hM1 (fun _ _ h => h.elim)
                    have hb := hM1.obj hb id
                    have hrow := fun j u hu => hM1.cell (hrow j u hu) id
                    exact ⟨fun _ => callx rfl (run_call3 (enters_of Try.func34 (by kernel_rfl) rfl) rfl rfl (D 0 _ rfl rfl) (D 4 _ rfl rfl) (D 6 _ rfl rfl)) (radd_calls h (by have h5 := fold_len e.other e.id ((menR (menR R e.id) e.other).ms.take i) (menR (menR R e.id) e.other); rw [List.length_take] at h5; have h1 := menR_ms R e.id; have h2 := menR_ps R e.id; have h3 := menR_ms (menR R e.id) e.other; have h4 := menR_ps (menR R e.id) e.other; omega) y e.id |>.mono fun e9 w9 h9 => ⟨h9.1, addpost hM1 h9.2⟩) rfl fun w9 f9 => ⟨fun h => by simp at h, fun _ => f9⟩, fun h => by rw [wanted_none rfl] at h; cases h⟩
                  | j9 + 8, ho, hl, D, DL, hB => exact absurd ho (by simp)
                · rintro _ a w5 E V hM
                  clear V
                  have f1 := hM.2 rfl
                  clear hM
                  obtain ⟨σ3, ⟨pv3, hn⟩, f2, hs⟩ := f1
                  have hS' := fun k (hk : k < w.heap.size) h => hS k hk (hs k (Nat.lt_of_lt_of_le hk hT.size) h)
                  have hT' := hT.trans' f2 (fun r hr h => hS r hr h)
                  have hnb' : ¬ σ3 b0 := fun hh => hnb (hs b0 (lt_of_blk hb) hh)
                  have hb' := f2.obj hb hnb
                  clear f2 hs h hT hS hnb hb hrow
                  have h := hn
                  have hT := hT'
                  have hS := hS'
                  have hnb := hnb'
                  have hb := hb'
                  clear hn hT' hS' hnb' hb'
                  refine blk_n ?_
                  refine then_n ?_
                  refine wp_region_lit ?_
                  refine env_put (d := 145) (v := .int .i64 (i : Int)) E rfl (by decide) rfl (wanted_none rfl _) (run_move rfl (E.get 5 rfl)) fun a E => ?_
                  refine env_put (d := 146) (v := .int .i64 ((i : Int) + 1)) E rfl (by decide) rfl (wanted_none rfl _) (run_iadd (E.get 0 rfl) rfl (by omega) (by omega) rfl) fun a E => ?_
                  refine env_set (d := 8) (v := .int .i64 ((i : Int) + 1)) E rfl (by decide) (wanted_none rfl _) (run_assign rfl (E.get 0 rfl)) fun a E => ?_
                  refine wpList_nil ?_
                  refine then_n ?_
                  refine ⟨⟨i + 1, σ3, pv3, E.of ⟨E.get 0 rfl, E.get 8 rfl, E.get 9 rfl, E.get 10 rfl, trivial⟩, hlt, ?_, hT, hS, hb, hnb⟩, ?_⟩
                  · rw [List.take_add_one, hy]; simp only [Option.toList_some, List.foldl_append, List.foldl_cons, List.foldl_nil]; rw [stp_pos hq16]; exact h
                  · rw [E.get 0 rfl]; simp only [intOf]; omega
  | true =>
    rw [hq9] at E
    refine wp_cond_true (E.get 0 rfl) ?_
    refine wp_seq ?_
    refine wp_region_lit ?_
    refine env_set (d := 4) (v := .int .i64 1) E rfl (by decide) (wanted_none rfl _) (run_assign rfl rfl) fun a E => ?_
    refine wpList_nil ?_
    refine then_n ?_
    refine wp_ret ?_
    refine then_r ?_
    have hio : e.id = e.other := of_decide_eq_true hq9
    have hE : refE R e = 1 := by
      simp [refE, followE, Edt.bad, Edt.two, Edt.fresh, linR, hop, hio]
    have hR : (if refE R e = 0 then refF R e else R) = R := if_neg (by rw [hE]; decide)
    refine ret_tmp (t := 4) rfl E (E.get 0 rfl) ⟨by rw [hE], _, ?_, hT, hS⟩
    rw [hR]; exact ⟨_, _, h⟩
end Go.Proofs.Ytcolfgnjmnapkaa
