/- planisphereref03.Meets. -/
import Derived.Test.YtiainjcimmeedaaMr
set_option linter.unusedVariables false
set_option linter.unusedSimpArgs false
namespace Go.Proofs.Ytiainjcimmeedaa
open Go.RowKit Go.Pl Go.Geo

theorem com4 {f : Pt → Bool} {s t : Sg} {i : Nat} {cm : List Pt} (h : cm = comL f ((endsL s t).take i)) : cm.length ≤ 4 := by
  rw [h]
  have h1 := comL_len f ((endsL s t).take i)
  have h2 : ((endsL s t).take i).length ≤ (endsL s t).length := by rw [List.length_take]; exact Nat.min_le_right _ _
  have h3 : (endsL s t).length = 4 := rfl
  omega
set_option maxRecDepth 100000 in
set_option maxHeartbeats 8000000 in
theorem rmeets_calls (s t : Sg) (w : World) : Calls Try.prog 28 #[.agg (sgC s), .agg (sgC t)] w fun e w' => e = .returned (.int .i64 (meetsN s t)) ∧ Fr (fun _ => False) w w' := by
  refine wp_start2 Try.func28 rfl rfl (n := 143) (by decide) fun a E => ?_
  have hf : Fr (fun _ => False) w w := Fr.refl _ _
  refine wp_seq ?_
  refine wp_region_lit ?_
  refine env_box34 (d := 2) E rfl (by decide) rfl (wanted_none rfl _) rfl (E.get 0 rfl) fun a w1 bs ebs hbs f1 E => ?_
  have hf := hf.trans f1
  clear f1
  refine env_box34 (d := 3) E rfl (by decide) rfl (wanted_none rfl _) rfl (E.get 2 rfl) fun a w1 bt ebt hbt f1 E => ?_
  have hbs := sgB.fr hbs f1 id
  have hf := hf.trans f1
  clear f1
  refine env_put (d := 4) (v := .int .i64 0) E rfl (by decide) rfl (wanted_none rfl _) (run_assign rfl rfl) fun a E => ?_
  refine wpList_nil ?_
  refine then_n ?_
  refine wp_seq ?_
  refine wp_seq ?_
  refine wp_region_lit ?_
  refine env_put (d := 10) (v := .agg (sgC s)) E rfl (by decide) rfl (wanted_none rfl _) (ld_sg rfl (E.get 2 rfl) hbs) fun a E => ?_
  refine env_call (d := 11) (v := .bool (decide (nearS s))) E rfl (by decide) rfl (wanted_none rfl _) (run_call1 (enters_of Try.func16 (by kernel_rfl) rfl) rfl rfl (E.get 0 rfl)) (seg_calls _ _) fun a w1 f1 E => ?_
  have hbs := sgB.fr hbs f1 id
  have hbt := sgB.fr hbt f1 id
  have hf := hf.trans f1
  clear f1
  refine env_put (d := 12) (v := .bool (!(decide (nearS s)))) E rfl (by decide) rfl (wanted_none rfl _) (run_not rfl (E.get 0 rfl)) fun a E => ?_
  refine env_put (d := 13) (v := .bool (!(decide (nearS s)))) E rfl (by decide) rfl (wanted_none rfl _) (run_move rfl (E.get 0 rfl)) fun a E => ?_
  cases hq1 : (decide (nearS s)) with
  | false =>
    rw [hq1] at E
    refine env_skip (d := 14) (g := 3) (s := 13) E rfl (by decide) rfl rfl rfl (by decide) (E.get 0 rfl) fun a E => ?_
    refine env_skip (d := 15) (g := 3) (s := 13) E rfl (by decide) rfl rfl rfl (by decide) (E.get 1 rfl) fun a E => ?_
    refine env_skip (d := 16) (g := 3) (s := 13) E rfl (by decide) rfl rfl rfl (by decide) (E.get 2 rfl) fun a E => ?_
    refine env_put (d := 17) (v := .bool true) E rfl (by decide) rfl (wanted_none rfl _) (run_pick_t rfl (E.get 3 rfl) rfl) fun a E => ?_
    refine wpList_nil ?_
    refine then_n ?_
    refine wp_cond_true (E.get 0 rfl) ?_
    refine wp_seq ?_
    refine wp_region_lit ?_
    refine env_set (d := 4) (v := .int .i64 0) E rfl (by decide) (wanted_none rfl _) (run_assign rfl rfl) fun a E => ?_
    refine wpList_nil ?_
    refine then_n ?_
    refine wp_ret ?_
    refine then_r ?_
    refine ret_tmp (t := 4) rfl E (E.get 0 rfl) ⟨?_, hf⟩
    rw [meetsN_far (fun h => of_decide_eq_false hq1 h.1)]
  | true =>
    rw [hq1] at E
    have hs : nearS s := of_decide_eq_true hq1
    refine env_put (d := 14) (v := .agg (sgC t)) E rfl (by decide) rfl (w_yes (g := 3) (s := 13) E rfl rfl (by decide) (E.get 0 rfl)) (ld_sg rfl (E.get 5 rfl) hbt) fun a E => ?_
    refine env_call (d := 15) (v := .bool (decide (nearS t))) E rfl (by decide) rfl (w_yes (g := 3) (s := 13) E rfl rfl (by decide) (E.get 1 rfl)) (run_call1 (enters_of Try.func16 (by kernel_rfl) rfl) rfl rfl (E.get 0 rfl)) (seg_calls _ _) fun a w1 f1 E => ?_
    have hbs := sgB.fr hbs f1 id
    have hbt := sgB.fr hbt f1 id
    have hf := hf.trans f1
    clear f1
    refine env_put (d := 16) (v := .bool (!(decide (nearS t)))) E rfl (by decide) rfl (w_yes (g := 3) (s := 13) E rfl rfl (by decide) (E.get 2 rfl)) (run_not rfl (E.get 0 rfl)) fun a E => ?_
    refine env_put (d := 17) (v := .bool (!(decide (nearS t)))) E rfl (by decide) rfl (wanted_none rfl _) (run_pick_f rfl (E.get 3 rfl) (E.get 0 rfl)) fun a E => ?_
    refine wpList_nil ?_
    refine then_n ?_
    cases hq2 : (decide (nearS t)) with
    | false =>
      rw [hq2] at E
      refine wp_cond_true (E.get 0 rfl) ?_
      refine wp_seq ?_
      refine wp_region_lit ?_
      refine env_set (d := 4) (v := .int .i64 0) E rfl (by decide) (wanted_none rfl _) (run_assign rfl rfl) fun a E => ?_
      refine wpList_nil ?_
      refine then_n ?_
      refine wp_ret ?_
      refine then_r ?_
      refine ret_tmp (t := 4) rfl E (E.get 0 rfl) ⟨?_, hf⟩
      rw [meetsN_far (fun h => of_decide_eq_false hq2 h.2)]
    | true =>
      rw [hq2] at E
      have ht : nearS t := of_decide_eq_true hq2
      refine wp_cond_false (E.get 0 rfl) ?_
      refine wp_skip ?_
      refine then_n ?_
      refine wp_seq ?_
      refine wp_seq ?_
      refine wp_region_lit ?_
      refine env_put (d := 18) (v := .agg (sgC s)) E rfl (by decide) rfl (wanted_none rfl _) (ld_sg rfl (E.get 10 rfl) hbs) fun a E => ?_
      refine env_put (d := 19) (v := .agg (sgC t)) E rfl (by decide) rfl (wanted_none rfl _) (ld_sg rfl (E.get 10 rfl) hbt) fun a E => ?_
      refine env_put (d := 20) (v := .bool (decide (s = t))) E rfl (by decide) rfl (wanted_none rfl _) (eql34 rfl (E.get 1 rfl) (E.get 0 rfl)) fun a E => ?_
      refine env_put (d := 21) (v := .bool (decide (s = t))) E rfl (by decide) rfl (wanted_none rfl _) (run_move rfl (E.get 0 rfl)) fun a E => ?_
      cases hq3 : (decide (s = t)) with
      | false =>
        rw [hq3] at E
        refine env_put (d := 22) (v := .pointer (some ⟨bs, 0, none⟩)) E rfl (by decide) rfl (w_yes (g := 3) (s := 21) E rfl rfl (by decide) (E.get 0 rfl)) (fa34_0 rfl (E.get 14 rfl)) fun a E => ?_
        refine env_put (d := 23) (v := .agg (ptC s.1)) E rfl (by decide) rfl (w_yes (g := 3) (s := 21) E rfl rfl (by decide) (E.get 1 rfl)) (ld_sg1 rfl (E.get 0 rfl) hbs) fun a E => ?_
        refine env_put (d := 24) (v := .pointer (some ⟨bt, 2, none⟩)) E rfl (by decide) rfl (w_yes (g := 3) (s := 21) E rfl rfl (by decide) (E.get 2 rfl)) (fa34_1 rfl (E.get 15 rfl)) fun a E => ?_
        refine env_put (d := 25) (v := .agg (ptC t.2)) E rfl (by decide) rfl (w_yes (g := 3) (s := 21) E rfl rfl (by decide) (E.get 3 rfl)) (ld_sg2 rfl (E.get 0 rfl) hbt) fun a E => ?_
        refine env_put (d := 26) (v := .bool (decide (s.1 = t.2))) E rfl (by decide) rfl (w_yes (g := 3) (s := 21) E rfl rfl (by decide) (E.get 4 rfl)) (eql32 rfl (E.get 2 rfl) (E.get 0 rfl)) fun a E => ?_
        refine env_put (d := 27) (v := .bool (decide (s.1 = t.2))) E rfl (by decide) rfl (w_yes (g := 3) (s := 21) E rfl rfl (by decide) (E.get 5 rfl)) (run_move rfl (E.get 0 rfl)) fun a E => ?_
        cases hq4 : (decide (s.1 = t.2)) with
        | false =>
          rw [hq4] at E
          refine env_skip (d := 28) (g := 9) (s := 27) E rfl (by decide) rfl rfl rfl (by decide) (E.get 0 rfl) fun a E => ?_
          refine env_skip (d := 29) (g := 9) (s := 27) E rfl (by decide) rfl rfl rfl (by decide) (E.get 1 rfl) fun a E => ?_
          refine env_skip (d := 30) (g := 9) (s := 27) E rfl (by decide) rfl rfl rfl (by decide) (E.get 2 rfl) fun a E => ?_
          refine env_skip (d := 31) (g := 9) (s := 27) E rfl (by decide) rfl rfl rfl (by decide) (E.get 3 rfl) fun a E => ?_
          refine env_skip (d := 32) (g := 9) (s := 27) E rfl (by decide) rfl rfl rfl (by decide) (E.get 4 rfl) fun a E => ?_
          refine env_put (d := 33) (v := .bool false) E rfl (by decide) rfl (w_yes (g := 3) (s := 21) E rfl rfl (by decide) (E.get 11 rfl)) (run_pick_f rfl (E.get 5 rfl) rfl) fun a E => ?_
          refine env_put (d := 34) (v := .bool false) E rfl (by decide) rfl (wanted_none rfl _) (run_pick_f rfl (E.get 12 rfl) (E.get 0 rfl)) fun a E => ?_
          refine wpList_nil ?_
          refine then_n ?_
          refine wp_cond_false (E.get 0 rfl) ?_
          refine wp_skip ?_
          refine then_n ?_
          refine wp_seq ?_
          have hns : ¬ sameS s t := by
            rintro (h | h)
            · exact of_decide_eq_false hq3 h
            · exact of_decide_eq_false hq4 h.1
          refine wp_region_lit ?_
          refine env_put (d := 35) (v := .pointer (some ⟨bs, 0, none⟩)) E rfl (by decide) rfl (wanted_none rfl _) (fa34_0 rfl (E.get 27 rfl)) fun a E => ?_
          refine env_put (d := 36) (v := .agg (ptC s.1)) E rfl (by decide) rfl (wanted_none rfl _) (ld_sg1 rfl (E.get 0 rfl) hbs) fun a E => ?_
          refine env_put (d := 37) (v := .pointer (some ⟨bs, 2, none⟩)) E rfl (by decide) rfl (wanted_none rfl _) (fa34_1 rfl (E.get 29 rfl)) fun a E => ?_
          refine env_put (d := 38) (v := .agg (ptC s.2)) E rfl (by decide) rfl (wanted_none rfl _) (ld_sg2 rfl (E.get 0 rfl) hbs) fun a E => ?_
          refine env_put (d := 39) (v := .pointer (some ⟨bt, 0, none⟩)) E rfl (by decide) rfl (wanted_none rfl _) (fa34_0 rfl (E.get 30 rfl)) fun a E => ?_
          refine env_put (d := 40) (v := .agg (ptC t.1)) E rfl (by decide) rfl (wanted_none rfl _) (ld_sg1 rfl (E.get 0 rfl) hbt) fun a E => ?_
          refine env_put (d := 41) (v := .pointer (some ⟨bt, 2, none⟩)) E rfl (by decide) rfl (wanted_none rfl _) (fa34_1 rfl (E.get 32 rfl)) fun a E => ?_
          refine env_put (d := 42) (v := .agg (ptC t.2)) E rfl (by decide) rfl (wanted_none rfl _) (ld_sg2 rfl (E.get 0 rfl) hbt) fun a E => ?_
          refine env_ends (d := 43) E rfl (by decide) rfl (wanted_none rfl _) rfl (E.get 6 rfl) (E.get 4 rfl) (E.get 2 rfl) (E.get 0 rfl) fun a w1 be ebe hbe hen f1 E => ?_
          have hbs := sgB.fr hbs f1 id
          have hbt := sgB.fr hbt f1 id
          have hf := hf.trans f1
          clear f1
          replace hen : PtsAt w1 be (endsL s t) := hen
          obtain ⟨B, hB⟩ : ∃ B, B = w1.heap.size := ⟨_, rfl⟩
          have hBw : w.heap.size ≤ B := by have := hf.size; omega
          have hbsB : bs < B := by rw [hB]; exact lt_of_blk hbs
          have hbtB : bt < B := by rw [hB]; exact lt_of_blk hbt
          have hbeB : be < B := by rw [hB]; exact hbe
          have hBs : B ≤ w1.heap.size := by omega
          have hO : oP w1 B (.slice none 0 0) [] := World.ownsRow_nil _ _ _ _
          clear ebs ebt ebe hbe
          refine env_put (d := 5) (v := .slice (some ⟨be, 0, none⟩) 4 4) E rfl (by decide) rfl (wanted_none rfl _) (run_assign rfl (E.get 0 rfl)) fun a E => ?_
          refine wpList_nil ?_
          refine then_n ?_
          refine wp_seq ?_
          refine wp_region_lit ?_
          refine env_put (d := 6) (v := .slice none 0 0) E rfl (by decide) rfl (wanted_none rfl _) (run_assign rfl rfl) fun a E => ?_
          refine wpList_nil ?_
          refine then_n ?_
          refine wp_seq ?_
          refine wp_seq ?_
          refine wp_region_lit ?_
          refine env_put (d := 7) (v := .int .i64 0) E rfl (by decide) rfl (wanted_none rfl _) (run_assign rfl rfl) fun a E => ?_
          refine wpList_nil ?_
          refine then_n ?_
          refine wp_block ?_
          refine wp_loop (fun a w2 => ∃ (i : Nat) (cm : List Pt) (cv : Value), Env 143 [(7, .int .i64 (i : Int)), (6, cv), (5, .slice (some ⟨be, 0, none⟩) 4 4), (3, .pointer (some ⟨bt, 0, none⟩)), (2, .pointer (some ⟨bs, 0, none⟩))] a ∧ i ≤ 4 ∧ Hid (cm = comL (fC s t) ((endsL s t).take i)) ∧ oP w2 B cv cm ∧ sgB w2 bs s ∧ sgB w2 bt t ∧ PtsAt w2 be (endsL s t) ∧ B ≤ w2.heap.size ∧ Fr (fun _ => False) w w2) (fun a _ => 4 - (intOf (a.eval (.tmp 7))).toNat) ?_ ?_
          · exact ⟨0, [], .slice none 0 0, E.of ⟨E.get 0 rfl, E.get 1 rfl, E.get 2 rfl, E.get 38 rfl, E.get 39 rfl, trivial⟩, Nat.zero_le _, rfl, hO, hbs, hbt, hen, hBs, hf⟩
          clear E
          rintro a w2 ⟨i, cm, cv, E, hi, hcm, hO, hbs, hbt, hen, hBs, hf⟩
          have hmu : 4 - (intOf (a.eval (.tmp 7))).toNat = 4 - i := by rw [E.get 0 rfl]; first | (simp [intOf]; done) | (simp only [intOf]; omega)
          rw [hmu]
          clear hmu
          obtain ⟨pc, cc, hve⟩ := own_slice hO
          subst hve
          have hcl : cm.length ≤ 4 := com4 hcm.out
          refine wp_seq ?_
          refine wp_seq ?_
          refine wp_region_lit ?_
          refine env_put (d := 44) (v := .int .i64 (i : Int)) E rfl (by decide) rfl (wanted_none rfl _) (run_move rfl (E.get 0 rfl)) fun a E => ?_
          refine env_put (d := 45) (v := .bool (decide ((i : Int) < 4))) E rfl (by decide) rfl (wanted_none rfl _) (run_ilss (E.get 0 rfl) rfl Try.underlying3 rfl) fun a E => ?_
          refine wpList_nil ?_
          refine then_n ?_
          cases hq6 : (decide ((i : Int) < 4)) with
          | false =>
            rw [hq6] at E
            have hi4 : i = 4 := by have := of_decide_eq_false hq6; omega
            replace hcm : cm = comL (fC s t) (endsL s t) := by rw [hcm.out, hi4]; rfl
            refine wp_cond_false (E.get 0 rfl) ?_
            refine wp_exit ?_
            refine then_e ?_
            refine then_e ?_
            refine blk_e ?_
            refine then_n ?_
            refine wp_seq ?_
            refine wp_seq ?_
            refine wp_region_lit ?_
            refine env_put (d := 91) (v := .slice (pc) cm.length cc) E rfl (by decide) rfl (wanted_none rfl _) (run_move rfl (E.get 3 rfl)) fun a E => ?_
            refine env_put (d := 92) (v := .int .i64 (cm.length : Int)) E rfl (by decide) rfl (wanted_none rfl _) (run_len69 rfl (E.get 0 rfl)) fun a E => ?_
            refine env_put (d := 93) (v := .bool (decide (1 < (cm.length : Int)))) E rfl (by decide) rfl (wanted_none rfl _) (run_igtr (E.get 0 rfl) rfl Try.underlying3 rfl) fun a E => ?_
            refine wpList_nil ?_
            refine then_n ?_
            cases hq7 : (decide (1 < (cm.length : Int))) with
            | false =>
              rw [hq7] at E
              refine wp_cond_false (E.get 0 rfl) ?_
              refine wp_skip ?_
              refine then_n ?_
              refine wp_seq ?_
              refine wp_seq ?_
              refine wp_region_lit ?_
              refine env_put (d := 94) (v := .slice (pc) cm.length cc) E rfl (by decide) rfl (wanted_none rfl _) (run_move rfl (E.get 6 rfl)) fun a E => ?_
              refine env_put (d := 95) (v := .int .i64 (cm.length : Int)) E rfl (by decide) rfl (wanted_none rfl _) (run_len69 rfl (E.get 0 rfl)) fun a E => ?_
              refine env_put (d := 96) (v := .bool ((cm.length : Int) == 1)) E rfl (by decide) rfl (wanted_none rfl _) (run_ieql (E.get 0 rfl) rfl Try.underlying3 rfl) fun a E => ?_
              refine wpList_nil ?_
              refine then_n ?_
              cases hq8 : ((cm.length : Int) == 1) with
              | false =>
                rw [hq8] at E
                have hc0 : cm = [] := List.eq_nil_of_length_eq_zero (by have h1 := of_decide_eq_false hq7; have h2 : ¬ ((cm.length : Int) = 1) := (by simpa using hq8); omega)
                refine wp_cond_false (E.get 0 rfl) ?_
                refine wp_skip ?_
                refine then_n ?_
                refine wp_seq ?_
                refine wp_seq ?_
                cases hq9 : (decide (((oriN s.1 s.2 t.1) * (oriN s.1 s.2 t.2)) < 0)) with
                | false =>
                  refine wp_region_invg (n := 143) (base := [(96, .bool false), (95, .int .i64 (cm.length : Int)), (94, .slice (pc) cm.length cc), (93, .bool false), (92, .int .i64 (cm.length : Int)), (91, .slice (pc) cm.length cc), (45, .bool false), (44, .int .i64 (i : Int)), (7, .int .i64 (i : Int)), (6, .slice (pc) cm.length cc), (5, .slice (some ⟨be, 0, none⟩) 4 4), (3, .pointer (some ⟨bt, 0, none⟩)), (2, .pointer (some ⟨bs, 0, none⟩))]) (T := [some (109, .pointer (some ⟨bs, 0, none⟩)), some (110, .agg (ptC s.1)), some (111, .pointer (some ⟨bs, 2, none⟩)), some (112, .agg (ptC s.2)), some (113, .pointer (some ⟨bt, 0, none⟩)), some (114, .agg (ptC t.1)), some (115, .int .i64 (oriN s.1 s.2 t.1)), some (116, .pointer (some ⟨bs, 0, none⟩)), some (117, .agg (ptC s.1)), some (118, .pointer (some ⟨bs, 2, none⟩)), some (119, .agg (ptC s.2)), some (120, .pointer (some ⟨bt, 2, none⟩)), some (121, .agg (ptC t.2)), some (122, .int .i64 (oriN s.1 s.2 t.2)), some (123, .int .i64 ((oriN s.1 s.2 t.1) * (oriN s.1 s.2 t.2))), some (124, .bool false), some (125, .bool false), some (126, undef), some (127, undef), some (128, undef), some (129, undef), some (130, undef), some (131, undef), some (132, undef), some (133, undef), some (134, undef), some (135, undef), some (136, undef), some (137, undef), some (138, undef), some (139, undef), some (140, undef), some (141, undef), some (142, .bool false)]) (M := fun _ w5 => Fr (fun _ => False) w2 w5) (by kernel_rfl) (by kernel_rfl) (by kernel_rfl) (E.of ⟨E.get 0 rfl, E.get 1 rfl, E.get 2 rfl, E.get 3 rfl, E.get 4 rfl, E.get 5 rfl, E.get 6 rfl, E.get 7 rfl, E.get 8 rfl, E.get 9 rfl, E.get 10 rfl, E.get 11 rfl, E.get 12 rfl, trivial⟩) (Fr.refl _ _).drew ?_ ?_
                  · intro j9 o9 t9 ls9 a w5 ho hT0 hl E D DL hM
                    have hbs := sgB.fr hbs hM id
                    have hbt := sgB.fr hbt hM id
                    have hen := PtsAt.fr hen hM id
                    have hO := own_fr hO hM (fun _ _ h => h)
                    have hBs := Nat.le_trans hBs hM.size
                    match j9, ho, hT0, hl, D, DL with
                    | 0, ho, hT0, hl, D, DL =>
                      obtain rfl := Option.some.inj ho
                      obtain rfl := Option.some.inj hT0
                      clear ho hT0
                      exact ⟨fun _ => val_wp (fa34_0 rfl (E.get 12 rfl)) rfl hM, fun h => by rw [wanted_none rfl] at h; cases h⟩
                    | 1, ho, hT0, hl, D, DL =>
                      obtain rfl := Option.some.inj ho
                      obtain rfl := Option.some.inj hT0
                      clear ho hT0
                      exact ⟨fun _ => val_wp (ld_sg1 rfl (D 0 _ rfl rfl) hbs) rfl hM, fun h => by rw [wanted_none rfl] at h; cases h⟩
                    | 2, ho, hT0, hl, D, DL =>
                      obtain rfl := Option.some.inj ho
                      obtain rfl := Option.some.inj hT0
                      clear ho hT0
                      exact ⟨fun _ => val_wp (fa34_1 rfl (E.get 12 rfl)) rfl hM, fun h => by rw [wanted_none rfl] at h; cases h⟩
                    | 3, ho, hT0, hl, D, DL =>
                      obtain rfl := Option.some.inj ho
                      obtain rfl := Option.some.inj hT0
                      clear ho hT0
                      exact ⟨fun _ => val_wp (ld_sg2 rfl (D 2 _ rfl rfl) hbs) rfl hM, fun h => by rw [wanted_none rfl] at h; cases h⟩
                    | 4, ho, hT0, hl, D, DL =>
                      obtain rfl := Option.some.inj ho
                      obtain rfl := Option.some.inj hT0
                      clear ho hT0
                      exact ⟨fun _ => val_wp (fa34_0 rfl (E.get 11 rfl)) rfl hM, fun h => by rw [wanted_none rfl] at h; cases h⟩
                    | 5, ho, hT0, hl, D, DL =>
                      obtain rfl := Option.some.inj ho
                      obtain rfl := Option.some.inj hT0
                      clear ho hT0
                      exact ⟨fun _ => val_wp (ld_sg1 rfl (D 4 _ rfl rfl) hbt) rfl hM, fun h => by rw [wanted_none rfl] at h; cases h⟩
                    | 6, ho, hT0, hl, D, DL =>
                      obtain rfl := Option.some.inj ho
                      obtain rfl := Option.some.inj hT0
                      clear ho hT0
                      exact ⟨fun _ => call_wp (run_call3 (enters_of Try.func40 (by kernel_rfl) rfl) rfl rfl (D 1 _ rfl rfl) (D 3 _ rfl rfl) (D 5 _ rfl rfl)) (ror_calls s.1 s.2 t.1 w5) rfl fun w9 f1 => (hM.trans f1), fun h => by rw [wanted_none rfl] at h; cases h⟩
                    | 7, ho, hT0, hl, D, DL =>
                      obtain rfl := Option.some.inj ho
                      obtain rfl := Option.some.inj hT0
                      clear ho hT0
                      exact ⟨fun _ => val_wp (fa34_0 rfl (E.get 12 rfl)) rfl hM, fun h => by rw [wanted_none rfl] at h; cases h⟩
                    | 8, ho, hT0, hl, D, DL =>
                      obtain rfl := Option.some.inj ho
                      obtain rfl := Option.some.inj hT0
                      clear ho hT0
                      exact ⟨fun _ => val_wp (ld_sg1 rfl (D 7 _ rfl rfl) hbs) rfl hM, fun h => by rw [wanted_none rfl] at h; cases h⟩
                    | 9, ho, hT0, hl, D, DL =>
                      obtain rfl := Option.some.inj ho
                      obtain rfl := Option.some.inj hT0
                      clear ho hT0
                      exact ⟨fun _ => val_wp (fa34_1 rfl (E.get 12 rfl)) rfl hM, fun h => by rw [wanted_none rfl] at h; cases h⟩
                    | 10, ho, hT0, hl, D, DL =>
                      obtain rfl := Option.some.inj ho
                      obtain rfl := Option.some.inj hT0
                      clear ho hT0
                      exact ⟨fun _ => val_wp (ld_sg2 rfl (D 9 _ rfl rfl) hbs) rfl hM, fun h => by rw [wanted_none rfl] at h; cases h⟩
                    | 11, ho, hT0, hl, D, DL =>
                      obtain rfl := Option.some.inj ho
                      obtain rfl := Option.some.inj hT0
                      clear ho hT0
                      exact ⟨fun _ => val_wp (fa34_1 rfl (E.get 11 rfl)) rfl hM, fun h => by rw [wanted_none rfl] at h; cases h⟩
                    | 12, ho, hT0, hl, D, DL =>
                      obtain rfl := Option.some.inj ho
                      obtain rfl := Option.some.inj hT0
                      clear ho hT0
                      exact ⟨fun _ => val_wp (ld_sg2 rfl (D 11 _ rfl rfl) hbt) rfl hM, fun h => by rw [wanted_none rfl] at h; cases h⟩
                    | 13, ho, hT0, hl, D, DL =>
                      obtain rfl := Option.some.inj ho
                      obtain rfl := Option.some.inj hT0
                      clear ho hT0
                      exact ⟨fun _ => call_wp (run_call3 (enters_of Try.func40 (by kernel_rfl) rfl) rfl rfl (D 8 _ rfl rfl) (D 10 _ rfl rfl) (D 12 _ rfl rfl)) (ror_calls s.1 s.2 t.2 w5) rfl fun w9 f1 => (hM.trans f1), fun h => by rw [wanted_none rfl] at h; cases h⟩
                    | 14, ho, hT0, hl, D, DL =>
                      obtain rfl := Option.some.inj ho
                      obtain rfl := Option.some.inj hT0
                      clear ho hT0
                      exact ⟨fun _ => val_wp (run_imul (D 6 _ rfl rfl) (D 13 _ rfl rfl) (oriN_lo _ _ _ _ _ _) (oriN_hi _ _ _ _ _ _) rfl) rfl hM, fun h => by rw [wanted_none rfl] at h; cases h⟩
                    | 15, ho, hT0, hl, D, DL =>
                      obtain rfl := Option.some.inj ho
                      obtain rfl := Option.some.inj hT0
                      clear ho hT0
                      exact ⟨fun _ => val_wp ((run_ilss (D 14 _ rfl rfl) rfl Try.underlying3 rfl).trans (by rw [hq9] <;> rfl)) rfl hM, fun h => by rw [wanted_none rfl] at h; cases h⟩
                    | 16, ho, hT0, hl, D, DL =>
                      obtain rfl := Option.some.inj ho
                      obtain rfl := Option.some.inj hT0
                      clear ho hT0
                      exact ⟨fun _ => val_wp (run_move rfl (D 15 _ rfl rfl)) rfl hM, fun h => by rw [wanted_none rfl] at h; cases h⟩
                    | 17, ho, hT0, hl, D, DL =>
                      obtain rfl := Option.some.inj ho
                      obtain rfl := Option.some.inj hT0
                      clear ho hT0
                      exact ⟨fun h => (by rw [w_no (g := 16) (s := 125) (b := true) E rfl rfl (by decide) (D 16 _ rfl rfl)] at h; cases h), fun _ => ⟨fun x hx => by cases hx; rfl, hM⟩⟩
                    | 18, ho, hT0, hl, D, DL =>
                      obtain rfl := Option.some.inj ho
                      obtain rfl := Option.some.inj hT0
                      clear ho hT0
                      exact ⟨fun h => (by rw [w_no (g := 16) (s := 125) (b := true) E rfl rfl (by decide) (D 16 _ rfl rfl)] at h; cases h), fun _ => ⟨fun x hx => by cases hx; rfl, hM⟩⟩
                    | 19, ho, hT0, hl, D, DL =>
                      obtain rfl := Option.some.inj ho
                      obtain rfl := Option.some.inj hT0
                      clear ho hT0
                      exact ⟨fun h => (by rw [w_no (g := 16) (s := 125) (b := true) E rfl rfl (by decide) (D 16 _ rfl rfl)] at h; cases h), fun _ => ⟨fun x hx => by cases hx; rfl, hM⟩⟩
                    | 20, ho, hT0, hl, D, DL =>
                      obtain rfl := Option.some.inj ho
                      obtain rfl := Option.some.inj hT0
                      clear ho hT0
                      exact ⟨fun h => (by rw [w_no (g := 16) (s := 125) (b := true) E rfl rfl (by decide) (D 16 _ rfl rfl)] at h; cases h), fun _ => ⟨fun x hx => by cases hx; rfl, hM⟩⟩
                    | 21, ho, hT0, hl, D, DL =>
                      obtain rfl := Option.some.inj ho
                      obtain rfl := Option.some.inj hT0
                      clear ho hT0
                      exact ⟨fun h => (by rw [w_no (g := 16) (s := 125) (b := true) E rfl rfl (by decide) (D 16 _ rfl rfl)] at h; cases h), fun _ => ⟨fun x hx => by cases hx; rfl, hM⟩⟩
                    | 22, ho, hT0, hl, D, DL =>
                      obtain rfl := Option.some.inj ho
                      obtain rfl := Option.some.inj hT0
                      clear ho hT0
                      exact ⟨fun h => (by rw [w_no (g := 16) (s := 125) (b := true) E rfl rfl (by decide) (D 16 _ rfl rfl)] at h; cases h), fun _ => ⟨fun x hx => by cases hx; rfl, hM⟩⟩
                    | 23, ho, hT0, hl, D, DL =>
                      obtain rfl := Option.some.inj ho
                      obtain rfl := Option.some.inj hT0
                      clear ho hT0
                      exact ⟨fun h => (by rw [w_no (g := 16) (s := 125) (b := true) E rfl rfl (by decide) (D 16 _ rfl rfl)] at h; cases h), fun _ => ⟨fun x hx => by cases hx; rfl, hM⟩⟩
                    | 24, ho, hT0, hl, D, DL =>
                      obtain rfl := Option.some.inj ho
                      obtain rfl := Option.some.inj hT0
                      clear ho hT0
                      exact ⟨fun h => (by rw [w_no (g := 16) (s := 125) (b := true) E rfl rfl (by decide) (D 16 _ rfl rfl)] at h; cases h), fun _ => ⟨fun x hx => by cases hx; rfl, hM⟩⟩
                    | 25, ho, hT0, hl, D, DL =>
                      obtain rfl := Option.some.inj ho
                      obtain rfl := Option.some.inj hT0
                      clear ho hT0
                      exact ⟨fun h => (by rw [w_no (g := 16) (s := 125) (b := true) E rfl rfl (by decide) (D 16 _ rfl rfl)] at h; cases h), fun _ => ⟨fun x hx => by cases hx; rfl, hM⟩⟩
                    | 26, ho, hT0, hl, D, DL =>
                      obtain rfl := Option.some.inj ho
                      obtain rfl := Option.some.inj hT0
                      clear ho hT0
                      exact ⟨fun h => (by rw [w_no (g := 16) (s := 125) (b := true) E rfl rfl (by decide) (D 16 _ rfl rfl)] at h; cases h), fun _ => ⟨fun x hx => by cases hx; rfl, hM⟩⟩
                    | 27, ho, hT0, hl, D, DL =>
                      obtain rfl := Option.some.inj ho
                      obtain rfl := Option.some.inj hT0
                      clear ho hT0
                      exact ⟨fun h => (by rw [w_no (g := 16) (s := 125) (b := true) E rfl rfl (by decide) (D 16 _ rfl rfl)] at h; cases h), fun _ => ⟨fun x hx => by cases hx; rfl, hM⟩⟩
                    | 28, ho, hT0, hl, D, DL =>
                      obtain rfl := Option.some.inj ho
                      obtain rfl := Option.some.inj hT0
                      clear ho hT0
                      exact ⟨fun h => (by rw [w_no (g := 16) (s := 125) (b := true) E rfl rfl (by decide) (D 16 _ rfl rfl)] at h; cases h), fun _ => ⟨fun x hx => by cases hx; rfl, hM⟩⟩
                    | 29, ho, hT0, hl, D, DL =>
                      obtain rfl := Option.some.inj ho
                      obtain rfl := Option.some.inj hT0
                      clear ho hT0
                      exact ⟨fun h => (by rw [w_no (g := 16) (s := 125) (b := true) E rfl rfl (by decide) (D 16 _ rfl rfl)] at h; cases h), fun _ => ⟨fun x hx => by cases hx; rfl, hM⟩⟩
                    | 30, ho, hT0, hl, D, DL =>
                      obtain rfl := Option.some.inj ho
                      obtain rfl := Option.some.inj hT0
                      clear ho hT0
                      exact ⟨fun h => (by rw [w_no (g := 16) (s := 125) (b := true) E rfl rfl (by decide) (D 16 _ rfl rfl)] at h; cases h), fun _ => ⟨fun x hx => by cases hx; rfl, hM⟩⟩
                    | 31, ho, hT0, hl, D, DL =>
                      obtain rfl := Option.some.inj ho
                      obtain rfl := Option.some.inj hT0
                      clear ho hT0
                      exact ⟨fun h => (by rw [w_no (g := 16) (s := 125) (b := true) E rfl rfl (by decide) (D 16 _ rfl rfl)] at h; cases h), fun _ => ⟨fun x hx => by cases hx; rfl, hM⟩⟩
                    | 32, ho, hT0, hl, D, DL =>
                      obtain rfl := Option.some.inj ho
                      obtain rfl := Option.some.inj hT0
                      clear ho hT0
                      exact ⟨fun h => (by rw [w_no (g := 16) (s := 125) (b := true) E rfl rfl (by decide) (D 16 _ rfl rfl)] at h; cases h), fun _ => ⟨fun x hx => by cases hx; rfl, hM⟩⟩
                    | 33, ho, hT0, hl, D, DL =>
                      obtain rfl := Option.some.inj ho
                      obtain rfl := Option.some.inj hT0
                      clear ho hT0
                      exact ⟨fun _ => val_wp (run_pick_f rfl (D 16 _ rfl rfl) rfl) rfl hM, fun h => by rw [wanted_none rfl] at h; cases h⟩
                    | j9 + 34, ho, hT0, hl, D, DL => exact absurd hT0 (by simp)
                  · intro a w5 E V hM
                    have E := E.add (V 33 _ rfl)
                    clear V
                    have hbs := sgB.fr hbs hM id
                    have hbt := sgB.fr hbt hM id
                    have hen := PtsAt.fr hen hM id
                    have hO := own_fr hO hM (fun _ _ h => h)
                    have hBs := Nat.le_trans hBs hM.size
                    have hf := hf.trans hM
                    clear hM
                    refine then_n ?_
                    refine wp_cond_false (E.get 0 rfl) ?_
                    refine wp_skip ?_
                    refine then_n ?_
                    refine wp_seq ?_
                    refine wp_region_lit ?_
                    refine env_put (d := 4) (v := .int .i64 0) E rfl (by decide) rfl (wanted_none rfl _) (run_assign rfl rfl) fun a E => ?_
                    refine wpList_nil ?_
                    refine then_n ?_
                    refine wp_ret ?_
                    refine ret_tmp (t := 4) rfl E (E.get 0 rfl) ⟨?_, hf⟩
                    rw [kind_cross hs ht hns (hcm.symm.trans hc0)]
                    rw [if_neg (fun h => of_decide_eq_false hq9 (by rw [oriN_near hs.1 hs.2 ht.1, oriN_near hs.1 hs.2 ht.2]; exact h.1))]
                | true =>
                  refine wp_region_invg (n := 143) (base := [(96, .bool false), (95, .int .i64 (cm.length : Int)), (94, .slice (pc) cm.length cc), (93, .bool false), (92, .int .i64 (cm.length : Int)), (91, .slice (pc) cm.length cc), (45, .bool false), (44, .int .i64 (i : Int)), (7, .int .i64 (i : Int)), (6, .slice (pc) cm.length cc), (5, .slice (some ⟨be, 0, none⟩) 4 4), (3, .pointer (some ⟨bt, 0, none⟩)), (2, .pointer (some ⟨bs, 0, none⟩))]) (T := [some (109, .pointer (some ⟨bs, 0, none⟩)), some (110, .agg (ptC s.1)), some (111, .pointer (some ⟨bs, 2, none⟩)), some (112, .agg (ptC s.2)), some (113, .pointer (some ⟨bt, 0, none⟩)), some (114, .agg (ptC t.1)), some (115, .int .i64 (oriN s.1 s.2 t.1)), some (116, .pointer (some ⟨bs, 0, none⟩)), some (117, .agg (ptC s.1)), some (118, .pointer (some ⟨bs, 2, none⟩)), some (119, .agg (ptC s.2)), some (120, .pointer (some ⟨bt, 2, none⟩)), some (121, .agg (ptC t.2)), some (122, .int .i64 (oriN s.1 s.2 t.2)), some (123, .int .i64 ((oriN s.1 s.2 t.1) * (oriN s.1 s.2 t.2))), some (124, .bool true), some (125, .bool true), some (126, .pointer (some ⟨bt, 0, none⟩)), some (127, .agg (ptC t.1)), some (128, .pointer (some ⟨bt, 2, none⟩)), some (129, .agg (ptC t.2)), some (130, .pointer (some ⟨bs, 0, none⟩)), some (131, .agg (ptC s.1)), some (132, .int .i64 (oriN t.1 t.2 s.1)), some (133, .pointer (some ⟨bt, 0, none⟩)), some (134, .agg (ptC t.1)), some (135, .pointer (some ⟨bt, 2, none⟩)), some (136, .agg (ptC t.2)), some (137, .pointer (some ⟨bs, 2, none⟩)), some (138, .agg (ptC s.2)), some (139, .int .i64 (oriN t.1 t.2 s.2)), some (140, .int .i64 ((oriN t.1 t.2 s.1) * (oriN t.1 t.2 s.2))), some (141, .bool (decide (((oriN t.1 t.2 s.1) * (oriN t.1 t.2 s.2)) < 0))), some (142, .bool (decide (((oriN t.1 t.2 s.1) * (oriN t.1 t.2 s.2)) < 0)))]) (M := fun _ w5 => Fr (fun _ => False) w2 w5) (by kernel_rfl) (by kernel_rfl) (by kernel_rfl) (E.of ⟨E.get 0 rfl, E.get 1 rfl, E.get 2 rfl, E.get 3 rfl, E.get 4 rfl, E.get 5 rfl, E.get 6 rfl, E.get 7 rfl, E.get 8 rfl, E.get 9 rfl, E.get 10 rfl, E.get 11 rfl, E.get 12 rfl, trivial⟩) (Fr.refl _ _).drew ?_ ?_
                  · intro j9 o9 t9 ls9 a w5 ho hT0 hl E D DL hM
                    have hbs := sgB.fr hbs hM id
                    have hbt := sgB.fr hbt hM id
                    have hen := PtsAt.fr hen hM id
                    have hO := own_fr hO hM (fun _ _ h => h)
                    have hBs := Nat.le_trans hBs hM.size
                    match j9, ho, hT0, hl, D, DL with
                    | 0, ho, hT0, hl, D, DL =>
                      obtain rfl := Option.some.inj ho
                      obtain rfl := Option.some.inj hT0
                      clear ho hT0
                      exact ⟨fun _ => val_wp (fa34_0 rfl (E.get 12 rfl)) rfl hM, fun h => by rw [wanted_none rfl] at h; cases h⟩
                    | 1, ho, hT0, hl, D, DL =>
                      obtain rfl := Option.some.inj ho
                      obtain rfl := Option.some.inj hT0
                      clear ho hT0
                      exact ⟨fun _ => val_wp (ld_sg1 rfl (D 0 _ rfl rfl) hbs) rfl hM, fun h => by rw [wanted_none rfl] at h; cases h⟩
                    | 2, ho, hT0, hl, D, DL =>
                      obtain rfl := Option.some.inj ho
                      obtain rfl := Option.some.inj hT0
                      clear ho hT0
                      exact ⟨fun _ => val_wp (fa34_1 rfl (E.get 12 rfl)) rfl hM, fun h => by rw [wanted_none rfl] at h; cases h⟩
                    | 3, ho, hT0, hl, D, DL =>
                      obtain rfl := Option.some.inj ho
                      obtain rfl := Option.some.inj hT0
                      clear ho hT0
                      exact ⟨fun _ => val_wp (ld_sg2 rfl (D 2 _ rfl rfl) hbs) rfl hM, fun h => by rw [wanted_none rfl] at h; cases h⟩
                    | 4, ho, hT0, hl, D, DL =>
                      obtain rfl := Option.some.inj ho
                      obtain rfl := Option.some.inj hT0
                      clear ho hT0
                      exact ⟨fun _ => val_wp (fa34_0 rfl (E.get 11 rfl)) rfl hM, fun h => by rw [wanted_none rfl] at h; cases h⟩
                    | 5, ho, hT0, hl, D, DL =>
                      obtain rfl := Option.some.inj ho
                      obtain rfl := Option.some.inj hT0
                      clear ho hT0
                      exact ⟨fun _ => val_wp (ld_sg1 rfl (D 4 _ rfl rfl) hbt) rfl hM, fun h => by rw [wanted_none rfl] at h; cases h⟩
                    | 6, ho, hT0, hl, D, DL =>
                      obtain rfl := Option.some.inj ho
                      obtain rfl := Option.some.inj hT0
                      clear ho hT0
                      exact ⟨fun _ => call_wp (run_call3 (enters_of Try.func40 (by kernel_rfl) rfl) rfl rfl (D 1 _ rfl rfl) (D 3 _ rfl rfl) (D 5 _ rfl rfl)) (ror_calls s.1 s.2 t.1 w5) rfl fun w9 f1 => (hM.trans f1), fun h => by rw [wanted_none rfl] at h; cases h⟩
                    | 7, ho, hT0, hl, D, DL =>
                      obtain rfl := Option.some.inj ho
                      obtain rfl := Option.some.inj hT0
                      clear ho hT0
                      exact ⟨fun _ => val_wp (fa34_0 rfl (E.get 12 rfl)) rfl hM, fun h => by rw [wanted_none rfl] at h; cases h⟩
                    | 8, ho, hT0, hl, D, DL =>
                      obtain rfl := Option.some.inj ho
                      obtain rfl := Option.some.inj hT0
                      clear ho hT0
                      exact ⟨fun _ => val_wp (ld_sg1 rfl (D 7 _ rfl rfl) hbs) rfl hM, fun h => by rw [wanted_none rfl] at h; cases h⟩
                    | 9, ho, hT0, hl, D, DL =>
                      obtain rfl := Option.some.inj ho
                      obtain rfl := Option.some.inj hT0
                      clear ho hT0
                      exact ⟨fun _ => val_wp (fa34_1 rfl (E.get 12 rfl)) rfl hM, fun h => by rw [wanted_none rfl] at h; cases h⟩
                    | 10, ho, hT0, hl, D, DL =>
                      obtain rfl := Option.some.inj ho
                      obtain rfl := Option.some.inj hT0
                      clear ho hT0
                      exact ⟨fun _ => val_wp (ld_sg2 rfl (D 9 _ rfl rfl) hbs) rfl hM, fun h => by rw [wanted_none rfl] at h; cases h⟩
                    | 11, ho, hT0, hl, D, DL =>
                      obtain rfl := Option.some.inj ho
                      obtain rfl := Option.some.inj hT0
                      clear ho hT0
                      exact ⟨fun _ => val_wp (fa34_1 rfl (E.get 11 rfl)) rfl hM, fun h => by rw [wanted_none rfl] at h; cases h⟩
                    | 12, ho, hT0, hl, D, DL =>
                      obtain rfl := Option.some.inj ho
                      obtain rfl := Option.some.inj hT0
                      clear ho hT0
                      exact ⟨fun _ => val_wp (ld_sg2 rfl (D 11 _ rfl rfl) hbt) rfl hM, fun h => by rw [wanted_none rfl] at h; cases h⟩
                    | 13, ho, hT0, hl, D, DL =>
                      obtain rfl := Option.some.inj ho
                      obtain rfl := Option.some.inj hT0
                      clear ho hT0
                      exact ⟨fun _ => call_wp (run_call3 (enters_of Try.func40 (by kernel_rfl) rfl) rfl rfl (D 8 _ rfl rfl) (D 10 _ rfl rfl) (D 12 _ rfl rfl)) (ror_calls s.1 s.2 t.2 w5) rfl fun w9 f1 => (hM.trans f1), fun h => by rw [wanted_none rfl] at h; cases h⟩
                    | 14, ho, hT0, hl, D, DL =>
                      obtain rfl := Option.some.inj ho
                      obtain rfl := Option.some.inj hT0
                      clear ho hT0
                      exact ⟨fun _ => val_wp (run_imul (D 6 _ rfl rfl) (D 13 _ rfl rfl) (oriN_lo _ _ _ _ _ _) (oriN_hi _ _ _ _ _ _) rfl) rfl hM, fun h => by rw [wanted_none rfl] at h; cases h⟩
                    | 15, ho, hT0, hl, D, DL =>
                      obtain rfl := Option.some.inj ho
                      obtain rfl := Option.some.inj hT0
                      clear ho hT0
                      exact ⟨fun _ => val_wp ((run_ilss (D 14 _ rfl rfl) rfl Try.underlying3 rfl).trans (by rw [hq9] <;> rfl)) rfl hM, fun h => by rw [wanted_none rfl] at h; cases h⟩
                    | 16, ho, hT0, hl, D, DL =>
                      obtain rfl := Option.some.inj ho
                      obtain rfl := Option.some.inj hT0
                      clear ho hT0
                      exact ⟨fun _ => val_wp (run_move rfl (D 15 _ rfl rfl)) rfl hM, fun h => by rw [wanted_none rfl] at h; cases h⟩
                    | 17, ho, hT0, hl, D, DL =>
                      obtain rfl := Option.some.inj ho
                      obtain rfl := Option.some.inj hT0
                      clear ho hT0
                      exact ⟨fun _ => val_wp (fa34_0 rfl (E.get 11 rfl)) rfl hM, fun h => by rw [w_yes (g := 16) (s := 125) (b := true) E rfl rfl (by decide) (D 16 _ rfl rfl)] at h; cases h⟩
                    | 18, ho, hT0, hl, D, DL =>
                      obtain rfl := Option.some.inj ho
                      obtain rfl := Option.some.inj hT0
                      clear ho hT0
                      exact ⟨fun _ => val_wp (ld_sg1 rfl (D 17 _ rfl rfl) hbt) rfl hM, fun h => by rw [w_yes (g := 16) (s := 125) (b := true) E rfl rfl (by decide) (D 16 _ rfl rfl)] at h; cases h⟩
                    | 19, ho, hT0, hl, D, DL =>
                      obtain rfl := Option.some.inj ho
                      obtain rfl := Option.some.inj hT0
                      clear ho hT0
                      exact ⟨fun _ => val_wp (fa34_1 rfl (E.get 11 rfl)) rfl hM, fun h => by rw [w_yes (g := 16) (s := 125) (b := true) E rfl rfl (by decide) (D 16 _ rfl rfl)] at h; cases h⟩
                    | 20, ho, hT0, hl, D, DL =>
                      obtain rfl := Option.some.inj ho
                      obtain rfl := Option.some.inj hT0
                      clear ho hT0
                      exact ⟨fun _ => val_wp (ld_sg2 rfl (D 19 _ rfl rfl) hbt) rfl hM, fun h => by rw [w_yes (g := 16) (s := 125) (b := true) E rfl rfl (by decide) (D 16 _ rfl rfl)] at h; cases h⟩
                    | 21, ho, hT0, hl, D, DL =>
                      obtain rfl := Option.some.inj ho
                      obtain rfl := Option.some.inj hT0
                      clear ho hT0
                      exact ⟨fun _ => val_wp (fa34_0 rfl (E.get 12 rfl)) rfl hM, fun h => by rw [w_yes (g := 16) (s := 125) (b := true) E rfl rfl (by decide) (D 16 _ rfl rfl)] at h; cases h⟩
                    | 22, ho, hT0, hl, D, DL =>
                      obtain rfl := Option.some.inj ho
                      obtain rfl := Option.some.inj hT0
                      clear ho hT0
                      exact ⟨fun _ => val_wp (ld_sg1 rfl (D 21 _ rfl rfl) hbs) rfl hM, fun h => by rw [w_yes (g := 16) (s := 125) (b := true) E rfl rfl (by decide) (D 16 _ rfl rfl)] at h; cases h⟩
                    | 23, ho, hT0, hl, D, DL =>
                      obtain rfl := Option.some.inj ho
                      obtain rfl := Option.some.inj hT0
                      clear ho hT0
                      exact ⟨fun _ => call_wp (run_call3 (enters_of Try.func40 (by kernel_rfl) rfl) rfl rfl (D 18 _ rfl rfl) (D 20 _ rfl rfl) (D 22 _ rfl rfl)) (ror_calls t.1 t.2 s.1 w5) rfl fun w9 f1 => (hM.trans f1), fun h => by rw [w_yes (g := 16) (s := 125) (b := true) E rfl rfl (by decide) (D 16 _ rfl rfl)] at h; cases h⟩
                    | 24, ho, hT0, hl, D, DL =>
                      obtain rfl := Option.some.inj ho
                      obtain rfl := Option.some.inj hT0
                      clear ho hT0
                      exact ⟨fun _ => val_wp (fa34_0 rfl (E.get 11 rfl)) rfl hM, fun h => by rw [w_yes (g := 16) (s := 125) (b := true) E rfl rfl (by decide) (D 16 _ rfl rfl)] at h; cases h⟩
                    | 25, ho, hT0, hl, D, DL =>
                      obtain rfl := Option.some.inj ho
                      obtain rfl := Option.some.inj hT0
                      clear ho hT0
                      exact ⟨fun _ => val_wp (ld_sg1 rfl (D 24 _ rfl rfl) hbt) rfl hM, fun h => by rw [w_yes (g := 16) (s := 125) (b := true) E rfl rfl (by decide) (D 16 _ rfl rfl)] at h; cases h⟩
                    | 26, ho, hT0, hl, D, DL =>
                      obtain rfl := Option.some.inj ho
                      obtain rfl := Option.some.inj hT0
                      clear ho hT0
                      exact ⟨fun _ => val_wp (fa34_1 rfl (E.get 11 rfl)) rfl hM, fun h => by rw [w_yes (g := 16) (s := 125) (b := true) E rfl rfl (by decide) (D 16 _ rfl rfl)] at h; cases h⟩
                    | 27, ho, hT0, hl, D, DL =>
                      obtain rfl := Option.some.inj ho
                      obtain rfl := Option.some.inj hT0
                      clear ho hT0
                      exact ⟨fun _ => val_wp (ld_sg2 rfl (D 26 _ rfl rfl) hbt) rfl hM, fun h => by rw [w_yes (g := 16) (s := 125) (b := true) E rfl rfl (by decide) (D 16 _ rfl rfl)] at h; cases h⟩
                    | 28, ho, hT0, hl, D, DL =>
                      obtain rfl := Option.some.inj ho
                      obtain rfl := Option.some.inj hT0
                      clear ho hT0
                      exact ⟨fun _ => val_wp (fa34_1 rfl (E.get 12 rfl)) rfl hM, fun h => by rw [w_yes (g := 16) (s := 125) (b := true) E rfl rfl (by decide) (D 16 _ rfl rfl)] at h; cases h⟩
                    | 29, ho, hT0, hl, D, DL =>
                      obtain rfl := Option.some.inj ho
                      obtain rfl := Option.some.inj hT0
                      clear ho hT0
                      exact ⟨fun _ => val_wp (ld_sg2 rfl (D 28 _ rfl rfl) hbs) rfl hM, fun h => by rw [w_yes (g := 16) (s := 125) (b := true) E rfl rfl (by decide) (D 16 _ rfl rfl)] at h; cases h⟩
                    | 30, ho, hT0, hl, D, DL =>
                      obtain rfl := Option.some.inj ho
                      obtain rfl := Option.some.inj hT0
                      clear ho hT0
                      exact ⟨fun _ => call_wp (run_call3 (enters_of Try.func40 (by kernel_rfl) rfl) rfl rfl (D 25 _ rfl rfl) (D 27 _ rfl rfl) (D 29 _ rfl rfl)) (ror_calls t.1 t.2 s.2 w5) rfl fun w9 f1 => (hM.trans f1), fun h => by rw [w_yes (g := 16) (s := 125) (b := true) E rfl rfl (by decide) (D 16 _ rfl rfl)] at h; cases h⟩
                    | 31, ho, hT0, hl, D, DL =>
                      obtain rfl := Option.some.inj ho
                      obtain rfl := Option.some.inj hT0
                      clear ho hT0
                      exact ⟨fun _ => val_wp (run_imul (D 23 _ rfl rfl) (D 30 _ rfl rfl) (oriN_lo _ _ _ _ _ _) (oriN_hi _ _ _ _ _ _) rfl) rfl hM, fun h => by rw [w_yes (g := 16) (s := 125) (b := true) E rfl rfl (by decide) (D 16 _ rfl rfl)] at h; cases h⟩
                    | 32, ho, hT0, hl, D, DL =>
                      obtain rfl := Option.some.inj ho
                      obtain rfl := Option.some.inj hT0
                      clear ho hT0
                      exact ⟨fun _ => val_wp (run_ilss (D 31 _ rfl rfl) rfl Try.underlying3 rfl) rfl hM, fun h => by rw [w_yes (g := 16) (s := 125) (b := true) E rfl rfl (by decide) (D 16 _ rfl rfl)] at h; cases h⟩
                    | 33, ho, hT0, hl, D, DL =>
                      obtain rfl := Option.some.inj ho
                      obtain rfl := Option.some.inj hT0
                      clear ho hT0
                      exact ⟨fun _ => val_wp (run_pick_t rfl (D 16 _ rfl rfl) (D 32 _ rfl rfl)) rfl hM, fun h => by rw [wanted_none rfl] at h; cases h⟩
                    | j9 + 34, ho, hT0, hl, D, DL => exact absurd hT0 (by simp)
                  · intro a w5 E V hM
                    have E := E.add (V 33 _ rfl)
                    clear V
                    have hbs := sgB.fr hbs hM id
                    have hbt := sgB.fr hbt hM id
                    have hen := PtsAt.fr hen hM id
                    have hO := own_fr hO hM (fun _ _ h => h)
                    have hBs := Nat.le_trans hBs hM.size
                    have hf := hf.trans hM
                    clear hM
                    refine then_n ?_
                    cases hq12 : (decide (((oriN t.1 t.2 s.1) * (oriN t.1 t.2 s.2)) < 0)) with
                    | false =>
                      rw [hq12] at E
                      refine wp_cond_false (E.get 0 rfl) ?_
                      refine wp_skip ?_
                      refine then_n ?_
                      refine wp_seq ?_
                      refine wp_region_lit ?_
                      refine env_put (d := 4) (v := .int .i64 0) E rfl (by decide) rfl (wanted_none rfl _) (run_assign rfl rfl) fun a E => ?_
                      refine wpList_nil ?_
                      refine then_n ?_
                      refine wp_ret ?_
                      refine ret_tmp (t := 4) rfl E (E.get 0 rfl) ⟨?_, hf⟩
                      rw [kind_cross hs ht hns (hcm.symm.trans hc0)]
                      rw [if_neg (fun h => of_decide_eq_false hq12 (by rw [oriN_near ht.1 ht.2 hs.1, oriN_near ht.1 ht.2 hs.2]; exact h.2))]
                    | true =>
                      rw [hq12] at E
                      refine wp_cond_true (E.get 0 rfl) ?_
                      refine wp_seq ?_
                      refine wp_region_lit ?_
                      refine env_put (d := 4) (v := .int .i64 3) E rfl (by decide) rfl (wanted_none rfl _) (run_assign rfl rfl) fun a E => ?_
                      refine wpList_nil ?_
                      refine then_n ?_
                      refine wp_ret ?_
                      refine then_r ?_
                      refine ret_tmp (t := 4) rfl E (E.get 0 rfl) ⟨?_, hf⟩
                      rw [kind_cross hs ht hns (hcm.symm.trans hc0)]
                      rw [if_pos ⟨by have h := of_decide_eq_true hq9; rwa [oriN_near hs.1 hs.2 ht.1, oriN_near hs.1 hs.2 ht.2] at h, by have h := of_decide_eq_true hq12; rwa [oriN_near ht.1 ht.2 hs.1, oriN_near ht.1 ht.2 hs.2] at h⟩]
              | true =>
                rw [hq8] at E
                obtain ⟨c, hc⟩ : ∃ c, cm = [c] := by
                  have h1 : cm.length = 1 := by have := eq_of_beq hq8; omega
                  match cm, h1 with
                  | [c], _ => exact ⟨c, rfl⟩
                have h0t : 0 < cm.length := by rw [hc]; exact Nat.zero_lt_one
                obtain ⟨gc, hpe, _, hrow⟩ := hO.at h0t
                have hc1 : cm[0]? = some c := by rw [hc]; rfl
                refine wp_cond_true (E.get 0 rfl) ?_
                refine wp_seq ?_
                refine wp_seq ?_
                cases hq13 : (decide (c = s.1 ∨ c = s.2)) with
                | false =>
                  refine wp_region_invg (n := 143) (base := [(96, .bool true), (95, .int .i64 (cm.length : Int)), (94, .slice (pc) cm.length cc), (93, .bool false), (92, .int .i64 (cm.length : Int)), (91, .slice (pc) cm.length cc), (45, .bool false), (44, .int .i64 (i : Int)), (7, .int .i64 (i : Int)), (6, .slice (pc) cm.length cc), (5, .slice (some ⟨be, 0, none⟩) 4 4), (3, .pointer (some ⟨bt, 0, none⟩)), (2, .pointer (some ⟨bs, 0, none⟩))]) (T := [some (97, .agg (sgC s)), some (98, .slice (pc) cm.length cc), some (99, .pointer (some ⟨gc, (0 * 2), none⟩)), some (100, .agg (ptC c)), some (101, .bool false), some (102, .bool false), some (103, undef), some (104, undef), some (105, undef), some (106, undef), some (107, undef), some (108, .bool false)]) (M := fun _ w5 => Fr (fun _ => False) w2 w5) (by kernel_rfl) (by kernel_rfl) (by kernel_rfl) (E.of ⟨E.get 0 rfl, E.get 1 rfl, E.get 2 rfl, E.get 3 rfl, E.get 4 rfl, E.get 5 rfl, E.get 6 rfl, E.get 7 rfl, E.get 8 rfl, E.get 9 rfl, E.get 10 rfl, E.get 11 rfl, E.get 12 rfl, trivial⟩) (Fr.refl _ _).drew ?_ ?_
                  · intro j9 o9 t9 ls9 a w5 ho hT0 hl E D DL hM
                    have hbs := sgB.fr hbs hM id
                    have hbt := sgB.fr hbt hM id
                    have hen := PtsAt.fr hen hM id
                    have hO := own_fr hO hM (fun _ _ h => h)
                    have hBs := Nat.le_trans hBs hM.size
                    have hrow := PtsAt.fr hrow hM id
                    match j9, ho, hT0, hl, D, DL with
                    | 0, ho, hT0, hl, D, DL =>
                      obtain rfl := Option.some.inj ho
                      obtain rfl := Option.some.inj hT0
                      clear ho hT0
                      exact ⟨fun _ => val_wp (ld_sg rfl (E.get 12 rfl) hbs) rfl hM, fun h => by rw [wanted_none rfl] at h; cases h⟩
                    | 1, ho, hT0, hl, D, DL =>
                      obtain rfl := Option.some.inj ho
                      obtain rfl := Option.some.inj hT0
                      clear ho hT0
                      exact ⟨fun _ => val_wp (run_move rfl (E.get 9 rfl)) rfl hM, fun h => by rw [wanted_none rfl] at h; cases h⟩
                    | 2, ho, hT0, hl, D, DL =>
                      obtain rfl := Option.some.inj ho
                      obtain rfl := Option.some.inj hT0
                      clear ho hT0
                      exact ⟨fun _ => val_wp (run_index69 (i := 0) rfl ((D 1 _ rfl rfl).trans (by rw [hpe])) rfl h0t) rfl hM, fun h => by rw [wanted_none rfl] at h; cases h⟩
                    | 3, ho, hT0, hl, D, DL =>
                      obtain rfl := Option.some.inj ho
                      obtain rfl := Option.some.inj hT0
                      clear ho hT0
                      exact ⟨fun _ => val_wp (ld_ptAt rfl (D 2 _ rfl rfl) hrow hc1) rfl hM, fun h => by rw [wanted_none rfl] at h; cases h⟩
                    | 4, ho, hT0, hl, D, DL =>
                      obtain rfl := Option.some.inj ho
                      obtain rfl := Option.some.inj hT0
                      clear ho hT0
                      exact ⟨fun _ => call_wp (run_call2 (enters_of Try.func39 (by kernel_rfl) rfl) rfl rfl (D 0 _ rfl rfl) (D 3 _ rfl rfl)) (by have h := (rend_calls s c w5); rw [hq13] at h; exact h) rfl fun w9 f1 => (hM.trans f1), fun h => by rw [wanted_none rfl] at h; cases h⟩
                    | 5, ho, hT0, hl, D, DL =>
                      obtain rfl := Option.some.inj ho
                      obtain rfl := Option.some.inj hT0
                      clear ho hT0
                      exact ⟨fun _ => val_wp (run_move rfl (D 4 _ rfl rfl)) rfl hM, fun h => by rw [wanted_none rfl] at h; cases h⟩
                    | 6, ho, hT0, hl, D, DL =>
                      obtain rfl := Option.some.inj ho
                      obtain rfl := Option.some.inj hT0
                      clear ho hT0
                      exact ⟨fun h => (by rw [w_no (g := 5) (s := 102) (b := true) E rfl rfl (by decide) (D 5 _ rfl rfl)] at h; cases h), fun _ => ⟨fun x hx => by cases hx; rfl, hM⟩⟩
                    | 7, ho, hT0, hl, D, DL =>
                      obtain rfl := Option.some.inj ho
                      obtain rfl := Option.some.inj hT0
                      clear ho hT0
                      exact ⟨fun h => (by rw [w_no (g := 5) (s := 102) (b := true) E rfl rfl (by decide) (D 5 _ rfl rfl)] at h; cases h), fun _ => ⟨fun x hx => by cases hx; rfl, hM⟩⟩
                    | 8, ho, hT0, hl, D, DL =>
                      obtain rfl := Option.some.inj ho
                      obtain rfl := Option.some.inj hT0
                      clear ho hT0
                      exact ⟨fun h => (by rw [w_no (g := 5) (s := 102) (b := true) E rfl rfl (by decide) (D 5 _ rfl rfl)] at h; cases h), fun _ => ⟨fun x hx => by cases hx; rfl, hM⟩⟩
                    | 9, ho, hT0, hl, D, DL =>
                      obtain rfl := Option.some.inj ho
                      obtain rfl := Option.some.inj hT0
                      clear ho hT0
                      exact ⟨fun h => (by rw [w_no (g := 5) (s := 102) (b := true) E rfl rfl (by decide) (D 5 _ rfl rfl)] at h; cases h), fun _ => ⟨fun x hx => by cases hx; rfl, hM⟩⟩
                    | 10, ho, hT0, hl, D, DL =>
                      obtain rfl := Option.some.inj ho
                      obtain rfl := Option.some.inj hT0
                      clear ho hT0
                      exact ⟨fun h => (by rw [w_no (g := 5) (s := 102) (b := true) E rfl rfl (by decide) (D 5 _ rfl rfl)] at h; cases h), fun _ => ⟨fun x hx => by cases hx; rfl, hM⟩⟩
                    | 11, ho, hT0, hl, D, DL =>
                      obtain rfl := Option.some.inj ho
                      obtain rfl := Option.some.inj hT0
                      clear ho hT0
                      exact ⟨fun _ => val_wp (run_pick_f rfl (D 5 _ rfl rfl) rfl) rfl hM, fun h => by rw [wanted_none rfl] at h; cases h⟩
                    | j9 + 12, ho, hT0, hl, D, DL => exact absurd hT0 (by simp)
                  · intro a w5 E V hM
                    have E := E.add (V 11 _ rfl)
                    clear V
                    have hbs := sgB.fr hbs hM id
                    have hbt := sgB.fr hbt hM id
                    have hen := PtsAt.fr hen hM id
                    have hO := own_fr hO hM (fun _ _ h => h)
                    have hBs := Nat.le_trans hBs hM.size
                    have hrow := PtsAt.fr hrow hM id
                    have hf := hf.trans hM
                    clear hM
                    refine then_n ?_
                    refine wp_cond_false (E.get 0 rfl) ?_
                    refine wp_skip ?_
                    refine then_n ?_
                    refine wp_seq ?_
                    refine wp_region_lit ?_
                    refine env_put (d := 4) (v := .int .i64 2) E rfl (by decide) rfl (wanted_none rfl _) (run_assign rfl rfl) fun a E => ?_
                    refine wpList_nil ?_
                    refine then_n ?_
                    refine wp_ret ?_
                    refine then_r ?_
                    refine ret_tmp (t := 4) rfl E (E.get 0 rfl) ⟨?_, hf⟩
                    rw [kind_touch hs ht hns (hcm.symm.trans hc) (fun h => of_decide_eq_false hq13 h.1)]
                | true =>
                  refine wp_region_invg (n := 143) (base := [(96, .bool true), (95, .int .i64 (cm.length : Int)), (94, .slice (pc) cm.length cc), (93, .bool false), (92, .int .i64 (cm.length : Int)), (91, .slice (pc) cm.length cc), (45, .bool false), (44, .int .i64 (i : Int)), (7, .int .i64 (i : Int)), (6, .slice (pc) cm.length cc), (5, .slice (some ⟨be, 0, none⟩) 4 4), (3, .pointer (some ⟨bt, 0, none⟩)), (2, .pointer (some ⟨bs, 0, none⟩))]) (T := [some (97, .agg (sgC s)), some (98, .slice (pc) cm.length cc), some (99, .pointer (some ⟨gc, (0 * 2), none⟩)), some (100, .agg (ptC c)), some (101, .bool true), some (102, .bool true), some (103, .agg (sgC t)), some (104, .slice (pc) cm.length cc), some (105, .pointer (some ⟨gc, (0 * 2), none⟩)), some (106, .agg (ptC c)), some (107, .bool (decide (c = t.1 ∨ c = t.2))), some (108, .bool (decide (c = t.1 ∨ c = t.2)))]) (M := fun _ w5 => Fr (fun _ => False) w2 w5) (by kernel_rfl) (by kernel_rfl) (by kernel_rfl) (E.of ⟨E.get 0 rfl, E.get 1 rfl, E.get 2 rfl, E.get 3 rfl, E.get 4 rfl, E.get 5 rfl, E.get 6 rfl, E.get 7 rfl, E.get 8 rfl, E.get 9 rfl, E.get 10 rfl, E.get 11 rfl, E.get 12 rfl, trivial⟩) (Fr.refl _ _).drew ?_ ?_
                  · intro j9 o9 t9 ls9 a w5 ho hT0 hl E D DL hM
                    have hbs := sgB.fr hbs hM id
                    have hbt := sgB.fr hbt hM id
                    have hen := PtsAt.fr hen hM id
                    have hO := own_fr hO hM (fun _ _ h => h)
                    have hBs := Nat.le_trans hBs hM.size
                    have hrow := PtsAt.fr hrow hM id
                    match j9, ho, hT0, hl, D, DL with
                    | 0, ho, hT0, hl, D, DL =>
                      obtain rfl := Option.some.inj ho
                      obtain rfl := Option.some.inj hT0
                      clear ho hT0
                      exact ⟨fun _ => val_wp (ld_sg rfl (E.get 12 rfl) hbs) rfl hM, fun h => by rw [wanted_none rfl] at h; cases h⟩
                    | 1, ho, hT0, hl, D, DL =>
                      obtain rfl := Option.some.inj ho
                      obtain rfl := Option.some.inj hT0
                      clear ho hT0
                      exact ⟨fun _ => val_wp (run_move rfl (E.get 9 rfl)) rfl hM, fun h => by rw [wanted_none rfl] at h; cases h⟩
                    | 2, ho, hT0, hl, D, DL =>
                      obtain rfl := Option.some.inj ho
                      obtain rfl := Option.some.inj hT0
                      clear ho hT0
                      exact ⟨fun _ => val_wp (run_index69 (i := 0) rfl ((D 1 _ rfl rfl).trans (by rw [hpe])) rfl h0t) rfl hM, fun h => by rw [wanted_none rfl] at h; cases h⟩
                    | 3, ho, hT0, hl, D, DL =>
                      obtain rfl := Option.some.inj ho
                      obtain rfl := Option.some.inj hT0
                      clear ho hT0
                      exact ⟨fun _ => val_wp (ld_ptAt rfl (D 2 _ rfl rfl) hrow hc1) rfl hM, fun h => by rw [wanted_none rfl] at h; cases h⟩
                    | 4, ho, hT0, hl, D, DL =>
                      obtain rfl := Option.some.inj ho
                      obtain rfl := Option.some.inj hT0
                      clear ho hT0
                      exact ⟨fun _ => call_wp (run_call2 (enters_of Try.func39 (by kernel_rfl) rfl) rfl rfl (D 0 _ rfl rfl) (D 3 _ rfl rfl)) (by have h := (rend_calls s c w5); rw [hq13] at h; exact h) rfl fun w9 f1 => (hM.trans f1), fun h => by rw [wanted_none rfl] at h; cases h⟩
                    | 5, ho, hT0, hl, D, DL =>
                      obtain rfl := Option.some.inj ho
                      obtain rfl := Option.some.inj hT0
                      clear ho hT0
                      exact ⟨fun _ => val_wp (run_move rfl (D 4 _ rfl rfl)) rfl hM, fun h => by rw [wanted_none rfl] at h; cases h⟩
                    | 6, ho, hT0, hl, D, DL =>
                      obtain rfl := Option.some.inj ho
                      obtain rfl := Option.some.inj hT0
                      clear ho hT0
                      exact ⟨fun _ => val_wp (ld_sg rfl (E.get 11 rfl) hbt) rfl hM, fun h => by rw [w_yes (g := 5) (s := 102) (b := true) E rfl rfl (by decide) (D 5 _ rfl rfl)] at h; cases h⟩
                    | 7, ho, hT0, hl, D, DL =>
                      obtain rfl := Option.some.inj ho
                      obtain rfl := Option.some.inj hT0
                      clear ho hT0
                      exact ⟨fun _ => val_wp (run_move rfl (E.get 9 rfl)) rfl hM, fun h => by rw [w_yes (g := 5) (s := 102) (b := true) E rfl rfl (by decide) (D 5 _ rfl rfl)] at h; cases h⟩
                    | 8, ho, hT0, hl, D, DL =>
                      obtain rfl := Option.some.inj ho
                      obtain rfl := Option.some.inj hT0
                      clear ho hT0
                      exact ⟨fun _ => val_wp (run_index69 (i := 0) rfl ((D 7 _ rfl rfl).trans (by rw [hpe])) rfl h0t) rfl hM, fun h => by rw [w_yes (g := 5) (s := 102) (b := true) E rfl rfl (by decide) (D 5 _ rfl rfl)] at h; cases h⟩
                    | 9, ho, hT0, hl, D, DL =>
                      obtain rfl := Option.some.inj ho
                      obtain rfl := Option.some.inj hT0
                      clear ho hT0
                      exact ⟨fun _ => val_wp (ld_ptAt rfl (D 8 _ rfl rfl) hrow hc1) rfl hM, fun h => by rw [w_yes (g := 5) (s := 102) (b := true) E rfl rfl (by decide) (D 5 _ rfl rfl)] at h; cases h⟩
                    | 10, ho, hT0, hl, D, DL =>
                      obtain rfl := Option.some.inj ho
                      obtain rfl := Option.some.inj hT0
                      clear ho hT0
                      exact ⟨fun _ => call_wp (run_call2 (enters_of Try.func39 (by kernel_rfl) rfl) rfl rfl (D 6 _ rfl rfl) (D 9 _ rfl rfl)) (rend_calls t c w5) rfl fun w9 f1 => (hM.trans f1), fun h => by rw [w_yes (g := 5) (s := 102) (b := true) E rfl rfl (by decide) (D 5 _ rfl rfl)] at h; cases h⟩
                    | 11, ho, hT0, hl, D, DL =>
                      obtain rfl := Option.some.inj ho
                      obtain rfl := Option.some.inj hT0
                      clear ho hT0
                      exact ⟨fun _ => val_wp (run_pick_t rfl (D 5 _ rfl rfl) (D 10 _ rfl rfl)) rfl hM, fun h => by rw [wanted_none rfl] at h; cases h⟩
                    | j9 + 12, ho, hT0, hl, D, DL => exact absurd hT0 (by simp)
                  · intro a w5 E V hM
                    have E := E.add (V 11 _ rfl)
                    clear V
                    have hbs := sgB.fr hbs hM id
                    have hbt := sgB.fr hbt hM id
                    have hen := PtsAt.fr hen hM id
                    have hO := own_fr hO hM (fun _ _ h => h)
                    have hBs := Nat.le_trans hBs hM.size
                    have hrow := PtsAt.fr hrow hM id
                    have hf := hf.trans hM
                    clear hM
                    refine then_n ?_
                    cases hq16 : (decide (c = t.1 ∨ c = t.2)) with
                    | false =>
                      rw [hq16] at E
                      refine wp_cond_false (E.get 0 rfl) ?_
                      refine wp_skip ?_
                      refine then_n ?_
                      refine wp_seq ?_
                      refine wp_region_lit ?_
                      refine env_put (d := 4) (v := .int .i64 2) E rfl (by decide) rfl (wanted_none rfl _) (run_assign rfl rfl) fun a E => ?_
                      refine wpList_nil ?_
                      refine then_n ?_
                      refine wp_ret ?_
                      refine then_r ?_
                      refine ret_tmp (t := 4) rfl E (E.get 0 rfl) ⟨?_, hf⟩
                      rw [kind_touch hs ht hns (hcm.symm.trans hc) (fun h => of_decide_eq_false hq16 h.2)]
                    | true =>
                      rw [hq16] at E
                      refine wp_cond_true (E.get 0 rfl) ?_
                      refine wp_seq ?_
                      refine wp_region_lit ?_
                      refine env_put (d := 4) (v := .int .i64 1) E rfl (by decide) rfl (wanted_none rfl _) (run_assign rfl rfl) fun a E => ?_
                      refine wpList_nil ?_
                      refine then_n ?_
                      refine wp_ret ?_
                      refine then_r ?_
                      refine then_r ?_
                      refine ret_tmp (t := 4) rfl E (E.get 0 rfl) ⟨?_, hf⟩
                      rw [kind_end hs ht hns (hcm.symm.trans hc) (of_decide_eq_true hq13) (of_decide_eq_true hq16)]
            | true =>
              rw [hq7] at E
              refine wp_cond_true (E.get 0 rfl) ?_
              refine wp_seq ?_
              refine wp_region_lit ?_
              refine env_put (d := 4) (v := .int .i64 5) E rfl (by decide) rfl (wanted_none rfl _) (run_assign rfl rfl) fun a E => ?_
              refine wpList_nil ?_
              refine then_n ?_
              refine wp_ret ?_
              refine then_r ?_
              refine ret_tmp (t := 4) rfl E (E.get 0 rfl) ⟨?_, hf⟩
              rw [kind_many hs ht hns (by rw [← hcm]; have := of_decide_eq_true hq7; omega)]
          | true =>
            rw [hq6] at E
            have hi4 : i < 4 := by have := of_decide_eq_true hq6; omega
            obtain ⟨e, he⟩ : ∃ e, (endsL s t)[i]? = some e := ⟨_, List.getElem?_eq_getElem (show i < 4 from hi4)⟩
            refine wp_cond_true (E.get 0 rfl) ?_
            refine wp_skip ?_
            refine then_n ?_
            refine wp_seq ?_
            refine wp_block ?_
            refine wp_seq ?_
            refine wp_region_lit ?_
            refine env_put (d := 8) (v := .bool false) E rfl (by decide) rfl (wanted_none rfl _) (run_assign rfl rfl) fun a E => ?_
            refine wpList_nil ?_
            refine then_n ?_
            refine wp_seq ?_
            refine wp_seq ?_
            refine wp_region_lit ?_
            refine env_put (d := 9) (v := .int .i64 0) E rfl (by decide) rfl (wanted_none rfl _) (run_assign rfl rfl) fun a E => ?_
            refine wpList_nil ?_
            refine then_n ?_
            refine wp_block ?_
            refine wp_loop (fun a w2 => ∃ (k : Nat) (tw : Bool), Env 143 [(9, .int .i64 (k : Int)), (8, .bool tw), (7, .int .i64 (i : Int)), (6, .slice (pc) cm.length cc), (5, .slice (some ⟨be, 0, none⟩) 4 4), (3, .pointer (some ⟨bt, 0, none⟩)), (2, .pointer (some ⟨bs, 0, none⟩))] a ∧ k ≤ cm.length ∧ Hid (tw = (cm.take k).contains e) ∧ oP w2 B (.slice pc cm.length cc) cm ∧ sgB w2 bs s ∧ sgB w2 bt t ∧ PtsAt w2 be (endsL s t) ∧ B ≤ w2.heap.size ∧ Fr (fun _ => False) w w2) (fun a _ => cm.length - (intOf (a.eval (.tmp 9))).toNat) ?_ ?_
            · exact ⟨0, false, E.of ⟨E.get 0 rfl, E.get 1 rfl, E.get 4 rfl, E.get 5 rfl, E.get 6 rfl, E.get 7 rfl, E.get 8 rfl, trivial⟩, Nat.zero_le _, rfl, hO, hbs, hbt, hen, hBs, hf⟩
            clear E
            rintro a w2 ⟨k, tw, E, hk, htw, hO, hbs, hbt, hen, hBs, hf⟩
            have hmu : cm.length - (intOf (a.eval (.tmp 9))).toNat = cm.length - k := by rw [E.get 0 rfl]; first | (simp [intOf]; done) | (simp only [intOf]; omega)
            rw [hmu]
            clear hmu
            refine wp_seq ?_
            refine wp_seq ?_
            refine wp_region_lit ?_
            refine env_put (d := 48) (v := .int .i64 (k : Int)) E rfl (by decide) rfl (wanted_none rfl _) (run_move rfl (E.get 0 rfl)) fun a E => ?_
            refine env_put (d := 49) (v := .slice (pc) cm.length cc) E rfl (by decide) rfl (wanted_none rfl _) (run_move rfl (E.get 4 rfl)) fun a E => ?_
            refine env_put (d := 50) (v := .int .i64 (cm.length : Int)) E rfl (by decide) rfl (wanted_none rfl _) (run_len69 rfl (E.get 0 rfl)) fun a E => ?_
            refine env_put (d := 51) (v := .bool (decide ((k : Int) < (cm.length : Int)))) E rfl (by decide) rfl (wanted_none rfl _) (run_ilss (E.get 2 rfl) (E.get 0 rfl) Try.underlying3 rfl) fun a E => ?_
            refine wpList_nil ?_
            refine then_n ?_
            cases hq18 : (decide ((k : Int) < (cm.length : Int))) with
            | false =>
              rw [hq18] at E
              have htc : tw = cm.contains e := by rw [htw.out, List.take_of_length_le (by have := of_decide_eq_false hq18; omega)]
              refine wp_cond_false (E.get 0 rfl) ?_
              refine wp_exit ?_
              refine then_e ?_
              refine then_e ?_
              refine blk_e ?_
              refine then_n ?_
              refine wp_seq ?_
              cases hq19 : tw with
              | false =>
                rw [hq19] at E
                cases hq20 : (decide (ronP s e)) with
                | false =>
                  refine wp_region_invg (n := 143) (base := [(51, .bool false), (50, .int .i64 (cm.length : Int)), (49, .slice (pc) cm.length cc), (48, .int .i64 (k : Int)), (9, .int .i64 (k : Int)), (8, .bool false), (7, .int .i64 (i : Int)), (6, .slice (pc) cm.length cc), (5, .slice (some ⟨be, 0, none⟩) 4 4), (3, .pointer (some ⟨bt, 0, none⟩)), (2, .pointer (some ⟨bs, 0, none⟩))]) (T := [some (66, .bool false), some (67, .bool true), some (68, .bool true), some (69, .agg (sgC s)), some (70, .slice (some ⟨be, 0, none⟩) 4 4), some (71, .int .i64 (i : Int)), some (72, .pointer (some ⟨be, (i * 2), none⟩)), some (73, .agg (ptC e)), some (74, .bool false), some (75, .bool false), some (76, .bool false), some (77, undef), some (78, undef), some (79, undef), some (80, undef), some (81, undef), some (82, undef), some (83, .bool false)]) (M := fun _ w5 => Fr (fun _ => False) w2 w5) (by kernel_rfl) (by kernel_rfl) (by kernel_rfl) (E.of ⟨E.get 0 rfl, E.get 1 rfl, E.get 2 rfl, E.get 3 rfl, E.get 4 rfl, E.get 5 rfl, E.get 6 rfl, E.get 7 rfl, E.get 8 rfl, E.get 9 rfl, E.get 10 rfl, trivial⟩) (Fr.refl _ _).drew ?_ ?_
                  · intro j9 o9 t9 ls9 a w5 ho hT0 hl E D DL hM
                    have hbs := sgB.fr hbs hM id
                    have hbt := sgB.fr hbt hM id
                    have hen := PtsAt.fr hen hM id
                    have hO := own_fr hO hM (fun _ _ h => h)
                    have hBs := Nat.le_trans hBs hM.size
                    match j9, ho, hT0, hl, D, DL with
                    | 0, ho, hT0, hl, D, DL =>
                      obtain rfl := Option.some.inj ho
                      obtain rfl := Option.some.inj hT0
                      clear ho hT0
                      exact ⟨fun _ => val_wp (run_move rfl (E.get 5 rfl)) rfl hM, fun h => by rw [wanted_none rfl] at h; cases h⟩
                    | 1, ho, hT0, hl, D, DL =>
                      obtain rfl := Option.some.inj ho
                      obtain rfl := Option.some.inj hT0
                      clear ho hT0
                      exact ⟨fun _ => val_wp (run_not rfl (D 0 _ rfl rfl)) rfl hM, fun h => by rw [wanted_none rfl] at h; cases h⟩
                    | 2, ho, hT0, hl, D, DL =>
                      obtain rfl := Option.some.inj ho
                      obtain rfl := Option.some.inj hT0
                      clear ho hT0
                      exact ⟨fun _ => val_wp (run_move rfl (D 1 _ rfl rfl)) rfl hM, fun h => by rw [wanted_none rfl] at h; cases h⟩
                    | 3, ho, hT0, hl, D, DL =>
                      obtain rfl := Option.some.inj ho
                      obtain rfl := Option.some.inj hT0
                      clear ho hT0
                      exact ⟨fun _ => val_wp (ld_sg rfl (E.get 10 rfl) hbs) rfl hM, fun h => by rw [w_yes (g := 2) (s := 68) (b := true) E rfl rfl (by decide) (D 2 _ rfl rfl)] at h; cases h⟩
                    | 4, ho, hT0, hl, D, DL =>
                      obtain rfl := Option.some.inj ho
                      obtain rfl := Option.some.inj hT0
                      clear ho hT0
                      exact ⟨fun _ => val_wp (run_move rfl (E.get 8 rfl)) rfl hM, fun h => by rw [w_yes (g := 2) (s := 68) (b := true) E rfl rfl (by decide) (D 2 _ rfl rfl)] at h; cases h⟩
                    | 5, ho, hT0, hl, D, DL =>
                      obtain rfl := Option.some.inj ho
                      obtain rfl := Option.some.inj hT0
                      clear ho hT0
                      exact ⟨fun _ => val_wp (run_move rfl (E.get 6 rfl)) rfl hM, fun h => by rw [w_yes (g := 2) (s := 68) (b := true) E rfl rfl (by decide) (D 2 _ rfl rfl)] at h; cases h⟩
                    | 6, ho, hT0, hl, D, DL =>
                      obtain rfl := Option.some.inj ho
                      obtain rfl := Option.some.inj hT0
                      clear ho hT0
                      exact ⟨fun _ => val_wp (run_index69 (i := i) rfl (D 4 _ rfl rfl) (D 5 _ rfl rfl) hi4) rfl hM, fun h => by rw [w_yes (g := 2) (s := 68) (b := true) E rfl rfl (by decide) (D 2 _ rfl rfl)] at h; cases h⟩
                    | 7, ho, hT0, hl, D, DL =>
                      obtain rfl := Option.some.inj ho
                      obtain rfl := Option.some.inj hT0
                      clear ho hT0
                      exact ⟨fun _ => val_wp (ld_ptAt rfl (D 6 _ rfl rfl) hen he) rfl hM, fun h => by rw [w_yes (g := 2) (s := 68) (b := true) E rfl rfl (by decide) (D 2 _ rfl rfl)] at h; cases h⟩
                    | 8, ho, hT0, hl, D, DL =>
                      obtain rfl := Option.some.inj ho
                      obtain rfl := Option.some.inj hT0
                      clear ho hT0
                      exact ⟨fun _ => call_wp (run_call2 (enters_of Try.func38 (by kernel_rfl) rfl) rfl rfl (D 3 _ rfl rfl) (D 7 _ rfl rfl)) (by have h := (ron_calls s e w5); rw [hq20] at h; exact h) rfl fun w9 f1 => (hM.trans f1), fun h => by rw [w_yes (g := 2) (s := 68) (b := true) E rfl rfl (by decide) (D 2 _ rfl rfl)] at h; cases h⟩
                    | 9, ho, hT0, hl, D, DL =>
                      obtain rfl := Option.some.inj ho
                      obtain rfl := Option.some.inj hT0
                      clear ho hT0
                      exact ⟨fun _ => val_wp (run_pick_t rfl (D 2 _ rfl rfl) (D 8 _ rfl rfl)) rfl hM, fun h => by rw [wanted_none rfl] at h; cases h⟩
                    | 10, ho, hT0, hl, D, DL =>
                      obtain rfl := Option.some.inj ho
                      obtain rfl := Option.some.inj hT0
                      clear ho hT0
                      exact ⟨fun _ => val_wp (run_move rfl (D 9 _ rfl rfl)) rfl hM, fun h => by rw [wanted_none rfl] at h; cases h⟩
                    | 11, ho, hT0, hl, D, DL =>
                      obtain rfl := Option.some.inj ho
                      obtain rfl := Option.some.inj hT0
                      clear ho hT0
                      exact ⟨fun h => (by rw [w_no (g := 10) (s := 76) (b := true) E rfl rfl (by decide) (D 10 _ rfl rfl)] at h; cases h), fun _ => ⟨fun x hx => by cases hx; rfl, hM⟩⟩
                    | 12, ho, hT0, hl, D, DL =>
                      obtain rfl := Option.some.inj ho
                      obtain rfl := Option.some.inj hT0
                      clear ho hT0
                      exact ⟨fun h => (by rw [w_no (g := 10) (s := 76) (b := true) E rfl rfl (by decide) (D 10 _ rfl rfl)] at h; cases h), fun _ => ⟨fun x hx => by cases hx; rfl, hM⟩⟩
                    | 13, ho, hT0, hl, D, DL =>
                      obtain rfl := Option.some.inj ho
                      obtain rfl := Option.some.inj hT0
                      clear ho hT0
                      exact ⟨fun h => (by rw [w_no (g := 10) (s := 76) (b := true) E rfl rfl (by decide) (D 10 _ rfl rfl)] at h; cases h), fun _ => ⟨fun x hx => by cases hx; rfl, hM⟩⟩
                    | 14, ho, hT0, hl, D, DL =>
                      obtain rfl := Option.some.inj ho
                      obtain rfl := Option.some.inj hT0
                      clear ho hT0
                      exact ⟨fun h => (by rw [w_no (g := 10) (s := 76) (b := true) E rfl rfl (by decide) (D 10 _ rfl rfl)] at h; cases h), fun _ => ⟨fun x hx => by cases hx; rfl, hM⟩⟩
                    | 15, ho, hT0, hl, D, DL =>
                      obtain rfl := Option.some.inj ho
                      obtain rfl := Option.some.inj hT0
                      clear ho hT0
                      exact ⟨fun h => (by rw [w_no (g := 10) (s := 76) (b := true) E rfl rfl (by decide) (D 10 _ rfl rfl)] at h; cases h), fun _ => ⟨fun x hx => by cases hx; rfl, hM⟩⟩
                    | 16, ho, hT0, hl, D, DL =>
                      obtain rfl := Option.some.inj ho
                      obtain rfl := Option.some.inj hT0
                      clear ho hT0
                      exact ⟨fun h => (by rw [w_no (g := 10) (s := 76) (b := true) E rfl rfl (by decide) (D 10 _ rfl rfl)] at h; cases h), fun _ => ⟨fun x hx => by cases hx; rfl, hM⟩⟩
                    | 17, ho, hT0, hl, D, DL =>
                      obtain rfl := Option.some.inj ho
                      obtain rfl := Option.some.inj hT0
                      clear ho hT0
                      exact ⟨fun _ => val_wp (run_pick_f rfl (D 10 _ rfl rfl) rfl) rfl hM, fun h => by rw [wanted_none rfl] at h; cases h⟩
                    | j9 + 18, ho, hT0, hl, D, DL => exact absurd hT0 (by simp)
                  · intro a w5 E V hM
                    have E := E.add (V 17 _ rfl)
                    clear V
                    have hbs := sgB.fr hbs hM id
                    have hbt := sgB.fr hbt hM id
                    have hen := PtsAt.fr hen hM id
                    have hO := own_fr hO hM (fun _ _ h => h)
                    have hBs := Nat.le_trans hBs hM.size
                    have hf := hf.trans hM
                    clear hM
                    refine then_n ?_
                    refine wp_cond_false (E.get 0 rfl) ?_
                    refine wp_skip ?_
                    refine blk_n ?_
                    refine then_n ?_
                    refine wp_region_lit ?_
                    refine env_put (d := 46) (v := .int .i64 (i : Int)) E rfl (by decide) rfl (wanted_none rfl _) (run_move rfl (E.get 7 rfl)) fun a E => ?_
                    refine env_put (d := 47) (v := .int .i64 ((i : Int) + 1)) E rfl (by decide) rfl (wanted_none rfl _) (run_iadd (E.get 0 rfl) rfl (by omega) (by omega) rfl) fun a E => ?_
                    refine env_set (d := 7) (v := .int .i64 ((i : Int) + 1)) E rfl (by decide) (wanted_none rfl _) (run_assign rfl (E.get 0 rfl)) fun a E => ?_
                    refine wpList_nil ?_
                    refine then_n ?_
                    refine ⟨⟨i + 1, cm, .slice (pc) cm.length cc, E.of ⟨E.get 0 rfl, E.get 10 rfl, E.get 11 rfl, E.get 12 rfl, E.get 13 rfl, trivial⟩, hi4, ?_, hO, hbs, hbt, hen, hBs, hf⟩, ?_⟩
                    · exact com_skip he hcm.out (.inr (by unfold fC; rw [hq20]; rfl))
                    · rw [E.get 0 rfl]; simp only [intOf]; omega
                | true =>
                  refine wp_region_invg (n := 143) (base := [(51, .bool false), (50, .int .i64 (cm.length : Int)), (49, .slice (pc) cm.length cc), (48, .int .i64 (k : Int)), (9, .int .i64 (k : Int)), (8, .bool false), (7, .int .i64 (i : Int)), (6, .slice (pc) cm.length cc), (5, .slice (some ⟨be, 0, none⟩) 4 4), (3, .pointer (some ⟨bt, 0, none⟩)), (2, .pointer (some ⟨bs, 0, none⟩))]) (T := [some (66, .bool false), some (67, .bool true), some (68, .bool true), some (69, .agg (sgC s)), some (70, .slice (some ⟨be, 0, none⟩) 4 4), some (71, .int .i64 (i : Int)), some (72, .pointer (some ⟨be, (i * 2), none⟩)), some (73, .agg (ptC e)), some (74, .bool true), some (75, .bool true), some (76, .bool true), some (77, .agg (sgC t)), some (78, .slice (some ⟨be, 0, none⟩) 4 4), some (79, .int .i64 (i : Int)), some (80, .pointer (some ⟨be, (i * 2), none⟩)), some (81, .agg (ptC e)), some (82, .bool (decide (ronP t e))), some (83, .bool (decide (ronP t e)))]) (M := fun _ w5 => Fr (fun _ => False) w2 w5) (by kernel_rfl) (by kernel_rfl) (by kernel_rfl) (E.of ⟨E.get 0 rfl, E.get 1 rfl, E.get 2 rfl, E.get 3 rfl, E.get 4 rfl, E.get 5 rfl, E.get 6 rfl, E.get 7 rfl, E.get 8 rfl, E.get 9 rfl, E.get 10 rfl, trivial⟩) (Fr.refl _ _).drew ?_ ?_
                  · intro j9 o9 t9 ls9 a w5 ho hT0 hl E D DL hM
                    have hbs := sgB.fr hbs hM id
                    have hbt := sgB.fr hbt hM id
                    have hen := PtsAt.fr hen hM id
                    have hO := own_fr hO hM (fun _ _ h => h)
                    have hBs := Nat.le_trans hBs hM.size
                    match j9, ho, hT0, hl, D, DL with
                    | 0, ho, hT0, hl, D, DL =>
                      obtain rfl := Option.some.inj ho
                      obtain rfl := Option.some.inj hT0
                      clear ho hT0
                      exact ⟨fun _ => val_wp (run_move rfl (E.get 5 rfl)) rfl hM, fun h => by rw [wanted_none rfl] at h; cases h⟩
                    | 1, ho, hT0, hl, D, DL =>
                      obtain rfl := Option.some.inj ho
                      obtain rfl := Option.some.inj hT0
                      clear ho hT0
                      exact ⟨fun _ => val_wp (run_not rfl (D 0 _ rfl rfl)) rfl hM, fun h => by rw [wanted_none rfl] at h; cases h⟩
                    | 2, ho, hT0, hl, D, DL =>
                      obtain rfl := Option.some.inj ho
                      obtain rfl := Option.some.inj hT0
                      clear ho hT0
                      exact ⟨fun _ => val_wp (run_move rfl (D 1 _ rfl rfl)) rfl hM, fun h => by rw [wanted_none rfl] at h; cases h⟩
                    | 3, ho, hT0, hl, D, DL =>
                      obtain rfl := Option.some.inj ho
                      obtain rfl := Option.some.inj hT0
                      clear ho hT0
                      exact ⟨fun _ => val_wp (ld_sg rfl (E.get 10 rfl) hbs) rfl hM, fun h => by rw [w_yes (g := 2) (s := 68) (b := true) E rfl rfl (by decide) (D 2 _ rfl rfl)] at h; cases h⟩
                    | 4, ho, hT0, hl, D, DL =>
                      obtain rfl := Option.some.inj ho
                      obtain rfl := Option.some.inj hT0
                      clear ho hT0
                      exact ⟨fun _ => val_wp (run_move rfl (E.get 8 rfl)) rfl hM, fun h => by rw [w_yes (g := 2) (s := 68) (b := true) E rfl rfl (by decide) (D 2 _ rfl rfl)] at h; cases h⟩
                    | 5, ho, hT0, hl, D, DL =>
                      obtain rfl := Option.some.inj ho
                      obtain rfl := Option.some.inj hT0
                      clear ho hT0
                      exact ⟨fun _ => val_wp (run_move rfl (E.get 6 rfl)) rfl hM, fun h => by rw [w_yes (g := 2) (s := 68) (b := true) E rfl rfl (by decide) (D 2 _ rfl rfl)] at h; cases h⟩
                    | 6, ho, hT0, hl, D, DL =>
                      obtain rfl := Option.some.inj ho
                      obtain rfl := Option.some.inj hT0
                      clear ho hT0
                      exact ⟨fun _ => val_wp (run_index69 (i := i) rfl (D 4 _ rfl rfl) (D 5 _ rfl rfl) hi4) rfl hM, fun h => by rw [w_yes (g := 2) (s := 68) (b := true) E rfl rfl (by decide) (D 2 _ rfl rfl)] at h; cases h⟩
                    | 7, ho, hT0, hl, D, DL =>
                      obtain rfl := Option.some.inj ho
                      obtain rfl := Option.some.inj hT0
                      clear ho hT0
                      exact ⟨fun _ => val_wp (ld_ptAt rfl (D 6 _ rfl rfl) hen he) rfl hM, fun h => by rw [w_yes (g := 2) (s := 68) (b := true) E rfl rfl (by decide) (D 2 _ rfl rfl)] at h; cases h⟩
                    | 8, ho, hT0, hl, D, DL =>
                      obtain rfl := Option.some.inj ho
                      obtain rfl := Option.some.inj hT0
                      clear ho hT0
                      exact ⟨fun _ => call_wp (run_call2 (enters_of Try.func38 (by kernel_rfl) rfl) rfl rfl (D 3 _ rfl rfl) (D 7 _ rfl rfl)) (by have h := (ron_calls s e w5); rw [hq20] at h; exact h) rfl fun w9 f1 => (hM.trans f1), fun h => by rw [w_yes (g := 2) (s := 68) (b := true) E rfl rfl (by decide) (D 2 _ rfl rfl)] at h; cases h⟩
                    | 9, ho, hT0, hl, D, DL =>
                      obtain rfl := Option.some.inj ho
                      obtain rfl := Option.some.inj hT0
                      clear ho hT0
                      exact ⟨fun _ => val_wp (run_pick_t rfl (D 2 _ rfl rfl) (D 8 _ rfl rfl)) rfl hM, fun h => by rw [wanted_none rfl] at h; cases h⟩
                    | 10, ho, hT0, hl, D, DL =>
                      obtain rfl := Option.some.inj ho
                      obtain rfl := Option.some.inj hT0
                      clear ho hT0
                      exact ⟨fun _ => val_wp (run_move rfl (D 9 _ rfl rfl)) rfl hM, fun h => by rw [wanted_none rfl] at h; cases h⟩
                    | 11, ho, hT0, hl, D, DL =>
                      obtain rfl := Option.some.inj ho
                      obtain rfl := Option.some.inj hT0
                      clear ho hT0
                      exact ⟨fun _ => val_wp (ld_sg rfl (E.get 9 rfl) hbt) rfl hM, fun h => by rw [w_yes (g := 10) (s := 76) (b := true) E rfl rfl (by decide) (D 10 _ rfl rfl)] at h; cases h⟩
                    | 12, ho, hT0, hl, D, DL =>
                      obtain rfl := Option.some.inj ho
                      obtain rfl := Option.some.inj hT0
                      clear ho hT0
                      exact ⟨fun _ => val_wp (run_move rfl (E.get 8 rfl)) rfl hM, fun h => by rw [w_yes (g := 10) (s := 76) (b := true) E rfl rfl (by decide) (D 10 _ rfl rfl)] at h; cases h⟩
                    | 13, ho, hT0, hl, D, DL =>
                      obtain rfl := Option.some.inj ho
                      obtain rfl := Option.some.inj hT0
                      clear ho hT0
                      exact ⟨fun _ => val_wp (run_move rfl (E.get 6 rfl)) rfl hM, fun h => by rw [w_yes (g := 10) (s := 76) (b := true) E rfl rfl (by decide) (D 10 _ rfl rfl)] at h; cases h⟩
                    | 14, ho, hT0, hl, D, DL =>
                      obtain rfl := Option.some.inj ho
                      obtain rfl := Option.some.inj hT0
                      clear ho hT0
                      exact ⟨fun _ => val_wp (run_index69 (i := i) rfl (D 12 _ rfl rfl) (D 13 _ rfl rfl) hi4) rfl hM, fun h => by rw [w_yes (g := 10) (s := 76) (b := true) E rfl rfl (by decide) (D 10 _ rfl rfl)] at h; cases h⟩
                    | 15, ho, hT0, hl, D, DL =>
                      obtain rfl := Option.some.inj ho
                      obtain rfl := Option.some.inj hT0
                      clear ho hT0
                      exact ⟨fun _ => val_wp (ld_ptAt rfl (D 14 _ rfl rfl) hen he) rfl hM, fun h => by rw [w_yes (g := 10) (s := 76) (b := true) E rfl rfl (by decide) (D 10 _ rfl rfl)] at h; cases h⟩
                    | 16, ho, hT0, hl, D, DL =>
                      obtain rfl := Option.some.inj ho
                      obtain rfl := Option.some.inj hT0
                      clear ho hT0
                      exact ⟨fun _ => call_wp (run_call2 (enters_of Try.func38 (by kernel_rfl) rfl) rfl rfl (D 11 _ rfl rfl) (D 15 _ rfl rfl)) (ron_calls t e w5) rfl fun w9 f1 => (hM.trans f1), fun h => by rw [w_yes (g := 10) (s := 76) (b := true) E rfl rfl (by decide) (D 10 _ rfl rfl)] at h; cases h⟩
                    | 17, ho, hT0, hl, D, DL =>
                      obtain rfl := Option.some.inj ho
                      obtain rfl := Option.some.inj hT0
                      clear ho hT0
                      exact ⟨fun _ => val_wp (run_pick_t rfl (D 10 _ rfl rfl) (D 16 _ rfl rfl)) rfl hM, fun h => by rw [wanted_none rfl] at h; cases h⟩
                    | j9 + 18, ho, hT0, hl, D, DL => exact absurd hT0 (by simp)
                  · intro a w5 E V hM
                    have E := E.add (V 17 _ rfl)
                    clear V
                    have hbs := sgB.fr hbs hM id
                    have hbt := sgB.fr hbt hM id
                    have hen := PtsAt.fr hen hM id
                    have hO := own_fr hO hM (fun _ _ h => h)
                    have hBs := Nat.le_trans hBs hM.size
                    have hf := hf.trans hM
                    clear hM
                    refine then_n ?_
                    cases hq23 : (decide (ronP t e)) with
                    | false =>
                      rw [hq23] at E
                      refine wp_cond_false (E.get 0 rfl) ?_
                      refine wp_skip ?_
                      refine blk_n ?_
                      refine then_n ?_
                      refine wp_region_lit ?_
                      refine env_put (d := 46) (v := .int .i64 (i : Int)) E rfl (by decide) rfl (wanted_none rfl _) (run_move rfl (E.get 7 rfl)) fun a E => ?_
                      refine env_put (d := 47) (v := .int .i64 ((i : Int) + 1)) E rfl (by decide) rfl (wanted_none rfl _) (run_iadd (E.get 0 rfl) rfl (by omega) (by omega) rfl) fun a E => ?_
                      refine env_set (d := 7) (v := .int .i64 ((i : Int) + 1)) E rfl (by decide) (wanted_none rfl _) (run_assign rfl (E.get 0 rfl)) fun a E => ?_
                      refine wpList_nil ?_
                      refine then_n ?_
                      refine ⟨⟨i + 1, cm, .slice (pc) cm.length cc, E.of ⟨E.get 0 rfl, E.get 10 rfl, E.get 11 rfl, E.get 12 rfl, E.get 13 rfl, trivial⟩, hi4, ?_, hO, hbs, hbt, hen, hBs, hf⟩, ?_⟩
                      · exact com_skip he hcm.out (.inr (by unfold fC; rw [hq23, Bool.and_false]))
                      · rw [E.get 0 rfl]; simp only [intOf]; omega
                    | true =>
                      rw [hq23] at E
                      refine wp_cond_true (E.get 0 rfl) ?_
                      refine wp_region_lit ?_
                      refine env_put (d := 84) (v := .slice (pc) cm.length cc) E rfl (by decide) rfl (wanted_none rfl _) (run_move rfl (E.get 8 rfl)) fun a E => ?_
                      refine env_put (d := 85) (v := .slice (some ⟨be, 0, none⟩) 4 4) E rfl (by decide) rfl (wanted_none rfl _) (run_move rfl (E.get 10 rfl)) fun a E => ?_
                      refine env_put (d := 86) (v := .int .i64 (i : Int)) E rfl (by decide) rfl (wanted_none rfl _) (run_move rfl (E.get 9 rfl)) fun a E => ?_
                      refine env_put (d := 87) (v := .pointer (some ⟨be, (i * 2), none⟩)) E rfl (by decide) rfl (wanted_none rfl _) (run_index69 (i := i) rfl (E.get 1 rfl) (E.get 0 rfl) hi4) fun a E => ?_
                      refine env_put (d := 88) (v := .agg (ptC e)) E rfl (by decide) rfl (wanted_none rfl _) (ld_ptAt rfl (E.get 0 rfl) hen he) fun a E => ?_
                      refine env_one32 (d := 89) E rfl (by decide) rfl (wanted_none rfl _) rfl (E.get 0 rfl) fun a w1 b1 _ hb1 f1 E => ?_
                      have hbs := sgB.fr hbs f1 id
                      have hbt := sgB.fr hbt f1 id
                      have hen := PtsAt.fr hen f1 id
                      have hO := own_fr hO f1 (fun _ _ h => h)
                      have hBs := Nat.le_trans hBs f1.size
                      have hf := hf.trans f1
                      clear f1
                      refine env_app32 (d := 90) E rfl (by decide) rfl rfl rfl (E.get 5 rfl) hO (E.get 0 rfl) hb1 (by omega) hBs fun a w1 ov hO2 f1 hloc E => ?_
                      have hbs := sgB.fr hbs f1 (fun h => by have := (own_lt hO h).1; omega)
                      have hbt := sgB.fr hbt f1 (fun h => by have := (own_lt hO h).1; omega)
                      have hen := PtsAt.fr hen f1 (fun h => by have := (own_lt hO h).1; omega)
                      have hBs := Nat.le_trans hBs f1.size
                      have hf := hf.trans' f1 fun r hr h => by have := (own_lt hO h).1; omega
                      clear f1
                      replace hO := hO2
                      clear hloc
                      refine env_set (d := 6) (v := ov) E rfl (by decide) (wanted_none rfl _) (run_assign rfl (E.get 0 rfl)) fun a E => ?_
                      refine wpList_nil ?_
                      refine blk_n ?_
                      refine then_n ?_
                      refine wp_region_lit ?_
                      refine env_put (d := 46) (v := .int .i64 (i : Int)) E rfl (by decide) rfl (wanted_none rfl _) (run_move rfl (E.get 15 rfl)) fun a E => ?_
                      refine env_put (d := 47) (v := .int .i64 ((i : Int) + 1)) E rfl (by decide) rfl (wanted_none rfl _) (run_iadd (E.get 0 rfl) rfl (by omega) (by omega) rfl) fun a E => ?_
                      refine env_set (d := 7) (v := .int .i64 ((i : Int) + 1)) E rfl (by decide) (wanted_none rfl _) (run_assign rfl (E.get 0 rfl)) fun a E => ?_
                      refine wpList_nil ?_
                      refine then_n ?_
                      refine ⟨⟨i + 1, (cm ++ [e]), ov, E.of ⟨E.get 0 rfl, E.get 3 rfl, E.get 18 rfl, E.get 19 rfl, E.get 20 rfl, trivial⟩, hi4, ?_, hO, hbs, hbt, hen, hBs, hf⟩, ?_⟩
                      · exact com_add he hcm.out (by rw [← htc, hq19]) (by unfold fC; rw [hq20, hq23]; rfl)
                      · rw [E.get 0 rfl]; simp only [intOf]; omega
              | true =>
                rw [hq19] at E
                refine wp_region_invg (n := 143) (base := [(51, .bool false), (50, .int .i64 (cm.length : Int)), (49, .slice (pc) cm.length cc), (48, .int .i64 (k : Int)), (9, .int .i64 (k : Int)), (8, .bool true), (7, .int .i64 (i : Int)), (6, .slice (pc) cm.length cc), (5, .slice (some ⟨be, 0, none⟩) 4 4), (3, .pointer (some ⟨bt, 0, none⟩)), (2, .pointer (some ⟨bs, 0, none⟩))]) (T := [some (66, .bool true), some (67, .bool false), some (68, .bool false), some (69, undef), some (70, undef), some (71, undef), some (72, undef), some (73, undef), some (74, undef), some (75, .bool false), some (76, .bool false), some (77, undef), some (78, undef), some (79, undef), some (80, undef), some (81, undef), some (82, undef), some (83, .bool false)]) (M := fun _ w5 => Fr (fun _ => False) w2 w5) (by kernel_rfl) (by kernel_rfl) (by kernel_rfl) (E.of ⟨E.get 0 rfl, E.get 1 rfl, E.get 2 rfl, E.get 3 rfl, E.get 4 rfl, E.get 5 rfl, E.get 6 rfl, E.get 7 rfl, E.get 8 rfl, E.get 9 rfl, E.get 10 rfl, trivial⟩) (Fr.refl _ _).drew ?_ ?_
                · intro j9 o9 t9 ls9 a w5 ho hT0 hl E D DL hM
                  have hbs := sgB.fr hbs hM id
                  have hbt := sgB.fr hbt hM id
                  have hen := PtsAt.fr hen hM id
                  have hO := own_fr hO hM (fun _ _ h => h)
                  have hBs := Nat.le_trans hBs hM.size
                  match j9, ho, hT0, hl, D, DL with
                  | 0, ho, hT0, hl, D, DL =>
                    obtain rfl := Option.some.inj ho
                    obtain rfl := Option.some.inj hT0
                    clear ho hT0
                    exact ⟨fun _ => val_wp (run_move rfl (E.get 5 rfl)) rfl hM, fun h => by rw [wanted_none rfl] at h; cases h⟩
                  | 1, ho, hT0, hl, D, DL =>
                    obtain rfl := Option.some.inj ho
                    obtain rfl := Option.some.inj hT0
                    clear ho hT0
                    exact ⟨fun _ => val_wp (run_not rfl (D 0 _ rfl rfl)) rfl hM, fun h => by rw [wanted_none rfl] at h; cases h⟩
                  | 2, ho, hT0, hl, D, DL =>
                    obtain rfl := Option.some.inj ho
                    obtain rfl := Option.some.inj hT0
                    clear ho hT0
                    exact ⟨fun _ => val_wp (run_move rfl (D 1 _ rfl rfl)) rfl hM, fun h => by rw [wanted_none rfl] at h; cases h⟩
                  | 3, ho, hT0, hl, D, DL =>
                    obtain rfl := Option.some.inj ho
                    obtain rfl := Option.some.inj hT0
                    clear ho hT0
                    exact ⟨fun h => (by rw [w_no (g := 2) (s := 68) (b := true) E rfl rfl (by decide) (D 2 _ rfl rfl)] at h; cases h), fun _ => ⟨fun x hx => by cases hx; rfl, hM⟩⟩
                  | 4, ho, hT0, hl, D, DL =>
                    obtain rfl := Option.some.inj ho
                    obtain rfl := Option.some.inj hT0
                    clear ho hT0
                    exact ⟨fun h => (by rw [w_no (g := 2) (s := 68) (b := true) E rfl rfl (by decide) (D 2 _ rfl rfl)] at h; cases h), fun _ => ⟨fun x hx => by cases hx; rfl, hM⟩⟩
                  | 5, ho, hT0, hl, D, DL =>
                    obtain rfl := Option.some.inj ho
                    obtain rfl := Option.some.inj hT0
                    clear ho hT0
                    exact ⟨fun h => (by rw [w_no (g := 2) (s := 68) (b := true) E rfl rfl (by decide) (D 2 _ rfl rfl)] at h; cases h), fun _ => ⟨fun x hx => by cases hx; rfl, hM⟩⟩
                  | 6, ho, hT0, hl, D, DL =>
                    obtain rfl := Option.some.inj ho
                    obtain rfl := Option.some.inj hT0
                    clear ho hT0
                    exact ⟨fun h => (by rw [w_no (g := 2) (s := 68) (b := true) E rfl rfl (by decide) (D 2 _ rfl rfl)] at h; cases h), fun _ => ⟨fun x hx => by cases hx; rfl, hM⟩⟩
                  | 7, ho, hT0, hl, D, DL =>
                    obtain rfl := Option.some.inj ho
                    obtain rfl := Option.some.inj hT0
                    clear ho hT0
                    exact ⟨fun h => (by rw [w_no (g := 2) (s := 68) (b := true) E rfl rfl (by decide) (D 2 _ rfl rfl)] at h; cases h), fun _ => ⟨fun x hx => by cases hx; rfl, hM⟩⟩
                  | 8, ho, hT0, hl, D, DL =>
                    obtain rfl := Option.some.inj ho
                    obtain rfl := Option.some.inj hT0
                    clear ho hT0
                    exact ⟨fun h => (by rw [w_no (g := 2) (s := 68) (b := true) E rfl rfl (by decide) (D 2 _ rfl rfl)] at h; cases h), fun _ => ⟨fun x hx => by cases hx; rfl, hM⟩⟩
                  | 9, ho, hT0, hl, D, DL =>
                    obtain rfl := Option.some.inj ho
                    obtain rfl := Option.some.inj hT0
                    clear ho hT0
                    exact ⟨fun _ => val_wp (run_pick_f rfl (D 2 _ rfl rfl) rfl) rfl hM, fun h => by rw [wanted_none rfl] at h; cases h⟩
                  | 10, ho, hT0, hl, D, DL =>
                    obtain rfl := Option.some.inj ho
                    obtain rfl := Option.some.inj hT0
                    clear ho hT0
                    exact ⟨fun _ => val_wp (run_move rfl (D 9 _ rfl rfl)) rfl hM, fun h => by rw [wanted_none rfl] at h; cases h⟩
                  | 11, ho, hT0, hl, D, DL =>
                    obtain rfl := Option.some.inj ho
                    obtain rfl := Option.some.inj hT0
                    clear ho hT0
                    exact ⟨fun h => (by rw [w_no (g := 10) (s := 76) (b := true) E rfl rfl (by decide) (D 10 _ rfl rfl)] at h; cases h), fun _ => ⟨fun x hx => by cases hx; rfl, hM⟩⟩
                  | 12, ho, hT0, hl, D, DL =>
                    obtain rfl := Option.some.inj ho
                    obtain rfl := Option.some.inj hT0
                    clear ho hT0
                    exact ⟨fun h => (by rw [w_no (g := 10) (s := 76) (b := true) E rfl rfl (by decide) (D 10 _ rfl rfl)] at h; cases h), fun _ => ⟨fun x hx => by cases hx; rfl, hM⟩⟩
                  | 13, ho, hT0, hl, D, DL =>
                    obtain rfl := Option.some.inj ho
                    obtain rfl := Option.some.inj hT0
                    clear ho hT0
                    exact ⟨fun h => (by rw [w_no (g := 10) (s := 76) (b := true) E rfl rfl (by decide) (D 10 _ rfl rfl)] at h; cases h), fun _ => ⟨fun x hx => by cases hx; rfl, hM⟩⟩
                  | 14, ho, hT0, hl, D, DL =>
                    obtain rfl := Option.some.inj ho
                    obtain rfl := Option.some.inj hT0
                    clear ho hT0
                    exact ⟨fun h => (by rw [w_no (g := 10) (s := 76) (b := true) E rfl rfl (by decide) (D 10 _ rfl rfl)] at h; cases h), fun _ => ⟨fun x hx => by cases hx; rfl, hM⟩⟩
                  | 15, ho, hT0, hl, D, DL =>
                    obtain rfl := Option.some.inj ho
                    obtain rfl := Option.some.inj hT0
                    clear ho hT0
                    exact ⟨fun h => (by rw [w_no (g := 10) (s := 76) (b := true) E rfl rfl (by decide) (D 10 _ rfl rfl)] at h; cases h), fun _ => ⟨fun x hx => by cases hx; rfl, hM⟩⟩
                  | 16, ho, hT0, hl, D, DL =>
                    obtain rfl := Option.some.inj ho
                    obtain rfl := Option.some.inj hT0
                    clear ho hT0
                    exact ⟨fun h => (by rw [w_no (g := 10) (s := 76) (b := true) E rfl rfl (by decide) (D 10 _ rfl rfl)] at h; cases h), fun _ => ⟨fun x hx => by cases hx; rfl, hM⟩⟩
                  | 17, ho, hT0, hl, D, DL =>
                    obtain rfl := Option.some.inj ho
                    obtain rfl := Option.some.inj hT0
                    clear ho hT0
                    exact ⟨fun _ => val_wp (run_pick_f rfl (D 10 _ rfl rfl) rfl) rfl hM, fun h => by rw [wanted_none rfl] at h; cases h⟩
                  | j9 + 18, ho, hT0, hl, D, DL => exact absurd hT0 (by simp)
                · intro a w5 E V hM
                  have E := E.add (V 17 _ rfl)
                  clear V
                  have hbs := sgB.fr hbs hM id
                  have hbt := sgB.fr hbt hM id
                  have hen := PtsAt.fr hen hM id
                  have hO := own_fr hO hM (fun _ _ h => h)
                  have hBs := Nat.le_trans hBs hM.size
                  have hf := hf.trans hM
                  clear hM
                  refine then_n ?_
                  refine wp_cond_false (E.get 0 rfl) ?_
                  refine wp_skip ?_
                  refine blk_n ?_
                  refine then_n ?_
                  refine wp_region_lit ?_
                  refine env_put (d := 46) (v := .int .i64 (i : Int)) E rfl (by decide) rfl (wanted_none rfl _) (run_move rfl (E.get 7 rfl)) fun a E => ?_
                  refine env_put (d := 47) (v := .int .i64 ((i : Int) + 1)) E rfl (by decide) rfl (wanted_none rfl _) (run_iadd (E.get 0 rfl) rfl (by omega) (by omega) rfl) fun a E => ?_
                  refine env_set (d := 7) (v := .int .i64 ((i : Int) + 1)) E rfl (by decide) (wanted_none rfl _) (run_assign rfl (E.get 0 rfl)) fun a E => ?_
                  refine wpList_nil ?_
                  refine then_n ?_
                  refine ⟨⟨i + 1, cm, .slice (pc) cm.length cc, E.of ⟨E.get 0 rfl, E.get 10 rfl, E.get 11 rfl, E.get 12 rfl, E.get 13 rfl, trivial⟩, hi4, ?_, hO, hbs, hbt, hen, hBs, hf⟩, ?_⟩
                  · exact com_skip he hcm.out (.inl (by rw [← htc, hq19]))
                  · rw [E.get 0 rfl]; simp only [intOf]; omega
            | true =>
              rw [hq18] at E
              have hkt : k < cm.length := by have := of_decide_eq_true hq18; omega
              obtain ⟨c, hc⟩ : ∃ c, cm[k]? = some c := ⟨_, List.getElem?_eq_getElem hkt⟩
              obtain ⟨gc, hpe, _, hrow⟩ := hO.at hkt
              refine wp_cond_true (E.get 0 rfl) ?_
              refine wp_skip ?_
              refine then_n ?_
              refine wp_seq ?_
              refine wp_block ?_
              cases hq25 : tw with
              | false =>
                rw [hq25] at E
                refine wp_region_invx (G := Unit) () (n := 143) (base := [(51, .bool true), (50, .int .i64 (cm.length : Int)), (49, .slice (pc) cm.length cc), (48, .int .i64 (k : Int)), (9, .int .i64 (k : Int)), (7, .int .i64 (i : Int)), (6, .slice (pc) cm.length cc), (5, .slice (some ⟨be, 0, none⟩) 4 4), (3, .pointer (some ⟨bt, 0, none⟩)), (2, .pointer (some ⟨bs, 0, none⟩))]) (U := [(8, .bool false, 12)]) (T := fun γ => [some (54, .bool false), some (55, .bool false), some (56, .slice (pc) cm.length cc), some (57, .int .i64 (k : Int)), some (58, .pointer (some ⟨gc, (k * 2), none⟩)), some (59, .agg (ptC c)), some (60, .slice (some ⟨be, 0, none⟩) 4 4), some (61, .int .i64 (i : Int)), some (62, .pointer (some ⟨be, (i * 2), none⟩)), some (63, .agg (ptC e)), some (64, .bool (decide (c = e))), some (65, .bool (decide (c = e))), some (8, .bool (decide (c = e)))]) (M := fun γ ls9 w5 => Fr (fun _ => False) w2 w5) (by kernel_rfl) (by kernel_rfl) (fun _ => by kernel_rfl) (E.of ⟨E.get 0 rfl, E.get 1 rfl, E.get 2 rfl, E.get 3 rfl, E.get 4 rfl, E.get 6 rfl, E.get 7 rfl, E.get 8 rfl, E.get 9 rfl, E.get 10 rfl, trivial⟩) (fun x hx => by simp only [List.mem_cons, List.not_mem_nil, or_false] at hx; subst hx; exact E.get 5 rfl) (Fr.refl _ _).drew ?_ ?_
                · intro j9 o9 γ ls9 a w5 ho hl E D DL DL2 hB hM
                  have hbs := sgB.fr hbs hM id
                  have hbt := sgB.fr hbt hM id
                  have hen := PtsAt.fr hen hM id
                  have hO := own_fr hO hM (fun _ _ h => h)
                  have hBs := Nat.le_trans hBs hM.size
                  have hrow := PtsAt.fr hrow hM id
                  match j9, ho, hl, D, DL, hB with
                  | 0, ho, hl, D, DL, hB =>
                    obtain rfl := Option.some.inj ho
                    clear ho
                    exact ⟨fun _ => valx rfl (run_move rfl (hB (8, .bool false, 12) (by simp) rfl)) rfl hM, fun h => by rw [wanted_none rfl] at h; cases h⟩
                  | 1, ho, hl, D, DL, hB =>
                    obtain rfl := Option.some.inj ho
                    clear ho
                    exact ⟨fun _ => valx rfl (run_move rfl (D 0 _ rfl rfl)) rfl hM, fun h => by rw [wanted_none rfl] at h; cases h⟩
                  | 2, ho, hl, D, DL, hB =>
                    obtain rfl := Option.some.inj ho
                    clear ho
                    exact ⟨fun _ => valx rfl (run_move rfl (E.get 6 rfl)) rfl hM, fun h => by rw [w_yes (g := 1) (s := 55) (b := false) E rfl rfl (by decide) (D 1 _ rfl rfl)] at h; cases h⟩
                  | 3, ho, hl, D, DL, hB =>
                    obtain rfl := Option.some.inj ho
                    clear ho
                    exact ⟨fun _ => valx rfl (run_move rfl (E.get 4 rfl)) rfl hM, fun h => by rw [w_yes (g := 1) (s := 55) (b := false) E rfl rfl (by decide) (D 1 _ rfl rfl)] at h; cases h⟩
                  | 4, ho, hl, D, DL, hB =>
                    obtain rfl := Option.some.inj ho
                    clear ho
                    exact ⟨fun _ => valx rfl (run_index69 (i := k) rfl ((D 2 _ rfl rfl).trans (by rw [hpe])) (D 3 _ rfl rfl) hkt) rfl hM, fun h => by rw [w_yes (g := 1) (s := 55) (b := false) E rfl rfl (by decide) (D 1 _ rfl rfl)] at h; cases h⟩
                  | 5, ho, hl, D, DL, hB =>
                    obtain rfl := Option.some.inj ho
                    clear ho
                    exact ⟨fun _ => valx rfl (ld_ptAt rfl (D 4 _ rfl rfl) hrow hc) rfl hM, fun h => by rw [w_yes (g := 1) (s := 55) (b := false) E rfl rfl (by decide) (D 1 _ rfl rfl)] at h; cases h⟩
                  | 6, ho, hl, D, DL, hB =>
                    obtain rfl := Option.some.inj ho
                    clear ho
                    exact ⟨fun _ => valx rfl (run_move rfl (E.get 7 rfl)) rfl hM, fun h => by rw [w_yes (g := 1) (s := 55) (b := false) E rfl rfl (by decide) (D 1 _ rfl rfl)] at h; cases h⟩
                  | 7, ho, hl, D, DL, hB =>
                    obtain rfl := Option.some.inj ho
                    clear ho
                    exact ⟨fun _ => valx rfl (run_move rfl (E.get 5 rfl)) rfl hM, fun h => by rw [w_yes (g := 1) (s := 55) (b := false) E rfl rfl (by decide) (D 1 _ rfl rfl)] at h; cases h⟩
                  | 8, ho, hl, D, DL, hB =>
                    obtain rfl := Option.some.inj ho
                    clear ho
                    exact ⟨fun _ => valx rfl (run_index69 (i := i) rfl (D 6 _ rfl rfl) (D 7 _ rfl rfl) hi4) rfl hM, fun h => by rw [w_yes (g := 1) (s := 55) (b := false) E rfl rfl (by decide) (D 1 _ rfl rfl)] at h; cases h⟩
                  | 9, ho, hl, D, DL, hB =>
                    obtain rfl := Option.some.inj ho
                    clear ho
                    exact ⟨fun _ => valx rfl (ld_ptAt rfl (D 8 _ rfl rfl) hen he) rfl hM, fun h => by rw [w_yes (g := 1) (s := 55) (b := false) E rfl rfl (by decide) (D 1 _ rfl rfl)] at h; cases h⟩
                  | 10, ho, hl, D, DL, hB =>
                    obtain rfl := Option.some.inj ho
                    clear ho
                    exact ⟨fun _ => valx rfl (eql32 rfl (D 5 _ rfl rfl) (D 9 _ rfl rfl)) rfl hM, fun h => by rw [w_yes (g := 1) (s := 55) (b := false) E rfl rfl (by decide) (D 1 _ rfl rfl)] at h; cases h⟩
                  | 11, ho, hl, D, DL, hB =>
                    obtain rfl := Option.some.inj ho
                    clear ho
                    exact ⟨fun _ => valx rfl (run_pick_f rfl (D 1 _ rfl rfl) (D 10 _ rfl rfl)) rfl hM, fun h => by rw [wanted_none rfl] at h; cases h⟩
                  | 12, ho, hl, D, DL, hB =>
                    obtain rfl := Option.some.inj ho
                    clear ho
                    exact ⟨fun _ => valx rfl (run_assign rfl (D 11 _ rfl rfl)) rfl hM, fun h => by rw [wanted_none rfl] at h; cases h⟩
                  | j9 + 13, ho, hl, D, DL, hB => exact absurd ho (by simp)
                · rintro _ a w5 E V hM
                  have E := E.add (v := .bool (decide (c = e))) (V 12 _ rfl)
                  clear V
                  have hbs := sgB.fr hbs hM id
                  have hbt := sgB.fr hbt hM id
                  have hen := PtsAt.fr hen hM id
                  have hO := own_fr hO hM (fun _ _ h => h)
                  have hBs := Nat.le_trans hBs hM.size
                  have hrow := PtsAt.fr hrow hM id
                  have hf := hf.trans hM
                  clear hM
                  refine blk_n ?_
                  refine then_n ?_
                  refine wp_region_lit ?_
                  refine env_put (d := 52) (v := .int .i64 (k : Int)) E rfl (by decide) rfl (wanted_none rfl _) (run_move rfl (E.get 5 rfl)) fun a E => ?_
                  refine env_put (d := 53) (v := .int .i64 ((k : Int) + 1)) E rfl (by decide) rfl (wanted_none rfl _) (run_iadd (E.get 0 rfl) rfl (by omega) (by omega) rfl) fun a E => ?_
                  refine env_set (d := 9) (v := .int .i64 ((k : Int) + 1)) E rfl (by decide) (wanted_none rfl _) (run_assign rfl (E.get 0 rfl)) fun a E => ?_
                  refine wpList_nil ?_
                  refine then_n ?_
                  refine ⟨⟨k + 1, (decide (c = e)), E.of ⟨E.get 0 rfl, E.get 3 rfl, E.get 8 rfl, E.get 9 rfl, E.get 10 rfl, E.get 11 rfl, E.get 12 rfl, trivial⟩, hkt, ?_, hO, hbs, hbt, hen, hBs, hf⟩, ?_⟩
                  · rw [Hid, con_step hc, ← htw.out]; rw [hq25]; simp
                  · rw [E.get 0 rfl]; simp only [intOf]; omega
              | true =>
                rw [hq25] at E
                refine wp_region_invx (G := Unit) () (n := 143) (base := [(51, .bool true), (50, .int .i64 (cm.length : Int)), (49, .slice (pc) cm.length cc), (48, .int .i64 (k : Int)), (9, .int .i64 (k : Int)), (7, .int .i64 (i : Int)), (6, .slice (pc) cm.length cc), (5, .slice (some ⟨be, 0, none⟩) 4 4), (3, .pointer (some ⟨bt, 0, none⟩)), (2, .pointer (some ⟨bs, 0, none⟩))]) (U := [(8, .bool true, 12)]) (T := fun γ => [some (54, .bool true), some (55, .bool true), some (56, undef), some (57, undef), some (58, undef), some (59, undef), some (60, undef), some (61, undef), some (62, undef), some (63, undef), some (64, undef), some (65, .bool true), some (8, .bool true)]) (M := fun γ ls9 w5 => Fr (fun _ => False) w2 w5) (by kernel_rfl) (by kernel_rfl) (fun _ => by kernel_rfl) (E.of ⟨E.get 0 rfl, E.get 1 rfl, E.get 2 rfl, E.get 3 rfl, E.get 4 rfl, E.get 6 rfl, E.get 7 rfl, E.get 8 rfl, E.get 9 rfl, E.get 10 rfl, trivial⟩) (fun x hx => by simp only [List.mem_cons, List.not_mem_nil, or_false] at hx; subst hx; exact E.get 5 rfl) (Fr.refl _ _).drew ?_ ?_
                · intro j9 o9 γ ls9 a w5 ho hl E D DL DL2 hB hM
                  have hbs := sgB.fr hbs hM id
                  have hbt := sgB.fr hbt hM id
                  have hen := PtsAt.fr hen hM id
                  have hO := own_fr hO hM (fun _ _ h => h)
                  have hBs := Nat.le_trans hBs hM.size
                  have hrow := PtsAt.fr hrow hM id
                  match j9, ho, hl, D, DL, hB with
                  | 0, ho, hl, D, DL, hB =>
                    obtain rfl := Option.some.inj ho
                    clear ho
                    exact ⟨fun _ => valx rfl (run_move rfl (hB (8, .bool true, 12) (by simp) rfl)) rfl hM, fun h => by rw [wanted_none rfl] at h; cases h⟩
                  | 1, ho, hl, D, DL, hB =>
                    obtain rfl := Option.some.inj ho
                    clear ho
                    exact ⟨fun _ => valx rfl (run_move rfl (D 0 _ rfl rfl)) rfl hM, fun h => by rw [wanted_none rfl] at h; cases h⟩
                  | 2, ho, hl, D, DL, hB =>
                    obtain rfl := Option.some.inj ho
                    clear ho
                    exact ⟨fun h => (by rw [w_no (g := 1) (s := 55) (b := false) E rfl rfl (by decide) (D 1 _ rfl rfl)] at h; cases h), fun _ => ⟨fun x hx => by cases hx; rfl, hM⟩⟩
                  | 3, ho, hl, D, DL, hB =>
                    obtain rfl := Option.some.inj ho
                    clear ho
                    exact ⟨fun h => (by rw [w_no (g := 1) (s := 55) (b := false) E rfl rfl (by decide) (D 1 _ rfl rfl)] at h; cases h), fun _ => ⟨fun x hx => by cases hx; rfl, hM⟩⟩
                  | 4, ho, hl, D, DL, hB =>
                    obtain rfl := Option.some.inj ho
                    clear ho
                    exact ⟨fun h => (by rw [w_no (g := 1) (s := 55) (b := false) E rfl rfl (by decide) (D 1 _ rfl rfl)] at h; cases h), fun _ => ⟨fun x hx => by cases hx; rfl, hM⟩⟩
                  | 5, ho, hl, D, DL, hB =>
                    obtain rfl := Option.some.inj ho
                    clear ho
                    exact ⟨fun h => (by rw [w_no (g := 1) (s := 55) (b := false) E rfl rfl (by decide) (D 1 _ rfl rfl)] at h; cases h), fun _ => ⟨fun x hx => by cases hx; rfl, hM⟩⟩
                  | 6, ho, hl, D, DL, hB =>
                    obtain rfl := Option.some.inj ho
                    clear ho
                    exact ⟨fun h => (by rw [w_no (g := 1) (s := 55) (b := false) E rfl rfl (by decide) (D 1 _ rfl rfl)] at h; cases h), fun _ => ⟨fun x hx => by cases hx; rfl, hM⟩⟩
                  | 7, ho, hl, D, DL, hB =>
                    obtain rfl := Option.some.inj ho
                    clear ho
                    exact ⟨fun h => (by rw [w_no (g := 1) (s := 55) (b := false) E rfl rfl (by decide) (D 1 _ rfl rfl)] at h; cases h), fun _ => ⟨fun x hx => by cases hx; rfl, hM⟩⟩
                  | 8, ho, hl, D, DL, hB =>
                    obtain rfl := Option.some.inj ho
                    clear ho
                    exact ⟨fun h => (by rw [w_no (g := 1) (s := 55) (b := false) E rfl rfl (by decide) (D 1 _ rfl rfl)] at h; cases h), fun _ => ⟨fun x hx => by cases hx; rfl, hM⟩⟩
                  | 9, ho, hl, D, DL, hB =>
                    obtain rfl := Option.some.inj ho
                    clear ho
                    exact ⟨fun h => (by rw [w_no (g := 1) (s := 55) (b := false) E rfl rfl (by decide) (D 1 _ rfl rfl)] at h; cases h), fun _ => ⟨fun x hx => by cases hx; rfl, hM⟩⟩
                  | 10, ho, hl, D, DL, hB =>
                    obtain rfl := Option.some.inj ho
                    clear ho
                    exact ⟨fun h => (by rw [w_no (g := 1) (s := 55) (b := false) E rfl rfl (by decide) (D 1 _ rfl rfl)] at h; cases h), fun _ => ⟨fun x hx => by cases hx; rfl, hM⟩⟩
                  | 11, ho, hl, D, DL, hB =>
                    obtain rfl := Option.some.inj ho
                    clear ho
                    exact ⟨fun _ => valx rfl (run_pick_t rfl (D 1 _ rfl rfl) rfl) rfl hM, fun h => by rw [wanted_none rfl] at h; cases h⟩
                  | 12, ho, hl, D, DL, hB =>
                    obtain rfl := Option.some.inj ho
                    clear ho
                    exact ⟨fun _ => valx rfl (run_assign rfl (D 11 _ rfl rfl)) rfl hM, fun h => by rw [wanted_none rfl] at h; cases h⟩
                  | j9 + 13, ho, hl, D, DL, hB => exact absurd ho (by simp)
                · rintro _ a w5 E V hM
                  have E := E.add (v := .bool true) (V 12 _ rfl)
                  clear V
                  have hbs := sgB.fr hbs hM id
                  have hbt := sgB.fr hbt hM id
                  have hen := PtsAt.fr hen hM id
                  have hO := own_fr hO hM (fun _ _ h => h)
                  have hBs := Nat.le_trans hBs hM.size
                  have hrow := PtsAt.fr hrow hM id
                  have hf := hf.trans hM
                  clear hM
                  refine blk_n ?_
                  refine then_n ?_
                  refine wp_region_lit ?_
                  refine env_put (d := 52) (v := .int .i64 (k : Int)) E rfl (by decide) rfl (wanted_none rfl _) (run_move rfl (E.get 5 rfl)) fun a E => ?_
                  refine env_put (d := 53) (v := .int .i64 ((k : Int) + 1)) E rfl (by decide) rfl (wanted_none rfl _) (run_iadd (E.get 0 rfl) rfl (by omega) (by omega) rfl) fun a E => ?_
                  refine env_set (d := 9) (v := .int .i64 ((k : Int) + 1)) E rfl (by decide) (wanted_none rfl _) (run_assign rfl (E.get 0 rfl)) fun a E => ?_
                  refine wpList_nil ?_
                  refine then_n ?_
                  refine ⟨⟨k + 1, true, E.of ⟨E.get 0 rfl, E.get 3 rfl, E.get 8 rfl, E.get 9 rfl, E.get 10 rfl, E.get 11 rfl, E.get 12 rfl, trivial⟩, hkt, ?_, hO, hbs, hbt, hen, hBs, hf⟩, ?_⟩
                  · rw [Hid, con_step hc, ← htw.out]; rw [hq25]; rfl
                  · rw [E.get 0 rfl]; simp only [intOf]; omega
        | true =>
          rw [hq4] at E
          refine env_put (d := 28) (v := .pointer (some ⟨bs, 2, none⟩)) E rfl (by decide) rfl (w_yes (g := 9) (s := 27) E rfl rfl (by decide) (E.get 0 rfl)) (fa34_1 rfl (E.get 20 rfl)) fun a E => ?_
          refine env_put (d := 29) (v := .agg (ptC s.2)) E rfl (by decide) rfl (w_yes (g := 9) (s := 27) E rfl rfl (by decide) (E.get 1 rfl)) (ld_sg2 rfl (E.get 0 rfl) hbs) fun a E => ?_
          refine env_put (d := 30) (v := .pointer (some ⟨bt, 0, none⟩)) E rfl (by decide) rfl (w_yes (g := 9) (s := 27) E rfl rfl (by decide) (E.get 2 rfl)) (fa34_0 rfl (E.get 21 rfl)) fun a E => ?_
          refine env_put (d := 31) (v := .agg (ptC t.1)) E rfl (by decide) rfl (w_yes (g := 9) (s := 27) E rfl rfl (by decide) (E.get 3 rfl)) (ld_sg1 rfl (E.get 0 rfl) hbt) fun a E => ?_
          refine env_put (d := 32) (v := .bool (decide (s.2 = t.1))) E rfl (by decide) rfl (w_yes (g := 9) (s := 27) E rfl rfl (by decide) (E.get 4 rfl)) (eql32 rfl (E.get 2 rfl) (E.get 0 rfl)) fun a E => ?_
          refine env_put (d := 33) (v := .bool (decide (s.2 = t.1))) E rfl (by decide) rfl (w_yes (g := 3) (s := 21) E rfl rfl (by decide) (E.get 11 rfl)) (run_pick_t rfl (E.get 5 rfl) (E.get 0 rfl)) fun a E => ?_
          refine env_put (d := 34) (v := .bool (decide (s.2 = t.1))) E rfl (by decide) rfl (wanted_none rfl _) (run_pick_f rfl (E.get 12 rfl) (E.get 0 rfl)) fun a E => ?_
          refine wpList_nil ?_
          refine then_n ?_
          cases hq28 : (decide (s.2 = t.1)) with
          | false =>
            rw [hq28] at E
            refine wp_cond_false (E.get 0 rfl) ?_
            refine wp_skip ?_
            refine then_n ?_
            refine wp_seq ?_
            have hns : ¬ sameS s t := by
              rintro (h | h)
              · exact of_decide_eq_false hq3 h
              · exact of_decide_eq_false hq28 h.2
            refine wp_region_lit ?_
            refine env_put (d := 35) (v := .pointer (some ⟨bs, 0, none⟩)) E rfl (by decide) rfl (wanted_none rfl _) (fa34_0 rfl (E.get 27 rfl)) fun a E => ?_
            refine env_put (d := 36) (v := .agg (ptC s.1)) E rfl (by decide) rfl (wanted_none rfl _) (ld_sg1 rfl (E.get 0 rfl) hbs) fun a E => ?_
            refine env_put (d := 37) (v := .pointer (some ⟨bs, 2, none⟩)) E rfl (by decide) rfl (wanted_none rfl _) (fa34_1 rfl (E.get 29 rfl)) fun a E => ?_
            refine env_put (d := 38) (v := .agg (ptC s.2)) E rfl (by decide) rfl (wanted_none rfl _) (ld_sg2 rfl (E.get 0 rfl) hbs) fun a E => ?_
            refine env_put (d := 39) (v := .pointer (some ⟨bt, 0, none⟩)) E rfl (by decide) rfl (wanted_none rfl _) (fa34_0 rfl (E.get 30 rfl)) fun a E => ?_
            refine env_put (d := 40) (v := .agg (ptC t.1)) E rfl (by decide) rfl (wanted_none rfl _) (ld_sg1 rfl (E.get 0 rfl) hbt) fun a E => ?_
            refine env_put (d := 41) (v := .pointer (some ⟨bt, 2, none⟩)) E rfl (by decide) rfl (wanted_none rfl _) (fa34_1 rfl (E.get 32 rfl)) fun a E => ?_
            refine env_put (d := 42) (v := .agg (ptC t.2)) E rfl (by decide) rfl (wanted_none rfl _) (ld_sg2 rfl (E.get 0 rfl) hbt) fun a E => ?_
            refine env_ends (d := 43) E rfl (by decide) rfl (wanted_none rfl _) rfl (E.get 6 rfl) (E.get 4 rfl) (E.get 2 rfl) (E.get 0 rfl) fun a w1 be ebe hbe hen f1 E => ?_
            have hbs := sgB.fr hbs f1 id
            have hbt := sgB.fr hbt f1 id
            have hf := hf.trans f1
            clear f1
            replace hen : PtsAt w1 be (endsL s t) := hen
            obtain ⟨B, hB⟩ : ∃ B, B = w1.heap.size := ⟨_, rfl⟩
            have hBw : w.heap.size ≤ B := by have := hf.size; omega
            have hbsB : bs < B := by rw [hB]; exact lt_of_blk hbs
            have hbtB : bt < B := by rw [hB]; exact lt_of_blk hbt
            have hbeB : be < B := by rw [hB]; exact hbe
            have hBs : B ≤ w1.heap.size := by omega
            have hO : oP w1 B (.slice none 0 0) [] := World.ownsRow_nil _ _ _ _
            clear ebs ebt ebe hbe
            refine env_put (d := 5) (v := .slice (some ⟨be, 0, none⟩) 4 4) E rfl (by decide) rfl (wanted_none rfl _) (run_assign rfl (E.get 0 rfl)) fun a E => ?_
            refine wpList_nil ?_
            refine then_n ?_
            refine wp_seq ?_
            refine wp_region_lit ?_
            refine env_put (d := 6) (v := .slice none 0 0) E rfl (by decide) rfl (wanted_none rfl _) (run_assign rfl rfl) fun a E => ?_
            refine wpList_nil ?_
            refine then_n ?_
            refine wp_seq ?_
            refine wp_seq ?_
            refine wp_region_lit ?_
            refine env_put (d := 7) (v := .int .i64 0) E rfl (by decide) rfl (wanted_none rfl _) (run_assign rfl rfl) fun a E => ?_
            refine wpList_nil ?_
            refine then_n ?_
            refine wp_block ?_
            refine wp_loop (fun a w2 => ∃ (i : Nat) (cm : List Pt) (cv : Value), Env 143 [(7, .int .i64 (i : Int)), (6, cv), (5, .slice (some ⟨be, 0, none⟩) 4 4), (3, .pointer (some ⟨bt, 0, none⟩)), (2, .pointer (some ⟨bs, 0, none⟩))] a ∧ i ≤ 4 ∧ Hid (cm = comL (fC s t) ((endsL s t).take i)) ∧ oP w2 B cv cm ∧ sgB w2 bs s ∧ sgB w2 bt t ∧ PtsAt w2 be (endsL s t) ∧ B ≤ w2.heap.size ∧ Fr (fun _ => False) w w2) (fun a _ => 4 - (intOf (a.eval (.tmp 7))).toNat) ?_ ?_
            · exact ⟨0, [], .slice none 0 0, E.of ⟨E.get 0 rfl, E.get 1 rfl, E.get 2 rfl, E.get 38 rfl, E.get 39 rfl, trivial⟩, Nat.zero_le _, rfl, hO, hbs, hbt, hen, hBs, hf⟩
            clear E
            rintro a w2 ⟨i, cm, cv, E, hi, hcm, hO, hbs, hbt, hen, hBs, hf⟩
            have hmu : 4 - (intOf (a.eval (.tmp 7))).toNat = 4 - i := by rw [E.get 0 rfl]; first | (simp [intOf]; done) | (simp only [intOf]; omega)
            rw [hmu]
            clear hmu
            obtain ⟨pc, cc, hve⟩ := own_slice hO
            subst hve
            have hcl : cm.length ≤ 4 := com4 hcm.out
            refine wp_seq ?_
            refine wp_seq ?_
            refine wp_region_lit ?_
            refine env_put (d := 44) (v := .int .i64 (i : Int)) E rfl (by decide) rfl (wanted_none rfl _) (run_move rfl (E.get 0 rfl)) fun a E => ?_
            refine env_put (d := 45) (v := .bool (decide ((i : Int) < 4))) E rfl (by decide) rfl (wanted_none rfl _) (run_ilss (E.get 0 rfl) rfl Try.underlying3 rfl) fun a E => ?_
            refine wpList_nil ?_
            refine then_n ?_
            cases hq30 : (decide ((i : Int) < 4)) with
            | false =>
              rw [hq30] at E
              have hi4 : i = 4 := by have := of_decide_eq_false hq30; omega
              replace hcm : cm = comL (fC s t) (endsL s t) := by rw [hcm.out, hi4]; rfl
              refine wp_cond_false (E.get 0 rfl) ?_
              refine wp_exit ?_
              refine then_e ?_
              refine then_e ?_
              refine blk_e ?_
              refine then_n ?_
              refine wp_seq ?_
              refine wp_seq ?_
              refine wp_region_lit ?_
              refine env_put (d := 91) (v := .slice (pc) cm.length cc) E rfl (by decide) rfl (wanted_none rfl _) (run_move rfl (E.get 3 rfl)) fun a E => ?_
              refine env_put (d := 92) (v := .int .i64 (cm.length : Int)) E rfl (by decide) rfl (wanted_none rfl _) (run_len69 rfl (E.get 0 rfl)) fun a E => ?_
              refine env_put (d := 93) (v := .bool (decide (1 < (cm.length : Int)))) E rfl (by decide) rfl (wanted_none rfl _) (run_igtr (E.get 0 rfl) rfl Try.underlying3 rfl) fun a E => ?_
              refine wpList_nil ?_
              refine then_n ?_
              cases hq31 : (decide (1 < (cm.length : Int))) with
              | false =>
                rw [hq31] at E
                refine wp_cond_false (E.get 0 rfl) ?_
                refine wp_skip ?_
                refine then_n ?_
                refine wp_seq ?_
                refine wp_seq ?_
                refine wp_region_lit ?_
                refine env_put (d := 94) (v := .slice (pc) cm.length cc) E rfl (by decide) rfl (wanted_none rfl _) (run_move rfl (E.get 6 rfl)) fun a E => ?_
                refine env_put (d := 95) (v := .int .i64 (cm.length : Int)) E rfl (by decide) rfl (wanted_none rfl _) (run_len69 rfl (E.get 0 rfl)) fun a E => ?_
                refine env_put (d := 96) (v := .bool ((cm.length : Int) == 1)) E rfl (by decide) rfl (wanted_none rfl _) (run_ieql (E.get 0 rfl) rfl Try.underlying3 rfl) fun a E => ?_
                refine wpList_nil ?_
                refine then_n ?_
                cases hq32 : ((cm.length : Int) == 1) with
                | false =>
                  rw [hq32] at E
                  have hc0 : cm = [] := List.eq_nil_of_length_eq_zero (by have h1 := of_decide_eq_false hq31; have h2 : ¬ ((cm.length : Int) = 1) := (by simpa using hq32); omega)
                  refine wp_cond_false (E.get 0 rfl) ?_
                  refine wp_skip ?_
                  refine then_n ?_
                  refine wp_seq ?_
                  refine wp_seq ?_
                  cases hq33 : (decide (((oriN s.1 s.2 t.1) * (oriN s.1 s.2 t.2)) < 0)) with
                  | false =>
                    refine wp_region_invg (n := 143) (base := [(96, .bool false), (95, .int .i64 (cm.length : Int)), (94, .slice (pc) cm.length cc), (93, .bool false), (92, .int .i64 (cm.length : Int)), (91, .slice (pc) cm.length cc), (45, .bool false), (44, .int .i64 (i : Int)), (7, .int .i64 (i : Int)), (6, .slice (pc) cm.length cc), (5, .slice (some ⟨be, 0, none⟩) 4 4), (3, .pointer (some ⟨bt, 0, none⟩)), (2, .pointer (some ⟨bs, 0, none⟩))]) (T := [some (109, .pointer (some ⟨bs, 0, none⟩)), some (110, .agg (ptC s.1)), some (111, .pointer (some ⟨bs, 2, none⟩)), some (112, .agg (ptC s.2)), some (113, .pointer (some ⟨bt, 0, none⟩)), some (114, .agg (ptC t.1)), some (115, .int .i64 (oriN s.1 s.2 t.1)), some (116, .pointer (some ⟨bs, 0, none⟩)), some (117, .agg (ptC s.1)), some (118, .pointer (some ⟨bs, 2, none⟩)), some (119, .agg (ptC s.2)), some (120, .pointer (some ⟨bt, 2, none⟩)), some (121, .agg (ptC t.2)), some (122, .int .i64 (oriN s.1 s.2 t.2)), some (123, .int .i64 ((oriN s.1 s.2 t.1) * (oriN s.1 s.2 t.2))), some (124, .bool false), some (125, .bool false), some (126, undef), some (127, undef), some (128, undef), some (129, undef), some (130, undef), some (131, undef), some (132, undef), some (133, undef), some (134, undef), some (135, undef), some (136, undef), some (137, undef), some (138, undef), some (139, undef), some (140, undef), some (141, undef), some (142, .bool false)]) (M := fun _ w5 => Fr (fun _ => False) w2 w5) (by kernel_rfl) (by kernel_rfl) (by kernel_rfl) (E.of ⟨E.get 0 rfl, E.get 1 rfl, E.get 2 rfl, E.get 3 rfl, E.get 4 rfl, E.get 5 rfl, E.get 6 rfl, E.get 7 rfl, E.get 8 rfl, E.get 9 rfl, E.get 10 rfl, E.get 11 rfl, E.get 12 rfl, trivial⟩) (Fr.refl _ _).drew ?_ ?_
                    · intro j9 o9 t9 ls9 a w5 ho hT0 hl E D DL hM
                      have hbs := sgB.fr hbs hM id
                      have hbt := sgB.fr hbt hM id
                      have hen := PtsAt.fr hen hM id
                      have hO := own_fr hO hM (fun _ _ h => h)
                      have hBs := Nat.le_trans hBs hM.size
                      match j9, ho, hT0, hl, D, DL with
                      | 0, ho, hT0, hl, D, DL =>
                        obtain rfl := Option.some.inj ho
                        obtain rfl := Option.some.inj hT0
                        clear ho hT0
                        exact ⟨fun _ => val_wp (fa34_0 rfl (E.get 12 rfl)) rfl hM, fun h => by rw [wanted_none rfl] at h; cases h⟩
                      | 1, ho, hT0, hl, D, DL =>
                        obtain rfl := Option.some.inj ho
                        obtain rfl := Option.some.inj hT0
                        clear ho hT0
                        exact ⟨fun _ => val_wp (ld_sg1 rfl (D 0 _ rfl rfl) hbs) rfl hM, fun h => by rw [wanted_none rfl] at h; cases h⟩
                      | 2, ho, hT0, hl, D, DL =>
                        obtain rfl := Option.some.inj ho
                        obtain rfl := Option.some.inj hT0
                        clear ho hT0
                        exact ⟨fun _ => val_wp (fa34_1 rfl (E.get 12 rfl)) rfl hM, fun h => by rw [wanted_none rfl] at h; cases h⟩
                      | 3, ho, hT0, hl, D, DL =>
                        obtain rfl := Option.some.inj ho
                        obtain rfl := Option.some.inj hT0
                        clear ho hT0
                        exact ⟨fun _ => val_wp (ld_sg2 rfl (D 2 _ rfl rfl) hbs) rfl hM, fun h => by rw [wanted_none rfl] at h; cases h⟩
                      | 4, ho, hT0, hl, D, DL =>
                        obtain rfl := Option.some.inj ho
                        obtain rfl := Option.some.inj hT0
                        clear ho hT0
                        exact ⟨fun _ => val_wp (fa34_0 rfl (E.get 11 rfl)) rfl hM, fun h => by rw [wanted_none rfl] at h; cases h⟩
                      | 5, ho, hT0, hl, D, DL =>
                        obtain rfl := Option.some.inj ho
                        obtain rfl := Option.some.inj hT0
                        clear ho hT0
                        exact ⟨fun _ => val_wp (ld_sg1 rfl (D 4 _ rfl rfl) hbt) rfl hM, fun h => by rw [wanted_none rfl] at h; cases h⟩
                      | 6, ho, hT0, hl, D, DL =>
                        obtain rfl := Option.some.inj ho
                        obtain rfl := Option.some.inj hT0
                        clear ho hT0
                        exact ⟨fun _ => call_wp (run_call3 (enters_of Try.func40 (by kernel_rfl) rfl) rfl rfl (D 1 _ rfl rfl) (D 3 _ rfl rfl) (D 5 _ rfl rfl)) (ror_calls s.1 s.2 t.1 w5) rfl fun w9 f1 => (hM.trans f1), fun h => by rw [wanted_none rfl] at h; cases h⟩
                      | 7, ho, hT0, hl, D, DL =>
                        obtain rfl := Option.some.inj ho
                        obtain rfl := Option.some.inj hT0
                        clear ho hT0
                        exact ⟨fun _ => val_wp (fa34_0 rfl (E.get 12 rfl)) rfl hM, fun h => by rw [wanted_none rfl] at h; cases h⟩
                      | 8, ho, hT0, hl, D, DL =>
                        obtain rfl := Option.some.inj ho
                        obtain rfl := Option.some.inj hT0
                        clear ho hT0
                        exact ⟨fun _ => val_wp (ld_sg1 rfl (D 7 _ rfl rfl) hbs) rfl hM, fun h => by rw [wanted_none rfl] at h; cases h⟩
                      | 9, ho, hT0, hl, D, DL =>
                        obtain rfl := Option.some.inj ho
                        obtain rfl := Option.some.inj hT0
                        clear ho hT0
                        exact ⟨fun _ => val_wp (fa34_1 rfl (E.get 12 rfl)) rfl hM, fun h => by rw [wanted_none rfl] at h; cases h⟩
                      | 10, ho, hT0, hl, D, DL =>
                        obtain rfl := Option.some.inj ho
                        obtain rfl := Option.some.inj hT0
                        clear ho hT0
                        exact ⟨fun _ => val_wp (ld_sg2 rfl (D 9 _ rfl rfl) hbs) rfl hM, fun h => by rw [wanted_none rfl] at h; cases h⟩
                      | 11, ho, hT0, hl, D, DL =>
                        obtain rfl := Option.some.inj ho
                        obtain rfl := Option.some.inj hT0
                        clear ho hT0
                        exact ⟨fun _ => val_wp (fa34_1 rfl (E.get 11 rfl)) rfl hM, fun h => by rw [wanted_none rfl] at h; cases h⟩
                      | 12, ho, hT0, hl, D, DL =>
                        obtain rfl := Option.some.inj ho
                        obtain rfl := Option.some.inj hT0
                        clear ho hT0
                        exact ⟨fun _ => val_wp (ld_sg2 rfl (D 11 _ rfl rfl) hbt) rfl hM, fun h => by rw [wanted_none rfl] at h; cases h⟩
                      | 13, ho, hT0, hl, D, DL =>
                        obtain rfl := Option.some.inj ho
                        obtain rfl := Option.some.inj hT0
                        clear ho hT0
                        exact ⟨fun _ => call_wp (run_call3 (enters_of Try.func40 (by kernel_rfl) rfl) rfl rfl (D 8 _ rfl rfl) (D 10 _ rfl rfl) (D 12 _ rfl rfl)) (ror_calls s.1 s.2 t.2 w5) rfl fun w9 f1 => (hM.trans f1), fun h => by rw [wanted_none rfl] at h; cases h⟩
                      | 14, ho, hT0, hl, D, DL =>
                        obtain rfl := Option.some.inj ho
                        obtain rfl := Option.some.inj hT0
                        clear ho hT0
                        exact ⟨fun _ => val_wp (run_imul (D 6 _ rfl rfl) (D 13 _ rfl rfl) (oriN_lo _ _ _ _ _ _) (oriN_hi _ _ _ _ _ _) rfl) rfl hM, fun h => by rw [wanted_none rfl] at h; cases h⟩
                      | 15, ho, hT0, hl, D, DL =>
                        obtain rfl := Option.some.inj ho
                        obtain rfl := Option.some.inj hT0
                        clear ho hT0
                        exact ⟨fun _ => val_wp ((run_ilss (D 14 _ rfl rfl) rfl Try.underlying3 rfl).trans (by rw [hq33] <;> rfl)) rfl hM, fun h => by rw [wanted_none rfl] at h; cases h⟩
                      | 16, ho, hT0, hl, D, DL =>
                        obtain rfl := Option.some.inj ho
                        obtain rfl := Option.some.inj hT0
                        clear ho hT0
                        exact ⟨fun _ => val_wp (run_move rfl (D 15 _ rfl rfl)) rfl hM, fun h => by rw [wanted_none rfl] at h; cases h⟩
                      | 17, ho, hT0, hl, D, DL =>
                        obtain rfl := Option.some.inj ho
                        obtain rfl := Option.some.inj hT0
                        clear ho hT0
                        exact ⟨fun h => (by rw [w_no (g := 16) (s := 125) (b := true) E rfl rfl (by decide) (D 16 _ rfl rfl)] at h; cases h), fun _ => ⟨fun x hx => by cases hx; rfl, hM⟩⟩
                      | 18, ho, hT0, hl, D, DL =>
                        obtain rfl := Option.some.inj ho
                        obtain rfl := Option.some.inj hT0
                        clear ho hT0
                        exact ⟨fun h => (by rw [w_no (g := 16) (s := 125) (b := true) E rfl rfl (by decide) (D 16 _ rfl rfl)] at h; cases h), fun _ => ⟨fun x hx => by cases hx; rfl, hM⟩⟩
                      | 19, ho, hT0, hl, D, DL =>
                        obtain rfl := Option.some.inj ho
                        obtain rfl := Option.some.inj hT0
                        clear ho hT0
                        exact ⟨fun h => (by rw [w_no (g := 16) (s := 125) (b := true) E rfl rfl (by decide) (D 16 _ rfl rfl)] at h; cases h), fun _ => ⟨fun x hx => by cases hx; rfl, hM⟩⟩
                      | 20, ho, hT0, hl, D, DL =>
                        obtain rfl := Option.some.inj ho
                        obtain rfl := Option.some.inj hT0
                        clear ho hT0
                        exact ⟨fun h => (by rw [w_no (g := 16) (s := 125) (b := true) E rfl rfl (by decide) (D 16 _ rfl rfl)] at h; cases h), fun _ => ⟨fun x hx => by cases hx; rfl, hM⟩⟩
                      | 21, ho, hT0, hl, D, DL =>
                        obtain rfl := Option.some.inj ho
                        obtain rfl := Option.some.inj hT0
                        clear ho hT0
                        exact ⟨fun h => (by rw [w_no (g := 16) (s := 125) (b := true) E rfl rfl (by decide) (D 16 _ rfl rfl)] at h; cases h), fun _ => ⟨fun x hx => by cases hx; rfl, hM⟩⟩
                      | 22, ho, hT0, hl, D, DL =>
                        obtain rfl := Option.some.inj ho
                        obtain rfl := Option.some.inj hT0
                        clear ho hT0
                        exact ⟨fun h => (by rw [w_no (g := 16) (s := 125) (b := true) E rfl rfl (by decide) (D 16 _ rfl rfl)] at h; cases h), fun _ => ⟨fun x hx => by cases hx; rfl, hM⟩⟩
                      | 23, ho, hT0, hl, D, DL =>
                        obtain rfl := Option.some.inj ho
                        obtain rfl := Option.some.inj hT0
                        clear ho hT0
                        exact ⟨fun h => (by rw [w_no (g := 16) (s := 125) (b := true) E rfl rfl (by decide) (D 16 _ rfl rfl)] at h; cases h), fun _ => ⟨fun x hx => by cases hx; rfl, hM⟩⟩
                      | 24, ho, hT0, hl, D, DL =>
                        obtain rfl := Option.some.inj ho
                        obtain rfl := Option.some.inj hT0
                        clear ho hT0
                        exact ⟨fun h => (by rw [w_no (g := 16) (s := 125) (b := true) E rfl rfl (by decide) (D 16 _ rfl rfl)] at h; cases h), fun _ => ⟨fun x hx => by cases hx; rfl, hM⟩⟩
                      | 25, ho, hT0, hl, D, DL =>
                        obtain rfl := Option.some.inj ho
                        obtain rfl := Option.some.inj hT0
                        clear ho hT0
                        exact ⟨fun h => (by rw [w_no (g := 16) (s := 125) (b := true) E rfl rfl (by decide) (D 16 _ rfl rfl)] at h; cases h), fun _ => ⟨fun x hx => by cases hx; rfl, hM⟩⟩
                      | 26, ho, hT0, hl, D, DL =>
                        obtain rfl := Option.some.inj ho
                        obtain rfl := Option.some.inj hT0
                        clear ho hT0
                        exact ⟨fun h => (by rw [w_no (g := 16) (s := 125) (b := true) E rfl rfl (by decide) (D 16 _ rfl rfl)] at h; cases h), fun _ => ⟨fun x hx => by cases hx; rfl, hM⟩⟩
                      | 27, ho, hT0, hl, D, DL =>
                        obtain rfl := Option.some.inj ho
                        obtain rfl := Option.some.inj hT0
                        clear ho hT0
                        exact ⟨fun h => (by rw [w_no (g := 16) (s := 125) (b := true) E rfl rfl (by decide) (D 16 _ rfl rfl)] at h; cases h), fun _ => ⟨fun x hx => by cases hx; rfl, hM⟩⟩
                      | 28, ho, hT0, hl, D, DL =>
                        obtain rfl := Option.some.inj ho
                        obtain rfl := Option.some.inj hT0
                        clear ho hT0
                        exact ⟨fun h => (by rw [w_no (g := 16) (s := 125) (b := true) E rfl rfl (by decide) (D 16 _ rfl rfl)] at h; cases h), fun _ => ⟨fun x hx => by cases hx; rfl, hM⟩⟩
                      | 29, ho, hT0, hl, D, DL =>
                        obtain rfl := Option.some.inj ho
                        obtain rfl := Option.some.inj hT0
                        clear ho hT0
                        exact ⟨fun h => (by rw [w_no (g := 16) (s := 125) (b := true) E rfl rfl (by decide) (D 16 _ rfl rfl)] at h; cases h), fun _ => ⟨fun x hx => by cases hx; rfl, hM⟩⟩
                      | 30, ho, hT0, hl, D, DL =>
                        obtain rfl := Option.some.inj ho
                        obtain rfl := Option.some.inj hT0
                        clear ho hT0
                        exact ⟨fun h => (by rw [w_no (g := 16) (s := 125) (b := true) E rfl rfl (by decide) (D 16 _ rfl rfl)] at h; cases h), fun _ => ⟨fun x hx => by cases hx; rfl, hM⟩⟩
                      | 31, ho, hT0, hl, D, DL =>
                        obtain rfl := Option.some.inj ho
                        obtain rfl := Option.some.inj hT0
                        clear ho hT0
                        exact ⟨fun h => (by rw [w_no (g := 16) (s := 125) (b := true) E rfl rfl (by decide) (D 16 _ rfl rfl)] at h; cases h), fun _ => ⟨fun x hx => by cases hx; rfl, hM⟩⟩
                      | 32, ho, hT0, hl, D, DL =>
                        obtain rfl := Option.some.inj ho
                        obtain rfl := Option.some.inj hT0
                        clear ho hT0
                        exact ⟨fun h => (by rw [w_no (g := 16) (s := 125) (b := true) E rfl rfl (by decide) (D 16 _ rfl rfl)] at h; cases h), fun _ => ⟨fun x hx => by cases hx; rfl, hM⟩⟩
                      | 33, ho, hT0, hl, D, DL =>
                        obtain rfl := Option.some.inj ho
                        obtain rfl := Option.some.inj hT0
                        clear ho hT0
                        exact ⟨fun _ => val_wp (run_pick_f rfl (D 16 _ rfl rfl) rfl) rfl hM, fun h => by rw [wanted_none rfl] at h; cases h⟩
                      | j9 + 34, ho, hT0, hl, D, DL => exact absurd hT0 (by simp)
                    · intro a w5 E V hM
                      have E := E.add (V 33 _ rfl)
                      clear V
                      have hbs := sgB.fr hbs hM id
                      have hbt := sgB.fr hbt hM id
                      have hen := PtsAt.fr hen hM id
                      have hO := own_fr hO hM (fun _ _ h => h)
                      have hBs := Nat.le_trans hBs hM.size
                      have hf := hf.trans hM
                      clear hM
                      refine then_n ?_
                      refine wp_cond_false (E.get 0 rfl) ?_
                      refine wp_skip ?_
                      refine then_n ?_
                      refine wp_seq ?_
                      refine wp_region_lit ?_
                      refine env_put (d := 4) (v := .int .i64 0) E rfl (by decide) rfl (wanted_none rfl _) (run_assign rfl rfl) fun a E => ?_
                      refine wpList_nil ?_
                      refine then_n ?_
                      refine wp_ret ?_
                      refine ret_tmp (t := 4) rfl E (E.get 0 rfl) ⟨?_, hf⟩
                      rw [kind_cross hs ht hns (hcm.symm.trans hc0)]
                      rw [if_neg (fun h => of_decide_eq_false hq33 (by rw [oriN_near hs.1 hs.2 ht.1, oriN_near hs.1 hs.2 ht.2]; exact h.1))]
                  | true =>
                    refine wp_region_invg (n := 143) (base := [(96, .bool false), (95, .int .i64 (cm.length : Int)), (94, .slice (pc) cm.length cc), (93, .bool false), (92, .int .i64 (cm.length : Int)), (91, .slice (pc) cm.length cc), (45, .bool false), (44, .int .i64 (i : Int)), (7, .int .i64 (i : Int)), (6, .slice (pc) cm.length cc), (5, .slice (some ⟨be, 0, none⟩) 4 4), (3, .pointer (some ⟨bt, 0, none⟩)), (2, .pointer (some ⟨bs, 0, none⟩))]) (T := [some (109, .pointer (some ⟨bs, 0, none⟩)), some (110, .agg (ptC s.1)), some (111, .pointer (some ⟨bs, 2, none⟩)), some (112, .agg (ptC s.2)), some (113, .pointer (some ⟨bt, 0, none⟩)), some (114, .agg (ptC t.1)), some (115, .int .i64 (oriN s.1 s.2 t.1)), some (116, .pointer (some ⟨bs, 0, none⟩)), some (117, .agg (ptC s.1)), some (118, .pointer (some ⟨bs, 2, none⟩)), some (119, .agg (ptC s.2)), some (120, .pointer (some ⟨bt, 2, none⟩)), some (121, .agg (ptC t.2)), some (122, .int .i64 (oriN s.1 s.2 t.2)), some (123, .int .i64 ((oriN s.1 s.2 t.1) * (oriN s.1 s.2 t.2))), some (124, .bool true), some (125, .bool true), some (126, .pointer (some ⟨bt, 0, none⟩)), some (127, .agg (ptC t.1)), some (128, .pointer (some ⟨bt, 2, none⟩)), some (129, .agg (ptC t.2)), some (130, .pointer (some ⟨bs, 0, none⟩)), some (131, .agg (ptC s.1)), some (132, .int .i64 (oriN t.1 t.2 s.1)), some (133, .pointer (some ⟨bt, 0, none⟩)), some (134, .agg (ptC t.1)), some (135, .pointer (some ⟨bt, 2, none⟩)), some (136, .agg (ptC t.2)), some (137, .pointer (some ⟨bs, 2, none⟩)), some (138, .agg (ptC s.2)), some (139, .int .i64 (oriN t.1 t.2 s.2)), some (140, .int .i64 ((oriN t.1 t.2 s.1) * (oriN t.1 t.2 s.2))), some (141, .bool (decide (((oriN t.1 t.2 s.1) * (oriN t.1 t.2 s.2)) < 0))), some (142, .bool (decide (((oriN t.1 t.2 s.1) * (oriN t.1 t.2 s.2)) < 0)))]) (M := fun _ w5 => Fr (fun _ => False) w2 w5) (by kernel_rfl) (by kernel_rfl) (by kernel_rfl) (E.of ⟨E.get 0 rfl, E.get 1 rfl, E.get 2 rfl, E.get 3 rfl, E.get 4 rfl, E.get 5 rfl, E.get 6 rfl, E.get 7 rfl, E.get 8 rfl, E.get 9 rfl, E.get 10 rfl, E.get 11 rfl, E.get 12 rfl, trivial⟩) (Fr.refl _ _).drew ?_ ?_
                    · intro j9 o9 t9 ls9 a w5 ho hT0 hl E D DL hM
                      have hbs := sgB.fr hbs hM id
                      have hbt := sgB.fr hbt hM id
                      have hen := PtsAt.fr hen hM id
                      have hO := own_fr hO hM (fun _ _ h => h)
                      have hBs := Nat.le_trans hBs hM.size
                      match j9, ho, hT0, hl, D, DL with
                      | 0, ho, hT0, hl, D, DL =>
                        obtain rfl := Option.some.inj ho
                        obtain rfl := Option.some.inj hT0
                        clear ho hT0
                        exact ⟨fun _ => val_wp (fa34_0 rfl (E.get 12 rfl)) rfl hM, fun h => by rw [wanted_none rfl] at h; cases h⟩
                      | 1, ho, hT0, hl, D, DL =>
                        obtain rfl := Option.some.inj ho
                        obtain rfl := Option.some.inj hT0
                        clear ho hT0
                        exact ⟨fun _ => val_wp (ld_sg1 rfl (D 0 _ rfl rfl) hbs) rfl hM, fun h => by rw [wanted_none rfl] at h; cases h⟩
                      | 2, ho, hT0, hl, D, DL =>
                        obtain rfl := Option.some.inj ho
                        obtain rfl := Option.some.inj hT0
                        clear ho hT0
                        exact ⟨fun _ => val_wp (fa34_1 rfl (E.get 12 rfl)) rfl hM, fun h => by rw [wanted_none rfl] at h; cases h⟩
                      | 3, ho, hT0, hl, D, DL =>
                        obtain rfl := Option.some.inj ho
                        obtain rfl := Option.some.inj hT0
                        clear ho hT0
                        exact ⟨fun _ => val_wp (ld_sg2 rfl (D 2 _ rfl rfl) hbs) rfl hM, fun h => by rw [wanted_none rfl] at h; cases h⟩
                      | 4, ho, hT0, hl, D, DL =>
                        obtain rfl := Option.some.inj ho
                        obtain rfl := Option.some.inj hT0
                        clear ho hT0
                        exact ⟨fun _ => val_wp (fa34_0 rfl (E.get 11 rfl)) rfl hM, fun h => by rw [wanted_none rfl] at h; cases h⟩
                      | 5, ho, hT0, hl, D, DL =>
                        obtain rfl := Option.some.inj ho
                        obtain rfl := Option.some.inj hT0
                        clear ho hT0
                        exact ⟨fun _ => val_wp (ld_sg1 rfl (D 4 _ rfl rfl) hbt) rfl hM, fun h => by rw [wanted_none rfl] at h; cases h⟩
                      | 6, ho, hT0, hl, D, DL =>
                        obtain rfl := Option.some.inj ho
                        obtain rfl := Option.some.inj hT0
                        clear ho hT0
                        exact ⟨fun _ => call_wp (run_call3 (enters_of Try.func40 (by kernel_rfl) rfl) rfl rfl (D 1 _ rfl rfl) (D 3 _ rfl rfl) (D 5 _ rfl rfl)) (ror_calls s.1 s.2 t.1 w5) rfl fun w9 f1 => (hM.trans f1), fun h => by rw [wanted_none rfl] at h; cases h⟩
                      | 7, ho, hT0, hl, D, DL =>
                        obtain rfl := Option.some.inj ho
                        obtain rfl := Option.some.inj hT0
                        clear ho hT0
                        exact ⟨fun _ => val_wp (fa34_0 rfl (E.get 12 rfl)) rfl hM, fun h => by rw [wanted_none rfl] at h; cases h⟩
                      | 8, ho, hT0, hl, D, DL =>
                        obtain rfl := Option.some.inj ho
                        obtain rfl := Option.some.inj hT0
                        clear ho hT0
                        exact ⟨fun _ => val_wp (ld_sg1 rfl (D 7 _ rfl rfl) hbs) rfl hM, fun h => by rw [wanted_none rfl] at h; cases h⟩
                      | 9, ho, hT0, hl, D, DL =>
                        obtain rfl := Option.some.inj ho
                        obtain rfl := Option.some.inj hT0
                        clear ho hT0
                        exact ⟨fun _ => val_wp (fa34_1 rfl (E.get 12 rfl)) rfl hM, fun h => by rw [wanted_none rfl] at h; cases h⟩
                      | 10, ho, hT0, hl, D, DL =>
                        obtain rfl := Option.some.inj ho
                        obtain rfl := Option.some.inj hT0
                        clear ho hT0
                        exact ⟨fun _ => val_wp (ld_sg2 rfl (D 9 _ rfl rfl) hbs) rfl hM, fun h => by rw [wanted_none rfl] at h; cases h⟩
                      | 11, ho, hT0, hl, D, DL =>
                        obtain rfl := Option.some.inj ho
                        obtain rfl := Option.some.inj hT0
                        clear ho hT0
                        exact ⟨fun _ => val_wp (fa34_1 rfl (E.get 11 rfl)) rfl hM, fun h => by rw [wanted_none rfl] at h; cases h⟩
                      | 12, ho, hT0, hl, D, DL =>
                        obtain rfl := Option.some.inj ho
                        obtain rfl := Option.some.inj hT0
                        clear ho hT0
                        exact ⟨fun _ => val_wp (ld_sg2 rfl (D 11 _ rfl rfl) hbt) rfl hM, fun h => by rw [wanted_none rfl] at h; cases h⟩
                      | 13, ho, hT0, hl, D, DL =>
                        obtain rfl := Option.some.inj ho
                        obtain rfl := Option.some.inj hT0
                        clear ho hT0
                        exact ⟨fun _ => call_wp (run_call3 (enters_of Try.func40 (by kernel_rfl) rfl) rfl rfl (D 8 _ rfl rfl) (D 10 _ rfl rfl) (D 12 _ rfl rfl)) (ror_calls s.1 s.2 t.2 w5) rfl fun w9 f1 => (hM.trans f1), fun h => by rw [wanted_none rfl] at h; cases h⟩
                      | 14, ho, hT0, hl, D, DL =>
                        obtain rfl := Option.some.inj ho
                        obtain rfl := Option.some.inj hT0
                        clear ho hT0
                        exact ⟨fun _ => val_wp (run_imul (D 6 _ rfl rfl) (D 13 _ rfl rfl) (oriN_lo _ _ _ _ _ _) (oriN_hi _ _ _ _ _ _) rfl) rfl hM, fun h => by rw [wanted_none rfl] at h; cases h⟩
                      | 15, ho, hT0, hl, D, DL =>
                        obtain rfl := Option.some.inj ho
                        obtain rfl := Option.some.inj hT0
                        clear ho hT0
                        exact ⟨fun _ => val_wp ((run_ilss (D 14 _ rfl rfl) rfl Try.underlying3 rfl).trans (by rw [hq33] <;> rfl)) rfl hM, fun h => by rw [wanted_none rfl] at h; cases h⟩
                      | 16, ho, hT0, hl, D, DL =>
                        obtain rfl := Option.some.inj ho
                        obtain rfl := Option.some.inj hT0
                        clear ho hT0
                        exact ⟨fun _ => val_wp (run_move rfl (D 15 _ rfl rfl)) rfl hM, fun h => by rw [wanted_none rfl] at h; cases h⟩
                      | 17, ho, hT0, hl, D, DL =>
                        obtain rfl := Option.some.inj ho
                        obtain rfl := Option.some.inj hT0
                        clear ho hT0
                        exact ⟨fun _ => val_wp (fa34_0 rfl (E.get 11 rfl)) rfl hM, fun h => by rw [w_yes (g := 16) (s := 125) (b := true) E rfl rfl (by decide) (D 16 _ rfl rfl)] at h; cases h⟩
                      | 18, ho, hT0, hl, D, DL =>
                        obtain rfl := Option.some.inj ho
                        obtain rfl := Option.some.inj hT0
                        clear ho hT0
                        exact ⟨fun _ => val_wp (ld_sg1 rfl (D 17 _ rfl rfl) hbt) rfl hM, fun h => by rw [w_yes (g := 16) (s := 125) (b := true) E rfl rfl (by decide) (D 16 _ rfl rfl)] at h; cases h⟩
                      | 19, ho, hT0, hl, D, DL =>
                        obtain rfl := Option.some.inj ho
                        obtain rfl := Option.some.inj hT0
                        clear ho hT0
                        exact ⟨fun _ => val_wp (fa34_1 rfl (E.get 11 rfl)) rfl hM, fun h => by rw [w_yes (g := 16) (s := 125) (b := true) E rfl rfl (by decide) (D 16 _ rfl rfl)] at h; cases h⟩
                      | 20, ho, hT0, hl, D, DL =>
                        obtain rfl := Option.some.inj ho
                        obtain rfl := Option.some.inj hT0
                        clear ho hT0
                        exact ⟨fun _ => val_wp (ld_sg2 rfl (D 19 _ rfl rfl) hbt) rfl hM, fun h => by rw [w_yes (g := 16) (s := 125) (b := true) E rfl rfl (by decide) (D 16 _ rfl rfl)] at h; cases h⟩
                      | 21, ho, hT0, hl, D, DL =>
                        obtain rfl := Option.some.inj ho
                        obtain rfl := Option.some.inj hT0
                        clear ho hT0
                        exact ⟨fun _ => val_wp (fa34_0 rfl (E.get 12 rfl)) rfl hM, fun h => by rw [w_yes (g := 16) (s := 125) (b := true) E rfl rfl (by decide) (D 16 _ rfl rfl)] at h; cases h⟩
                      | 22, ho, hT0, hl, D, DL =>
                        obtain rfl := Option.some.inj ho
                        obtain rfl := Option.some.inj hT0
                        clear ho hT0
                        exact ⟨fun _ => val_wp (ld_sg1 rfl (D 21 _ rfl rfl) hbs) rfl hM, fun h => by rw [w_yes (g := 16) (s := 125) (b := true) E rfl rfl (by decide) (D 16 _ rfl rfl)] at h; cases h⟩
                      | 23, ho, hT0, hl, D, DL =>
                        obtain rfl := Option.some.inj ho
                        obtain rfl := Option.some.inj hT0
                        clear ho hT0
                        exact ⟨fun _ => call_wp (run_call3 (enters_of Try.func40 (by kernel_rfl) rfl) rfl rfl (D 18 _ rfl rfl) (D 20 _ rfl rfl) (D 22 _ rfl rfl)) (ror_calls t.1 t.2 s.1 w5) rfl fun w9 f1 => (hM.trans f1), fun h => by rw [w_yes (g := 16) (s := 125) (b := true) E rfl rfl (by decide) (D 16 _ rfl rfl)] at h; cases h⟩
                      | 24, ho, hT0, hl, D, DL =>
                        obtain rfl := Option.some.inj ho
                        obtain rfl := Option.some.inj hT0
                        clear ho hT0
                        exact ⟨fun _ => val_wp (fa34_0 rfl (E.get 11 rfl)) rfl hM, fun h => by rw [w_yes (g := 16) (s := 125) (b := true) E rfl rfl (by decide) (D 16 _ rfl rfl)] at h; cases h⟩
                      | 25, ho, hT0, hl, D, DL =>
                        obtain rfl := Option.some.inj ho
                        obtain rfl := Option.some.inj hT0
                        clear ho hT0
                        exact ⟨fun _ => val_wp (ld_sg1 rfl (D 24 _ rfl rfl) hbt) rfl hM, fun h => by rw [w_yes (g := 16) (s := 125) (b := true) E rfl rfl (by decide) (D 16 _ rfl rfl)] at h; cases h⟩
                      | 26, ho, hT0, hl, D, DL =>
                        obtain rfl := Option.some.inj ho
                        obtain rfl := Option.some.inj hT0
                        clear ho hT0
                        exact ⟨fun _ => val_wp (fa34_1 rfl (E.get 11 rfl)) rfl hM, fun h => by rw [w_yes (g := 16) (s := 125) (b := true) E rfl rfl (by decide) (D 16 _ rfl rfl)] at h; cases h⟩
                      | 27, ho, hT0, hl, D, DL =>
                        obtain rfl := Option.some.inj ho
                        obtain rfl := Option.some.inj hT0
                        clear ho hT0
                        exact ⟨fun _ => val_wp (ld_sg2 rfl (D 26 _ rfl rfl) hbt) rfl hM, fun h => by rw [w_yes (g := 16) (s := 125) (b := true) E rfl rfl (by decide) (D 16 _ rfl rfl)] at h; cases h⟩
                      | 28, ho, hT0, hl, D, DL =>
                        obtain rfl := Option.some.inj ho
                        obtain rfl := Option.some.inj hT0
                        clear ho hT0
                        exact ⟨fun _ => val_wp (fa34_1 rfl (E.get 12 rfl)) rfl hM, fun h => by rw [w_yes (g := 16) (s := 125) (b := true) E rfl rfl (by decide) (D 16 _ rfl rfl)] at h; cases h⟩
                      | 29, ho, hT0, hl, D, DL =>
                        obtain rfl := Option.some.inj ho
                        obtain rfl := Option.some.inj hT0
                        clear ho hT0
                        exact ⟨fun _ => val_wp (ld_sg2 rfl (D 28 _ rfl rfl) hbs) rfl hM, fun h => by rw [w_yes (g := 16) (s := 125) (b := true) E rfl rfl (by decide) (D 16 _ rfl rfl)] at h; cases h⟩
                      | 30, ho, hT0, hl, D, DL =>
                        obtain rfl := Option.some.inj ho
                        obtain rfl := Option.some.inj hT0
                        clear ho hT0
                        exact ⟨fun _ => call_wp (run_call3 (enters_of Try.func40 (by kernel_rfl) rfl) rfl rfl (D 25 _ rfl rfl) (D 27 _ rfl rfl) (D 29 _ rfl rfl)) (ror_calls t.1 t.2 s.2 w5) rfl fun w9 f1 => (hM.trans f1), fun h => by rw [w_yes (g := 16) (s := 125) (b := true) E rfl rfl (by decide) (D 16 _ rfl rfl)] at h; cases h⟩
                      | 31, ho, hT0, hl, D, DL =>
                        obtain rfl := Option.some.inj ho
                        obtain rfl := Option.some.inj hT0
                        clear ho hT0
                        exact ⟨fun _ => val_wp (run_imul (D 23 _ rfl rfl) (D 30 _ rfl rfl) (oriN_lo _ _ _ _ _ _) (oriN_hi _ _ _ _ _ _) rfl) rfl hM, fun h => by rw [w_yes (g := 16) (s := 125) (b := true) E rfl rfl (by decide) (D 16 _ rfl rfl)] at h; cases h⟩
                      | 32, ho, hT0, hl, D, DL =>
                        obtain rfl := Option.some.inj ho
                        obtain rfl := Option.some.inj hT0
                        clear ho hT0
                        exact ⟨fun _ => val_wp (run_ilss (D 31 _ rfl rfl) rfl Try.underlying3 rfl) rfl hM, fun h => by rw [w_yes (g := 16) (s := 125) (b := true) E rfl rfl (by decide) (D 16 _ rfl rfl)] at h; cases h⟩
                      | 33, ho, hT0, hl, D, DL =>
                        obtain rfl := Option.some.inj ho
                        obtain rfl := Option.some.inj hT0
                        clear ho hT0
                        exact ⟨fun _ => val_wp (run_pick_t rfl (D 16 _ rfl rfl) (D 32 _ rfl rfl)) rfl hM, fun h => by rw [wanted_none rfl] at h; cases h⟩
                      | j9 + 34, ho, hT0, hl, D, DL => exact absurd hT0 (by simp)
                    · intro a w5 E V hM
                      have E := E.add (V 33 _ rfl)
                      clear V
                      have hbs := sgB.fr hbs hM id
                      have hbt := sgB.fr hbt hM id
                      have hen := PtsAt.fr hen hM id
                      have hO := own_fr hO hM (fun _ _ h => h)
                      have hBs := Nat.le_trans hBs hM.size
                      have hf := hf.trans hM
                      clear hM
                      refine then_n ?_
                      cases hq36 : (decide (((oriN t.1 t.2 s.1) * (oriN t.1 t.2 s.2)) < 0)) with
                      | false =>
                        rw [hq36] at E
                        refine wp_cond_false (E.get 0 rfl) ?_
                        refine wp_skip ?_
                        refine then_n ?_
                        refine wp_seq ?_
                        refine wp_region_lit ?_
                        refine env_put (d := 4) (v := .int .i64 0) E rfl (by decide) rfl (wanted_none rfl _) (run_assign rfl rfl) fun a E => ?_
                        refine wpList_nil ?_
                        refine then_n ?_
                        refine wp_ret ?_
                        refine ret_tmp (t := 4) rfl E (E.get 0 rfl) ⟨?_, hf⟩
                        rw [kind_cross hs ht hns (hcm.symm.trans hc0)]
                        rw [if_neg (fun h => of_decide_eq_false hq36 (by rw [oriN_near ht.1 ht.2 hs.1, oriN_near ht.1 ht.2 hs.2]; exact h.2))]
                      | true =>
                        rw [hq36] at E
                        refine wp_cond_true (E.get 0 rfl) ?_
                        refine wp_seq ?_
                        refine wp_region_lit ?_
                        refine env_put (d := 4) (v := .int .i64 3) E rfl (by decide) rfl (wanted_none rfl _) (run_assign rfl rfl) fun a E => ?_
                        refine wpList_nil ?_
                        refine then_n ?_
                        refine wp_ret ?_
                        refine then_r ?_
                        refine ret_tmp (t := 4) rfl E (E.get 0 rfl) ⟨?_, hf⟩
                        rw [kind_cross hs ht hns (hcm.symm.trans hc0)]
                        rw [if_pos ⟨by have h := of_decide_eq_true hq33; rwa [oriN_near hs.1 hs.2 ht.1, oriN_near hs.1 hs.2 ht.2] at h, by have h := of_decide_eq_true hq36; rwa [oriN_near ht.1 ht.2 hs.1, oriN_near ht.1 ht.2 hs.2] at h⟩]
                | true =>
                  rw [hq32] at E
                  obtain ⟨c, hc⟩ : ∃ c, cm = [c] := by
                    have h1 : cm.length = 1 := by have := eq_of_beq hq32; omega
                    match cm, h1 with
                    | [c], _ => exact ⟨c, rfl⟩
                  have h0t : 0 < cm.length := by rw [hc]; exact Nat.zero_lt_one
                  obtain ⟨gc, hpe, _, hrow⟩ := hO.at h0t
                  have hc1 : cm[0]? = some c := by rw [hc]; rfl
                  refine wp_cond_true (E.get 0 rfl) ?_
                  refine wp_seq ?_
                  refine wp_seq ?_
                  cases hq37 : (decide (c = s.1 ∨ c = s.2)) with
                  | false =>
                    refine wp_region_invg (n := 143) (base := [(96, .bool true), (95, .int .i64 (cm.length : Int)), (94, .slice (pc) cm.length cc), (93, .bool false), (92, .int .i64 (cm.length : Int)), (91, .slice (pc) cm.length cc), (45, .bool false), (44, .int .i64 (i : Int)), (7, .int .i64 (i : Int)), (6, .slice (pc) cm.length cc), (5, .slice (some ⟨be, 0, none⟩) 4 4), (3, .pointer (some ⟨bt, 0, none⟩)), (2, .pointer (some ⟨bs, 0, none⟩))]) (T := [some (97, .agg (sgC s)), some (98, .slice (pc) cm.length cc), some (99, .pointer (some ⟨gc, (0 * 2), none⟩)), some (100, .agg (ptC c)), some (101, .bool false), some (102, .bool false), some (103, undef), some (104, undef), some (105, undef), some (106, undef), some (107, undef), some (108, .bool false)]) (M := fun _ w5 => Fr (fun _ => False) w2 w5) (by kernel_rfl) (by kernel_rfl) (by kernel_rfl) (E.of ⟨E.get 0 rfl, E.get 1 rfl, E.get 2 rfl, E.get 3 rfl, E.get 4 rfl, E.get 5 rfl, E.get 6 rfl, E.get 7 rfl, E.get 8 rfl, E.get 9 rfl, E.get 10 rfl, E.get 11 rfl, E.get 12 rfl, trivial⟩) (Fr.refl _ _).drew ?_ ?_
                    · intro j9 o9 t9 ls9 a w5 ho hT0 hl E D DL hM
                      have hbs := sgB.fr hbs hM id
                      have hbt := sgB.fr hbt hM id
                      have hen := PtsAt.fr hen hM id
                      have hO := own_fr hO hM (fun _ _ h => h)
                      have hBs := Nat.le_trans hBs hM.size
                      have hrow := PtsAt.fr hrow hM id
                      match j9, ho, hT0, hl, D, DL with
                      | 0, ho, hT0, hl, D, DL =>
                        obtain rfl := Option.some.inj ho
                        obtain rfl := Option.some.inj hT0
                        clear ho hT0
                        exact ⟨fun _ => val_wp (ld_sg rfl (E.get 12 rfl) hbs) rfl hM, fun h => by rw [wanted_none rfl] at h; cases h⟩
                      | 1, ho, hT0, hl, D, DL =>
                        obtain rfl := Option.some.inj ho
                        obtain rfl := Option.some.inj hT0
                        clear ho hT0
                        exact ⟨fun _ => val_wp (run_move rfl (E.get 9 rfl)) rfl hM, fun h => by rw [wanted_none rfl] at h; cases h⟩
                      | 2, ho, hT0, hl, D, DL =>
                        obtain rfl := Option.some.inj ho
                        obtain rfl := Option.some.inj hT0
                        clear ho hT0
                        exact ⟨fun _ => val_wp (run_index69 (i := 0) rfl ((D 1 _ rfl rfl).trans (by rw [hpe])) rfl h0t) rfl hM, fun h => by rw [wanted_none rfl] at h; cases h⟩
                      | 3, ho, hT0, hl, D, DL =>
                        obtain rfl := Option.some.inj ho
                        obtain rfl := Option.some.inj hT0
                        clear ho hT0
                        exact ⟨fun _ => val_wp (ld_ptAt rfl (D 2 _ rfl rfl) hrow hc1) rfl hM, fun h => by rw [wanted_none rfl] at h; cases h⟩
                      | 4, ho, hT0, hl, D, DL =>
                        obtain rfl := Option.some.inj ho
                        obtain rfl := Option.some.inj hT0
                        clear ho hT0
                        exact ⟨fun _ => call_wp (run_call2 (enters_of Try.func39 (by kernel_rfl) rfl) rfl rfl (D 0 _ rfl rfl) (D 3 _ rfl rfl)) (by have h := (rend_calls s c w5); rw [hq37] at h; exact h) rfl fun w9 f1 => (hM.trans f1), fun h => by rw [wanted_none rfl] at h; cases h⟩
                      | 5, ho, hT0, hl, D, DL =>
                        obtain rfl := Option.some.inj ho
                        obtain rfl := Option.some.inj hT0
                        clear ho hT0
                        exact ⟨fun _ => val_wp (run_move rfl (D 4 _ rfl rfl)) rfl hM, fun h => by rw [wanted_none rfl] at h; cases h⟩
                      | 6, ho, hT0, hl, D, DL =>
                        obtain rfl := Option.some.inj ho
                        obtain rfl := Option.some.inj hT0
                        clear ho hT0
                        exact ⟨fun h => (by rw [w_no (g := 5) (s := 102) (b := true) E rfl rfl (by decide) (D 5 _ rfl rfl)] at h; cases h), fun _ => ⟨fun x hx => by cases hx; rfl, hM⟩⟩
                      | 7, ho, hT0, hl, D, DL =>
                        obtain rfl := Option.some.inj ho
                        obtain rfl := Option.some.inj hT0
                        clear ho hT0
                        exact ⟨fun h => (by rw [w_no (g := 5) (s := 102) (b := true) E rfl rfl (by decide) (D 5 _ rfl rfl)] at h; cases h), fun _ => ⟨fun x hx => by cases hx; rfl, hM⟩⟩
                      | 8, ho, hT0, hl, D, DL =>
                        obtain rfl := Option.some.inj ho
                        obtain rfl := Option.some.inj hT0
                        clear ho hT0
                        exact ⟨fun h => (by rw [w_no (g := 5) (s := 102) (b := true) E rfl rfl (by decide) (D 5 _ rfl rfl)] at h; cases h), fun _ => ⟨fun x hx => by cases hx; rfl, hM⟩⟩
                      | 9, ho, hT0, hl, D, DL =>
                        obtain rfl := Option.some.inj ho
                        obtain rfl := Option.some.inj hT0
                        clear ho hT0
                        exact ⟨fun h => (by rw [w_no (g := 5) (s := 102) (b := true) E rfl rfl (by decide) (D 5 _ rfl rfl)] at h; cases h), fun _ => ⟨fun x hx => by cases hx; rfl, hM⟩⟩
                      | 10, ho, hT0, hl, D, DL =>
                        obtain rfl := Option.some.inj ho
                        obtain rfl := Option.some.inj hT0
                        clear ho hT0
                        exact ⟨fun h => (by rw [w_no (g := 5) (s := 102) (b := true) E rfl rfl (by decide) (D 5 _ rfl rfl)] at h; cases h), fun _ => ⟨fun x hx => by cases hx; rfl, hM⟩⟩
                      | 11, ho, hT0, hl, D, DL =>
                        obtain rfl := Option.some.inj ho
                        obtain rfl := Option.some.inj hT0
                        clear ho hT0
                        exact ⟨fun _ => val_wp (run_pick_f rfl (D 5 _ rfl rfl) rfl) rfl hM, fun h => by rw [wanted_none rfl] at h; cases h⟩
                      | j9 + 12, ho, hT0, hl, D, DL => exact absurd hT0 (by simp)
                    · intro a w5 E V hM
                      have E := E.add (V 11 _ rfl)
                      clear V
                      have hbs := sgB.fr hbs hM id
                      have hbt := sgB.fr hbt hM id
                      have hen := PtsAt.fr hen hM id
                      have hO := own_fr hO hM (fun _ _ h => h)
                      have hBs := Nat.le_trans hBs hM.size
                      have hrow := PtsAt.fr hrow hM id
                      have hf := hf.trans hM
                      clear hM
                      refine then_n ?_
                      refine wp_cond_false (E.get 0 rfl) ?_
                      refine wp_skip ?_
                      refine then_n ?_
                      refine wp_seq ?_
                      refine wp_region_lit ?_
                      refine env_put (d := 4) (v := .int .i64 2) E rfl (by decide) rfl (wanted_none rfl _) (run_assign rfl rfl) fun a E => ?_
                      refine wpList_nil ?_
                      refine then_n ?_
                      refine wp_ret ?_
                      refine then_r ?_
                      refine ret_tmp (t := 4) rfl E (E.get 0 rfl) ⟨?_, hf⟩
                      rw [kind_touch hs ht hns (hcm.symm.trans hc) (fun h => of_decide_eq_false hq37 h.1)]
                  | true =>
                    refine wp_region_invg (n := 143) (base := [(96, .bool true), (95, .int .i64 (cm.length : Int)), (94, .slice (pc) cm.length cc), (93, .bool false), (92, .int .i64 (cm.length : Int)), (91, .slice (pc) cm.length cc), (45, .bool false), (44, .int .i64 (i : Int)), (7, .int .i64 (i : Int)), (6, .slice (pc) cm.length cc), (5, .slice (some ⟨be, 0, none⟩) 4 4), (3, .pointer (some ⟨bt, 0, none⟩)), (2, .pointer (some ⟨bs, 0, none⟩))]) (T := [some (97, .agg (sgC s)), some (98, .slice (pc) cm.length cc), some (99, .pointer (some ⟨gc, (0 * 2), none⟩)), some (100, .agg (ptC c)), some (101, .bool true), some (102, .bool true), some (103, .agg (sgC t)), some (104, .slice (pc) cm.length cc), some (105, .pointer (some ⟨gc, (0 * 2), none⟩)), some (106, .agg (ptC c)), some (107, .bool (decide (c = t.1 ∨ c = t.2))), some (108, .bool (decide (c = t.1 ∨ c = t.2)))]) (M := fun _ w5 => Fr (fun _ => False) w2 w5) (by kernel_rfl) (by kernel_rfl) (by kernel_rfl) (E.of ⟨E.get 0 rfl, E.get 1 rfl, E.get 2 rfl, E.get 3 rfl, E.get 4 rfl, E.get 5 rfl, E.get 6 rfl, E.get 7 rfl, E.get 8 rfl, E.get 9 rfl, E.get 10 rfl, E.get 11 rfl, E.get 12 rfl, trivial⟩) (Fr.refl _ _).drew ?_ ?_
                    · intro j9 o9 t9 ls9 a w5 ho hT0 hl E D DL hM
                      have hbs := sgB.fr hbs hM id
                      have hbt := sgB.fr hbt hM id
                      have hen := PtsAt.fr hen hM id
                      have hO := own_fr hO hM (fun _ _ h => h)
                      have hBs := Nat.le_trans hBs hM.size
                      have hrow := PtsAt.fr hrow hM id
                      match j9, ho, hT0, hl, D, DL with
                      | 0, ho, hT0, hl, D, DL =>
                        obtain rfl := Option.some.inj ho
                        obtain rfl := Option.some.inj hT0
                        clear ho hT0
                        exact ⟨fun _ => val_wp (ld_sg rfl (E.get 12 rfl) hbs) rfl hM, fun h => by rw [wanted_none rfl] at h; cases h⟩
                      | 1, ho, hT0, hl, D, DL =>
                        obtain rfl := Option.some.inj ho
                        obtain rfl := Option.some.inj hT0
                        clear ho hT0
                        exact ⟨fun _ => val_wp (run_move rfl (E.get 9 rfl)) rfl hM, fun h => by rw [wanted_none rfl] at h; cases h⟩
                      | 2, ho, hT0, hl, D, DL =>
                        obtain rfl := Option.some.inj ho
                        obtain rfl := Option.some.inj hT0
                        clear ho hT0
                        exact ⟨fun _ => val_wp (run_index69 (i := 0) rfl ((D 1 _ rfl rfl).trans (by rw [hpe])) rfl h0t) rfl hM, fun h => by rw [wanted_none rfl] at h; cases h⟩
                      | 3, ho, hT0, hl, D, DL =>
                        obtain rfl := Option.some.inj ho
                        obtain rfl := Option.some.inj hT0
                        clear ho hT0
                        exact ⟨fun _ => val_wp (ld_ptAt rfl (D 2 _ rfl rfl) hrow hc1) rfl hM, fun h => by rw [wanted_none rfl] at h; cases h⟩
                      | 4, ho, hT0, hl, D, DL =>
                        obtain rfl := Option.some.inj ho
                        obtain rfl := Option.some.inj hT0
                        clear ho hT0
                        exact ⟨fun _ => call_wp (run_call2 (enters_of Try.func39 (by kernel_rfl) rfl) rfl rfl (D 0 _ rfl rfl) (D 3 _ rfl rfl)) (by have h := (rend_calls s c w5); rw [hq37] at h; exact h) rfl fun w9 f1 => (hM.trans f1), fun h => by rw [wanted_none rfl] at h; cases h⟩
                      | 5, ho, hT0, hl, D, DL =>
                        obtain rfl := Option.some.inj ho
                        obtain rfl := Option.some.inj hT0
                        clear ho hT0
                        exact ⟨fun _ => val_wp (run_move rfl (D 4 _ rfl rfl)) rfl hM, fun h => by rw [wanted_none rfl] at h; cases h⟩
                      | 6, ho, hT0, hl, D, DL =>
                        obtain rfl := Option.some.inj ho
                        obtain rfl := Option.some.inj hT0
                        clear ho hT0
                        exact ⟨fun _ => val_wp (ld_sg rfl (E.get 11 rfl) hbt) rfl hM, fun h => by rw [w_yes (g := 5) (s := 102) (b := true) E rfl rfl (by decide) (D 5 _ rfl rfl)] at h; cases h⟩
                      | 7, ho, hT0, hl, D, DL =>
                        obtain rfl := Option.some.inj ho
                        obtain rfl := Option.some.inj hT0
                        clear ho hT0
                        exact ⟨fun _ => val_wp (run_move rfl (E.get 9 rfl)) rfl hM, fun h => by rw [w_yes (g := 5) (s := 102) (b := true) E rfl rfl (by decide) (D 5 _ rfl rfl)] at h; cases h⟩
                      | 8, ho, hT0, hl, D, DL =>
                        obtain rfl := Option.some.inj ho
                        obtain rfl := Option.some.inj hT0
                        clear ho hT0
                        exact ⟨fun _ => val_wp (run_index69 (i := 0) rfl ((D 7 _ rfl rfl).trans (by rw [hpe])) rfl h0t) rfl hM, fun h => by rw [w_yes (g := 5) (s := 102) (b := true) E rfl rfl (by decide) (D 5 _ rfl rfl)] at h; cases h⟩
                      | 9, ho, hT0, hl, D, DL =>
                        obtain rfl := Option.some.inj ho
                        obtain rfl := Option.some.inj hT0
                        clear ho hT0
                        exact ⟨fun _ => val_wp (ld_ptAt rfl (D 8 _ rfl rfl) hrow hc1) rfl hM, fun h => by rw [w_yes (g := 5) (s := 102) (b := true) E rfl rfl (by decide) (D 5 _ rfl rfl)] at h; cases h⟩
                      | 10, ho, hT0, hl, D, DL =>
                        obtain rfl := Option.some.inj ho
                        obtain rfl := Option.some.inj hT0
                        clear ho hT0
                        exact ⟨fun _ => call_wp (run_call2 (enters_of Try.func39 (by kernel_rfl) rfl) rfl rfl (D 6 _ rfl rfl) (D 9 _ rfl rfl)) (rend_calls t c w5) rfl fun w9 f1 => (hM.trans f1), fun h => by rw [w_yes (g := 5) (s := 102) (b := true) E rfl rfl (by decide) (D 5 _ rfl rfl)] at h; cases h⟩
                      | 11, ho, hT0, hl, D, DL =>
                        obtain rfl := Option.some.inj ho
                        obtain rfl := Option.some.inj hT0
                        clear ho hT0
                        exact ⟨fun _ => val_wp (run_pick_t rfl (D 5 _ rfl rfl) (D 10 _ rfl rfl)) rfl hM, fun h => by rw [wanted_none rfl] at h; cases h⟩
                      | j9 + 12, ho, hT0, hl, D, DL => exact absurd hT0 (by simp)
                    · intro a w5 E V hM
                      have E := E.add (V 11 _ rfl)
                      clear V
                      have hbs := sgB.fr hbs hM id
                      have hbt := sgB.fr hbt hM id
                      have hen := PtsAt.fr hen hM id
                      have hO := own_fr hO hM (fun _ _ h => h)
                      have hBs := Nat.le_trans hBs hM.size
                      have hrow := PtsAt.fr hrow hM id
                      have hf := hf.trans hM
                      clear hM
                      refine then_n ?_
                      cases hq40 : (decide (c = t.1 ∨ c = t.2)) with
                      | false =>
                        rw [hq40] at E
                        refine wp_cond_false (E.get 0 rfl) ?_
                        refine wp_skip ?_
                        refine then_n ?_
                        refine wp_seq ?_
                        refine wp_region_lit ?_
                        refine env_put (d := 4) (v := .int .i64 2) E rfl (by decide) rfl (wanted_none rfl _) (run_assign rfl rfl) fun a E => ?_
                        refine wpList_nil ?_
                        refine then_n ?_
                        refine wp_ret ?_
                        refine then_r ?_
                        refine ret_tmp (t := 4) rfl E (E.get 0 rfl) ⟨?_, hf⟩
                        rw [kind_touch hs ht hns (hcm.symm.trans hc) (fun h => of_decide_eq_false hq40 h.2)]
                      | true =>
                        rw [hq40] at E
                        refine wp_cond_true (E.get 0 rfl) ?_
                        refine wp_seq ?_
                        refine wp_region_lit ?_
                        refine env_put (d := 4) (v := .int .i64 1) E rfl (by decide) rfl (wanted_none rfl _) (run_assign rfl rfl) fun a E => ?_
                        refine wpList_nil ?_
                        refine then_n ?_
                        refine wp_ret ?_
                        refine then_r ?_
                        refine then_r ?_
                        refine ret_tmp (t := 4) rfl E (E.get 0 rfl) ⟨?_, hf⟩
                        rw [kind_end hs ht hns (hcm.symm.trans hc) (of_decide_eq_true hq37) (of_decide_eq_true hq40)]
              | true =>
                rw [hq31] at E
                refine wp_cond_true (E.get 0 rfl) ?_
                refine wp_seq ?_
                refine wp_region_lit ?_
                refine env_put (d := 4) (v := .int .i64 5) E rfl (by decide) rfl (wanted_none rfl _) (run_assign rfl rfl) fun a E => ?_
                refine wpList_nil ?_
                refine then_n ?_
                refine wp_ret ?_
                refine then_r ?_
                refine ret_tmp (t := 4) rfl E (E.get 0 rfl) ⟨?_, hf⟩
                rw [kind_many hs ht hns (by rw [← hcm]; have := of_decide_eq_true hq31; omega)]
            | true =>
              rw [hq30] at E
              have hi4 : i < 4 := by have := of_decide_eq_true hq30; omega
              obtain ⟨e, he⟩ : ∃ e, (endsL s t)[i]? = some e := ⟨_, List.getElem?_eq_getElem (show i < 4 from hi4)⟩
              refine wp_cond_true (E.get 0 rfl) ?_
              refine wp_skip ?_
              refine then_n ?_
              refine wp_seq ?_
              refine wp_block ?_
              refine wp_seq ?_
              refine wp_region_lit ?_
              refine env_put (d := 8) (v := .bool false) E rfl (by decide) rfl (wanted_none rfl _) (run_assign rfl rfl) fun a E => ?_
              refine wpList_nil ?_
              refine then_n ?_
              refine wp_seq ?_
              refine wp_seq ?_
              refine wp_region_lit ?_
              refine env_put (d := 9) (v := .int .i64 0) E rfl (by decide) rfl (wanted_none rfl _) (run_assign rfl rfl) fun a E => ?_
              refine wpList_nil ?_
              refine then_n ?_
              refine wp_block ?_
              refine wp_loop (fun a w2 => ∃ (k : Nat) (tw : Bool), Env 143 [(9, .int .i64 (k : Int)), (8, .bool tw), (7, .int .i64 (i : Int)), (6, .slice (pc) cm.length cc), (5, .slice (some ⟨be, 0, none⟩) 4 4), (3, .pointer (some ⟨bt, 0, none⟩)), (2, .pointer (some ⟨bs, 0, none⟩))] a ∧ k ≤ cm.length ∧ Hid (tw = (cm.take k).contains e) ∧ oP w2 B (.slice pc cm.length cc) cm ∧ sgB w2 bs s ∧ sgB w2 bt t ∧ PtsAt w2 be (endsL s t) ∧ B ≤ w2.heap.size ∧ Fr (fun _ => False) w w2) (fun a _ => cm.length - (intOf (a.eval (.tmp 9))).toNat) ?_ ?_
              · exact ⟨0, false, E.of ⟨E.get 0 rfl, E.get 1 rfl, E.get 4 rfl, E.get 5 rfl, E.get 6 rfl, E.get 7 rfl, E.get 8 rfl, trivial⟩, Nat.zero_le _, rfl, hO, hbs, hbt, hen, hBs, hf⟩
              clear E
              rintro a w2 ⟨k, tw, E, hk, htw, hO, hbs, hbt, hen, hBs, hf⟩
              have hmu : cm.length - (intOf (a.eval (.tmp 9))).toNat = cm.length - k := by rw [E.get 0 rfl]; first | (simp [intOf]; done) | (simp only [intOf]; omega)
              rw [hmu]
              clear hmu
              refine wp_seq ?_
              refine wp_seq ?_
              refine wp_region_lit ?_
              refine env_put (d := 48) (v := .int .i64 (k : Int)) E rfl (by decide) rfl (wanted_none rfl _) (run_move rfl (E.get 0 rfl)) fun a E => ?_
              refine env_put (d := 49) (v := .slice (pc) cm.length cc) E rfl (by decide) rfl (wanted_none rfl _) (run_move rfl (E.get 4 rfl)) fun a E => ?_
              refine env_put (d := 50) (v := .int .i64 (cm.length : Int)) E rfl (by decide) rfl (wanted_none rfl _) (run_len69 rfl (E.get 0 rfl)) fun a E => ?_
              refine env_put (d := 51) (v := .bool (decide ((k : Int) < (cm.length : Int)))) E rfl (by decide) rfl (wanted_none rfl _) (run_ilss (E.get 2 rfl) (E.get 0 rfl) Try.underlying3 rfl) fun a E => ?_
              refine wpList_nil ?_
              refine then_n ?_
              cases hq42 : (decide ((k : Int) < (cm.length : Int))) with
              | false =>
                rw [hq42] at E
                have htc : tw = cm.contains e := by rw [htw.out, List.take_of_length_le (by have := of_decide_eq_false hq42; omega)]
                refine wp_cond_false (E.get 0 rfl) ?_
                refine wp_exit ?_
                refine then_e ?_
                refine then_e ?_
                refine blk_e ?_
                refine then_n ?_
                refine wp_seq ?_
                cases hq43 : tw with
                | false =>
                  rw [hq43] at E
                  cases hq44 : (decide (ronP s e)) with
                  | false =>
                    refine wp_region_invg (n := 143) (base := [(51, .bool false), (50, .int .i64 (cm.length : Int)), (49, .slice (pc) cm.length cc), (48, .int .i64 (k : Int)), (9, .int .i64 (k : Int)), (8, .bool false), (7, .int .i64 (i : Int)), (6, .slice (pc) cm.length cc), (5, .slice (some ⟨be, 0, none⟩) 4 4), (3, .pointer (some ⟨bt, 0, none⟩)), (2, .pointer (some ⟨bs, 0, none⟩))]) (T := [some (66, .bool false), some (67, .bool true), some (68, .bool true), some (69, .agg (sgC s)), some (70, .slice (some ⟨be, 0, none⟩) 4 4), some (71, .int .i64 (i : Int)), some (72, .pointer (some ⟨be, (i * 2), none⟩)), some (73, .agg (ptC e)), some (74, .bool false), some (75, .bool false), some (76, .bool false), some (77, undef), some (78, undef), some (79, undef), some (80, undef), some (81, undef), some (82, undef), some (83, .bool false)]) (M := fun _ w5 => Fr (fun _ => False) w2 w5) (by kernel_rfl) (by kernel_rfl) (by kernel_rfl) (E.of ⟨E.get 0 rfl, E.get 1 rfl, E.get 2 rfl, E.get 3 rfl, E.get 4 rfl, E.get 5 rfl, E.get 6 rfl, E.get 7 rfl, E.get 8 rfl, E.get 9 rfl, E.get 10 rfl, trivial⟩) (Fr.refl _ _).drew ?_ ?_
                    · intro j9 o9 t9 ls9 a w5 ho hT0 hl E D DL hM
                      have hbs := sgB.fr hbs hM id
                      have hbt := sgB.fr hbt hM id
                      have hen := PtsAt.fr hen hM id
                      have hO := own_fr hO hM (fun _ _ h => h)
                      have hBs := Nat.le_trans hBs hM.size
                      match j9, ho, hT0, hl, D, DL with
                      | 0, ho, hT0, hl, D, DL =>
                        obtain rfl := Option.some.inj ho
                        obtain rfl := Option.some.inj hT0
                        clear ho hT0
                        exact ⟨fun _ => val_wp (run_move rfl (E.get 5 rfl)) rfl hM, fun h => by rw [wanted_none rfl] at h; cases h⟩
                      | 1, ho, hT0, hl, D, DL =>
                        obtain rfl := Option.some.inj ho
                        obtain rfl := Option.some.inj hT0
                        clear ho hT0
                        exact ⟨fun _ => val_wp (run_not rfl (D 0 _ rfl rfl)) rfl hM, fun h => by rw [wanted_none rfl] at h; cases h⟩
                      | 2, ho, hT0, hl, D, DL =>
                        obtain rfl := Option.some.inj ho
                        obtain rfl := Option.some.inj hT0
                        clear ho hT0
                        exact ⟨fun _ => val_wp (run_move rfl (D 1 _ rfl rfl)) rfl hM, fun h => by rw [wanted_none rfl] at h; cases h⟩
                      | 3, ho, hT0, hl, D, DL =>
                        obtain rfl := Option.some.inj ho
                        obtain rfl := Option.some.inj hT0
                        clear ho hT0
                        exact ⟨fun _ => val_wp (ld_sg rfl (E.get 10 rfl) hbs) rfl hM, fun h => by rw [w_yes (g := 2) (s := 68) (b := true) E rfl rfl (by decide) (D 2 _ rfl rfl)] at h; cases h⟩
                      | 4, ho, hT0, hl, D, DL =>
                        obtain rfl := Option.some.inj ho
                        obtain rfl := Option.some.inj hT0
                        clear ho hT0
                        exact ⟨fun _ => val_wp (run_move rfl (E.get 8 rfl)) rfl hM, fun h => by rw [w_yes (g := 2) (s := 68) (b := true) E rfl rfl (by decide) (D 2 _ rfl rfl)] at h; cases h⟩
                      | 5, ho, hT0, hl, D, DL =>
                        obtain rfl := Option.some.inj ho
                        obtain rfl := Option.some.inj hT0
                        clear ho hT0
                        exact ⟨fun _ => val_wp (run_move rfl (E.get 6 rfl)) rfl hM, fun h => by rw [w_yes (g := 2) (s := 68) (b := true) E rfl rfl (by decide) (D 2 _ rfl rfl)] at h; cases h⟩
                      | 6, ho, hT0, hl, D, DL =>
                        obtain rfl := Option.some.inj ho
                        obtain rfl := Option.some.inj hT0
                        clear ho hT0
                        exact ⟨fun _ => val_wp (run_index69 (i := i) rfl (D 4 _ rfl rfl) (D 5 _ rfl rfl) hi4) rfl hM, fun h => by rw [w_yes (g := 2) (s := 68) (b := true) E rfl rfl (by decide) (D 2 _ rfl rfl)] at h; cases h⟩
                      | 7, ho, hT0, hl, D, DL =>
                        obtain rfl := Option.some.inj ho
                        obtain rfl := Option.some.inj hT0
                        clear ho hT0
                        exact ⟨fun _ => val_wp (ld_ptAt rfl (D 6 _ rfl rfl) hen he) rfl hM, fun h => by rw [w_yes (g := 2) (s := 68) (b := true) E rfl rfl (by decide) (D 2 _ rfl rfl)] at h; cases h⟩
                      | 8, ho, hT0, hl, D, DL =>
                        obtain rfl := Option.some.inj ho
                        obtain rfl := Option.some.inj hT0
                        clear ho hT0
                        exact ⟨fun _ => call_wp (run_call2 (enters_of Try.func38 (by kernel_rfl) rfl) rfl rfl (D 3 _ rfl rfl) (D 7 _ rfl rfl)) (by have h := (ron_calls s e w5); rw [hq44] at h; exact h) rfl fun w9 f1 => (hM.trans f1), fun h => by rw [w_yes (g := 2) (s := 68) (b := true) E rfl rfl (by decide) (D 2 _ rfl rfl)] at h; cases h⟩
                      | 9, ho, hT0, hl, D, DL =>
                        obtain rfl := Option.some.inj ho
                        obtain rfl := Option.some.inj hT0
                        clear ho hT0
                        exact ⟨fun _ => val_wp (run_pick_t rfl (D 2 _ rfl rfl) (D 8 _ rfl rfl)) rfl hM, fun h => by rw [wanted_none rfl] at h; cases h⟩
                      | 10, ho, hT0, hl, D, DL =>
                        obtain rfl := Option.some.inj ho
                        obtain rfl := Option.some.inj hT0
                        clear ho hT0
                        exact ⟨fun _ => val_wp (run_move rfl (D 9 _ rfl rfl)) rfl hM, fun h => by rw [wanted_none rfl] at h; cases h⟩
                      | 11, ho, hT0, hl, D, DL =>
                        obtain rfl := Option.some.inj ho
                        obtain rfl := Option.some.inj hT0
                        clear ho hT0
                        exact ⟨fun h => (by rw [w_no (g := 10) (s := 76) (b := true) E rfl rfl (by decide) (D 10 _ rfl rfl)] at h; cases h), fun _ => ⟨fun x hx => by cases hx; rfl, hM⟩⟩
                      | 12, ho, hT0, hl, D, DL =>
                        obtain rfl := Option.some.inj ho
                        obtain rfl := Option.some.inj hT0
                        clear ho hT0
                        exact ⟨fun h => (by rw [w_no (g := 10) (s := 76) (b := true) E rfl rfl (by decide) (D 10 _ rfl rfl)] at h; cases h), fun _ => ⟨fun x hx => by cases hx; rfl, hM⟩⟩
                      | 13, ho, hT0, hl, D, DL =>
                        obtain rfl := Option.some.inj ho
                        obtain rfl := Option.some.inj hT0
                        clear ho hT0
                        exact ⟨fun h => (by rw [w_no (g := 10) (s := 76) (b := true) E rfl rfl (by decide) (D 10 _ rfl rfl)] at h; cases h), fun _ => ⟨fun x hx => by cases hx; rfl, hM⟩⟩
                      | 14, ho, hT0, hl, D, DL =>
                        obtain rfl := Option.some.inj ho
                        obtain rfl := Option.some.inj hT0
                        clear ho hT0
                        exact ⟨fun h => (by rw [w_no (g := 10) (s := 76) (b := true) E rfl rfl (by decide) (D 10 _ rfl rfl)] at h; cases h), fun _ => ⟨fun x hx => by cases hx; rfl, hM⟩⟩
                      | 15, ho, hT0, hl, D, DL =>
                        obtain rfl := Option.some.inj ho
                        obtain rfl := Option.some.inj hT0
                        clear ho hT0
                        exact ⟨fun h => (by rw [w_no (g := 10) (s := 76) (b := true) E rfl rfl (by decide) (D 10 _ rfl rfl)] at h; cases h), fun _ => ⟨fun x hx => by cases hx; rfl, hM⟩⟩
                      | 16, ho, hT0, hl, D, DL =>
                        obtain rfl := Option.some.inj ho
                        obtain rfl := Option.some.inj hT0
                        clear ho hT0
                        exact ⟨fun h => (by rw [w_no (g := 10) (s := 76) (b := true) E rfl rfl (by decide) (D 10 _ rfl rfl)] at h; cases h), fun _ => ⟨fun x hx => by cases hx; rfl, hM⟩⟩
                      | 17, ho, hT0, hl, D, DL =>
                        obtain rfl := Option.some.inj ho
                        obtain rfl := Option.some.inj hT0
                        clear ho hT0
                        exact ⟨fun _ => val_wp (run_pick_f rfl (D 10 _ rfl rfl) rfl) rfl hM, fun h => by rw [wanted_none rfl] at h; cases h⟩
                      | j9 + 18, ho, hT0, hl, D, DL => exact absurd hT0 (by simp)
                    · intro a w5 E V hM
                      have E := E.add (V 17 _ rfl)
                      clear V
                      have hbs := sgB.fr hbs hM id
                      have hbt := sgB.fr hbt hM id
                      have hen := PtsAt.fr hen hM id
                      have hO := own_fr hO hM (fun _ _ h => h)
                      have hBs := Nat.le_trans hBs hM.size
                      have hf := hf.trans hM
                      clear hM
                      refine then_n ?_
                      refine wp_cond_false (E.get 0 rfl) ?_
                      refine wp_skip ?_
                      refine blk_n ?_
                      refine then_n ?_
                      refine wp_region_lit ?_
                      refine env_put (d := 46) (v := .int .i64 (i : Int)) E rfl (by decide) rfl (wanted_none rfl _) (run_move rfl (E.get 7 rfl)) fun a E => ?_
                      refine env_put (d := 47) (v := .int .i64 ((i : Int) + 1)) E rfl (by decide) rfl (wanted_none rfl _) (run_iadd (E.get 0 rfl) rfl (by omega) (by omega) rfl) fun a E => ?_
                      refine env_set (d := 7) (v := .int .i64 ((i : Int) + 1)) E rfl (by decide) (wanted_none rfl _) (run_assign rfl (E.get 0 rfl)) fun a E => ?_
                      refine wpList_nil ?_
                      refine then_n ?_
                      refine ⟨⟨i + 1, cm, .slice (pc) cm.length cc, E.of ⟨E.get 0 rfl, E.get 10 rfl, E.get 11 rfl, E.get 12 rfl, E.get 13 rfl, trivial⟩, hi4, ?_, hO, hbs, hbt, hen, hBs, hf⟩, ?_⟩
                      · exact com_skip he hcm.out (.inr (by unfold fC; rw [hq44]; rfl))
                      · rw [E.get 0 rfl]; simp only [intOf]; omega
                  | true =>
                    refine wp_region_invg (n := 143) (base := [(51, .bool false), (50, .int .i64 (cm.length : Int)), (49, .slice (pc) cm.length cc), (48, .int .i64 (k : Int)), (9, .int .i64 (k : Int)), (8, .bool false), (7, .int .i64 (i : Int)), (6, .slice (pc) cm.length cc), (5, .slice (some ⟨be, 0, none⟩) 4 4), (3, .pointer (some ⟨bt, 0, none⟩)), (2, .pointer (some ⟨bs, 0, none⟩))]) (T := [some (66, .bool false), some (67, .bool true), some (68, .bool true), some (69, .agg (sgC s)), some (70, .slice (some ⟨be, 0, none⟩) 4 4), some (71, .int .i64 (i : Int)), some (72, .pointer (some ⟨be, (i * 2), none⟩)), some (73, .agg (ptC e)), some (74, .bool true), some (75, .bool true), some (76, .bool true), some (77, .agg (sgC t)), some (78, .slice (some ⟨be, 0, none⟩) 4 4), some (79, .int .i64 (i : Int)), some (80, .pointer (some ⟨be, (i * 2), none⟩)), some (81, .agg (ptC e)), some (82, .bool (decide (ronP t e))), some (83, .bool (decide (ronP t e)))]) (M := fun _ w5 => Fr (fun _ => False) w2 w5) (by kernel_rfl) (by kernel_rfl) (by kernel_rfl) (E.of ⟨E.get 0 rfl, E.get 1 rfl, E.get 2 rfl, E.get 3 rfl, E.get 4 rfl, E.get 5 rfl, E.get 6 rfl, E.get 7 rfl, E.get 8 rfl, E.get 9 rfl, E.get 10 rfl, trivial⟩) (Fr.refl _ _).drew ?_ ?_
                    · intro j9 o9 t9 ls9 a w5 ho hT0 hl E D DL hM
                      have hbs := sgB.fr hbs hM id
                      have hbt := sgB.fr hbt hM id
                      have hen := PtsAt.fr hen hM id
                      have hO := own_fr hO hM (fun _ _ h => h)
                      have hBs := Nat.le_trans hBs hM.size
                      match j9, ho, hT0, hl, D, DL with
                      | 0, ho, hT0, hl, D, DL =>
                        obtain rfl := Option.some.inj ho
                        obtain rfl := Option.some.inj hT0
                        clear ho hT0
                        exact ⟨fun _ => val_wp (run_move rfl (E.get 5 rfl)) rfl hM, fun h => by rw [wanted_none rfl] at h; cases h⟩
                      | 1, ho, hT0, hl, D, DL =>
                        obtain rfl := Option.some.inj ho
                        obtain rfl := Option.some.inj hT0
                        clear ho hT0
                        exact ⟨fun _ => val_wp (run_not rfl (D 0 _ rfl rfl)) rfl hM, fun h => by rw [wanted_none rfl] at h; cases h⟩
                      | 2, ho, hT0, hl, D, DL =>
                        obtain rfl := Option.some.inj ho
                        obtain rfl := Option.some.inj hT0
                        clear ho hT0
                        exact ⟨fun _ => val_wp (run_move rfl (D 1 _ rfl rfl)) rfl hM, fun h => by rw [wanted_none rfl] at h; cases h⟩
                      | 3, ho, hT0, hl, D, DL =>
                        obtain rfl := Option.some.inj ho
                        obtain rfl := Option.some.inj hT0
                        clear ho hT0
                        exact ⟨fun _ => val_wp (ld_sg rfl (E.get 10 rfl) hbs) rfl hM, fun h => by rw [w_yes (g := 2) (s := 68) (b := true) E rfl rfl (by decide) (D 2 _ rfl rfl)] at h; cases h⟩
                      | 4, ho, hT0, hl, D, DL =>
                        obtain rfl := Option.some.inj ho
                        obtain rfl := Option.some.inj hT0
                        clear ho hT0
                        exact ⟨fun _ => val_wp (run_move rfl (E.get 8 rfl)) rfl hM, fun h => by rw [w_yes (g := 2) (s := 68) (b := true) E rfl rfl (by decide) (D 2 _ rfl rfl)] at h; cases h⟩
                      | 5, ho, hT0, hl, D, DL =>
                        obtain rfl := Option.some.inj ho
                        obtain rfl := Option.some.inj hT0
                        clear ho hT0
                        exact ⟨fun _ => val_wp (run_move rfl (E.get 6 rfl)) rfl hM, fun h => by rw [w_yes (g := 2) (s := 68) (b := true) E rfl rfl (by decide) (D 2 _ rfl rfl)] at h; cases h⟩
                      | 6, ho, hT0, hl, D, DL =>
                        obtain rfl := Option.some.inj ho
                        obtain rfl := Option.some.inj hT0
                        clear ho hT0
                        exact ⟨fun _ => val_wp (run_index69 (i := i) rfl (D 4 _ rfl rfl) (D 5 _ rfl rfl) hi4) rfl hM, fun h => by rw [w_yes (g := 2) (s := 68) (b := true) E rfl rfl (by decide) (D 2 _ rfl rfl)] at h; cases h⟩
                      | 7, ho, hT0, hl, D, DL =>
                        obtain rfl := Option.some.inj ho
                        obtain rfl := Option.some.inj hT0
                        clear ho hT0
                        exact ⟨fun _ => val_wp (ld_ptAt rfl (D 6 _ rfl rfl) hen he) rfl hM, fun h => by rw [w_yes (g := 2) (s := 68) (b := true) E rfl rfl (by decide) (D 2 _ rfl rfl)] at h; cases h⟩
                      | 8, ho, hT0, hl, D, DL =>
                        obtain rfl := Option.some.inj ho
                        obtain rfl := Option.some.inj hT0
                        clear ho hT0
                        exact ⟨fun _ => call_wp (run_call2 (enters_of Try.func38 (by kernel_rfl) rfl) rfl rfl (D 3 _ rfl rfl) (D 7 _ rfl rfl)) (by have h := (ron_calls s e w5); rw [hq44] at h; exact h) rfl fun w9 f1 => (hM.trans f1), fun h => by rw [w_yes (g := 2) (s := 68) (b := true) E rfl rfl (by decide) (D 2 _ rfl rfl)] at h; cases h⟩
                      | 9, ho, hT0, hl, D, DL =>
                        obtain rfl := Option.some.inj ho
                        obtain rfl := Option.some.inj hT0
                        clear ho hT0
                        exact ⟨fun _ => val_wp (run_pick_t rfl (D 2 _ rfl rfl) (D 8 _ rfl rfl)) rfl hM, fun h => by rw [wanted_none rfl] at h; cases h⟩
                      | 10, ho, hT0, hl, D, DL =>
                        obtain rfl := Option.some.inj ho
                        obtain rfl := Option.some.inj hT0
                        clear ho hT0
                        exact ⟨fun _ => val_wp (run_move rfl (D 9 _ rfl rfl)) rfl hM, fun h => by rw [wanted_none rfl] at h; cases h⟩
                      | 11, ho, hT0, hl, D, DL =>
                        obtain rfl := Option.some.inj ho
                        obtain rfl := Option.some.inj hT0
                        clear ho hT0
                        exact ⟨fun _ => val_wp (ld_sg rfl (E.get 9 rfl) hbt) rfl hM, fun h => by rw [w_yes (g := 10) (s := 76) (b := true) E rfl rfl (by decide) (D 10 _ rfl rfl)] at h; cases h⟩
                      | 12, ho, hT0, hl, D, DL =>
                        obtain rfl := Option.some.inj ho
                        obtain rfl := Option.some.inj hT0
                        clear ho hT0
                        exact ⟨fun _ => val_wp (run_move rfl (E.get 8 rfl)) rfl hM, fun h => by rw [w_yes (g := 10) (s := 76) (b := true) E rfl rfl (by decide) (D 10 _ rfl rfl)] at h; cases h⟩
                      | 13, ho, hT0, hl, D, DL =>
                        obtain rfl := Option.some.inj ho
                        obtain rfl := Option.some.inj hT0
                        clear ho hT0
                        exact ⟨fun _ => val_wp (run_move rfl (E.get 6 rfl)) rfl hM, fun h => by rw [w_yes (g := 10) (s := 76) (b := true) E rfl rfl (by decide) (D 10 _ rfl rfl)] at h; cases h⟩
                      | 14, ho, hT0, hl, D, DL =>
                        obtain rfl := Option.some.inj ho
                        obtain rfl := Option.some.inj hT0
                        clear ho hT0
                        exact ⟨fun _ => val_wp (run_index69 (i := i) rfl (D 12 _ rfl rfl) (D 13 _ rfl rfl) hi4) rfl hM, fun h => by rw [w_yes (g := 10) (s := 76) (b := true) E rfl rfl (by decide) (D 10 _ rfl rfl)] at h; cases h⟩
                      | 15, ho, hT0, hl, D, DL =>
                        obtain rfl := Option.some.inj ho
                        obtain rfl := Option.some.inj hT0
                        clear ho hT0
                        exact ⟨fun _ => val_wp (ld_ptAt rfl (D 14 _ rfl rfl) hen he) rfl hM, fun h => by rw [w_yes (g := 10) (s := 76) (b := true) E rfl rfl (by decide) (D 10 _ rfl rfl)] at h; cases h⟩
                      | 16, ho, hT0, hl, D, DL =>
                        obtain rfl := Option.some.inj ho
                        obtain rfl := Option.some.inj hT0
                        clear ho hT0
                        exact ⟨fun _ => call_wp (run_call2 (enters_of Try.func38 (by kernel_rfl) rfl) rfl rfl (D 11 _ rfl rfl) (D 15 _ rfl rfl)) (ron_calls t e w5) rfl fun w9 f1 => (hM.trans f1), fun h => by rw [w_yes (g := 10) (s := 76) (b := true) E rfl rfl (by decide) (D 10 _ rfl rfl)] at h; cases h⟩
                      | 17, ho, hT0, hl, D, DL =>
                        obtain rfl := Option.some.inj ho
                        obtain rfl := Option.some.inj hT0
                        clear ho hT0
                        exact ⟨fun _ => val_wp (run_pick_t rfl (D 10 _ rfl rfl) (D 16 _ rfl rfl)) rfl hM, fun h => by rw [wanted_none rfl] at h; cases h⟩
                      | j9 + 18, ho, hT0, hl, D, DL => exact absurd hT0 (by simp)
                    · intro a w5 E V hM
                      have E := E.add (V 17 _ rfl)
                      clear V
                      have hbs := sgB.fr hbs hM id
                      have hbt := sgB.fr hbt hM id
                      have hen := PtsAt.fr hen hM id
                      have hO := own_fr hO hM (fun _ _ h => h)
                      have hBs := Nat.le_trans hBs hM.size
                      have hf := hf.trans hM
                      clear hM
                      refine then_n ?_
                      cases hq47 : (decide (ronP t e)) with
                      | false =>
                        rw [hq47] at E
                        refine wp_cond_false (E.get 0 rfl) ?_
                        refine wp_skip ?_
                        refine blk_n ?_
                        refine then_n ?_
                        refine wp_region_lit ?_
                        refine env_put (d := 46) (v := .int .i64 (i : Int)) E rfl (by decide) rfl (wanted_none rfl _) (run_move rfl (E.get 7 rfl)) fun a E => ?_
                        refine env_put (d := 47) (v := .int .i64 ((i : Int) + 1)) E rfl (by decide) rfl (wanted_none rfl _) (run_iadd (E.get 0 rfl) rfl (by omega) (by omega) rfl) fun a E => ?_
                        refine env_set (d := 7) (v := .int .i64 ((i : Int) + 1)) E rfl (by decide) (wanted_none rfl _) (run_assign rfl (E.get 0 rfl)) fun a E => ?_
                        refine wpList_nil ?_
                        refine then_n ?_
                        refine ⟨⟨i + 1, cm, .slice (pc) cm.length cc, E.of ⟨E.get 0 rfl, E.get 10 rfl, E.get 11 rfl, E.get 12 rfl, E.get 13 rfl, trivial⟩, hi4, ?_, hO, hbs, hbt, hen, hBs, hf⟩, ?_⟩
                        · exact com_skip he hcm.out (.inr (by unfold fC; rw [hq47, Bool.and_false]))
                        · rw [E.get 0 rfl]; simp only [intOf]; omega
                      | true =>
                        rw [hq47] at E
                        refine wp_cond_true (E.get 0 rfl) ?_
                        refine wp_region_lit ?_
                        refine env_put (d := 84) (v := .slice (pc) cm.length cc) E rfl (by decide) rfl (wanted_none rfl _) (run_move rfl (E.get 8 rfl)) fun a E => ?_
                        refine env_put (d := 85) (v := .slice (some ⟨be, 0, none⟩) 4 4) E rfl (by decide) rfl (wanted_none rfl _) (run_move rfl (E.get 10 rfl)) fun a E => ?_
                        refine env_put (d := 86) (v := .int .i64 (i : Int)) E rfl (by decide) rfl (wanted_none rfl _) (run_move rfl (E.get 9 rfl)) fun a E => ?_
                        refine env_put (d := 87) (v := .pointer (some ⟨be, (i * 2), none⟩)) E rfl (by decide) rfl (wanted_none rfl _) (run_index69 (i := i) rfl (E.get 1 rfl) (E.get 0 rfl) hi4) fun a E => ?_
                        refine env_put (d := 88) (v := .agg (ptC e)) E rfl (by decide) rfl (wanted_none rfl _) (ld_ptAt rfl (E.get 0 rfl) hen he) fun a E => ?_
                        refine env_one32 (d := 89) E rfl (by decide) rfl (wanted_none rfl _) rfl (E.get 0 rfl) fun a w1 b1 _ hb1 f1 E => ?_
                        have hbs := sgB.fr hbs f1 id
                        have hbt := sgB.fr hbt f1 id
                        have hen := PtsAt.fr hen f1 id
                        have hO := own_fr hO f1 (fun _ _ h => h)
                        have hBs := Nat.le_trans hBs f1.size
                        have hf := hf.trans f1
                        clear f1
                        refine env_app32 (d := 90) E rfl (by decide) rfl rfl rfl (E.get 5 rfl) hO (E.get 0 rfl) hb1 (by omega) hBs fun a w1 ov hO2 f1 hloc E => ?_
                        have hbs := sgB.fr hbs f1 (fun h => by have := (own_lt hO h).1; omega)
                        have hbt := sgB.fr hbt f1 (fun h => by have := (own_lt hO h).1; omega)
                        have hen := PtsAt.fr hen f1 (fun h => by have := (own_lt hO h).1; omega)
                        have hBs := Nat.le_trans hBs f1.size
                        have hf := hf.trans' f1 fun r hr h => by have := (own_lt hO h).1; omega
                        clear f1
                        replace hO := hO2
                        clear hloc
                        refine env_set (d := 6) (v := ov) E rfl (by decide) (wanted_none rfl _) (run_assign rfl (E.get 0 rfl)) fun a E => ?_
                        refine wpList_nil ?_
                        refine blk_n ?_
                        refine then_n ?_
                        refine wp_region_lit ?_
                        refine env_put (d := 46) (v := .int .i64 (i : Int)) E rfl (by decide) rfl (wanted_none rfl _) (run_move rfl (E.get 15 rfl)) fun a E => ?_
                        refine env_put (d := 47) (v := .int .i64 ((i : Int) + 1)) E rfl (by decide) rfl (wanted_none rfl _) (run_iadd (E.get 0 rfl) rfl (by omega) (by omega) rfl) fun a E => ?_
                        refine env_set (d := 7) (v := .int .i64 ((i : Int) + 1)) E rfl (by decide) (wanted_none rfl _) (run_assign rfl (E.get 0 rfl)) fun a E => ?_
                        refine wpList_nil ?_
                        refine then_n ?_
                        refine ⟨⟨i + 1, (cm ++ [e]), ov, E.of ⟨E.get 0 rfl, E.get 3 rfl, E.get 18 rfl, E.get 19 rfl, E.get 20 rfl, trivial⟩, hi4, ?_, hO, hbs, hbt, hen, hBs, hf⟩, ?_⟩
                        · exact com_add he hcm.out (by rw [← htc, hq43]) (by unfold fC; rw [hq44, hq47]; rfl)
                        · rw [E.get 0 rfl]; simp only [intOf]; omega
                | true =>
                  rw [hq43] at E
                  refine wp_region_invg (n := 143) (base := [(51, .bool false), (50, .int .i64 (cm.length : Int)), (49, .slice (pc) cm.length cc), (48, .int .i64 (k : Int)), (9, .int .i64 (k : Int)), (8, .bool true), (7, .int .i64 (i : Int)), (6, .slice (pc) cm.length cc), (5, .slice (some ⟨be, 0, none⟩) 4 4), (3, .pointer (some ⟨bt, 0, none⟩)), (2, .pointer (some ⟨bs, 0, none⟩))]) (T := [some (66, .bool true), some (67, .bool false), some (68, .bool false), some (69, undef), some (70, undef), some (71, undef), some (72, undef), some (73, undef), some (74, undef), some (75, .bool false), some (76, .bool false), some (77, undef), some (78, undef), some (79, undef), some (80, undef), some (81, undef), some (82, undef), some (83, .bool false)]) (M := fun _ w5 => Fr (fun _ => False) w2 w5) (by kernel_rfl) (by kernel_rfl) (by kernel_rfl) (E.of ⟨E.get 0 rfl, E.get 1 rfl, E.get 2 rfl, E.get 3 rfl, E.get 4 rfl, E.get 5 rfl, E.get 6 rfl, E.get 7 rfl, E.get 8 rfl, E.get 9 rfl, E.get 10 rfl, trivial⟩) (Fr.refl _ _).drew ?_ ?_
                  · intro j9 o9 t9 ls9 a w5 ho hT0 hl E D DL hM
                    have hbs := sgB.fr hbs hM id
                    have hbt := sgB.fr hbt hM id
                    have hen := PtsAt.fr hen hM id
                    have hO := own_fr hO hM (fun _ _ h => h)
                    have hBs := Nat.le_trans hBs hM.size
                    match j9, ho, hT0, hl, D, DL with
                    | 0, ho, hT0, hl, D, DL =>
                      obtain rfl := Option.some.inj ho
                      obtain rfl := Option.some.inj hT0
                      clear ho hT0
                      exact ⟨fun _ => val_wp (run_move rfl (E.get 5 rfl)) rfl hM, fun h => by rw [wanted_none rfl] at h; cases h⟩
                    | 1, ho, hT0, hl, D, DL =>
                      obtain rfl := Option.some.inj ho
                      obtain rfl := Option.some.inj hT0
                      clear ho hT0
                      exact ⟨fun _ => val_wp (run_not rfl (D 0 _ rfl rfl)) rfl hM, fun h => by rw [wanted_none rfl] at h; cases h⟩
                    | 2, ho, hT0, hl, D, DL =>
                      obtain rfl := Option.some.inj ho
                      obtain rfl := Option.some.inj hT0
                      clear ho hT0
                      exact ⟨fun _ => val_wp (run_move rfl (D 1 _ rfl rfl)) rfl hM, fun h => by rw [wanted_none rfl] at h; cases h⟩
                    | 3, ho, hT0, hl, D, DL =>
                      obtain rfl := Option.some.inj ho
                      obtain rfl := Option.some.inj hT0
                      clear ho hT0
                      exact ⟨fun h => (by rw [w_no (g := 2) (s := 68) (b := true) E rfl rfl (by decide) (D 2 _ rfl rfl)] at h; cases h), fun _ => ⟨fun x hx => by cases hx; rfl, hM⟩⟩
                    | 4, ho, hT0, hl, D, DL =>
                      obtain rfl := Option.some.inj ho
                      obtain rfl := Option.some.inj hT0
                      clear ho hT0
                      exact ⟨fun h => (by rw [w_no (g := 2) (s := 68) (b := true) E rfl rfl (by decide) (D 2 _ rfl rfl)] at h; cases h), fun _ => ⟨fun x hx => by cases hx; rfl, hM⟩⟩
                    | 5, ho, hT0, hl, D, DL =>
                      obtain rfl := Option.some.inj ho
                      obtain rfl := Option.some.inj hT0
                      clear ho hT0
                      exact ⟨fun h => (by rw [w_no (g := 2) (s := 68) (b := true) E rfl rfl (by decide) (D 2 _ rfl rfl)] at h; cases h), fun _ => ⟨fun x hx => by cases hx; rfl, hM⟩⟩
                    | 6, ho, hT0, hl, D, DL =>
                      obtain rfl := Option.some.inj ho
                      obtain rfl := Option.some.inj hT0
                      clear ho hT0
                      exact ⟨fun h => (by rw [w_no (g := 2) (s := 68) (b := true) E rfl rfl (by decide) (D 2 _ rfl rfl)] at h; cases h), fun _ => ⟨fun x hx => by cases hx; rfl, hM⟩⟩
                    | 7, ho, hT0, hl, D, DL =>
                      obtain rfl := Option.some.inj ho
                      obtain rfl := Option.some.inj hT0
                      clear ho hT0
                      exact ⟨fun h => (by rw [w_no (g := 2) (s := 68) (b := true) E rfl rfl (by decide) (D 2 _ rfl rfl)] at h; cases h), fun _ => ⟨fun x hx => by cases hx; rfl, hM⟩⟩
                    | 8, ho, hT0, hl, D, DL =>
                      obtain rfl := Option.some.inj ho
                      obtain rfl := Option.some.inj hT0
                      clear ho hT0
                      exact ⟨fun h => (by rw [w_no (g := 2) (s := 68) (b := true) E rfl rfl (by decide) (D 2 _ rfl rfl)] at h; cases h), fun _ => ⟨fun x hx => by cases hx; rfl, hM⟩⟩
                    | 9, ho, hT0, hl, D, DL =>
                      obtain rfl := Option.some.inj ho
                      obtain rfl := Option.some.inj hT0
                      clear ho hT0
                      exact ⟨fun _ => val_wp (run_pick_f rfl (D 2 _ rfl rfl) rfl) rfl hM, fun h => by rw [wanted_none rfl] at h; cases h⟩
                    | 10, ho, hT0, hl, D, DL =>
                      obtain rfl := Option.some.inj ho
                      obtain rfl := Option.some.inj hT0
                      clear ho hT0
                      exact ⟨fun _ => val_wp (run_move rfl (D 9 _ rfl rfl)) rfl hM, fun h => by rw [wanted_none rfl] at h; cases h⟩
                    | 11, ho, hT0, hl, D, DL =>
                      obtain rfl := Option.some.inj ho
                      obtain rfl := Option.some.inj hT0
                      clear ho hT0
                      exact ⟨fun h => (by rw [w_no (g := 10) (s := 76) (b := true) E rfl rfl (by decide) (D 10 _ rfl rfl)] at h; cases h), fun _ => ⟨fun x hx => by cases hx; rfl, hM⟩⟩
                    | 12, ho, hT0, hl, D, DL =>
                      obtain rfl := Option.some.inj ho
                      obtain rfl := Option.some.inj hT0
                      clear ho hT0
                      exact ⟨fun h => (by rw [w_no (g := 10) (s := 76) (b := true) E rfl rfl (by decide) (D 10 _ rfl rfl)] at h; cases h), fun _ => ⟨fun x hx => by cases hx; rfl, hM⟩⟩
                    | 13, ho, hT0, hl, D, DL =>
                      obtain rfl := Option.some.inj ho
                      obtain rfl := Option.some.inj hT0
                      clear ho hT0
                      exact ⟨fun h => (by rw [w_no (g := 10) (s := 76) (b := true) E rfl rfl (by decide) (D 10 _ rfl rfl)] at h; cases h), fun _ => ⟨fun x hx => by cases hx; rfl, hM⟩⟩
                    | 14, ho, hT0, hl, D, DL =>
                      obtain rfl := Option.some.inj ho
                      obtain rfl := Option.some.inj hT0
                      clear ho hT0
                      exact ⟨fun h => (by rw [w_no (g := 10) (s := 76) (b := true) E rfl rfl (by decide) (D 10 _ rfl rfl)] at h; cases h), fun _ => ⟨fun x hx => by cases hx; rfl, hM⟩⟩
                    | 15, ho, hT0, hl, D, DL =>
                      obtain rfl := Option.some.inj ho
                      obtain rfl := Option.some.inj hT0
                      clear ho hT0
                      exact ⟨fun h => (by rw [w_no (g := 10) (s := 76) (b := true) E rfl rfl (by decide) (D 10 _ rfl rfl)] at h; cases h), fun _ => ⟨fun x hx => by cases hx; rfl, hM⟩⟩
                    | 16, ho, hT0, hl, D, DL =>
                      obtain rfl := Option.some.inj ho
                      obtain rfl := Option.some.inj hT0
                      clear ho hT0
                      exact ⟨fun h => (by rw [w_no (g := 10) (s := 76) (b := true) E rfl rfl (by decide) (D 10 _ rfl rfl)] at h; cases h), fun _ => ⟨fun x hx => by cases hx; rfl, hM⟩⟩
                    | 17, ho, hT0, hl, D, DL =>
                      obtain rfl := Option.some.inj ho
                      obtain rfl := Option.some.inj hT0
                      clear ho hT0
                      exact ⟨fun _ => val_wp (run_pick_f rfl (D 10 _ rfl rfl) rfl) rfl hM, fun h => by rw [wanted_none rfl] at h; cases h⟩
                    | j9 + 18, ho, hT0, hl, D, DL => exact absurd hT0 (by simp)
                  · intro a w5 E V hM
                    have E := E.add (V 17 _ rfl)
                    clear V
                    have hbs := sgB.fr hbs hM id
                    have hbt := sgB.fr hbt hM id
                    have hen := PtsAt.fr hen hM id
                    have hO := own_fr hO hM (fun _ _ h => h)
                    have hBs := Nat.le_trans hBs hM.size
                    have hf := hf.trans hM
                    clear hM
                    refine then_n ?_
                    refine wp_cond_false (E.get 0 rfl) ?_
                    refine wp_skip ?_
                    refine blk_n ?_
                    refine then_n ?_
                    refine wp_region_lit ?_
                    refine env_put (d := 46) (v := .int .i64 (i : Int)) E rfl (by decide) rfl (wanted_none rfl _) (run_move rfl (E.get 7 rfl)) fun a E => ?_
                    refine env_put (d := 47) (v := .int .i64 ((i : Int) + 1)) E rfl (by decide) rfl (wanted_none rfl _) (run_iadd (E.get 0 rfl) rfl (by omega) (by omega) rfl) fun a E => ?_
                    refine env_set (d := 7) (v := .int .i64 ((i : Int) + 1)) E rfl (by decide) (wanted_none rfl _) (run_assign rfl (E.get 0 rfl)) fun a E => ?_
                    refine wpList_nil ?_
                    refine then_n ?_
                    refine ⟨⟨i + 1, cm, .slice (pc) cm.length cc, E.of ⟨E.get 0 rfl, E.get 10 rfl, E.get 11 rfl, E.get 12 rfl, E.get 13 rfl, trivial⟩, hi4, ?_, hO, hbs, hbt, hen, hBs, hf⟩, ?_⟩
                    · exact com_skip he hcm.out (.inl (by rw [← htc, hq43]))
                    · rw [E.get 0 rfl]; simp only [intOf]; omega
              | true =>
                rw [hq42] at E
                have hkt : k < cm.length := by have := of_decide_eq_true hq42; omega
                obtain ⟨c, hc⟩ : ∃ c, cm[k]? = some c := ⟨_, List.getElem?_eq_getElem hkt⟩
                obtain ⟨gc, hpe, _, hrow⟩ := hO.at hkt
                refine wp_cond_true (E.get 0 rfl) ?_
                refine wp_skip ?_
                refine then_n ?_
                refine wp_seq ?_
                refine wp_block ?_
                cases hq49 : tw with
                | false =>
                  rw [hq49] at E
                  refine wp_region_invx (G := Unit) () (n := 143) (base := [(51, .bool true), (50, .int .i64 (cm.length : Int)), (49, .slice (pc) cm.length cc), (48, .int .i64 (k : Int)), (9, .int .i64 (k : Int)), (7, .int .i64 (i : Int)), (6, .slice (pc) cm.length cc), (5, .slice (some ⟨be, 0, none⟩) 4 4), (3, .pointer (some ⟨bt, 0, none⟩)), (2, .pointer (some ⟨bs, 0, none⟩))]) (U := [(8, .bool false, 12)]) (T := fun γ => [some (54, .bool false), some (55, .bool false), some (56, .slice (pc) cm.length cc), some (57, .int .i64 (k : Int)), some (58, .pointer (some ⟨gc, (k * 2), none⟩)), some (59, .agg (ptC c)), some (60, .slice (some ⟨be, 0, none⟩) 4 4), some (61, .int .i64 (i : Int)), some (62, .pointer (some ⟨be, (i * 2), none⟩)), some (63, .agg (ptC e)), some (64, .bool (decide (c = e))), some (65, .bool (decide (c = e))), some (8, .bool (decide (c = e)))]) (M := fun γ ls9 w5 => Fr (fun _ => False) w2 w5) (by kernel_rfl) (by kernel_rfl) (fun _ => by kernel_rfl) (E.of ⟨E.get 0 rfl, E.get 1 rfl, E.get 2 rfl, E.get 3 rfl, E.get 4 rfl, E.get 6 rfl, E.get 7 rfl, E.get 8 rfl, E.get 9 rfl, E.get 10 rfl, trivial⟩) (fun x hx => by simp only [List.mem_cons, List.not_mem_nil, or_false] at hx; subst hx; exact E.get 5 rfl) (Fr.refl _ _).drew ?_ ?_
                  · intro j9 o9 γ ls9 a w5 ho hl E D DL DL2 hB hM
                    have hbs := sgB.fr hbs hM id
                    have hbt := sgB.fr hbt hM id
                    have hen := PtsAt.fr hen hM id
                    have hO := own_fr hO hM (fun _ _ h => h)
                    have hBs := Nat.le_trans hBs hM.size
                    have hrow := PtsAt.fr hrow hM id
                    match j9, ho, hl, D, DL, hB with
                    | 0, ho, hl, D, DL, hB =>
                      obtain rfl := Option.some.inj ho
                      clear ho
                      exact ⟨fun _ => valx rfl (run_move rfl (hB (8, .bool false, 12) (by simp) rfl)) rfl hM, fun h => by rw [wanted_none rfl] at h; cases h⟩
                    | 1, ho, hl, D, DL, hB =>
                      obtain rfl := Option.some.inj ho
                      clear ho
                      exact ⟨fun _ => valx rfl (run_move rfl (D 0 _ rfl rfl)) rfl hM, fun h => by rw [wanted_none rfl] at h; cases h⟩
                    | 2, ho, hl, D, DL, hB =>
                      obtain rfl := Option.some.inj ho
                      clear ho
                      exact ⟨fun _ => valx rfl (run_move rfl (E.get 6 rfl)) rfl hM, fun h => by rw [w_yes (g := 1) (s := 55) (b := false) E rfl rfl (by decide) (D 1 _ rfl rfl)] at h; cases h⟩
                    | 3, ho, hl, D, DL, hB =>
                      obtain rfl := Option.some.inj ho
                      clear ho
                      exact ⟨fun _ => valx rfl (run_move rfl (E.get 4 rfl)) rfl hM, fun h => by rw [w_yes (g := 1) (s := 55) (b := false) E rfl rfl (by decide) (D 1 _ rfl rfl)] at h; cases h⟩
                    | 4, ho, hl, D, DL, hB =>
                      obtain rfl := Option.some.inj ho
                      clear ho
                      exact ⟨fun _ => valx rfl (run_index69 (i := k) rfl ((D 2 _ rfl rfl).trans (by rw [hpe])) (D 3 _ rfl rfl) hkt) rfl hM, fun h => by rw [w_yes (g := 1) (s := 55) (b := false) E rfl rfl (by decide) (D 1 _ rfl rfl)] at h; cases h⟩
                    | 5, ho, hl, D, DL, hB =>
                      obtain rfl := Option.some.inj ho
                      clear ho
                      exact ⟨fun _ => valx rfl (ld_ptAt rfl (D 4 _ rfl rfl) hrow hc) rfl hM, fun h => by rw [w_yes (g := 1) (s := 55) (b := false) E rfl rfl (by decide) (D 1 _ rfl rfl)] at h; cases h⟩
                    | 6, ho, hl, D, DL, hB =>
                      obtain rfl := Option.some.inj ho
                      clear ho
                      exact ⟨fun _ => valx rfl (run_move rfl (E.get 7 rfl)) rfl hM, fun h => by rw [w_yes (g := 1) (s := 55) (b := false) E rfl rfl (by decide) (D 1 _ rfl rfl)] at h; cases h⟩
                    | 7, ho, hl, D, DL, hB =>
                      obtain rfl := Option.some.inj ho
                      clear ho
                      exact ⟨fun _ => valx rfl (run_move rfl (E.get 5 rfl)) rfl hM, fun h => by rw [w_yes (g := 1) (s := 55) (b := false) E rfl rfl (by decide) (D 1 _ rfl rfl)] at h; cases h⟩
                    | 8, ho, hl, D, DL, hB =>
                      obtain rfl := Option.some.inj ho
                      clear ho
                      exact ⟨fun _ => valx rfl (run_index69 (i := i) rfl (D 6 _ rfl rfl) (D 7 _ rfl rfl) hi4) rfl hM, fun h => by rw [w_yes (g := 1) (s := 55) (b := false) E rfl rfl (by decide) (D 1 _ rfl rfl)] at h; cases h⟩
                    | 9, ho, hl, D, DL, hB =>
                      obtain rfl := Option.some.inj ho
                      clear ho
                      exact ⟨fun _ => valx rfl (ld_ptAt rfl (D 8 _ rfl rfl) hen he) rfl hM, fun h => by rw [w_yes (g := 1) (s := 55) (b := false) E rfl rfl (by decide) (D 1 _ rfl rfl)] at h; cases h⟩
                    | 10, ho, hl, D, DL, hB =>
                      obtain rfl := Option.some.inj ho
                      clear ho
                      exact ⟨fun _ => valx rfl (eql32 rfl (D 5 _ rfl rfl) (D 9 _ rfl rfl)) rfl hM, fun h => by rw [w_yes (g := 1) (s := 55) (b := false) E rfl rfl (by decide) (D 1 _ rfl rfl)] at h; cases h⟩
                    | 11, ho, hl, D, DL, hB =>
                      obtain rfl := Option.some.inj ho
                      clear ho
                      exact ⟨fun _ => valx rfl (run_pick_f rfl (D 1 _ rfl rfl) (D 10 _ rfl rfl)) rfl hM, fun h => by rw [wanted_none rfl] at h; cases h⟩
                    | 12, ho, hl, D, DL, hB =>
                      obtain rfl := Option.some.inj ho
                      clear ho
                      exact ⟨fun _ => valx rfl (run_assign rfl (D 11 _ rfl rfl)) rfl hM, fun h => by rw [wanted_none rfl] at h; cases h⟩
                    | j9 + 13, ho, hl, D, DL, hB => exact absurd ho (by simp)
                  · rintro _ a w5 E V hM
                    have E := E.add (v := .bool (decide (c = e))) (V 12 _ rfl)
                    clear V
                    have hbs := sgB.fr hbs hM id
                    have hbt := sgB.fr hbt hM id
                    have hen := PtsAt.fr hen hM id
                    have hO := own_fr hO hM (fun _ _ h => h)
                    have hBs := Nat.le_trans hBs hM.size
                    have hrow := PtsAt.fr hrow hM id
                    have hf := hf.trans hM
                    clear hM
                    refine blk_n ?_
                    refine then_n ?_
                    refine wp_region_lit ?_
                    refine env_put (d := 52) (v := .int .i64 (k : Int)) E rfl (by decide) rfl (wanted_none rfl _) (run_move rfl (E.get 5 rfl)) fun a E => ?_
                    refine env_put (d := 53) (v := .int .i64 ((k : Int) + 1)) E rfl (by decide) rfl (wanted_none rfl _) (run_iadd (E.get 0 rfl) rfl (by omega) (by omega) rfl) fun a E => ?_
                    refine env_set (d := 9) (v := .int .i64 ((k : Int) + 1)) E rfl (by decide) (wanted_none rfl _) (run_assign rfl (E.get 0 rfl)) fun a E => ?_
                    refine wpList_nil ?_
                    refine then_n ?_
                    refine ⟨⟨k + 1, (decide (c = e)), E.of ⟨E.get 0 rfl, E.get 3 rfl, E.get 8 rfl, E.get 9 rfl, E.get 10 rfl, E.get 11 rfl, E.get 12 rfl, trivial⟩, hkt, ?_, hO, hbs, hbt, hen, hBs, hf⟩, ?_⟩
                    · rw [Hid, con_step hc, ← htw.out]; rw [hq49]; simp
                    · rw [E.get 0 rfl]; simp only [intOf]; omega
                | true =>
                  rw [hq49] at E
                  refine wp_region_invx (G := Unit) () (n := 143) (base := [(51, .bool true), (50, .int .i64 (cm.length : Int)), (49, .slice (pc) cm.length cc), (48, .int .i64 (k : Int)), (9, .int .i64 (k : Int)), (7, .int .i64 (i : Int)), (6, .slice (pc) cm.length cc), (5, .slice (some ⟨be, 0, none⟩) 4 4), (3, .pointer (some ⟨bt, 0, none⟩)), (2, .pointer (some ⟨bs, 0, none⟩))]) (U := [(8, .bool true, 12)]) (T := fun γ => [some (54, .bool true), some (55, .bool true), some (56, undef), some (57, undef), some (58, undef), some (59, undef), some (60, undef), some (61, undef), some (62, undef), some (63, undef), some (64, undef), some (65, .bool true), some (8, .bool true)]) (M := fun γ ls9 w5 => Fr (fun _ => False) w2 w5) (by kernel_rfl) (by kernel_rfl) (fun _ => by kernel_rfl) (E.of ⟨E.get 0 rfl, E.get 1 rfl, E.get 2 rfl, E.get 3 rfl, E.get 4 rfl, E.get 6 rfl, E.get 7 rfl, E.get 8 rfl, E.get 9 rfl, E.get 10 rfl, trivial⟩) (fun x hx => by simp only [List.mem_cons, List.not_mem_nil, or_false] at hx; subst hx; exact E.get 5 rfl) (Fr.refl _ _).drew ?_ ?_
                  · intro j9 o9 γ ls9 a w5 ho hl E D DL DL2 hB hM
                    have hbs := sgB.fr hbs hM id
                    have hbt := sgB.fr hbt hM id
                    have hen := PtsAt.fr hen hM id
                    have hO := own_fr hO hM (fun _ _ h => h)
                    have hBs := Nat.le_trans hBs hM.size
                    have hrow := PtsAt.fr hrow hM id
                    match j9, ho, hl, D, DL, hB with
                    | 0, ho, hl, D, DL, hB =>
                      obtain rfl := Option.some.inj ho
                      clear ho
                      exact ⟨fun _ => valx rfl (run_move rfl (hB (8, .bool true, 12) (by simp) rfl)) rfl hM, fun h => by rw [wanted_none rfl] at h; cases h⟩
                    | 1, ho, hl, D, DL, hB =>
                      obtain rfl := Option.some.inj ho
                      clear ho
                      exact ⟨fun _ => valx rfl (run_move rfl (D 0 _ rfl rfl)) rfl hM, fun h => by rw [wanted_none rfl] at h; cases h⟩
                    | 2, ho, hl, D, DL, hB =>
                      obtain rfl := Option.some.inj ho
                      clear ho
                      exact ⟨fun h => (by rw [w_no (g := 1) (s := 55) (b := false) E rfl rfl (by decide) (D 1 _ rfl rfl)] at h; cases h), fun _ => ⟨fun x hx => by cases hx; rfl, hM⟩⟩
                    | 3, ho, hl, D, DL, hB =>
                      obtain rfl := Option.some.inj ho
                      clear ho
                      exact ⟨fun h => (by rw [w_no (g := 1) (s := 55) (b := false) E rfl rfl (by decide) (D 1 _ rfl rfl)] at h; cases h), fun _ => ⟨fun x hx => by cases hx; rfl, hM⟩⟩
                    | 4, ho, hl, D, DL, hB =>
                      obtain rfl := Option.some.inj ho
                      clear ho
                      exact ⟨fun h => (by rw [w_no (g := 1) (s := 55) (b := false) E rfl rfl (by decide) (D 1 _ rfl rfl)] at h; cases h), fun _ => ⟨fun x hx => by cases hx; rfl, hM⟩⟩
                    | 5, ho, hl, D, DL, hB =>
                      obtain rfl := Option.some.inj ho
                      clear ho
                      exact ⟨fun h => (by rw [w_no (g := 1) (s := 55) (b := false) E rfl rfl (by decide) (D 1 _ rfl rfl)] at h; cases h), fun _ => ⟨fun x hx => by cases hx; rfl, hM⟩⟩
                    | 6, ho, hl, D, DL, hB =>
                      obtain rfl := Option.some.inj ho
                      clear ho
                      exact ⟨fun h => (by rw [w_no (g := 1) (s := 55) (b := false) E rfl rfl (by decide) (D 1 _ rfl rfl)] at h; cases h), fun _ => ⟨fun x hx => by cases hx; rfl, hM⟩⟩
                    | 7, ho, hl, D, DL, hB =>
                      obtain rfl := Option.some.inj ho
                      clear ho
                      exact ⟨fun h => (by rw [w_no (g := 1) (s := 55) (b := false) E rfl rfl (by decide) (D 1 _ rfl rfl)] at h; cases h), fun _ => ⟨fun x hx => by cases hx; rfl, hM⟩⟩
                    | 8, ho, hl, D, DL, hB =>
                      obtain rfl := Option.some.inj ho
                      clear ho
                      exact ⟨fun h => (by rw [w_no (g := 1) (s := 55) (b := false) E rfl rfl (by decide) (D 1 _ rfl rfl)] at h; cases h), fun _ => ⟨fun x hx => by cases hx; rfl, hM⟩⟩
                    | 9, ho, hl, D, DL, hB =>
                      obtain rfl := Option.some.inj ho
                      clear ho
                      exact ⟨fun h => (by rw [w_no (g := 1) (s := 55) (b := false) E rfl rfl (by decide) (D 1 _ rfl rfl)] at h; cases h), fun _ => ⟨fun x hx => by cases hx; rfl, hM⟩⟩
                    | 10, ho, hl, D, DL, hB =>
                      obtain rfl := Option.some.inj ho
                      clear ho
                      exact ⟨fun h => (by rw [w_no (g := 1) (s := 55) (b := false) E rfl rfl (by decide) (D 1 _ rfl rfl)] at h; cases h), fun _ => ⟨fun x hx => by cases hx; rfl, hM⟩⟩
                    | 11, ho, hl, D, DL, hB =>
                      obtain rfl := Option.some.inj ho
                      clear ho
                      exact ⟨fun _ => valx rfl (run_pick_t rfl (D 1 _ rfl rfl) rfl) rfl hM, fun h => by rw [wanted_none rfl] at h; cases h⟩
                    | 12, ho, hl, D, DL, hB =>
                      obtain rfl := Option.some.inj ho
                      clear ho
                      exact ⟨fun _ => valx rfl (run_assign rfl (D 11 _ rfl rfl)) rfl hM, fun h => by rw [wanted_none rfl] at h; cases h⟩
                    | j9 + 13, ho, hl, D, DL, hB => exact absurd ho (by simp)
                  · rintro _ a w5 E V hM
                    have E := E.add (v := .bool true) (V 12 _ rfl)
                    clear V
                    have hbs := sgB.fr hbs hM id
                    have hbt := sgB.fr hbt hM id
                    have hen := PtsAt.fr hen hM id
                    have hO := own_fr hO hM (fun _ _ h => h)
                    have hBs := Nat.le_trans hBs hM.size
                    have hrow := PtsAt.fr hrow hM id
                    have hf := hf.trans hM
                    clear hM
                    refine blk_n ?_
                    refine then_n ?_
                    refine wp_region_lit ?_
                    refine env_put (d := 52) (v := .int .i64 (k : Int)) E rfl (by decide) rfl (wanted_none rfl _) (run_move rfl (E.get 5 rfl)) fun a E => ?_
                    refine env_put (d := 53) (v := .int .i64 ((k : Int) + 1)) E rfl (by decide) rfl (wanted_none rfl _) (run_iadd (E.get 0 rfl) rfl (by omega) (by omega) rfl) fun a E => ?_
                    refine env_set (d := 9) (v := .int .i64 ((k : Int) + 1)) E rfl (by decide) (wanted_none rfl _) (run_assign rfl (E.get 0 rfl)) fun a E => ?_
                    refine wpList_nil ?_
                    refine then_n ?_
                    refine ⟨⟨k + 1, true, E.of ⟨E.get 0 rfl, E.get 3 rfl, E.get 8 rfl, E.get 9 rfl, E.get 10 rfl, E.get 11 rfl, E.get 12 rfl, trivial⟩, hkt, ?_, hO, hbs, hbt, hen, hBs, hf⟩, ?_⟩
                    · rw [Hid, con_step hc, ← htw.out]; rw [hq49]; rfl
                    · rw [E.get 0 rfl]; simp only [intOf]; omega
          | true =>
            rw [hq28] at E
            refine wp_cond_true (E.get 0 rfl) ?_
            refine wp_seq ?_
            refine wp_region_lit ?_
            refine env_set (d := 4) (v := .int .i64 4) E rfl (by decide) (wanted_none rfl _) (run_assign rfl rfl) fun a E => ?_
            refine wpList_nil ?_
            refine then_n ?_
            refine wp_ret ?_
            refine then_r ?_
            refine ret_tmp (t := 4) rfl E (E.get 0 rfl) ⟨?_, hf⟩
            rw [kind_same hs ht (.inr ⟨of_decide_eq_true hq4, of_decide_eq_true hq28⟩)]
      | true =>
        rw [hq3] at E
        refine env_skip (d := 22) (g := 3) (s := 21) E rfl (by decide) rfl rfl rfl (by decide) (E.get 0 rfl) fun a E => ?_
        refine env_skip (d := 23) (g := 3) (s := 21) E rfl (by decide) rfl rfl rfl (by decide) (E.get 1 rfl) fun a E => ?_
        refine env_skip (d := 24) (g := 3) (s := 21) E rfl (by decide) rfl rfl rfl (by decide) (E.get 2 rfl) fun a E => ?_
        refine env_skip (d := 25) (g := 3) (s := 21) E rfl (by decide) rfl rfl rfl (by decide) (E.get 3 rfl) fun a E => ?_
        refine env_skip (d := 26) (g := 3) (s := 21) E rfl (by decide) rfl rfl rfl (by decide) (E.get 4 rfl) fun a E => ?_
        refine env_skip (d := 27) (g := 3) (s := 21) E rfl (by decide) rfl rfl rfl (by decide) (E.get 5 rfl) fun a E => ?_
        refine env_skipu (d := 28) (g := 9) (s := 27) E rfl (by decide) rfl rfl rfl (by decide) (E.get 0 rfl) fun a E => ?_
        refine env_skipu (d := 29) (g := 9) (s := 27) E rfl (by decide) rfl rfl rfl (by decide) (E.get 1 rfl) fun a E => ?_
        refine env_skipu (d := 30) (g := 9) (s := 27) E rfl (by decide) rfl rfl rfl (by decide) (E.get 2 rfl) fun a E => ?_
        refine env_skipu (d := 31) (g := 9) (s := 27) E rfl (by decide) rfl rfl rfl (by decide) (E.get 3 rfl) fun a E => ?_
        refine env_skipu (d := 32) (g := 9) (s := 27) E rfl (by decide) rfl rfl rfl (by decide) (E.get 4 rfl) fun a E => ?_
        refine env_skip (d := 33) (g := 3) (s := 21) E rfl (by decide) rfl rfl rfl (by decide) (E.get 11 rfl) fun a E => ?_
        refine env_put (d := 34) (v := .bool true) E rfl (by decide) rfl (wanted_none rfl _) (run_pick_t rfl (E.get 12 rfl) rfl) fun a E => ?_
        refine wpList_nil ?_
        refine then_n ?_
        refine wp_cond_true (E.get 0 rfl) ?_
        refine wp_seq ?_
        refine wp_region_lit ?_
        refine env_set (d := 4) (v := .int .i64 4) E rfl (by decide) (wanted_none rfl _) (run_assign rfl rfl) fun a E => ?_
        refine wpList_nil ?_
        refine then_n ?_
        refine wp_ret ?_
        refine then_r ?_
        refine ret_tmp (t := 4) rfl E (E.get 0 rfl) ⟨?_, hf⟩
        rw [kind_same hs ht (.inl (of_decide_eq_true hq3))]
end Go.Proofs.Ytiainjcimmeedaa
