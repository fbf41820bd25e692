/- The reference index: Put. -/
import Derived.Test.YtcafnanbdmapgaaI5
set_option linter.unusedVariables false
set_option linter.unusedSimpArgs false
namespace Go.Proofs.Ytcafnanbdmapgaa
open Go.RowKit Go.Pl

/-- Put of the reference. -/
def rput (I : List ByteArray) (J : List Bx) (s : ByteArray) (b : Bx) : Int × List ByteArray × List Bx :=
  if !(decide (okB b)) then (1, I, J) else if hasL I s then (9, I, J) else (0, I.take (atL I s) ++ s :: I.drop (atL I s), J.take (atL I s) ++ b :: J.drop (atL I s))
set_option maxRecDepth 100000 in
set_option maxHeartbeats 4000000 in
theorem rput_calls {w : World} {r : Nat} {σ : Nat → Prop} {I : List ByteArray} {J : List Bx} {iv bv : Value} (h : RIAt w r σ I J iv bv) (hIJ : I.length = J.length) (hI : I.length ≤ 100000) (s0 : ByteArray) (b : Bx) : Calls Try.prog 14 #[.pointer (some ⟨r, 0, none⟩), .string s0, .agg (bxC b)] w (RIPost r σ (rput I J s0 b).2.1 (rput I J s0 b).2.2 (.int .i64 (rput I J s0 b).1) w) := by
  refine wp_start3 Try.func14 rfl rfl (n := 73) (by decide) fun a E => ?_
  have hT : Fr σ w w := Fr.refl _ _
  have hS : ∀ k, k < w.heap.size → σ k → σ k := fun _ _ h => h
  obtain ⟨p0, cp0, hv0, hle0, hcap0, hs0, hz0⟩ := h.isrc
  rw [hv0] at h
  obtain ⟨p1, cp1, hv1, hle1, hcap1, hs1, hz1⟩ := h.jsrc
  rw [hv1] at h
  clear hs0 hs1
  refine wp_seq ?_
  refine wp_region_lit ?_
  refine env_box26 (d := 5) E rfl (by decide) rfl (wanted_none rfl _) rfl (E.get 2 rfl) fun a w1 b5 eb5 hb5 f1 E => ?_
  have h := RIAt.fr h f1 (fun _ _ h => h)
  have hT := hT.trans' f1 (fun _ _ h => h.elim)
  clear f1
  refine env_put (d := 6) (v := .int .i64 0) E rfl (by decide) rfl (wanted_none rfl _) (run_assign rfl rfl) fun a E => ?_
  refine wpList_nil ?_
  refine then_n ?_
  refine wp_seq ?_
  refine wp_seq ?_
  refine wp_region_lit ?_
  refine env_put (d := 10) (v := .pointer (some ⟨r, 0, none⟩)) E rfl (by decide) rfl (wanted_none rfl _) (run_move rfl (E.get 2 rfl)) fun a E => ?_
  refine env_put (d := 11) (v := .bool false) E rfl (by decide) rfl (wanted_none rfl _) (run_pnil31 rfl (E.get 0 rfl) rfl) fun a E => ?_
  refine env_put (d := 12) (v := .bool false) E rfl (by decide) rfl (wanted_none rfl _) (run_move rfl (E.get 0 rfl)) fun a E => ?_
  refine env_put (d := 13) (v := .agg (bxC b)) E rfl (by decide) rfl (w_yes (g := 2) (s := 12) E rfl rfl (by decide) (E.get 0 rfl)) (run_ld26 rfl (E.get 4 rfl) (rng4 (p := b) hb5 0 rfl rfl rfl rfl)) fun a E => ?_
  refine env_call (d := 14) (v := .bool (decide (okB b))) E rfl (by decide) rfl (w_yes (g := 2) (s := 12) E rfl rfl (by decide) (E.get 1 rfl)) (run_call1 (enters_of Try.func24 (by kernel_rfl) rfl) rfl rfl (E.get 0 rfl)) (valid_calls _ _) fun a w1 f1 E => ?_
  have h := RIAt.fr h f1 (fun _ _ h => h)
  have hT := hT.trans' f1 (fun _ _ h => h.elim)
  have hb5 := f1.obj hb5 id
  clear f1
  refine env_put (d := 15) (v := .bool (!(decide (okB b)))) E rfl (by decide) rfl (w_yes (g := 2) (s := 12) E rfl rfl (by decide) (E.get 2 rfl)) (run_not rfl (E.get 0 rfl)) fun a E => ?_
  refine env_put (d := 16) (v := .bool (!(decide (okB b)))) E rfl (by decide) rfl (wanted_none rfl _) (run_pick_f rfl (E.get 3 rfl) (E.get 0 rfl)) fun a E => ?_
  refine wpList_nil ?_
  refine then_n ?_
  cases hq6 : (decide (okB b)) with
  | false =>
    rw [hq6] at E
    refine wp_cond_true (E.get 0 rfl) ?_
    refine wp_seq ?_
    refine wp_region_lit ?_
    refine env_set (d := 6) (v := .int .i64 1) E rfl (by decide) (wanted_none rfl _) (run_assign rfl rfl) fun a E => ?_
    refine wpList_nil ?_
    refine then_n ?_
    refine wp_ret ?_
    refine then_r ?_
    have hr : rput I J s0 b = (1, I, J) := by simp [rput, hq6]
    refine ret_tmp (t := 6) rfl E (E.get 0 rfl) ⟨by rw [hr], _, ?_, hT, hS⟩
    rw [hr]
    exact ⟨_, _, h⟩
  | true =>
    rw [hq6] at E
    refine wp_cond_false (E.get 0 rfl) ?_
    refine wp_skip ?_
    refine then_n ?_
    refine wp_seq ?_
    refine wp_seq ?_
    refine wp_region_lit ?_
    refine env_put (d := 17) (v := .pointer (some ⟨r, 0, none⟩)) E rfl (by decide) rfl (wanted_none rfl _) (run_move rfl (E.get 9 rfl)) fun a E => ?_
    refine env_put (d := 18) (v := .string s0) E rfl (by decide) rfl (wanted_none rfl _) (run_move rfl (E.get 11 rfl)) fun a E => ?_
    refine env_call (d := 19) (v := .bool (hasL I s0)) E rfl (by decide) rfl (wanted_none rfl _) (run_call2 (enters_of Try.func32 (by kernel_rfl) rfl) rfl rfl (E.get 1 rfl) (E.get 0 rfl)) (hasx_calls h s0) fun a w1 f1 E => ?_
    have h := RIAt.fr h f1 (fun _ _ h => h)
    have hT := hT.trans' f1 (fun _ _ h => h.elim)
    have hb5 := f1.obj hb5 id
    clear f1
    refine wpList_nil ?_
    refine then_n ?_
    cases hq7 : (hasL I s0) with
    | false =>
      rw [hq7] at E
      refine wp_cond_false (E.get 0 rfl) ?_
      refine wp_skip ?_
      refine then_n ?_
      refine wp_seq ?_
      refine wp_seq ?_
      refine wp_region_lit ?_
      refine env_put (d := 20) (v := .pointer (some ⟨r, 0, none⟩)) E rfl (by decide) rfl (wanted_none rfl _) (run_move rfl (E.get 12 rfl)) fun a E => ?_
      refine env_put (d := 21) (v := .pointer (some ⟨r, 0, none⟩)) E rfl (by decide) rfl (wanted_none rfl _) (run_nilchk rfl (E.get 0 rfl)) fun a E => ?_
      refine env_put (d := 22) (v := .pointer (some ⟨r, 0, none⟩)) E rfl (by decide) rfl (wanted_none rfl _) (fa64_0 rfl (E.get 0 rfl)) fun a E => ?_
      refine env_put (d := 23) (v := .slice (p0) I.length cp0) E rfl (by decide) rfl (wanted_none rfl _) (run_ld42 rfl (E.get 0 rfl) h.c0) fun a E => ?_
      refine env_put (d := 24) (v := .int .i64 (I.length : Int)) E rfl (by decide) rfl (wanted_none rfl _) (run_len42 rfl (E.get 0 rfl)) fun a E => ?_
      refine env_put (d := 25) (v := .bool ((I.length : Int) == 1000000)) E rfl (by decide) rfl (wanted_none rfl _) (run_ieql (E.get 0 rfl) rfl Try.underlying3 rfl) fun a E => ?_
      refine wpList_nil ?_
      refine then_n ?_
      cases hq8 : ((I.length : Int) == 1000000) with
      | false =>
        rw [hq8] at E
        refine wp_cond_false (E.get 0 rfl) ?_
        refine wp_skip ?_
        refine then_n ?_
        refine wp_seq ?_
        refine wp_region_lit ?_
        refine env_put (d := 26) (v := .pointer (some ⟨r, 0, none⟩)) E rfl (by decide) rfl (wanted_none rfl _) (run_move rfl (E.get 18 rfl)) fun a E => ?_
        refine env_put (d := 27) (v := .string s0) E rfl (by decide) rfl (wanted_none rfl _) (run_move rfl (E.get 20 rfl)) fun a E => ?_
        refine env_call (d := 28) (v := .int .i64 (atL I s0 : Int)) E rfl (by decide) rfl (wanted_none rfl _) (run_call2 (enters_of Try.func33 (by kernel_rfl) rfl) rfl rfl (E.get 1 rfl) (E.get 0 rfl)) (at_calls h s0) fun a w1 f1 E => ?_
        have h := RIAt.fr h f1 (fun _ _ h => h)
        have hT := hT.trans' f1 (fun _ _ h => h.elim)
        have hb5 := f1.obj hb5 id
        clear f1
        refine env_put (d := 7) (v := .int .i64 (atL I s0 : Int)) E rfl (by decide) rfl (wanted_none rfl _) (run_assign rfl (E.get 0 rfl)) fun a E => ?_
        refine wpList_nil ?_
        refine then_n ?_
        refine wp_seq ?_
        have hk := atL_le I s0
        have hkJ : atL I s0 ≤ J.length := by omega
        obtain ⟨B, hB⟩ : ∃ B, B = w1.heap.size := ⟨_, rfl⟩
        have hBs : B ≤ w1.heap.size := by omega
        have hbB : b5 < B := by have := lt_of_blk hb5; omega
        have hσ : ∀ k, σ k → k < B := fun k hk => by have := h.lt k hk; omega
        have hwB : w.heap.size ≤ B := by have := hT.size; omega
        obtain ⟨p0q, cp0q, hv0q, hle0q, hcap0q, hs0, hz0q⟩ := h.isrc
        cases hv0q
        have hs0 := hs0.mono (G' := B) (by omega)
        obtain ⟨pd, cd, hrd, hsd, hzd⟩ := src_drop42 hs0 hz0 hle0 hk
        clear hs0
        refine wp_region_lit ?_
        refine env_put (d := 29) (v := .string s0) E rfl (by decide) rfl (wanted_none rfl _) (run_move rfl (E.get 23 rfl)) fun a E => ?_
        refine env_one42 (B := B) (d := 30) E rfl (by decide) rfl (wanted_none rfl _) rfl (E.get 0 rfl) hBs fun a w1 b9 eb9 hO f1 E => ?_
        have h := RIAt.fr h f1 (fun _ _ h => h)
        have hT := hT.trans' f1 (fun _ _ h => h.elim)
        have hBs := Nat.le_trans hBs f1.size
        have hb5 := f1.obj hb5 id
        have hsd := hsd.fr f1 (fun _ _ h => h)
        clear f1
        refine env_put (d := 31) (v := .pointer (some ⟨r, 0, none⟩)) E rfl (by decide) rfl (wanted_none rfl _) (run_move rfl (E.get 24 rfl)) fun a E => ?_
        refine env_put (d := 32) (v := .pointer (some ⟨r, 0, none⟩)) E rfl (by decide) rfl (wanted_none rfl _) (run_nilchk rfl (E.get 0 rfl)) fun a E => ?_
        refine env_put (d := 33) (v := .pointer (some ⟨r, 0, none⟩)) E rfl (by decide) rfl (wanted_none rfl _) (fa64_0 rfl (E.get 0 rfl)) fun a E => ?_
        refine env_put (d := 34) (v := .slice (p0) I.length cp0) E rfl (by decide) rfl (wanted_none rfl _) (run_ld42 rfl (E.get 0 rfl) h.c0) fun a E => ?_
        refine env_put (d := 35) (v := .int .i64 (atL I s0 : Int)) E rfl (by decide) rfl (wanted_none rfl _) (run_move rfl (E.get 6 rfl)) fun a E => ?_
        refine env_put (d := 36) (v := .slice (pd) (I.drop (atL I s0)).length cd) E rfl (by decide) rfl (wanted_none rfl _) (hrd _ _ _ _ _ rfl (E.get 1 rfl) (E.get 0 rfl)) fun a E => ?_
        refine env_app42 (d := 37) E rfl (by decide) rfl rfl rfl (E.get 6 rfl) hO (E.get 0 rfl) hsd hzd (by simp only [List.length_append, List.length_cons, List.length_nil, List.length_take, List.length_drop]; omega) hBs fun a w1 ov10 hO2 f1 hloc E => ?_
        have h := RIAt.fr h f1 (fun k hk e => by have := (hO.lt e).1; have := hσ k hk; omega)
        have hT := hT.trans' f1 (fun r hr e => by have := (hO.lt e).1; omega)
        have hBs := Nat.le_trans hBs f1.size
        have hb5 := f1.obj hb5 (fun e => by have := (hO.lt e).1; omega)
        have hsd := hsd.fr f1 (fun r hr e => by have := (hO.lt e).1; omega)
        clear f1
        replace hO := hO2
        clear hloc
        refine env_put (d := 8) (v := ov10) E rfl (by decide) rfl (wanted_none rfl _) (run_assign rfl (E.get 0 rfl)) fun a E => ?_
        refine wpList_nil ?_
        refine then_n ?_
        refine wp_seq ?_
        obtain ⟨p6, c6, hv6, _, _, hs6, hz6⟩ := hO.src strC_len
        subst hv6
        obtain ⟨B2, hB2⟩ : ∃ B2, B2 = w1.heap.size := ⟨_, rfl⟩
        rw [← hB2] at hs6
        have hBs2 : B2 ≤ w1.heap.size := by omega
        have hbB2 : b5 < B2 := by omega
        have hσ2 : ∀ k, σ k → k < B2 := fun k hk => by have := hσ k hk; omega
        have hwB2 : w.heap.size ≤ B2 := by omega
        clear hsd hrd hzd hO hBs hσ hwB hbB hB
        generalize B2 = B at *
        have hB := hB2
        have hBs := hBs2
        have hσ := hσ2
        have hwB := hwB2
        have hbB := hbB2
        clear hB2 hBs2 hσ2 hwB2 hbB2
        obtain ⟨p1q, cp1q, hv1q, hle1q, hcap1q, hs1, hz1q⟩ := h.jsrc
        cases hv1q
        have hs1 := hs1.mono (G' := B) (by omega)
        obtain ⟨pe, ce, hre, hse, hze⟩ := src_drop62 hs1 hz1 hle1 hkJ
        clear hs1
        refine wp_region_invx (G := Nat × Value) (0, undef) (n := 73) (base := [(8, .slice (p6) ([s0] ++ I.drop (atL I s0)).length c6), (37, .slice (p6) ([s0] ++ I.drop (atL I s0)).length c6), (36, .slice (pd) (I.drop (atL I s0)).length cd), (35, .int .i64 (atL I s0 : Int)), (34, .slice (p0) I.length cp0), (33, .pointer (some ⟨r, 0, none⟩)), (32, .pointer (some ⟨r, 0, none⟩)), (31, .pointer (some ⟨r, 0, none⟩)), (30, .slice (some ⟨b9, 0, none⟩) 1 1), (29, .string s0), (7, .int .i64 (atL I s0 : Int)), (28, .int .i64 (atL I s0 : Int)), (27, .string s0), (26, .pointer (some ⟨r, 0, none⟩)), (25, .bool false), (24, .int .i64 (I.length : Int)), (23, .slice (p0) I.length cp0), (22, .pointer (some ⟨r, 0, none⟩)), (21, .pointer (some ⟨r, 0, none⟩)), (20, .pointer (some ⟨r, 0, none⟩)), (19, .bool false), (18, .string s0), (17, .pointer (some ⟨r, 0, none⟩)), (16, .bool false), (15, .bool false), (14, .bool true), (13, .agg (bxC b)), (12, .bool false), (11, .bool false), (10, .pointer (some ⟨r, 0, none⟩)), (6, .int .i64 0), (5, .pointer (some ⟨b5, 0, none⟩)), (0, .pointer (some ⟨r, 0, none⟩)), (1, .string s0), (2, .agg (bxC b))]) (U := []) (T := fun γ => [some (38, .agg (bxC b)), some (39, .slice (some ⟨γ.1, 0, none⟩) 1 1), some (40, .pointer (some ⟨r, 0, none⟩)), some (41, .pointer (some ⟨r, 0, none⟩)), some (42, .pointer (some ⟨r, 1, none⟩)), some (43, .slice (p1) J.length cp1), some (44, .int .i64 (atL I s0 : Int)), some (45, .slice (pe) (J.drop (atL I s0)).length ce), some (46, γ.2), some (9, γ.2)]) (M := fun γ ls9 wm => Fr (fun k => B ≤ k) w1 wm ∧ (ls9 1 = true → ls9 8 = false → oBx wm B (.slice (some ⟨γ.1, 0, none⟩) 1 1) [b]) ∧ (ls9 8 = true → oBx wm B (γ.2) ([b] ++ (J.drop (atL I s0))))) (by kernel_rfl) (by kernel_rfl) (fun _ => by kernel_rfl) (E.of ⟨E.get 0 rfl, E.get 1 rfl, E.get 2 rfl, E.get 3 rfl, E.get 4 rfl, E.get 5 rfl, E.get 6 rfl, E.get 7 rfl, E.get 8 rfl, E.get 9 rfl, E.get 10 rfl, E.get 11 rfl, E.get 12 rfl, E.get 13 rfl, E.get 14 rfl, E.get 15 rfl, E.get 16 rfl, E.get 17 rfl, E.get 18 rfl, E.get 19 rfl, E.get 20 rfl, E.get 21 rfl, E.get 22 rfl, E.get 23 rfl, E.get 24 rfl, E.get 25 rfl, E.get 26 rfl, E.get 27 rfl, E.get 28 rfl, E.get 29 rfl, E.get 30 rfl, E.get 31 rfl, E.get 32 rfl, E.get 33 rfl, E.get 34 rfl, trivial⟩) (fun x hx => by cases hx) ⟨(Fr.refl _ _).drew, fun h _ => absurd h Bool.false_ne_true, fun h => absurd h Bool.false_ne_true⟩ ?_ ?_
        · intro j9 o9 γ ls9 a w5 ho hl E D DL DL2 hB hM
          match j9, ho, hl, D, DL, hB with
          | 0, ho, hl, D, DL, hB =>
            have h := RIAt.fr h hM.1 (fun k hk e => by have := hσ k hk; omega)
            have hb5 := hM.1.obj hb5 (fun e => by omega)
            have hse := hse.fr hM.1 (fun r hr e => by omega)
            have hs6 := hs6.fr hM.1 (fun r hr e => by omega)
            obtain rfl := Option.some.inj ho
            exact ⟨fun _ => valx rfl (run_ld26 rfl (E.get 31 rfl) (rng4 (p := b) hb5 0 rfl rfl rfl rfl)) rfl hM, fun h => by rw [wanted_none rfl] at h; cases h⟩
          | 1, ho, hl, D, DL, hB =>
            have h := RIAt.fr h hM.1 (fun k hk e => by have := hσ k hk; omega)
            have hb5 := hM.1.obj hb5 (fun e => by omega)
            have hse := hse.fr hM.1 (fun r hr e => by omega)
            have hs6 := hs6.fr hM.1 (fun r hr e => by omega)
            obtain rfl := Option.some.inj ho
            exact ⟨fun _ => valxw (w5.heap.size, γ.2) rfl (run_one62 rfl (D 0 _ rfl rfl)) rfl (fun j hj => match j, hj with | 0, _ => rfl | 1, hj => absurd (hl.symm.trans hj) (by decide) | 2, _ => rfl | 3, _ => rfl | 4, _ => rfl | 5, _ => rfl | 6, _ => rfl | 7, _ => rfl | 8, _ => rfl | 9, _ => rfl | e9 + 10, _ => rfl) (⟨hM.1.trans' ((Fr.refl (fun _ => False) w5).alloc _) (fun _ _ h => h.elim), fun _ _ => ow_one62 (blk_alloc_new _ _) (Nat.le_trans hBs hM.1.size), fun h => ow.fr (hM.2.2 h) ((Fr.refl (fun _ => False) w5).alloc _) (fun _ _ h => h)⟩), fun h => by rw [wanted_none rfl] at h; cases h⟩
          | 2, ho, hl, D, DL, hB =>
            have h := RIAt.fr h hM.1 (fun k hk e => by have := hσ k hk; omega)
            have hb5 := hM.1.obj hb5 (fun e => by omega)
            have hse := hse.fr hM.1 (fun r hr e => by omega)
            have hs6 := hs6.fr hM.1 (fun r hr e => by omega)
            obtain rfl := Option.some.inj ho
            exact ⟨fun _ => valx rfl (run_move rfl (E.get 32 rfl)) rfl hM, fun h => by rw [wanted_none rfl] at h; cases h⟩
          | 3, ho, hl, D, DL, hB =>
            have h := RIAt.fr h hM.1 (fun k hk e => by have := hσ k hk; omega)
            have hb5 := hM.1.obj hb5 (fun e => by omega)
            have hse := hse.fr hM.1 (fun r hr e => by omega)
            have hs6 := hs6.fr hM.1 (fun r hr e => by omega)
            obtain rfl := Option.some.inj ho
            exact ⟨fun _ => valx rfl (run_nilchk rfl (D 2 _ rfl rfl)) rfl hM, fun h => by rw [wanted_none rfl] at h; cases h⟩
          | 4, ho, hl, D, DL, hB =>
            have h := RIAt.fr h hM.1 (fun k hk e => by have := hσ k hk; omega)
            have hb5 := hM.1.obj hb5 (fun e => by omega)
            have hse := hse.fr hM.1 (fun r hr e => by omega)
            have hs6 := hs6.fr hM.1 (fun r hr e => by omega)
            obtain rfl := Option.some.inj ho
            exact ⟨fun _ => valx rfl (fa64_1 rfl (D 3 _ rfl rfl)) rfl hM, fun h => by rw [wanted_none rfl] at h; cases h⟩
          | 5, ho, hl, D, DL, hB =>
            have h := RIAt.fr h hM.1 (fun k hk e => by have := hσ k hk; omega)
            have hb5 := hM.1.obj hb5 (fun e => by omega)
            have hse := hse.fr hM.1 (fun r hr e => by omega)
            have hs6 := hs6.fr hM.1 (fun r hr e => by omega)
            obtain rfl := Option.some.inj ho
            exact ⟨fun _ => valx rfl (run_ld62 rfl (D 4 _ rfl rfl) h.c1) rfl hM, fun h => by rw [wanted_none rfl] at h; cases h⟩
          | 6, ho, hl, D, DL, hB =>
            have h := RIAt.fr h hM.1 (fun k hk e => by have := hσ k hk; omega)
            have hb5 := hM.1.obj hb5 (fun e => by omega)
            have hse := hse.fr hM.1 (fun r hr e => by omega)
            have hs6 := hs6.fr hM.1 (fun r hr e => by omega)
            obtain rfl := Option.some.inj ho
            exact ⟨fun _ => valx rfl (run_move rfl (E.get 10 rfl)) rfl hM, fun h => by rw [wanted_none rfl] at h; cases h⟩
          | 7, ho, hl, D, DL, hB =>
            have h := RIAt.fr h hM.1 (fun k hk e => by have := hσ k hk; omega)
            have hb5 := hM.1.obj hb5 (fun e => by omega)
            have hse := hse.fr hM.1 (fun r hr e => by omega)
            have hs6 := hs6.fr hM.1 (fun r hr e => by omega)
            obtain rfl := Option.some.inj ho
            exact ⟨fun _ => valx rfl (hre _ _ _ _ _ rfl (D 5 _ rfl rfl) (D 6 _ rfl rfl)) rfl hM, fun h => by rw [wanted_none rfl] at h; cases h⟩
          | 8, ho, hl, D, DL, hB =>
            have h := RIAt.fr h hM.1 (fun k hk e => by have := hσ k hk; omega)
            have hb5 := hM.1.obj hb5 (fun e => by omega)
            have hse := hse.fr hM.1 (fun r hr e => by omega)
            have hs6 := hs6.fr hM.1 (fun r hr e => by omega)
            have hO := hM.2.1 (DL 1 rfl) hl
            obtain ⟨v9, w9, c0, c1, c2, c3⟩ := app62 (o := o9) (ρ := a.eval) (congrArg Oper.op (Option.some.inj ho)).symm (D 1 _ rfl rfl) (D 7 _ rfl rfl) hO hse hze (by simp only [List.length_append, List.length_cons, List.length_nil, List.length_take, List.length_drop]; omega) (Nat.le_trans hBs hM.1.size)
            obtain rfl := Option.some.inj ho
            exact ⟨fun _ => valxw (γ.1, v9) rfl c0 rfl (fun j hj => match j, hj with | 0, _ => rfl | 1, _ => rfl | 2, _ => rfl | 3, _ => rfl | 4, _ => rfl | 5, _ => rfl | 6, _ => rfl | 7, _ => rfl | 8, hj => absurd (hl.symm.trans hj) (by decide) | 9, hj => absurd (hl.symm.trans (DL2 9 8 rfl hj)) (by decide) | e9 + 10, _ => rfl) (⟨hM.1.trans' c2 (fun r _ e => (hO.lt e).1), fun _ h => by simp at h, fun _ => c1⟩), fun h => by rw [wanted_none rfl] at h; cases h⟩
          | 9, ho, hl, D, DL, hB =>
            have h := RIAt.fr h hM.1 (fun k hk e => by have := hσ k hk; omega)
            have hb5 := hM.1.obj hb5 (fun e => by omega)
            have hse := hse.fr hM.1 (fun r hr e => by omega)
            have hs6 := hs6.fr hM.1 (fun r hr e => by omega)
            obtain rfl := Option.some.inj ho
            exact ⟨fun _ => valx rfl (run_assign rfl (D 8 _ rfl rfl)) rfl hM, fun h => by rw [wanted_none rfl] at h; cases h⟩
          | j9 + 10, ho, hl, D, DL, hB => exact absurd ho (by simp)
        · rintro ⟨γ11a, γ11b⟩ a w5 E V hM
          have E := E.add (v := γ11b) (V 9 _ rfl)
          clear V
          have hO := hM.2.2 rfl
          have hF := hM.1
          have hBs : B ≤ w5.heap.size := Nat.le_trans hBs hF.size
          clear hM
          have h := RIAt.fr h hF (fun k hk e => by have := hσ k hk; omega)
          have hT := hT.trans' hF (fun r hr e => by omega)
          have hb5 := hF.obj hb5 (fun e => by omega)
          have hse := hse.fr hF (fun r hr e => by omega)
          have hs6 := hs6.fr hF (fun r hr e => by omega)
          clear hF
          obtain ⟨p7, c7, hv7, _, _, hs7, hz7⟩ := hO.src bxL_len
          subst hv7
          have h9 := hO
          clear hse hre hze hO hs7 hb5
          have hs6 := hs6.mono (G' := w5.heap.size) (by omega)
          obtain ⟨B9, hB9⟩ : ∃ B9, B9 = B := ⟨_, rfl⟩
          rw [← hB9] at hσ h9
          clear hwB hbB hBs hB9 hB
          obtain ⟨B, hB⟩ : ∃ B, B = w5.heap.size := ⟨_, rfl⟩
          rw [← hB] at hs6
          refine then_n ?_
          refine wp_seq ?_
          obtain ⟨p0q, cp0q, hv0q, hle0q, hcap0q, hs0, hz0q⟩ := h.isrc
          cases hv0q
          have hBs : B ≤ w5.heap.size := by omega
          have hg := Fr.refl (fun _ => False) w5
          have hs0 := hs0.mono (G' := B) (by omega)
          refine wp_region_lit ?_
          refine env_put (d := 47) (v := .pointer (some ⟨r, 0, none⟩)) E rfl (by decide) rfl (wanted_none rfl _) (run_move rfl (E.get 33 rfl)) fun a E => ?_
          refine env_emp42 (B := B) (d := 48) E rfl (by decide) rfl (wanted_none rfl _) rfl hBs fun a w1 b12 eb12 hO f1 E => ?_
          have hg := hg.trans f1
          have hBs := Nat.le_trans hBs f1.size
          have hs6 := hs6.fr f1 (fun _ _ h => h)
          have hs0 := hs0.fr f1 (fun _ _ h => h)
          clear f1
          refine env_put (d := 49) (v := .pointer (some ⟨r, 0, none⟩)) E rfl (by decide) rfl (wanted_none rfl _) (run_move rfl (E.get 35 rfl)) fun a E => ?_
          refine env_put (d := 50) (v := .pointer (some ⟨r, 0, none⟩)) E rfl (by decide) rfl (wanted_none rfl _) (run_nilchk rfl (E.get 0 rfl)) fun a E => ?_
          refine env_put (d := 51) (v := .pointer (some ⟨r, 0, none⟩)) E rfl (by decide) rfl (wanted_none rfl _) (fa64_0 rfl (E.get 0 rfl)) fun a E => ?_
          refine env_put (d := 52) (v := .slice (p0) I.length cp0) E rfl (by decide) rfl (wanted_none rfl _) (run_ld42 rfl (E.get 0 rfl) (hg.cell h.c0 id)) fun a E => ?_
          refine env_put (d := 53) (v := .int .i64 (atL I s0 : Int)) E rfl (by decide) rfl (wanted_none rfl _) (run_move rfl (E.get 17 rfl)) fun a E => ?_
          refine env_put (d := 54) (v := .slice (p0) (I.take (atL I s0)).length cp0) E rfl (by decide) rfl (wanted_none rfl _) (run_sto42 rfl (E.get 1 rfl) (E.get 0 rfl) hle0 hk) fun a E => ?_
          refine env_app42 (d := 55) E rfl (by decide) rfl rfl rfl (E.get 6 rfl) hO (E.get 0 rfl) (hs0.take (atL I s0)) hz0 (by simp only [List.length_append, List.length_cons, List.length_nil, List.length_take, List.length_drop]; omega) hBs fun a w1 ov14 hO2 f1 hloc E => ?_
          have hg := hg.trans' f1 (fun r hr e => by have := (hO.lt e).1; omega)
          have hBs := Nat.le_trans hBs f1.size
          have hs6 := hs6.fr f1 (fun r hr e => by have := (hO.lt e).1; omega)
          have hs0 := hs0.fr f1 (fun r hr e => by have := (hO.lt e).1; omega)
          clear f1
          replace hO := hO2
          clear hloc
          refine env_put (d := 56) (v := .slice (p6) ([s0] ++ I.drop (atL I s0)).length c6) E rfl (by decide) rfl (wanted_none rfl _) (run_move rfl (E.get 10 rfl)) fun a E => ?_
          refine env_app42 (d := 57) E rfl (by decide) rfl rfl rfl (E.get 1 rfl) hO (E.get 0 rfl) hs6 hz6 (by simp only [List.length_append, List.length_cons, List.length_nil, List.length_take, List.length_drop]; omega) hBs fun a w1 ov15 hO2 f1 hloc E => ?_
          have hg := hg.trans' f1 (fun r hr e => by have := (hO.lt e).1; omega)
          have hBs := Nat.le_trans hBs f1.size
          have hs6 := hs6.fr f1 (fun r hr e => by have := (hO.lt e).1; omega)
          have hs0 := hs0.fr f1 (fun r hr e => by have := (hO.lt e).1; omega)
          clear f1
          replace hO := hO2
          clear hloc
          refine env_put (d := 58) (v := .pointer (some ⟨r, 0, none⟩)) E rfl (by decide) rfl (wanted_none rfl _) (run_nilchk rfl (E.get 10 rfl)) fun a E => ?_
          refine env_put (d := 59) (v := .pointer (some ⟨r, 0, none⟩)) E rfl (by decide) rfl (wanted_none rfl _) (fa64_0 rfl (E.get 0 rfl)) fun a E => ?_
          obtain ⟨⟨pn, nn, cn, hvv⟩, ⟨d1, d2⟩, σ1, hR1, f2, hs2⟩ := h.setI hg hO (by omega)
          refine env_store E rfl (wanted_none rfl _) (run_st42 hvv rfl (E.get 0 rfl) (E.get 2 rfl) d1 d2) fun E => ?_
          generalize World.setCell _ _ ov15 = wS16 at hR1 f2 ⊢
          have hS' := fun k (hk : k < w.heap.size) h => hS k hk (hs2 k (Nat.lt_of_lt_of_le hk hT.size) h)
          have hT' := hT.trans' f2 (fun r hr h => hS r hr h)
          have h9 := h9.fr f2 (fun k hk hs => by have := (h9.lt hk).1; have := hσ k hs; omega)
          clear hS d1 d2 hs2 f2 hg hvv hBs hs6 hs0 hO
          have h := hR1
          have hT := hT'
          have hS := hS'
          clear hR1 hS' hT'
          refine wpList_nil ?_
          refine then_n ?_
          refine wp_seq ?_
          clear hB hσ
          obtain ⟨B, hB⟩ : ∃ B, B = wS16.heap.size := ⟨_, rfl⟩
          have hBs : B ≤ wS16.heap.size := by omega
          have hg := Fr.refl (fun _ => False) wS16
          obtain ⟨p1q, cp1q, hv1q, hle1q, hcap1q, hs1, hz1q⟩ := h.jsrc
          cases hv1q
          obtain ⟨p7q, c7q, hv7q, _, _, hs7, hz7q⟩ := h9.src bxL_len
          cases hv7q
          rw [← hB] at hs7
          clear h9
          have hs1 := hs1.mono (G' := B) (by omega)
          refine wp_region_lit ?_
          refine env_put (d := 60) (v := .pointer (some ⟨r, 0, none⟩)) E rfl (by decide) rfl (wanted_none rfl _) (run_move rfl (E.get 46 rfl)) fun a E => ?_
          refine env_emp62 (B := B) (d := 61) E rfl (by decide) rfl (wanted_none rfl _) rfl hBs fun a w1 b17 eb17 hO f1 E => ?_
          have hg := hg.trans f1
          have hBs := Nat.le_trans hBs f1.size
          have hs1 := hs1.fr f1 (fun _ _ h => h)
          have hs7 := hs7.fr f1 (fun _ _ h => h)
          clear f1
          refine env_put (d := 62) (v := .pointer (some ⟨r, 0, none⟩)) E rfl (by decide) rfl (wanted_none rfl _) (run_move rfl (E.get 48 rfl)) fun a E => ?_
          refine env_put (d := 63) (v := .pointer (some ⟨r, 0, none⟩)) E rfl (by decide) rfl (wanted_none rfl _) (run_nilchk rfl (E.get 0 rfl)) fun a E => ?_
          refine env_put (d := 64) (v := .pointer (some ⟨r, 1, none⟩)) E rfl (by decide) rfl (wanted_none rfl _) (fa64_1 rfl (E.get 0 rfl)) fun a E => ?_
          refine env_put (d := 65) (v := .slice (p1) J.length cp1) E rfl (by decide) rfl (wanted_none rfl _) (run_ld62 rfl (E.get 0 rfl) (hg.cell h.c1 id)) fun a E => ?_
          refine env_put (d := 66) (v := .int .i64 (atL I s0 : Int)) E rfl (by decide) rfl (wanted_none rfl _) (run_move rfl (E.get 30 rfl)) fun a E => ?_
          refine env_put (d := 67) (v := .slice (p1) (J.take (atL I s0)).length cp1) E rfl (by decide) rfl (wanted_none rfl _) (run_sto62 rfl (E.get 1 rfl) (E.get 0 rfl) hle1 hkJ) fun a E => ?_
          refine env_app62 (d := 68) E rfl (by decide) rfl rfl rfl (E.get 6 rfl) hO (E.get 0 rfl) (hs1.take (atL I s0)) hz1 (by simp only [List.length_append, List.length_cons, List.length_nil, List.length_take, List.length_drop]; omega) hBs fun a w1 ov19 hO2 f1 hloc E => ?_
          have hg := hg.trans' f1 (fun r hr e => by have := (hO.lt e).1; omega)
          have hBs := Nat.le_trans hBs f1.size
          have hs1 := hs1.fr f1 (fun r hr e => by have := (hO.lt e).1; omega)
          have hs7 := hs7.fr f1 (fun r hr e => by have := (hO.lt e).1; omega)
          clear f1
          replace hO := hO2
          clear hloc
          refine env_put (d := 69) (v := .slice (p7) ([b] ++ J.drop (atL I s0)).length c7) E rfl (by decide) rfl (wanted_none rfl _) (run_move rfl (E.get 22 rfl)) fun a E => ?_
          refine env_app62 (d := 70) E rfl (by decide) rfl rfl rfl (E.get 1 rfl) hO (E.get 0 rfl) hs7 hz7 (by simp only [List.length_append, List.length_cons, List.length_nil, List.length_take, List.length_drop]; omega) hBs fun a w1 ov20 hO2 f1 hloc E => ?_
          have hg := hg.trans' f1 (fun r hr e => by have := (hO.lt e).1; omega)
          have hBs := Nat.le_trans hBs f1.size
          have hs1 := hs1.fr f1 (fun r hr e => by have := (hO.lt e).1; omega)
          have hs7 := hs7.fr f1 (fun r hr e => by have := (hO.lt e).1; omega)
          clear f1
          replace hO := hO2
          clear hloc
          refine env_put (d := 71) (v := .pointer (some ⟨r, 0, none⟩)) E rfl (by decide) rfl (wanted_none rfl _) (run_nilchk rfl (E.get 10 rfl)) fun a E => ?_
          refine env_put (d := 72) (v := .pointer (some ⟨r, 1, none⟩)) E rfl (by decide) rfl (wanted_none rfl _) (fa64_1 rfl (E.get 0 rfl)) fun a E => ?_
          obtain ⟨⟨pn, nn, cn, hvv⟩, ⟨d1, d2⟩, σ1, hR1, f2, hs2⟩ := h.setJ hg hO (by omega)
          refine env_store E rfl (wanted_none rfl _) (run_st62 hvv rfl (E.get 0 rfl) (E.get 2 rfl) d1 d2) fun E => ?_
          generalize World.setCell _ _ ov20 = wS21 at hR1 f2 ⊢
          have hS' := fun k (hk : k < w.heap.size) h => hS k hk (hs2 k (Nat.lt_of_lt_of_le hk hT.size) h)
          have hT' := hT.trans' f2 (fun r hr h => hS r hr h)
          clear hS d1 d2 hs2 f2 hg hvv hBs hs1 hs7 hO
          have h := hR1
          have hT := hT'
          have hS := hS'
          clear hR1 hS' hT'
          refine wpList_nil ?_
          refine then_n ?_
          refine wp_seq ?_
          refine wp_region_lit ?_
          refine env_set (d := 6) (v := .int .i64 0) E rfl (by decide) (wanted_none rfl _) (run_assign rfl rfl) fun a E => ?_
          refine wpList_nil ?_
          refine then_n ?_
          refine wp_ret ?_
          have hr : rput I J s0 b = (0, I.take (atL I s0) ++ s0 :: I.drop (atL I s0), J.take (atL I s0) ++ b :: J.drop (atL I s0)) := by simp [rput, hq6, hq7]
          simp only [List.nil_append, List.append_assoc, List.singleton_append] at h
          refine ret_tmp (t := 6) rfl E (E.get 0 rfl) ⟨by rw [hr], _, ?_, hT, hS⟩
          rw [hr]
          exact ⟨_, _, h⟩
      | true =>
        rw [hq8] at E
        exact absurd (beq_iff_eq.1 hq8) (by omega)
    | true =>
      rw [hq7] at E
      refine wp_cond_true (E.get 0 rfl) ?_
      refine wp_seq ?_
      refine wp_region_lit ?_
      refine env_set (d := 6) (v := .int .i64 9) E rfl (by decide) (wanted_none rfl _) (run_assign rfl rfl) fun a E => ?_
      refine wpList_nil ?_
      refine then_n ?_
      refine wp_ret ?_
      refine then_r ?_
      have hr : rput I J s0 b = (9, I, J) := by simp [rput, hq6, hq7]
      refine ret_tmp (t := 6) rfl E (E.get 0 rfl) ⟨by rw [hr], _, ?_, hT, hS⟩
      rw [hr]
      exact ⟨_, _, h⟩
end Go.Proofs.Ytcafnanbdmapgaa
