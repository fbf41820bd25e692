/- The program's geometry: On. -/
import Derived.Test.YtiainjcimmeedaaGs
set_option linter.unusedVariables false
set_option linter.unusedSimpArgs false
namespace Go.Proofs.Ytiainjcimmeedaa
open Go.RowKit Go.Pl Go.Geo

/-- On, at points of which one may be far. -/
def onN (s : Sg) (p : Pt) : Bool := decide (∀ q ∈ [s.1, s.2, p], nearP q) && onS s p
theorem srt_near {s : Sg} (h1 : nearP s.1) (h2 : nearP s.2) : nearP (srt s).1 ∧ nearP (srt s).2 := by
  unfold srt; split
  · exact ⟨h2, h1⟩
  · exact ⟨h1, h2⟩
theorem oriN_near {a b c : Pt} (h1 : nearP a) (h2 : nearP b) (h3 : nearP c) : oriN a b c = ori a b c := by
  unfold oriN; rw [if_pos]; intro q hq; simp at hq; rcases hq with rfl | rfl | rfl <;> assumption

set_option maxRecDepth 100000 in
set_option maxHeartbeats 4000000 in
theorem on_calls (s : Sg) (p : Pt) (w : World) : Calls Try.prog 44 #[.agg (sgC s), .agg (ptC p)] w fun e w' => e = .returned (.bool (onN s p)) ∧ Fr (fun _ => False) w w' := by
  have hS : sgB ((w.alloc (.cells (sgC s) 34)).alloc (.cells (ptC p) 32)) w.heap.size s := (blk_alloc (by simp) _).trans (blk_alloc_new _ _)
  have hP : ptB ((w.alloc (.cells (sgC s) 34)).alloc (.cells (ptC p) 32)) (w.heap.size + 1) p := blk_alloc_at (by simp) _
  have hf : Fr (fun _ => False) w ((w.alloc (.cells (sgC s) 34)).alloc (.cells (ptC p) 32)) := ((Fr.refl _ _).alloc _).alloc _
  have hn := near3 s.1 s.2 p ((w.alloc (.cells (sgC s) 34)).alloc (.cells (ptC p) 32))
  rw [show ((w.alloc (.cells (sgC s) 34)).alloc (.cells (ptC p) 32)).heap.size = w.heap.size + 1 + 1 from by simp] at hn
  have hnH := Lib.hid hn
  have hSH := Lib.hid hS
  have hPH := Lib.hid hP
  have hfH := Lib.hid hf
  clear hn hS hP hf
  go_enter Try.func44, Try.ntmps44
  go_wp2_with fail
  obtain ⟨M, hMe⟩ : ∃ M, M = w.heap.size := ⟨_, rfl⟩
  rw [← hMe] at hnH hSH hPH ⊢
  have hMH := Lib.hid hMe
  clear hMe
  generalize (w.alloc (.cells (sgC s) 34)).alloc (.cells (ptC p) 32) = W at *
  refine hnH.out.mono ?_
  rintro e w1 ⟨rfl, f1⟩
  have hS := hSH.out.fr f1 (by simp)
  have hPH := Lib.hid (hPH.out.fr f1 (by simp))
  have hfH := Lib.hid (hfH.out.trans f1)
  clear hnH hSH f1
  by_cases hnr : ∀ q ∈ [s.1, s.2, p], nearP q
  · have hE : Hid (onN s p = onS s p) := by unfold onN; rw [Hid, decide_eq_true hnr, Bool.true_and]
    have nA := hnr s.1 (by simp)
    have nB := hnr s.2 (by simp)
    have nP := hnr p (by simp)
    obtain ⟨nA', nB'⟩ := srt_near nA nB
    have hO := Lib.hid (oriN_near nA' nB' nP)
    rw [decide_eq_true hnr]
    clear nA nB nP nA' nB' hnr
    obtain ⟨c0, c1, c2, c3⟩ := hS.c
    have hSH := Lib.hid hS
    clear hS
    go_wp2_with fail
    refine (sorted_calls s _).mono ?_
    rintro e w2 ⟨rfl, f2⟩
    have hS := hSH.out.fr f2 (by simp)
    have hPH := Lib.hid (hPH.out.fr f2 (by simp))
    have hfH := Lib.hid (hfH.out.trans f2)
    clear hSH f2 c0 c1 c2 c3
    obtain ⟨c0, c1, c2, c3⟩ := hS.c
    have z0 := free_of_blk hS 0
    have z1 := free_of_blk hS 1
    have z2 := free_of_blk hS 2
    have z3 := free_of_blk hS 3
    have hSH := Lib.hid hS
    clear hS
    go_upto_region 4 with fail
    have hS := hSH.out.set (srt s)
    have hP := hPH.out.set4 (g2 := M) (by omega) (.int .i64 (srt s).1.1) (.int .i64 (srt s).1.2) (.int .i64 (srt s).2.1) (.int .i64 (srt s).2.2)
    have hf : Fr (fun _ => False) w ((((w2.setCell ⟨M, 0, none⟩ (.int .i64 (srt s).1.1)).setCell ⟨M, 1, none⟩ (.int .i64 (srt s).1.2)).setCell ⟨M, 2, none⟩ (.int .i64 (srt s).2.1)).setCell ⟨M, 3, none⟩ (.int .i64 (srt s).2.2)) := Fr.set4 hfH.out (by rw [hMH.out]; omega) _ _ _ _
    clear c0 c1 c2 c3 z0 z1 z2 z3 hSH hPH hfH
    generalize (((w2.setCell ⟨M, 0, none⟩ (.int .i64 (srt s).1.1)).setCell ⟨M, 1, none⟩ (.int .i64 (srt s).1.2)).setCell ⟨M, 2, none⟩ (.int .i64 (srt s).2.1)).setCell ⟨M, 3, none⟩ (.int .i64 (srt s).2.2) = W3 at *
    refine cut_act (fun A0 a' w' => Env 49 [(4, .bool (onS s p))] a' ∧ Hid (Fr (fun _ => False) w w')) ?_
    intro A0 hA0
    have E : Env 49 [(3, .pointer (some ⟨M + 1, 0, none⟩)), (2, .pointer (some ⟨M, 0, none⟩)), (4, .bool false)] A0 := by
      rw [hA0]; exact ⟨rfl, AllAt.mem ⟨rfl, rfl, rfl, trivial⟩, rfl⟩
    clear hA0
    constructor
    · rintro a' w' ⟨E, hf⟩
      rw [frame_lit E.size, E.df]
      have x4 := E.get 0 rfl
      clear E
      generalize a'.eval = ρ at *
      rw [show (List.range 49).map (fun i => ρ (.tmp i)) = [ρ (.tmp 0), ρ (.tmp 1), ρ (.tmp 2), ρ (.tmp 3), ρ (.tmp 4), ρ (.tmp 5), ρ (.tmp 6), ρ (.tmp 7), ρ (.tmp 8), ρ (.tmp 9), ρ (.tmp 10), ρ (.tmp 11), ρ (.tmp 12), ρ (.tmp 13), ρ (.tmp 14), ρ (.tmp 15), ρ (.tmp 16), ρ (.tmp 17), ρ (.tmp 18), ρ (.tmp 19), ρ (.tmp 20), ρ (.tmp 21), ρ (.tmp 22), ρ (.tmp 23), ρ (.tmp 24), ρ (.tmp 25), ρ (.tmp 26), ρ (.tmp 27), ρ (.tmp 28), ρ (.tmp 29), ρ (.tmp 30), ρ (.tmp 31), ρ (.tmp 32), ρ (.tmp 33), ρ (.tmp 34), ρ (.tmp 35), ρ (.tmp 36), ρ (.tmp 37), ρ (.tmp 38), ρ (.tmp 39), ρ (.tmp 40), ρ (.tmp 41), ρ (.tmp 42), ρ (.tmp 43), ρ (.tmp 44), ρ (.tmp 45), ρ (.tmp 46), ρ (.tmp 47), ρ (.tmp 48)] from rfl, x4]
      clear x4
      go_wp2
      go_ret
      exact ⟨by rw [hE.out]; rfl, hf.out⟩
    refine wp_region_lit ?_
    have hD : onS s p = (decide (ori (srt s).1 (srt s).2 p = 0) && (decide (cmpP (srt s).1 p ≤ 0) && (decide (cmpP p (srt s).2 ≤ 0) && (!decide ((srt s).1 = (srt s).2) || decide (p = (srt s).1))))) := rfl
    have q0 : (oriN (srt s).1 (srt s).2 p == 0) = decide (ori (srt s).1 (srt s).2 p = 0) := by rw [hO.out]; by_cases h : ori (srt s).1 (srt s).2 p = 0 <;> simp [h]
    clear hE hO
    generalize srt s = t at *
    generalize decide (ori t.1 t.2 p = 0) = b1 at *
    generalize h2 : decide (cmpP t.1 p ≤ 0) = b2 at *
    generalize h3 : decide (cmpP p t.2 ≤ 0) = b3 at *
    generalize h4 : decide (t.1 = t.2) = b4 at *
    generalize h5 : decide (p = t.1) = b5 at *
    generalize onS s p = res at *
    subst hD
    cases b1 with
    | false =>
      refine env_put (d := 15) (v := .pointer (some ⟨M, 0, none⟩)) E rfl (by decide) rfl (wanted_none rfl _) (fa34_0 rfl (E.get 1 rfl)) fun a E => ?_
      refine env_put (d := 16) (v := .agg (ptC (t.1))) E rfl (by decide) rfl (wanted_none rfl _) (ld_sg1 rfl (E.get 0 rfl) hS) fun a E => ?_
      refine env_put (d := 17) (v := .pointer (some ⟨M, 2, none⟩)) E rfl (by decide) rfl (wanted_none rfl _) (fa34_1 rfl (E.get 3 rfl)) fun a E => ?_
      refine env_put (d := 18) (v := .agg (ptC (t.2))) E rfl (by decide) rfl (wanted_none rfl _) (ld_sg2 rfl (E.get 0 rfl) hS) fun a E => ?_
      refine env_put (d := 19) (v := .agg (ptC p)) E rfl (by decide) rfl (wanted_none rfl _) (ld_pt rfl (E.get 4 rfl) hP) fun a E => ?_
      refine env_call (d := 20) (v := .int .i64 (oriN (t.1) (t.2) p)) E rfl (by decide) rfl (wanted_none rfl _) (run_call3 (enters_of Try.func31 (by kernel_rfl) rfl) rfl rfl (E.get 3 rfl) (E.get 1 rfl) (E.get 0 rfl)) (orient_calls (t.1) (t.2) p _) fun a w1 f1 E => ?_
      have hS := hS.fr f1 (by simp)
      have hP := hP.fr f1 (by simp)
      have hf := hf.trans f1
      clear f1
      refine env_put (d := 21) (v := .bool false) E rfl (by decide) rfl (wanted_none rfl _) ((run_ieql (E.get 0 rfl) rfl Try.underlying3 rfl).trans (by rw [q0] <;> rfl)) fun a E => ?_
      refine env_put (d := 22) (v := .bool false) E rfl (by decide) rfl (wanted_none rfl _) (run_move rfl (E.get 0 rfl)) fun a E => ?_
      refine env_skip (d := 23) (g := 7) (s := 22) E rfl (by decide) rfl rfl rfl (by decide) (E.get 0 rfl) fun a E => ?_
      refine env_skip (d := 24) (g := 7) (s := 22) E rfl (by decide) rfl rfl rfl (by decide) (E.get 1 rfl) fun a E => ?_
      refine env_skip (d := 25) (g := 7) (s := 22) E rfl (by decide) rfl rfl rfl (by decide) (E.get 2 rfl) fun a E => ?_
      refine env_skip (d := 26) (g := 7) (s := 22) E rfl (by decide) rfl rfl rfl (by decide) (E.get 3 rfl) fun a E => ?_
      refine env_skip (d := 27) (g := 7) (s := 22) E rfl (by decide) rfl rfl rfl (by decide) (E.get 4 rfl) fun a E => ?_
      refine env_put (d := 28) (v := .bool false) E rfl (by decide) rfl (wanted_none rfl _) (run_pick_f rfl (E.get 5 rfl) rfl) fun a E => ?_
      refine env_put (d := 29) (v := .bool false) E rfl (by decide) rfl (wanted_none rfl _) (run_move rfl (E.get 0 rfl)) fun a E => ?_
      refine env_skip (d := 30) (g := 14) (s := 29) E rfl (by decide) rfl rfl rfl (by decide) (E.get 0 rfl) fun a E => ?_
      refine env_skip (d := 31) (g := 14) (s := 29) E rfl (by decide) rfl rfl rfl (by decide) (E.get 1 rfl) fun a E => ?_
      refine env_skip (d := 32) (g := 14) (s := 29) E rfl (by decide) rfl rfl rfl (by decide) (E.get 2 rfl) fun a E => ?_
      refine env_skip (d := 33) (g := 14) (s := 29) E rfl (by decide) rfl rfl rfl (by decide) (E.get 3 rfl) fun a E => ?_
      refine env_skip (d := 34) (g := 14) (s := 29) E rfl (by decide) rfl rfl rfl (by decide) (E.get 4 rfl) fun a E => ?_
      refine env_put (d := 35) (v := .bool false) E rfl (by decide) rfl (wanted_none rfl _) (run_pick_f rfl (E.get 5 rfl) rfl) fun a E => ?_
      refine env_put (d := 36) (v := .bool false) E rfl (by decide) rfl (wanted_none rfl _) (run_move rfl (E.get 0 rfl)) fun a E => ?_
      refine env_skip (d := 37) (g := 21) (s := 36) E rfl (by decide) rfl rfl rfl (by decide) (E.get 0 rfl) fun a E => ?_
      refine env_skip (d := 38) (g := 21) (s := 36) E rfl (by decide) rfl rfl rfl (by decide) (E.get 1 rfl) fun a E => ?_
      refine env_skip (d := 39) (g := 21) (s := 36) E rfl (by decide) rfl rfl rfl (by decide) (E.get 2 rfl) fun a E => ?_
      refine env_skip (d := 40) (g := 21) (s := 36) E rfl (by decide) rfl rfl rfl (by decide) (E.get 3 rfl) fun a E => ?_
      refine env_skip (d := 41) (g := 21) (s := 36) E rfl (by decide) rfl rfl rfl (by decide) (E.get 4 rfl) fun a E => ?_
      refine env_skip (d := 42) (g := 21) (s := 36) E rfl (by decide) rfl rfl rfl (by decide) (E.get 5 rfl) fun a E => ?_
      refine env_skipu (d := 43) (g := 27) (s := 42) E rfl (by decide) rfl rfl rfl (by decide) (E.get 0 rfl) fun a E => ?_
      refine env_skipu (d := 44) (g := 27) (s := 42) E rfl (by decide) rfl rfl rfl (by decide) (E.get 1 rfl) fun a E => ?_
      refine env_skipu (d := 45) (g := 27) (s := 42) E rfl (by decide) rfl rfl rfl (by decide) (E.get 2 rfl) fun a E => ?_
      refine env_skipu (d := 46) (g := 27) (s := 42) E rfl (by decide) rfl rfl rfl (by decide) (E.get 3 rfl) fun a E => ?_
      refine env_skip (d := 47) (g := 21) (s := 36) E rfl (by decide) rfl rfl rfl (by decide) (E.get 10 rfl) fun a E => ?_
      refine env_put (d := 48) (v := .bool false) E rfl (by decide) rfl (wanted_none rfl _) (run_pick_f rfl (E.get 11 rfl) rfl) fun a E => ?_
      refine env_set (d := 4) (v := .bool false) E rfl (by decide) (wanted_none rfl _) (run_assign rfl (E.get 0 rfl)) fun a E => ?_
      refine wpList_nil ⟨E.of ⟨E.get 0 rfl, trivial⟩, hf⟩
    | true =>
      cases b2 with
      | false =>
        refine env_put (d := 15) (v := .pointer (some ⟨M, 0, none⟩)) E rfl (by decide) rfl (wanted_none rfl _) (fa34_0 rfl (E.get 1 rfl)) fun a E => ?_
        refine env_put (d := 16) (v := .agg (ptC (t.1))) E rfl (by decide) rfl (wanted_none rfl _) (ld_sg1 rfl (E.get 0 rfl) hS) fun a E => ?_
        refine env_put (d := 17) (v := .pointer (some ⟨M, 2, none⟩)) E rfl (by decide) rfl (wanted_none rfl _) (fa34_1 rfl (E.get 3 rfl)) fun a E => ?_
        refine env_put (d := 18) (v := .agg (ptC (t.2))) E rfl (by decide) rfl (wanted_none rfl _) (ld_sg2 rfl (E.get 0 rfl) hS) fun a E => ?_
        refine env_put (d := 19) (v := .agg (ptC p)) E rfl (by decide) rfl (wanted_none rfl _) (ld_pt rfl (E.get 4 rfl) hP) fun a E => ?_
        refine env_call (d := 20) (v := .int .i64 (oriN (t.1) (t.2) p)) E rfl (by decide) rfl (wanted_none rfl _) (run_call3 (enters_of Try.func31 (by kernel_rfl) rfl) rfl rfl (E.get 3 rfl) (E.get 1 rfl) (E.get 0 rfl)) (orient_calls (t.1) (t.2) p _) fun a w1 f1 E => ?_
        have hS := hS.fr f1 (by simp)
        have hP := hP.fr f1 (by simp)
        have hf := hf.trans f1
        clear f1
        refine env_put (d := 21) (v := .bool true) E rfl (by decide) rfl (wanted_none rfl _) ((run_ieql (E.get 0 rfl) rfl Try.underlying3 rfl).trans (by rw [q0] <;> rfl)) fun a E => ?_
        refine env_put (d := 22) (v := .bool true) E rfl (by decide) rfl (wanted_none rfl _) (run_move rfl (E.get 0 rfl)) fun a E => ?_
        refine env_put (d := 23) (v := .pointer (some ⟨M, 0, none⟩)) E rfl (by decide) rfl (w_yes (g := 7) (s := 22) E rfl rfl (by decide) (E.get 0 rfl)) (fa34_0 rfl (E.get 9 rfl)) fun a E => ?_
        refine env_put (d := 24) (v := .agg (ptC (t.1))) E rfl (by decide) rfl (w_yes (g := 7) (s := 22) E rfl rfl (by decide) (E.get 1 rfl)) (ld_sg1 rfl (E.get 0 rfl) hS) fun a E => ?_
        refine env_put (d := 25) (v := .agg (ptC p)) E rfl (by decide) rfl (w_yes (g := 7) (s := 22) E rfl rfl (by decide) (E.get 2 rfl)) (ld_pt rfl (E.get 10 rfl) hP) fun a E => ?_
        refine env_call (d := 26) (v := .int .i64 (cmpP (t.1) p)) E rfl (by decide) rfl (w_yes (g := 7) (s := 22) E rfl rfl (by decide) (E.get 3 rfl)) (run_call2 (enters_of Try.func41 (by kernel_rfl) rfl) rfl rfl (E.get 1 rfl) (E.get 0 rfl)) (compareP_calls (t.1) p _) fun a w1 f1 E => ?_
        have hS := hS.fr f1 (by simp)
        have hP := hP.fr f1 (by simp)
        have hf := hf.trans f1
        clear f1
        refine env_put (d := 27) (v := .bool false) E rfl (by decide) rfl (w_yes (g := 7) (s := 22) E rfl rfl (by decide) (E.get 4 rfl)) ((run_ileq (E.get 0 rfl) rfl Try.underlying3 rfl).trans (by rw [h2] <;> rfl)) fun a E => ?_
        refine env_put (d := 28) (v := .bool false) E rfl (by decide) rfl (wanted_none rfl _) (run_pick_t rfl (E.get 5 rfl) (E.get 0 rfl)) fun a E => ?_
        refine env_put (d := 29) (v := .bool false) E rfl (by decide) rfl (wanted_none rfl _) (run_move rfl (E.get 0 rfl)) fun a E => ?_
        refine env_skip (d := 30) (g := 14) (s := 29) E rfl (by decide) rfl rfl rfl (by decide) (E.get 0 rfl) fun a E => ?_
        refine env_skip (d := 31) (g := 14) (s := 29) E rfl (by decide) rfl rfl rfl (by decide) (E.get 1 rfl) fun a E => ?_
        refine env_skip (d := 32) (g := 14) (s := 29) E rfl (by decide) rfl rfl rfl (by decide) (E.get 2 rfl) fun a E => ?_
        refine env_skip (d := 33) (g := 14) (s := 29) E rfl (by decide) rfl rfl rfl (by decide) (E.get 3 rfl) fun a E => ?_
        refine env_skip (d := 34) (g := 14) (s := 29) E rfl (by decide) rfl rfl rfl (by decide) (E.get 4 rfl) fun a E => ?_
        refine env_put (d := 35) (v := .bool false) E rfl (by decide) rfl (wanted_none rfl _) (run_pick_f rfl (E.get 5 rfl) rfl) fun a E => ?_
        refine env_put (d := 36) (v := .bool false) E rfl (by decide) rfl (wanted_none rfl _) (run_move rfl (E.get 0 rfl)) fun a E => ?_
        refine env_skip (d := 37) (g := 21) (s := 36) E rfl (by decide) rfl rfl rfl (by decide) (E.get 0 rfl) fun a E => ?_
        refine env_skip (d := 38) (g := 21) (s := 36) E rfl (by decide) rfl rfl rfl (by decide) (E.get 1 rfl) fun a E => ?_
        refine env_skip (d := 39) (g := 21) (s := 36) E rfl (by decide) rfl rfl rfl (by decide) (E.get 2 rfl) fun a E => ?_
        refine env_skip (d := 40) (g := 21) (s := 36) E rfl (by decide) rfl rfl rfl (by decide) (E.get 3 rfl) fun a E => ?_
        refine env_skip (d := 41) (g := 21) (s := 36) E rfl (by decide) rfl rfl rfl (by decide) (E.get 4 rfl) fun a E => ?_
        refine env_skip (d := 42) (g := 21) (s := 36) E rfl (by decide) rfl rfl rfl (by decide) (E.get 5 rfl) fun a E => ?_
        refine env_skipu (d := 43) (g := 27) (s := 42) E rfl (by decide) rfl rfl rfl (by decide) (E.get 0 rfl) fun a E => ?_
        refine env_skipu (d := 44) (g := 27) (s := 42) E rfl (by decide) rfl rfl rfl (by decide) (E.get 1 rfl) fun a E => ?_
        refine env_skipu (d := 45) (g := 27) (s := 42) E rfl (by decide) rfl rfl rfl (by decide) (E.get 2 rfl) fun a E => ?_
        refine env_skipu (d := 46) (g := 27) (s := 42) E rfl (by decide) rfl rfl rfl (by decide) (E.get 3 rfl) fun a E => ?_
        refine env_skip (d := 47) (g := 21) (s := 36) E rfl (by decide) rfl rfl rfl (by decide) (E.get 10 rfl) fun a E => ?_
        refine env_put (d := 48) (v := .bool false) E rfl (by decide) rfl (wanted_none rfl _) (run_pick_f rfl (E.get 11 rfl) rfl) fun a E => ?_
        refine env_set (d := 4) (v := .bool false) E rfl (by decide) (wanted_none rfl _) (run_assign rfl (E.get 0 rfl)) fun a E => ?_
        refine wpList_nil ⟨E.of ⟨E.get 0 rfl, trivial⟩, hf⟩
      | true =>
        cases b3 with
        | false =>
          refine env_put (d := 15) (v := .pointer (some ⟨M, 0, none⟩)) E rfl (by decide) rfl (wanted_none rfl _) (fa34_0 rfl (E.get 1 rfl)) fun a E => ?_
          refine env_put (d := 16) (v := .agg (ptC (t.1))) E rfl (by decide) rfl (wanted_none rfl _) (ld_sg1 rfl (E.get 0 rfl) hS) fun a E => ?_
          refine env_put (d := 17) (v := .pointer (some ⟨M, 2, none⟩)) E rfl (by decide) rfl (wanted_none rfl _) (fa34_1 rfl (E.get 3 rfl)) fun a E => ?_
          refine env_put (d := 18) (v := .agg (ptC (t.2))) E rfl (by decide) rfl (wanted_none rfl _) (ld_sg2 rfl (E.get 0 rfl) hS) fun a E => ?_
          refine env_put (d := 19) (v := .agg (ptC p)) E rfl (by decide) rfl (wanted_none rfl _) (ld_pt rfl (E.get 4 rfl) hP) fun a E => ?_
          refine env_call (d := 20) (v := .int .i64 (oriN (t.1) (t.2) p)) E rfl (by decide) rfl (wanted_none rfl _) (run_call3 (enters_of Try.func31 (by kernel_rfl) rfl) rfl rfl (E.get 3 rfl) (E.get 1 rfl) (E.get 0 rfl)) (orient_calls (t.1) (t.2) p _) fun a w1 f1 E => ?_
          have hS := hS.fr f1 (by simp)
          have hP := hP.fr f1 (by simp)
          have hf := hf.trans f1
          clear f1
          refine env_put (d := 21) (v := .bool true) E rfl (by decide) rfl (wanted_none rfl _) ((run_ieql (E.get 0 rfl) rfl Try.underlying3 rfl).trans (by rw [q0] <;> rfl)) fun a E => ?_
          refine env_put (d := 22) (v := .bool true) E rfl (by decide) rfl (wanted_none rfl _) (run_move rfl (E.get 0 rfl)) fun a E => ?_
          refine env_put (d := 23) (v := .pointer (some ⟨M, 0, none⟩)) E rfl (by decide) rfl (w_yes (g := 7) (s := 22) E rfl rfl (by decide) (E.get 0 rfl)) (fa34_0 rfl (E.get 9 rfl)) fun a E => ?_
          refine env_put (d := 24) (v := .agg (ptC (t.1))) E rfl (by decide) rfl (w_yes (g := 7) (s := 22) E rfl rfl (by decide) (E.get 1 rfl)) (ld_sg1 rfl (E.get 0 rfl) hS) fun a E => ?_
          refine env_put (d := 25) (v := .agg (ptC p)) E rfl (by decide) rfl (w_yes (g := 7) (s := 22) E rfl rfl (by decide) (E.get 2 rfl)) (ld_pt rfl (E.get 10 rfl) hP) fun a E => ?_
          refine env_call (d := 26) (v := .int .i64 (cmpP (t.1) p)) E rfl (by decide) rfl (w_yes (g := 7) (s := 22) E rfl rfl (by decide) (E.get 3 rfl)) (run_call2 (enters_of Try.func41 (by kernel_rfl) rfl) rfl rfl (E.get 1 rfl) (E.get 0 rfl)) (compareP_calls (t.1) p _) fun a w1 f1 E => ?_
          have hS := hS.fr f1 (by simp)
          have hP := hP.fr f1 (by simp)
          have hf := hf.trans f1
          clear f1
          refine env_put (d := 27) (v := .bool true) E rfl (by decide) rfl (w_yes (g := 7) (s := 22) E rfl rfl (by decide) (E.get 4 rfl)) ((run_ileq (E.get 0 rfl) rfl Try.underlying3 rfl).trans (by rw [h2] <;> rfl)) fun a E => ?_
          refine env_put (d := 28) (v := .bool true) E rfl (by decide) rfl (wanted_none rfl _) (run_pick_t rfl (E.get 5 rfl) (E.get 0 rfl)) fun a E => ?_
          refine env_put (d := 29) (v := .bool true) E rfl (by decide) rfl (wanted_none rfl _) (run_move rfl (E.get 0 rfl)) fun a E => ?_
          refine env_put (d := 30) (v := .agg (ptC p)) E rfl (by decide) rfl (w_yes (g := 14) (s := 29) E rfl rfl (by decide) (E.get 0 rfl)) (ld_pt rfl (E.get 15 rfl) hP) fun a E => ?_
          refine env_put (d := 31) (v := .pointer (some ⟨M, 2, none⟩)) E rfl (by decide) rfl (w_yes (g := 14) (s := 29) E rfl rfl (by decide) (E.get 1 rfl)) (fa34_1 rfl (E.get 17 rfl)) fun a E => ?_
          refine env_put (d := 32) (v := .agg (ptC (t.2))) E rfl (by decide) rfl (w_yes (g := 14) (s := 29) E rfl rfl (by decide) (E.get 2 rfl)) (ld_sg2 rfl (E.get 0 rfl) hS) fun a E => ?_
          refine env_call (d := 33) (v := .int .i64 (cmpP p (t.2))) E rfl (by decide) rfl (w_yes (g := 14) (s := 29) E rfl rfl (by decide) (E.get 3 rfl)) (run_call2 (enters_of Try.func41 (by kernel_rfl) rfl) rfl rfl (E.get 2 rfl) (E.get 0 rfl)) (compareP_calls p (t.2) _) fun a w1 f1 E => ?_
          have hS := hS.fr f1 (by simp)
          have hP := hP.fr f1 (by simp)
          have hf := hf.trans f1
          clear f1
          refine env_put (d := 34) (v := .bool false) E rfl (by decide) rfl (w_yes (g := 14) (s := 29) E rfl rfl (by decide) (E.get 4 rfl)) ((run_ileq (E.get 0 rfl) rfl Try.underlying3 rfl).trans (by rw [h3] <;> rfl)) fun a E => ?_
          refine env_put (d := 35) (v := .bool false) E rfl (by decide) rfl (wanted_none rfl _) (run_pick_t rfl (E.get 5 rfl) (E.get 0 rfl)) fun a E => ?_
          refine env_put (d := 36) (v := .bool false) E rfl (by decide) rfl (wanted_none rfl _) (run_move rfl (E.get 0 rfl)) fun a E => ?_
          refine env_skip (d := 37) (g := 21) (s := 36) E rfl (by decide) rfl rfl rfl (by decide) (E.get 0 rfl) fun a E => ?_
          refine env_skip (d := 38) (g := 21) (s := 36) E rfl (by decide) rfl rfl rfl (by decide) (E.get 1 rfl) fun a E => ?_
          refine env_skip (d := 39) (g := 21) (s := 36) E rfl (by decide) rfl rfl rfl (by decide) (E.get 2 rfl) fun a E => ?_
          refine env_skip (d := 40) (g := 21) (s := 36) E rfl (by decide) rfl rfl rfl (by decide) (E.get 3 rfl) fun a E => ?_
          refine env_skip (d := 41) (g := 21) (s := 36) E rfl (by decide) rfl rfl rfl (by decide) (E.get 4 rfl) fun a E => ?_
          refine env_skip (d := 42) (g := 21) (s := 36) E rfl (by decide) rfl rfl rfl (by decide) (E.get 5 rfl) fun a E => ?_
          refine env_skipu (d := 43) (g := 27) (s := 42) E rfl (by decide) rfl rfl rfl (by decide) (E.get 0 rfl) fun a E => ?_
          refine env_skipu (d := 44) (g := 27) (s := 42) E rfl (by decide) rfl rfl rfl (by decide) (E.get 1 rfl) fun a E => ?_
          refine env_skipu (d := 45) (g := 27) (s := 42) E rfl (by decide) rfl rfl rfl (by decide) (E.get 2 rfl) fun a E => ?_
          refine env_skipu (d := 46) (g := 27) (s := 42) E rfl (by decide) rfl rfl rfl (by decide) (E.get 3 rfl) fun a E => ?_
          refine env_skip (d := 47) (g := 21) (s := 36) E rfl (by decide) rfl rfl rfl (by decide) (E.get 10 rfl) fun a E => ?_
          refine env_put (d := 48) (v := .bool false) E rfl (by decide) rfl (wanted_none rfl _) (run_pick_f rfl (E.get 11 rfl) rfl) fun a E => ?_
          refine env_set (d := 4) (v := .bool false) E rfl (by decide) (wanted_none rfl _) (run_assign rfl (E.get 0 rfl)) fun a E => ?_
          refine wpList_nil ⟨E.of ⟨E.get 0 rfl, trivial⟩, hf⟩
        | true =>
          cases b4 with
          | false =>
            refine env_put (d := 15) (v := .pointer (some ⟨M, 0, none⟩)) E rfl (by decide) rfl (wanted_none rfl _) (fa34_0 rfl (E.get 1 rfl)) fun a E => ?_
            refine env_put (d := 16) (v := .agg (ptC (t.1))) E rfl (by decide) rfl (wanted_none rfl _) (ld_sg1 rfl (E.get 0 rfl) hS) fun a E => ?_
            refine env_put (d := 17) (v := .pointer (some ⟨M, 2, none⟩)) E rfl (by decide) rfl (wanted_none rfl _) (fa34_1 rfl (E.get 3 rfl)) fun a E => ?_
            refine env_put (d := 18) (v := .agg (ptC (t.2))) E rfl (by decide) rfl (wanted_none rfl _) (ld_sg2 rfl (E.get 0 rfl) hS) fun a E => ?_
            refine env_put (d := 19) (v := .agg (ptC p)) E rfl (by decide) rfl (wanted_none rfl _) (ld_pt rfl (E.get 4 rfl) hP) fun a E => ?_
            refine env_call (d := 20) (v := .int .i64 (oriN (t.1) (t.2) p)) E rfl (by decide) rfl (wanted_none rfl _) (run_call3 (enters_of Try.func31 (by kernel_rfl) rfl) rfl rfl (E.get 3 rfl) (E.get 1 rfl) (E.get 0 rfl)) (orient_calls (t.1) (t.2) p _) fun a w1 f1 E => ?_
            have hS := hS.fr f1 (by simp)
            have hP := hP.fr f1 (by simp)
            have hf := hf.trans f1
            clear f1
            refine env_put (d := 21) (v := .bool true) E rfl (by decide) rfl (wanted_none rfl _) ((run_ieql (E.get 0 rfl) rfl Try.underlying3 rfl).trans (by rw [q0] <;> rfl)) fun a E => ?_
            refine env_put (d := 22) (v := .bool true) E rfl (by decide) rfl (wanted_none rfl _) (run_move rfl (E.get 0 rfl)) fun a E => ?_
            refine env_put (d := 23) (v := .pointer (some ⟨M, 0, none⟩)) E rfl (by decide) rfl (w_yes (g := 7) (s := 22) E rfl rfl (by decide) (E.get 0 rfl)) (fa34_0 rfl (E.get 9 rfl)) fun a E => ?_
            refine env_put (d := 24) (v := .agg (ptC (t.1))) E rfl (by decide) rfl (w_yes (g := 7) (s := 22) E rfl rfl (by decide) (E.get 1 rfl)) (ld_sg1 rfl (E.get 0 rfl) hS) fun a E => ?_
            refine env_put (d := 25) (v := .agg (ptC p)) E rfl (by decide) rfl (w_yes (g := 7) (s := 22) E rfl rfl (by decide) (E.get 2 rfl)) (ld_pt rfl (E.get 10 rfl) hP) fun a E => ?_
            refine env_call (d := 26) (v := .int .i64 (cmpP (t.1) p)) E rfl (by decide) rfl (w_yes (g := 7) (s := 22) E rfl rfl (by decide) (E.get 3 rfl)) (run_call2 (enters_of Try.func41 (by kernel_rfl) rfl) rfl rfl (E.get 1 rfl) (E.get 0 rfl)) (compareP_calls (t.1) p _) fun a w1 f1 E => ?_
            have hS := hS.fr f1 (by simp)
            have hP := hP.fr f1 (by simp)
            have hf := hf.trans f1
            clear f1
            refine env_put (d := 27) (v := .bool true) E rfl (by decide) rfl (w_yes (g := 7) (s := 22) E rfl rfl (by decide) (E.get 4 rfl)) ((run_ileq (E.get 0 rfl) rfl Try.underlying3 rfl).trans (by rw [h2] <;> rfl)) fun a E => ?_
            refine env_put (d := 28) (v := .bool true) E rfl (by decide) rfl (wanted_none rfl _) (run_pick_t rfl (E.get 5 rfl) (E.get 0 rfl)) fun a E => ?_
            refine env_put (d := 29) (v := .bool true) E rfl (by decide) rfl (wanted_none rfl _) (run_move rfl (E.get 0 rfl)) fun a E => ?_
            refine env_put (d := 30) (v := .agg (ptC p)) E rfl (by decide) rfl (w_yes (g := 14) (s := 29) E rfl rfl (by decide) (E.get 0 rfl)) (ld_pt rfl (E.get 15 rfl) hP) fun a E => ?_
            refine env_put (d := 31) (v := .pointer (some ⟨M, 2, none⟩)) E rfl (by decide) rfl (w_yes (g := 14) (s := 29) E rfl rfl (by decide) (E.get 1 rfl)) (fa34_1 rfl (E.get 17 rfl)) fun a E => ?_
            refine env_put (d := 32) (v := .agg (ptC (t.2))) E rfl (by decide) rfl (w_yes (g := 14) (s := 29) E rfl rfl (by decide) (E.get 2 rfl)) (ld_sg2 rfl (E.get 0 rfl) hS) fun a E => ?_
            refine env_call (d := 33) (v := .int .i64 (cmpP p (t.2))) E rfl (by decide) rfl (w_yes (g := 14) (s := 29) E rfl rfl (by decide) (E.get 3 rfl)) (run_call2 (enters_of Try.func41 (by kernel_rfl) rfl) rfl rfl (E.get 2 rfl) (E.get 0 rfl)) (compareP_calls p (t.2) _) fun a w1 f1 E => ?_
            have hS := hS.fr f1 (by simp)
            have hP := hP.fr f1 (by simp)
            have hf := hf.trans f1
            clear f1
            refine env_put (d := 34) (v := .bool true) E rfl (by decide) rfl (w_yes (g := 14) (s := 29) E rfl rfl (by decide) (E.get 4 rfl)) ((run_ileq (E.get 0 rfl) rfl Try.underlying3 rfl).trans (by rw [h3] <;> rfl)) fun a E => ?_
            refine env_put (d := 35) (v := .bool true) E rfl (by decide) rfl (wanted_none rfl _) (run_pick_t rfl (E.get 5 rfl) (E.get 0 rfl)) fun a E => ?_
            refine env_put (d := 36) (v := .bool true) E rfl (by decide) rfl (wanted_none rfl _) (run_move rfl (E.get 0 rfl)) fun a E => ?_
            refine env_put (d := 37) (v := .pointer (some ⟨M, 0, none⟩)) E rfl (by decide) rfl (w_yes (g := 21) (s := 36) E rfl rfl (by decide) (E.get 0 rfl)) (fa34_0 rfl (E.get 23 rfl)) fun a E => ?_
            refine env_put (d := 38) (v := .agg (ptC (t.1))) E rfl (by decide) rfl (w_yes (g := 21) (s := 36) E rfl rfl (by decide) (E.get 1 rfl)) (ld_sg1 rfl (E.get 0 rfl) hS) fun a E => ?_
            refine env_put (d := 39) (v := .pointer (some ⟨M, 2, none⟩)) E rfl (by decide) rfl (w_yes (g := 21) (s := 36) E rfl rfl (by decide) (E.get 2 rfl)) (fa34_1 rfl (E.get 25 rfl)) fun a E => ?_
            refine env_put (d := 40) (v := .agg (ptC (t.2))) E rfl (by decide) rfl (w_yes (g := 21) (s := 36) E rfl rfl (by decide) (E.get 3 rfl)) (ld_sg2 rfl (E.get 0 rfl) hS) fun a E => ?_
            refine env_put (d := 41) (v := .bool true) E rfl (by decide) rfl (w_yes (g := 21) (s := 36) E rfl rfl (by decide) (E.get 4 rfl)) ((neq32 rfl (E.get 2 rfl) (E.get 0 rfl)).trans (by rw [h4] <;> rfl)) fun a E => ?_
            refine env_put (d := 42) (v := .bool true) E rfl (by decide) rfl (w_yes (g := 21) (s := 36) E rfl rfl (by decide) (E.get 5 rfl)) (run_move rfl (E.get 0 rfl)) fun a E => ?_
            refine env_skip (d := 43) (g := 27) (s := 42) E rfl (by decide) rfl rfl rfl (by decide) (E.get 0 rfl) fun a E => ?_
            refine env_skip (d := 44) (g := 27) (s := 42) E rfl (by decide) rfl rfl rfl (by decide) (E.get 1 rfl) fun a E => ?_
            refine env_skip (d := 45) (g := 27) (s := 42) E rfl (by decide) rfl rfl rfl (by decide) (E.get 2 rfl) fun a E => ?_
            refine env_skip (d := 46) (g := 27) (s := 42) E rfl (by decide) rfl rfl rfl (by decide) (E.get 3 rfl) fun a E => ?_
            refine env_put (d := 47) (v := .bool true) E rfl (by decide) rfl (w_yes (g := 21) (s := 36) E rfl rfl (by decide) (E.get 10 rfl)) (run_pick_t rfl (E.get 4 rfl) rfl) fun a E => ?_
            refine env_put (d := 48) (v := .bool true) E rfl (by decide) rfl (wanted_none rfl _) (run_pick_t rfl (E.get 11 rfl) (E.get 0 rfl)) fun a E => ?_
            refine env_set (d := 4) (v := .bool true) E rfl (by decide) (wanted_none rfl _) (run_assign rfl (E.get 0 rfl)) fun a E => ?_
            refine wpList_nil ⟨E.of ⟨E.get 0 rfl, trivial⟩, hf⟩
          | true =>
            cases b5 with
            | false =>
              refine env_put (d := 15) (v := .pointer (some ⟨M, 0, none⟩)) E rfl (by decide) rfl (wanted_none rfl _) (fa34_0 rfl (E.get 1 rfl)) fun a E => ?_
              refine env_put (d := 16) (v := .agg (ptC (t.1))) E rfl (by decide) rfl (wanted_none rfl _) (ld_sg1 rfl (E.get 0 rfl) hS) fun a E => ?_
              refine env_put (d := 17) (v := .pointer (some ⟨M, 2, none⟩)) E rfl (by decide) rfl (wanted_none rfl _) (fa34_1 rfl (E.get 3 rfl)) fun a E => ?_
              refine env_put (d := 18) (v := .agg (ptC (t.2))) E rfl (by decide) rfl (wanted_none rfl _) (ld_sg2 rfl (E.get 0 rfl) hS) fun a E => ?_
              refine env_put (d := 19) (v := .agg (ptC p)) E rfl (by decide) rfl (wanted_none rfl _) (ld_pt rfl (E.get 4 rfl) hP) fun a E => ?_
              refine env_call (d := 20) (v := .int .i64 (oriN (t.1) (t.2) p)) E rfl (by decide) rfl (wanted_none rfl _) (run_call3 (enters_of Try.func31 (by kernel_rfl) rfl) rfl rfl (E.get 3 rfl) (E.get 1 rfl) (E.get 0 rfl)) (orient_calls (t.1) (t.2) p _) fun a w1 f1 E => ?_
              have hS := hS.fr f1 (by simp)
              have hP := hP.fr f1 (by simp)
              have hf := hf.trans f1
              clear f1
              refine env_put (d := 21) (v := .bool true) E rfl (by decide) rfl (wanted_none rfl _) ((run_ieql (E.get 0 rfl) rfl Try.underlying3 rfl).trans (by rw [q0] <;> rfl)) fun a E => ?_
              refine env_put (d := 22) (v := .bool true) E rfl (by decide) rfl (wanted_none rfl _) (run_move rfl (E.get 0 rfl)) fun a E => ?_
              refine env_put (d := 23) (v := .pointer (some ⟨M, 0, none⟩)) E rfl (by decide) rfl (w_yes (g := 7) (s := 22) E rfl rfl (by decide) (E.get 0 rfl)) (fa34_0 rfl (E.get 9 rfl)) fun a E => ?_
              refine env_put (d := 24) (v := .agg (ptC (t.1))) E rfl (by decide) rfl (w_yes (g := 7) (s := 22) E rfl rfl (by decide) (E.get 1 rfl)) (ld_sg1 rfl (E.get 0 rfl) hS) fun a E => ?_
              refine env_put (d := 25) (v := .agg (ptC p)) E rfl (by decide) rfl (w_yes (g := 7) (s := 22) E rfl rfl (by decide) (E.get 2 rfl)) (ld_pt rfl (E.get 10 rfl) hP) fun a E => ?_
              refine env_call (d := 26) (v := .int .i64 (cmpP (t.1) p)) E rfl (by decide) rfl (w_yes (g := 7) (s := 22) E rfl rfl (by decide) (E.get 3 rfl)) (run_call2 (enters_of Try.func41 (by kernel_rfl) rfl) rfl rfl (E.get 1 rfl) (E.get 0 rfl)) (compareP_calls (t.1) p _) fun a w1 f1 E => ?_
              have hS := hS.fr f1 (by simp)
              have hP := hP.fr f1 (by simp)
              have hf := hf.trans f1
              clear f1
              refine env_put (d := 27) (v := .bool true) E rfl (by decide) rfl (w_yes (g := 7) (s := 22) E rfl rfl (by decide) (E.get 4 rfl)) ((run_ileq (E.get 0 rfl) rfl Try.underlying3 rfl).trans (by rw [h2] <;> rfl)) fun a E => ?_
              refine env_put (d := 28) (v := .bool true) E rfl (by decide) rfl (wanted_none rfl _) (run_pick_t rfl (E.get 5 rfl) (E.get 0 rfl)) fun a E => ?_
              refine env_put (d := 29) (v := .bool true) E rfl (by decide) rfl (wanted_none rfl _) (run_move rfl (E.get 0 rfl)) fun a E => ?_
              refine env_put (d := 30) (v := .agg (ptC p)) E rfl (by decide) rfl (w_yes (g := 14) (s := 29) E rfl rfl (by decide) (E.get 0 rfl)) (ld_pt rfl (E.get 15 rfl) hP) fun a E => ?_
              refine env_put (d := 31) (v := .pointer (some ⟨M, 2, none⟩)) E rfl (by decide) rfl (w_yes (g := 14) (s := 29) E rfl rfl (by decide) (E.get 1 rfl)) (fa34_1 rfl (E.get 17 rfl)) fun a E => ?_
              refine env_put (d := 32) (v := .agg (ptC (t.2))) E rfl (by decide) rfl (w_yes (g := 14) (s := 29) E rfl rfl (by decide) (E.get 2 rfl)) (ld_sg2 rfl (E.get 0 rfl) hS) fun a E => ?_
              refine env_call (d := 33) (v := .int .i64 (cmpP p (t.2))) E rfl (by decide) rfl (w_yes (g := 14) (s := 29) E rfl rfl (by decide) (E.get 3 rfl)) (run_call2 (enters_of Try.func41 (by kernel_rfl) rfl) rfl rfl (E.get 2 rfl) (E.get 0 rfl)) (compareP_calls p (t.2) _) fun a w1 f1 E => ?_
              have hS := hS.fr f1 (by simp)
              have hP := hP.fr f1 (by simp)
              have hf := hf.trans f1
              clear f1
              refine env_put (d := 34) (v := .bool true) E rfl (by decide) rfl (w_yes (g := 14) (s := 29) E rfl rfl (by decide) (E.get 4 rfl)) ((run_ileq (E.get 0 rfl) rfl Try.underlying3 rfl).trans (by rw [h3] <;> rfl)) fun a E => ?_
              refine env_put (d := 35) (v := .bool true) E rfl (by decide) rfl (wanted_none rfl _) (run_pick_t rfl (E.get 5 rfl) (E.get 0 rfl)) fun a E => ?_
              refine env_put (d := 36) (v := .bool true) E rfl (by decide) rfl (wanted_none rfl _) (run_move rfl (E.get 0 rfl)) fun a E => ?_
              refine env_put (d := 37) (v := .pointer (some ⟨M, 0, none⟩)) E rfl (by decide) rfl (w_yes (g := 21) (s := 36) E rfl rfl (by decide) (E.get 0 rfl)) (fa34_0 rfl (E.get 23 rfl)) fun a E => ?_
              refine env_put (d := 38) (v := .agg (ptC (t.1))) E rfl (by decide) rfl (w_yes (g := 21) (s := 36) E rfl rfl (by decide) (E.get 1 rfl)) (ld_sg1 rfl (E.get 0 rfl) hS) fun a E => ?_
              refine env_put (d := 39) (v := .pointer (some ⟨M, 2, none⟩)) E rfl (by decide) rfl (w_yes (g := 21) (s := 36) E rfl rfl (by decide) (E.get 2 rfl)) (fa34_1 rfl (E.get 25 rfl)) fun a E => ?_
              refine env_put (d := 40) (v := .agg (ptC (t.2))) E rfl (by decide) rfl (w_yes (g := 21) (s := 36) E rfl rfl (by decide) (E.get 3 rfl)) (ld_sg2 rfl (E.get 0 rfl) hS) fun a E => ?_
              refine env_put (d := 41) (v := .bool false) E rfl (by decide) rfl (w_yes (g := 21) (s := 36) E rfl rfl (by decide) (E.get 4 rfl)) ((neq32 rfl (E.get 2 rfl) (E.get 0 rfl)).trans (by rw [h4] <;> rfl)) fun a E => ?_
              refine env_put (d := 42) (v := .bool false) E rfl (by decide) rfl (w_yes (g := 21) (s := 36) E rfl rfl (by decide) (E.get 5 rfl)) (run_move rfl (E.get 0 rfl)) fun a E => ?_
              refine env_put (d := 43) (v := .agg (ptC p)) E rfl (by decide) rfl (w_yes (g := 27) (s := 42) E rfl rfl (by decide) (E.get 0 rfl)) (ld_pt rfl (E.get 28 rfl) hP) fun a E => ?_
              refine env_put (d := 44) (v := .pointer (some ⟨M, 0, none⟩)) E rfl (by decide) rfl (w_yes (g := 27) (s := 42) E rfl rfl (by decide) (E.get 1 rfl)) (fa34_0 rfl (E.get 30 rfl)) fun a E => ?_
              refine env_put (d := 45) (v := .agg (ptC (t.1))) E rfl (by decide) rfl (w_yes (g := 27) (s := 42) E rfl rfl (by decide) (E.get 2 rfl)) (ld_sg1 rfl (E.get 0 rfl) hS) fun a E => ?_
              refine env_put (d := 46) (v := .bool false) E rfl (by decide) rfl (w_yes (g := 27) (s := 42) E rfl rfl (by decide) (E.get 3 rfl)) ((eql32 rfl (E.get 2 rfl) (E.get 0 rfl)).trans (by rw [h5] <;> rfl)) fun a E => ?_
              refine env_put (d := 47) (v := .bool false) E rfl (by decide) rfl (w_yes (g := 21) (s := 36) E rfl rfl (by decide) (E.get 10 rfl)) (run_pick_f rfl (E.get 4 rfl) (E.get 0 rfl)) fun a E => ?_
              refine env_put (d := 48) (v := .bool false) E rfl (by decide) rfl (wanted_none rfl _) (run_pick_t rfl (E.get 11 rfl) (E.get 0 rfl)) fun a E => ?_
              refine env_set (d := 4) (v := .bool false) E rfl (by decide) (wanted_none rfl _) (run_assign rfl (E.get 0 rfl)) fun a E => ?_
              refine wpList_nil ⟨E.of ⟨E.get 0 rfl, trivial⟩, hf⟩
            | true =>
              refine env_put (d := 15) (v := .pointer (some ⟨M, 0, none⟩)) E rfl (by decide) rfl (wanted_none rfl _) (fa34_0 rfl (E.get 1 rfl)) fun a E => ?_
              refine env_put (d := 16) (v := .agg (ptC (t.1))) E rfl (by decide) rfl (wanted_none rfl _) (ld_sg1 rfl (E.get 0 rfl) hS) fun a E => ?_
              refine env_put (d := 17) (v := .pointer (some ⟨M, 2, none⟩)) E rfl (by decide) rfl (wanted_none rfl _) (fa34_1 rfl (E.get 3 rfl)) fun a E => ?_
              refine env_put (d := 18) (v := .agg (ptC (t.2))) E rfl (by decide) rfl (wanted_none rfl _) (ld_sg2 rfl (E.get 0 rfl) hS) fun a E => ?_
              refine env_put (d := 19) (v := .agg (ptC p)) E rfl (by decide) rfl (wanted_none rfl _) (ld_pt rfl (E.get 4 rfl) hP) fun a E => ?_
              refine env_call (d := 20) (v := .int .i64 (oriN (t.1) (t.2) p)) E rfl (by decide) rfl (wanted_none rfl _) (run_call3 (enters_of Try.func31 (by kernel_rfl) rfl) rfl rfl (E.get 3 rfl) (E.get 1 rfl) (E.get 0 rfl)) (orient_calls (t.1) (t.2) p _) fun a w1 f1 E => ?_
              have hS := hS.fr f1 (by simp)
              have hP := hP.fr f1 (by simp)
              have hf := hf.trans f1
              clear f1
              refine env_put (d := 21) (v := .bool true) E rfl (by decide) rfl (wanted_none rfl _) ((run_ieql (E.get 0 rfl) rfl Try.underlying3 rfl).trans (by rw [q0] <;> rfl)) fun a E => ?_
              refine env_put (d := 22) (v := .bool true) E rfl (by decide) rfl (wanted_none rfl _) (run_move rfl (E.get 0 rfl)) fun a E => ?_
              refine env_put (d := 23) (v := .pointer (some ⟨M, 0, none⟩)) E rfl (by decide) rfl (w_yes (g := 7) (s := 22) E rfl rfl (by decide) (E.get 0 rfl)) (fa34_0 rfl (E.get 9 rfl)) fun a E => ?_
              refine env_put (d := 24) (v := .agg (ptC (t.1))) E rfl (by decide) rfl (w_yes (g := 7) (s := 22) E rfl rfl (by decide) (E.get 1 rfl)) (ld_sg1 rfl (E.get 0 rfl) hS) fun a E => ?_
              refine env_put (d := 25) (v := .agg (ptC p)) E rfl (by decide) rfl (w_yes (g := 7) (s := 22) E rfl rfl (by decide) (E.get 2 rfl)) (ld_pt rfl (E.get 10 rfl) hP) fun a E => ?_
              refine env_call (d := 26) (v := .int .i64 (cmpP (t.1) p)) E rfl (by decide) rfl (w_yes (g := 7) (s := 22) E rfl rfl (by decide) (E.get 3 rfl)) (run_call2 (enters_of Try.func41 (by kernel_rfl) rfl) rfl rfl (E.get 1 rfl) (E.get 0 rfl)) (compareP_calls (t.1) p _) fun a w1 f1 E => ?_
              have hS := hS.fr f1 (by simp)
              have hP := hP.fr f1 (by simp)
              have hf := hf.trans f1
              clear f1
              refine env_put (d := 27) (v := .bool true) E rfl (by decide) rfl (w_yes (g := 7) (s := 22) E rfl rfl (by decide) (E.get 4 rfl)) ((run_ileq (E.get 0 rfl) rfl Try.underlying3 rfl).trans (by rw [h2] <;> rfl)) fun a E => ?_
              refine env_put (d := 28) (v := .bool true) E rfl (by decide) rfl (wanted_none rfl _) (run_pick_t rfl (E.get 5 rfl) (E.get 0 rfl)) fun a E => ?_
              refine env_put (d := 29) (v := .bool true) E rfl (by decide) rfl (wanted_none rfl _) (run_move rfl (E.get 0 rfl)) fun a E => ?_
              refine env_put (d := 30) (v := .agg (ptC p)) E rfl (by decide) rfl (w_yes (g := 14) (s := 29) E rfl rfl (by decide) (E.get 0 rfl)) (ld_pt rfl (E.get 15 rfl) hP) fun a E => ?_
              refine env_put (d := 31) (v := .pointer (some ⟨M, 2, none⟩)) E rfl (by decide) rfl (w_yes (g := 14) (s := 29) E rfl rfl (by decide) (E.get 1 rfl)) (fa34_1 rfl (E.get 17 rfl)) fun a E => ?_
              refine env_put (d := 32) (v := .agg (ptC (t.2))) E rfl (by decide) rfl (w_yes (g := 14) (s := 29) E rfl rfl (by decide) (E.get 2 rfl)) (ld_sg2 rfl (E.get 0 rfl) hS) fun a E => ?_
              refine env_call (d := 33) (v := .int .i64 (cmpP p (t.2))) E rfl (by decide) rfl (w_yes (g := 14) (s := 29) E rfl rfl (by decide) (E.get 3 rfl)) (run_call2 (enters_of Try.func41 (by kernel_rfl) rfl) rfl rfl (E.get 2 rfl) (E.get 0 rfl)) (compareP_calls p (t.2) _) fun a w1 f1 E => ?_
              have hS := hS.fr f1 (by simp)
              have hP := hP.fr f1 (by simp)
              have hf := hf.trans f1
              clear f1
              refine env_put (d := 34) (v := .bool true) E rfl (by decide) rfl (w_yes (g := 14) (s := 29) E rfl rfl (by decide) (E.get 4 rfl)) ((run_ileq (E.get 0 rfl) rfl Try.underlying3 rfl).trans (by rw [h3] <;> rfl)) fun a E => ?_
              refine env_put (d := 35) (v := .bool true) E rfl (by decide) rfl (wanted_none rfl _) (run_pick_t rfl (E.get 5 rfl) (E.get 0 rfl)) fun a E => ?_
              refine env_put (d := 36) (v := .bool true) E rfl (by decide) rfl (wanted_none rfl _) (run_move rfl (E.get 0 rfl)) fun a E => ?_
              refine env_put (d := 37) (v := .pointer (some ⟨M, 0, none⟩)) E rfl (by decide) rfl (w_yes (g := 21) (s := 36) E rfl rfl (by decide) (E.get 0 rfl)) (fa34_0 rfl (E.get 23 rfl)) fun a E => ?_
              refine env_put (d := 38) (v := .agg (ptC (t.1))) E rfl (by decide) rfl (w_yes (g := 21) (s := 36) E rfl rfl (by decide) (E.get 1 rfl)) (ld_sg1 rfl (E.get 0 rfl) hS) fun a E => ?_
              refine env_put (d := 39) (v := .pointer (some ⟨M, 2, none⟩)) E rfl (by decide) rfl (w_yes (g := 21) (s := 36) E rfl rfl (by decide) (E.get 2 rfl)) (fa34_1 rfl (E.get 25 rfl)) fun a E => ?_
              refine env_put (d := 40) (v := .agg (ptC (t.2))) E rfl (by decide) rfl (w_yes (g := 21) (s := 36) E rfl rfl (by decide) (E.get 3 rfl)) (ld_sg2 rfl (E.get 0 rfl) hS) fun a E => ?_
              refine env_put (d := 41) (v := .bool false) E rfl (by decide) rfl (w_yes (g := 21) (s := 36) E rfl rfl (by decide) (E.get 4 rfl)) ((neq32 rfl (E.get 2 rfl) (E.get 0 rfl)).trans (by rw [h4] <;> rfl)) fun a E => ?_
              refine env_put (d := 42) (v := .bool false) E rfl (by decide) rfl (w_yes (g := 21) (s := 36) E rfl rfl (by decide) (E.get 5 rfl)) (run_move rfl (E.get 0 rfl)) fun a E => ?_
              refine env_put (d := 43) (v := .agg (ptC p)) E rfl (by decide) rfl (w_yes (g := 27) (s := 42) E rfl rfl (by decide) (E.get 0 rfl)) (ld_pt rfl (E.get 28 rfl) hP) fun a E => ?_
              refine env_put (d := 44) (v := .pointer (some ⟨M, 0, none⟩)) E rfl (by decide) rfl (w_yes (g := 27) (s := 42) E rfl rfl (by decide) (E.get 1 rfl)) (fa34_0 rfl (E.get 30 rfl)) fun a E => ?_
              refine env_put (d := 45) (v := .agg (ptC (t.1))) E rfl (by decide) rfl (w_yes (g := 27) (s := 42) E rfl rfl (by decide) (E.get 2 rfl)) (ld_sg1 rfl (E.get 0 rfl) hS) fun a E => ?_
              refine env_put (d := 46) (v := .bool true) E rfl (by decide) rfl (w_yes (g := 27) (s := 42) E rfl rfl (by decide) (E.get 3 rfl)) ((eql32 rfl (E.get 2 rfl) (E.get 0 rfl)).trans (by rw [h5] <;> rfl)) fun a E => ?_
              refine env_put (d := 47) (v := .bool true) E rfl (by decide) rfl (w_yes (g := 21) (s := 36) E rfl rfl (by decide) (E.get 10 rfl)) (run_pick_f rfl (E.get 4 rfl) (E.get 0 rfl)) fun a E => ?_
              refine env_put (d := 48) (v := .bool true) E rfl (by decide) rfl (wanted_none rfl _) (run_pick_t rfl (E.get 11 rfl) (E.get 0 rfl)) fun a E => ?_
              refine env_set (d := 4) (v := .bool true) E rfl (by decide) (wanted_none rfl _) (run_assign rfl (E.get 0 rfl)) fun a E => ?_
              refine wpList_nil ⟨E.of ⟨E.get 0 rfl, trivial⟩, hf⟩
  · have hE : Hid (onN s p = false) := by unfold onN; rw [Hid, decide_eq_false hnr, Bool.false_and]
    rw [decide_eq_false hnr]
    clear hnr
    go_wp2
    go_ret
    exact ⟨by rw [hE.out]; rfl, hfH.out⟩
end Go.Proofs.Ytiainjcimmeedaa
