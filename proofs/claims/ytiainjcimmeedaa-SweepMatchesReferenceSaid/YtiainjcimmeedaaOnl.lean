/- The program's geometry: online. -/
import Derived.Test.YtiainjcimmeedaaOn
import Derived.Deep.RegionHeld3
set_option linter.unusedVariables false
set_option linter.unusedSimpArgs false
namespace Go.Proofs.Ytiainjcimmeedaa
open Go.RowKit Go.Pl Go.Geo

theorem ret_int {k : IntKind} {a b : Int} (h : b = a) : Ending.returned (.int k a) = .returned (.int k b) := by rw [h]
def lohi (lo hi : Pt) : Int := if cmpP lo hi = -1 then 5 else if cmpP lo hi = 0 then 1 else 0
theorem online1_deg {u v : Sg} (h : u.1 = u.2) : online1 u v = if onS v u.1 = false then 0 else if u.1 = v.1 ∨ u.1 = v.2 then 1 else 2 := by unfold online1; rw [if_pos h]
theorem online1_non {u v : Sg} (h : u.1 ≠ u.2) : online1 u v = lohi (low u v) (high u v) := by unfold online1 lohi; rw [if_neg h]
theorem onN_near {s : Sg} {p : Pt} (h1 : nearS s) (h2 : nearP p) : onN s p = onS s p := by
  unfold onN; rw [decide_eq_true, Bool.true_and]; intro q hq; simp at hq; rcases hq with rfl | rfl | rfl; exact h1.1; exact h1.2; exact h2

def Reg9 (w : World) (u v : Sg) (b0 b1 : Nat) (a' : Act) (w' : World) : Prop := ∃ b2 b3 : Nat, Env 63 [(6, .pointer (some ⟨b3, 0, none⟩)), (5, .pointer (some ⟨b2, 0, none⟩)), (3, .pointer (some ⟨b1, 0, none⟩)), (2, .pointer (some ⟨b0, 0, none⟩)), (4, .int .i64 0)] a' ∧ sgB w' b0 u ∧ sgB w' b1 v ∧ ptB w' b2 u.1 ∧ ptB w' b3 u.2 ∧ b2 ≠ b3 ∧ (b0 ≠ b2 ∧ b0 ≠ b3 ∧ b1 ≠ b2 ∧ b1 ≠ b3) ∧ (w.heap.size ≤ b2 ∧ w.heap.size ≤ b3) ∧ Fr (fun _ => False) w w'
theorem reg9_end {w w1 : World} {u v : Sg} {b0 b1 : Nat} {a' : Act} (h0 : sgB w1 b0 u) (h1 : sgB w1 b1 v) (hf : Fr (fun _ => False) w w1)
    (E : Env 63 [(6, .pointer (some ⟨w1.heap.size + 1, 0, none⟩)), (5, .pointer (some ⟨w1.heap.size, 0, none⟩)), (3, .pointer (some ⟨b1, 0, none⟩)), (2, .pointer (some ⟨b0, 0, none⟩)), (4, .int .i64 0)] a') : Reg9 w u v b0 b1 a' ((w1.alloc (.cells (ptC u.1) 32)).alloc (.cells (ptC u.2) 32)).drew := by
  have q := hf.size
  have k0 := lt_of_blk h0
  have k1 := lt_of_blk h1
  have g : Fr (fun _ => False) w1 ((w1.alloc (.cells (ptC u.1) 32)).alloc (.cells (ptC u.2) 32)).drew := (((Fr.refl _ _).alloc _).alloc _).drew
  exact ⟨_, _, E, h0.fr g id, h1.fr g id, (blk_alloc (by simp) _).trans (blk_alloc_new _ _), blk_alloc_at (by simp) _, by omega, by omega, by omega, hf.trans g⟩
theorem reg9_end' {w w1 : World} {u v : Sg} {b0 b1 : Nat} {a' : Act} (h0 : sgB w1 b0 u) (h1 : sgB w1 b1 v) (hf : Fr (fun _ => False) w w1)
    (E : Env 63 [(6, .pointer (some ⟨w1.heap.size, 0, none⟩)), (5, .pointer (some ⟨w1.heap.size + 1, 0, none⟩)), (3, .pointer (some ⟨b1, 0, none⟩)), (2, .pointer (some ⟨b0, 0, none⟩)), (4, .int .i64 0)] a') : Reg9 w u v b0 b1 a' ((w1.alloc (.cells (ptC u.2) 32)).alloc (.cells (ptC u.1) 32)).drew := by
  have q := hf.size
  have k0 := lt_of_blk h0
  have k1 := lt_of_blk h1
  have g : Fr (fun _ => False) w1 ((w1.alloc (.cells (ptC u.2) 32)).alloc (.cells (ptC u.1) 32)).drew := (((Fr.refl _ _).alloc _).alloc _).drew
  exact ⟨_, _, E, h0.fr g id, h1.fr g id, blk_alloc_at (by simp) _, (blk_alloc (by simp) _).trans (blk_alloc_new _ _), by omega, by omega, by omega, hf.trans g⟩

set_option maxRecDepth 100000 in
set_option maxHeartbeats 4000000 in
theorem online_calls (s t : Sg) (hs : nearS s) (ht : nearS t) (w : World) : Calls Try.prog 32 #[.agg (sgC s), .agg (sgC t)] w fun e w' => e = .returned (.int .i64 (online s t)) ∧ Fr (fun _ => False) w w' := by
  refine wp_start2 Try.func32 rfl rfl (n := 63) (by decide) fun a E => ?_
  have hf := Fr.refl (fun _ => False) w
  refine wp_seq ?_
  refine wp_region_lit ?_
  refine env_box34 (d := 2) E rfl (by decide) rfl (wanted_none rfl _) rfl (E.get 0 rfl) fun a w1 b0 e1 hb0 f1 E => ?_
  have l_b0 : w.heap.size ≤ b0 := by have := hf.size; omega
  have hf := hf.trans f1
  clear e1 f1
  refine env_box34 (d := 3) E rfl (by decide) rfl (wanted_none rfl _) rfl (E.get 2 rfl) fun a w1 b1 e1 hb1 f1 E => ?_
  have l_b1 : w.heap.size ≤ b1 := by have := hf.size; omega
  have n_b0_b1 : b0 ≠ b1 := by have := lt_of_blk hb0; omega
  have hb0 := hb0.fr f1 (fun h => h)
  have hf := hf.trans f1
  clear e1 f1
  refine env_put (d := 4) (v := .int .i64 0) E rfl (by decide) rfl (wanted_none rfl _) (run_assign rfl rfl) fun a E => ?_
  refine wpList_nil ?_
  refine then_n ?_
  refine wp_seq_cut (fun a' w' => ∃ u v : Sg, Env 63 [(3, .pointer (some ⟨b1, 0, none⟩)), (2, .pointer (some ⟨b0, 0, none⟩)), (4, .int .i64 0)] a' ∧ sgB w' b0 u ∧ sgB w' b1 v ∧ Fr (fun _ => False) w w' ∧ Hid (online s t = online1 u v) ∧ Hid (nearS u) ∧ Hid (nearS v)) ?_ ?_
  · refine wp_seq ?_
    refine wp_region_lit ?_
    refine env_put (d := 7) (v := .pointer (some ⟨b1, 0, none⟩)) E rfl (by decide) rfl (wanted_none rfl _) (fa34_0 rfl (E.get 1 rfl)) fun a E => ?_
    refine env_put (d := 8) (v := .agg (ptC (t.1))) E rfl (by decide) rfl (wanted_none rfl _) (ld_sg1 rfl (E.get 0 rfl) hb1) fun a E => ?_
    refine env_put (d := 9) (v := .pointer (some ⟨b1, 2, none⟩)) E rfl (by decide) rfl (wanted_none rfl _) (fa34_1 rfl (E.get 3 rfl)) fun a E => ?_
    refine env_put (d := 10) (v := .agg (ptC (t.2))) E rfl (by decide) rfl (wanted_none rfl _) (ld_sg2 rfl (E.get 0 rfl) hb1) fun a E => ?_
    refine env_put (d := 11) (v := .bool (decide ((t.1) = (t.2)))) E rfl (by decide) rfl (wanted_none rfl _) (eql32 rfl (E.get 2 rfl) (E.get 0 rfl)) fun a E => ?_
    refine wpList_nil ?_
    refine then_n ?_
    cases hq1 : (decide ((t.1) = (t.2))) with
    | false =>
      rw [hq1] at E
      refine wp_cond_false (E.get 0 rfl) ?_
      refine wp_skip ?_
      refine then_n ?_
      exact ⟨s, t, E.of ⟨E.get 6 rfl, E.get 7 rfl, E.get 5 rfl, trivial⟩, hb0, hb1, hf, (by unfold online; simp only [decide_eq_true_eq, decide_eq_false_iff_not] at hq1; simp only [Hid, hq1, if_true, if_false]), hs, ht⟩
    | true =>
      rw [hq1] at E
      refine wp_cond_true (E.get 0 rfl) ?_
      refine wp_region_lit ?_
      refine env_put (d := 12) (v := .agg (sgC t)) E rfl (by decide) rfl (wanted_none rfl _) (ld_sg rfl (E.get 6 rfl) hb1) fun a E => ?_
      refine env_put (d := 13) (v := .agg (sgC s)) E rfl (by decide) rfl (wanted_none rfl _) (ld_sg rfl (E.get 8 rfl) hb0) fun a E => ?_
      refine env_st34 E rfl (wanted_none rfl _) rfl (E.get 9 rfl) (E.get 1 rfl) hb0 fun w1 hb0 f1 E => ?_
      have hb1 := hb1.fr f1 n_b0_b1.symm
      have hf := hf.trans' f1 fun r hr e => by have : r = b0 := e; omega
      clear f1
      refine env_st34 E rfl (wanted_none rfl _) rfl (E.get 8 rfl) (E.get 0 rfl) hb1 fun w1 hb1 f1 E => ?_
      have hb0 := hb0.fr f1 n_b0_b1
      have hf := hf.trans' f1 fun r hr e => by have : r = b1 := e; omega
      clear f1
      refine wpList_nil ?_
      refine then_n ?_
      exact ⟨t, s, E.of ⟨E.get 8 rfl, E.get 9 rfl, E.get 7 rfl, trivial⟩, hb0, hb1, hf, (by unfold online; simp only [decide_eq_true_eq, decide_eq_false_iff_not] at hq1; simp only [Hid, hq1, if_true, if_false]), ht, hs⟩
  · rintro a w1 ⟨u, v, E, hb0, hb1, hf, hO, hu, hv⟩
    refine wp_seq ?_
    refine wp_seq ?_
    refine wp_region_lit ?_
    refine env_put (d := 14) (v := .pointer (some ⟨b0, 0, none⟩)) E rfl (by decide) rfl (wanted_none rfl _) (fa34_0 rfl (E.get 1 rfl)) fun a E => ?_
    refine env_put (d := 15) (v := .agg (ptC (u.1))) E rfl (by decide) rfl (wanted_none rfl _) (ld_sg1 rfl (E.get 0 rfl) hb0) fun a E => ?_
    refine env_put (d := 16) (v := .pointer (some ⟨b0, 2, none⟩)) E rfl (by decide) rfl (wanted_none rfl _) (fa34_1 rfl (E.get 3 rfl)) fun a E => ?_
    refine env_put (d := 17) (v := .agg (ptC (u.2))) E rfl (by decide) rfl (wanted_none rfl _) (ld_sg2 rfl (E.get 0 rfl) hb0) fun a E => ?_
    refine env_put (d := 18) (v := .bool (decide ((u.1) = (u.2)))) E rfl (by decide) rfl (wanted_none rfl _) (eql32 rfl (E.get 2 rfl) (E.get 0 rfl)) fun a E => ?_
    refine wpList_nil ?_
    refine then_n ?_
    cases hq2 : (decide ((u.1) = (u.2))) with
    | false =>
      rw [hq2] at E
      refine wp_cond_false (E.get 0 rfl) ?_
      refine wp_skip ?_
      refine then_n ?_
      have hdeg : Hid (online1 u v = lohi (low u v) (high u v)) := online1_non (by simpa using hq2)
      refine wp_seq_cut (Reg9 w u v b0 b1) ?_ ?_
      · rw [frame_lit E.size, E.df]
        have x3 := E.get 5 rfl
        have x2 := E.get 6 rfl
        have x4 := E.get 7 rfl
        clear E
        generalize a.eval = ρ at *
        rw [show (List.range 63).map (fun i => ρ (.tmp i)) = [ρ (.tmp 0), ρ (.tmp 1), ρ (.tmp 2), ρ (.tmp 3), ρ (.tmp 4), ρ (.tmp 5), ρ (.tmp 6), ρ (.tmp 7), ρ (.tmp 8), ρ (.tmp 9), ρ (.tmp 10), ρ (.tmp 11), ρ (.tmp 12), ρ (.tmp 13), ρ (.tmp 14), ρ (.tmp 15), ρ (.tmp 16), ρ (.tmp 17), ρ (.tmp 18), ρ (.tmp 19), ρ (.tmp 20), ρ (.tmp 21), ρ (.tmp 22), ρ (.tmp 23), ρ (.tmp 24), ρ (.tmp 25), ρ (.tmp 26), ρ (.tmp 27), ρ (.tmp 28), ρ (.tmp 29), ρ (.tmp 30), ρ (.tmp 31), ρ (.tmp 32), ρ (.tmp 33), ρ (.tmp 34), ρ (.tmp 35), ρ (.tmp 36), ρ (.tmp 37), ρ (.tmp 38), ρ (.tmp 39), ρ (.tmp 40), ρ (.tmp 41), ρ (.tmp 42), ρ (.tmp 43), ρ (.tmp 44), ρ (.tmp 45), ρ (.tmp 46), ρ (.tmp 47), ρ (.tmp 48), ρ (.tmp 49), ρ (.tmp 50), ρ (.tmp 51), ρ (.tmp 52), ρ (.tmp 53), ρ (.tmp 54), ρ (.tmp 55), ρ (.tmp 56), ρ (.tmp 57), ρ (.tmp 58), ρ (.tmp 59), ρ (.tmp 60), ρ (.tmp 61), ρ (.tmp 62)] from rfl, x3, x2, x4]
        clear x3 x2 x4
        dsimp only
        obtain ⟨c0, c1, c2, c3⟩ := hb0.c
        have hlt := lt_of_blk hb0
        have hS0 : w1.cell? ⟨b0, 0, none⟩ = some (.int .i64 u.1.1) ∧ w1.cell? ⟨b0, 1, none⟩ = some (.int .i64 u.1.2) ∧ w1.cell? ⟨b0, 2, none⟩ = some (.int .i64 u.2.1) ∧ w1.cell? ⟨b0, 3, none⟩ = some (.int .i64 u.2.2) := ⟨c0, c1, c2, c3⟩
        have hSt : ∀ w', Fr (fun k => w1.heap.size ≤ k) w1 w' → w'.cell? ⟨b0, 0, none⟩ = some (.int .i64 u.1.1) ∧ w'.cell? ⟨b0, 1, none⟩ = some (.int .i64 u.1.2) ∧ w'.cell? ⟨b0, 2, none⟩ = some (.int .i64 u.2.1) ∧ w'.cell? ⟨b0, 3, none⟩ = some (.int .i64 u.2.2) := fun w' hf => ⟨hf.cell c0 (by simp only; omega), hf.cell c1 (by simp only; omega), hf.cell c2 (by simp only; omega), hf.cell c3 (by simp only; omega)⟩
        have hStH := Lib.hid hSt
        have hb0H := Lib.hid hb0
        have hb1H := Lib.hid hb1
        have hfH := Lib.hid hf
        have hdegH := hdeg
        clear hSt hb0 hb1 hf hdeg
        go_region_held3 (fun w' => w'.cell? ⟨b0, 0, none⟩ = some (.int .i64 u.1.1) ∧ w'.cell? ⟨b0, 1, none⟩ = some (.int .i64 u.1.2) ∧ w'.cell? ⟨b0, 2, none⟩ = some (.int .i64 u.2.1) ∧ w'.cell? ⟨b0, 3, none⟩ = some (.int .i64 u.2.2)) (first | exact hS0 | (refine hStH.out _ ?_; repeat (first | exact Fr.refl _ _ | refine Fr.drew ?_ | refine Fr.alloc ?_ _ | refine Fr.setCell ?_ (fun _ => by simp) _))) (fail)
        · refine then_n ?_
          exact reg9_end hb0H.out hb1H.out hfH.out ⟨rfl, AllAt.mem ⟨rfl, rfl, rfl, rfl, rfl, trivial⟩, rfl⟩
        · refine then_n ?_
          exact reg9_end' hb0H.out hb1H.out hfH.out ⟨rfl, AllAt.mem ⟨rfl, rfl, rfl, rfl, rfl, trivial⟩, rfl⟩
      · rintro a w1 ⟨b2, b3, E, hb0, hb1, hb2, hb3, n_b2_b3, ⟨n_b0_b2, n_b0_b3, n_b1_b2, n_b1_b3⟩, ⟨l_b2, l_b3⟩, hf⟩
        refine wp_seq_cut (fun a' w' => ∃ lo : Pt, Env 63 [(6, .pointer (some ⟨b3, 0, none⟩)), (5, .pointer (some ⟨b2, 0, none⟩)), (3, .pointer (some ⟨b1, 0, none⟩)), (2, .pointer (some ⟨b0, 0, none⟩)), (4, .int .i64 0)] a' ∧ sgB w' b0 u ∧ sgB w' b1 v ∧ ptB w' b2 lo ∧ ptB w' b3 u.2 ∧ Fr (fun _ => False) w w' ∧ Hid (low u v = lo)) ?_ ?_
        · refine wp_seq ?_
          refine wp_region_lit ?_
          refine env_put (d := 42) (v := .pointer (some ⟨b1, 0, none⟩)) E rfl (by decide) rfl (wanted_none rfl _) (fa34_0 rfl (E.get 2 rfl)) fun a E => ?_
          refine env_put (d := 43) (v := .agg (ptC (v.1))) E rfl (by decide) rfl (wanted_none rfl _) (ld_sg1 rfl (E.get 0 rfl) hb1) fun a E => ?_
          refine env_put (d := 44) (v := .agg (ptC ((u.1)))) E rfl (by decide) rfl (wanted_none rfl _) (ld_pt rfl (E.get 3 rfl) hb2) fun a E => ?_
          refine env_call (d := 45) (v := .int .i64 (cmpP (v.1) ((u.1)))) E rfl (by decide) rfl (wanted_none rfl _) (run_call2 (enters_of Try.func41 (by kernel_rfl) rfl) rfl rfl (E.get 1 rfl) (E.get 0 rfl)) (compareP_calls (v.1) ((u.1)) _) fun a w1 f1 E => ?_
          have hb0 := hb0.fr f1 (fun h => h)
          have hb1 := hb1.fr f1 (fun h => h)
          have hb2 := hb2.fr f1 (fun h => h)
          have hb3 := hb3.fr f1 (fun h => h)
          have hf := hf.trans f1
          clear f1
          refine env_put (d := 46) (v := .bool (decide (0 < (cmpP (v.1) ((u.1)))))) E rfl (by decide) rfl (wanted_none rfl _) (run_igtr (E.get 0 rfl) rfl Try.underlying3 rfl) fun a E => ?_
          refine wpList_nil ?_
          refine then_n ?_
          cases hq3 : (decide (0 < (cmpP (v.1) ((u.1))))) with
          | false =>
            rw [hq3] at E
            refine wp_cond_false (E.get 0 rfl) ?_
            refine wp_skip ?_
            refine then_n ?_
            exact ⟨(u.1), E.of ⟨E.get 5 rfl, E.get 6 rfl, E.get 7 rfl, E.get 8 rfl, E.get 9 rfl, trivial⟩, hb0, hb1, hb2, hb3, hf, (by unfold low; simp only [decide_eq_true_eq, decide_eq_false_iff_not] at hq3; simp only [Hid, hq3, if_true, if_false])⟩
          | true =>
            rw [hq3] at E
            refine wp_cond_true (E.get 0 rfl) ?_
            refine wp_region_lit ?_
            refine env_put (d := 47) (v := .pointer (some ⟨b1, 0, none⟩)) E rfl (by decide) rfl (wanted_none rfl _) (fa34_0 rfl (E.get 7 rfl)) fun a E => ?_
            refine env_put (d := 48) (v := .agg (ptC (v.1))) E rfl (by decide) rfl (wanted_none rfl _) (ld_sg1 rfl (E.get 0 rfl) hb1) fun a E => ?_
            refine env_st32 E rfl (wanted_none rfl _) rfl (E.get 8 rfl) (E.get 0 rfl) hb2 fun w1 hb2 f1 E => ?_
            have hb0 := hb0.fr f1 n_b0_b2
            have hb1 := hb1.fr f1 n_b1_b2
            have hb3 := hb3.fr f1 n_b2_b3.symm
            have hf := hf.trans' f1 fun r hr e => by have : r = b2 := e; omega
            clear f1
            refine wpList_nil ?_
            refine then_n ?_
            exact ⟨(v.1), E.of ⟨E.get 7 rfl, E.get 8 rfl, E.get 9 rfl, E.get 10 rfl, E.get 11 rfl, trivial⟩, hb0, hb1, hb2, hb3, hf, (by unfold low; simp only [decide_eq_true_eq, decide_eq_false_iff_not] at hq3; simp only [Hid, hq3, if_true, if_false])⟩
        · rintro a w1 ⟨lo, E, hb0, hb1, hb2, hb3, hf, hlo⟩
          refine wp_seq_cut (fun a' w' => ∃ hi : Pt, Env 63 [(6, .pointer (some ⟨b3, 0, none⟩)), (5, .pointer (some ⟨b2, 0, none⟩)), (4, .int .i64 0)] a' ∧ ptB w' b2 lo ∧ ptB w' b3 hi ∧ Fr (fun _ => False) w w' ∧ Hid (high u v = hi)) ?_ ?_
          · refine wp_seq ?_
            refine wp_region_lit ?_
            refine env_put (d := 49) (v := .pointer (some ⟨b1, 2, none⟩)) E rfl (by decide) rfl (wanted_none rfl _) (fa34_1 rfl (E.get 2 rfl)) fun a E => ?_
            refine env_put (d := 50) (v := .agg (ptC (v.2))) E rfl (by decide) rfl (wanted_none rfl _) (ld_sg2 rfl (E.get 0 rfl) hb1) fun a E => ?_
            refine env_put (d := 51) (v := .agg (ptC ((u.2)))) E rfl (by decide) rfl (wanted_none rfl _) (ld_pt rfl (E.get 2 rfl) hb3) fun a E => ?_
            refine env_call (d := 52) (v := .int .i64 (cmpP (v.2) ((u.2)))) E rfl (by decide) rfl (wanted_none rfl _) (run_call2 (enters_of Try.func41 (by kernel_rfl) rfl) rfl rfl (E.get 1 rfl) (E.get 0 rfl)) (compareP_calls (v.2) ((u.2)) _) fun a w1 f1 E => ?_
            have hb0 := hb0.fr f1 (fun h => h)
            have hb1 := hb1.fr f1 (fun h => h)
            have hb2 := hb2.fr f1 (fun h => h)
            have hb3 := hb3.fr f1 (fun h => h)
            have hf := hf.trans f1
            clear f1
            refine env_put (d := 53) (v := .bool (decide ((cmpP (v.2) ((u.2))) < 0))) E rfl (by decide) rfl (wanted_none rfl _) (run_ilss (E.get 0 rfl) rfl Try.underlying3 rfl) fun a E => ?_
            refine wpList_nil ?_
            refine then_n ?_
            cases hq4 : (decide ((cmpP (v.2) ((u.2))) < 0)) with
            | false =>
              rw [hq4] at E
              refine wp_cond_false (E.get 0 rfl) ?_
              refine wp_skip ?_
              refine then_n ?_
              exact ⟨(u.2), E.of ⟨E.get 5 rfl, E.get 6 rfl, E.get 9 rfl, trivial⟩, hb2, hb3, hf, (by unfold high; simp only [decide_eq_true_eq, decide_eq_false_iff_not] at hq4; simp only [Hid, hq4, if_true, if_false])⟩
            | true =>
              rw [hq4] at E
              refine wp_cond_true (E.get 0 rfl) ?_
              refine wp_region_lit ?_
              refine env_put (d := 54) (v := .pointer (some ⟨b1, 2, none⟩)) E rfl (by decide) rfl (wanted_none rfl _) (fa34_1 rfl (E.get 7 rfl)) fun a E => ?_
              refine env_put (d := 55) (v := .agg (ptC (v.2))) E rfl (by decide) rfl (wanted_none rfl _) (ld_sg2 rfl (E.get 0 rfl) hb1) fun a E => ?_
              refine env_st32 E rfl (wanted_none rfl _) rfl (E.get 7 rfl) (E.get 0 rfl) hb3 fun w1 hb3 f1 E => ?_
              have hb0 := hb0.fr f1 n_b0_b3
              have hb1 := hb1.fr f1 n_b1_b3
              have hb2 := hb2.fr f1 n_b2_b3
              have hf := hf.trans' f1 fun r hr e => by have : r = b3 := e; omega
              clear f1
              refine wpList_nil ?_
              refine then_n ?_
              exact ⟨(v.2), E.of ⟨E.get 7 rfl, E.get 8 rfl, E.get 11 rfl, trivial⟩, hb2, hb3, hf, (by unfold high; simp only [decide_eq_true_eq, decide_eq_false_iff_not] at hq4; simp only [Hid, hq4, if_true, if_false])⟩
          · rintro a w1 ⟨hi, E, hb2, hb3, hf, hhi⟩
            have hO : Hid (online s t = lohi lo hi) := by rw [Hid, hO.out, hdeg.out, hlo.out, hhi.out]
            refine wp_seq ?_
            refine wp_seq ?_
            refine wp_region_lit ?_
            refine env_put (d := 56) (v := .agg (ptC lo)) E rfl (by decide) rfl (wanted_none rfl _) (ld_pt rfl (E.get 1 rfl) hb2) fun a E => ?_
            refine env_put (d := 57) (v := .agg (ptC hi)) E rfl (by decide) rfl (wanted_none rfl _) (ld_pt rfl (E.get 1 rfl) hb3) fun a E => ?_
            refine env_call (d := 58) (v := .int .i64 (cmpP lo hi)) E rfl (by decide) rfl (wanted_none rfl _) (run_call2 (enters_of Try.func41 (by kernel_rfl) rfl) rfl rfl (E.get 1 rfl) (E.get 0 rfl)) (compareP_calls lo hi _) fun a w1 f1 E => ?_
            have hb2 := hb2.fr f1 (fun h => h)
            have hb3 := hb3.fr f1 (fun h => h)
            have hf := hf.trans f1
            clear f1
            refine wpList_nil ?_
            refine then_n ?_
            refine wp_block ?_
            refine wp_seq ?_
            refine wp_region_lit ?_
            refine env_put (d := 60) (v := .bool ((cmpP lo hi) == (-1))) E rfl (by decide) rfl (wanted_none rfl _) (run_ieql (E.get 0 rfl) rfl Try.underlying3 rfl) fun a E => ?_
            refine env_put (d := 59) (v := .bool ((cmpP lo hi) == (-1))) E rfl (by decide) rfl (wanted_none rfl _) (run_assign rfl (E.get 0 rfl)) fun a E => ?_
            refine wpList_nil ?_
            refine then_n ?_
            cases hq5 : ((cmpP lo hi) == (-1)) with
            | false =>
              rw [hq5] at E
              refine wp_cond_false (E.get 0 rfl) ?_
              refine wp_seq ?_
              refine wp_region_lit ?_
              refine env_put (d := 62) (v := .bool ((cmpP lo hi) == 0)) E rfl (by decide) rfl (wanted_none rfl _) (run_ieql (E.get 2 rfl) rfl Try.underlying3 rfl) fun a E => ?_
              refine env_put (d := 61) (v := .bool ((cmpP lo hi) == 0)) E rfl (by decide) rfl (wanted_none rfl _) (run_assign rfl (E.get 0 rfl)) fun a E => ?_
              refine wpList_nil ?_
              refine then_n ?_
              cases hq6 : ((cmpP lo hi) == 0) with
              | false =>
                rw [hq6] at E
                refine wp_cond_false (E.get 0 rfl) ?_
                refine wp_skip ?_
                refine blk_n ?_
                refine then_n ?_
                refine wp_seq ?_
                refine wp_region_lit ?_
                refine env_set (d := 4) (v := .int .i64 0) E rfl (by decide) (wanted_none rfl _) (run_assign rfl rfl) fun a E => ?_
                refine wpList_nil ?_
                refine then_n ?_
                refine wp_ret ?_
                refine ret_tmp (t := 4) (v := .int .i64 0) rfl E (E.get 0 rfl) ⟨?_, hf⟩
                simp only [beq_iff_eq, beq_eq_false_iff_ne, ne_eq] at hq5 hq6
                exact ret_int (by rw [hO.out, lohi]; simp [hq5, hq6])
              | true =>
                rw [hq6] at E
                refine wp_cond_true (E.get 0 rfl) ?_
                refine wp_seq ?_
                refine wp_region_lit ?_
                refine env_set (d := 4) (v := .int .i64 1) E rfl (by decide) (wanted_none rfl _) (run_assign rfl rfl) fun a E => ?_
                refine wpList_nil ?_
                refine then_n ?_
                refine wp_ret ?_
                refine blk_r ?_
                refine then_r ?_
                refine ret_tmp (t := 4) (v := .int .i64 1) rfl E (E.get 0 rfl) ⟨?_, hf⟩
                simp only [beq_iff_eq, beq_eq_false_iff_ne, ne_eq] at hq5 hq6
                exact ret_int (by rw [hO.out, lohi]; simp [hq5, hq6])
            | true =>
              rw [hq5] at E
              refine wp_cond_true (E.get 0 rfl) ?_
              refine wp_seq ?_
              refine wp_region_lit ?_
              refine env_set (d := 4) (v := .int .i64 5) E rfl (by decide) (wanted_none rfl _) (run_assign rfl rfl) fun a E => ?_
              refine wpList_nil ?_
              refine then_n ?_
              refine wp_ret ?_
              refine blk_r ?_
              refine then_r ?_
              refine ret_tmp (t := 4) (v := .int .i64 5) rfl E (E.get 0 rfl) ⟨?_, hf⟩
              simp only [beq_iff_eq, beq_eq_false_iff_ne, ne_eq] at hq5
              exact ret_int (by rw [hO.out, lohi]; simp [hq5])
    | true =>
      rw [hq2] at E
      refine wp_cond_true (E.get 0 rfl) ?_
      refine wp_seq ?_
      refine wp_block ?_
      refine wp_seq ?_
      refine wp_region_lit ?_
      refine env_put (d := 20) (v := .agg (sgC v)) E rfl (by decide) rfl (wanted_none rfl _) (ld_sg rfl (E.get 5 rfl) hb1) fun a E => ?_
      refine env_put (d := 21) (v := .pointer (some ⟨b0, 0, none⟩)) E rfl (by decide) rfl (wanted_none rfl _) (fa34_0 rfl (E.get 7 rfl)) fun a E => ?_
      refine env_put (d := 22) (v := .agg (ptC (u.1))) E rfl (by decide) rfl (wanted_none rfl _) (ld_sg1 rfl (E.get 0 rfl) hb0) fun a E => ?_
      refine env_call (d := 23) (v := .bool (onN v (u.1))) E rfl (by decide) rfl (wanted_none rfl _) (run_call2 (enters_of Try.func44 (by kernel_rfl) rfl) rfl rfl (E.get 2 rfl) (E.get 0 rfl)) (on_calls v (u.1) _) fun a w1 f1 E => ?_
      have hb0 := hb0.fr f1 (fun h => h)
      have hb1 := hb1.fr f1 (fun h => h)
      have hf := hf.trans f1
      clear f1
      refine env_put (d := 24) (v := .bool (!(onN v (u.1)))) E rfl (by decide) rfl (wanted_none rfl _) (run_not rfl (E.get 0 rfl)) fun a E => ?_
      refine env_put (d := 19) (v := .bool (!(onN v (u.1)))) E rfl (by decide) rfl (wanted_none rfl _) (run_assign rfl (E.get 0 rfl)) fun a E => ?_
      refine wpList_nil ?_
      refine then_n ?_
      cases hq7 : (onN v (u.1)) with
      | false =>
        rw [hq7] at E
        refine wp_cond_true (E.get 0 rfl) ?_
        refine wp_seq ?_
        refine wp_region_lit ?_
        refine env_set (d := 4) (v := .int .i64 0) E rfl (by decide) (wanted_none rfl _) (run_assign rfl rfl) fun a E => ?_
        refine wpList_nil ?_
        refine then_n ?_
        refine wp_ret ?_
        refine blk_r ?_
        refine then_r ?_
        refine then_r ?_
        refine ret_tmp (t := 4) (v := .int .i64 0) rfl E (E.get 0 rfl) ⟨?_, hf⟩
        simp only [decide_eq_true_eq, decide_eq_false_iff_not] at hq2
        rw [onN_near hv.out hu.out.1] at hq7
        exact ret_int (by rw [hO.out, online1_deg hq2]; simp only [hq7]; simp)
      | true =>
        rw [hq7] at E
        refine wp_cond_false (E.get 0 rfl) ?_
        refine wp_seq ?_
        refine wp_region_lit ?_
        refine env_put (d := 26) (v := .pointer (some ⟨b0, 0, none⟩)) E rfl (by decide) rfl (wanted_none rfl _) (fa34_0 rfl (E.get 12 rfl)) fun a E => ?_
        refine env_put (d := 27) (v := .agg (ptC (u.1))) E rfl (by decide) rfl (wanted_none rfl _) (ld_sg1 rfl (E.get 0 rfl) hb0) fun a E => ?_
        refine env_put (d := 28) (v := .pointer (some ⟨b1, 0, none⟩)) E rfl (by decide) rfl (wanted_none rfl _) (fa34_0 rfl (E.get 13 rfl)) fun a E => ?_
        refine env_put (d := 29) (v := .agg (ptC (v.1))) E rfl (by decide) rfl (wanted_none rfl _) (ld_sg1 rfl (E.get 0 rfl) hb1) fun a E => ?_
        refine env_put (d := 30) (v := .bool (decide ((u.1) = (v.1)))) E rfl (by decide) rfl (wanted_none rfl _) (eql32 rfl (E.get 2 rfl) (E.get 0 rfl)) fun a E => ?_
        refine env_put (d := 31) (v := .bool (decide ((u.1) = (v.1)))) E rfl (by decide) rfl (wanted_none rfl _) (run_move rfl (E.get 0 rfl)) fun a E => ?_
        cases hq8 : (decide ((u.1) = (v.1))) with
        | false =>
          rw [hq8] at E
          refine env_put (d := 32) (v := .pointer (some ⟨b0, 0, none⟩)) E rfl (by decide) rfl (w_yes (g := 5) (s := 31) E rfl rfl (by decide) (E.get 0 rfl)) (fa34_0 rfl (E.get 18 rfl)) fun a E => ?_
          refine env_put (d := 33) (v := .agg (ptC (u.1))) E rfl (by decide) rfl (w_yes (g := 5) (s := 31) E rfl rfl (by decide) (E.get 1 rfl)) (ld_sg1 rfl (E.get 0 rfl) hb0) fun a E => ?_
          refine env_put (d := 34) (v := .pointer (some ⟨b1, 2, none⟩)) E rfl (by decide) rfl (w_yes (g := 5) (s := 31) E rfl rfl (by decide) (E.get 2 rfl)) (fa34_1 rfl (E.get 19 rfl)) fun a E => ?_
          refine env_put (d := 35) (v := .agg (ptC (v.2))) E rfl (by decide) rfl (w_yes (g := 5) (s := 31) E rfl rfl (by decide) (E.get 3 rfl)) (ld_sg2 rfl (E.get 0 rfl) hb1) fun a E => ?_
          refine env_put (d := 36) (v := .bool (decide ((u.1) = (v.2)))) E rfl (by decide) rfl (w_yes (g := 5) (s := 31) E rfl rfl (by decide) (E.get 4 rfl)) (eql32 rfl (E.get 2 rfl) (E.get 0 rfl)) fun a E => ?_
          refine env_put (d := 37) (v := .bool (decide ((u.1) = (v.2)))) E rfl (by decide) rfl (wanted_none rfl _) (run_pick_f rfl (E.get 5 rfl) (E.get 0 rfl)) fun a E => ?_
          refine env_put (d := 25) (v := .bool (decide ((u.1) = (v.2)))) E rfl (by decide) rfl (wanted_none rfl _) (run_assign rfl (E.get 0 rfl)) fun a E => ?_
          refine wpList_nil ?_
          refine then_n ?_
          cases hq9 : (decide ((u.1) = (v.2))) with
          | false =>
            rw [hq9] at E
            refine wp_cond_false (E.get 0 rfl) ?_
            refine wp_skip ?_
            refine blk_n ?_
            refine then_n ?_
            refine wp_seq ?_
            refine wp_region_lit ?_
            refine env_set (d := 4) (v := .int .i64 2) E rfl (by decide) (wanted_none rfl _) (run_assign rfl rfl) fun a E => ?_
            refine wpList_nil ?_
            refine then_n ?_
            refine wp_ret ?_
            refine then_r ?_
            refine ret_tmp (t := 4) (v := .int .i64 2) rfl E (E.get 0 rfl) ⟨?_, hf⟩
            simp only [decide_eq_true_eq, decide_eq_false_iff_not] at hq2
            rw [onN_near hv.out hu.out.1] at hq7
            simp only [decide_eq_true_eq, decide_eq_false_iff_not] at hq8 hq9
            exact ret_int (by rw [hO.out, online1_deg hq2]; simp only [hq7]; simp [hq8, hq9])
          | true =>
            rw [hq9] at E
            refine wp_cond_true (E.get 0 rfl) ?_
            refine wp_seq ?_
            refine wp_region_lit ?_
            refine env_set (d := 4) (v := .int .i64 1) E rfl (by decide) (wanted_none rfl _) (run_assign rfl rfl) fun a E => ?_
            refine wpList_nil ?_
            refine then_n ?_
            refine wp_ret ?_
            refine blk_r ?_
            refine then_r ?_
            refine then_r ?_
            refine ret_tmp (t := 4) (v := .int .i64 1) rfl E (E.get 0 rfl) ⟨?_, hf⟩
            simp only [decide_eq_true_eq, decide_eq_false_iff_not] at hq2
            rw [onN_near hv.out hu.out.1] at hq7
            simp only [decide_eq_true_eq, decide_eq_false_iff_not] at hq8 hq9
            exact ret_int (by rw [hO.out, online1_deg hq2]; simp only [hq7]; simp [hq8, hq9])
        | true =>
          rw [hq8] at E
          refine env_skip (d := 32) (g := 5) (s := 31) E rfl (by decide) rfl rfl rfl (by decide) (E.get 0 rfl) fun a E => ?_
          refine env_skip (d := 33) (g := 5) (s := 31) E rfl (by decide) rfl rfl rfl (by decide) (E.get 1 rfl) fun a E => ?_
          refine env_skip (d := 34) (g := 5) (s := 31) E rfl (by decide) rfl rfl rfl (by decide) (E.get 2 rfl) fun a E => ?_
          refine env_skip (d := 35) (g := 5) (s := 31) E rfl (by decide) rfl rfl rfl (by decide) (E.get 3 rfl) fun a E => ?_
          refine env_skip (d := 36) (g := 5) (s := 31) E rfl (by decide) rfl rfl rfl (by decide) (E.get 4 rfl) fun a E => ?_
          refine env_put (d := 37) (v := .bool true) E rfl (by decide) rfl (wanted_none rfl _) (run_pick_t rfl (E.get 5 rfl) rfl) fun a E => ?_
          refine env_put (d := 25) (v := .bool true) E rfl (by decide) rfl (wanted_none rfl _) (run_assign rfl (E.get 0 rfl)) fun a E => ?_
          refine wpList_nil ?_
          refine then_n ?_
          refine wp_cond_true (E.get 0 rfl) ?_
          refine wp_seq ?_
          refine wp_region_lit ?_
          refine env_set (d := 4) (v := .int .i64 1) E rfl (by decide) (wanted_none rfl _) (run_assign rfl rfl) fun a E => ?_
          refine wpList_nil ?_
          refine then_n ?_
          refine wp_ret ?_
          refine blk_r ?_
          refine then_r ?_
          refine then_r ?_
          refine ret_tmp (t := 4) (v := .int .i64 1) rfl E (E.get 0 rfl) ⟨?_, hf⟩
          simp only [decide_eq_true_eq, decide_eq_false_iff_not] at hq2
          rw [onN_near hv.out hu.out.1] at hq7
          simp only [decide_eq_true_eq, decide_eq_false_iff_not] at hq8
          exact ret_int (by rw [hO.out, online1_deg hq2]; simp only [hq7]; simp [hq8])
end Go.Proofs.Ytiainjcimmeedaa
