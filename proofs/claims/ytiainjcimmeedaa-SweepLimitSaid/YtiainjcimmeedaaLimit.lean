/- SweepLimit: the walk. -/
import Derived.Test.YtiainjcimmeedaaLy
set_option linter.unusedVariables false
set_option linter.unusedSimpArgs false
namespace Go.Proofs.Ytiainjcimmeedaa
open Go.RowKit Go.Pl Go.Geo

set_option maxRecDepth 100000 in
set_option maxHeartbeats 4000000 in
theorem limit_calls (n0 : Nat) (w : World) (h256 : n0 < 256) : Calls Try.prog 8 #[.int .u8 (n0 : Int)] w fun e w' => e = .returned (.bool true) ∧ Fr (fun _ => False) w w' := by
  refine wp_start1 Try.func8 rfl rfl (n := 71) (by decide) fun a E => ?_
  have hf : Fr (fun _ => False) w w := Fr.refl _ _
  refine wp_seq ?_
  refine wp_region_lit ?_
  refine env_put (d := 2) (v := .bool false) E rfl (by decide) rfl (wanted_none rfl _) (run_assign rfl rfl) fun a E => ?_
  refine wpList_nil ?_
  refine then_n ?_
  refine wp_seq ?_
  refine wp_region_lit ?_
  refine env_call (d := 10) (v := .bool true) E rfl (by decide) rfl (wanted_none rfl _) (run_call0 (enters_of Try.func9 (by kernel_rfl) rfl) rfl rfl) (head_calls _) fun a w1 f1 E => ?_
  have hf := hf.trans f1
  clear f1
  refine env_put (d := 3) (v := .bool true) E rfl (by decide) rfl (wanted_none rfl _) (run_assign rfl (E.get 0 rfl)) fun a E => ?_
  refine wpList_nil ?_
  refine then_n ?_
  refine wp_seq ?_
  refine wp_region_lit ?_
  refine env_put (d := 11) (v := .int .u8 (n0 : Int)) E rfl (by decide) rfl (wanted_none rfl _) (run_move rfl (E.get 3 rfl)) fun a E => ?_
  refine env_put (d := 12) (v := .int .i64 (n0 : Int)) E rfl (by decide) rfl (wanted_none rfl _) (run_conv5 rfl (E.get 0 rfl) h256) fun a E => ?_
  refine env_put (d := 13) (v := .int .i64 ((n0 : Int) % 20)) E rfl (by decide) rfl (wanted_none rfl _) (run_irem (E.get 0 rfl) rfl (by omega) (by omega) (by omega) rfl) fun a E => ?_
  refine env_put (d := 14) (v := .int .i64 (19990 + ((n0 : Int) % 20))) E rfl (by decide) rfl (wanted_none rfl _) (run_iadd rfl (E.get 0 rfl) (by omega) (by omega) rfl) fun a E => ?_
  refine env_put (d := 4) (v := .int .i64 (19990 + ((n0 : Int) % 20))) E rfl (by decide) rfl (wanted_none rfl _) (run_assign rfl (E.get 0 rfl)) fun a E => ?_
  refine wpList_nil ?_
  refine then_n ?_
  refine wp_seq ?_
  obtain ⟨n, hnn, hn1, hn2⟩ : ∃ n : Nat, (19990 + ((n0 : Int) % 20)) = (n : Int) ∧ 19990 ≤ n ∧ n < 20010 := ⟨(19990 + ((n0 : Int) % 20)).toNat, by omega, by omega, by omega⟩
  rw [hnn] at E
  obtain ⟨B, hB⟩ : ∃ B, B = w1.heap.size := ⟨_, rfl⟩
  have hBw : w.heap.size ≤ B := by have := hf.size; omega
  have hBs : B ≤ w1.heap.size := by omega
  have hO : oS w1 B (.slice none 0 0) [] := World.ownsRow_nil _ _ _ _
  refine wp_region_lit ?_
  refine env_put (d := 5) (v := .slice none 0 0) E rfl (by decide) rfl (wanted_none rfl _) (run_assign rfl rfl) fun a E => ?_
  refine wpList_nil ?_
  refine then_n ?_
  refine wp_seq ?_
  refine wp_seq ?_
  refine wp_region_lit ?_
  refine env_put (d := 6) (v := .int .i64 0) E rfl (by decide) rfl (wanted_none rfl _) (run_assign rfl rfl) fun a E => ?_
  refine wpList_nil ?_
  refine then_n ?_
  refine wp_block ?_
  refine wp_loop (fun a w2 => ∃ (i : Nat) (lv : Value), Env 71 [(6, .int .i64 (i : Int)), (5, lv), (4, .int .i64 (n : Int)), (3, .bool true)] a ∧ i ≤ n - 2 ∧ oS w2 B lv ((List.range i).map sgAt) ∧ B ≤ w2.heap.size ∧ Fr (fun _ => False) w w2) (fun a _ => n - 2 - (intOf (a.eval (.tmp 6))).toNat) ?_ ?_
  · exact ⟨0, .slice none 0 0, E.of ⟨E.get 0 rfl, E.get 1 rfl, E.get 2 rfl, E.get 7 rfl, trivial⟩, Nat.zero_le _, hO, hBs, hf⟩
  clear E
  rintro a w2 ⟨i, lv, E, hi, hO, hBs, hf⟩
  have hmu : n - 2 - (intOf (a.eval (.tmp 6))).toNat = n - 2 - i := by rw [E.get 0 rfl]; first | (simp [intOf]; done) | (simp only [intOf]; omega)
  rw [hmu]
  clear hmu
  refine wp_seq ?_
  refine wp_seq ?_
  refine wp_region_lit ?_
  refine env_put (d := 15) (v := .int .i64 (i : Int)) E rfl (by decide) rfl (wanted_none rfl _) (run_move rfl (E.get 0 rfl)) fun a E => ?_
  refine env_put (d := 16) (v := .int .i64 (n : Int)) E rfl (by decide) rfl (wanted_none rfl _) (run_move rfl (E.get 3 rfl)) fun a E => ?_
  refine env_put (d := 17) (v := .int .i64 ((n : Int) - 2)) E rfl (by decide) rfl (wanted_none rfl _) (run_isub (E.get 0 rfl) rfl (by omega) (by omega) rfl) fun a E => ?_
  refine env_put (d := 18) (v := .bool (decide ((i : Int) < ((n : Int) - 2)))) E rfl (by decide) rfl (wanted_none rfl _) (run_ilss (E.get 2 rfl) (E.get 0 rfl) Try.underlying3 rfl) fun a E => ?_
  refine wpList_nil ?_
  refine then_n ?_
  cases hq2 : (decide ((i : Int) < ((n : Int) - 2))) with
  | false =>
    rw [hq2] at E
    obtain rfl : i = n - 2 := by have := of_decide_eq_false hq2; omega
    have hfl : ((List.range (n - 2)).map sgAt).length ≤ 400000000 := by simp; omega
    refine wp_cond_false (E.get 0 rfl) ?_
    refine wp_exit ?_
    refine then_e ?_
    refine then_e ?_
    refine blk_e ?_
    refine then_n ?_
    refine wp_seq ?_
    refine wp_region_lit ?_
    refine env_put (d := 34) (v := lv) E rfl (by decide) rfl (wanted_none rfl _) (run_move rfl (E.get 5 rfl)) fun a E => ?_
    refine env_call (d := 35) (v := .agg (sgC (((-1000000), 0), (1000000, 5)))) E rfl (by decide) rfl (wanted_none rfl _) (run_call4 (enters_of Try.func17 (by kernel_rfl) rfl) rfl rfl rfl rfl rfl rfl) (side_calls _ _ _ _ _) fun a w1 f1 E => ?_
    have hO := own_fr hO f1 (fun _ _ h => h)
    have hBs := Nat.le_trans hBs f1.size
    have hf := hf.trans f1
    clear f1
    refine env_call (d := 36) (v := .agg (sgC (((-1000000), 5), (1000000, 0)))) E rfl (by decide) rfl (wanted_none rfl _) (run_call4 (enters_of Try.func17 (by kernel_rfl) rfl) rfl rfl rfl rfl rfl rfl) (side_calls _ _ _ _ _) fun a w1 f1 E => ?_
    have hO := own_fr hO f1 (fun _ _ h => h)
    have hBs := Nat.le_trans hBs f1.size
    have hf := hf.trans f1
    clear f1
    refine env_two34 (d := 37) (s := sgA) (t := sgZ) E rfl (by decide) rfl (wanted_none rfl _) rfl (E.get 1 rfl) (E.get 0 rfl) fun a w1 b2 _ hb2 f1 E => ?_
    have hO := own_fr hO f1 (fun _ _ h => h)
    have hBs := Nat.le_trans hBs f1.size
    have hf := hf.trans f1
    clear f1
    refine env_app34t (d := 38) E rfl (by decide) rfl rfl rfl (E.get 3 rfl) hO (E.get 0 rfl) hb2 hfl (by omega) fun a w1 ov2 hO2 f1 hloc E => ?_
    have hBs := Nat.le_trans hBs f1.size
    have hf := hf.trans' f1 fun r hr h => by have := (own_lt hO h).1; omega
    clear f1
    obtain ⟨pb, cb, hve, hp⟩ := hO2.segAt
    subst hve
    have hlen : (bigL n).length = n := bigL_len (by omega)
    replace hp : SegAt w1 pb (bigL n) := hp
    clear hO hO2 hloc
    refine env_set (d := 5) (v := .slice (pb) (bigL n).length cb) E rfl (by decide) (wanted_none rfl _) (run_assign rfl (E.get 0 rfl)) fun a E => ?_
    refine wpList_nil ?_
    refine then_n ?_
    cases hq3 : (decide (20000 < (n : Int))) with
    | false =>
      have hn3 : n ≤ 20000 := by have := of_decide_eq_false hq3; omega
      refine wp_seq ?_
      refine wp_region_lit ?_
      refine env_put (d := 40) (v := .slice (pb) (bigL n).length cb) E rfl (by decide) rfl (wanted_none rfl _) (run_move rfl (E.get 0 rfl)) fun a E => ?_
      refine env_all (d := 41) (l := (bigL n)) E rfl (by decide) rfl (wanted_none rfl _) rfl (E.get 0 rfl) (by rw [hlen]; omega) hp fun a w1 r1 hr1 f1 E => ?_
      replace hr1 := hr1.mtR
      obtain ⟨p1, c1, hve⟩ := hr1.1
      subst hve
      have hp := hp.fr f1
      have hf := hf.trans f1
      clear f1
      refine env_put (d := 39) (v := .tuple #[.slice (p1) (outL (bigL n)).length c1, .int .i64 0]) E rfl (by decide) rfl (wanted_none rfl _) (run_move rfl (E.get 0 rfl)) fun a E => ?_
      refine env_put (d := 42) (v := .slice (p1) (outL (bigL n)).length c1) E rfl (by decide) rfl (wanted_none rfl _) (run_ext0 rfl (E.get 0 rfl)) fun a E => ?_
      refine env_put (d := 43) (v := .int .i64 0) E rfl (by decide) rfl (wanted_none rfl _) (run_ext1 rfl (E.get 1 rfl)) fun a E => ?_
      refine env_put (d := 8) (v := .slice (p1) (outL (bigL n)).length c1) E rfl (by decide) rfl (wanted_none rfl _) (run_assign rfl (E.get 1 rfl)) fun a E => ?_
      refine env_put (d := 9) (v := .int .i64 0) E rfl (by decide) rfl (wanted_none rfl _) (run_assign rfl (E.get 1 rfl)) fun a E => ?_
      refine wpList_nil ?_
      refine then_n ?_
      refine wp_seq ?_
      refine wp_seq ?_
      refine wp_region_lit ?_
      refine env_put (d := 44) (v := .int .i64 (n : Int)) E rfl (by decide) rfl (wanted_none rfl _) (run_move rfl (E.get 18 rfl)) fun a E => ?_
      refine env_put (d := 45) (v := .bool false) E rfl (by decide) rfl (wanted_none rfl _) ((run_igtr (E.get 0 rfl) rfl Try.underlying3 rfl).trans (by rw [hq3] <;> rfl)) fun a E => ?_
      refine wpList_nil ?_
      refine then_n ?_
      refine wp_cond_false (E.get 0 rfl) ?_
      refine wp_skip ?_
      refine then_n ?_
      refine wp_seq ?_
      refine wp_region_lit ?_
      refine env_put (d := 56) (v := .bool true) E rfl (by decide) rfl (wanted_none rfl _) (run_move rfl (E.get 21 rfl)) fun a E => ?_
      refine env_put (d := 57) (v := .bool true) E rfl (by decide) rfl (wanted_none rfl _) (run_move rfl (E.get 0 rfl)) fun a E => ?_
      refine env_put (d := 58) (v := .int .i64 0) E rfl (by decide) rfl (w_yes (g := 1) (s := 57) E rfl rfl (by decide) (E.get 0 rfl)) (run_move rfl (E.get 4 rfl)) fun a E => ?_
      refine env_put (d := 59) (v := .bool true) E rfl (by decide) rfl (w_yes (g := 1) (s := 57) E rfl rfl (by decide) (E.get 1 rfl)) (run_ieql (m := 0) (n := 0) (E.get 0 rfl) rfl Try.underlying25 rfl) fun a E => ?_
      refine env_put (d := 60) (v := .bool true) E rfl (by decide) rfl (wanted_none rfl _) (run_pick_t rfl (E.get 2 rfl) (E.get 0 rfl)) fun a E => ?_
      refine env_put (d := 61) (v := .bool true) E rfl (by decide) rfl (wanted_none rfl _) (run_move rfl (E.get 0 rfl)) fun a E => ?_
      refine env_put (d := 62) (v := .slice (p1) (outL (bigL n)).length c1) E rfl (by decide) rfl (w_yes (g := 5) (s := 61) E rfl rfl (by decide) (E.get 0 rfl)) (run_move rfl (E.get 9 rfl)) fun a E => ?_
      refine env_put (d := 63) (v := .int .i64 (n : Int)) E rfl (by decide) rfl (w_yes (g := 5) (s := 61) E rfl rfl (by decide) (E.get 1 rfl)) (run_move rfl (E.get 27 rfl)) fun a E => ?_
      refine env_put (d := 64) (v := .int .i64 ((n : Int) - 2)) E rfl (by decide) rfl (w_yes (g := 5) (s := 61) E rfl rfl (by decide) (E.get 2 rfl)) (run_isub (E.get 0 rfl) rfl (by omega) (by omega) rfl) fun a E => ?_
      refine env_put (d := 65) (v := .int .i64 (n : Int)) E rfl (by decide) rfl (w_yes (g := 5) (s := 61) E rfl rfl (by decide) (E.get 3 rfl)) (run_move rfl (E.get 29 rfl)) fun a E => ?_
      refine env_put (d := 66) (v := .int .i64 ((n : Int) - 1)) E rfl (by decide) rfl (w_yes (g := 5) (s := 61) E rfl rfl (by decide) (E.get 4 rfl)) (run_isub (E.get 0 rfl) rfl (by omega) (by omega) rfl) fun a E => ?_
      obtain ⟨m, hm⟩ : ∃ m, m = mkM (n - 2) (n - 1) 3 := ⟨_, rfl⟩
      have hma : (m.a.val : Int) = ((n : Int) - 2) := by rw [hm, mkM_a (by omega)]; omega
      have hmb : (m.b.val : Int) = ((n : Int) - 1) := by rw [hm, mkM_b (by omega)]; omega
      have hmk : m.k = 3 := by rw [hm]; rfl
      refine env_put (d := 67) (v := .agg (mtC m).toArray) E rfl (by decide) rfl (w_yes (g := 5) (s := 61) E rfl rfl (by decide) (E.get 5 rfl)) (run_of36 (a := m) rfl ((E.get 2 rfl).trans (by rw [hma])) ((E.get 0 rfl).trans (by rw [hmb])) (by rw [hmk]; rfl)) fun a E => ?_
      refine env_one36 (d := 68) E rfl (by decide) rfl (w_yes (g := 5) (s := 61) E rfl rfl (by decide) (E.get 6 rfl)) rfl (E.get 0 rfl) fun a w1 b4 _ hb4 f1 E => ?_
      have hp := hp.fr f1
      have hr1 := hr1.fr f1
      have hf := hf.trans f1
      clear f1
      refine env_call (d := 69) (v := .bool true) E rfl (by decide) rfl (w_yes (g := 5) (s := 61) E rfl rfl (by decide) (E.get 7 rfl)) (run_call2 (enters_of Try.func12 (by kernel_rfl) rfl) rfl rfl (E.get 6 rfl) (E.get 0 rfl)) (by have h := same_calls _ (.slice (some ⟨b4, 0, none⟩) 1 1) (outL (bigL n)) [m] _ hr1 (mtR_blk (cap := 1) (L := [m]) hb4) (by rw [big_out (by omega) hn3]; simp); rw [decide_eq_true (by rw [big_out (by omega) hn3, hm])] at h; exact h) fun a w1 f1 E => ?_
      have hp := hp.fr f1
      have hr1 := hr1.fr f1
      have hf := hf.trans f1
      clear f1
      refine env_put (d := 70) (v := .bool true) E rfl (by decide) rfl (wanted_none rfl _) (run_pick_t rfl (E.get 8 rfl) (E.get 0 rfl)) fun a E => ?_
      refine env_put (d := 2) (v := .bool true) E rfl (by decide) rfl (wanted_none rfl _) (run_assign rfl (E.get 0 rfl)) fun a E => ?_
      refine wpList_nil ?_
      refine then_n ?_
      refine wp_ret ?_
      exact ret_tmp (t := 2) rfl E (E.get 0 rfl) ⟨rfl, hf⟩
    | true =>
      have hn3 : 20000 < n := by have := of_decide_eq_true hq3; omega
      refine wp_seq ?_
      refine wp_region_lit ?_
      refine env_put (d := 40) (v := .slice (pb) (bigL n).length cb) E rfl (by decide) rfl (wanted_none rfl _) (run_move rfl (E.get 0 rfl)) fun a E => ?_
      refine env_call (d := 41) (v := .tuple #[.slice none 0 0, .int .i64 2]) E rfl (by decide) rfl (wanted_none rfl _) (run_call1 (enters_of Try.func10 (by kernel_rfl) rfl) rfl rfl (E.get 0 rfl)) ((all_big _ _ _ _ (by rw [hlen]; exact hn3)).mono fun e w2 h => ⟨h.1, (show Fr (fun _ => False) w1 w2 from h.2 ▸ Fr.refl _ _)⟩) fun a w1 f1 E => ?_
      have hp := hp.fr f1
      have hf := hf.trans f1
      clear f1
      refine env_put (d := 39) (v := .tuple #[.slice none 0 0, .int .i64 2]) E rfl (by decide) rfl (wanted_none rfl _) (run_move rfl (E.get 0 rfl)) fun a E => ?_
      refine env_put (d := 42) (v := .slice none 0 0) E rfl (by decide) rfl (wanted_none rfl _) (run_ext0 rfl (E.get 0 rfl)) fun a E => ?_
      refine env_put (d := 43) (v := .int .i64 2) E rfl (by decide) rfl (wanted_none rfl _) (run_ext1 rfl (E.get 1 rfl)) fun a E => ?_
      refine env_put (d := 8) (v := .slice none 0 0) E rfl (by decide) rfl (wanted_none rfl _) (run_assign rfl (E.get 1 rfl)) fun a E => ?_
      refine env_put (d := 9) (v := .int .i64 2) E rfl (by decide) rfl (wanted_none rfl _) (run_assign rfl (E.get 1 rfl)) fun a E => ?_
      refine wpList_nil ?_
      refine then_n ?_
      refine wp_seq ?_
      refine wp_seq ?_
      refine wp_region_lit ?_
      refine env_put (d := 44) (v := .int .i64 (n : Int)) E rfl (by decide) rfl (wanted_none rfl _) (run_move rfl (E.get 18 rfl)) fun a E => ?_
      refine env_put (d := 45) (v := .bool true) E rfl (by decide) rfl (wanted_none rfl _) ((run_igtr (E.get 0 rfl) rfl Try.underlying3 rfl).trans (by rw [hq3] <;> rfl)) fun a E => ?_
      refine wpList_nil ?_
      refine then_n ?_
      refine wp_cond_true (E.get 0 rfl) ?_
      refine wp_seq ?_
      refine wp_region_lit ?_
      refine env_put (d := 46) (v := .bool true) E rfl (by decide) rfl (wanted_none rfl _) (run_move rfl (E.get 21 rfl)) fun a E => ?_
      refine env_put (d := 47) (v := .bool true) E rfl (by decide) rfl (wanted_none rfl _) (run_move rfl (E.get 0 rfl)) fun a E => ?_
      refine env_put (d := 48) (v := .int .i64 2) E rfl (by decide) rfl (w_yes (g := 1) (s := 47) E rfl rfl (by decide) (E.get 0 rfl)) (run_move rfl (E.get 4 rfl)) fun a E => ?_
      refine env_put (d := 49) (v := .bool true) E rfl (by decide) rfl (w_yes (g := 1) (s := 47) E rfl rfl (by decide) (E.get 1 rfl)) (run_ieql (m := 2) (n := 2) (E.get 0 rfl) rfl Try.underlying25 rfl) fun a E => ?_
      refine env_put (d := 50) (v := .bool true) E rfl (by decide) rfl (wanted_none rfl _) (run_pick_t rfl (E.get 2 rfl) (E.get 0 rfl)) fun a E => ?_
      refine env_put (d := 51) (v := .bool true) E rfl (by decide) rfl (wanted_none rfl _) (run_move rfl (E.get 0 rfl)) fun a E => ?_
      refine env_put (d := 52) (v := .slice none 0 0) E rfl (by decide) rfl (w_yes (g := 5) (s := 51) E rfl rfl (by decide) (E.get 0 rfl)) (run_move rfl (E.get 9 rfl)) fun a E => ?_
      refine env_put (d := 53) (v := .int .i64 0) E rfl (by decide) rfl (w_yes (g := 5) (s := 51) E rfl rfl (by decide) (E.get 1 rfl)) (run_len24 rfl (E.get 0 rfl)) fun a E => ?_
      refine env_put (d := 54) (v := .bool true) E rfl (by decide) rfl (w_yes (g := 5) (s := 51) E rfl rfl (by decide) (E.get 2 rfl)) (run_ieql (m := 0) (n := 0) (E.get 0 rfl) rfl Try.underlying3 rfl) fun a E => ?_
      refine env_put (d := 55) (v := .bool true) E rfl (by decide) rfl (wanted_none rfl _) (run_pick_t rfl (E.get 3 rfl) (E.get 0 rfl)) fun a E => ?_
      refine env_put (d := 2) (v := .bool true) E rfl (by decide) rfl (wanted_none rfl _) (run_assign rfl (E.get 0 rfl)) fun a E => ?_
      refine wpList_nil ?_
      refine then_n ?_
      refine wp_ret ?_
      refine then_r ?_
      exact ret_tmp (t := 2) rfl E (E.get 0 rfl) ⟨rfl, hf⟩
  | true =>
    rw [hq2] at E
    have hlt : i < n - 2 := by have := of_decide_eq_true hq2; omega
    have hfl : ((List.range i).map sgAt).length ≤ 400000000 := by simp; omega
    refine wp_cond_true (E.get 0 rfl) ?_
    refine wp_skip ?_
    refine then_n ?_
    refine wp_seq ?_
    refine wp_block ?_
    refine wp_seq ?_
    refine wp_region_lit ?_
    refine env_put (d := 21) (v := .int .i64 (i : Int)) E rfl (by decide) rfl (wanted_none rfl _) (run_move rfl (E.get 4 rfl)) fun a E => ?_
    refine env_put (d := 22) (v := .int .i64 (100 * (i : Int))) E rfl (by decide) rfl (wanted_none rfl _) (run_imul rfl (E.get 0 rfl) (by omega) (by omega) rfl) fun a E => ?_
    refine env_put (d := 23) (v := .int .i64 ((100 * (i : Int)) - 1000000)) E rfl (by decide) rfl (wanted_none rfl _) (run_isub (E.get 0 rfl) rfl (by omega) (by omega) rfl) fun a E => ?_
    refine env_put (d := 7) (v := .int .i64 ((100 * (i : Int)) - 1000000)) E rfl (by decide) rfl (wanted_none rfl _) (run_assign rfl (E.get 0 rfl)) fun a E => ?_
    refine wpList_nil ?_
    refine then_n ?_
    refine wp_region_lit ?_
    refine env_put (d := 24) (v := lv) E rfl (by decide) rfl (wanted_none rfl _) (run_move rfl (E.get 9 rfl)) fun a E => ?_
    refine env_put (d := 25) (v := .int .i64 ((100 * (i : Int)) - 1000000)) E rfl (by decide) rfl (wanted_none rfl _) (run_move rfl (E.get 1 rfl)) fun a E => ?_
    refine env_put (d := 26) (v := .int .i64 ((100 * (i : Int)) - 1000000)) E rfl (by decide) rfl (wanted_none rfl _) (run_move rfl (E.get 2 rfl)) fun a E => ?_
    refine env_put (d := 27) (v := .int .i64 (((100 * (i : Int)) - 1000000) + 50)) E rfl (by decide) rfl (wanted_none rfl _) (run_iadd (E.get 0 rfl) rfl (by omega) (by omega) rfl) fun a E => ?_
    refine env_put (d := 28) (v := .int .i64 (i : Int)) E rfl (by decide) rfl (wanted_none rfl _) (run_move rfl (E.get 12 rfl)) fun a E => ?_
    refine env_put (d := 29) (v := .int .i64 ((i : Int) % 7)) E rfl (by decide) rfl (wanted_none rfl _) (run_irem (E.get 0 rfl) rfl (by omega) (by omega) (by omega) rfl) fun a E => ?_
    refine env_put (d := 30) (v := .int .i64 (20 + ((i : Int) % 7))) E rfl (by decide) rfl (wanted_none rfl _) (run_iadd rfl (E.get 0 rfl) (by omega) (by omega) rfl) fun a E => ?_
    refine env_call (d := 31) (v := .agg (sgC ((((100 * (i : Int)) - 1000000), 10), ((((100 * (i : Int)) - 1000000) + 50), (20 + ((i : Int) % 7)))))) E rfl (by decide) rfl (wanted_none rfl _) (run_call4 (enters_of Try.func17 (by kernel_rfl) rfl) rfl rfl (E.get 5 rfl) rfl (E.get 3 rfl) (E.get 0 rfl)) (side_calls _ _ _ _ _) fun a w1 f1 E => ?_
    have hO := own_fr hO f1 (fun _ _ h => h)
    have hBs := Nat.le_trans hBs f1.size
    have hf := hf.trans f1
    clear f1
    refine env_one34 (d := 32) E rfl (by decide) rfl (wanted_none rfl _) rfl (E.get 0 rfl) fun a w1 b5 _ hb5 f1 E => ?_
    have hO := own_fr hO f1 (fun _ _ h => h)
    have hBs := Nat.le_trans hBs f1.size
    have hf := hf.trans f1
    clear f1
    refine env_app34 (d := 33) E rfl (by decide) rfl rfl rfl (E.get 8 rfl) hO (E.get 0 rfl) hb5 hfl (by omega) fun a w1 ov6 hO2 f1 hloc E => ?_
    have hBs := Nat.le_trans hBs f1.size
    have hf := hf.trans' f1 fun r hr h => by have := (own_lt hO h).1; omega
    clear f1
    replace hO := hO2
    clear hloc
    refine env_set (d := 5) (v := ov6) E rfl (by decide) (wanted_none rfl _) (run_assign rfl (E.get 0 rfl)) fun a E => ?_
    refine wpList_nil ?_
    refine blk_n ?_
    refine then_n ?_
    refine wp_region_lit ?_
    refine env_put (d := 19) (v := .int .i64 (i : Int)) E rfl (by decide) rfl (wanted_none rfl _) (run_move rfl (E.get 19 rfl)) fun a E => ?_
    refine env_put (d := 20) (v := .int .i64 ((i : Int) + 1)) E rfl (by decide) rfl (wanted_none rfl _) (run_iadd (E.get 0 rfl) rfl (by omega) (by omega) rfl) fun a E => ?_
    refine env_set (d := 6) (v := .int .i64 ((i : Int) + 1)) E rfl (by decide) (wanted_none rfl _) (run_assign rfl (E.get 0 rfl)) fun a E => ?_
    refine wpList_nil ?_
    refine then_n ?_
    refine ⟨⟨i + 1, ov6, E.of ⟨E.get 0 rfl, E.get 3 rfl, E.get 22 rfl, E.get 23 rfl, trivial⟩, by omega, ?_, hBs, hf⟩, ?_⟩
    · rw [List.range_succ, List.map_append]; exact hO
    · rw [E.get 0 rfl]; simp only [intOf]; omega
end Go.Proofs.Ytiainjcimmeedaa
