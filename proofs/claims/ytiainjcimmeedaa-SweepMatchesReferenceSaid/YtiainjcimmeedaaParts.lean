/- SweepParts: the walk. -/
import Derived.Test.YtiainjcimmeedaaLx
set_option linter.unusedVariables false
set_option linter.unusedSimpArgs false
namespace Go.Proofs.Ytiainjcimmeedaa
open Go.RowKit Go.Pl Go.Geo

theorem World.rangeAt_fr {w w' : World} {g off : Nat} {cs : List Value} (h : w.rangeAt g off cs) {F : Nat → Prop} (hf : Fr F w w') (hg : ¬ F g) : w'.rangeAt g off cs := fun j u hu => hf.cell (h j u hu) hg
theorem out_len40 {l : List Sg} (h : l.length ≤ 40) : (outL l).length ≤ 2000 := by
  unfold outL
  rw [List.length_map, Swp.spec_pre]
  have h1 := Swp.pre_len_le (K := kAt l) l.length 0
  have h2 : l.length * l.length ≤ 40 * 40 := Nat.mul_le_mul h h
  omega
set_option maxRecDepth 100000 in
set_option maxHeartbeats 4000000 in
theorem parts_calls (l : List Sg) (p : Option Addr) (cap n0 : Nat) (w : World) (hp : SegAt w p l) (hcap : l.length ≤ cap) (h256 : n0 < 256) : Calls Try.prog 6 #[.slice p l.length cap, .int .u8 (n0 : Int)] w fun e w' => e = .returned (.bool true) ∧ Fr (fun _ => False) w w' := by
  refine wp_start2 Try.func6 rfl rfl (n := 70) (by decide) fun a E => ?_
  have hf : Fr (fun _ => False) w w := Fr.refl _ _
  refine wp_seq ?_
  refine wp_region_lit ?_
  refine env_put (d := 4) (v := .bool false) E rfl (by decide) rfl (wanted_none rfl _) (run_assign rfl rfl) fun a E => ?_
  refine wpList_nil ?_
  refine then_n ?_
  refine wp_seq ?_
  refine wp_region_lit ?_
  refine env_call (d := 13) (v := .bool true) E rfl (by decide) rfl (wanted_none rfl _) (run_call0 (enters_of Try.func9 (by kernel_rfl) rfl) rfl rfl) (head_calls _) fun a w1 f1 E => ?_
  have hp := hp.fr f1
  have hf := hf.trans f1
  clear f1
  refine env_put (d := 5) (v := .bool true) E rfl (by decide) rfl (wanted_none rfl _) (run_assign rfl (E.get 0 rfl)) fun a E => ?_
  refine wpList_nil ?_
  refine then_n ?_
  refine wp_seq ?_
  refine wp_seq ?_
  refine wp_region_lit ?_
  refine env_put (d := 14) (v := .slice (p) l.length cap) E rfl (by decide) rfl (wanted_none rfl _) (run_move rfl (E.get 3 rfl)) fun a E => ?_
  refine env_put (d := 15) (v := .int .i64 (l.length : Int)) E rfl (by decide) rfl (wanted_none rfl _) (run_len22 rfl (E.get 0 rfl)) fun a E => ?_
  refine env_put (d := 16) (v := .bool (decide (40 < (l.length : Int)))) E rfl (by decide) rfl (wanted_none rfl _) (run_igtr (E.get 0 rfl) rfl Try.underlying3 rfl) fun a E => ?_
  refine wpList_nil ?_
  refine then_n ?_
  cases hq1 : (decide (40 < (l.length : Int))) with
  | false =>
    rw [hq1] at E
    have hn40 : l.length ≤ 40 := by have := of_decide_eq_false hq1; omega
    have hn : l.length ≤ 20000 := by omega
    refine wp_cond_false (E.get 0 rfl) ?_
    refine wp_skip ?_
    refine then_n ?_
    refine wp_seq ?_
    refine wp_region_lit ?_
    refine env_put (d := 18) (v := .int .u8 (n0 : Int)) E rfl (by decide) rfl (wanted_none rfl _) (run_move rfl (E.get 7 rfl)) fun a E => ?_
    refine env_put (d := 19) (v := .int .i64 (n0 : Int)) E rfl (by decide) rfl (wanted_none rfl _) (run_conv5 rfl (E.get 0 rfl) h256) fun a E => ?_
    refine env_put (d := 20) (v := .slice (p) l.length cap) E rfl (by decide) rfl (wanted_none rfl _) (run_move rfl (E.get 8 rfl)) fun a E => ?_
    refine env_put (d := 21) (v := .int .i64 (l.length : Int)) E rfl (by decide) rfl (wanted_none rfl _) (run_len22 rfl (E.get 0 rfl)) fun a E => ?_
    refine env_put (d := 22) (v := .int .i64 ((l.length : Int) + 1)) E rfl (by decide) rfl (wanted_none rfl _) (run_iadd (E.get 0 rfl) rfl (by omega) (by omega) rfl) fun a E => ?_
    refine env_put (d := 23) (v := .int .i64 ((n0 : Int) % ((l.length : Int) + 1))) E rfl (by decide) rfl (wanted_none rfl _) (run_irem (E.get 3 rfl) (E.get 0 rfl) (by omega) (by omega) (by omega) rfl) fun a E => ?_
    refine env_put (d := 6) (v := .int .i64 ((n0 : Int) % ((l.length : Int) + 1))) E rfl (by decide) rfl (wanted_none rfl _) (run_assign rfl (E.get 0 rfl)) fun a E => ?_
    refine wpList_nil ?_
    refine then_n ?_
    refine wp_seq ?_
    obtain ⟨n, hnn⟩ : ∃ n : Nat, ((n0 : Int) % ((l.length : Int) + 1)) = (n : Int) ∧ n ≤ l.length := by
      have h1 := Int.emod_nonneg (n0 : Int) (show ((l.length : Int) + 1) ≠ 0 by omega)
      have h2 := Int.emod_lt_of_pos (n0 : Int) (show (0 : Int) < ((l.length : Int) + 1) by omega)
      exact ⟨((n0 : Int) % ((l.length : Int) + 1)).toNat, by omega, by omega⟩
    obtain ⟨hnn, hnl⟩ := hnn
    rw [hnn] at E
    have htl : (l.take n).length = n := by rw [List.length_take]; omega
    have hp2 := hp.take n
    refine wp_region_lit ?_
    refine env_put (d := 25) (v := .slice (p) l.length cap) E rfl (by decide) rfl (wanted_none rfl _) (run_move rfl (E.get 13 rfl)) fun a E => ?_
    refine env_all (d := 26) (l := l) E rfl (by decide) rfl (wanted_none rfl _) rfl (E.get 0 rfl) hn hp fun a w1 r1 hr1 f1 E => ?_
    replace hr1 := hr1.mtR
    obtain ⟨p1, c1, hve⟩ := hr1.1
    subst hve
    have hp := hp.fr f1
    have hp2 := hp2.fr f1
    have hf := hf.trans f1
    clear f1
    refine env_put (d := 24) (v := .tuple #[.slice (p1) (outL l).length c1, .int .i64 0]) E rfl (by decide) rfl (wanted_none rfl _) (run_move rfl (E.get 0 rfl)) fun a E => ?_
    refine env_put (d := 27) (v := .slice (p1) (outL l).length c1) E rfl (by decide) rfl (wanted_none rfl _) (run_ext0 rfl (E.get 0 rfl)) fun a E => ?_
    refine env_put (d := 28) (v := .int .i64 0) E rfl (by decide) rfl (wanted_none rfl _) (run_ext1 rfl (E.get 1 rfl)) fun a E => ?_
    refine env_put (d := 7) (v := .slice (p1) (outL l).length c1) E rfl (by decide) rfl (wanted_none rfl _) (run_assign rfl (E.get 1 rfl)) fun a E => ?_
    refine env_put (d := 8) (v := .int .i64 0) E rfl (by decide) rfl (wanted_none rfl _) (run_assign rfl (E.get 1 rfl)) fun a E => ?_
    refine wpList_nil ?_
    refine then_n ?_
    refine wp_seq ?_
    refine wp_region_lit ?_
    refine env_put (d := 30) (v := .slice (p) l.length cap) E rfl (by decide) rfl (wanted_none rfl _) (run_move rfl (E.get 20 rfl)) fun a E => ?_
    refine env_put (d := 31) (v := .int .i64 (n : Int)) E rfl (by decide) rfl (wanted_none rfl _) (run_move rfl (E.get 8 rfl)) fun a E => ?_
    refine env_put (d := 32) (v := .slice (p ) (l.take n).length cap) E rfl (by decide) rfl (wanted_none rfl _) ((run_sl22 rfl (E.get 1 rfl) (E.get 0 rfl) (by omega)).trans (by rw [htl])) fun a E => ?_
    refine env_all (d := 33) (l := (l.take n)) E rfl (by decide) rfl (wanted_none rfl _) rfl (E.get 0 rfl) (by omega) hp2 fun a w1 r2 hr2 f1 E => ?_
    replace hr2 := hr2.mtR
    obtain ⟨p2, c2, hve⟩ := hr2.1
    subst hve
    have hp := hp.fr f1
    have hp2 := hp2.fr f1
    have hr1 := hr1.fr f1
    have hf := hf.trans f1
    clear f1
    refine env_put (d := 29) (v := .tuple #[.slice (p2) (outL (l.take n)).length c2, .int .i64 0]) E rfl (by decide) rfl (wanted_none rfl _) (run_move rfl (E.get 0 rfl)) fun a E => ?_
    refine env_put (d := 34) (v := .slice (p2) (outL (l.take n)).length c2) E rfl (by decide) rfl (wanted_none rfl _) (run_ext0 rfl (E.get 0 rfl)) fun a E => ?_
    refine env_put (d := 35) (v := .int .i64 0) E rfl (by decide) rfl (wanted_none rfl _) (run_ext1 rfl (E.get 1 rfl)) fun a E => ?_
    refine env_put (d := 9) (v := .slice (p2) (outL (l.take n)).length c2) E rfl (by decide) rfl (wanted_none rfl _) (run_assign rfl (E.get 1 rfl)) fun a E => ?_
    refine env_put (d := 10) (v := .int .i64 0) E rfl (by decide) rfl (wanted_none rfl _) (run_assign rfl (E.get 1 rfl)) fun a E => ?_
    refine wpList_nil ?_
    refine then_n ?_
    refine wp_seq ?_
    obtain ⟨B, hB⟩ : ∃ B, B = w1.heap.size := ⟨_, rfl⟩
    have hBw : w.heap.size ≤ B := by have := hf.size; omega
    replace hr1 := hr1.to2
    replace hr2 := hr2.to2
    rw [← hB] at hr1 hr2
    have hBs : B ≤ w1.heap.size := by omega
    have hO : oM w1 B (.slice none 0 0) [] := World.ownsRow_nil _ _ _ _
    clear hp hp2
    refine wp_region_lit ?_
    refine env_put (d := 11) (v := .slice none 0 0) E rfl (by decide) rfl (wanted_none rfl _) (run_assign rfl rfl) fun a E => ?_
    refine wpList_nil ?_
    refine then_n ?_
    refine wp_seq ?_
    refine wp_seq ?_
    refine wp_region_lit ?_
    refine env_put (d := 12) (v := .int .i64 0) E rfl (by decide) rfl (wanted_none rfl _) (run_assign rfl rfl) fun a E => ?_
    refine wpList_nil ?_
    refine then_n ?_
    refine wp_block ?_
    refine wp_loop (fun a w2 => ∃ (i : Nat) (wv : Value), Env 70 [(12, .int .i64 (i : Int)), (11, wv), (10, .int .i64 0), (9, .slice (p2) (outL (l.take n)).length c2), (8, .int .i64 0), (7, .slice (p1) (outL l).length c1), (6, .int .i64 (n : Int)), (5, .bool true)] a ∧ i ≤ (outL l).length ∧ oM w2 B wv (((outL l).take i).filter (fun m => decide ((m.b.val : Int) < n))) ∧ mtR2 w2 B (.slice p1 (outL l).length c1) (outL l) ∧ mtR2 w2 B (.slice p2 (outL (l.take n)).length c2) (outL (l.take n)) ∧ B ≤ w2.heap.size ∧ Fr (fun _ => False) w w2) (fun a _ => (outL l).length - (intOf (a.eval (.tmp 12))).toNat) ?_ ?_
    · exact ⟨0, .slice none 0 0, E.of ⟨E.get 0 rfl, E.get 1 rfl, E.get 2 rfl, E.get 3 rfl, E.get 11 rfl, E.get 12 rfl, E.get 18 rfl, E.get 28 rfl, trivial⟩, Nat.zero_le _, hO, hr1, hr2, hBs, hf⟩
    clear E
    rintro a w2 ⟨i, wv, E, hi, hO, hr1, hr2, hBs, hf⟩
    have hmu : (outL l).length - (intOf (a.eval (.tmp 12))).toNat = (outL l).length - i := by rw [E.get 0 rfl]; simp [intOf]
    rw [hmu]
    clear hmu
    refine wp_seq ?_
    refine wp_seq ?_
    refine wp_region_lit ?_
    refine env_put (d := 36) (v := .int .i64 (i : Int)) E rfl (by decide) rfl (wanted_none rfl _) (run_move rfl (E.get 0 rfl)) fun a E => ?_
    refine env_put (d := 37) (v := .slice (p1) (outL l).length c1) E rfl (by decide) rfl (wanted_none rfl _) (run_move rfl (E.get 6 rfl)) fun a E => ?_
    refine env_put (d := 38) (v := .int .i64 ((outL l).length : Int)) E rfl (by decide) rfl (wanted_none rfl _) (run_len24 rfl (E.get 0 rfl)) fun a E => ?_
    refine env_put (d := 39) (v := .bool (decide ((i : Int) < ((outL l).length : Int)))) E rfl (by decide) rfl (wanted_none rfl _) (run_ilss (E.get 2 rfl) (E.get 0 rfl) Try.underlying3 rfl) fun a E => ?_
    refine wpList_nil ?_
    refine then_n ?_
    cases hq3 : (decide ((i : Int) < ((outL l).length : Int))) with
    | false =>
      rw [hq3] at E
      have hi2 : i = (outL l).length := by have := of_decide_eq_false hq3; omega
      rw [hi2, List.take_length, outL_take l hn] at hO
      replace hr2 := hr2.mtR hBs
      replace hO := hO.mtR
      refine wp_cond_false (E.get 0 rfl) ?_
      refine wp_exit ?_
      refine then_e ?_
      refine then_e ?_
      refine blk_e ?_
      refine then_n ?_
      refine wp_seq ?_
      refine wp_region_lit ?_
      refine env_put (d := 56) (v := .bool true) E rfl (by decide) rfl (wanted_none rfl _) (run_move rfl (E.get 11 rfl)) fun a E => ?_
      refine env_put (d := 57) (v := .bool true) E rfl (by decide) rfl (wanted_none rfl _) (run_move rfl (E.get 0 rfl)) fun a E => ?_
      refine env_put (d := 58) (v := .int .i64 0) E rfl (by decide) rfl (w_yes (g := 1) (s := 57) E rfl rfl (by decide) (E.get 0 rfl)) (run_move rfl (E.get 10 rfl)) fun a E => ?_
      refine env_put (d := 59) (v := .bool true) E rfl (by decide) rfl (w_yes (g := 1) (s := 57) E rfl rfl (by decide) (E.get 1 rfl)) (run_ieql (m := 0) (n := 0) (E.get 0 rfl) rfl Try.underlying25 rfl) fun a E => ?_
      refine env_put (d := 60) (v := .bool true) E rfl (by decide) rfl (wanted_none rfl _) (run_pick_t rfl (E.get 2 rfl) (E.get 0 rfl)) fun a E => ?_
      refine env_put (d := 61) (v := .bool true) E rfl (by decide) rfl (wanted_none rfl _) (run_move rfl (E.get 0 rfl)) fun a E => ?_
      refine env_put (d := 62) (v := .int .i64 0) E rfl (by decide) rfl (w_yes (g := 5) (s := 61) E rfl rfl (by decide) (E.get 0 rfl)) (run_move rfl (E.get 12 rfl)) fun a E => ?_
      refine env_put (d := 63) (v := .bool true) E rfl (by decide) rfl (w_yes (g := 5) (s := 61) E rfl rfl (by decide) (E.get 1 rfl)) (run_ieql (m := 0) (n := 0) (E.get 0 rfl) rfl Try.underlying25 rfl) fun a E => ?_
      refine env_put (d := 64) (v := .bool true) E rfl (by decide) rfl (wanted_none rfl _) (run_pick_t rfl (E.get 2 rfl) (E.get 0 rfl)) fun a E => ?_
      refine env_put (d := 65) (v := .bool true) E rfl (by decide) rfl (wanted_none rfl _) (run_move rfl (E.get 0 rfl)) fun a E => ?_
      refine env_put (d := 66) (v := .slice (p2) (outL (l.take n)).length c2) E rfl (by decide) rfl (w_yes (g := 9) (s := 65) E rfl rfl (by decide) (E.get 0 rfl)) (run_move rfl (E.get 17 rfl)) fun a E => ?_
      refine env_put (d := 67) (v := wv) E rfl (by decide) rfl (w_yes (g := 9) (s := 65) E rfl rfl (by decide) (E.get 1 rfl)) (run_move rfl (E.get 16 rfl)) fun a E => ?_
      refine env_call (d := 68) (v := .bool true) E rfl (by decide) rfl (w_yes (g := 9) (s := 65) E rfl rfl (by decide) (E.get 2 rfl)) (run_call2 (enters_of Try.func12 (by kernel_rfl) rfl) rfl rfl (E.get 1 rfl) (E.get 0 rfl)) (by have h := same_calls _ wv (outL (l.take n)) (outL (l.take n)) _ hr2 hO (by have := out_len40 (l := l.take n) (by omega); omega); rw [decide_eq_true rfl] at h; exact h) fun a w1 f1 E => ?_
      have hf := hf.trans f1
      clear f1
      refine env_put (d := 69) (v := .bool true) E rfl (by decide) rfl (wanted_none rfl _) (run_pick_t rfl (E.get 3 rfl) (E.get 0 rfl)) fun a E => ?_
      refine env_put (d := 4) (v := .bool true) E rfl (by decide) rfl (wanted_none rfl _) (run_assign rfl (E.get 0 rfl)) fun a E => ?_
      refine wpList_nil ?_
      refine then_n ?_
      refine wp_ret ?_
      exact ret_tmp (t := 4) rfl E (E.get 0 rfl) ⟨rfl, hf⟩
    | true =>
      rw [hq3] at E
      have hlt : i < (outL l).length := by have := of_decide_eq_true hq3; omega
      obtain ⟨m, hm⟩ : ∃ m, (outL l)[i]? = some m := ⟨_, List.getElem?_eq_getElem hlt⟩
      obtain ⟨g3, c3, hpe3, hgl3, hrow⟩ := hr1.2.resolve_left (fun e => by rw [e] at hlt; exact absurd hlt (Nat.not_lt_zero _))
      replace hrow := hrow i m hm
      have hfl : (((outL l).take i).filter (fun m => decide ((m.b.val : Int) < n))).length ≤ 400000000 := by
        have h1 := List.length_filter_le (fun m : Mt => decide ((m.b.val : Int) < n)) ((outL l).take i)
        have h2 := out_len40 hn40
        simp only [List.length_take] at h1; omega
      have hil : (outL l).length ≤ 2000 := out_len40 hn40
      refine wp_cond_true (E.get 0 rfl) ?_
      refine wp_skip ?_
      refine then_n ?_
      refine wp_seq ?_
      refine wp_block ?_
      refine wp_seq ?_
      refine wp_region_lit ?_
      refine env_put (d := 42) (v := .slice (p1) (outL l).length c1) E rfl (by decide) rfl (wanted_none rfl _) (run_move rfl (E.get 9 rfl)) fun a E => ?_
      refine env_put (d := 43) (v := .int .i64 (i : Int)) E rfl (by decide) rfl (wanted_none rfl _) (run_move rfl (E.get 5 rfl)) fun a E => ?_
      refine env_put (d := 44) (v := .pointer (some ⟨g3, (i * 3), none⟩)) E rfl (by decide) rfl (wanted_none rfl _) (run_index24 rfl ((E.get 1 rfl).trans (by rw [hpe3])) (E.get 0 rfl) hlt) fun a E => ?_
      refine env_put (d := 45) (v := .pointer (some ⟨g3, ((i * 3) + 1), none⟩)) E rfl (by decide) rfl (wanted_none rfl _) (fa36_at (by decide) rfl (E.get 0 rfl)) fun a E => ?_
      refine env_put (d := 46) (v := .int .i64 (m.b.val : Int)) E rfl (by decide) rfl (wanted_none rfl _) (ld3_at rfl (E.get 0 rfl) hrow rfl) fun a E => ?_
      refine env_put (d := 47) (v := .int .i64 (n : Int)) E rfl (by decide) rfl (wanted_none rfl _) (run_move rfl (E.get 15 rfl)) fun a E => ?_
      refine env_put (d := 48) (v := .bool (decide ((m.b.val : Int) < (n : Int)))) E rfl (by decide) rfl (wanted_none rfl _) (run_ilss (E.get 1 rfl) (E.get 0 rfl) Try.underlying3 rfl) fun a E => ?_
      refine wpList_nil ?_
      refine then_n ?_
      cases hq4 : (decide ((m.b.val : Int) < (n : Int))) with
      | false =>
        rw [hq4] at E
        refine wp_cond_false (E.get 0 rfl) ?_
        refine wp_skip ?_
        refine blk_n ?_
        refine then_n ?_
        refine wp_region_lit ?_
        refine env_put (d := 40) (v := .int .i64 (i : Int)) E rfl (by decide) rfl (wanted_none rfl _) (run_move rfl (E.get 11 rfl)) fun a E => ?_
        refine env_put (d := 41) (v := .int .i64 ((i : Int) + 1)) E rfl (by decide) rfl (wanted_none rfl _) (run_iadd (E.get 0 rfl) rfl (by omega) (by omega) rfl) fun a E => ?_
        refine env_set (d := 12) (v := .int .i64 ((i : Int) + 1)) E rfl (by decide) (wanted_none rfl _) (run_assign rfl (E.get 0 rfl)) fun a E => ?_
        refine wpList_nil ?_
        refine then_n ?_
        refine ⟨⟨i + 1, wv, E.of ⟨E.get 0 rfl, E.get 14 rfl, E.get 15 rfl, E.get 16 rfl, E.get 17 rfl, E.get 18 rfl, E.get 19 rfl, E.get 20 rfl, trivial⟩, hlt, ?_, hr1, hr2, hBs, hf⟩, ?_⟩
        · rw [List.take_add_one, hm, List.filter_append]
          simp only [Option.toList_some, List.filter_cons, hq4, Bool.false_eq_true, if_false, List.filter_nil, List.append_nil]
          exact hO
        · rw [E.get 0 rfl]; simp only [intOf]; omega
      | true =>
        rw [hq4] at E
        refine wp_cond_true (E.get 0 rfl) ?_
        refine wp_region_lit ?_
        refine env_put (d := 49) (v := wv) E rfl (by decide) rfl (wanted_none rfl _) (run_move rfl (E.get 12 rfl)) fun a E => ?_
        refine env_put (d := 50) (v := .slice (p1) (outL l).length c1) E rfl (by decide) rfl (wanted_none rfl _) (run_move rfl (E.get 17 rfl)) fun a E => ?_
        refine env_put (d := 51) (v := .int .i64 (i : Int)) E rfl (by decide) rfl (wanted_none rfl _) (run_move rfl (E.get 13 rfl)) fun a E => ?_
        refine env_put (d := 52) (v := .pointer (some ⟨g3, (i * 3), none⟩)) E rfl (by decide) rfl (wanted_none rfl _) (run_index24 rfl ((E.get 1 rfl).trans (by rw [hpe3])) (E.get 0 rfl) hlt) fun a E => ?_
        refine env_put (d := 53) (v := .agg (mtC m).toArray) E rfl (by decide) rfl (wanted_none rfl _) (run_ld36 rfl (E.get 0 rfl) hrow) fun a E => ?_
        refine env_one36 (d := 54) E rfl (by decide) rfl (wanted_none rfl _) rfl (E.get 0 rfl) fun a w1 b5 _ hb5 f1 E => ?_
        have hr1 := hr1.fr f1 (fun _ _ h => h)
        have hr2 := hr2.fr f1 (fun _ _ h => h)
        have hO := own_fr hO f1 (fun _ _ h => h)
        have hBs := Nat.le_trans hBs f1.size
        have hrow := World.rangeAt_fr hrow f1 id
        have hf := hf.trans f1
        clear f1
        refine env_app36 (d := 55) E rfl (by decide) rfl rfl rfl (E.get 5 rfl) hO (E.get 0 rfl) hb5 hfl (by omega) fun a w1 ov6 hO2 f1 hloc E => ?_
        have hr1 := hr1.fr f1 (fun r hr h => by have := (own_lt hO h).1; omega)
        have hr2 := hr2.fr f1 (fun r hr h => by have := (own_lt hO h).1; omega)
        have hBs := Nat.le_trans hBs f1.size
        have hf := hf.trans' f1 fun r hr h => by have := (own_lt hO h).1; omega
        clear f1
        replace hO := hO2
        clear hloc
        refine env_set (d := 11) (v := ov6) E rfl (by decide) (wanted_none rfl _) (run_assign rfl (E.get 0 rfl)) fun a E => ?_
        refine wpList_nil ?_
        refine blk_n ?_
        refine then_n ?_
        refine wp_region_lit ?_
        refine env_put (d := 40) (v := .int .i64 (i : Int)) E rfl (by decide) rfl (wanted_none rfl _) (run_move rfl (E.get 19 rfl)) fun a E => ?_
        refine env_put (d := 41) (v := .int .i64 ((i : Int) + 1)) E rfl (by decide) rfl (wanted_none rfl _) (run_iadd (E.get 0 rfl) rfl (by omega) (by omega) rfl) fun a E => ?_
        refine env_set (d := 12) (v := .int .i64 ((i : Int) + 1)) E rfl (by decide) (wanted_none rfl _) (run_assign rfl (E.get 0 rfl)) fun a E => ?_
        refine wpList_nil ?_
        refine then_n ?_
        refine ⟨⟨i + 1, ov6, E.of ⟨E.get 0 rfl, E.get 3 rfl, E.get 22 rfl, E.get 23 rfl, E.get 24 rfl, E.get 25 rfl, E.get 26 rfl, E.get 27 rfl, trivial⟩, hlt, ?_, hr1, hr2, hBs, hf⟩, ?_⟩
        · rw [List.take_add_one, hm, List.filter_append]
          simp only [Option.toList_some, List.filter_cons, hq4, if_true, List.filter_nil]
          exact hO
        · rw [E.get 0 rfl]; simp only [intOf]; omega
  | true =>
    rw [hq1] at E
    refine wp_cond_true (E.get 0 rfl) ?_
    refine wp_seq ?_
    refine wp_region_lit ?_
    refine env_put (d := 17) (v := .bool true) E rfl (by decide) rfl (wanted_none rfl _) (run_move rfl (E.get 3 rfl)) fun a E => ?_
    refine env_set (d := 4) (v := .bool true) E rfl (by decide) (wanted_none rfl _) (run_assign rfl (E.get 0 rfl)) fun a E => ?_
    refine wpList_nil ?_
    refine then_n ?_
    refine wp_ret ?_
    refine then_r ?_
    exact ret_tmp (t := 4) rfl E (E.get 0 rfl) ⟨rfl, hf⟩
end Go.Proofs.Ytiainjcimmeedaa
