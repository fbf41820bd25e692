/- HoursNext. -/
import Derived.Test.YtjaffpnegdcjnaaGreatDoorRF2
set_option linter.unusedVariables false
set_option linter.unusedSimpArgs false
namespace Go.Proofs.YtjaffpnegdcjnaaGreatDoor
open Go.RowKit Go.Pl
theorem find_vl {r : Int} : ∀ {l : List Sp} {lo : Int}, vl lo l = true → match l.find? (fun s => decide (r < s.2)) with | some s => s ∈ l ∧ r < s.2 ∧ (∀ y, r ≤ y → y < s.1 → ¬ mn l y) | none => ∀ y, r ≤ y → ¬ mn l y := by
 intro l
 induction l with
 | nil => intro lo _ y _ h; exact mn_nil y h
 | cons t l ih =>
  intro lo h
  obtain ⟨h1, h2, h3, h4⟩ := vl_cons.1 h
  by_cases hr : r < t.2
  ·rw [List.find?_cons_of_pos (by simpa using hr)]
   refine ⟨by simp, hr, fun y hy1 hy2 hm => ?_⟩
   rcases mn_cons.1 hm with h5 | h5
   ·omega
   ·have := vl_lo h4 h5; omega
  ·rw [List.find?_cons_of_neg (by simpa using hr)]
   have := ih h4
   split at this
   ·rename_i s he
    obtain ⟨h5, h6, h7⟩ := this
    refine ⟨by simp [h5], h6, fun y hy1 hy2 hm => ?_⟩
    rcases mn_cons.1 hm with h8 | h8
    ·omega
    ·exact h7 y hy1 hy2 h8
   ·intro y hy1 hm
    rcases mn_cons.1 hm with h8 | h8
    ·omega
    ·exact this y hy1 h8
theorem next_all {l : List Sp} {m : Int} (hv : vl (-1) l = true) (h0 : 0 ≤ m) (hne : l ≠ []) : m ≤ nextA l m ∧ nextA l m < m + 10080 ∧ mn l (nextA l m % 10080) ∧ ∀ x, m ≤ x → x < nextA l m → ¬ mn l (x % 10080) := by
 have hf := find_vl (r := m % 10080) hv
 have hw := vl_wk (Int.le_refl _) hv
 unfold nextA
 split
 ·rename_i s he
  rw [he] at hf
  obtain ⟨h1, h2, h3⟩ := hf
  obtain ⟨w1, w2, w3⟩ := hw s h1
  refine ⟨by omega, by omega, ⟨s, h1, by omega, by omega⟩, fun x hx1 hx2 => ?_⟩
  have := h3 (x % 10080) (by omega) (by omega)
  exact this
 ·rename_i he
  rw [he] at hf
  obtain ⟨s, l', rfl⟩ := List.exists_cons_of_ne_nil hne
  obtain ⟨w1, w2, w3⟩ := hw s (by simp)
  have hs : (s :: l').headD (0, 0) = s := rfl
  rw [hs]
  have hlt : s.1 < m % 10080 := by
   rcases Int.lt_or_le s.1 (m % 10080) with h | h
   ·exact h
   ·exact absurd ⟨s, by simp, Int.le_refl _, w2⟩ (hf s.1 h)
  refine ⟨by omega, by omega, ⟨s, by simp, by omega, by omega⟩, fun x hx1 hx2 hm => ?_⟩
  rcases Int.lt_or_le x (m - m % 10080 + 10080) with h | h
  ·exact hf _ (by omega) hm
  ·obtain ⟨g1, g2, g3, g4⟩ := vl_cons.1 hv
   rcases mn_cons.1 hm with h5 | h5
   ·omega
   ·have := vl_lo g4 h5; omega
theorem next_per (l : List Sp) (m : Int) : nextA l (m + 10080) = nextA l m + 10080 := by
 have e : (m + 10080) % 10080 = m % 10080 := by omega
 unfold nextA
 rw [e]
 split <;> omega
theorem open_next {l : List Sp} {m : Int} (hv : vl (-1) l = true) (h0 : 0 ≤ m) (hne : l ≠ []) (hm : nextA l m ≤ 1000000000) : openB l (nextA l m) = true := by
 obtain ⟨h1, _, h3, _⟩ := next_all hv h0 hne
 exact (open_mn hv (by unfold minuteB; simp only [Bool.and_eq_true, decide_eq_true_eq]; omega)).2 h3
theorem open_before {l : List Sp} {m x : Int} (hv : vl (-1) l = true) (h0 : 0 ≤ m) (hne : l ≠ []) (h1 : m ≤ x) (h2 : x < nextA l m) : openB l x = false := by
 obtain ⟨_, _, _, h4⟩ := next_all hv h0 hne
 cases h : openB l x with
 | false => rfl
 | true =>
  have hm : minuteB x = true := by
   unfold openB at h
   simp only [Bool.and_eq_true] at h
   exact h.1.2
  exact absurd ((open_mn hv hm).1 h) (h4 x h1 h2)
set_option maxRecDepth 100000 in
set_option maxHeartbeats 4000000 in
theorem hnext_calls {w : World} {v0 : Value} {l0 : List Sp} (h0 : SpV w v0 l0) (m q : Int) (hT : Tb w) : Calls Tryz.prog 6 #[v0, .int .i64 m, .int .i64 q] w fun e w' => e = .returned (.bool true) ∧ Fr (fun _ => False) w w' := by
 obtain ⟨p0, c0, hv0, hle0, hcap0, hs0, hz0⟩ := h0
 subst hv0
 have h0 : SpV w (.slice p0 l0.length c0) l0 := ⟨p0, c0, rfl, hle0, hcap0, hs0, hz0⟩
 refine wp_start3 Tryz.func6 rfl rfl (n := 119) (by decide) fun a E => ?_
 have hf : Fr (fun _ => False) w w := Fr.refl _ _
 refine wp_seq ?_
 refine wp_region_lit ?_
 refine ep (v := .bool false) E (run_assign rfl rfl) fun a E => ?_
 refine wpList_nil ?_
 refine then_n ?_
 refine wp_seq ?_
 refine wp_region_lit ?_
 refine env_call (d := 13) (v := .bool true) E rfl (by decide) rfl (wanted_none rfl _) (run_call0 (enters_of Tryz.func11 (by kernel_rfl) rfl) rfl rfl) (head_calls hT) fun a w1 f1 E => ?_
 have hT := Tb.fr hT f1 (fun r hr => id)
 have h0 := Src.fr h0 f1
 have hf := hf.trans' f1 (fun _ _ h => h.elim)
 clear f1
 refine ep (v := .bool true) E (run_assign rfl (E.get 0 rfl)) fun a E => ?_
 refine wpList_nil ?_
 refine then_n ?_
 refine wp_seq ?_
 refine wp_seq ?_
 refine wp_region_lit ?_
 refine ep (v := .slice (p0) l0.length c0) E (run_move rfl (E.get 3 rfl)) fun a E => ?_
 refine env_sl1 (d := 15) E rfl (by decide) rfl (wanted_none rfl _) rfl (E.get 0 rfl) fun a w1 u1 hu1 f1 E => ?_
 have hT := Tb.fr hT f1 (fun r hr => id)
 have h0 := Src.fr h0 f1
 have hf := hf.trans' f1 (fun _ _ h => h.elim)
 clear f1
 refine env_call (d := 16) (v := .bool (fewB [(p0, l0.length, c0)])) E rfl (by decide) rfl (wanted_none rfl _) (run_call1 (enters_of Tryz.func12 (by kernel_rfl) rfl) rfl rfl (E.get 0 rfl)) (few_calls hu1) fun a w1 f1 E => ?_
 have hT := Tb.fr hT f1 (fun r hr => id)
 have h0 := Src.fr h0 f1
 have hu1 := Src.fr hu1 f1
 have hf := hf.trans' f1 (fun _ _ h => h.elim)
 clear f1
 refine ep (v := .bool (!(fewB [(p0, l0.length, c0)]))) E (run_not rfl (E.get 0 rfl)) fun a E => ?_
 refine wpList_nil ?_
 refine then_n ?_
 cases hq146 : (fewB [(p0, l0.length, c0)]) with
 | false =>
  rw [hq146] at E
  refine wp_cond_true (E.get 0 rfl) ?_
  refine wp_seq ?_
  refine wp_region_lit ?_
  refine ep (v := .bool true) E (run_move rfl (E.get 4 rfl)) fun a E => ?_
  refine env_set (d := 6) (v := .bool true) E rfl (by decide) (wanted_none rfl _) (run_assign rfl (E.get 0 rfl)) fun a E => ?_
  refine wpList_nil ?_
  refine then_n ?_
  refine wp_ret ?_
  refine then_r ?_
  exact ret_tmp (t := 6) rfl E (E.get 0 rfl) ⟨rfl, hf⟩
 | true =>
  rw [hq146] at E
  have hfew := few1 hq146
  have hn0 : l0.length ≤ 150 := hfew
  refine wp_cond_false (E.get 0 rfl) ?_
  refine wp_skip ?_
  refine then_n ?_
  refine wp_seq ?_
  cases hq147 : (vl (-1) l0) with
  | false =>
   have hP0 := nextP_no1 (m := m) hq147
   refine wp_region_lit ?_
   refine ep (v := .slice (p0) l0.length c0) E (run_move rfl (E.get 7 rfl)) fun a E => ?_
   refine ep (v := .int .i64 m) E (run_move rfl (E.get 9 rfl)) fun a E => ?_
   refine env_call (d := 22) (v := .tuple #[.int .i64 0, .bool false]) E rfl (by decide) rfl (wanted_none rfl _) (run_call2 (enters_of Tryz.func21 (by kernel_rfl) rfl) rfl rfl (E.get 1 rfl) (E.get 0 rfl)) (by have h := next_calls h0 (by omega) m; rw [hP0] at h; exact h) fun a w1 f1 E => ?_
   have hT := Tb.fr hT f1 (fun r hr => id)
   have h0 := Src.fr h0 f1
   have hu1 := Src.fr hu1 f1
   have hf := hf.trans' f1 (fun _ _ h => h.elim)
   clear f1
   refine ep (v := .tuple #[.int .i64 0, .bool false]) E (run_move rfl (E.get 0 rfl)) fun a E => ?_
   refine ep (v := .int .i64 0) E (run_ext0 rfl (E.get 0 rfl)) fun a E => ?_
   refine ep (v := .bool false) E (run_ext1 rfl (E.get 1 rfl)) fun a E => ?_
   refine ep (v := .int .i64 0) E (run_assign rfl (E.get 1 rfl)) fun a E => ?_
   refine ep (v := .bool false) E (run_assign rfl (E.get 1 rfl)) fun a E => ?_
   refine wpList_nil ?_
   refine then_n ?_
   refine wp_seq ?_
   refine wp_region_lit ?_
   refine ep (v := .int .i64 m) E (run_move rfl (E.get 16 rfl)) fun a E => ?_
   refine ep (v := .bool (decide (0 ≤ m))) E (run_igeq (E.get 0 rfl) rfl Tryz.underlying3 rfl) fun a E => ?_
   refine ep (v := .bool (decide (0 ≤ m))) E (run_move rfl (E.get 0 rfl)) fun a E => ?_
   cases hq148 : (decide (0 ≤ m)) with
   | false =>
    rw [hq148] at E
    have hP0 : nextP l0 m = (0, false) := nextP_no2 (by unfold minuteB; rw [hq148]; rfl)
    refine env_skip (d := 28) (g := 2) (s := 27) E rfl (by decide) rfl rfl rfl (by decide) (E.get 0 rfl) fun a E => ?_
    refine env_skip (d := 29) (g := 2) (s := 27) E rfl (by decide) rfl rfl rfl (by decide) (E.get 1 rfl) fun a E => ?_
    refine ep (v := .bool false) E (run_pick_f rfl (E.get 2 rfl) rfl) fun a E => ?_
    refine ep (v := .bool false) E (run_assign rfl (E.get 0 rfl)) fun a E => ?_
    refine wpList_nil ?_
    refine then_n ?_
    refine wp_seq ?_
    refine wp_seq ?_
    refine wp_region_lit ?_
    refine ep (v := .bool false) E (run_move rfl (E.get 7 rfl)) fun a E => ?_
    refine ep (v := .bool true) E (run_not rfl (E.get 0 rfl)) fun a E => ?_
    refine wpList_nil ?_
    refine then_n ?_
    refine wp_cond_true (E.get 0 rfl) ?_
    refine wp_seq ?_
    refine wp_region_lit ?_
    refine ep (v := .bool true) E (run_move rfl (E.get 21 rfl)) fun a E => ?_
    refine ep (v := .bool true) E (run_move rfl (E.get 0 rfl)) fun a E => ?_
    refine eg (v := .int .i64 0) E (w_yes (g := 1) (s := 34) E rfl rfl (by decide) (E.get 0 rfl)) (run_move rfl (E.get 12 rfl)) fun a E => ?_
    refine eg (v := .bool true) E (w_yes (g := 1) (s := 34) E rfl rfl (by decide) (E.get 1 rfl)) (run_ieql (m := 0) (n := 0) (E.get 0 rfl) rfl Tryz.underlying3 rfl) fun a E => ?_
    refine ep (v := .bool true) E (run_pick_t rfl (E.get 2 rfl) (E.get 0 rfl)) fun a E => ?_
    refine ep (v := .bool true) E (run_move rfl (E.get 0 rfl)) fun a E => ?_
    refine eg (v := .bool false) E (w_yes (g := 5) (s := 38) E rfl rfl (by decide) (E.get 0 rfl)) (run_move rfl (E.get 8 rfl)) fun a E => ?_
    refine eg (v := .bool true) E (w_yes (g := 5) (s := 38) E rfl rfl (by decide) (E.get 1 rfl)) (run_not rfl (E.get 0 rfl)) fun a E => ?_
    refine eg (v := .bool true) E (w_yes (g := 5) (s := 38) E rfl rfl (by decide) (E.get 2 rfl)) (run_move rfl (E.get 0 rfl)) fun a E => ?_
    refine env_skip (d := 42) (g := 8) (s := 41) E rfl (by decide) rfl rfl rfl (by decide) (E.get 0 rfl) fun a E => ?_
    refine env_skip (d := 43) (g := 8) (s := 41) E rfl (by decide) rfl rfl rfl (by decide) (E.get 1 rfl) fun a E => ?_
    refine env_skip (d := 44) (g := 8) (s := 41) E rfl (by decide) rfl rfl rfl (by decide) (E.get 2 rfl) fun a E => ?_
    refine eg (v := .bool true) E (w_yes (g := 5) (s := 38) E rfl rfl (by decide) (E.get 6 rfl)) (run_pick_t rfl (E.get 3 rfl) rfl) fun a E => ?_
    refine eg (v := .bool true) E (w_yes (g := 5) (s := 38) E rfl rfl (by decide) (E.get 7 rfl)) (run_move rfl (E.get 0 rfl)) fun a E => ?_
    refine env_skip (d := 47) (g := 13) (s := 46) E rfl (by decide) rfl rfl rfl (by decide) (E.get 0 rfl) fun a E => ?_
    refine env_skip (d := 48) (g := 13) (s := 46) E rfl (by decide) rfl rfl rfl (by decide) (E.get 1 rfl) fun a E => ?_
    refine env_skip (d := 49) (g := 13) (s := 46) E rfl (by decide) rfl rfl rfl (by decide) (E.get 2 rfl) fun a E => ?_
    refine eg (v := .bool true) E (w_yes (g := 5) (s := 38) E rfl rfl (by decide) (E.get 11 rfl)) (run_pick_t rfl (E.get 3 rfl) rfl) fun a E => ?_
    refine ep (v := .bool true) E (run_pick_t rfl (E.get 12 rfl) (E.get 0 rfl)) fun a E => ?_
    refine env_set (d := 6) (v := .bool true) E rfl (by decide) (wanted_none rfl _) (run_assign rfl (E.get 0 rfl)) fun a E => ?_
    refine wpList_nil ?_
    refine then_n ?_
    refine wp_ret ?_
    refine then_r ?_
    exact ret_tmp (t := 6) rfl E (E.get 0 rfl) ⟨rfl, hf⟩
   | true =>
    rw [hq148] at E
    have hm0 := of_decide_eq_true hq148
    refine eg (v := .int .i64 m) E (w_yes (g := 2) (s := 27) E rfl rfl (by decide) (E.get 0 rfl)) (run_move rfl (E.get 19 rfl)) fun a E => ?_
    refine eg (v := .bool (decide (m ≤ 1000000000))) E (w_yes (g := 2) (s := 27) E rfl rfl (by decide) (E.get 1 rfl)) (run_ileq (E.get 0 rfl) rfl Tryz.underlying3 rfl) fun a E => ?_
    refine ep (v := .bool (decide (m ≤ 1000000000))) E (run_pick_t rfl (E.get 2 rfl) (E.get 0 rfl)) fun a E => ?_
    refine ep (v := .bool (decide (m ≤ 1000000000))) E (run_assign rfl (E.get 0 rfl)) fun a E => ?_
    refine wpList_nil ?_
    refine then_n ?_
    refine wp_seq ?_
    refine wp_seq ?_
    refine wp_region_lit ?_
    refine ep (v := .bool false) E (run_move rfl (E.get 7 rfl)) fun a E => ?_
    refine ep (v := .bool true) E (run_not rfl (E.get 0 rfl)) fun a E => ?_
    refine wpList_nil ?_
    refine then_n ?_
    refine wp_cond_true (E.get 0 rfl) ?_
    refine wp_seq ?_
    refine wp_region_lit ?_
    refine ep (v := .bool true) E (run_move rfl (E.get 21 rfl)) fun a E => ?_
    refine ep (v := .bool true) E (run_move rfl (E.get 0 rfl)) fun a E => ?_
    refine eg (v := .int .i64 0) E (w_yes (g := 1) (s := 34) E rfl rfl (by decide) (E.get 0 rfl)) (run_move rfl (E.get 12 rfl)) fun a E => ?_
    refine eg (v := .bool true) E (w_yes (g := 1) (s := 34) E rfl rfl (by decide) (E.get 1 rfl)) (run_ieql (m := 0) (n := 0) (E.get 0 rfl) rfl Tryz.underlying3 rfl) fun a E => ?_
    refine ep (v := .bool true) E (run_pick_t rfl (E.get 2 rfl) (E.get 0 rfl)) fun a E => ?_
    refine ep (v := .bool true) E (run_move rfl (E.get 0 rfl)) fun a E => ?_
    refine eg (v := .bool (decide (m ≤ 1000000000))) E (w_yes (g := 5) (s := 38) E rfl rfl (by decide) (E.get 0 rfl)) (run_move rfl (E.get 8 rfl)) fun a E => ?_
    refine eg (v := .bool (!(decide (m ≤ 1000000000)))) E (w_yes (g := 5) (s := 38) E rfl rfl (by decide) (E.get 1 rfl)) (run_not rfl (E.get 0 rfl)) fun a E => ?_
    refine eg (v := .bool (!(decide (m ≤ 1000000000)))) E (w_yes (g := 5) (s := 38) E rfl rfl (by decide) (E.get 2 rfl)) (run_move rfl (E.get 0 rfl)) fun a E => ?_
    cases hq149 : (decide (m ≤ 1000000000)) with
    | false =>
     rw [hq149] at E
     have hP0 : nextP l0 m = (0, false) := nextP_no2 (by unfold minuteB; rw [hq149, Bool.and_false])
     refine env_skip (d := 42) (g := 8) (s := 41) E rfl (by decide) rfl rfl rfl (by decide) (E.get 0 rfl) fun a E => ?_
     refine env_skip (d := 43) (g := 8) (s := 41) E rfl (by decide) rfl rfl rfl (by decide) (E.get 1 rfl) fun a E => ?_
     refine env_skip (d := 44) (g := 8) (s := 41) E rfl (by decide) rfl rfl rfl (by decide) (E.get 2 rfl) fun a E => ?_
     refine eg (v := .bool true) E (w_yes (g := 5) (s := 38) E rfl rfl (by decide) (E.get 6 rfl)) (run_pick_t rfl (E.get 3 rfl) rfl) fun a E => ?_
     refine eg (v := .bool true) E (w_yes (g := 5) (s := 38) E rfl rfl (by decide) (E.get 7 rfl)) (run_move rfl (E.get 0 rfl)) fun a E => ?_
     refine env_skip (d := 47) (g := 13) (s := 46) E rfl (by decide) rfl rfl rfl (by decide) (E.get 0 rfl) fun a E => ?_
     refine env_skip (d := 48) (g := 13) (s := 46) E rfl (by decide) rfl rfl rfl (by decide) (E.get 1 rfl) fun a E => ?_
     refine env_skip (d := 49) (g := 13) (s := 46) E rfl (by decide) rfl rfl rfl (by decide) (E.get 2 rfl) fun a E => ?_
     refine eg (v := .bool true) E (w_yes (g := 5) (s := 38) E rfl rfl (by decide) (E.get 11 rfl)) (run_pick_t rfl (E.get 3 rfl) rfl) fun a E => ?_
     refine ep (v := .bool true) E (run_pick_t rfl (E.get 12 rfl) (E.get 0 rfl)) fun a E => ?_
     refine env_set (d := 6) (v := .bool true) E rfl (by decide) (wanted_none rfl _) (run_assign rfl (E.get 0 rfl)) fun a E => ?_
     refine wpList_nil ?_
     refine then_n ?_
     refine wp_ret ?_
     refine then_r ?_
     exact ret_tmp (t := 6) rfl E (E.get 0 rfl) ⟨rfl, hf⟩
    | true =>
     rw [hq149] at E
     have hm1 := of_decide_eq_true hq149
     have hmB : minuteB m = true := by unfold minuteB; simp only [Bool.and_eq_true, decide_eq_true_eq]; omega
     refine eg (v := .slice (p0) l0.length c0) E (w_yes (g := 8) (s := 41) E rfl rfl (by decide) (E.get 0 rfl)) (run_move rfl (E.get 33 rfl)) fun a E => ?_
     refine env_call (d := 43) (v := .bool (vl (-1) l0)) E rfl (by decide) rfl (w_yes (g := 8) (s := 41) E rfl rfl (by decide) (E.get 1 rfl)) (run_call1 (enters_of Tryz.func18 (by kernel_rfl) rfl) rfl rfl (E.get 0 rfl)) (valid_calls h0) fun a w1 f1 E => ?_
     have hT := Tb.fr hT f1 (fun r hr => id)
     have h0 := Src.fr h0 f1
     have hu1 := Src.fr hu1 f1
     have hf := hf.trans' f1 (fun _ _ h => h.elim)
     clear f1
     refine eg (v := .bool true) E (w_yes (g := 8) (s := 41) E rfl rfl (by decide) (E.get 2 rfl)) ((run_not rfl (E.get 0 rfl)).trans (by rw [hq147] <;> rfl)) fun a E => ?_
     refine eg (v := .bool true) E (w_yes (g := 5) (s := 38) E rfl rfl (by decide) (E.get 6 rfl)) (run_pick_f rfl (E.get 3 rfl) (E.get 0 rfl)) fun a E => ?_
     refine eg (v := .bool true) E (w_yes (g := 5) (s := 38) E rfl rfl (by decide) (E.get 7 rfl)) (run_move rfl (E.get 0 rfl)) fun a E => ?_
     refine env_skip (d := 47) (g := 13) (s := 46) E rfl (by decide) rfl rfl rfl (by decide) (E.get 0 rfl) fun a E => ?_
     refine env_skip (d := 48) (g := 13) (s := 46) E rfl (by decide) rfl rfl rfl (by decide) (E.get 1 rfl) fun a E => ?_
     refine env_skip (d := 49) (g := 13) (s := 46) E rfl (by decide) rfl rfl rfl (by decide) (E.get 2 rfl) fun a E => ?_
     refine eg (v := .bool true) E (w_yes (g := 5) (s := 38) E rfl rfl (by decide) (E.get 11 rfl)) (run_pick_t rfl (E.get 3 rfl) rfl) fun a E => ?_
     refine ep (v := .bool true) E (run_pick_t rfl (E.get 12 rfl) (E.get 0 rfl)) fun a E => ?_
     refine env_set (d := 6) (v := .bool true) E rfl (by decide) (wanted_none rfl _) (run_assign rfl (E.get 0 rfl)) fun a E => ?_
     refine wpList_nil ?_
     refine then_n ?_
     refine wp_ret ?_
     refine then_r ?_
     exact ret_tmp (t := 6) rfl E (E.get 0 rfl) ⟨rfl, hf⟩
  | true =>
   have hq0 : vl (-1) l0 = true := hq147
   cases hq150 : (decide (0 ≤ m)) with
   | false =>
    have hP0 : nextP l0 m = (0, false) := nextP_no2 (by unfold minuteB; rw [hq150]; rfl)
    refine wp_region_lit ?_
    refine ep (v := .slice (p0) l0.length c0) E (run_move rfl (E.get 7 rfl)) fun a E => ?_
    refine ep (v := .int .i64 m) E (run_move rfl (E.get 9 rfl)) fun a E => ?_
    refine env_call (d := 22) (v := .tuple #[.int .i64 0, .bool false]) E rfl (by decide) rfl (wanted_none rfl _) (run_call2 (enters_of Tryz.func21 (by kernel_rfl) rfl) rfl rfl (E.get 1 rfl) (E.get 0 rfl)) (by have h := next_calls h0 (by omega) m; rw [hP0] at h; exact h) fun a w1 f1 E => ?_
    have hT := Tb.fr hT f1 (fun r hr => id)
    have h0 := Src.fr h0 f1
    have hu1 := Src.fr hu1 f1
    have hf := hf.trans' f1 (fun _ _ h => h.elim)
    clear f1
    refine ep (v := .tuple #[.int .i64 0, .bool false]) E (run_move rfl (E.get 0 rfl)) fun a E => ?_
    refine ep (v := .int .i64 0) E (run_ext0 rfl (E.get 0 rfl)) fun a E => ?_
    refine ep (v := .bool false) E (run_ext1 rfl (E.get 1 rfl)) fun a E => ?_
    refine ep (v := .int .i64 0) E (run_assign rfl (E.get 1 rfl)) fun a E => ?_
    refine ep (v := .bool false) E (run_assign rfl (E.get 1 rfl)) fun a E => ?_
    refine wpList_nil ?_
    refine then_n ?_
    refine wp_seq ?_
    refine wp_region_lit ?_
    refine ep (v := .int .i64 m) E (run_move rfl (E.get 16 rfl)) fun a E => ?_
    refine ep (v := .bool false) E ((run_igeq (E.get 0 rfl) rfl Tryz.underlying3 rfl).trans (by rw [hq150] <;> rfl)) fun a E => ?_
    refine ep (v := .bool false) E (run_move rfl (E.get 0 rfl)) fun a E => ?_
    refine env_skip (d := 28) (g := 2) (s := 27) E rfl (by decide) rfl rfl rfl (by decide) (E.get 0 rfl) fun a E => ?_
    refine env_skip (d := 29) (g := 2) (s := 27) E rfl (by decide) rfl rfl rfl (by decide) (E.get 1 rfl) fun a E => ?_
    refine ep (v := .bool false) E (run_pick_f rfl (E.get 2 rfl) rfl) fun a E => ?_
    refine ep (v := .bool false) E (run_assign rfl (E.get 0 rfl)) fun a E => ?_
    refine wpList_nil ?_
    refine then_n ?_
    refine wp_seq ?_
    refine wp_seq ?_
    refine wp_region_lit ?_
    refine ep (v := .bool false) E (run_move rfl (E.get 7 rfl)) fun a E => ?_
    refine ep (v := .bool true) E (run_not rfl (E.get 0 rfl)) fun a E => ?_
    refine wpList_nil ?_
    refine then_n ?_
    refine wp_cond_true (E.get 0 rfl) ?_
    refine wp_seq ?_
    refine wp_region_lit ?_
    refine ep (v := .bool true) E (run_move rfl (E.get 21 rfl)) fun a E => ?_
    refine ep (v := .bool true) E (run_move rfl (E.get 0 rfl)) fun a E => ?_
    refine eg (v := .int .i64 0) E (w_yes (g := 1) (s := 34) E rfl rfl (by decide) (E.get 0 rfl)) (run_move rfl (E.get 12 rfl)) fun a E => ?_
    refine eg (v := .bool true) E (w_yes (g := 1) (s := 34) E rfl rfl (by decide) (E.get 1 rfl)) (run_ieql (m := 0) (n := 0) (E.get 0 rfl) rfl Tryz.underlying3 rfl) fun a E => ?_
    refine ep (v := .bool true) E (run_pick_t rfl (E.get 2 rfl) (E.get 0 rfl)) fun a E => ?_
    refine ep (v := .bool true) E (run_move rfl (E.get 0 rfl)) fun a E => ?_
    refine eg (v := .bool false) E (w_yes (g := 5) (s := 38) E rfl rfl (by decide) (E.get 0 rfl)) (run_move rfl (E.get 8 rfl)) fun a E => ?_
    refine eg (v := .bool true) E (w_yes (g := 5) (s := 38) E rfl rfl (by decide) (E.get 1 rfl)) (run_not rfl (E.get 0 rfl)) fun a E => ?_
    refine eg (v := .bool true) E (w_yes (g := 5) (s := 38) E rfl rfl (by decide) (E.get 2 rfl)) (run_move rfl (E.get 0 rfl)) fun a E => ?_
    refine env_skip (d := 42) (g := 8) (s := 41) E rfl (by decide) rfl rfl rfl (by decide) (E.get 0 rfl) fun a E => ?_
    refine env_skip (d := 43) (g := 8) (s := 41) E rfl (by decide) rfl rfl rfl (by decide) (E.get 1 rfl) fun a E => ?_
    refine env_skip (d := 44) (g := 8) (s := 41) E rfl (by decide) rfl rfl rfl (by decide) (E.get 2 rfl) fun a E => ?_
    refine eg (v := .bool true) E (w_yes (g := 5) (s := 38) E rfl rfl (by decide) (E.get 6 rfl)) (run_pick_t rfl (E.get 3 rfl) rfl) fun a E => ?_
    refine eg (v := .bool true) E (w_yes (g := 5) (s := 38) E rfl rfl (by decide) (E.get 7 rfl)) (run_move rfl (E.get 0 rfl)) fun a E => ?_
    refine env_skip (d := 47) (g := 13) (s := 46) E rfl (by decide) rfl rfl rfl (by decide) (E.get 0 rfl) fun a E => ?_
    refine env_skip (d := 48) (g := 13) (s := 46) E rfl (by decide) rfl rfl rfl (by decide) (E.get 1 rfl) fun a E => ?_
    refine env_skip (d := 49) (g := 13) (s := 46) E rfl (by decide) rfl rfl rfl (by decide) (E.get 2 rfl) fun a E => ?_
    refine eg (v := .bool true) E (w_yes (g := 5) (s := 38) E rfl rfl (by decide) (E.get 11 rfl)) (run_pick_t rfl (E.get 3 rfl) rfl) fun a E => ?_
    refine ep (v := .bool true) E (run_pick_t rfl (E.get 12 rfl) (E.get 0 rfl)) fun a E => ?_
    refine env_set (d := 6) (v := .bool true) E rfl (by decide) (wanted_none rfl _) (run_assign rfl (E.get 0 rfl)) fun a E => ?_
    refine wpList_nil ?_
    refine then_n ?_
    refine wp_ret ?_
    refine then_r ?_
    exact ret_tmp (t := 6) rfl E (E.get 0 rfl) ⟨rfl, hf⟩
   | true =>
    have hm0 := of_decide_eq_true hq150
    cases hq151 : (decide (m ≤ 1000000000)) with
    | false =>
     have hP0 : nextP l0 m = (0, false) := nextP_no2 (by unfold minuteB; rw [hq151, Bool.and_false])
     refine wp_region_lit ?_
     refine ep (v := .slice (p0) l0.length c0) E (run_move rfl (E.get 7 rfl)) fun a E => ?_
     refine ep (v := .int .i64 m) E (run_move rfl (E.get 9 rfl)) fun a E => ?_
     refine env_call (d := 22) (v := .tuple #[.int .i64 0, .bool false]) E rfl (by decide) rfl (wanted_none rfl _) (run_call2 (enters_of Tryz.func21 (by kernel_rfl) rfl) rfl rfl (E.get 1 rfl) (E.get 0 rfl)) (by have h := next_calls h0 (by omega) m; rw [hP0] at h; exact h) fun a w1 f1 E => ?_
     have hT := Tb.fr hT f1 (fun r hr => id)
     have h0 := Src.fr h0 f1
     have hu1 := Src.fr hu1 f1
     have hf := hf.trans' f1 (fun _ _ h => h.elim)
     clear f1
     refine ep (v := .tuple #[.int .i64 0, .bool false]) E (run_move rfl (E.get 0 rfl)) fun a E => ?_
     refine ep (v := .int .i64 0) E (run_ext0 rfl (E.get 0 rfl)) fun a E => ?_
     refine ep (v := .bool false) E (run_ext1 rfl (E.get 1 rfl)) fun a E => ?_
     refine ep (v := .int .i64 0) E (run_assign rfl (E.get 1 rfl)) fun a E => ?_
     refine ep (v := .bool false) E (run_assign rfl (E.get 1 rfl)) fun a E => ?_
     refine wpList_nil ?_
     refine then_n ?_
     refine wp_seq ?_
     refine wp_region_lit ?_
     refine ep (v := .int .i64 m) E (run_move rfl (E.get 16 rfl)) fun a E => ?_
     refine ep (v := .bool true) E ((run_igeq (E.get 0 rfl) rfl Tryz.underlying3 rfl).trans (by rw [hq150] <;> rfl)) fun a E => ?_
     refine ep (v := .bool true) E (run_move rfl (E.get 0 rfl)) fun a E => ?_
     refine eg (v := .int .i64 m) E (w_yes (g := 2) (s := 27) E rfl rfl (by decide) (E.get 0 rfl)) (run_move rfl (E.get 19 rfl)) fun a E => ?_
     refine eg (v := .bool false) E (w_yes (g := 2) (s := 27) E rfl rfl (by decide) (E.get 1 rfl)) ((run_ileq (E.get 0 rfl) rfl Tryz.underlying3 rfl).trans (by rw [hq151] <;> rfl)) fun a E => ?_
     refine ep (v := .bool false) E (run_pick_t rfl (E.get 2 rfl) (E.get 0 rfl)) fun a E => ?_
     refine ep (v := .bool false) E (run_assign rfl (E.get 0 rfl)) fun a E => ?_
     refine wpList_nil ?_
     refine then_n ?_
     refine wp_seq ?_
     refine wp_seq ?_
     refine wp_region_lit ?_
     refine ep (v := .bool false) E (run_move rfl (E.get 7 rfl)) fun a E => ?_
     refine ep (v := .bool true) E (run_not rfl (E.get 0 rfl)) fun a E => ?_
     refine wpList_nil ?_
     refine then_n ?_
     refine wp_cond_true (E.get 0 rfl) ?_
     refine wp_seq ?_
     refine wp_region_lit ?_
     refine ep (v := .bool true) E (run_move rfl (E.get 21 rfl)) fun a E => ?_
     refine ep (v := .bool true) E (run_move rfl (E.get 0 rfl)) fun a E => ?_
     refine eg (v := .int .i64 0) E (w_yes (g := 1) (s := 34) E rfl rfl (by decide) (E.get 0 rfl)) (run_move rfl (E.get 12 rfl)) fun a E => ?_
     refine eg (v := .bool true) E (w_yes (g := 1) (s := 34) E rfl rfl (by decide) (E.get 1 rfl)) (run_ieql (m := 0) (n := 0) (E.get 0 rfl) rfl Tryz.underlying3 rfl) fun a E => ?_
     refine ep (v := .bool true) E (run_pick_t rfl (E.get 2 rfl) (E.get 0 rfl)) fun a E => ?_
     refine ep (v := .bool true) E (run_move rfl (E.get 0 rfl)) fun a E => ?_
     refine eg (v := .bool false) E (w_yes (g := 5) (s := 38) E rfl rfl (by decide) (E.get 0 rfl)) (run_move rfl (E.get 8 rfl)) fun a E => ?_
     refine eg (v := .bool true) E (w_yes (g := 5) (s := 38) E rfl rfl (by decide) (E.get 1 rfl)) (run_not rfl (E.get 0 rfl)) fun a E => ?_
     refine eg (v := .bool true) E (w_yes (g := 5) (s := 38) E rfl rfl (by decide) (E.get 2 rfl)) (run_move rfl (E.get 0 rfl)) fun a E => ?_
     refine env_skip (d := 42) (g := 8) (s := 41) E rfl (by decide) rfl rfl rfl (by decide) (E.get 0 rfl) fun a E => ?_
     refine env_skip (d := 43) (g := 8) (s := 41) E rfl (by decide) rfl rfl rfl (by decide) (E.get 1 rfl) fun a E => ?_
     refine env_skip (d := 44) (g := 8) (s := 41) E rfl (by decide) rfl rfl rfl (by decide) (E.get 2 rfl) fun a E => ?_
     refine eg (v := .bool true) E (w_yes (g := 5) (s := 38) E rfl rfl (by decide) (E.get 6 rfl)) (run_pick_t rfl (E.get 3 rfl) rfl) fun a E => ?_
     refine eg (v := .bool true) E (w_yes (g := 5) (s := 38) E rfl rfl (by decide) (E.get 7 rfl)) (run_move rfl (E.get 0 rfl)) fun a E => ?_
     refine env_skip (d := 47) (g := 13) (s := 46) E rfl (by decide) rfl rfl rfl (by decide) (E.get 0 rfl) fun a E => ?_
     refine env_skip (d := 48) (g := 13) (s := 46) E rfl (by decide) rfl rfl rfl (by decide) (E.get 1 rfl) fun a E => ?_
     refine env_skip (d := 49) (g := 13) (s := 46) E rfl (by decide) rfl rfl rfl (by decide) (E.get 2 rfl) fun a E => ?_
     refine eg (v := .bool true) E (w_yes (g := 5) (s := 38) E rfl rfl (by decide) (E.get 11 rfl)) (run_pick_t rfl (E.get 3 rfl) rfl) fun a E => ?_
     refine ep (v := .bool true) E (run_pick_t rfl (E.get 12 rfl) (E.get 0 rfl)) fun a E => ?_
     refine env_set (d := 6) (v := .bool true) E rfl (by decide) (wanted_none rfl _) (run_assign rfl (E.get 0 rfl)) fun a E => ?_
     refine wpList_nil ?_
     refine then_n ?_
     refine wp_ret ?_
     refine then_r ?_
     exact ret_tmp (t := 6) rfl E (E.get 0 rfl) ⟨rfl, hf⟩
    | true =>
     have hm1 := of_decide_eq_true hq151
     have hmB : minuteB m = true := by unfold minuteB; simp only [Bool.and_eq_true, decide_eq_true_eq]; omega
     cases hq152 : ((l0.length : Int) == 0) with
     | false =>
      have hnE : l0.isEmpty = false := by rw [isEmpty_len]; exact hq152
      have hne : l0 ≠ [] := by intro e; rw [e] at hnE; cases hnE
      have hna := next_all hq0 hm0 hne
      have hna1 := hna.1
      have hna2 := hna.2.1
      refine wp_region_lit ?_
      refine ep (v := .slice (p0) l0.length c0) E (run_move rfl (E.get 7 rfl)) fun a E => ?_
      refine ep (v := .int .i64 m) E (run_move rfl (E.get 9 rfl)) fun a E => ?_
      refine env_call (d := 22) (v := .tuple #[.int .i64 (nextA l0 m), .bool true]) E rfl (by decide) rfl (wanted_none rfl _) (run_call2 (enters_of Tryz.func21 (by kernel_rfl) rfl) rfl rfl (E.get 1 rfl) (E.get 0 rfl)) (by have h := next_calls h0 (by omega) m; rw [nextP_is hq0 hmB hnE] at h; exact h) fun a w1 f1 E => ?_
      have hT := Tb.fr hT f1 (fun r hr => id)
      have h0 := Src.fr h0 f1
      have hu1 := Src.fr hu1 f1
      have hf := hf.trans' f1 (fun _ _ h => h.elim)
      clear f1
      refine ep (v := .tuple #[.int .i64 (nextA l0 m), .bool true]) E (run_move rfl (E.get 0 rfl)) fun a E => ?_
      refine ep (v := .int .i64 (nextA l0 m)) E (run_ext0 rfl (E.get 0 rfl)) fun a E => ?_
      refine ep (v := .bool true) E (run_ext1 rfl (E.get 1 rfl)) fun a E => ?_
      refine ep (v := .int .i64 (nextA l0 m)) E (run_assign rfl (E.get 1 rfl)) fun a E => ?_
      refine ep (v := .bool true) E (run_assign rfl (E.get 1 rfl)) fun a E => ?_
      refine wpList_nil ?_
      refine then_n ?_
      refine wp_seq ?_
      refine wp_region_lit ?_
      refine ep (v := .int .i64 m) E (run_move rfl (E.get 16 rfl)) fun a E => ?_
      refine ep (v := .bool true) E ((run_igeq (E.get 0 rfl) rfl Tryz.underlying3 rfl).trans (by rw [hq150] <;> rfl)) fun a E => ?_
      refine ep (v := .bool true) E (run_move rfl (E.get 0 rfl)) fun a E => ?_
      refine eg (v := .int .i64 m) E (w_yes (g := 2) (s := 27) E rfl rfl (by decide) (E.get 0 rfl)) (run_move rfl (E.get 19 rfl)) fun a E => ?_
      refine eg (v := .bool true) E (w_yes (g := 2) (s := 27) E rfl rfl (by decide) (E.get 1 rfl)) ((run_ileq (E.get 0 rfl) rfl Tryz.underlying3 rfl).trans (by rw [hq151] <;> rfl)) fun a E => ?_
      refine ep (v := .bool true) E (run_pick_t rfl (E.get 2 rfl) (E.get 0 rfl)) fun a E => ?_
      refine ep (v := .bool true) E (run_assign rfl (E.get 0 rfl)) fun a E => ?_
      refine wpList_nil ?_
      refine then_n ?_
      refine wp_seq ?_
      refine wp_seq ?_
      refine wp_region_lit ?_
      refine ep (v := .bool true) E (run_move rfl (E.get 7 rfl)) fun a E => ?_
      refine ep (v := .bool false) E (run_not rfl (E.get 0 rfl)) fun a E => ?_
      refine wpList_nil ?_
      refine then_n ?_
      refine wp_cond_false (E.get 0 rfl) ?_
      refine wp_skip ?_
      refine then_n ?_
      refine wp_seq ?_
      refine wp_seq ?_
      refine wp_region_lit ?_
      refine ep (v := .bool true) E (run_move rfl (E.get 2 rfl)) fun a E => ?_
      refine ep (v := .bool false) E (run_not rfl (E.get 0 rfl)) fun a E => ?_
      refine ep (v := .bool false) E (run_move rfl (E.get 0 rfl)) fun a E => ?_
      refine eg (v := .slice (p0) l0.length c0) E (w_yes (g := 2) (s := 54) E rfl rfl (by decide) (E.get 0 rfl)) (run_move rfl (E.get 27 rfl)) fun a E => ?_
      refine env_call (d := 56) (v := .bool (vl (-1) l0)) E rfl (by decide) rfl (w_yes (g := 2) (s := 54) E rfl rfl (by decide) (E.get 1 rfl)) (run_call1 (enters_of Tryz.func18 (by kernel_rfl) rfl) rfl rfl (E.get 0 rfl)) (valid_calls h0) fun a w1 f1 E => ?_
      have hT := Tb.fr hT f1 (fun r hr => id)
      have h0 := Src.fr h0 f1
      have hu1 := Src.fr hu1 f1
      have hf := hf.trans' f1 (fun _ _ h => h.elim)
      clear f1
      refine eg (v := .bool false) E (w_yes (g := 2) (s := 54) E rfl rfl (by decide) (E.get 2 rfl)) ((run_not rfl (E.get 0 rfl)).trans (by rw [hq147] <;> rfl)) fun a E => ?_
      refine ep (v := .bool false) E (run_pick_f rfl (E.get 3 rfl) (E.get 0 rfl)) fun a E => ?_
      refine ep (v := .bool false) E (run_move rfl (E.get 0 rfl)) fun a E => ?_
      refine eg (v := .int .i64 (nextA l0 m)) E (w_yes (g := 7) (s := 59) E rfl rfl (by decide) (E.get 0 rfl)) (run_move rfl (E.get 18 rfl)) fun a E => ?_
      refine eg (v := .int .i64 m) E (w_yes (g := 7) (s := 59) E rfl rfl (by decide) (E.get 1 rfl)) (run_move rfl (E.get 34 rfl)) fun a E => ?_
      refine eg (v := .bool (decide ((nextA l0 m) < m))) E (w_yes (g := 7) (s := 59) E rfl rfl (by decide) (E.get 2 rfl)) (run_ilss (E.get 1 rfl) (E.get 0 rfl) Tryz.underlying3 rfl) fun a E => ?_
      refine ep (v := .bool (decide ((nextA l0 m) < m))) E (run_pick_f rfl (E.get 3 rfl) (E.get 0 rfl)) fun a E => ?_
      refine ep (v := .bool (decide ((nextA l0 m) < m))) E (run_move rfl (E.get 0 rfl)) fun a E => ?_
      cases hq153 : (decide ((nextA l0 m) < m)) with
      | false =>
       rw [hq153] at E
       refine eg (v := .int .i64 (nextA l0 m)) E (w_yes (g := 12) (s := 64) E rfl rfl (by decide) (E.get 0 rfl)) (run_move rfl (E.get 23 rfl)) fun a E => ?_
       refine eg (v := .int .i64 m) E (w_yes (g := 12) (s := 64) E rfl rfl (by decide) (E.get 1 rfl)) (run_move rfl (E.get 39 rfl)) fun a E => ?_
       refine eg (v := .int .i64 (m + 10080)) E (w_yes (g := 12) (s := 64) E rfl rfl (by decide) (E.get 2 rfl)) (run_iadd Tryz.underlying3 (E.get 0 rfl) rfl (by omega) (by omega) rfl) fun a E => ?_
       refine eg (v := .bool (decide ((m + 10080) ≤ (nextA l0 m)))) E (w_yes (g := 12) (s := 64) E rfl rfl (by decide) (E.get 3 rfl)) (run_igeq (E.get 2 rfl) (E.get 0 rfl) Tryz.underlying3 rfl) fun a E => ?_
       refine ep (v := .bool (decide ((m + 10080) ≤ (nextA l0 m)))) E (run_pick_f rfl (E.get 4 rfl) (E.get 0 rfl)) fun a E => ?_
       refine ep (v := .bool (decide ((m + 10080) ≤ (nextA l0 m)))) E (run_move rfl (E.get 0 rfl)) fun a E => ?_
       cases hq154 : (decide ((m + 10080) ≤ (nextA l0 m))) with
       | false =>
        rw [hq154] at E
        refine eg (v := .int .i64 (nextA l0 m)) E (w_yes (g := 18) (s := 70) E rfl rfl (by decide) (E.get 0 rfl)) (run_move rfl (E.get 29 rfl)) fun a E => ?_
        refine eg (v := .bool (decide ((nextA l0 m) ≤ 1000000000))) E (w_yes (g := 18) (s := 70) E rfl rfl (by decide) (E.get 1 rfl)) (run_ileq (E.get 0 rfl) rfl Tryz.underlying3 rfl) fun a E => ?_
        refine eg (v := .bool (decide ((nextA l0 m) ≤ 1000000000))) E (w_yes (g := 18) (s := 70) E rfl rfl (by decide) (E.get 2 rfl)) (run_move rfl (E.get 0 rfl)) fun a E => ?_
        cases hq155 : (decide ((nextA l0 m) ≤ 1000000000)) with
        | false =>
         rw [hq155] at E
         refine env_skip (d := 74) (g := 21) (s := 73) E rfl (by decide) rfl rfl rfl (by decide) (E.get 0 rfl) fun a E => ?_
         refine env_skip (d := 75) (g := 21) (s := 73) E rfl (by decide) rfl rfl rfl (by decide) (E.get 1 rfl) fun a E => ?_
         refine env_skip (d := 76) (g := 21) (s := 73) E rfl (by decide) rfl rfl rfl (by decide) (E.get 2 rfl) fun a E => ?_
         refine env_skip (d := 77) (g := 21) (s := 73) E rfl (by decide) rfl rfl rfl (by decide) (E.get 3 rfl) fun a E => ?_
         refine eg (v := .bool false) E (w_yes (g := 18) (s := 70) E rfl rfl (by decide) (E.get 7 rfl)) (run_pick_f rfl (E.get 4 rfl) rfl) fun a E => ?_
         refine ep (v := .bool false) E (run_pick_f rfl (E.get 8 rfl) (E.get 0 rfl)) fun a E => ?_
         refine wpList_nil ?_
         refine then_n ?_
         refine wp_cond_false (E.get 0 rfl) ?_
         refine wp_skip ?_
         refine then_n ?_
         refine wp_seq ?_
         refine wp_seq ?_
         refine wp_region_lit ?_
         refine ep (v := .int .i64 q) E (run_move rfl (E.get 54 rfl)) fun a E => ?_
         refine ep (v := .int .i64 m) E (run_move rfl (E.get 54 rfl)) fun a E => ?_
         refine ep (v := .bool (decide (m ≤ q))) E (run_igeq (E.get 1 rfl) (E.get 0 rfl) Tryz.underlying3 rfl) fun a E => ?_
         refine ep (v := .bool (decide (m ≤ q))) E (run_move rfl (E.get 0 rfl)) fun a E => ?_
         cases hq156 : (decide (m ≤ q)) with
         | false =>
          rw [hq156] at E
          refine env_skip (d := 84) (g := 3) (s := 83) E rfl (by decide) rfl rfl rfl (by decide) (E.get 0 rfl) fun a E => ?_
          refine env_skip (d := 85) (g := 3) (s := 83) E rfl (by decide) rfl rfl rfl (by decide) (E.get 1 rfl) fun a E => ?_
          refine env_skip (d := 86) (g := 3) (s := 83) E rfl (by decide) rfl rfl rfl (by decide) (E.get 2 rfl) fun a E => ?_
          refine ep (v := .bool false) E (run_pick_f rfl (E.get 3 rfl) rfl) fun a E => ?_
          refine ep (v := .bool false) E (run_move rfl (E.get 0 rfl)) fun a E => ?_
          refine env_skip (d := 89) (g := 8) (s := 88) E rfl (by decide) rfl rfl rfl (by decide) (E.get 0 rfl) fun a E => ?_
          refine env_skip (d := 90) (g := 8) (s := 88) E rfl (by decide) rfl rfl rfl (by decide) (E.get 1 rfl) fun a E => ?_
          refine env_skip (d := 91) (g := 8) (s := 88) E rfl (by decide) rfl rfl rfl (by decide) (E.get 2 rfl) fun a E => ?_
          refine ep (v := .bool false) E (run_pick_f rfl (E.get 3 rfl) rfl) fun a E => ?_
          refine wpList_nil ?_
          refine then_n ?_
          refine wp_cond_false (E.get 0 rfl) ?_
          refine wp_skip ?_
          refine then_n ?_
          refine wp_seq ?_
          cases hq157 : (decide (1000000000 < (m + 10080))) with
          | false =>
           refine wp_region_lit ?_
           refine ep (v := .slice (p0) l0.length c0) E (run_move rfl (E.get 65 rfl)) fun a E => ?_
           refine ep (v := .int .i64 m) E (run_move rfl (E.get 67 rfl)) fun a E => ?_
           refine ep (v := .int .i64 (m + 10080)) E (run_iadd Tryz.underlying3 (E.get 0 rfl) rfl (by omega) (by omega) rfl) fun a E => ?_
           refine env_call (d := 97) (v := .tuple #[.int .i64 ((nextA l0 m) + 10080), .bool true]) E rfl (by decide) rfl (wanted_none rfl _) (run_call2 (enters_of Tryz.func21 (by kernel_rfl) rfl) rfl rfl (E.get 2 rfl) (E.get 0 rfl)) (by have h := next_calls h0 (by omega) (m + 10080); rw [nextP_is hq0 (by unfold minuteB; simp only [Bool.and_eq_true, decide_eq_true_eq]; have := of_decide_eq_false hq157; omega) hnE, next_per] at h; exact h) fun a w1 f1 E => ?_
           have hT := Tb.fr hT f1 (fun r hr => id)
           have h0 := Src.fr h0 f1
           have hu1 := Src.fr hu1 f1
           have hf := hf.trans' f1 (fun _ _ h => h.elim)
           clear f1
           refine ep (v := .tuple #[.int .i64 ((nextA l0 m) + 10080), .bool true]) E (run_move rfl (E.get 0 rfl)) fun a E => ?_
           refine ep (v := .int .i64 ((nextA l0 m) + 10080)) E (run_ext0 rfl (E.get 0 rfl)) fun a E => ?_
           refine ep (v := .bool true) E (run_ext1 rfl (E.get 1 rfl)) fun a E => ?_
           refine ep (v := .int .i64 ((nextA l0 m) + 10080)) E (run_assign rfl (E.get 1 rfl)) fun a E => ?_
           refine ep (v := .bool true) E (run_assign rfl (E.get 1 rfl)) fun a E => ?_
           refine wpList_nil ?_
           refine then_n ?_
           refine wp_seq ?_
           refine wp_region_lit ?_
           refine ep (v := .bool true) E (run_move rfl (E.get 71 rfl)) fun a E => ?_
           refine ep (v := .bool true) E (run_move rfl (E.get 0 rfl)) fun a E => ?_
           refine eg (v := .bool true) E (w_yes (g := 1) (s := 101) E rfl rfl (by decide) (E.get 0 rfl)) (run_move rfl (E.get 2 rfl)) fun a E => ?_
           refine eg (v := .bool true) E (w_yes (g := 1) (s := 101) E rfl rfl (by decide) (E.get 1 rfl)) (run_move rfl (E.get 0 rfl)) fun a E => ?_
           refine eg (v := .int .i64 ((nextA l0 m) + 10080)) E (w_yes (g := 3) (s := 103) E rfl rfl (by decide) (E.get 0 rfl)) (run_move rfl (E.get 5 rfl)) fun a E => ?_
           refine eg (v := .int .i64 (nextA l0 m)) E (w_yes (g := 3) (s := 103) E rfl rfl (by decide) (E.get 1 rfl)) (run_move rfl (E.get 65 rfl)) fun a E => ?_
           refine eg (v := .int .i64 ((nextA l0 m) + 10080)) E (w_yes (g := 3) (s := 103) E rfl rfl (by decide) (E.get 2 rfl)) (run_iadd Tryz.underlying3 (E.get 0 rfl) rfl (by omega) (by omega) rfl) fun a E => ?_
           refine eg (v := .bool true) E (w_yes (g := 3) (s := 103) E rfl rfl (by decide) (E.get 3 rfl)) ((run_ieql (E.get 2 rfl) (E.get 0 rfl) Tryz.underlying3 rfl).trans (by rw [beq_self_eq_true])) fun a E => ?_
           refine eg (v := .bool true) E (w_yes (g := 1) (s := 101) E rfl rfl (by decide) (E.get 6 rfl)) (run_pick_t rfl (E.get 4 rfl) (E.get 0 rfl)) fun a E => ?_
           refine eg (v := .bool true) E (w_yes (g := 1) (s := 101) E rfl rfl (by decide) (E.get 7 rfl)) (run_move rfl (E.get 0 rfl)) fun a E => ?_
           refine env_skip (d := 110) (g := 9) (s := 109) E rfl (by decide) rfl rfl rfl (by decide) (E.get 0 rfl) fun a E => ?_
           refine env_skip (d := 111) (g := 9) (s := 109) E rfl (by decide) rfl rfl rfl (by decide) (E.get 1 rfl) fun a E => ?_
           refine env_skip (d := 112) (g := 9) (s := 109) E rfl (by decide) rfl rfl rfl (by decide) (E.get 2 rfl) fun a E => ?_
           refine env_skip (d := 113) (g := 9) (s := 109) E rfl (by decide) rfl rfl rfl (by decide) (E.get 3 rfl) fun a E => ?_
           refine env_skipu (d := 114) (g := 13) (s := 113) E rfl (by decide) rfl rfl rfl (by decide) (E.get 0 rfl) fun a E => ?_
           refine env_skipu (d := 115) (g := 13) (s := 113) E rfl (by decide) rfl rfl rfl (by decide) (E.get 1 rfl) fun a E => ?_
           refine env_skip (d := 116) (g := 9) (s := 109) E rfl (by decide) rfl rfl rfl (by decide) (E.get 6 rfl) fun a E => ?_
           refine eg (v := .bool true) E (w_yes (g := 1) (s := 101) E rfl rfl (by decide) (E.get 15 rfl)) (run_pick_t rfl (E.get 7 rfl) rfl) fun a E => ?_
           refine ep (v := .bool true) E (run_pick_t rfl (E.get 16 rfl) (E.get 0 rfl)) fun a E => ?_
           refine env_set (d := 6) (v := .bool true) E rfl (by decide) (wanted_none rfl _) (run_assign rfl (E.get 0 rfl)) fun a E => ?_
           refine wpList_nil ?_
           refine then_n ?_
           refine wp_ret ?_
           exact ret_tmp (t := 6) rfl E (E.get 0 rfl) ⟨rfl, hf⟩
          | true =>
           refine wp_region_lit ?_
           refine ep (v := .slice (p0) l0.length c0) E (run_move rfl (E.get 65 rfl)) fun a E => ?_
           refine ep (v := .int .i64 m) E (run_move rfl (E.get 67 rfl)) fun a E => ?_
           refine ep (v := .int .i64 (m + 10080)) E (run_iadd Tryz.underlying3 (E.get 0 rfl) rfl (by omega) (by omega) rfl) fun a E => ?_
           refine env_call (d := 97) (v := .tuple #[.int .i64 0, .bool false]) E rfl (by decide) rfl (wanted_none rfl _) (run_call2 (enters_of Tryz.func21 (by kernel_rfl) rfl) rfl rfl (E.get 2 rfl) (E.get 0 rfl)) (by have h := next_calls h0 (by omega) (m + 10080); rw [nextP_no2 (by unfold minuteB; rw [Bool.eq_false_iff]; simp only [ne_eq, Bool.and_eq_true, decide_eq_true_eq]; have := of_decide_eq_true hq157; omega)] at h; exact h) fun a w1 f1 E => ?_
           have hT := Tb.fr hT f1 (fun r hr => id)
           have h0 := Src.fr h0 f1
           have hu1 := Src.fr hu1 f1
           have hf := hf.trans' f1 (fun _ _ h => h.elim)
           clear f1
           refine ep (v := .tuple #[.int .i64 0, .bool false]) E (run_move rfl (E.get 0 rfl)) fun a E => ?_
           refine ep (v := .int .i64 0) E (run_ext0 rfl (E.get 0 rfl)) fun a E => ?_
           refine ep (v := .bool false) E (run_ext1 rfl (E.get 1 rfl)) fun a E => ?_
           refine ep (v := .int .i64 0) E (run_assign rfl (E.get 1 rfl)) fun a E => ?_
           refine ep (v := .bool false) E (run_assign rfl (E.get 1 rfl)) fun a E => ?_
           refine wpList_nil ?_
           refine then_n ?_
           refine wp_seq ?_
           refine wp_region_lit ?_
           refine ep (v := .bool true) E (run_move rfl (E.get 71 rfl)) fun a E => ?_
           refine ep (v := .bool true) E (run_move rfl (E.get 0 rfl)) fun a E => ?_
           refine eg (v := .bool false) E (w_yes (g := 1) (s := 101) E rfl rfl (by decide) (E.get 0 rfl)) (run_move rfl (E.get 2 rfl)) fun a E => ?_
           refine eg (v := .bool false) E (w_yes (g := 1) (s := 101) E rfl rfl (by decide) (E.get 1 rfl)) (run_move rfl (E.get 0 rfl)) fun a E => ?_
           refine env_skip (d := 104) (g := 3) (s := 103) E rfl (by decide) rfl rfl rfl (by decide) (E.get 0 rfl) fun a E => ?_
           refine env_skip (d := 105) (g := 3) (s := 103) E rfl (by decide) rfl rfl rfl (by decide) (E.get 1 rfl) fun a E => ?_
           refine env_skip (d := 106) (g := 3) (s := 103) E rfl (by decide) rfl rfl rfl (by decide) (E.get 2 rfl) fun a E => ?_
           refine env_skip (d := 107) (g := 3) (s := 103) E rfl (by decide) rfl rfl rfl (by decide) (E.get 3 rfl) fun a E => ?_
           refine eg (v := .bool false) E (w_yes (g := 1) (s := 101) E rfl rfl (by decide) (E.get 6 rfl)) (run_pick_f rfl (E.get 4 rfl) rfl) fun a E => ?_
           refine eg (v := .bool false) E (w_yes (g := 1) (s := 101) E rfl rfl (by decide) (E.get 7 rfl)) (run_move rfl (E.get 0 rfl)) fun a E => ?_
           refine eg (v := .int .i64 m) E (w_yes (g := 9) (s := 109) E rfl rfl (by decide) (E.get 0 rfl)) (run_move rfl (E.get 85 rfl)) fun a E => ?_
           refine eg (v := .int .i64 (m + 10080)) E (w_yes (g := 9) (s := 109) E rfl rfl (by decide) (E.get 1 rfl)) (run_iadd Tryz.underlying3 (E.get 0 rfl) rfl (by omega) (by omega) rfl) fun a E => ?_
           refine eg (v := .bool true) E (w_yes (g := 9) (s := 109) E rfl rfl (by decide) (E.get 2 rfl)) ((run_igtr (E.get 0 rfl) rfl Tryz.underlying3 rfl).trans (by rw [hq157] <;> rfl)) fun a E => ?_
           refine eg (v := .bool true) E (w_yes (g := 9) (s := 109) E rfl rfl (by decide) (E.get 3 rfl)) (run_move rfl (E.get 0 rfl)) fun a E => ?_
           refine eg (v := .bool false) E (w_yes (g := 13) (s := 113) E rfl rfl (by decide) (E.get 0 rfl)) (run_move rfl (E.get 14 rfl)) fun a E => ?_
           refine eg (v := .bool true) E (w_yes (g := 13) (s := 113) E rfl rfl (by decide) (E.get 1 rfl)) (run_not rfl (E.get 0 rfl)) fun a E => ?_
           refine eg (v := .bool true) E (w_yes (g := 9) (s := 109) E rfl rfl (by decide) (E.get 6 rfl)) (run_pick_t rfl (E.get 2 rfl) (E.get 0 rfl)) fun a E => ?_
           refine eg (v := .bool true) E (w_yes (g := 1) (s := 101) E rfl rfl (by decide) (E.get 15 rfl)) (run_pick_f rfl (E.get 7 rfl) (E.get 0 rfl)) fun a E => ?_
           refine ep (v := .bool true) E (run_pick_t rfl (E.get 16 rfl) (E.get 0 rfl)) fun a E => ?_
           refine env_set (d := 6) (v := .bool true) E rfl (by decide) (wanted_none rfl _) (run_assign rfl (E.get 0 rfl)) fun a E => ?_
           refine wpList_nil ?_
           refine then_n ?_
           refine wp_ret ?_
           exact ret_tmp (t := 6) rfl E (E.get 0 rfl) ⟨rfl, hf⟩
         | true =>
          rw [hq156] at E
          have hx1 := of_decide_eq_true hq156
          refine eg (v := .int .i64 q) E (w_yes (g := 3) (s := 83) E rfl rfl (by decide) (E.get 0 rfl)) (run_move rfl (E.get 58 rfl)) fun a E => ?_
          refine eg (v := .int .i64 (nextA l0 m)) E (w_yes (g := 3) (s := 83) E rfl rfl (by decide) (E.get 1 rfl)) (run_move rfl (E.get 43 rfl)) fun a E => ?_
          refine eg (v := .bool (decide (q < (nextA l0 m)))) E (w_yes (g := 3) (s := 83) E rfl rfl (by decide) (E.get 2 rfl)) (run_ilss (E.get 1 rfl) (E.get 0 rfl) Tryz.underlying3 rfl) fun a E => ?_
          refine ep (v := .bool (decide (q < (nextA l0 m)))) E (run_pick_t rfl (E.get 3 rfl) (E.get 0 rfl)) fun a E => ?_
          refine ep (v := .bool (decide (q < (nextA l0 m)))) E (run_move rfl (E.get 0 rfl)) fun a E => ?_
          cases hq158 : (decide (q < (nextA l0 m))) with
          | false =>
           rw [hq158] at E
           refine env_skip (d := 89) (g := 8) (s := 88) E rfl (by decide) rfl rfl rfl (by decide) (E.get 0 rfl) fun a E => ?_
           refine env_skip (d := 90) (g := 8) (s := 88) E rfl (by decide) rfl rfl rfl (by decide) (E.get 1 rfl) fun a E => ?_
           refine env_skip (d := 91) (g := 8) (s := 88) E rfl (by decide) rfl rfl rfl (by decide) (E.get 2 rfl) fun a E => ?_
           refine ep (v := .bool false) E (run_pick_f rfl (E.get 3 rfl) rfl) fun a E => ?_
           refine wpList_nil ?_
           refine then_n ?_
           refine wp_cond_false (E.get 0 rfl) ?_
           refine wp_skip ?_
           refine then_n ?_
           refine wp_seq ?_
           cases hq159 : (decide (1000000000 < (m + 10080))) with
           | false =>
            refine wp_region_lit ?_
            refine ep (v := .slice (p0) l0.length c0) E (run_move rfl (E.get 65 rfl)) fun a E => ?_
            refine ep (v := .int .i64 m) E (run_move rfl (E.get 67 rfl)) fun a E => ?_
            refine ep (v := .int .i64 (m + 10080)) E (run_iadd Tryz.underlying3 (E.get 0 rfl) rfl (by omega) (by omega) rfl) fun a E => ?_
            refine env_call (d := 97) (v := .tuple #[.int .i64 ((nextA l0 m) + 10080), .bool true]) E rfl (by decide) rfl (wanted_none rfl _) (run_call2 (enters_of Tryz.func21 (by kernel_rfl) rfl) rfl rfl (E.get 2 rfl) (E.get 0 rfl)) (by have h := next_calls h0 (by omega) (m + 10080); rw [nextP_is hq0 (by unfold minuteB; simp only [Bool.and_eq_true, decide_eq_true_eq]; have := of_decide_eq_false hq159; omega) hnE, next_per] at h; exact h) fun a w1 f1 E => ?_
            have hT := Tb.fr hT f1 (fun r hr => id)
            have h0 := Src.fr h0 f1
            have hu1 := Src.fr hu1 f1
            have hf := hf.trans' f1 (fun _ _ h => h.elim)
            clear f1
            refine ep (v := .tuple #[.int .i64 ((nextA l0 m) + 10080), .bool true]) E (run_move rfl (E.get 0 rfl)) fun a E => ?_
            refine ep (v := .int .i64 ((nextA l0 m) + 10080)) E (run_ext0 rfl (E.get 0 rfl)) fun a E => ?_
            refine ep (v := .bool true) E (run_ext1 rfl (E.get 1 rfl)) fun a E => ?_
            refine ep (v := .int .i64 ((nextA l0 m) + 10080)) E (run_assign rfl (E.get 1 rfl)) fun a E => ?_
            refine ep (v := .bool true) E (run_assign rfl (E.get 1 rfl)) fun a E => ?_
            refine wpList_nil ?_
            refine then_n ?_
            refine wp_seq ?_
            refine wp_region_lit ?_
            refine ep (v := .bool true) E (run_move rfl (E.get 71 rfl)) fun a E => ?_
            refine ep (v := .bool true) E (run_move rfl (E.get 0 rfl)) fun a E => ?_
            refine eg (v := .bool true) E (w_yes (g := 1) (s := 101) E rfl rfl (by decide) (E.get 0 rfl)) (run_move rfl (E.get 2 rfl)) fun a E => ?_
            refine eg (v := .bool true) E (w_yes (g := 1) (s := 101) E rfl rfl (by decide) (E.get 1 rfl)) (run_move rfl (E.get 0 rfl)) fun a E => ?_
            refine eg (v := .int .i64 ((nextA l0 m) + 10080)) E (w_yes (g := 3) (s := 103) E rfl rfl (by decide) (E.get 0 rfl)) (run_move rfl (E.get 5 rfl)) fun a E => ?_
            refine eg (v := .int .i64 (nextA l0 m)) E (w_yes (g := 3) (s := 103) E rfl rfl (by decide) (E.get 1 rfl)) (run_move rfl (E.get 65 rfl)) fun a E => ?_
            refine eg (v := .int .i64 ((nextA l0 m) + 10080)) E (w_yes (g := 3) (s := 103) E rfl rfl (by decide) (E.get 2 rfl)) (run_iadd Tryz.underlying3 (E.get 0 rfl) rfl (by omega) (by omega) rfl) fun a E => ?_
            refine eg (v := .bool true) E (w_yes (g := 3) (s := 103) E rfl rfl (by decide) (E.get 3 rfl)) ((run_ieql (E.get 2 rfl) (E.get 0 rfl) Tryz.underlying3 rfl).trans (by rw [beq_self_eq_true])) fun a E => ?_
            refine eg (v := .bool true) E (w_yes (g := 1) (s := 101) E rfl rfl (by decide) (E.get 6 rfl)) (run_pick_t rfl (E.get 4 rfl) (E.get 0 rfl)) fun a E => ?_
            refine eg (v := .bool true) E (w_yes (g := 1) (s := 101) E rfl rfl (by decide) (E.get 7 rfl)) (run_move rfl (E.get 0 rfl)) fun a E => ?_
            refine env_skip (d := 110) (g := 9) (s := 109) E rfl (by decide) rfl rfl rfl (by decide) (E.get 0 rfl) fun a E => ?_
            refine env_skip (d := 111) (g := 9) (s := 109) E rfl (by decide) rfl rfl rfl (by decide) (E.get 1 rfl) fun a E => ?_
            refine env_skip (d := 112) (g := 9) (s := 109) E rfl (by decide) rfl rfl rfl (by decide) (E.get 2 rfl) fun a E => ?_
            refine env_skip (d := 113) (g := 9) (s := 109) E rfl (by decide) rfl rfl rfl (by decide) (E.get 3 rfl) fun a E => ?_
            refine env_skipu (d := 114) (g := 13) (s := 113) E rfl (by decide) rfl rfl rfl (by decide) (E.get 0 rfl) fun a E => ?_
            refine env_skipu (d := 115) (g := 13) (s := 113) E rfl (by decide) rfl rfl rfl (by decide) (E.get 1 rfl) fun a E => ?_
            refine env_skip (d := 116) (g := 9) (s := 109) E rfl (by decide) rfl rfl rfl (by decide) (E.get 6 rfl) fun a E => ?_
            refine eg (v := .bool true) E (w_yes (g := 1) (s := 101) E rfl rfl (by decide) (E.get 15 rfl)) (run_pick_t rfl (E.get 7 rfl) rfl) fun a E => ?_
            refine ep (v := .bool true) E (run_pick_t rfl (E.get 16 rfl) (E.get 0 rfl)) fun a E => ?_
            refine env_set (d := 6) (v := .bool true) E rfl (by decide) (wanted_none rfl _) (run_assign rfl (E.get 0 rfl)) fun a E => ?_
            refine wpList_nil ?_
            refine then_n ?_
            refine wp_ret ?_
            exact ret_tmp (t := 6) rfl E (E.get 0 rfl) ⟨rfl, hf⟩
           | true =>
            refine wp_region_lit ?_
            refine ep (v := .slice (p0) l0.length c0) E (run_move rfl (E.get 65 rfl)) fun a E => ?_
            refine ep (v := .int .i64 m) E (run_move rfl (E.get 67 rfl)) fun a E => ?_
            refine ep (v := .int .i64 (m + 10080)) E (run_iadd Tryz.underlying3 (E.get 0 rfl) rfl (by omega) (by omega) rfl) fun a E => ?_
            refine env_call (d := 97) (v := .tuple #[.int .i64 0, .bool false]) E rfl (by decide) rfl (wanted_none rfl _) (run_call2 (enters_of Tryz.func21 (by kernel_rfl) rfl) rfl rfl (E.get 2 rfl) (E.get 0 rfl)) (by have h := next_calls h0 (by omega) (m + 10080); rw [nextP_no2 (by unfold minuteB; rw [Bool.eq_false_iff]; simp only [ne_eq, Bool.and_eq_true, decide_eq_true_eq]; have := of_decide_eq_true hq159; omega)] at h; exact h) fun a w1 f1 E => ?_
            have hT := Tb.fr hT f1 (fun r hr => id)
            have h0 := Src.fr h0 f1
            have hu1 := Src.fr hu1 f1
            have hf := hf.trans' f1 (fun _ _ h => h.elim)
            clear f1
            refine ep (v := .tuple #[.int .i64 0, .bool false]) E (run_move rfl (E.get 0 rfl)) fun a E => ?_
            refine ep (v := .int .i64 0) E (run_ext0 rfl (E.get 0 rfl)) fun a E => ?_
            refine ep (v := .bool false) E (run_ext1 rfl (E.get 1 rfl)) fun a E => ?_
            refine ep (v := .int .i64 0) E (run_assign rfl (E.get 1 rfl)) fun a E => ?_
            refine ep (v := .bool false) E (run_assign rfl (E.get 1 rfl)) fun a E => ?_
            refine wpList_nil ?_
            refine then_n ?_
            refine wp_seq ?_
            refine wp_region_lit ?_
            refine ep (v := .bool true) E (run_move rfl (E.get 71 rfl)) fun a E => ?_
            refine ep (v := .bool true) E (run_move rfl (E.get 0 rfl)) fun a E => ?_
            refine eg (v := .bool false) E (w_yes (g := 1) (s := 101) E rfl rfl (by decide) (E.get 0 rfl)) (run_move rfl (E.get 2 rfl)) fun a E => ?_
            refine eg (v := .bool false) E (w_yes (g := 1) (s := 101) E rfl rfl (by decide) (E.get 1 rfl)) (run_move rfl (E.get 0 rfl)) fun a E => ?_
            refine env_skip (d := 104) (g := 3) (s := 103) E rfl (by decide) rfl rfl rfl (by decide) (E.get 0 rfl) fun a E => ?_
            refine env_skip (d := 105) (g := 3) (s := 103) E rfl (by decide) rfl rfl rfl (by decide) (E.get 1 rfl) fun a E => ?_
            refine env_skip (d := 106) (g := 3) (s := 103) E rfl (by decide) rfl rfl rfl (by decide) (E.get 2 rfl) fun a E => ?_
            refine env_skip (d := 107) (g := 3) (s := 103) E rfl (by decide) rfl rfl rfl (by decide) (E.get 3 rfl) fun a E => ?_
            refine eg (v := .bool false) E (w_yes (g := 1) (s := 101) E rfl rfl (by decide) (E.get 6 rfl)) (run_pick_f rfl (E.get 4 rfl) rfl) fun a E => ?_
            refine eg (v := .bool false) E (w_yes (g := 1) (s := 101) E rfl rfl (by decide) (E.get 7 rfl)) (run_move rfl (E.get 0 rfl)) fun a E => ?_
            refine eg (v := .int .i64 m) E (w_yes (g := 9) (s := 109) E rfl rfl (by decide) (E.get 0 rfl)) (run_move rfl (E.get 85 rfl)) fun a E => ?_
            refine eg (v := .int .i64 (m + 10080)) E (w_yes (g := 9) (s := 109) E rfl rfl (by decide) (E.get 1 rfl)) (run_iadd Tryz.underlying3 (E.get 0 rfl) rfl (by omega) (by omega) rfl) fun a E => ?_
            refine eg (v := .bool true) E (w_yes (g := 9) (s := 109) E rfl rfl (by decide) (E.get 2 rfl)) ((run_igtr (E.get 0 rfl) rfl Tryz.underlying3 rfl).trans (by rw [hq159] <;> rfl)) fun a E => ?_
            refine eg (v := .bool true) E (w_yes (g := 9) (s := 109) E rfl rfl (by decide) (E.get 3 rfl)) (run_move rfl (E.get 0 rfl)) fun a E => ?_
            refine eg (v := .bool false) E (w_yes (g := 13) (s := 113) E rfl rfl (by decide) (E.get 0 rfl)) (run_move rfl (E.get 14 rfl)) fun a E => ?_
            refine eg (v := .bool true) E (w_yes (g := 13) (s := 113) E rfl rfl (by decide) (E.get 1 rfl)) (run_not rfl (E.get 0 rfl)) fun a E => ?_
            refine eg (v := .bool true) E (w_yes (g := 9) (s := 109) E rfl rfl (by decide) (E.get 6 rfl)) (run_pick_t rfl (E.get 2 rfl) (E.get 0 rfl)) fun a E => ?_
            refine eg (v := .bool true) E (w_yes (g := 1) (s := 101) E rfl rfl (by decide) (E.get 15 rfl)) (run_pick_f rfl (E.get 7 rfl) (E.get 0 rfl)) fun a E => ?_
            refine ep (v := .bool true) E (run_pick_t rfl (E.get 16 rfl) (E.get 0 rfl)) fun a E => ?_
            refine env_set (d := 6) (v := .bool true) E rfl (by decide) (wanted_none rfl _) (run_assign rfl (E.get 0 rfl)) fun a E => ?_
            refine wpList_nil ?_
            refine then_n ?_
            refine wp_ret ?_
            exact ret_tmp (t := 6) rfl E (E.get 0 rfl) ⟨rfl, hf⟩
          | true =>
           rw [hq158] at E
           have hx2 := of_decide_eq_true hq158
           refine eg (v := .slice (p0) l0.length c0) E (w_yes (g := 8) (s := 88) E rfl rfl (by decide) (E.get 0 rfl)) (run_move rfl (E.get 61 rfl)) fun a E => ?_
           refine eg (v := .int .i64 q) E (w_yes (g := 8) (s := 88) E rfl rfl (by decide) (E.get 1 rfl)) (run_move rfl (E.get 64 rfl)) fun a E => ?_
           refine env_call (d := 91) (v := .bool false) E rfl (by decide) rfl (w_yes (g := 8) (s := 88) E rfl rfl (by decide) (E.get 2 rfl)) (run_call2 (enters_of Tryz.func22 (by kernel_rfl) rfl) rfl rfl (E.get 1 rfl) (E.get 0 rfl)) (by have h := open_calls h0 (by omega) q; rw [open_before hq0 hm0 hne hx1 hx2] at h; exact h) fun a w1 f1 E => ?_
           have hT := Tb.fr hT f1 (fun r hr => id)
           have h0 := Src.fr h0 f1
           have hu1 := Src.fr hu1 f1
           have hf := hf.trans' f1 (fun _ _ h => h.elim)
           clear f1
           refine ep (v := .bool false) E (run_pick_t rfl (E.get 3 rfl) (E.get 0 rfl)) fun a E => ?_
           refine wpList_nil ?_
           refine then_n ?_
           refine wp_cond_false (E.get 0 rfl) ?_
           refine wp_skip ?_
           refine then_n ?_
           refine wp_seq ?_
           cases hq160 : (decide (1000000000 < (m + 10080))) with
           | false =>
            refine wp_region_lit ?_
            refine ep (v := .slice (p0) l0.length c0) E (run_move rfl (E.get 65 rfl)) fun a E => ?_
            refine ep (v := .int .i64 m) E (run_move rfl (E.get 67 rfl)) fun a E => ?_
            refine ep (v := .int .i64 (m + 10080)) E (run_iadd Tryz.underlying3 (E.get 0 rfl) rfl (by omega) (by omega) rfl) fun a E => ?_
            refine env_call (d := 97) (v := .tuple #[.int .i64 ((nextA l0 m) + 10080), .bool true]) E rfl (by decide) rfl (wanted_none rfl _) (run_call2 (enters_of Tryz.func21 (by kernel_rfl) rfl) rfl rfl (E.get 2 rfl) (E.get 0 rfl)) (by have h := next_calls h0 (by omega) (m + 10080); rw [nextP_is hq0 (by unfold minuteB; simp only [Bool.and_eq_true, decide_eq_true_eq]; have := of_decide_eq_false hq160; omega) hnE, next_per] at h; exact h) fun a w1 f1 E => ?_
            have hT := Tb.fr hT f1 (fun r hr => id)
            have h0 := Src.fr h0 f1
            have hu1 := Src.fr hu1 f1
            have hf := hf.trans' f1 (fun _ _ h => h.elim)
            clear f1
            refine ep (v := .tuple #[.int .i64 ((nextA l0 m) + 10080), .bool true]) E (run_move rfl (E.get 0 rfl)) fun a E => ?_
            refine ep (v := .int .i64 ((nextA l0 m) + 10080)) E (run_ext0 rfl (E.get 0 rfl)) fun a E => ?_
            refine ep (v := .bool true) E (run_ext1 rfl (E.get 1 rfl)) fun a E => ?_
            refine ep (v := .int .i64 ((nextA l0 m) + 10080)) E (run_assign rfl (E.get 1 rfl)) fun a E => ?_
            refine ep (v := .bool true) E (run_assign rfl (E.get 1 rfl)) fun a E => ?_
            refine wpList_nil ?_
            refine then_n ?_
            refine wp_seq ?_
            refine wp_region_lit ?_
            refine ep (v := .bool true) E (run_move rfl (E.get 71 rfl)) fun a E => ?_
            refine ep (v := .bool true) E (run_move rfl (E.get 0 rfl)) fun a E => ?_
            refine eg (v := .bool true) E (w_yes (g := 1) (s := 101) E rfl rfl (by decide) (E.get 0 rfl)) (run_move rfl (E.get 2 rfl)) fun a E => ?_
            refine eg (v := .bool true) E (w_yes (g := 1) (s := 101) E rfl rfl (by decide) (E.get 1 rfl)) (run_move rfl (E.get 0 rfl)) fun a E => ?_
            refine eg (v := .int .i64 ((nextA l0 m) + 10080)) E (w_yes (g := 3) (s := 103) E rfl rfl (by decide) (E.get 0 rfl)) (run_move rfl (E.get 5 rfl)) fun a E => ?_
            refine eg (v := .int .i64 (nextA l0 m)) E (w_yes (g := 3) (s := 103) E rfl rfl (by decide) (E.get 1 rfl)) (run_move rfl (E.get 65 rfl)) fun a E => ?_
            refine eg (v := .int .i64 ((nextA l0 m) + 10080)) E (w_yes (g := 3) (s := 103) E rfl rfl (by decide) (E.get 2 rfl)) (run_iadd Tryz.underlying3 (E.get 0 rfl) rfl (by omega) (by omega) rfl) fun a E => ?_
            refine eg (v := .bool true) E (w_yes (g := 3) (s := 103) E rfl rfl (by decide) (E.get 3 rfl)) ((run_ieql (E.get 2 rfl) (E.get 0 rfl) Tryz.underlying3 rfl).trans (by rw [beq_self_eq_true])) fun a E => ?_
            refine eg (v := .bool true) E (w_yes (g := 1) (s := 101) E rfl rfl (by decide) (E.get 6 rfl)) (run_pick_t rfl (E.get 4 rfl) (E.get 0 rfl)) fun a E => ?_
            refine eg (v := .bool true) E (w_yes (g := 1) (s := 101) E rfl rfl (by decide) (E.get 7 rfl)) (run_move rfl (E.get 0 rfl)) fun a E => ?_
            refine env_skip (d := 110) (g := 9) (s := 109) E rfl (by decide) rfl rfl rfl (by decide) (E.get 0 rfl) fun a E => ?_
            refine env_skip (d := 111) (g := 9) (s := 109) E rfl (by decide) rfl rfl rfl (by decide) (E.get 1 rfl) fun a E => ?_
            refine env_skip (d := 112) (g := 9) (s := 109) E rfl (by decide) rfl rfl rfl (by decide) (E.get 2 rfl) fun a E => ?_
            refine env_skip (d := 113) (g := 9) (s := 109) E rfl (by decide) rfl rfl rfl (by decide) (E.get 3 rfl) fun a E => ?_
            refine env_skipu (d := 114) (g := 13) (s := 113) E rfl (by decide) rfl rfl rfl (by decide) (E.get 0 rfl) fun a E => ?_
            refine env_skipu (d := 115) (g := 13) (s := 113) E rfl (by decide) rfl rfl rfl (by decide) (E.get 1 rfl) fun a E => ?_
            refine env_skip (d := 116) (g := 9) (s := 109) E rfl (by decide) rfl rfl rfl (by decide) (E.get 6 rfl) fun a E => ?_
            refine eg (v := .bool true) E (w_yes (g := 1) (s := 101) E rfl rfl (by decide) (E.get 15 rfl)) (run_pick_t rfl (E.get 7 rfl) rfl) fun a E => ?_
            refine ep (v := .bool true) E (run_pick_t rfl (E.get 16 rfl) (E.get 0 rfl)) fun a E => ?_
            refine env_set (d := 6) (v := .bool true) E rfl (by decide) (wanted_none rfl _) (run_assign rfl (E.get 0 rfl)) fun a E => ?_
            refine wpList_nil ?_
            refine then_n ?_
            refine wp_ret ?_
            exact ret_tmp (t := 6) rfl E (E.get 0 rfl) ⟨rfl, hf⟩
           | true =>
            refine wp_region_lit ?_
            refine ep (v := .slice (p0) l0.length c0) E (run_move rfl (E.get 65 rfl)) fun a E => ?_
            refine ep (v := .int .i64 m) E (run_move rfl (E.get 67 rfl)) fun a E => ?_
            refine ep (v := .int .i64 (m + 10080)) E (run_iadd Tryz.underlying3 (E.get 0 rfl) rfl (by omega) (by omega) rfl) fun a E => ?_
            refine env_call (d := 97) (v := .tuple #[.int .i64 0, .bool false]) E rfl (by decide) rfl (wanted_none rfl _) (run_call2 (enters_of Tryz.func21 (by kernel_rfl) rfl) rfl rfl (E.get 2 rfl) (E.get 0 rfl)) (by have h := next_calls h0 (by omega) (m + 10080); rw [nextP_no2 (by unfold minuteB; rw [Bool.eq_false_iff]; simp only [ne_eq, Bool.and_eq_true, decide_eq_true_eq]; have := of_decide_eq_true hq160; omega)] at h; exact h) fun a w1 f1 E => ?_
            have hT := Tb.fr hT f1 (fun r hr => id)
            have h0 := Src.fr h0 f1
            have hu1 := Src.fr hu1 f1
            have hf := hf.trans' f1 (fun _ _ h => h.elim)
            clear f1
            refine ep (v := .tuple #[.int .i64 0, .bool false]) E (run_move rfl (E.get 0 rfl)) fun a E => ?_
            refine ep (v := .int .i64 0) E (run_ext0 rfl (E.get 0 rfl)) fun a E => ?_
            refine ep (v := .bool false) E (run_ext1 rfl (E.get 1 rfl)) fun a E => ?_
            refine ep (v := .int .i64 0) E (run_assign rfl (E.get 1 rfl)) fun a E => ?_
            refine ep (v := .bool false) E (run_assign rfl (E.get 1 rfl)) fun a E => ?_
            refine wpList_nil ?_
            refine then_n ?_
            refine wp_seq ?_
            refine wp_region_lit ?_
            refine ep (v := .bool true) E (run_move rfl (E.get 71 rfl)) fun a E => ?_
            refine ep (v := .bool true) E (run_move rfl (E.get 0 rfl)) fun a E => ?_
            refine eg (v := .bool false) E (w_yes (g := 1) (s := 101) E rfl rfl (by decide) (E.get 0 rfl)) (run_move rfl (E.get 2 rfl)) fun a E => ?_
            refine eg (v := .bool false) E (w_yes (g := 1) (s := 101) E rfl rfl (by decide) (E.get 1 rfl)) (run_move rfl (E.get 0 rfl)) fun a E => ?_
            refine env_skip (d := 104) (g := 3) (s := 103) E rfl (by decide) rfl rfl rfl (by decide) (E.get 0 rfl) fun a E => ?_
            refine env_skip (d := 105) (g := 3) (s := 103) E rfl (by decide) rfl rfl rfl (by decide) (E.get 1 rfl) fun a E => ?_
            refine env_skip (d := 106) (g := 3) (s := 103) E rfl (by decide) rfl rfl rfl (by decide) (E.get 2 rfl) fun a E => ?_
            refine env_skip (d := 107) (g := 3) (s := 103) E rfl (by decide) rfl rfl rfl (by decide) (E.get 3 rfl) fun a E => ?_
            refine eg (v := .bool false) E (w_yes (g := 1) (s := 101) E rfl rfl (by decide) (E.get 6 rfl)) (run_pick_f rfl (E.get 4 rfl) rfl) fun a E => ?_
            refine eg (v := .bool false) E (w_yes (g := 1) (s := 101) E rfl rfl (by decide) (E.get 7 rfl)) (run_move rfl (E.get 0 rfl)) fun a E => ?_
            refine eg (v := .int .i64 m) E (w_yes (g := 9) (s := 109) E rfl rfl (by decide) (E.get 0 rfl)) (run_move rfl (E.get 85 rfl)) fun a E => ?_
            refine eg (v := .int .i64 (m + 10080)) E (w_yes (g := 9) (s := 109) E rfl rfl (by decide) (E.get 1 rfl)) (run_iadd Tryz.underlying3 (E.get 0 rfl) rfl (by omega) (by omega) rfl) fun a E => ?_
            refine eg (v := .bool true) E (w_yes (g := 9) (s := 109) E rfl rfl (by decide) (E.get 2 rfl)) ((run_igtr (E.get 0 rfl) rfl Tryz.underlying3 rfl).trans (by rw [hq160] <;> rfl)) fun a E => ?_
            refine eg (v := .bool true) E (w_yes (g := 9) (s := 109) E rfl rfl (by decide) (E.get 3 rfl)) (run_move rfl (E.get 0 rfl)) fun a E => ?_
            refine eg (v := .bool false) E (w_yes (g := 13) (s := 113) E rfl rfl (by decide) (E.get 0 rfl)) (run_move rfl (E.get 14 rfl)) fun a E => ?_
            refine eg (v := .bool true) E (w_yes (g := 13) (s := 113) E rfl rfl (by decide) (E.get 1 rfl)) (run_not rfl (E.get 0 rfl)) fun a E => ?_
            refine eg (v := .bool true) E (w_yes (g := 9) (s := 109) E rfl rfl (by decide) (E.get 6 rfl)) (run_pick_t rfl (E.get 2 rfl) (E.get 0 rfl)) fun a E => ?_
            refine eg (v := .bool true) E (w_yes (g := 1) (s := 101) E rfl rfl (by decide) (E.get 15 rfl)) (run_pick_f rfl (E.get 7 rfl) (E.get 0 rfl)) fun a E => ?_
            refine ep (v := .bool true) E (run_pick_t rfl (E.get 16 rfl) (E.get 0 rfl)) fun a E => ?_
            refine env_set (d := 6) (v := .bool true) E rfl (by decide) (wanted_none rfl _) (run_assign rfl (E.get 0 rfl)) fun a E => ?_
            refine wpList_nil ?_
            refine then_n ?_
            refine wp_ret ?_
            exact ret_tmp (t := 6) rfl E (E.get 0 rfl) ⟨rfl, hf⟩
        | true =>
         rw [hq155] at E
         have hat9 := of_decide_eq_true hq155
         refine eg (v := .slice (p0) l0.length c0) E (w_yes (g := 21) (s := 73) E rfl rfl (by decide) (E.get 0 rfl)) (run_move rfl (E.get 46 rfl)) fun a E => ?_
         refine eg (v := .int .i64 (nextA l0 m)) E (w_yes (g := 21) (s := 73) E rfl rfl (by decide) (E.get 1 rfl)) (run_move rfl (E.get 33 rfl)) fun a E => ?_
         refine env_call (d := 76) (v := .bool true) E rfl (by decide) rfl (w_yes (g := 21) (s := 73) E rfl rfl (by decide) (E.get 2 rfl)) (run_call2 (enters_of Tryz.func22 (by kernel_rfl) rfl) rfl rfl (E.get 1 rfl) (E.get 0 rfl)) (by have h := open_calls h0 (by omega) (nextA l0 m); rw [open_next hq0 hm0 hne hat9] at h; exact h) fun a w1 f1 E => ?_
         have hT := Tb.fr hT f1 (fun r hr => id)
         have h0 := Src.fr h0 f1
         have hu1 := Src.fr hu1 f1
         have hf := hf.trans' f1 (fun _ _ h => h.elim)
         clear f1
         refine eg (v := .bool false) E (w_yes (g := 21) (s := 73) E rfl rfl (by decide) (E.get 3 rfl)) (run_not rfl (E.get 0 rfl)) fun a E => ?_
         refine eg (v := .bool false) E (w_yes (g := 18) (s := 70) E rfl rfl (by decide) (E.get 7 rfl)) (run_pick_t rfl (E.get 4 rfl) (E.get 0 rfl)) fun a E => ?_
         refine ep (v := .bool false) E (run_pick_f rfl (E.get 8 rfl) (E.get 0 rfl)) fun a E => ?_
         refine wpList_nil ?_
         refine then_n ?_
         refine wp_cond_false (E.get 0 rfl) ?_
         refine wp_skip ?_
         refine then_n ?_
         refine wp_seq ?_
         refine wp_seq ?_
         refine wp_region_lit ?_
         refine ep (v := .int .i64 q) E (run_move rfl (E.get 54 rfl)) fun a E => ?_
         refine ep (v := .int .i64 m) E (run_move rfl (E.get 54 rfl)) fun a E => ?_
         refine ep (v := .bool (decide (m ≤ q))) E (run_igeq (E.get 1 rfl) (E.get 0 rfl) Tryz.underlying3 rfl) fun a E => ?_
         refine ep (v := .bool (decide (m ≤ q))) E (run_move rfl (E.get 0 rfl)) fun a E => ?_
         cases hq161 : (decide (m ≤ q)) with
         | false =>
          rw [hq161] at E
          refine env_skip (d := 84) (g := 3) (s := 83) E rfl (by decide) rfl rfl rfl (by decide) (E.get 0 rfl) fun a E => ?_
          refine env_skip (d := 85) (g := 3) (s := 83) E rfl (by decide) rfl rfl rfl (by decide) (E.get 1 rfl) fun a E => ?_
          refine env_skip (d := 86) (g := 3) (s := 83) E rfl (by decide) rfl rfl rfl (by decide) (E.get 2 rfl) fun a E => ?_
          refine ep (v := .bool false) E (run_pick_f rfl (E.get 3 rfl) rfl) fun a E => ?_
          refine ep (v := .bool false) E (run_move rfl (E.get 0 rfl)) fun a E => ?_
          refine env_skip (d := 89) (g := 8) (s := 88) E rfl (by decide) rfl rfl rfl (by decide) (E.get 0 rfl) fun a E => ?_
          refine env_skip (d := 90) (g := 8) (s := 88) E rfl (by decide) rfl rfl rfl (by decide) (E.get 1 rfl) fun a E => ?_
          refine env_skip (d := 91) (g := 8) (s := 88) E rfl (by decide) rfl rfl rfl (by decide) (E.get 2 rfl) fun a E => ?_
          refine ep (v := .bool false) E (run_pick_f rfl (E.get 3 rfl) rfl) fun a E => ?_
          refine wpList_nil ?_
          refine then_n ?_
          refine wp_cond_false (E.get 0 rfl) ?_
          refine wp_skip ?_
          refine then_n ?_
          refine wp_seq ?_
          cases hq162 : (decide (1000000000 < (m + 10080))) with
          | false =>
           refine wp_region_lit ?_
           refine ep (v := .slice (p0) l0.length c0) E (run_move rfl (E.get 65 rfl)) fun a E => ?_
           refine ep (v := .int .i64 m) E (run_move rfl (E.get 67 rfl)) fun a E => ?_
           refine ep (v := .int .i64 (m + 10080)) E (run_iadd Tryz.underlying3 (E.get 0 rfl) rfl (by omega) (by omega) rfl) fun a E => ?_
           refine env_call (d := 97) (v := .tuple #[.int .i64 ((nextA l0 m) + 10080), .bool true]) E rfl (by decide) rfl (wanted_none rfl _) (run_call2 (enters_of Tryz.func21 (by kernel_rfl) rfl) rfl rfl (E.get 2 rfl) (E.get 0 rfl)) (by have h := next_calls h0 (by omega) (m + 10080); rw [nextP_is hq0 (by unfold minuteB; simp only [Bool.and_eq_true, decide_eq_true_eq]; have := of_decide_eq_false hq162; omega) hnE, next_per] at h; exact h) fun a w1 f1 E => ?_
           have hT := Tb.fr hT f1 (fun r hr => id)
           have h0 := Src.fr h0 f1
           have hu1 := Src.fr hu1 f1
           have hf := hf.trans' f1 (fun _ _ h => h.elim)
           clear f1
           refine ep (v := .tuple #[.int .i64 ((nextA l0 m) + 10080), .bool true]) E (run_move rfl (E.get 0 rfl)) fun a E => ?_
           refine ep (v := .int .i64 ((nextA l0 m) + 10080)) E (run_ext0 rfl (E.get 0 rfl)) fun a E => ?_
           refine ep (v := .bool true) E (run_ext1 rfl (E.get 1 rfl)) fun a E => ?_
           refine ep (v := .int .i64 ((nextA l0 m) + 10080)) E (run_assign rfl (E.get 1 rfl)) fun a E => ?_
           refine ep (v := .bool true) E (run_assign rfl (E.get 1 rfl)) fun a E => ?_
           refine wpList_nil ?_
           refine then_n ?_
           refine wp_seq ?_
           refine wp_region_lit ?_
           refine ep (v := .bool true) E (run_move rfl (E.get 71 rfl)) fun a E => ?_
           refine ep (v := .bool true) E (run_move rfl (E.get 0 rfl)) fun a E => ?_
           refine eg (v := .bool true) E (w_yes (g := 1) (s := 101) E rfl rfl (by decide) (E.get 0 rfl)) (run_move rfl (E.get 2 rfl)) fun a E => ?_
           refine eg (v := .bool true) E (w_yes (g := 1) (s := 101) E rfl rfl (by decide) (E.get 1 rfl)) (run_move rfl (E.get 0 rfl)) fun a E => ?_
           refine eg (v := .int .i64 ((nextA l0 m) + 10080)) E (w_yes (g := 3) (s := 103) E rfl rfl (by decide) (E.get 0 rfl)) (run_move rfl (E.get 5 rfl)) fun a E => ?_
           refine eg (v := .int .i64 (nextA l0 m)) E (w_yes (g := 3) (s := 103) E rfl rfl (by decide) (E.get 1 rfl)) (run_move rfl (E.get 65 rfl)) fun a E => ?_
           refine eg (v := .int .i64 ((nextA l0 m) + 10080)) E (w_yes (g := 3) (s := 103) E rfl rfl (by decide) (E.get 2 rfl)) (run_iadd Tryz.underlying3 (E.get 0 rfl) rfl (by omega) (by omega) rfl) fun a E => ?_
           refine eg (v := .bool true) E (w_yes (g := 3) (s := 103) E rfl rfl (by decide) (E.get 3 rfl)) ((run_ieql (E.get 2 rfl) (E.get 0 rfl) Tryz.underlying3 rfl).trans (by rw [beq_self_eq_true])) fun a E => ?_
           refine eg (v := .bool true) E (w_yes (g := 1) (s := 101) E rfl rfl (by decide) (E.get 6 rfl)) (run_pick_t rfl (E.get 4 rfl) (E.get 0 rfl)) fun a E => ?_
           refine eg (v := .bool true) E (w_yes (g := 1) (s := 101) E rfl rfl (by decide) (E.get 7 rfl)) (run_move rfl (E.get 0 rfl)) fun a E => ?_
           refine env_skip (d := 110) (g := 9) (s := 109) E rfl (by decide) rfl rfl rfl (by decide) (E.get 0 rfl) fun a E => ?_
           refine env_skip (d := 111) (g := 9) (s := 109) E rfl (by decide) rfl rfl rfl (by decide) (E.get 1 rfl) fun a E => ?_
           refine env_skip (d := 112) (g := 9) (s := 109) E rfl (by decide) rfl rfl rfl (by decide) (E.get 2 rfl) fun a E => ?_
           refine env_skip (d := 113) (g := 9) (s := 109) E rfl (by decide) rfl rfl rfl (by decide) (E.get 3 rfl) fun a E => ?_
           refine env_skipu (d := 114) (g := 13) (s := 113) E rfl (by decide) rfl rfl rfl (by decide) (E.get 0 rfl) fun a E => ?_
           refine env_skipu (d := 115) (g := 13) (s := 113) E rfl (by decide) rfl rfl rfl (by decide) (E.get 1 rfl) fun a E => ?_
           refine env_skip (d := 116) (g := 9) (s := 109) E rfl (by decide) rfl rfl rfl (by decide) (E.get 6 rfl) fun a E => ?_
           refine eg (v := .bool true) E (w_yes (g := 1) (s := 101) E rfl rfl (by decide) (E.get 15 rfl)) (run_pick_t rfl (E.get 7 rfl) rfl) fun a E => ?_
           refine ep (v := .bool true) E (run_pick_t rfl (E.get 16 rfl) (E.get 0 rfl)) fun a E => ?_
           refine env_set (d := 6) (v := .bool true) E rfl (by decide) (wanted_none rfl _) (run_assign rfl (E.get 0 rfl)) fun a E => ?_
           refine wpList_nil ?_
           refine then_n ?_
           refine wp_ret ?_
           exact ret_tmp (t := 6) rfl E (E.get 0 rfl) ⟨rfl, hf⟩
          | true =>
           refine wp_region_lit ?_
           refine ep (v := .slice (p0) l0.length c0) E (run_move rfl (E.get 65 rfl)) fun a E => ?_
           refine ep (v := .int .i64 m) E (run_move rfl (E.get 67 rfl)) fun a E => ?_
           refine ep (v := .int .i64 (m + 10080)) E (run_iadd Tryz.underlying3 (E.get 0 rfl) rfl (by omega) (by omega) rfl) fun a E => ?_
           refine env_call (d := 97) (v := .tuple #[.int .i64 0, .bool false]) E rfl (by decide) rfl (wanted_none rfl _) (run_call2 (enters_of Tryz.func21 (by kernel_rfl) rfl) rfl rfl (E.get 2 rfl) (E.get 0 rfl)) (by have h := next_calls h0 (by omega) (m + 10080); rw [nextP_no2 (by unfold minuteB; rw [Bool.eq_false_iff]; simp only [ne_eq, Bool.and_eq_true, decide_eq_true_eq]; have := of_decide_eq_true hq162; omega)] at h; exact h) fun a w1 f1 E => ?_
           have hT := Tb.fr hT f1 (fun r hr => id)
           have h0 := Src.fr h0 f1
           have hu1 := Src.fr hu1 f1
           have hf := hf.trans' f1 (fun _ _ h => h.elim)
           clear f1
           refine ep (v := .tuple #[.int .i64 0, .bool false]) E (run_move rfl (E.get 0 rfl)) fun a E => ?_
           refine ep (v := .int .i64 0) E (run_ext0 rfl (E.get 0 rfl)) fun a E => ?_
           refine ep (v := .bool false) E (run_ext1 rfl (E.get 1 rfl)) fun a E => ?_
           refine ep (v := .int .i64 0) E (run_assign rfl (E.get 1 rfl)) fun a E => ?_
           refine ep (v := .bool false) E (run_assign rfl (E.get 1 rfl)) fun a E => ?_
           refine wpList_nil ?_
           refine then_n ?_
           refine wp_seq ?_
           refine wp_region_lit ?_
           refine ep (v := .bool true) E (run_move rfl (E.get 71 rfl)) fun a E => ?_
           refine ep (v := .bool true) E (run_move rfl (E.get 0 rfl)) fun a E => ?_
           refine eg (v := .bool false) E (w_yes (g := 1) (s := 101) E rfl rfl (by decide) (E.get 0 rfl)) (run_move rfl (E.get 2 rfl)) fun a E => ?_
           refine eg (v := .bool false) E (w_yes (g := 1) (s := 101) E rfl rfl (by decide) (E.get 1 rfl)) (run_move rfl (E.get 0 rfl)) fun a E => ?_
           refine env_skip (d := 104) (g := 3) (s := 103) E rfl (by decide) rfl rfl rfl (by decide) (E.get 0 rfl) fun a E => ?_
           refine env_skip (d := 105) (g := 3) (s := 103) E rfl (by decide) rfl rfl rfl (by decide) (E.get 1 rfl) fun a E => ?_
           refine env_skip (d := 106) (g := 3) (s := 103) E rfl (by decide) rfl rfl rfl (by decide) (E.get 2 rfl) fun a E => ?_
           refine env_skip (d := 107) (g := 3) (s := 103) E rfl (by decide) rfl rfl rfl (by decide) (E.get 3 rfl) fun a E => ?_
           refine eg (v := .bool false) E (w_yes (g := 1) (s := 101) E rfl rfl (by decide) (E.get 6 rfl)) (run_pick_f rfl (E.get 4 rfl) rfl) fun a E => ?_
           refine eg (v := .bool false) E (w_yes (g := 1) (s := 101) E rfl rfl (by decide) (E.get 7 rfl)) (run_move rfl (E.get 0 rfl)) fun a E => ?_
           refine eg (v := .int .i64 m) E (w_yes (g := 9) (s := 109) E rfl rfl (by decide) (E.get 0 rfl)) (run_move rfl (E.get 85 rfl)) fun a E => ?_
           refine eg (v := .int .i64 (m + 10080)) E (w_yes (g := 9) (s := 109) E rfl rfl (by decide) (E.get 1 rfl)) (run_iadd Tryz.underlying3 (E.get 0 rfl) rfl (by omega) (by omega) rfl) fun a E => ?_
           refine eg (v := .bool true) E (w_yes (g := 9) (s := 109) E rfl rfl (by decide) (E.get 2 rfl)) ((run_igtr (E.get 0 rfl) rfl Tryz.underlying3 rfl).trans (by rw [hq162] <;> rfl)) fun a E => ?_
           refine eg (v := .bool true) E (w_yes (g := 9) (s := 109) E rfl rfl (by decide) (E.get 3 rfl)) (run_move rfl (E.get 0 rfl)) fun a E => ?_
           refine eg (v := .bool false) E (w_yes (g := 13) (s := 113) E rfl rfl (by decide) (E.get 0 rfl)) (run_move rfl (E.get 14 rfl)) fun a E => ?_
           refine eg (v := .bool true) E (w_yes (g := 13) (s := 113) E rfl rfl (by decide) (E.get 1 rfl)) (run_not rfl (E.get 0 rfl)) fun a E => ?_
           refine eg (v := .bool true) E (w_yes (g := 9) (s := 109) E rfl rfl (by decide) (E.get 6 rfl)) (run_pick_t rfl (E.get 2 rfl) (E.get 0 rfl)) fun a E => ?_
           refine eg (v := .bool true) E (w_yes (g := 1) (s := 101) E rfl rfl (by decide) (E.get 15 rfl)) (run_pick_f rfl (E.get 7 rfl) (E.get 0 rfl)) fun a E => ?_
           refine ep (v := .bool true) E (run_pick_t rfl (E.get 16 rfl) (E.get 0 rfl)) fun a E => ?_
           refine env_set (d := 6) (v := .bool true) E rfl (by decide) (wanted_none rfl _) (run_assign rfl (E.get 0 rfl)) fun a E => ?_
           refine wpList_nil ?_
           refine then_n ?_
           refine wp_ret ?_
           exact ret_tmp (t := 6) rfl E (E.get 0 rfl) ⟨rfl, hf⟩
         | true =>
          rw [hq161] at E
          have hx1 := of_decide_eq_true hq161
          refine eg (v := .int .i64 q) E (w_yes (g := 3) (s := 83) E rfl rfl (by decide) (E.get 0 rfl)) (run_move rfl (E.get 58 rfl)) fun a E => ?_
          refine eg (v := .int .i64 (nextA l0 m)) E (w_yes (g := 3) (s := 83) E rfl rfl (by decide) (E.get 1 rfl)) (run_move rfl (E.get 43 rfl)) fun a E => ?_
          refine eg (v := .bool (decide (q < (nextA l0 m)))) E (w_yes (g := 3) (s := 83) E rfl rfl (by decide) (E.get 2 rfl)) (run_ilss (E.get 1 rfl) (E.get 0 rfl) Tryz.underlying3 rfl) fun a E => ?_
          refine ep (v := .bool (decide (q < (nextA l0 m)))) E (run_pick_t rfl (E.get 3 rfl) (E.get 0 rfl)) fun a E => ?_
          refine ep (v := .bool (decide (q < (nextA l0 m)))) E (run_move rfl (E.get 0 rfl)) fun a E => ?_
          cases hq163 : (decide (q < (nextA l0 m))) with
          | false =>
           rw [hq163] at E
           refine env_skip (d := 89) (g := 8) (s := 88) E rfl (by decide) rfl rfl rfl (by decide) (E.get 0 rfl) fun a E => ?_
           refine env_skip (d := 90) (g := 8) (s := 88) E rfl (by decide) rfl rfl rfl (by decide) (E.get 1 rfl) fun a E => ?_
           refine env_skip (d := 91) (g := 8) (s := 88) E rfl (by decide) rfl rfl rfl (by decide) (E.get 2 rfl) fun a E => ?_
           refine ep (v := .bool false) E (run_pick_f rfl (E.get 3 rfl) rfl) fun a E => ?_
           refine wpList_nil ?_
           refine then_n ?_
           refine wp_cond_false (E.get 0 rfl) ?_
           refine wp_skip ?_
           refine then_n ?_
           refine wp_seq ?_
           cases hq164 : (decide (1000000000 < (m + 10080))) with
           | false =>
            refine wp_region_lit ?_
            refine ep (v := .slice (p0) l0.length c0) E (run_move rfl (E.get 65 rfl)) fun a E => ?_
            refine ep (v := .int .i64 m) E (run_move rfl (E.get 67 rfl)) fun a E => ?_
            refine ep (v := .int .i64 (m + 10080)) E (run_iadd Tryz.underlying3 (E.get 0 rfl) rfl (by omega) (by omega) rfl) fun a E => ?_
            refine env_call (d := 97) (v := .tuple #[.int .i64 ((nextA l0 m) + 10080), .bool true]) E rfl (by decide) rfl (wanted_none rfl _) (run_call2 (enters_of Tryz.func21 (by kernel_rfl) rfl) rfl rfl (E.get 2 rfl) (E.get 0 rfl)) (by have h := next_calls h0 (by omega) (m + 10080); rw [nextP_is hq0 (by unfold minuteB; simp only [Bool.and_eq_true, decide_eq_true_eq]; have := of_decide_eq_false hq164; omega) hnE, next_per] at h; exact h) fun a w1 f1 E => ?_
            have hT := Tb.fr hT f1 (fun r hr => id)
            have h0 := Src.fr h0 f1
            have hu1 := Src.fr hu1 f1
            have hf := hf.trans' f1 (fun _ _ h => h.elim)
            clear f1
            refine ep (v := .tuple #[.int .i64 ((nextA l0 m) + 10080), .bool true]) E (run_move rfl (E.get 0 rfl)) fun a E => ?_
            refine ep (v := .int .i64 ((nextA l0 m) + 10080)) E (run_ext0 rfl (E.get 0 rfl)) fun a E => ?_
            refine ep (v := .bool true) E (run_ext1 rfl (E.get 1 rfl)) fun a E => ?_
            refine ep (v := .int .i64 ((nextA l0 m) + 10080)) E (run_assign rfl (E.get 1 rfl)) fun a E => ?_
            refine ep (v := .bool true) E (run_assign rfl (E.get 1 rfl)) fun a E => ?_
            refine wpList_nil ?_
            refine then_n ?_
            refine wp_seq ?_
            refine wp_region_lit ?_
            refine ep (v := .bool true) E (run_move rfl (E.get 71 rfl)) fun a E => ?_
            refine ep (v := .bool true) E (run_move rfl (E.get 0 rfl)) fun a E => ?_
            refine eg (v := .bool true) E (w_yes (g := 1) (s := 101) E rfl rfl (by decide) (E.get 0 rfl)) (run_move rfl (E.get 2 rfl)) fun a E => ?_
            refine eg (v := .bool true) E (w_yes (g := 1) (s := 101) E rfl rfl (by decide) (E.get 1 rfl)) (run_move rfl (E.get 0 rfl)) fun a E => ?_
            refine eg (v := .int .i64 ((nextA l0 m) + 10080)) E (w_yes (g := 3) (s := 103) E rfl rfl (by decide) (E.get 0 rfl)) (run_move rfl (E.get 5 rfl)) fun a E => ?_
            refine eg (v := .int .i64 (nextA l0 m)) E (w_yes (g := 3) (s := 103) E rfl rfl (by decide) (E.get 1 rfl)) (run_move rfl (E.get 65 rfl)) fun a E => ?_
            refine eg (v := .int .i64 ((nextA l0 m) + 10080)) E (w_yes (g := 3) (s := 103) E rfl rfl (by decide) (E.get 2 rfl)) (run_iadd Tryz.underlying3 (E.get 0 rfl) rfl (by omega) (by omega) rfl) fun a E => ?_
            refine eg (v := .bool true) E (w_yes (g := 3) (s := 103) E rfl rfl (by decide) (E.get 3 rfl)) ((run_ieql (E.get 2 rfl) (E.get 0 rfl) Tryz.underlying3 rfl).trans (by rw [beq_self_eq_true])) fun a E => ?_
            refine eg (v := .bool true) E (w_yes (g := 1) (s := 101) E rfl rfl (by decide) (E.get 6 rfl)) (run_pick_t rfl (E.get 4 rfl) (E.get 0 rfl)) fun a E => ?_
            refine eg (v := .bool true) E (w_yes (g := 1) (s := 101) E rfl rfl (by decide) (E.get 7 rfl)) (run_move rfl (E.get 0 rfl)) fun a E => ?_
            refine env_skip (d := 110) (g := 9) (s := 109) E rfl (by decide) rfl rfl rfl (by decide) (E.get 0 rfl) fun a E => ?_
            refine env_skip (d := 111) (g := 9) (s := 109) E rfl (by decide) rfl rfl rfl (by decide) (E.get 1 rfl) fun a E => ?_
            refine env_skip (d := 112) (g := 9) (s := 109) E rfl (by decide) rfl rfl rfl (by decide) (E.get 2 rfl) fun a E => ?_
            refine env_skip (d := 113) (g := 9) (s := 109) E rfl (by decide) rfl rfl rfl (by decide) (E.get 3 rfl) fun a E => ?_
            refine env_skipu (d := 114) (g := 13) (s := 113) E rfl (by decide) rfl rfl rfl (by decide) (E.get 0 rfl) fun a E => ?_
            refine env_skipu (d := 115) (g := 13) (s := 113) E rfl (by decide) rfl rfl rfl (by decide) (E.get 1 rfl) fun a E => ?_
            refine env_skip (d := 116) (g := 9) (s := 109) E rfl (by decide) rfl rfl rfl (by decide) (E.get 6 rfl) fun a E => ?_
            refine eg (v := .bool true) E (w_yes (g := 1) (s := 101) E rfl rfl (by decide) (E.get 15 rfl)) (run_pick_t rfl (E.get 7 rfl) rfl) fun a E => ?_
            refine ep (v := .bool true) E (run_pick_t rfl (E.get 16 rfl) (E.get 0 rfl)) fun a E => ?_
            refine env_set (d := 6) (v := .bool true) E rfl (by decide) (wanted_none rfl _) (run_assign rfl (E.get 0 rfl)) fun a E => ?_
            refine wpList_nil ?_
            refine then_n ?_
            refine wp_ret ?_
            exact ret_tmp (t := 6) rfl E (E.get 0 rfl) ⟨rfl, hf⟩
           | true =>
            refine wp_region_lit ?_
            refine ep (v := .slice (p0) l0.length c0) E (run_move rfl (E.get 65 rfl)) fun a E => ?_
            refine ep (v := .int .i64 m) E (run_move rfl (E.get 67 rfl)) fun a E => ?_
            refine ep (v := .int .i64 (m + 10080)) E (run_iadd Tryz.underlying3 (E.get 0 rfl) rfl (by omega) (by omega) rfl) fun a E => ?_
            refine env_call (d := 97) (v := .tuple #[.int .i64 0, .bool false]) E rfl (by decide) rfl (wanted_none rfl _) (run_call2 (enters_of Tryz.func21 (by kernel_rfl) rfl) rfl rfl (E.get 2 rfl) (E.get 0 rfl)) (by have h := next_calls h0 (by omega) (m + 10080); rw [nextP_no2 (by unfold minuteB; rw [Bool.eq_false_iff]; simp only [ne_eq, Bool.and_eq_true, decide_eq_true_eq]; have := of_decide_eq_true hq164; omega)] at h; exact h) fun a w1 f1 E => ?_
            have hT := Tb.fr hT f1 (fun r hr => id)
            have h0 := Src.fr h0 f1
            have hu1 := Src.fr hu1 f1
            have hf := hf.trans' f1 (fun _ _ h => h.elim)
            clear f1
            refine ep (v := .tuple #[.int .i64 0, .bool false]) E (run_move rfl (E.get 0 rfl)) fun a E => ?_
            refine ep (v := .int .i64 0) E (run_ext0 rfl (E.get 0 rfl)) fun a E => ?_
            refine ep (v := .bool false) E (run_ext1 rfl (E.get 1 rfl)) fun a E => ?_
            refine ep (v := .int .i64 0) E (run_assign rfl (E.get 1 rfl)) fun a E => ?_
            refine ep (v := .bool false) E (run_assign rfl (E.get 1 rfl)) fun a E => ?_
            refine wpList_nil ?_
            refine then_n ?_
            refine wp_seq ?_
            refine wp_region_lit ?_
            refine ep (v := .bool true) E (run_move rfl (E.get 71 rfl)) fun a E => ?_
            refine ep (v := .bool true) E (run_move rfl (E.get 0 rfl)) fun a E => ?_
            refine eg (v := .bool false) E (w_yes (g := 1) (s := 101) E rfl rfl (by decide) (E.get 0 rfl)) (run_move rfl (E.get 2 rfl)) fun a E => ?_
            refine eg (v := .bool false) E (w_yes (g := 1) (s := 101) E rfl rfl (by decide) (E.get 1 rfl)) (run_move rfl (E.get 0 rfl)) fun a E => ?_
            refine env_skip (d := 104) (g := 3) (s := 103) E rfl (by decide) rfl rfl rfl (by decide) (E.get 0 rfl) fun a E => ?_
            refine env_skip (d := 105) (g := 3) (s := 103) E rfl (by decide) rfl rfl rfl (by decide) (E.get 1 rfl) fun a E => ?_
            refine env_skip (d := 106) (g := 3) (s := 103) E rfl (by decide) rfl rfl rfl (by decide) (E.get 2 rfl) fun a E => ?_
            refine env_skip (d := 107) (g := 3) (s := 103) E rfl (by decide) rfl rfl rfl (by decide) (E.get 3 rfl) fun a E => ?_
            refine eg (v := .bool false) E (w_yes (g := 1) (s := 101) E rfl rfl (by decide) (E.get 6 rfl)) (run_pick_f rfl (E.get 4 rfl) rfl) fun a E => ?_
            refine eg (v := .bool false) E (w_yes (g := 1) (s := 101) E rfl rfl (by decide) (E.get 7 rfl)) (run_move rfl (E.get 0 rfl)) fun a E => ?_
            refine eg (v := .int .i64 m) E (w_yes (g := 9) (s := 109) E rfl rfl (by decide) (E.get 0 rfl)) (run_move rfl (E.get 85 rfl)) fun a E => ?_
            refine eg (v := .int .i64 (m + 10080)) E (w_yes (g := 9) (s := 109) E rfl rfl (by decide) (E.get 1 rfl)) (run_iadd Tryz.underlying3 (E.get 0 rfl) rfl (by omega) (by omega) rfl) fun a E => ?_
            refine eg (v := .bool true) E (w_yes (g := 9) (s := 109) E rfl rfl (by decide) (E.get 2 rfl)) ((run_igtr (E.get 0 rfl) rfl Tryz.underlying3 rfl).trans (by rw [hq164] <;> rfl)) fun a E => ?_
            refine eg (v := .bool true) E (w_yes (g := 9) (s := 109) E rfl rfl (by decide) (E.get 3 rfl)) (run_move rfl (E.get 0 rfl)) fun a E => ?_
            refine eg (v := .bool false) E (w_yes (g := 13) (s := 113) E rfl rfl (by decide) (E.get 0 rfl)) (run_move rfl (E.get 14 rfl)) fun a E => ?_
            refine eg (v := .bool true) E (w_yes (g := 13) (s := 113) E rfl rfl (by decide) (E.get 1 rfl)) (run_not rfl (E.get 0 rfl)) fun a E => ?_
            refine eg (v := .bool true) E (w_yes (g := 9) (s := 109) E rfl rfl (by decide) (E.get 6 rfl)) (run_pick_t rfl (E.get 2 rfl) (E.get 0 rfl)) fun a E => ?_
            refine eg (v := .bool true) E (w_yes (g := 1) (s := 101) E rfl rfl (by decide) (E.get 15 rfl)) (run_pick_f rfl (E.get 7 rfl) (E.get 0 rfl)) fun a E => ?_
            refine ep (v := .bool true) E (run_pick_t rfl (E.get 16 rfl) (E.get 0 rfl)) fun a E => ?_
            refine env_set (d := 6) (v := .bool true) E rfl (by decide) (wanted_none rfl _) (run_assign rfl (E.get 0 rfl)) fun a E => ?_
            refine wpList_nil ?_
            refine then_n ?_
            refine wp_ret ?_
            exact ret_tmp (t := 6) rfl E (E.get 0 rfl) ⟨rfl, hf⟩
          | true =>
           rw [hq163] at E
           have hx2 := of_decide_eq_true hq163
           refine eg (v := .slice (p0) l0.length c0) E (w_yes (g := 8) (s := 88) E rfl rfl (by decide) (E.get 0 rfl)) (run_move rfl (E.get 61 rfl)) fun a E => ?_
           refine eg (v := .int .i64 q) E (w_yes (g := 8) (s := 88) E rfl rfl (by decide) (E.get 1 rfl)) (run_move rfl (E.get 64 rfl)) fun a E => ?_
           refine env_call (d := 91) (v := .bool false) E rfl (by decide) rfl (w_yes (g := 8) (s := 88) E rfl rfl (by decide) (E.get 2 rfl)) (run_call2 (enters_of Tryz.func22 (by kernel_rfl) rfl) rfl rfl (E.get 1 rfl) (E.get 0 rfl)) (by have h := open_calls h0 (by omega) q; rw [open_before hq0 hm0 hne hx1 hx2] at h; exact h) fun a w1 f1 E => ?_
           have hT := Tb.fr hT f1 (fun r hr => id)
           have h0 := Src.fr h0 f1
           have hu1 := Src.fr hu1 f1
           have hf := hf.trans' f1 (fun _ _ h => h.elim)
           clear f1
           refine ep (v := .bool false) E (run_pick_t rfl (E.get 3 rfl) (E.get 0 rfl)) fun a E => ?_
           refine wpList_nil ?_
           refine then_n ?_
           refine wp_cond_false (E.get 0 rfl) ?_
           refine wp_skip ?_
           refine then_n ?_
           refine wp_seq ?_
           cases hq165 : (decide (1000000000 < (m + 10080))) with
           | false =>
            refine wp_region_lit ?_
            refine ep (v := .slice (p0) l0.length c0) E (run_move rfl (E.get 65 rfl)) fun a E => ?_
            refine ep (v := .int .i64 m) E (run_move rfl (E.get 67 rfl)) fun a E => ?_
            refine ep (v := .int .i64 (m + 10080)) E (run_iadd Tryz.underlying3 (E.get 0 rfl) rfl (by omega) (by omega) rfl) fun a E => ?_
            refine env_call (d := 97) (v := .tuple #[.int .i64 ((nextA l0 m) + 10080), .bool true]) E rfl (by decide) rfl (wanted_none rfl _) (run_call2 (enters_of Tryz.func21 (by kernel_rfl) rfl) rfl rfl (E.get 2 rfl) (E.get 0 rfl)) (by have h := next_calls h0 (by omega) (m + 10080); rw [nextP_is hq0 (by unfold minuteB; simp only [Bool.and_eq_true, decide_eq_true_eq]; have := of_decide_eq_false hq165; omega) hnE, next_per] at h; exact h) fun a w1 f1 E => ?_
            have hT := Tb.fr hT f1 (fun r hr => id)
            have h0 := Src.fr h0 f1
            have hu1 := Src.fr hu1 f1
            have hf := hf.trans' f1 (fun _ _ h => h.elim)
            clear f1
            refine ep (v := .tuple #[.int .i64 ((nextA l0 m) + 10080), .bool true]) E (run_move rfl (E.get 0 rfl)) fun a E => ?_
            refine ep (v := .int .i64 ((nextA l0 m) + 10080)) E (run_ext0 rfl (E.get 0 rfl)) fun a E => ?_
            refine ep (v := .bool true) E (run_ext1 rfl (E.get 1 rfl)) fun a E => ?_
            refine ep (v := .int .i64 ((nextA l0 m) + 10080)) E (run_assign rfl (E.get 1 rfl)) fun a E => ?_
            refine ep (v := .bool true) E (run_assign rfl (E.get 1 rfl)) fun a E => ?_
            refine wpList_nil ?_
            refine then_n ?_
            refine wp_seq ?_
            refine wp_region_lit ?_
            refine ep (v := .bool true) E (run_move rfl (E.get 71 rfl)) fun a E => ?_
            refine ep (v := .bool true) E (run_move rfl (E.get 0 rfl)) fun a E => ?_
            refine eg (v := .bool true) E (w_yes (g := 1) (s := 101) E rfl rfl (by decide) (E.get 0 rfl)) (run_move rfl (E.get 2 rfl)) fun a E => ?_
            refine eg (v := .bool true) E (w_yes (g := 1) (s := 101) E rfl rfl (by decide) (E.get 1 rfl)) (run_move rfl (E.get 0 rfl)) fun a E => ?_
            refine eg (v := .int .i64 ((nextA l0 m) + 10080)) E (w_yes (g := 3) (s := 103) E rfl rfl (by decide) (E.get 0 rfl)) (run_move rfl (E.get 5 rfl)) fun a E => ?_
            refine eg (v := .int .i64 (nextA l0 m)) E (w_yes (g := 3) (s := 103) E rfl rfl (by decide) (E.get 1 rfl)) (run_move rfl (E.get 65 rfl)) fun a E => ?_
            refine eg (v := .int .i64 ((nextA l0 m) + 10080)) E (w_yes (g := 3) (s := 103) E rfl rfl (by decide) (E.get 2 rfl)) (run_iadd Tryz.underlying3 (E.get 0 rfl) rfl (by omega) (by omega) rfl) fun a E => ?_
            refine eg (v := .bool true) E (w_yes (g := 3) (s := 103) E rfl rfl (by decide) (E.get 3 rfl)) ((run_ieql (E.get 2 rfl) (E.get 0 rfl) Tryz.underlying3 rfl).trans (by rw [beq_self_eq_true])) fun a E => ?_
            refine eg (v := .bool true) E (w_yes (g := 1) (s := 101) E rfl rfl (by decide) (E.get 6 rfl)) (run_pick_t rfl (E.get 4 rfl) (E.get 0 rfl)) fun a E => ?_
            refine eg (v := .bool true) E (w_yes (g := 1) (s := 101) E rfl rfl (by decide) (E.get 7 rfl)) (run_move rfl (E.get 0 rfl)) fun a E => ?_
            refine env_skip (d := 110) (g := 9) (s := 109) E rfl (by decide) rfl rfl rfl (by decide) (E.get 0 rfl) fun a E => ?_
            refine env_skip (d := 111) (g := 9) (s := 109) E rfl (by decide) rfl rfl rfl (by decide) (E.get 1 rfl) fun a E => ?_
            refine env_skip (d := 112) (g := 9) (s := 109) E rfl (by decide) rfl rfl rfl (by decide) (E.get 2 rfl) fun a E => ?_
            refine env_skip (d := 113) (g := 9) (s := 109) E rfl (by decide) rfl rfl rfl (by decide) (E.get 3 rfl) fun a E => ?_
            refine env_skipu (d := 114) (g := 13) (s := 113) E rfl (by decide) rfl rfl rfl (by decide) (E.get 0 rfl) fun a E => ?_
            refine env_skipu (d := 115) (g := 13) (s := 113) E rfl (by decide) rfl rfl rfl (by decide) (E.get 1 rfl) fun a E => ?_
            refine env_skip (d := 116) (g := 9) (s := 109) E rfl (by decide) rfl rfl rfl (by decide) (E.get 6 rfl) fun a E => ?_
            refine eg (v := .bool true) E (w_yes (g := 1) (s := 101) E rfl rfl (by decide) (E.get 15 rfl)) (run_pick_t rfl (E.get 7 rfl) rfl) fun a E => ?_
            refine ep (v := .bool true) E (run_pick_t rfl (E.get 16 rfl) (E.get 0 rfl)) fun a E => ?_
            refine env_set (d := 6) (v := .bool true) E rfl (by decide) (wanted_none rfl _) (run_assign rfl (E.get 0 rfl)) fun a E => ?_
            refine wpList_nil ?_
            refine then_n ?_
            refine wp_ret ?_
            exact ret_tmp (t := 6) rfl E (E.get 0 rfl) ⟨rfl, hf⟩
           | true =>
            refine wp_region_lit ?_
            refine ep (v := .slice (p0) l0.length c0) E (run_move rfl (E.get 65 rfl)) fun a E => ?_
            refine ep (v := .int .i64 m) E (run_move rfl (E.get 67 rfl)) fun a E => ?_
            refine ep (v := .int .i64 (m + 10080)) E (run_iadd Tryz.underlying3 (E.get 0 rfl) rfl (by omega) (by omega) rfl) fun a E => ?_
            refine env_call (d := 97) (v := .tuple #[.int .i64 0, .bool false]) E rfl (by decide) rfl (wanted_none rfl _) (run_call2 (enters_of Tryz.func21 (by kernel_rfl) rfl) rfl rfl (E.get 2 rfl) (E.get 0 rfl)) (by have h := next_calls h0 (by omega) (m + 10080); rw [nextP_no2 (by unfold minuteB; rw [Bool.eq_false_iff]; simp only [ne_eq, Bool.and_eq_true, decide_eq_true_eq]; have := of_decide_eq_true hq165; omega)] at h; exact h) fun a w1 f1 E => ?_
            have hT := Tb.fr hT f1 (fun r hr => id)
            have h0 := Src.fr h0 f1
            have hu1 := Src.fr hu1 f1
            have hf := hf.trans' f1 (fun _ _ h => h.elim)
            clear f1
            refine ep (v := .tuple #[.int .i64 0, .bool false]) E (run_move rfl (E.get 0 rfl)) fun a E => ?_
            refine ep (v := .int .i64 0) E (run_ext0 rfl (E.get 0 rfl)) fun a E => ?_
            refine ep (v := .bool false) E (run_ext1 rfl (E.get 1 rfl)) fun a E => ?_
            refine ep (v := .int .i64 0) E (run_assign rfl (E.get 1 rfl)) fun a E => ?_
            refine ep (v := .bool false) E (run_assign rfl (E.get 1 rfl)) fun a E => ?_
            refine wpList_nil ?_
            refine then_n ?_
            refine wp_seq ?_
            refine wp_region_lit ?_
            refine ep (v := .bool true) E (run_move rfl (E.get 71 rfl)) fun a E => ?_
            refine ep (v := .bool true) E (run_move rfl (E.get 0 rfl)) fun a E => ?_
            refine eg (v := .bool false) E (w_yes (g := 1) (s := 101) E rfl rfl (by decide) (E.get 0 rfl)) (run_move rfl (E.get 2 rfl)) fun a E => ?_
            refine eg (v := .bool false) E (w_yes (g := 1) (s := 101) E rfl rfl (by decide) (E.get 1 rfl)) (run_move rfl (E.get 0 rfl)) fun a E => ?_
            refine env_skip (d := 104) (g := 3) (s := 103) E rfl (by decide) rfl rfl rfl (by decide) (E.get 0 rfl) fun a E => ?_
            refine env_skip (d := 105) (g := 3) (s := 103) E rfl (by decide) rfl rfl rfl (by decide) (E.get 1 rfl) fun a E => ?_
            refine env_skip (d := 106) (g := 3) (s := 103) E rfl (by decide) rfl rfl rfl (by decide) (E.get 2 rfl) fun a E => ?_
            refine env_skip (d := 107) (g := 3) (s := 103) E rfl (by decide) rfl rfl rfl (by decide) (E.get 3 rfl) fun a E => ?_
            refine eg (v := .bool false) E (w_yes (g := 1) (s := 101) E rfl rfl (by decide) (E.get 6 rfl)) (run_pick_f rfl (E.get 4 rfl) rfl) fun a E => ?_
            refine eg (v := .bool false) E (w_yes (g := 1) (s := 101) E rfl rfl (by decide) (E.get 7 rfl)) (run_move rfl (E.get 0 rfl)) fun a E => ?_
            refine eg (v := .int .i64 m) E (w_yes (g := 9) (s := 109) E rfl rfl (by decide) (E.get 0 rfl)) (run_move rfl (E.get 85 rfl)) fun a E => ?_
            refine eg (v := .int .i64 (m + 10080)) E (w_yes (g := 9) (s := 109) E rfl rfl (by decide) (E.get 1 rfl)) (run_iadd Tryz.underlying3 (E.get 0 rfl) rfl (by omega) (by omega) rfl) fun a E => ?_
            refine eg (v := .bool true) E (w_yes (g := 9) (s := 109) E rfl rfl (by decide) (E.get 2 rfl)) ((run_igtr (E.get 0 rfl) rfl Tryz.underlying3 rfl).trans (by rw [hq165] <;> rfl)) fun a E => ?_
            refine eg (v := .bool true) E (w_yes (g := 9) (s := 109) E rfl rfl (by decide) (E.get 3 rfl)) (run_move rfl (E.get 0 rfl)) fun a E => ?_
            refine eg (v := .bool false) E (w_yes (g := 13) (s := 113) E rfl rfl (by decide) (E.get 0 rfl)) (run_move rfl (E.get 14 rfl)) fun a E => ?_
            refine eg (v := .bool true) E (w_yes (g := 13) (s := 113) E rfl rfl (by decide) (E.get 1 rfl)) (run_not rfl (E.get 0 rfl)) fun a E => ?_
            refine eg (v := .bool true) E (w_yes (g := 9) (s := 109) E rfl rfl (by decide) (E.get 6 rfl)) (run_pick_t rfl (E.get 2 rfl) (E.get 0 rfl)) fun a E => ?_
            refine eg (v := .bool true) E (w_yes (g := 1) (s := 101) E rfl rfl (by decide) (E.get 15 rfl)) (run_pick_f rfl (E.get 7 rfl) (E.get 0 rfl)) fun a E => ?_
            refine ep (v := .bool true) E (run_pick_t rfl (E.get 16 rfl) (E.get 0 rfl)) fun a E => ?_
            refine env_set (d := 6) (v := .bool true) E rfl (by decide) (wanted_none rfl _) (run_assign rfl (E.get 0 rfl)) fun a E => ?_
            refine wpList_nil ?_
            refine then_n ?_
            refine wp_ret ?_
            exact ret_tmp (t := 6) rfl E (E.get 0 rfl) ⟨rfl, hf⟩
       | true =>
        rw [hq154] at E
        exact absurd (of_decide_eq_true hq154) (by omega)
      | true =>
       rw [hq153] at E
       exact absurd (of_decide_eq_true hq153) (by omega)
     | true =>
      have hP0 : nextP l0 m = (0, false) := nextP_no3 (by rw [isEmpty_len]; exact hq152)
      refine wp_region_lit ?_
      refine ep (v := .slice (p0) l0.length c0) E (run_move rfl (E.get 7 rfl)) fun a E => ?_
      refine ep (v := .int .i64 m) E (run_move rfl (E.get 9 rfl)) fun a E => ?_
      refine env_call (d := 22) (v := .tuple #[.int .i64 0, .bool false]) E rfl (by decide) rfl (wanted_none rfl _) (run_call2 (enters_of Tryz.func21 (by kernel_rfl) rfl) rfl rfl (E.get 1 rfl) (E.get 0 rfl)) (by have h := next_calls h0 (by omega) m; rw [hP0] at h; exact h) fun a w1 f1 E => ?_
      have hT := Tb.fr hT f1 (fun r hr => id)
      have h0 := Src.fr h0 f1
      have hu1 := Src.fr hu1 f1
      have hf := hf.trans' f1 (fun _ _ h => h.elim)
      clear f1
      refine ep (v := .tuple #[.int .i64 0, .bool false]) E (run_move rfl (E.get 0 rfl)) fun a E => ?_
      refine ep (v := .int .i64 0) E (run_ext0 rfl (E.get 0 rfl)) fun a E => ?_
      refine ep (v := .bool false) E (run_ext1 rfl (E.get 1 rfl)) fun a E => ?_
      refine ep (v := .int .i64 0) E (run_assign rfl (E.get 1 rfl)) fun a E => ?_
      refine ep (v := .bool false) E (run_assign rfl (E.get 1 rfl)) fun a E => ?_
      refine wpList_nil ?_
      refine then_n ?_
      refine wp_seq ?_
      refine wp_region_lit ?_
      refine ep (v := .int .i64 m) E (run_move rfl (E.get 16 rfl)) fun a E => ?_
      refine ep (v := .bool true) E ((run_igeq (E.get 0 rfl) rfl Tryz.underlying3 rfl).trans (by rw [hq150] <;> rfl)) fun a E => ?_
      refine ep (v := .bool true) E (run_move rfl (E.get 0 rfl)) fun a E => ?_
      refine eg (v := .int .i64 m) E (w_yes (g := 2) (s := 27) E rfl rfl (by decide) (E.get 0 rfl)) (run_move rfl (E.get 19 rfl)) fun a E => ?_
      refine eg (v := .bool true) E (w_yes (g := 2) (s := 27) E rfl rfl (by decide) (E.get 1 rfl)) ((run_ileq (E.get 0 rfl) rfl Tryz.underlying3 rfl).trans (by rw [hq151] <;> rfl)) fun a E => ?_
      refine ep (v := .bool true) E (run_pick_t rfl (E.get 2 rfl) (E.get 0 rfl)) fun a E => ?_
      refine ep (v := .bool true) E (run_assign rfl (E.get 0 rfl)) fun a E => ?_
      refine wpList_nil ?_
      refine then_n ?_
      refine wp_seq ?_
      refine wp_seq ?_
      refine wp_region_lit ?_
      refine ep (v := .bool false) E (run_move rfl (E.get 7 rfl)) fun a E => ?_
      refine ep (v := .bool true) E (run_not rfl (E.get 0 rfl)) fun a E => ?_
      refine wpList_nil ?_
      refine then_n ?_
      refine wp_cond_true (E.get 0 rfl) ?_
      refine wp_seq ?_
      refine wp_region_lit ?_
      refine ep (v := .bool true) E (run_move rfl (E.get 21 rfl)) fun a E => ?_
      refine ep (v := .bool true) E (run_move rfl (E.get 0 rfl)) fun a E => ?_
      refine eg (v := .int .i64 0) E (w_yes (g := 1) (s := 34) E rfl rfl (by decide) (E.get 0 rfl)) (run_move rfl (E.get 12 rfl)) fun a E => ?_
      refine eg (v := .bool true) E (w_yes (g := 1) (s := 34) E rfl rfl (by decide) (E.get 1 rfl)) (run_ieql (m := 0) (n := 0) (E.get 0 rfl) rfl Tryz.underlying3 rfl) fun a E => ?_
      refine ep (v := .bool true) E (run_pick_t rfl (E.get 2 rfl) (E.get 0 rfl)) fun a E => ?_
      refine ep (v := .bool true) E (run_move rfl (E.get 0 rfl)) fun a E => ?_
      refine eg (v := .bool true) E (w_yes (g := 5) (s := 38) E rfl rfl (by decide) (E.get 0 rfl)) (run_move rfl (E.get 8 rfl)) fun a E => ?_
      refine eg (v := .bool false) E (w_yes (g := 5) (s := 38) E rfl rfl (by decide) (E.get 1 rfl)) (run_not rfl (E.get 0 rfl)) fun a E => ?_
      refine eg (v := .bool false) E (w_yes (g := 5) (s := 38) E rfl rfl (by decide) (E.get 2 rfl)) (run_move rfl (E.get 0 rfl)) fun a E => ?_
      refine eg (v := .slice (p0) l0.length c0) E (w_yes (g := 8) (s := 41) E rfl rfl (by decide) (E.get 0 rfl)) (run_move rfl (E.get 33 rfl)) fun a E => ?_
      refine env_call (d := 43) (v := .bool (vl (-1) l0)) E rfl (by decide) rfl (w_yes (g := 8) (s := 41) E rfl rfl (by decide) (E.get 1 rfl)) (run_call1 (enters_of Tryz.func18 (by kernel_rfl) rfl) rfl rfl (E.get 0 rfl)) (valid_calls h0) fun a w1 f1 E => ?_
      have hT := Tb.fr hT f1 (fun r hr => id)
      have h0 := Src.fr h0 f1
      have hu1 := Src.fr hu1 f1
      have hf := hf.trans' f1 (fun _ _ h => h.elim)
      clear f1
      refine eg (v := .bool false) E (w_yes (g := 8) (s := 41) E rfl rfl (by decide) (E.get 2 rfl)) ((run_not rfl (E.get 0 rfl)).trans (by rw [hq147] <;> rfl)) fun a E => ?_
      refine eg (v := .bool false) E (w_yes (g := 5) (s := 38) E rfl rfl (by decide) (E.get 6 rfl)) (run_pick_f rfl (E.get 3 rfl) (E.get 0 rfl)) fun a E => ?_
      refine eg (v := .bool false) E (w_yes (g := 5) (s := 38) E rfl rfl (by decide) (E.get 7 rfl)) (run_move rfl (E.get 0 rfl)) fun a E => ?_
      refine eg (v := .slice (p0) l0.length c0) E (w_yes (g := 13) (s := 46) E rfl rfl (by decide) (E.get 0 rfl)) (run_move rfl (E.get 38 rfl)) fun a E => ?_
      refine eg (v := .int .i64 (l0.length : Int)) E (w_yes (g := 13) (s := 46) E rfl rfl (by decide) (E.get 1 rfl)) (run_len22 rfl (E.get 0 rfl)) fun a E => ?_
      refine eg (v := .bool true) E (w_yes (g := 13) (s := 46) E rfl rfl (by decide) (E.get 2 rfl)) ((run_ieql (E.get 0 rfl) rfl Tryz.underlying3 rfl).trans (by rw [hq152] <;> rfl)) fun a E => ?_
      refine eg (v := .bool true) E (w_yes (g := 5) (s := 38) E rfl rfl (by decide) (E.get 11 rfl)) (run_pick_f rfl (E.get 3 rfl) (E.get 0 rfl)) fun a E => ?_
      refine ep (v := .bool true) E (run_pick_t rfl (E.get 12 rfl) (E.get 0 rfl)) fun a E => ?_
      refine env_set (d := 6) (v := .bool true) E rfl (by decide) (wanted_none rfl _) (run_assign rfl (E.get 0 rfl)) fun a E => ?_
      refine wpList_nil ?_
      refine then_n ?_
      refine wp_ret ?_
      refine then_r ?_
      exact ret_tmp (t := 6) rfl E (E.get 0 rfl) ⟨rfl, hf⟩
end Go.Proofs.YtjaffpnegdcjnaaGreatDoor
