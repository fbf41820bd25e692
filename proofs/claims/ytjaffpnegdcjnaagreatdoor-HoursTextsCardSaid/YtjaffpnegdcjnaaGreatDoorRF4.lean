/- HoursTexts. -/
import Derived.Test.YtjaffpnegdcjnaaGreatDoorRF2
set_option linter.unusedVariables false
set_option linter.unusedSimpArgs false
namespace Go.Proofs.YtjaffpnegdcjnaaGreatDoor
open Go.RowKit Go.Pl
theorem pcsF_cnt : ∀ (n : Nat) {f t : Int}, 0 ≤ f → f < t → ((pcsF n f t).length : Int) ≤ (t - 1) / 1440 - f / 1440 + 1 := by
 intro n
 induction n with
 | zero => intro f t h0 h; show ((0 : Nat) : Int) ≤ _; omega
 | succ n ih =>
  intro f t h0 h
  show ((if f < t then _ else _ : List (Int × Int × Int)).length : Int) ≤ _
  rw [if_pos h, List.length_cons]
  by_cases hc : min t ((f / 1440 + 1) * 1440) < t
  ·have := ih (f := min t ((f / 1440 + 1) * 1440)) (by omega) hc
   omega
  ·rw [pcsF_nil hc]
   simp only [List.length_nil]
   omega
theorem pcs_cnt : ∀ {l : List Sp} {lo : Int}, -1 ≤ lo → lo ≤ 10080 → vl lo l = true → ((l.flatMap pcs).length : Int) ≤ l.length + 7 - (lo + 1) / 1440 := by
 intro l
 induction l with
 | nil => intro lo _ h _; simp only [List.flatMap_nil, List.length_nil]; omega
 | cons s l ih =>
  intro lo h0 h1 h
  obtain ⟨g1, g2, g3, g4⟩ := vl_cons.1 h
  have e1 := ih (by omega) (by omega) g4
  have e2 : ((pcs s).length : Int) ≤ (s.2 - 1) / 1440 - s.1 / 1440 + 1 := pcsF_cnt 8 (by omega) g2
  simp only [List.flatMap_cons, List.length_append, List.length_cons]
  omega
theorem joinC_len16 (P : List (Int × Int × Int)) : (joinC (P.map pcT)).length ≤ 16 * P.length := by
 have hd : ∀ d : Int, (dayT d).length ≤ 2 := by
  intro d
  unfold dayT
  by_cases hd : d.toNat < 7
  ·have : ∀ d < 7, (days.getD d []).length ≤ 2 := by decide +kernel
   exact this _ hd
  ·rw [List.getD_eq_getElem?_getD, List.getElem?_eq_none (by show 7 ≤ d.toNat; omega)]; simp
 have hp : ∀ p : Int × Int × Int, (pcT p).length ≤ 14 := by
  intro p
  have h1 := hd p.1; have h2 := clk_len p.2.1; have h3 := clk_len p.2.2
  unfold pcT
  simp only [List.length_append, List.length_cons]; omega
 induction P with
 | nil => simp [joinC]
 | cons p P ih =>
  cases P with
  | nil => have := hp p; simp only [List.map_cons, List.map_nil, joinC, List.length_cons, List.length_nil]; omega
  | cons q P =>
   have := hp p
   simp only [List.map_cons, joinC, List.length_append, List.length_cons] at ih ⊢; omega
theorem textC_len {l : List Sp} (hv : vl (-1) l = true) (h : l.length ≤ 60) : (textC l).length ≤ 4900 := by
 have h1 := pcs_cnt (Int.le_refl _) (by omega) hv
 have h2 := joinC_len16 (l.flatMap pcs)
 unfold textC
 split
 ·decide
 ·split
  ·decide
  ·omega
theorem textR_ok {l : List Sp} (hv : vl (-1) l = true) (h : l.length ≤ 60) : textR l = (textC l, 0) := by
 unfold textR; rw [if_neg (by rw [hv]; simp), if_neg (by omega)]
theorem textR_no1 {l : List Sp} (hv : vl (-1) l = false) : textR l = ([], 1) := by unfold textR; rw [if_pos hv]
theorem textR_no2 {l : List Sp} (hv : vl (-1) l = true) (h : 60 < l.length) : textR l = ([], 2) := by
 unfold textR; rw [if_neg (by rw [hv]; simp), if_pos h]
theorem text_is {v : Value} {l : List Sp} {t : Bys} {c : Int} (h : textR l = (t, c)) {w : World} (hl : SpV w v l) (hln : l.length ≤ 1000000) (hT0 : Tb w) : Calls Tryz.prog 15 #[v] w fun e w' => e = .returned (.tuple #[.string (ofL t), .int .i64 c]) ∧ Fr (fun _ => False) w w' := by
 have := text15_calls hl hln hT0
 rw [h] at this
 exact this
set_option maxRecDepth 100000 in
set_option maxHeartbeats 4000000 in
theorem htexts_calls {w : World} {v0 : Value} {l0 : List Sp} (h0 : SpV w v0 l0) (s : Bys) (hT : Tb w) : Calls Tryz.prog 4 #[v0, .string (ofL s)] w fun e w' => e = .returned (.bool true) ∧ Fr (fun _ => False) w w' := by
 obtain ⟨p0, c0, hv0, hle0, hcap0, hs0, hz0⟩ := h0
 subst hv0
 have h0 : SpV w (.slice p0 l0.length c0) l0 := ⟨p0, c0, rfl, hle0, hcap0, hs0, hz0⟩
 refine wp_start2 Tryz.func4 rfl rfl (n := 127) (by decide) fun a E => ?_
 have hf : Fr (fun _ => False) w w := Fr.refl _ _
 refine wp_seq ?_
 refine wp_region_lit ?_
 refine ep (v := .bool false) E (run_assign rfl rfl) fun a E => ?_
 refine wpList_nil ?_
 refine then_n ?_
 refine wp_seq ?_
 refine wp_region_lit ?_
 refine env_call (d := 19) (v := .bool true) E rfl (by decide) rfl (wanted_none rfl _) (run_call0 (enters_of Tryz.func11 (by kernel_rfl) rfl) rfl rfl) (head_calls hT) fun a w1 f1 E => ?_
 have hT := Tb.fr hT f1 (fun r hr => id)
 have h0 := Src.fr h0 f1
 have hf := hf.trans' f1 (fun _ _ h => h.elim)
 clear f1
 refine ep (v := .bool true) E (run_assign rfl (E.get 0 rfl)) fun a E => ?_
 refine wpList_nil ?_
 refine then_n ?_
 refine wp_seq ?_
 refine wp_seq ?_
 refine wp_region_lit ?_
 refine ep (v := .string (ofL s)) E (run_move rfl (E.get 4 rfl)) fun a E => ?_
 refine ep (v := .int .i64 (s.length : Int)) E (run_slen rfl (E.get 0 rfl)) fun a E => ?_
 refine ep (v := .bool (decide (3000 < (s.length : Int)))) E (run_igtr (E.get 0 rfl) rfl Tryz.underlying3 rfl) fun a E => ?_
 refine ep (v := .bool (decide (3000 < (s.length : Int)))) E (run_move rfl (E.get 0 rfl)) fun a E => ?_
 cases hq146 : (decide (3000 < (s.length : Int))) with
 | false =>
  rw [hq146] at E
  have hsl : s.length ≤ 3000 := by have := of_decide_eq_false hq146; omega
  refine eg (v := .slice (p0) l0.length c0) E (w_yes (g := 3) (s := 23) E rfl rfl (by decide) (E.get 0 rfl)) (run_move rfl (E.get 7 rfl)) fun a E => ?_
  refine env_sl1 (d := 25) E rfl (by decide) rfl (w_yes (g := 3) (s := 23) E rfl rfl (by decide) (E.get 1 rfl)) rfl (E.get 0 rfl) fun a w1 u1 hu1 f1 E => ?_
  have hT := Tb.fr hT f1 (fun r hr => id)
  have h0 := Src.fr h0 f1
  have hf := hf.trans' f1 (fun _ _ h => h.elim)
  clear f1
  refine env_call (d := 26) (v := .bool (fewB [(p0, l0.length, c0)])) E rfl (by decide) rfl (w_yes (g := 3) (s := 23) E rfl rfl (by decide) (E.get 2 rfl)) (run_call1 (enters_of Tryz.func12 (by kernel_rfl) rfl) rfl rfl (E.get 0 rfl)) (few_calls hu1) fun a w1 f1 E => ?_
  have hT := Tb.fr hT f1 (fun r hr => id)
  have h0 := Src.fr h0 f1
  have hu1 := Src.fr hu1 f1
  have hf := hf.trans' f1 (fun _ _ h => h.elim)
  clear f1
  refine eg (v := .bool (!(fewB [(p0, l0.length, c0)]))) E (w_yes (g := 3) (s := 23) E rfl rfl (by decide) (E.get 3 rfl)) (run_not rfl (E.get 0 rfl)) fun a E => ?_
  refine ep (v := .bool (!(fewB [(p0, l0.length, c0)]))) E (run_pick_f rfl (E.get 4 rfl) (E.get 0 rfl)) fun a E => ?_
  refine wpList_nil ?_
  refine then_n ?_
  cases hq147 : (fewB [(p0, l0.length, c0)]) with
  | false =>
   rw [hq147] at E
   refine wp_cond_true (E.get 0 rfl) ?_
   refine wp_seq ?_
   refine wp_region_lit ?_
   refine ep (v := .bool true) E (run_move rfl (E.get 9 rfl)) fun a E => ?_
   refine env_set (d := 4) (v := .bool true) E rfl (by decide) (wanted_none rfl _) (run_assign rfl (E.get 0 rfl)) fun a E => ?_
   refine wpList_nil ?_
   refine then_n ?_
   refine wp_ret ?_
   refine then_r ?_
   exact ret_tmp (t := 4) rfl E (E.get 0 rfl) ⟨rfl, hf⟩
  | true =>
   rw [hq147] at E
   have hfew := few1 hq147
   have hn0 : l0.length ≤ 150 := hfew
   refine wp_cond_false (E.get 0 rfl) ?_
   refine wp_skip ?_
   refine then_n ?_
   refine wp_seq ?_
   cases hq148 : (vl (-1) l0) with
   | false =>
    refine wp_region_lit ?_
    refine ep (v := .slice (p0) l0.length c0) E (run_move rfl (E.get 12 rfl)) fun a E => ?_
    refine env_call (d := 32) (v := .tuple #[.string (ofL []), .int .i64 1]) E rfl (by decide) rfl (wanted_none rfl _) (run_call1 (enters_of Tryz.func15 (by kernel_rfl) rfl) rfl rfl (E.get 0 rfl)) (text_is (t := []) (c := 1) (textR_no1 hq148) h0 (by omega) hT) fun a w1 f1 E => ?_
    have hT := Tb.fr hT f1 (fun r hr => id)
    have h0 := Src.fr h0 f1
    have hu1 := Src.fr hu1 f1
    have hf := hf.trans' f1 (fun _ _ h => h.elim)
    clear f1
    refine ep (v := .tuple #[.string (ofL []), .int .i64 1]) E (run_move rfl (E.get 0 rfl)) fun a E => ?_
    refine ep (v := .string (ofL [])) E (run_ext0 rfl (E.get 0 rfl)) fun a E => ?_
    refine ep (v := .int .i64 1) E (run_ext1 rfl (E.get 1 rfl)) fun a E => ?_
    refine ep (v := .string (ofL [])) E (run_assign rfl (E.get 1 rfl)) fun a E => ?_
    refine ep (v := .int .i64 1) E (run_assign rfl (E.get 1 rfl)) fun a E => ?_
    refine wpList_nil ?_
    refine then_n ?_
    refine wp_seq ?_
    refine wp_seq ?_
    refine wp_region_lit ?_
    refine ep (v := .int .i64 1) E (run_move rfl (E.get 0 rfl)) fun a E => ?_
    refine ep (v := .bool false) E (run_ieql (m := 1) (n := 0) (E.get 0 rfl) rfl Tryz.underlying25 rfl) fun a E => ?_
    refine ep (v := .slice (p0) l0.length c0) E (run_move rfl (E.get 21 rfl)) fun a E => ?_
    refine env_call (d := 38) (v := .bool (vl (-1) l0)) E rfl (by decide) rfl (wanted_none rfl _) (run_call1 (enters_of Tryz.func18 (by kernel_rfl) rfl) rfl rfl (E.get 0 rfl)) (valid_calls h0) fun a w1 f1 E => ?_
    have hT := Tb.fr hT f1 (fun r hr => id)
    have h0 := Src.fr h0 f1
    have hu1 := Src.fr hu1 f1
    have hf := hf.trans' f1 (fun _ _ h => h.elim)
    clear f1
    refine ep (v := .bool false) E ((run_move rfl (E.get 0 rfl)).trans (by rw [hq148] <;> rfl)) fun a E => ?_
    refine env_skip (d := 40) (g := 4) (s := 39) E rfl (by decide) rfl rfl rfl (by decide) (E.get 0 rfl) fun a E => ?_
    refine env_skip (d := 41) (g := 4) (s := 39) E rfl (by decide) rfl rfl rfl (by decide) (E.get 1 rfl) fun a E => ?_
    refine env_skip (d := 42) (g := 4) (s := 39) E rfl (by decide) rfl rfl rfl (by decide) (E.get 2 rfl) fun a E => ?_
    refine ep (v := .bool false) E (run_pick_f rfl (E.get 3 rfl) rfl) fun a E => ?_
    refine ep (v := .bool false) E (run_bneq (E.get 7 rfl) (E.get 0 rfl) rfl) fun a E => ?_
    refine wpList_nil ?_
    refine then_n ?_
    refine wp_cond_false (E.get 0 rfl) ?_
    refine wp_skip ?_
    refine then_n ?_
    refine wp_seq ?_
    refine wp_seq ?_
    refine wp_region_lit ?_
    refine ep (v := .int .i64 1) E (run_move rfl (E.get 10 rfl)) fun a E => ?_
    refine ep (v := .bool false) E (run_ieql (m := 1) (n := 0) (E.get 0 rfl) rfl Tryz.underlying25 rfl) fun a E => ?_
    refine wpList_nil ?_
    refine then_n ?_
    refine wp_cond_false (E.get 0 rfl) ?_
    refine wp_skip ?_
    refine then_n ?_
    refine wp_seq ?_
    rcases parse_cases s with ⟨e9, a9, hP, he, ha0, ha1⟩ | ⟨g9, hP, hgv, hg60⟩
    ·refine wp_region_lit ?_
     refine ep (v := .string (ofL s)) E (run_move rfl (E.get 32 rfl)) fun a E => ?_
     refine env_call (d := 67) E rfl (by decide) rfl (wanted_none rfl _) (run_call1 (enters_of Tryz.func13 (by kernel_rfl) rfl) rfl rfl (E.get 0 rfl)) (parse_err (c := e9) (x := a9) (hP) (by omega) hT) fun a w1 f1 E => ?_
     have hT := Tb.fr hT f1 (fun r hr => id)
     have h0 := Src.fr h0 f1
     have hu1 := Src.fr hu1 f1
     have hf := hf.trans' f1 (fun _ _ h => h.elim)
     clear f1
     refine ep (v := .tuple #[.slice none 0 0, .int .i64 e9, .int .i64 a9]) E (run_move rfl (E.get 0 rfl)) fun a E => ?_
     refine ep (v := .slice none 0 0) E (run_ex0of3 rfl (E.get 0 rfl)) fun a E => ?_
     refine ep (v := .int .i64 e9) E (run_ex1of3 rfl (E.get 1 rfl)) fun a E => ?_
     refine ep (v := .int .i64 a9) E (run_ex2of3 rfl (E.get 2 rfl)) fun a E => ?_
     refine ep (v := .slice none 0 0) E (run_assign rfl (E.get 2 rfl)) fun a E => ?_
     refine ep (v := .int .i64 e9) E (run_assign rfl (E.get 2 rfl)) fun a E => ?_
     refine ep (v := .int .i64 a9) E (run_assign rfl (E.get 2 rfl)) fun a E => ?_
     refine wpList_nil ?_
     refine then_n ?_
     refine wp_seq ?_
     refine wp_seq ?_
     refine wp_region_lit ?_
     refine ep (v := .int .i64 e9) E (run_move rfl (E.get 1 rfl)) fun a E => ?_
     refine ep (v := .bool (e9 != 0)) E (run_ineq (E.get 0 rfl) rfl Tryz.underlying25 rfl) fun a E => ?_
     refine wpList_nil ?_
     refine then_n ?_
     cases hq149 : (e9 != 0) with
     | false =>
      rw [hq149] at E
      exact absurd (by simpa using hq149) he
     | true =>
      rw [hq149] at E
      refine wp_cond_true (E.get 0 rfl) ?_
      refine wp_seq ?_
      refine wp_region_lit ?_
      refine ep (v := .bool true) E (run_move rfl (E.get 39 rfl)) fun a E => ?_
      refine ep (v := .bool true) E (run_move rfl (E.get 0 rfl)) fun a E => ?_
      refine eg (v := .slice none 0 0) E (w_yes (g := 1) (s := 74) E rfl rfl (by decide) (E.get 0 rfl)) (run_move rfl (E.get 6 rfl)) fun a E => ?_
      refine eg (v := .int .i64 0) E (w_yes (g := 1) (s := 74) E rfl rfl (by decide) (E.get 1 rfl)) (run_len22 rfl (E.get 0 rfl)) fun a E => ?_
      refine eg (v := .bool true) E (w_yes (g := 1) (s := 74) E rfl rfl (by decide) (E.get 2 rfl)) (run_ieql (m := 0) (n := 0) (E.get 0 rfl) rfl Tryz.underlying3 rfl) fun a E => ?_
      refine ep (v := .bool true) E (run_pick_t rfl (E.get 3 rfl) (E.get 0 rfl)) fun a E => ?_
      refine ep (v := .bool true) E (run_move rfl (E.get 0 rfl)) fun a E => ?_
      refine eg (v := .int .i64 a9) E (w_yes (g := 6) (s := 79) E rfl rfl (by decide) (E.get 0 rfl)) (run_move rfl (E.get 9 rfl)) fun a E => ?_
      refine eg (v := .bool (decide ((-1) ≤ a9))) E (w_yes (g := 6) (s := 79) E rfl rfl (by decide) (E.get 1 rfl)) (run_igeq (E.get 0 rfl) rfl Tryz.underlying3 rfl) fun a E => ?_
      refine ep (v := .bool (decide ((-1) ≤ a9))) E (run_pick_t rfl (E.get 2 rfl) (E.get 0 rfl)) fun a E => ?_
      refine ep (v := .bool (decide ((-1) ≤ a9))) E (run_move rfl (E.get 0 rfl)) fun a E => ?_
      cases hq150 : (decide ((-1) ≤ a9)) with
      | false =>
       rw [hq150] at E
       exact absurd (of_decide_eq_false hq150) (by omega)
      | true =>
       rw [hq150] at E
       refine eg (v := .int .i64 a9) E (w_yes (g := 10) (s := 83) E rfl rfl (by decide) (E.get 0 rfl)) (run_move rfl (E.get 13 rfl)) fun a E => ?_
       refine eg (v := .string (ofL s)) E (w_yes (g := 10) (s := 83) E rfl rfl (by decide) (E.get 1 rfl)) (run_move rfl (E.get 55 rfl)) fun a E => ?_
       refine eg (v := .int .i64 (s.length : Int)) E (w_yes (g := 10) (s := 83) E rfl rfl (by decide) (E.get 2 rfl)) (run_slen rfl (E.get 0 rfl)) fun a E => ?_
       refine eg (v := .bool (decide (a9 ≤ (s.length : Int)))) E (w_yes (g := 10) (s := 83) E rfl rfl (by decide) (E.get 3 rfl)) (run_ileq (E.get 2 rfl) (E.get 0 rfl) Tryz.underlying3 rfl) fun a E => ?_
       refine ep (v := .bool (decide (a9 ≤ (s.length : Int)))) E (run_pick_t rfl (E.get 4 rfl) (E.get 0 rfl)) fun a E => ?_
       refine env_set (d := 4) (v := .bool (decide (a9 ≤ (s.length : Int)))) E rfl (by decide) (wanted_none rfl _) (run_assign rfl (E.get 0 rfl)) fun a E => ?_
       refine wpList_nil ?_
       refine then_n ?_
       refine wp_ret ?_
       refine then_r ?_
       have hz : (decide (a9 ≤ (s.length : Int))) = true := decide_eq_true (by omega)
       exact ret_tmp (t := 4) rfl E (E.get 0 rfl) ⟨by rw [hz], hf⟩
    ·refine wp_region_lit ?_
     refine ep (v := .string (ofL s)) E (run_move rfl (E.get 32 rfl)) fun a E => ?_
     refine env_callv (d := 67) (R := fun u w8 => (∃ v, u = .tuple #[v, .int .i64 0, .int .i64 0] ∧ SpV w8 v (g9)) ∧ Fr (fun _ => False) w1 w8) E rfl (by decide) rfl (wanted_none rfl _) (run_call1 (enters_of Tryz.func13 (by kernel_rfl) rfl) rfl rfl (E.get 0 rfl)) (parse_ok (hP) (by omega) hT) fun a w1 u ⟨⟨u2, hu, hu2⟩, f1⟩ E => ?_
     subst hu
     have hT := Tb.fr hT f1 (fun r hr => id)
     have h0 := Src.fr h0 f1
     have hu1 := Src.fr hu1 f1
     have hf := hf.trans' f1 (fun _ _ h => h.elim)
     clear f1
     refine ep (v := .tuple #[u2, .int .i64 0, .int .i64 0]) E (run_move rfl (E.get 0 rfl)) fun a E => ?_
     refine ep (v := u2) E (run_ex0of3 rfl (E.get 0 rfl)) fun a E => ?_
     refine ep (v := .int .i64 0) E (run_ex1of3 rfl (E.get 1 rfl)) fun a E => ?_
     refine ep (v := .int .i64 0) E (run_ex2of3 rfl (E.get 2 rfl)) fun a E => ?_
     refine ep (v := u2) E (run_assign rfl (E.get 2 rfl)) fun a E => ?_
     refine ep (v := .int .i64 0) E (run_assign rfl (E.get 2 rfl)) fun a E => ?_
     refine ep (v := .int .i64 0) E (run_assign rfl (E.get 2 rfl)) fun a E => ?_
     refine wpList_nil ?_
     refine then_n ?_
     refine wp_seq ?_
     refine wp_seq ?_
     refine wp_region_lit ?_
     refine ep (v := .int .i64 0) E (run_move rfl (E.get 1 rfl)) fun a E => ?_
     refine ep (v := .bool false) E (run_ineq (m := 0) (n := 0) (E.get 0 rfl) rfl Tryz.underlying25 rfl) fun a E => ?_
     refine wpList_nil ?_
     refine then_n ?_
     refine wp_cond_false (E.get 0 rfl) ?_
     refine wp_skip ?_
     refine then_n ?_
     refine wp_seq ?_
     refine wp_region_lit ?_
     refine ep (v := u2) E (run_move rfl (E.get 4 rfl)) fun a E => ?_
     refine env_call (d := 91) (v := .tuple #[.string (ofL (textC g9)), .int .i64 0]) E rfl (by decide) rfl (wanted_none rfl _) (run_call1 (enters_of Tryz.func15 (by kernel_rfl) rfl) rfl rfl (E.get 0 rfl)) (text_is (t := (textC g9)) (c := 0) (textR_ok hgv hg60) hu2 (by omega) hT) fun a w1 f1 E => ?_
     have hT := Tb.fr hT f1 (fun r hr => id)
     have h0 := Src.fr h0 f1
     have hu1 := Src.fr hu1 f1
     have hu2 := Src.fr hu2 f1
     have hf := hf.trans' f1 (fun _ _ h => h.elim)
     clear f1
     refine ep (v := .tuple #[.string (ofL (textC g9)), .int .i64 0]) E (run_move rfl (E.get 0 rfl)) fun a E => ?_
     refine ep (v := .string (ofL (textC g9))) E (run_ext0 rfl (E.get 0 rfl)) fun a E => ?_
     refine ep (v := .int .i64 0) E (run_ext1 rfl (E.get 1 rfl)) fun a E => ?_
     refine ep (v := .string (ofL (textC g9))) E (run_assign rfl (E.get 1 rfl)) fun a E => ?_
     refine ep (v := .int .i64 0) E (run_assign rfl (E.get 1 rfl)) fun a E => ?_
     refine wpList_nil ?_
     refine then_n ?_
     refine wp_seq ?_
     refine wp_region_lit ?_
     refine ep (v := .string (ofL (textC g9))) E (run_move rfl (E.get 1 rfl)) fun a E => ?_
     refine env_callv (d := 96) (R := fun u w8 => (∃ v, u = .tuple #[v, .int .i64 0, .int .i64 0] ∧ SpV w8 v (g9)) ∧ Fr (fun _ => False) w1 w8) E rfl (by decide) rfl (wanted_none rfl _) (run_call1 (enters_of Tryz.func13 (by kernel_rfl) rfl) rfl rfl (E.get 0 rfl)) (parse_ok (parse_text hgv hg60) (textC_len hgv hg60) hT) fun a w1 u ⟨⟨u3, hu, hu3⟩, f1⟩ E => ?_
     subst hu
     have hT := Tb.fr hT f1 (fun r hr => id)
     have h0 := Src.fr h0 f1
     have hu1 := Src.fr hu1 f1
     have hu2 := Src.fr hu2 f1
     have hf := hf.trans' f1 (fun _ _ h => h.elim)
     clear f1
     refine ep (v := .tuple #[u3, .int .i64 0, .int .i64 0]) E (run_move rfl (E.get 0 rfl)) fun a E => ?_
     refine ep (v := u3) E (run_ex0of3 rfl (E.get 0 rfl)) fun a E => ?_
     refine ep (v := .int .i64 0) E (run_ex1of3 rfl (E.get 1 rfl)) fun a E => ?_
     refine ep (v := .int .i64 0) E (run_ex2of3 rfl (E.get 2 rfl)) fun a E => ?_
     refine ep (v := u3) E (run_assign rfl (E.get 2 rfl)) fun a E => ?_
     refine ep (v := .int .i64 0) E (run_assign rfl (E.get 2 rfl)) fun a E => ?_
     refine ep (v := .int .i64 0) E (run_assign rfl (E.get 2 rfl)) fun a E => ?_
     refine wpList_nil ?_
     refine then_n ?_
     refine wp_seq ?_
     refine wp_region_lit ?_
     refine ep (v := .bool true) E (run_move rfl (E.get 55 rfl)) fun a E => ?_
     refine ep (v := .bool true) E (run_move rfl (E.get 0 rfl)) fun a E => ?_
     refine eg (v := .int .i64 0) E (w_yes (g := 1) (s := 101) E rfl rfl (by decide) (E.get 0 rfl)) (run_move rfl (E.get 20 rfl)) fun a E => ?_
     refine eg (v := .bool true) E (w_yes (g := 1) (s := 101) E rfl rfl (by decide) (E.get 1 rfl)) (run_ieql (m := 0) (n := 0) (E.get 0 rfl) rfl Tryz.underlying3 rfl) fun a E => ?_
     refine ep (v := .bool true) E (run_pick_t rfl (E.get 2 rfl) (E.get 0 rfl)) fun a E => ?_
     refine ep (v := .bool true) E (run_move rfl (E.get 0 rfl)) fun a E => ?_
     refine eg (v := .int .i64 0) E (w_yes (g := 5) (s := 105) E rfl rfl (by decide) (E.get 0 rfl)) (run_move rfl (E.get 15 rfl)) fun a E => ?_
     refine eg (v := .bool true) E (w_yes (g := 5) (s := 105) E rfl rfl (by decide) (E.get 1 rfl)) (run_ieql (m := 0) (n := 0) (E.get 0 rfl) rfl Tryz.underlying25 rfl) fun a E => ?_
     refine ep (v := .bool true) E (run_pick_t rfl (E.get 2 rfl) (E.get 0 rfl)) fun a E => ?_
     refine ep (v := .bool true) E (run_move rfl (E.get 0 rfl)) fun a E => ?_
     refine eg (v := .int .i64 0) E (w_yes (g := 9) (s := 109) E rfl rfl (by decide) (E.get 0 rfl)) (run_move rfl (E.get 11 rfl)) fun a E => ?_
     refine eg (v := .bool true) E (w_yes (g := 9) (s := 109) E rfl rfl (by decide) (E.get 1 rfl)) (run_ieql (m := 0) (n := 0) (E.get 0 rfl) rfl Tryz.underlying25 rfl) fun a E => ?_
     refine ep (v := .bool true) E (run_pick_t rfl (E.get 2 rfl) (E.get 0 rfl)) fun a E => ?_
     refine ep (v := .bool true) E (run_move rfl (E.get 0 rfl)) fun a E => ?_
     refine eg (v := u2) E (w_yes (g := 13) (s := 113) E rfl rfl (by decide) (E.get 0 rfl)) (run_move rfl (E.get 34 rfl)) fun a E => ?_
     refine env_call (d := 115) (v := .bool true) E rfl (by decide) rfl (w_yes (g := 13) (s := 113) E rfl rfl (by decide) (E.get 1 rfl)) (run_call1 (enters_of Tryz.func18 (by kernel_rfl) rfl) rfl rfl (E.get 0 rfl)) (by have h := valid_calls hu2; rw [hgv] at h; exact h) fun a w1 f1 E => ?_
     have hT := Tb.fr hT f1 (fun r hr => id)
     have h0 := Src.fr h0 f1
     have hu1 := Src.fr hu1 f1
     have hu2 := Src.fr hu2 f1
     have hu3 := Src.fr hu3 f1
     have hf := hf.trans' f1 (fun _ _ h => h.elim)
     clear f1
     refine ep (v := .bool true) E (run_pick_t rfl (E.get 2 rfl) (E.get 0 rfl)) fun a E => ?_
     refine ep (v := .bool true) E (run_move rfl (E.get 0 rfl)) fun a E => ?_
     refine eg (v := u2) E (w_yes (g := 17) (s := 117) E rfl rfl (by decide) (E.get 0 rfl)) (run_move rfl (E.get 38 rfl)) fun a E => ?_
     refine eg (v := .int .i64 (g9.length : Int)) E (w_yes (g := 17) (s := 117) E rfl rfl (by decide) (E.get 1 rfl)) (run_len22s hu2 rfl (E.get 0 rfl)) fun a E => ?_
     refine eg (v := .bool (decide ((g9.length : Int) ≤ 60))) E (w_yes (g := 17) (s := 117) E rfl rfl (by decide) (E.get 2 rfl)) (run_ileq (E.get 0 rfl) rfl Tryz.underlying3 rfl) fun a E => ?_
     refine ep (v := .bool (decide ((g9.length : Int) ≤ 60))) E (run_pick_t rfl (E.get 3 rfl) (E.get 0 rfl)) fun a E => ?_
     refine ep (v := .bool (decide ((g9.length : Int) ≤ 60))) E (run_move rfl (E.get 0 rfl)) fun a E => ?_
     cases hq151 : (decide ((g9.length : Int) ≤ 60)) with
     | false =>
      rw [hq151] at E
      exact absurd (of_decide_eq_false hq151) (by omega)
     | true =>
      rw [hq151] at E
      refine eg (v := u2) E (w_yes (g := 22) (s := 122) E rfl rfl (by decide) (E.get 0 rfl)) (run_move rfl (E.get 43 rfl)) fun a E => ?_
      refine eg (v := u3) E (w_yes (g := 22) (s := 122) E rfl rfl (by decide) (E.get 1 rfl)) (run_move rfl (E.get 26 rfl)) fun a E => ?_
      refine env_call (d := 125) (v := .bool true) E rfl (by decide) rfl (w_yes (g := 22) (s := 122) E rfl rfl (by decide) (E.get 2 rfl)) (run_call2 (enters_of Tryz.func17 (by kernel_rfl) rfl) rfl rfl (E.get 1 rfl) (E.get 0 rfl)) (by have h := same_calls hu2 hu3; rw [show ((g9 : List Sp) == (g9 : List Sp)) = true from beq_of rfl] at h; exact h) fun a w1 f1 E => ?_
      have hT := Tb.fr hT f1 (fun r hr => id)
      have h0 := Src.fr h0 f1
      have hu1 := Src.fr hu1 f1
      have hu2 := Src.fr hu2 f1
      have hu3 := Src.fr hu3 f1
      have hf := hf.trans' f1 (fun _ _ h => h.elim)
      clear f1
      refine ep (v := .bool true) E (run_pick_t rfl (E.get 3 rfl) (E.get 0 rfl)) fun a E => ?_
      refine env_set (d := 4) (v := .bool true) E rfl (by decide) (wanted_none rfl _) (run_assign rfl (E.get 0 rfl)) fun a E => ?_
      refine wpList_nil ?_
      refine then_n ?_
      refine wp_ret ?_
      exact ret_tmp (t := 4) rfl E (E.get 0 rfl) ⟨rfl, hf⟩
   | true =>
    have hq0 : vl (-1) l0 = true := hq148
    cases hq152 : (decide ((l0.length : Int) ≤ 60)) with
    | false =>
     refine wp_region_lit ?_
     refine ep (v := .slice (p0) l0.length c0) E (run_move rfl (E.get 12 rfl)) fun a E => ?_
     refine env_call (d := 32) (v := .tuple #[.string (ofL []), .int .i64 2]) E rfl (by decide) rfl (wanted_none rfl _) (run_call1 (enters_of Tryz.func15 (by kernel_rfl) rfl) rfl rfl (E.get 0 rfl)) (text_is (t := []) (c := 2) (textR_no2 hq0 (by have := of_decide_eq_false hq152; omega)) h0 (by omega) hT) fun a w1 f1 E => ?_
     have hT := Tb.fr hT f1 (fun r hr => id)
     have h0 := Src.fr h0 f1
     have hu1 := Src.fr hu1 f1
     have hf := hf.trans' f1 (fun _ _ h => h.elim)
     clear f1
     refine ep (v := .tuple #[.string (ofL []), .int .i64 2]) E (run_move rfl (E.get 0 rfl)) fun a E => ?_
     refine ep (v := .string (ofL [])) E (run_ext0 rfl (E.get 0 rfl)) fun a E => ?_
     refine ep (v := .int .i64 2) E (run_ext1 rfl (E.get 1 rfl)) fun a E => ?_
     refine ep (v := .string (ofL [])) E (run_assign rfl (E.get 1 rfl)) fun a E => ?_
     refine ep (v := .int .i64 2) E (run_assign rfl (E.get 1 rfl)) fun a E => ?_
     refine wpList_nil ?_
     refine then_n ?_
     refine wp_seq ?_
     refine wp_seq ?_
     refine wp_region_lit ?_
     refine ep (v := .int .i64 2) E (run_move rfl (E.get 0 rfl)) fun a E => ?_
     refine ep (v := .bool false) E (run_ieql (m := 2) (n := 0) (E.get 0 rfl) rfl Tryz.underlying25 rfl) fun a E => ?_
     refine ep (v := .slice (p0) l0.length c0) E (run_move rfl (E.get 21 rfl)) fun a E => ?_
     refine env_call (d := 38) (v := .bool (vl (-1) l0)) E rfl (by decide) rfl (wanted_none rfl _) (run_call1 (enters_of Tryz.func18 (by kernel_rfl) rfl) rfl rfl (E.get 0 rfl)) (valid_calls h0) fun a w1 f1 E => ?_
     have hT := Tb.fr hT f1 (fun r hr => id)
     have h0 := Src.fr h0 f1
     have hu1 := Src.fr hu1 f1
     have hf := hf.trans' f1 (fun _ _ h => h.elim)
     clear f1
     refine ep (v := .bool true) E ((run_move rfl (E.get 0 rfl)).trans (by rw [hq148] <;> rfl)) fun a E => ?_
     refine eg (v := .slice (p0) l0.length c0) E (w_yes (g := 4) (s := 39) E rfl rfl (by decide) (E.get 0 rfl)) (run_move rfl (E.get 24 rfl)) fun a E => ?_
     refine eg (v := .int .i64 (l0.length : Int)) E (w_yes (g := 4) (s := 39) E rfl rfl (by decide) (E.get 1 rfl)) (run_len22 rfl (E.get 0 rfl)) fun a E => ?_
     refine eg (v := .bool false) E (w_yes (g := 4) (s := 39) E rfl rfl (by decide) (E.get 2 rfl)) ((run_ileq (E.get 0 rfl) rfl Tryz.underlying3 rfl).trans (by rw [hq152] <;> rfl)) fun a E => ?_
     refine ep (v := .bool false) E (run_pick_t rfl (E.get 3 rfl) (E.get 0 rfl)) fun a E => ?_
     refine ep (v := .bool false) E (run_bneq (E.get 7 rfl) (E.get 0 rfl) rfl) fun a E => ?_
     refine wpList_nil ?_
     refine then_n ?_
     refine wp_cond_false (E.get 0 rfl) ?_
     refine wp_skip ?_
     refine then_n ?_
     refine wp_seq ?_
     refine wp_seq ?_
     refine wp_region_lit ?_
     refine ep (v := .int .i64 2) E (run_move rfl (E.get 10 rfl)) fun a E => ?_
     refine ep (v := .bool false) E (run_ieql (m := 2) (n := 0) (E.get 0 rfl) rfl Tryz.underlying25 rfl) fun a E => ?_
     refine wpList_nil ?_
     refine then_n ?_
     refine wp_cond_false (E.get 0 rfl) ?_
     refine wp_skip ?_
     refine then_n ?_
     refine wp_seq ?_
     rcases parse_cases s with ⟨e9, a9, hP, he, ha0, ha1⟩ | ⟨g9, hP, hgv, hg60⟩
     ·refine wp_region_lit ?_
      refine ep (v := .string (ofL s)) E (run_move rfl (E.get 32 rfl)) fun a E => ?_
      refine env_call (d := 67) E rfl (by decide) rfl (wanted_none rfl _) (run_call1 (enters_of Tryz.func13 (by kernel_rfl) rfl) rfl rfl (E.get 0 rfl)) (parse_err (c := e9) (x := a9) (hP) (by omega) hT) fun a w1 f1 E => ?_
      have hT := Tb.fr hT f1 (fun r hr => id)
      have h0 := Src.fr h0 f1
      have hu1 := Src.fr hu1 f1
      have hf := hf.trans' f1 (fun _ _ h => h.elim)
      clear f1
      refine ep (v := .tuple #[.slice none 0 0, .int .i64 e9, .int .i64 a9]) E (run_move rfl (E.get 0 rfl)) fun a E => ?_
      refine ep (v := .slice none 0 0) E (run_ex0of3 rfl (E.get 0 rfl)) fun a E => ?_
      refine ep (v := .int .i64 e9) E (run_ex1of3 rfl (E.get 1 rfl)) fun a E => ?_
      refine ep (v := .int .i64 a9) E (run_ex2of3 rfl (E.get 2 rfl)) fun a E => ?_
      refine ep (v := .slice none 0 0) E (run_assign rfl (E.get 2 rfl)) fun a E => ?_
      refine ep (v := .int .i64 e9) E (run_assign rfl (E.get 2 rfl)) fun a E => ?_
      refine ep (v := .int .i64 a9) E (run_assign rfl (E.get 2 rfl)) fun a E => ?_
      refine wpList_nil ?_
      refine then_n ?_
      refine wp_seq ?_
      refine wp_seq ?_
      refine wp_region_lit ?_
      refine ep (v := .int .i64 e9) E (run_move rfl (E.get 1 rfl)) fun a E => ?_
      refine ep (v := .bool (e9 != 0)) E (run_ineq (E.get 0 rfl) rfl Tryz.underlying25 rfl) fun a E => ?_
      refine wpList_nil ?_
      refine then_n ?_
      cases hq153 : (e9 != 0) with
      | false =>
       rw [hq153] at E
       exact absurd (by simpa using hq153) he
      | true =>
       rw [hq153] at E
       refine wp_cond_true (E.get 0 rfl) ?_
       refine wp_seq ?_
       refine wp_region_lit ?_
       refine ep (v := .bool true) E (run_move rfl (E.get 39 rfl)) fun a E => ?_
       refine ep (v := .bool true) E (run_move rfl (E.get 0 rfl)) fun a E => ?_
       refine eg (v := .slice none 0 0) E (w_yes (g := 1) (s := 74) E rfl rfl (by decide) (E.get 0 rfl)) (run_move rfl (E.get 6 rfl)) fun a E => ?_
       refine eg (v := .int .i64 0) E (w_yes (g := 1) (s := 74) E rfl rfl (by decide) (E.get 1 rfl)) (run_len22 rfl (E.get 0 rfl)) fun a E => ?_
       refine eg (v := .bool true) E (w_yes (g := 1) (s := 74) E rfl rfl (by decide) (E.get 2 rfl)) (run_ieql (m := 0) (n := 0) (E.get 0 rfl) rfl Tryz.underlying3 rfl) fun a E => ?_
       refine ep (v := .bool true) E (run_pick_t rfl (E.get 3 rfl) (E.get 0 rfl)) fun a E => ?_
       refine ep (v := .bool true) E (run_move rfl (E.get 0 rfl)) fun a E => ?_
       refine eg (v := .int .i64 a9) E (w_yes (g := 6) (s := 79) E rfl rfl (by decide) (E.get 0 rfl)) (run_move rfl (E.get 9 rfl)) fun a E => ?_
       refine eg (v := .bool (decide ((-1) ≤ a9))) E (w_yes (g := 6) (s := 79) E rfl rfl (by decide) (E.get 1 rfl)) (run_igeq (E.get 0 rfl) rfl Tryz.underlying3 rfl) fun a E => ?_
       refine ep (v := .bool (decide ((-1) ≤ a9))) E (run_pick_t rfl (E.get 2 rfl) (E.get 0 rfl)) fun a E => ?_
       refine ep (v := .bool (decide ((-1) ≤ a9))) E (run_move rfl (E.get 0 rfl)) fun a E => ?_
       cases hq154 : (decide ((-1) ≤ a9)) with
       | false =>
        rw [hq154] at E
        exact absurd (of_decide_eq_false hq154) (by omega)
       | true =>
        rw [hq154] at E
        refine eg (v := .int .i64 a9) E (w_yes (g := 10) (s := 83) E rfl rfl (by decide) (E.get 0 rfl)) (run_move rfl (E.get 13 rfl)) fun a E => ?_
        refine eg (v := .string (ofL s)) E (w_yes (g := 10) (s := 83) E rfl rfl (by decide) (E.get 1 rfl)) (run_move rfl (E.get 55 rfl)) fun a E => ?_
        refine eg (v := .int .i64 (s.length : Int)) E (w_yes (g := 10) (s := 83) E rfl rfl (by decide) (E.get 2 rfl)) (run_slen rfl (E.get 0 rfl)) fun a E => ?_
        refine eg (v := .bool (decide (a9 ≤ (s.length : Int)))) E (w_yes (g := 10) (s := 83) E rfl rfl (by decide) (E.get 3 rfl)) (run_ileq (E.get 2 rfl) (E.get 0 rfl) Tryz.underlying3 rfl) fun a E => ?_
        refine ep (v := .bool (decide (a9 ≤ (s.length : Int)))) E (run_pick_t rfl (E.get 4 rfl) (E.get 0 rfl)) fun a E => ?_
        refine env_set (d := 4) (v := .bool (decide (a9 ≤ (s.length : Int)))) E rfl (by decide) (wanted_none rfl _) (run_assign rfl (E.get 0 rfl)) fun a E => ?_
        refine wpList_nil ?_
        refine then_n ?_
        refine wp_ret ?_
        refine then_r ?_
        have hz : (decide (a9 ≤ (s.length : Int))) = true := decide_eq_true (by omega)
        exact ret_tmp (t := 4) rfl E (E.get 0 rfl) ⟨by rw [hz], hf⟩
     ·refine wp_region_lit ?_
      refine ep (v := .string (ofL s)) E (run_move rfl (E.get 32 rfl)) fun a E => ?_
      refine env_callv (d := 67) (R := fun u w8 => (∃ v, u = .tuple #[v, .int .i64 0, .int .i64 0] ∧ SpV w8 v (g9)) ∧ Fr (fun _ => False) w1 w8) E rfl (by decide) rfl (wanted_none rfl _) (run_call1 (enters_of Tryz.func13 (by kernel_rfl) rfl) rfl rfl (E.get 0 rfl)) (parse_ok (hP) (by omega) hT) fun a w1 u ⟨⟨u4, hu, hu4⟩, f1⟩ E => ?_
      subst hu
      have hT := Tb.fr hT f1 (fun r hr => id)
      have h0 := Src.fr h0 f1
      have hu1 := Src.fr hu1 f1
      have hf := hf.trans' f1 (fun _ _ h => h.elim)
      clear f1
      refine ep (v := .tuple #[u4, .int .i64 0, .int .i64 0]) E (run_move rfl (E.get 0 rfl)) fun a E => ?_
      refine ep (v := u4) E (run_ex0of3 rfl (E.get 0 rfl)) fun a E => ?_
      refine ep (v := .int .i64 0) E (run_ex1of3 rfl (E.get 1 rfl)) fun a E => ?_
      refine ep (v := .int .i64 0) E (run_ex2of3 rfl (E.get 2 rfl)) fun a E => ?_
      refine ep (v := u4) E (run_assign rfl (E.get 2 rfl)) fun a E => ?_
      refine ep (v := .int .i64 0) E (run_assign rfl (E.get 2 rfl)) fun a E => ?_
      refine ep (v := .int .i64 0) E (run_assign rfl (E.get 2 rfl)) fun a E => ?_
      refine wpList_nil ?_
      refine then_n ?_
      refine wp_seq ?_
      refine wp_seq ?_
      refine wp_region_lit ?_
      refine ep (v := .int .i64 0) E (run_move rfl (E.get 1 rfl)) fun a E => ?_
      refine ep (v := .bool false) E (run_ineq (m := 0) (n := 0) (E.get 0 rfl) rfl Tryz.underlying25 rfl) fun a E => ?_
      refine wpList_nil ?_
      refine then_n ?_
      refine wp_cond_false (E.get 0 rfl) ?_
      refine wp_skip ?_
      refine then_n ?_
      refine wp_seq ?_
      refine wp_region_lit ?_
      refine ep (v := u4) E (run_move rfl (E.get 4 rfl)) fun a E => ?_
      refine env_call (d := 91) (v := .tuple #[.string (ofL (textC g9)), .int .i64 0]) E rfl (by decide) rfl (wanted_none rfl _) (run_call1 (enters_of Tryz.func15 (by kernel_rfl) rfl) rfl rfl (E.get 0 rfl)) (text_is (t := (textC g9)) (c := 0) (textR_ok hgv hg60) hu4 (by omega) hT) fun a w1 f1 E => ?_
      have hT := Tb.fr hT f1 (fun r hr => id)
      have h0 := Src.fr h0 f1
      have hu1 := Src.fr hu1 f1
      have hu4 := Src.fr hu4 f1
      have hf := hf.trans' f1 (fun _ _ h => h.elim)
      clear f1
      refine ep (v := .tuple #[.string (ofL (textC g9)), .int .i64 0]) E (run_move rfl (E.get 0 rfl)) fun a E => ?_
      refine ep (v := .string (ofL (textC g9))) E (run_ext0 rfl (E.get 0 rfl)) fun a E => ?_
      refine ep (v := .int .i64 0) E (run_ext1 rfl (E.get 1 rfl)) fun a E => ?_
      refine ep (v := .string (ofL (textC g9))) E (run_assign rfl (E.get 1 rfl)) fun a E => ?_
      refine ep (v := .int .i64 0) E (run_assign rfl (E.get 1 rfl)) fun a E => ?_
      refine wpList_nil ?_
      refine then_n ?_
      refine wp_seq ?_
      refine wp_region_lit ?_
      refine ep (v := .string (ofL (textC g9))) E (run_move rfl (E.get 1 rfl)) fun a E => ?_
      refine env_callv (d := 96) (R := fun u w8 => (∃ v, u = .tuple #[v, .int .i64 0, .int .i64 0] ∧ SpV w8 v (g9)) ∧ Fr (fun _ => False) w1 w8) E rfl (by decide) rfl (wanted_none rfl _) (run_call1 (enters_of Tryz.func13 (by kernel_rfl) rfl) rfl rfl (E.get 0 rfl)) (parse_ok (parse_text hgv hg60) (textC_len hgv hg60) hT) fun a w1 u ⟨⟨u5, hu, hu5⟩, f1⟩ E => ?_
      subst hu
      have hT := Tb.fr hT f1 (fun r hr => id)
      have h0 := Src.fr h0 f1
      have hu1 := Src.fr hu1 f1
      have hu4 := Src.fr hu4 f1
      have hf := hf.trans' f1 (fun _ _ h => h.elim)
      clear f1
      refine ep (v := .tuple #[u5, .int .i64 0, .int .i64 0]) E (run_move rfl (E.get 0 rfl)) fun a E => ?_
      refine ep (v := u5) E (run_ex0of3 rfl (E.get 0 rfl)) fun a E => ?_
      refine ep (v := .int .i64 0) E (run_ex1of3 rfl (E.get 1 rfl)) fun a E => ?_
      refine ep (v := .int .i64 0) E (run_ex2of3 rfl (E.get 2 rfl)) fun a E => ?_
      refine ep (v := u5) E (run_assign rfl (E.get 2 rfl)) fun a E => ?_
      refine ep (v := .int .i64 0) E (run_assign rfl (E.get 2 rfl)) fun a E => ?_
      refine ep (v := .int .i64 0) E (run_assign rfl (E.get 2 rfl)) fun a E => ?_
      refine wpList_nil ?_
      refine then_n ?_
      refine wp_seq ?_
      refine wp_region_lit ?_
      refine ep (v := .bool true) E (run_move rfl (E.get 55 rfl)) fun a E => ?_
      refine ep (v := .bool true) E (run_move rfl (E.get 0 rfl)) fun a E => ?_
      refine eg (v := .int .i64 0) E (w_yes (g := 1) (s := 101) E rfl rfl (by decide) (E.get 0 rfl)) (run_move rfl (E.get 20 rfl)) fun a E => ?_
      refine eg (v := .bool true) E (w_yes (g := 1) (s := 101) E rfl rfl (by decide) (E.get 1 rfl)) (run_ieql (m := 0) (n := 0) (E.get 0 rfl) rfl Tryz.underlying3 rfl) fun a E => ?_
      refine ep (v := .bool true) E (run_pick_t rfl (E.get 2 rfl) (E.get 0 rfl)) fun a E => ?_
      refine ep (v := .bool true) E (run_move rfl (E.get 0 rfl)) fun a E => ?_
      refine eg (v := .int .i64 0) E (w_yes (g := 5) (s := 105) E rfl rfl (by decide) (E.get 0 rfl)) (run_move rfl (E.get 15 rfl)) fun a E => ?_
      refine eg (v := .bool true) E (w_yes (g := 5) (s := 105) E rfl rfl (by decide) (E.get 1 rfl)) (run_ieql (m := 0) (n := 0) (E.get 0 rfl) rfl Tryz.underlying25 rfl) fun a E => ?_
      refine ep (v := .bool true) E (run_pick_t rfl (E.get 2 rfl) (E.get 0 rfl)) fun a E => ?_
      refine ep (v := .bool true) E (run_move rfl (E.get 0 rfl)) fun a E => ?_
      refine eg (v := .int .i64 0) E (w_yes (g := 9) (s := 109) E rfl rfl (by decide) (E.get 0 rfl)) (run_move rfl (E.get 11 rfl)) fun a E => ?_
      refine eg (v := .bool true) E (w_yes (g := 9) (s := 109) E rfl rfl (by decide) (E.get 1 rfl)) (run_ieql (m := 0) (n := 0) (E.get 0 rfl) rfl Tryz.underlying25 rfl) fun a E => ?_
      refine ep (v := .bool true) E (run_pick_t rfl (E.get 2 rfl) (E.get 0 rfl)) fun a E => ?_
      refine ep (v := .bool true) E (run_move rfl (E.get 0 rfl)) fun a E => ?_
      refine eg (v := u4) E (w_yes (g := 13) (s := 113) E rfl rfl (by decide) (E.get 0 rfl)) (run_move rfl (E.get 34 rfl)) fun a E => ?_
      refine env_call (d := 115) (v := .bool true) E rfl (by decide) rfl (w_yes (g := 13) (s := 113) E rfl rfl (by decide) (E.get 1 rfl)) (run_call1 (enters_of Tryz.func18 (by kernel_rfl) rfl) rfl rfl (E.get 0 rfl)) (by have h := valid_calls hu4; rw [hgv] at h; exact h) fun a w1 f1 E => ?_
      have hT := Tb.fr hT f1 (fun r hr => id)
      have h0 := Src.fr h0 f1
      have hu1 := Src.fr hu1 f1
      have hu4 := Src.fr hu4 f1
      have hu5 := Src.fr hu5 f1
      have hf := hf.trans' f1 (fun _ _ h => h.elim)
      clear f1
      refine ep (v := .bool true) E (run_pick_t rfl (E.get 2 rfl) (E.get 0 rfl)) fun a E => ?_
      refine ep (v := .bool true) E (run_move rfl (E.get 0 rfl)) fun a E => ?_
      refine eg (v := u4) E (w_yes (g := 17) (s := 117) E rfl rfl (by decide) (E.get 0 rfl)) (run_move rfl (E.get 38 rfl)) fun a E => ?_
      refine eg (v := .int .i64 (g9.length : Int)) E (w_yes (g := 17) (s := 117) E rfl rfl (by decide) (E.get 1 rfl)) (run_len22s hu4 rfl (E.get 0 rfl)) fun a E => ?_
      refine eg (v := .bool (decide ((g9.length : Int) ≤ 60))) E (w_yes (g := 17) (s := 117) E rfl rfl (by decide) (E.get 2 rfl)) (run_ileq (E.get 0 rfl) rfl Tryz.underlying3 rfl) fun a E => ?_
      refine ep (v := .bool (decide ((g9.length : Int) ≤ 60))) E (run_pick_t rfl (E.get 3 rfl) (E.get 0 rfl)) fun a E => ?_
      refine ep (v := .bool (decide ((g9.length : Int) ≤ 60))) E (run_move rfl (E.get 0 rfl)) fun a E => ?_
      cases hq155 : (decide ((g9.length : Int) ≤ 60)) with
      | false =>
       rw [hq155] at E
       exact absurd (of_decide_eq_false hq155) (by omega)
      | true =>
       rw [hq155] at E
       refine eg (v := u4) E (w_yes (g := 22) (s := 122) E rfl rfl (by decide) (E.get 0 rfl)) (run_move rfl (E.get 43 rfl)) fun a E => ?_
       refine eg (v := u5) E (w_yes (g := 22) (s := 122) E rfl rfl (by decide) (E.get 1 rfl)) (run_move rfl (E.get 26 rfl)) fun a E => ?_
       refine env_call (d := 125) (v := .bool true) E rfl (by decide) rfl (w_yes (g := 22) (s := 122) E rfl rfl (by decide) (E.get 2 rfl)) (run_call2 (enters_of Tryz.func17 (by kernel_rfl) rfl) rfl rfl (E.get 1 rfl) (E.get 0 rfl)) (by have h := same_calls hu4 hu5; rw [show ((g9 : List Sp) == (g9 : List Sp)) = true from beq_of rfl] at h; exact h) fun a w1 f1 E => ?_
       have hT := Tb.fr hT f1 (fun r hr => id)
       have h0 := Src.fr h0 f1
       have hu1 := Src.fr hu1 f1
       have hu4 := Src.fr hu4 f1
       have hu5 := Src.fr hu5 f1
       have hf := hf.trans' f1 (fun _ _ h => h.elim)
       clear f1
       refine ep (v := .bool true) E (run_pick_t rfl (E.get 3 rfl) (E.get 0 rfl)) fun a E => ?_
       refine env_set (d := 4) (v := .bool true) E rfl (by decide) (wanted_none rfl _) (run_assign rfl (E.get 0 rfl)) fun a E => ?_
       refine wpList_nil ?_
       refine then_n ?_
       refine wp_ret ?_
       exact ret_tmp (t := 4) rfl E (E.get 0 rfl) ⟨rfl, hf⟩
    | true =>
     have hl60 : l0.length ≤ 60 := by have := of_decide_eq_true hq152; omega
     refine wp_region_lit ?_
     refine ep (v := .slice (p0) l0.length c0) E (run_move rfl (E.get 12 rfl)) fun a E => ?_
     refine env_call (d := 32) (v := .tuple #[.string (ofL (textC l0)), .int .i64 0]) E rfl (by decide) rfl (wanted_none rfl _) (run_call1 (enters_of Tryz.func15 (by kernel_rfl) rfl) rfl rfl (E.get 0 rfl)) (text_is (t := (textC l0)) (c := 0) (textR_ok hq0 hl60) h0 (by omega) hT) fun a w1 f1 E => ?_
     have hT := Tb.fr hT f1 (fun r hr => id)
     have h0 := Src.fr h0 f1
     have hu1 := Src.fr hu1 f1
     have hf := hf.trans' f1 (fun _ _ h => h.elim)
     clear f1
     refine ep (v := .tuple #[.string (ofL (textC l0)), .int .i64 0]) E (run_move rfl (E.get 0 rfl)) fun a E => ?_
     refine ep (v := .string (ofL (textC l0))) E (run_ext0 rfl (E.get 0 rfl)) fun a E => ?_
     refine ep (v := .int .i64 0) E (run_ext1 rfl (E.get 1 rfl)) fun a E => ?_
     refine ep (v := .string (ofL (textC l0))) E (run_assign rfl (E.get 1 rfl)) fun a E => ?_
     refine ep (v := .int .i64 0) E (run_assign rfl (E.get 1 rfl)) fun a E => ?_
     refine wpList_nil ?_
     refine then_n ?_
     refine wp_seq ?_
     refine wp_seq ?_
     refine wp_region_lit ?_
     refine ep (v := .int .i64 0) E (run_move rfl (E.get 0 rfl)) fun a E => ?_
     refine ep (v := .bool true) E (run_ieql (m := 0) (n := 0) (E.get 0 rfl) rfl Tryz.underlying25 rfl) fun a E => ?_
     refine ep (v := .slice (p0) l0.length c0) E (run_move rfl (E.get 21 rfl)) fun a E => ?_
     refine env_call (d := 38) (v := .bool (vl (-1) l0)) E rfl (by decide) rfl (wanted_none rfl _) (run_call1 (enters_of Tryz.func18 (by kernel_rfl) rfl) rfl rfl (E.get 0 rfl)) (valid_calls h0) fun a w1 f1 E => ?_
     have hT := Tb.fr hT f1 (fun r hr => id)
     have h0 := Src.fr h0 f1
     have hu1 := Src.fr hu1 f1
     have hf := hf.trans' f1 (fun _ _ h => h.elim)
     clear f1
     refine ep (v := .bool true) E ((run_move rfl (E.get 0 rfl)).trans (by rw [hq148] <;> rfl)) fun a E => ?_
     refine eg (v := .slice (p0) l0.length c0) E (w_yes (g := 4) (s := 39) E rfl rfl (by decide) (E.get 0 rfl)) (run_move rfl (E.get 24 rfl)) fun a E => ?_
     refine eg (v := .int .i64 (l0.length : Int)) E (w_yes (g := 4) (s := 39) E rfl rfl (by decide) (E.get 1 rfl)) (run_len22 rfl (E.get 0 rfl)) fun a E => ?_
     refine eg (v := .bool true) E (w_yes (g := 4) (s := 39) E rfl rfl (by decide) (E.get 2 rfl)) ((run_ileq (E.get 0 rfl) rfl Tryz.underlying3 rfl).trans (by rw [hq152] <;> rfl)) fun a E => ?_
     refine ep (v := .bool true) E (run_pick_t rfl (E.get 3 rfl) (E.get 0 rfl)) fun a E => ?_
     refine ep (v := .bool false) E (run_bneq (E.get 7 rfl) (E.get 0 rfl) rfl) fun a E => ?_
     refine wpList_nil ?_
     refine then_n ?_
     refine wp_cond_false (E.get 0 rfl) ?_
     refine wp_skip ?_
     refine then_n ?_
     refine wp_seq ?_
     refine wp_seq ?_
     refine wp_region_lit ?_
     refine ep (v := .int .i64 0) E (run_move rfl (E.get 10 rfl)) fun a E => ?_
     refine ep (v := .bool true) E (run_ieql (m := 0) (n := 0) (E.get 0 rfl) rfl Tryz.underlying25 rfl) fun a E => ?_
     refine wpList_nil ?_
     refine then_n ?_
     refine wp_cond_true (E.get 0 rfl) ?_
     refine wp_seq ?_
     refine wp_region_lit ?_
     refine ep (v := .string (ofL (textC l0))) E (run_move rfl (E.get 13 rfl)) fun a E => ?_
     refine env_callv (d := 49) (R := fun u w8 => (∃ v, u = .tuple #[v, .int .i64 0, .int .i64 0] ∧ SpV w8 v (l0)) ∧ Fr (fun _ => False) w1 w8) E rfl (by decide) rfl (wanted_none rfl _) (run_call1 (enters_of Tryz.func13 (by kernel_rfl) rfl) rfl rfl (E.get 0 rfl)) (parse_ok (parse_text hq0 hl60) (textC_len hq0 hl60) hT) fun a w1 u ⟨⟨u6, hu, hu6⟩, f1⟩ E => ?_
     subst hu
     have hT := Tb.fr hT f1 (fun r hr => id)
     have h0 := Src.fr h0 f1
     have hu1 := Src.fr hu1 f1
     have hf := hf.trans' f1 (fun _ _ h => h.elim)
     clear f1
     refine ep (v := .tuple #[u6, .int .i64 0, .int .i64 0]) E (run_move rfl (E.get 0 rfl)) fun a E => ?_
     refine ep (v := u6) E (run_ex0of3 rfl (E.get 0 rfl)) fun a E => ?_
     refine ep (v := .int .i64 0) E (run_ex1of3 rfl (E.get 1 rfl)) fun a E => ?_
     refine ep (v := .int .i64 0) E (run_ex2of3 rfl (E.get 2 rfl)) fun a E => ?_
     refine ep (v := u6) E (run_assign rfl (E.get 2 rfl)) fun a E => ?_
     refine ep (v := .int .i64 0) E (run_assign rfl (E.get 2 rfl)) fun a E => ?_
     refine ep (v := .int .i64 0) E (run_assign rfl (E.get 2 rfl)) fun a E => ?_
     refine wpList_nil ?_
     refine then_n ?_
     refine wp_seq ?_
     refine wp_region_lit ?_
     refine ep (v := .int .i64 0) E (run_move rfl (E.get 1 rfl)) fun a E => ?_
     refine ep (v := .bool false) E (run_ineq (m := 0) (n := 0) (E.get 0 rfl) rfl Tryz.underlying25 rfl) fun a E => ?_
     refine ep (v := .bool false) E (run_move rfl (E.get 0 rfl)) fun a E => ?_
     refine eg (v := .int .i64 0) E (w_yes (g := 2) (s := 55) E rfl rfl (by decide) (E.get 0 rfl)) (run_move rfl (E.get 3 rfl)) fun a E => ?_
     refine eg (v := .bool false) E (w_yes (g := 2) (s := 55) E rfl rfl (by decide) (E.get 1 rfl)) (run_ineq (m := 0) (n := 0) (E.get 0 rfl) rfl Tryz.underlying3 rfl) fun a E => ?_
     refine ep (v := .bool false) E (run_pick_f rfl (E.get 2 rfl) (E.get 0 rfl)) fun a E => ?_
     refine ep (v := .bool false) E (run_move rfl (E.get 0 rfl)) fun a E => ?_
     refine eg (v := u6) E (w_yes (g := 6) (s := 59) E rfl rfl (by decide) (E.get 0 rfl)) (run_move rfl (E.get 9 rfl)) fun a E => ?_
     refine eg (v := .slice (p0) l0.length c0) E (w_yes (g := 6) (s := 59) E rfl rfl (by decide) (E.get 1 rfl)) (run_move rfl (E.get 48 rfl)) fun a E => ?_
     refine env_call (d := 62) (v := .bool true) E rfl (by decide) rfl (w_yes (g := 6) (s := 59) E rfl rfl (by decide) (E.get 2 rfl)) (run_call2 (enters_of Tryz.func17 (by kernel_rfl) rfl) rfl rfl (E.get 1 rfl) (E.get 0 rfl)) (by have h := same_calls hu6 h0; rw [show ((l0 : List Sp) == (l0 : List Sp)) = true from beq_of rfl] at h; exact h) fun a w1 f1 E => ?_
     have hT := Tb.fr hT f1 (fun r hr => id)
     have h0 := Src.fr h0 f1
     have hu1 := Src.fr hu1 f1
     have hu6 := Src.fr hu6 f1
     have hf := hf.trans' f1 (fun _ _ h => h.elim)
     clear f1
     refine eg (v := .bool false) E (w_yes (g := 6) (s := 59) E rfl rfl (by decide) (E.get 3 rfl)) (run_not rfl (E.get 0 rfl)) fun a E => ?_
     refine ep (v := .bool false) E (run_pick_f rfl (E.get 4 rfl) (E.get 0 rfl)) fun a E => ?_
     refine wpList_nil ?_
     refine then_n ?_
     refine wp_cond_false (E.get 0 rfl) ?_
     refine wp_skip ?_
     refine then_n ?_
     refine wp_seq ?_
     rcases parse_cases s with ⟨e9, a9, hP, he, ha0, ha1⟩ | ⟨g9, hP, hgv, hg60⟩
     ·refine wp_region_lit ?_
      refine ep (v := .string (ofL s)) E (run_move rfl (E.get 53 rfl)) fun a E => ?_
      refine env_call (d := 67) E rfl (by decide) rfl (wanted_none rfl _) (run_call1 (enters_of Tryz.func13 (by kernel_rfl) rfl) rfl rfl (E.get 0 rfl)) (parse_err (c := e9) (x := a9) (hP) (by omega) hT) fun a w1 f1 E => ?_
      have hT := Tb.fr hT f1 (fun r hr => id)
      have h0 := Src.fr h0 f1
      have hu1 := Src.fr hu1 f1
      have hu6 := Src.fr hu6 f1
      have hf := hf.trans' f1 (fun _ _ h => h.elim)
      clear f1
      refine ep (v := .tuple #[.slice none 0 0, .int .i64 e9, .int .i64 a9]) E (run_move rfl (E.get 0 rfl)) fun a E => ?_
      refine ep (v := .slice none 0 0) E (run_ex0of3 rfl (E.get 0 rfl)) fun a E => ?_
      refine ep (v := .int .i64 e9) E (run_ex1of3 rfl (E.get 1 rfl)) fun a E => ?_
      refine ep (v := .int .i64 a9) E (run_ex2of3 rfl (E.get 2 rfl)) fun a E => ?_
      refine ep (v := .slice none 0 0) E (run_assign rfl (E.get 2 rfl)) fun a E => ?_
      refine ep (v := .int .i64 e9) E (run_assign rfl (E.get 2 rfl)) fun a E => ?_
      refine ep (v := .int .i64 a9) E (run_assign rfl (E.get 2 rfl)) fun a E => ?_
      refine wpList_nil ?_
      refine then_n ?_
      refine wp_seq ?_
      refine wp_seq ?_
      refine wp_region_lit ?_
      refine ep (v := .int .i64 e9) E (run_move rfl (E.get 1 rfl)) fun a E => ?_
      refine ep (v := .bool (e9 != 0)) E (run_ineq (E.get 0 rfl) rfl Tryz.underlying25 rfl) fun a E => ?_
      refine wpList_nil ?_
      refine then_n ?_
      cases hq156 : (e9 != 0) with
      | false =>
       rw [hq156] at E
       exact absurd (by simpa using hq156) he
      | true =>
       rw [hq156] at E
       refine wp_cond_true (E.get 0 rfl) ?_
       refine wp_seq ?_
       refine wp_region_lit ?_
       refine ep (v := .bool true) E (run_move rfl (E.get 60 rfl)) fun a E => ?_
       refine ep (v := .bool true) E (run_move rfl (E.get 0 rfl)) fun a E => ?_
       refine eg (v := .slice none 0 0) E (w_yes (g := 1) (s := 74) E rfl rfl (by decide) (E.get 0 rfl)) (run_move rfl (E.get 6 rfl)) fun a E => ?_
       refine eg (v := .int .i64 0) E (w_yes (g := 1) (s := 74) E rfl rfl (by decide) (E.get 1 rfl)) (run_len22 rfl (E.get 0 rfl)) fun a E => ?_
       refine eg (v := .bool true) E (w_yes (g := 1) (s := 74) E rfl rfl (by decide) (E.get 2 rfl)) (run_ieql (m := 0) (n := 0) (E.get 0 rfl) rfl Tryz.underlying3 rfl) fun a E => ?_
       refine ep (v := .bool true) E (run_pick_t rfl (E.get 3 rfl) (E.get 0 rfl)) fun a E => ?_
       refine ep (v := .bool true) E (run_move rfl (E.get 0 rfl)) fun a E => ?_
       refine eg (v := .int .i64 a9) E (w_yes (g := 6) (s := 79) E rfl rfl (by decide) (E.get 0 rfl)) (run_move rfl (E.get 9 rfl)) fun a E => ?_
       refine eg (v := .bool (decide ((-1) ≤ a9))) E (w_yes (g := 6) (s := 79) E rfl rfl (by decide) (E.get 1 rfl)) (run_igeq (E.get 0 rfl) rfl Tryz.underlying3 rfl) fun a E => ?_
       refine ep (v := .bool (decide ((-1) ≤ a9))) E (run_pick_t rfl (E.get 2 rfl) (E.get 0 rfl)) fun a E => ?_
       refine ep (v := .bool (decide ((-1) ≤ a9))) E (run_move rfl (E.get 0 rfl)) fun a E => ?_
       cases hq157 : (decide ((-1) ≤ a9)) with
       | false =>
        rw [hq157] at E
        exact absurd (of_decide_eq_false hq157) (by omega)
       | true =>
        rw [hq157] at E
        refine eg (v := .int .i64 a9) E (w_yes (g := 10) (s := 83) E rfl rfl (by decide) (E.get 0 rfl)) (run_move rfl (E.get 13 rfl)) fun a E => ?_
        refine eg (v := .string (ofL s)) E (w_yes (g := 10) (s := 83) E rfl rfl (by decide) (E.get 1 rfl)) (run_move rfl (E.get 76 rfl)) fun a E => ?_
        refine eg (v := .int .i64 (s.length : Int)) E (w_yes (g := 10) (s := 83) E rfl rfl (by decide) (E.get 2 rfl)) (run_slen rfl (E.get 0 rfl)) fun a E => ?_
        refine eg (v := .bool (decide (a9 ≤ (s.length : Int)))) E (w_yes (g := 10) (s := 83) E rfl rfl (by decide) (E.get 3 rfl)) (run_ileq (E.get 2 rfl) (E.get 0 rfl) Tryz.underlying3 rfl) fun a E => ?_
        refine ep (v := .bool (decide (a9 ≤ (s.length : Int)))) E (run_pick_t rfl (E.get 4 rfl) (E.get 0 rfl)) fun a E => ?_
        refine env_set (d := 4) (v := .bool (decide (a9 ≤ (s.length : Int)))) E rfl (by decide) (wanted_none rfl _) (run_assign rfl (E.get 0 rfl)) fun a E => ?_
        refine wpList_nil ?_
        refine then_n ?_
        refine wp_ret ?_
        refine then_r ?_
        have hz : (decide (a9 ≤ (s.length : Int))) = true := decide_eq_true (by omega)
        exact ret_tmp (t := 4) rfl E (E.get 0 rfl) ⟨by rw [hz], hf⟩
     ·refine wp_region_lit ?_
      refine ep (v := .string (ofL s)) E (run_move rfl (E.get 53 rfl)) fun a E => ?_
      refine env_callv (d := 67) (R := fun u w8 => (∃ v, u = .tuple #[v, .int .i64 0, .int .i64 0] ∧ SpV w8 v (g9)) ∧ Fr (fun _ => False) w1 w8) E rfl (by decide) rfl (wanted_none rfl _) (run_call1 (enters_of Tryz.func13 (by kernel_rfl) rfl) rfl rfl (E.get 0 rfl)) (parse_ok (hP) (by omega) hT) fun a w1 u ⟨⟨u7, hu, hu7⟩, f1⟩ E => ?_
      subst hu
      have hT := Tb.fr hT f1 (fun r hr => id)
      have h0 := Src.fr h0 f1
      have hu1 := Src.fr hu1 f1
      have hu6 := Src.fr hu6 f1
      have hf := hf.trans' f1 (fun _ _ h => h.elim)
      clear f1
      refine ep (v := .tuple #[u7, .int .i64 0, .int .i64 0]) E (run_move rfl (E.get 0 rfl)) fun a E => ?_
      refine ep (v := u7) E (run_ex0of3 rfl (E.get 0 rfl)) fun a E => ?_
      refine ep (v := .int .i64 0) E (run_ex1of3 rfl (E.get 1 rfl)) fun a E => ?_
      refine ep (v := .int .i64 0) E (run_ex2of3 rfl (E.get 2 rfl)) fun a E => ?_
      refine ep (v := u7) E (run_assign rfl (E.get 2 rfl)) fun a E => ?_
      refine ep (v := .int .i64 0) E (run_assign rfl (E.get 2 rfl)) fun a E => ?_
      refine ep (v := .int .i64 0) E (run_assign rfl (E.get 2 rfl)) fun a E => ?_
      refine wpList_nil ?_
      refine then_n ?_
      refine wp_seq ?_
      refine wp_seq ?_
      refine wp_region_lit ?_
      refine ep (v := .int .i64 0) E (run_move rfl (E.get 1 rfl)) fun a E => ?_
      refine ep (v := .bool false) E (run_ineq (m := 0) (n := 0) (E.get 0 rfl) rfl Tryz.underlying25 rfl) fun a E => ?_
      refine wpList_nil ?_
      refine then_n ?_
      refine wp_cond_false (E.get 0 rfl) ?_
      refine wp_skip ?_
      refine then_n ?_
      refine wp_seq ?_
      refine wp_region_lit ?_
      refine ep (v := u7) E (run_move rfl (E.get 4 rfl)) fun a E => ?_
      refine env_call (d := 91) (v := .tuple #[.string (ofL (textC g9)), .int .i64 0]) E rfl (by decide) rfl (wanted_none rfl _) (run_call1 (enters_of Tryz.func15 (by kernel_rfl) rfl) rfl rfl (E.get 0 rfl)) (text_is (t := (textC g9)) (c := 0) (textR_ok hgv hg60) hu7 (by omega) hT) fun a w1 f1 E => ?_
      have hT := Tb.fr hT f1 (fun r hr => id)
      have h0 := Src.fr h0 f1
      have hu1 := Src.fr hu1 f1
      have hu6 := Src.fr hu6 f1
      have hu7 := Src.fr hu7 f1
      have hf := hf.trans' f1 (fun _ _ h => h.elim)
      clear f1
      refine ep (v := .tuple #[.string (ofL (textC g9)), .int .i64 0]) E (run_move rfl (E.get 0 rfl)) fun a E => ?_
      refine ep (v := .string (ofL (textC g9))) E (run_ext0 rfl (E.get 0 rfl)) fun a E => ?_
      refine ep (v := .int .i64 0) E (run_ext1 rfl (E.get 1 rfl)) fun a E => ?_
      refine ep (v := .string (ofL (textC g9))) E (run_assign rfl (E.get 1 rfl)) fun a E => ?_
      refine ep (v := .int .i64 0) E (run_assign rfl (E.get 1 rfl)) fun a E => ?_
      refine wpList_nil ?_
      refine then_n ?_
      refine wp_seq ?_
      refine wp_region_lit ?_
      refine ep (v := .string (ofL (textC g9))) E (run_move rfl (E.get 1 rfl)) fun a E => ?_
      refine env_callv (d := 96) (R := fun u w8 => (∃ v, u = .tuple #[v, .int .i64 0, .int .i64 0] ∧ SpV w8 v (g9)) ∧ Fr (fun _ => False) w1 w8) E rfl (by decide) rfl (wanted_none rfl _) (run_call1 (enters_of Tryz.func13 (by kernel_rfl) rfl) rfl rfl (E.get 0 rfl)) (parse_ok (parse_text hgv hg60) (textC_len hgv hg60) hT) fun a w1 u ⟨⟨u8, hu, hu8⟩, f1⟩ E => ?_
      subst hu
      have hT := Tb.fr hT f1 (fun r hr => id)
      have h0 := Src.fr h0 f1
      have hu1 := Src.fr hu1 f1
      have hu6 := Src.fr hu6 f1
      have hu7 := Src.fr hu7 f1
      have hf := hf.trans' f1 (fun _ _ h => h.elim)
      clear f1
      refine ep (v := .tuple #[u8, .int .i64 0, .int .i64 0]) E (run_move rfl (E.get 0 rfl)) fun a E => ?_
      refine ep (v := u8) E (run_ex0of3 rfl (E.get 0 rfl)) fun a E => ?_
      refine ep (v := .int .i64 0) E (run_ex1of3 rfl (E.get 1 rfl)) fun a E => ?_
      refine ep (v := .int .i64 0) E (run_ex2of3 rfl (E.get 2 rfl)) fun a E => ?_
      refine ep (v := u8) E (run_assign rfl (E.get 2 rfl)) fun a E => ?_
      refine ep (v := .int .i64 0) E (run_assign rfl (E.get 2 rfl)) fun a E => ?_
      refine ep (v := .int .i64 0) E (run_assign rfl (E.get 2 rfl)) fun a E => ?_
      refine wpList_nil ?_
      refine then_n ?_
      refine wp_seq ?_
      refine wp_region_lit ?_
      refine ep (v := .bool true) E (run_move rfl (E.get 76 rfl)) fun a E => ?_
      refine ep (v := .bool true) E (run_move rfl (E.get 0 rfl)) fun a E => ?_
      refine eg (v := .int .i64 0) E (w_yes (g := 1) (s := 101) E rfl rfl (by decide) (E.get 0 rfl)) (run_move rfl (E.get 20 rfl)) fun a E => ?_
      refine eg (v := .bool true) E (w_yes (g := 1) (s := 101) E rfl rfl (by decide) (E.get 1 rfl)) (run_ieql (m := 0) (n := 0) (E.get 0 rfl) rfl Tryz.underlying3 rfl) fun a E => ?_
      refine ep (v := .bool true) E (run_pick_t rfl (E.get 2 rfl) (E.get 0 rfl)) fun a E => ?_
      refine ep (v := .bool true) E (run_move rfl (E.get 0 rfl)) fun a E => ?_
      refine eg (v := .int .i64 0) E (w_yes (g := 5) (s := 105) E rfl rfl (by decide) (E.get 0 rfl)) (run_move rfl (E.get 15 rfl)) fun a E => ?_
      refine eg (v := .bool true) E (w_yes (g := 5) (s := 105) E rfl rfl (by decide) (E.get 1 rfl)) (run_ieql (m := 0) (n := 0) (E.get 0 rfl) rfl Tryz.underlying25 rfl) fun a E => ?_
      refine ep (v := .bool true) E (run_pick_t rfl (E.get 2 rfl) (E.get 0 rfl)) fun a E => ?_
      refine ep (v := .bool true) E (run_move rfl (E.get 0 rfl)) fun a E => ?_
      refine eg (v := .int .i64 0) E (w_yes (g := 9) (s := 109) E rfl rfl (by decide) (E.get 0 rfl)) (run_move rfl (E.get 11 rfl)) fun a E => ?_
      refine eg (v := .bool true) E (w_yes (g := 9) (s := 109) E rfl rfl (by decide) (E.get 1 rfl)) (run_ieql (m := 0) (n := 0) (E.get 0 rfl) rfl Tryz.underlying25 rfl) fun a E => ?_
      refine ep (v := .bool true) E (run_pick_t rfl (E.get 2 rfl) (E.get 0 rfl)) fun a E => ?_
      refine ep (v := .bool true) E (run_move rfl (E.get 0 rfl)) fun a E => ?_
      refine eg (v := u7) E (w_yes (g := 13) (s := 113) E rfl rfl (by decide) (E.get 0 rfl)) (run_move rfl (E.get 34 rfl)) fun a E => ?_
      refine env_call (d := 115) (v := .bool true) E rfl (by decide) rfl (w_yes (g := 13) (s := 113) E rfl rfl (by decide) (E.get 1 rfl)) (run_call1 (enters_of Tryz.func18 (by kernel_rfl) rfl) rfl rfl (E.get 0 rfl)) (by have h := valid_calls hu7; rw [hgv] at h; exact h) fun a w1 f1 E => ?_
      have hT := Tb.fr hT f1 (fun r hr => id)
      have h0 := Src.fr h0 f1
      have hu1 := Src.fr hu1 f1
      have hu6 := Src.fr hu6 f1
      have hu7 := Src.fr hu7 f1
      have hu8 := Src.fr hu8 f1
      have hf := hf.trans' f1 (fun _ _ h => h.elim)
      clear f1
      refine ep (v := .bool true) E (run_pick_t rfl (E.get 2 rfl) (E.get 0 rfl)) fun a E => ?_
      refine ep (v := .bool true) E (run_move rfl (E.get 0 rfl)) fun a E => ?_
      refine eg (v := u7) E (w_yes (g := 17) (s := 117) E rfl rfl (by decide) (E.get 0 rfl)) (run_move rfl (E.get 38 rfl)) fun a E => ?_
      refine eg (v := .int .i64 (g9.length : Int)) E (w_yes (g := 17) (s := 117) E rfl rfl (by decide) (E.get 1 rfl)) (run_len22s hu7 rfl (E.get 0 rfl)) fun a E => ?_
      refine eg (v := .bool (decide ((g9.length : Int) ≤ 60))) E (w_yes (g := 17) (s := 117) E rfl rfl (by decide) (E.get 2 rfl)) (run_ileq (E.get 0 rfl) rfl Tryz.underlying3 rfl) fun a E => ?_
      refine ep (v := .bool (decide ((g9.length : Int) ≤ 60))) E (run_pick_t rfl (E.get 3 rfl) (E.get 0 rfl)) fun a E => ?_
      refine ep (v := .bool (decide ((g9.length : Int) ≤ 60))) E (run_move rfl (E.get 0 rfl)) fun a E => ?_
      cases hq158 : (decide ((g9.length : Int) ≤ 60)) with
      | false =>
       rw [hq158] at E
       exact absurd (of_decide_eq_false hq158) (by omega)
      | true =>
       rw [hq158] at E
       refine eg (v := u7) E (w_yes (g := 22) (s := 122) E rfl rfl (by decide) (E.get 0 rfl)) (run_move rfl (E.get 43 rfl)) fun a E => ?_
       refine eg (v := u8) E (w_yes (g := 22) (s := 122) E rfl rfl (by decide) (E.get 1 rfl)) (run_move rfl (E.get 26 rfl)) fun a E => ?_
       refine env_call (d := 125) (v := .bool true) E rfl (by decide) rfl (w_yes (g := 22) (s := 122) E rfl rfl (by decide) (E.get 2 rfl)) (run_call2 (enters_of Tryz.func17 (by kernel_rfl) rfl) rfl rfl (E.get 1 rfl) (E.get 0 rfl)) (by have h := same_calls hu7 hu8; rw [show ((g9 : List Sp) == (g9 : List Sp)) = true from beq_of rfl] at h; exact h) fun a w1 f1 E => ?_
       have hT := Tb.fr hT f1 (fun r hr => id)
       have h0 := Src.fr h0 f1
       have hu1 := Src.fr hu1 f1
       have hu6 := Src.fr hu6 f1
       have hu7 := Src.fr hu7 f1
       have hu8 := Src.fr hu8 f1
       have hf := hf.trans' f1 (fun _ _ h => h.elim)
       clear f1
       refine ep (v := .bool true) E (run_pick_t rfl (E.get 3 rfl) (E.get 0 rfl)) fun a E => ?_
       refine env_set (d := 4) (v := .bool true) E rfl (by decide) (wanted_none rfl _) (run_assign rfl (E.get 0 rfl)) fun a E => ?_
       refine wpList_nil ?_
       refine then_n ?_
       refine wp_ret ?_
       exact ret_tmp (t := 4) rfl E (E.get 0 rfl) ⟨rfl, hf⟩
 | true =>
  rw [hq146] at E
  refine env_skip (d := 24) (g := 3) (s := 23) E rfl (by decide) rfl rfl rfl (by decide) (E.get 0 rfl) fun a E => ?_
  refine env_skip (d := 25) (g := 3) (s := 23) E rfl (by decide) rfl rfl rfl (by decide) (E.get 1 rfl) fun a E => ?_
  refine env_skip (d := 26) (g := 3) (s := 23) E rfl (by decide) rfl rfl rfl (by decide) (E.get 2 rfl) fun a E => ?_
  refine env_skip (d := 27) (g := 3) (s := 23) E rfl (by decide) rfl rfl rfl (by decide) (E.get 3 rfl) fun a E => ?_
  refine ep (v := .bool true) E (run_pick_t rfl (E.get 4 rfl) rfl) fun a E => ?_
  refine wpList_nil ?_
  refine then_n ?_
  refine wp_cond_true (E.get 0 rfl) ?_
  refine wp_seq ?_
  refine wp_region_lit ?_
  refine ep (v := .bool true) E (run_move rfl (E.get 9 rfl)) fun a E => ?_
  refine env_set (d := 4) (v := .bool true) E rfl (by decide) (wanted_none rfl _) (run_assign rfl (E.get 0 rfl)) fun a E => ?_
  refine wpList_nil ?_
  refine then_n ?_
  refine wp_ret ?_
  refine then_r ?_
  exact ret_tmp (t := 4) rfl E (E.get 0 rfl) ⟨rfl, hf⟩
end Go.Proofs.YtjaffpnegdcjnaaGreatDoor
