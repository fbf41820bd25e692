/- The laws of the sets: a walk. -/
import Derived.Test.YtjaffpnegdcjnaaGreatDoorQF2
set_option linter.unusedVariables false
set_option linter.unusedSimpArgs false
namespace Go.Proofs.YtjaffpnegdcjnaaGreatDoor
open Go.RowKit Go.Pl
set_option maxRecDepth 100000 in
set_option maxHeartbeats 4000000 in
theorem laws_calls {w : World} {v0 v1 : Value} {l0 l1 : List Sp} (h0 : SpV w v0 l0) (h1 : SpV w v1 l1) (hT : Tb w) : Calls Tryz.prog 8 #[v0, v1] w fun e w' => e = .returned (.bool true) ∧ Fr (fun _ => False) w w' := by
 obtain ⟨p0, c0, hv0, hle0, hcap0, hs0, hz0⟩ := h0
 subst hv0
 have h0 : SpV w (.slice p0 l0.length c0) l0 := ⟨p0, c0, rfl, hle0, hcap0, hs0, hz0⟩
 obtain ⟨p1, c1, hv1, hle1, hcap1, hs1, hz1⟩ := h1
 subst hv1
 have h1 : SpV w (.slice p1 l1.length c1) l1 := ⟨p1, c1, rfl, hle1, hcap1, hs1, hz1⟩
 refine wp_start2 Tryz.func8 rfl rfl (n := 93) (by decide) fun a E => ?_
 have hf : Fr (fun _ => False) w w := Fr.refl _ _
 refine wp_seq ?_
 refine wp_region_lit ?_
 refine ep (v := .bool false) E (run_assign rfl rfl) fun a E => ?_
 refine wpList_nil ?_
 refine then_n ?_
 refine wp_seq ?_
 refine wp_region_lit ?_
 refine env_call (d := 10) (v := .bool true) E rfl (by decide) rfl (wanted_none rfl _) (run_call0 (enters_of Tryz.func11 (by kernel_rfl) rfl) rfl rfl) (head_calls hT) fun a w1 f1 E => ?_
 have hT := Tb.fr hT f1 (fun r hr => id)
 have h0 := Src.fr h0 f1
 have h1 := Src.fr h1 f1
 have hf := hf.trans' f1 (fun _ _ h => h.elim)
 clear f1
 refine ep (v := .bool true) E (run_assign rfl (E.get 0 rfl)) fun a E => ?_
 refine wpList_nil ?_
 refine then_n ?_
 refine wp_seq ?_
 refine wp_seq ?_
 refine wp_region_lit ?_
 refine ep (v := .slice (p0) l0.length c0) E (run_move rfl (E.get 3 rfl)) fun a E => ?_
 refine ep (v := .slice (p1) l1.length c1) E (run_move rfl (E.get 5 rfl)) fun a E => ?_
 refine env_sl2 (d := 13) E rfl (by decide) rfl (wanted_none rfl _) rfl (E.get 1 rfl) (E.get 0 rfl) fun a w1 u8 hu8 f1 E => ?_
 have hT := Tb.fr hT f1 (fun r hr => id)
 have h0 := Src.fr h0 f1
 have h1 := Src.fr h1 f1
 have hf := hf.trans' f1 (fun _ _ h => h.elim)
 clear f1
 refine env_call (d := 14) (v := .bool (fewB [(p0, l0.length, c0), (p1, l1.length, c1)])) E rfl (by decide) rfl (wanted_none rfl _) (run_call1 (enters_of Tryz.func12 (by kernel_rfl) rfl) rfl rfl (E.get 0 rfl)) (few_calls hu8) fun a w1 f1 E => ?_
 have hT := Tb.fr hT f1 (fun r hr => id)
 have h0 := Src.fr h0 f1
 have h1 := Src.fr h1 f1
 have hu8 := Src.fr hu8 f1
 have hf := hf.trans' f1 (fun _ _ h => h.elim)
 clear f1
 refine ep (v := .bool (!(fewB [(p0, l0.length, c0), (p1, l1.length, c1)]))) E (run_not rfl (E.get 0 rfl)) fun a E => ?_
 refine ep (v := .bool (!(fewB [(p0, l0.length, c0), (p1, l1.length, c1)]))) E (run_move rfl (E.get 0 rfl)) fun a E => ?_
 cases hq147 : (fewB [(p0, l0.length, c0), (p1, l1.length, c1)]) with
 | false =>
  rw [hq147] at E
  refine env_skip (d := 17) (g := 5) (s := 16) E rfl (by decide) rfl rfl rfl (by decide) (E.get 0 rfl) fun a E => ?_
  refine env_skip (d := 18) (g := 5) (s := 16) E rfl (by decide) rfl rfl rfl (by decide) (E.get 1 rfl) fun a E => ?_
  refine env_skip (d := 19) (g := 5) (s := 16) E rfl (by decide) rfl rfl rfl (by decide) (E.get 2 rfl) fun a E => ?_
  refine ep (v := .bool true) E (run_pick_t rfl (E.get 3 rfl) rfl) fun a E => ?_
  refine ep (v := .bool true) E (run_move rfl (E.get 0 rfl)) fun a E => ?_
  refine env_skip (d := 22) (g := 10) (s := 21) E rfl (by decide) rfl rfl rfl (by decide) (E.get 0 rfl) fun a E => ?_
  refine env_skip (d := 23) (g := 10) (s := 21) E rfl (by decide) rfl rfl rfl (by decide) (E.get 1 rfl) fun a E => ?_
  refine env_skip (d := 24) (g := 10) (s := 21) E rfl (by decide) rfl rfl rfl (by decide) (E.get 2 rfl) fun a E => ?_
  refine ep (v := .bool true) E (run_pick_t rfl (E.get 3 rfl) rfl) fun a E => ?_
  refine wpList_nil ?_
  refine then_n ?_
  refine wp_cond_true (E.get 0 rfl) ?_
  refine wp_seq ?_
  refine wp_region_lit ?_
  refine ep (v := .bool true) E (run_move rfl (E.get 15 rfl)) fun a E => ?_
  refine env_set (d := 4) (v := .bool true) E rfl (by decide) (wanted_none rfl _) (run_assign rfl (E.get 0 rfl)) fun a E => ?_
  refine wpList_nil ?_
  refine then_n ?_
  refine wp_ret ?_
  refine then_r ?_
  exact ret_tmp (t := 4) rfl E (E.get 0 rfl) ⟨rfl, hf⟩
 | true =>
  rw [hq147] at E
  have hfew := few2 hq147
  simp only at hfew
  have hn0 := hfew.1
  have hn1 := hfew.2
  refine eg (v := .slice (p0) l0.length c0) E (w_yes (g := 5) (s := 16) E rfl rfl (by decide) (E.get 0 rfl)) (run_move rfl (E.get 9 rfl)) fun a E => ?_
  refine env_call (d := 18) (v := .bool (vl (-1) l0)) E rfl (by decide) rfl (w_yes (g := 5) (s := 16) E rfl rfl (by decide) (E.get 1 rfl)) (run_call1 (enters_of Tryz.func18 (by kernel_rfl) rfl) rfl rfl (E.get 0 rfl)) (valid_calls h0) fun a w1 f1 E => ?_
  have hT := Tb.fr hT f1 (fun r hr => id)
  have h0 := Src.fr h0 f1
  have h1 := Src.fr h1 f1
  have hu8 := Src.fr hu8 f1
  have hf := hf.trans' f1 (fun _ _ h => h.elim)
  clear f1
  refine eg (v := .bool (!(vl (-1) l0))) E (w_yes (g := 5) (s := 16) E rfl rfl (by decide) (E.get 2 rfl)) (run_not rfl (E.get 0 rfl)) fun a E => ?_
  refine ep (v := .bool (!(vl (-1) l0))) E (run_pick_f rfl (E.get 3 rfl) (E.get 0 rfl)) fun a E => ?_
  refine ep (v := .bool (!(vl (-1) l0))) E (run_move rfl (E.get 0 rfl)) fun a E => ?_
  cases hq148 : (vl (-1) l0) with
  | false =>
   rw [hq148] at E
   refine env_skip (d := 22) (g := 10) (s := 21) E rfl (by decide) rfl rfl rfl (by decide) (E.get 0 rfl) fun a E => ?_
   refine env_skip (d := 23) (g := 10) (s := 21) E rfl (by decide) rfl rfl rfl (by decide) (E.get 1 rfl) fun a E => ?_
   refine env_skip (d := 24) (g := 10) (s := 21) E rfl (by decide) rfl rfl rfl (by decide) (E.get 2 rfl) fun a E => ?_
   refine ep (v := .bool true) E (run_pick_t rfl (E.get 3 rfl) rfl) fun a E => ?_
   refine wpList_nil ?_
   refine then_n ?_
   refine wp_cond_true (E.get 0 rfl) ?_
   refine wp_seq ?_
   refine wp_region_lit ?_
   refine ep (v := .bool true) E (run_move rfl (E.get 15 rfl)) fun a E => ?_
   refine env_set (d := 4) (v := .bool true) E rfl (by decide) (wanted_none rfl _) (run_assign rfl (E.get 0 rfl)) fun a E => ?_
   refine wpList_nil ?_
   refine then_n ?_
   refine wp_ret ?_
   refine then_r ?_
   exact ret_tmp (t := 4) rfl E (E.get 0 rfl) ⟨rfl, hf⟩
  | true =>
   rw [hq148] at E
   have hq0 : vl (-1) l0 = true := hq148
   refine eg (v := .slice (p1) l1.length c1) E (w_yes (g := 10) (s := 21) E rfl rfl (by decide) (E.get 0 rfl)) (run_move rfl (E.get 15 rfl)) fun a E => ?_
   refine env_call (d := 23) (v := .bool (vl (-1) l1)) E rfl (by decide) rfl (w_yes (g := 10) (s := 21) E rfl rfl (by decide) (E.get 1 rfl)) (run_call1 (enters_of Tryz.func18 (by kernel_rfl) rfl) rfl rfl (E.get 0 rfl)) (valid_calls h1) fun a w1 f1 E => ?_
   have hT := Tb.fr hT f1 (fun r hr => id)
   have h0 := Src.fr h0 f1
   have h1 := Src.fr h1 f1
   have hu8 := Src.fr hu8 f1
   have hf := hf.trans' f1 (fun _ _ h => h.elim)
   clear f1
   refine eg (v := .bool (!(vl (-1) l1))) E (w_yes (g := 10) (s := 21) E rfl rfl (by decide) (E.get 2 rfl)) (run_not rfl (E.get 0 rfl)) fun a E => ?_
   refine ep (v := .bool (!(vl (-1) l1))) E (run_pick_f rfl (E.get 3 rfl) (E.get 0 rfl)) fun a E => ?_
   refine wpList_nil ?_
   refine then_n ?_
   cases hq149 : (vl (-1) l1) with
   | false =>
    rw [hq149] at E
    refine wp_cond_true (E.get 0 rfl) ?_
    refine wp_seq ?_
    refine wp_region_lit ?_
    refine ep (v := .bool true) E (run_move rfl (E.get 15 rfl)) fun a E => ?_
    refine env_set (d := 4) (v := .bool true) E rfl (by decide) (wanted_none rfl _) (run_assign rfl (E.get 0 rfl)) fun a E => ?_
    refine wpList_nil ?_
    refine then_n ?_
    refine wp_ret ?_
    refine then_r ?_
    exact ret_tmp (t := 4) rfl E (E.get 0 rfl) ⟨rfl, hf⟩
   | true =>
    rw [hq149] at E
    have hq1 : vl (-1) l1 = true := hq149
    refine wp_cond_false (E.get 0 rfl) ?_
    refine wp_skip ?_
    refine then_n ?_
    refine wp_seq ?_
    refine wp_region_lit ?_
    refine ep (v := .slice (p0) l0.length c0) E (run_move rfl (E.get 18 rfl)) fun a E => ?_
    refine env_callv (d := 28) (R := fun u w8 => SpV w8 u (notQ l0) ∧ Fr (fun _ => False) w1 w8) E rfl (by decide) rfl (wanted_none rfl _) (run_call1 (enters_of Tryz.func25 (by kernel_rfl) rfl) rfl rfl (E.get 0 rfl)) ((not_calls h0 (by omega)).mono fun e w8 h => by obtain ⟨u, rfl, h1, h2⟩ := h; exact ⟨_, rfl, ow.Src spL_len h1, h2⟩) fun a w1 u9 ⟨hu9, f1⟩ E => ?_
    have hT := Tb.fr hT f1 (fun r hr => id)
    have h0 := Src.fr h0 f1
    have h1 := Src.fr h1 f1
    have hu8 := Src.fr hu8 f1
    have hf := hf.trans' f1 (fun _ _ h => h.elim)
    clear f1
    refine ep (v := u9) E (run_assign rfl (E.get 0 rfl)) fun a E => ?_
    refine wpList_nil ?_
    refine then_n ?_
    refine wp_seq ?_
    refine wp_region_lit ?_
    refine ep (v := .slice (p1) l1.length c1) E (run_move rfl (E.get 22 rfl)) fun a E => ?_
    refine env_callv (d := 30) (R := fun u w8 => SpV w8 u (notQ l1) ∧ Fr (fun _ => False) w1 w8) E rfl (by decide) rfl (wanted_none rfl _) (run_call1 (enters_of Tryz.func25 (by kernel_rfl) rfl) rfl rfl (E.get 0 rfl)) ((not_calls h1 (by omega)).mono fun e w8 h => by obtain ⟨u, rfl, h1, h2⟩ := h; exact ⟨_, rfl, ow.Src spL_len h1, h2⟩) fun a w1 u10 ⟨hu10, f1⟩ E => ?_
    have hT := Tb.fr hT f1 (fun r hr => id)
    have h0 := Src.fr h0 f1
    have h1 := Src.fr h1 f1
    have hu8 := Src.fr hu8 f1
    have hu9 := Src.fr hu9 f1
    have hf := hf.trans' f1 (fun _ _ h => h.elim)
    clear f1
    refine ep (v := u10) E (run_assign rfl (E.get 0 rfl)) fun a E => ?_
    refine wpList_nil ?_
    refine then_n ?_
    refine wp_seq ?_
    refine wp_region_lit ?_
    refine ep (v := .slice (p0) l0.length c0) E (run_move rfl (E.get 24 rfl)) fun a E => ?_
    refine ep (v := u9) E (run_move rfl (E.get 4 rfl)) fun a E => ?_
    refine env_callv (d := 33) (R := fun u w8 => SpV w8 u (eitherQ l0 (notQ l0)) ∧ Fr (fun _ => False) w1 w8) E rfl (by decide) rfl (wanted_none rfl _) (run_call2 (enters_of Tryz.func24 (by kernel_rfl) rfl) rfl rfl (E.get 1 rfl) (E.get 0 rfl)) ((either_calls h0 hu9 (by omega) (by have := notQ_len l0; omega)).mono fun e w8 h => by obtain ⟨u, rfl, h1, h2⟩ := h; exact ⟨_, rfl, ow.Src spL_len h1, h2⟩) fun a w1 u11 ⟨hu11, f1⟩ E => ?_
    have hT := Tb.fr hT f1 (fun r hr => id)
    have h0 := Src.fr h0 f1
    have h1 := Src.fr h1 f1
    have hu8 := Src.fr hu8 f1
    have hu9 := Src.fr hu9 f1
    have hu10 := Src.fr hu10 f1
    have hf := hf.trans' f1 (fun _ _ h => h.elim)
    clear f1
    refine ep (v := u11) E (run_assign rfl (E.get 0 rfl)) fun a E => ?_
    refine wpList_nil ?_
    refine then_n ?_
    refine wp_seq ?_
    refine wp_region_lit ?_
    refine ep (v := u9) E (run_move rfl (E.get 7 rfl)) fun a E => ?_
    refine env_callv (d := 35) (R := fun u w8 => SpV w8 u (notQ (notQ l0)) ∧ Fr (fun _ => False) w1 w8) E rfl (by decide) rfl (wanted_none rfl _) (run_call1 (enters_of Tryz.func25 (by kernel_rfl) rfl) rfl rfl (E.get 0 rfl)) ((not_calls hu9 (by have := notQ_len l0; omega)).mono fun e w8 h => by obtain ⟨u, rfl, h1, h2⟩ := h; exact ⟨_, rfl, ow.Src spL_len h1, h2⟩) fun a w1 u12 ⟨hu12, f1⟩ E => ?_
    have hT := Tb.fr hT f1 (fun r hr => id)
    have h0 := Src.fr h0 f1
    have h1 := Src.fr h1 f1
    have hu8 := Src.fr hu8 f1
    have hu9 := Src.fr hu9 f1
    have hu10 := Src.fr hu10 f1
    have hu11 := Src.fr hu11 f1
    have hf := hf.trans' f1 (fun _ _ h => h.elim)
    clear f1
    refine ep (v := .slice (p0) l0.length c0) E (run_move rfl (E.get 30 rfl)) fun a E => ?_
    refine env_call (d := 37) (v := .bool true) E rfl (by decide) rfl (wanted_none rfl _) (run_call2 (enters_of Tryz.func17 (by kernel_rfl) rfl) rfl rfl (E.get 1 rfl) (E.get 0 rfl)) (by have h := same_calls hu12 h0; rw [show ((notQ (notQ l0) : List Sp) == (l0 : List Sp)) = true from beq_of (law_nn hq0)] at h; exact h) fun a w1 f1 E => ?_
    have hT := Tb.fr hT f1 (fun r hr => id)
    have h0 := Src.fr h0 f1
    have h1 := Src.fr h1 f1
    have hu8 := Src.fr hu8 f1
    have hu9 := Src.fr hu9 f1
    have hu10 := Src.fr hu10 f1
    have hu11 := Src.fr hu11 f1
    have hu12 := Src.fr hu12 f1
    have hf := hf.trans' f1 (fun _ _ h => h.elim)
    clear f1
    refine ep (v := .bool true) E (run_move rfl (E.get 0 rfl)) fun a E => ?_
    refine eg (v := .slice (p0) l0.length c0) E (w_yes (g := 4) (s := 38) E rfl rfl (by decide) (E.get 0 rfl)) (run_move rfl (E.get 33 rfl)) fun a E => ?_
    refine eg (v := .slice (p1) l1.length c1) E (w_yes (g := 4) (s := 38) E rfl rfl (by decide) (E.get 1 rfl)) (run_move rfl (E.get 35 rfl)) fun a E => ?_
    refine env_callv (d := 41) (R := fun u w8 => SpV w8 u (bothQ l0 l1) ∧ Fr (fun _ => False) w1 w8) E rfl (by decide) rfl (w_yes (g := 4) (s := 38) E rfl rfl (by decide) (E.get 2 rfl)) (run_call2 (enters_of Tryz.func26 (by kernel_rfl) rfl) rfl rfl (E.get 1 rfl) (E.get 0 rfl)) ((both_calls h0 h1 (by omega) (by omega)).mono fun e w8 h => by obtain ⟨u, rfl, h1, h2⟩ := h; exact ⟨_, rfl, ow.Src spL_len h1, h2⟩) fun a w1 u13 ⟨hu13, f1⟩ E => ?_
    have hT := Tb.fr hT f1 (fun r hr => id)
    have h0 := Src.fr h0 f1
    have h1 := Src.fr h1 f1
    have hu8 := Src.fr hu8 f1
    have hu9 := Src.fr hu9 f1
    have hu10 := Src.fr hu10 f1
    have hu11 := Src.fr hu11 f1
    have hu12 := Src.fr hu12 f1
    have hf := hf.trans' f1 (fun _ _ h => h.elim)
    clear f1
    refine env_callv (d := 42) (R := fun u w8 => SpV w8 u (notQ (bothQ l0 l1)) ∧ Fr (fun _ => False) w1 w8) E rfl (by decide) rfl (w_yes (g := 4) (s := 38) E rfl rfl (by decide) (E.get 3 rfl)) (run_call1 (enters_of Tryz.func25 (by kernel_rfl) rfl) rfl rfl (E.get 0 rfl)) ((not_calls hu13 (by have := bothQ_len l0 l1; omega)).mono fun e w8 h => by obtain ⟨u, rfl, h1, h2⟩ := h; exact ⟨_, rfl, ow.Src spL_len h1, h2⟩) fun a w1 u14 ⟨hu14, f1⟩ E => ?_
    have hT := Tb.fr hT f1 (fun r hr => id)
    have h0 := Src.fr h0 f1
    have h1 := Src.fr h1 f1
    have hu8 := Src.fr hu8 f1
    have hu9 := Src.fr hu9 f1
    have hu10 := Src.fr hu10 f1
    have hu11 := Src.fr hu11 f1
    have hu12 := Src.fr hu12 f1
    have hu13 := Src.fr hu13 f1
    have hf := hf.trans' f1 (fun _ _ h => h.elim)
    clear f1
    refine eg (v := u9) E (w_yes (g := 4) (s := 38) E rfl rfl (by decide) (E.get 4 rfl)) (run_move rfl (E.get 16 rfl)) fun a E => ?_
    refine eg (v := u10) E (w_yes (g := 4) (s := 38) E rfl rfl (by decide) (E.get 5 rfl)) (run_move rfl (E.get 14 rfl)) fun a E => ?_
    refine env_callv (d := 45) (R := fun u w8 => SpV w8 u (eitherQ (notQ l0) (notQ l1)) ∧ Fr (fun _ => False) w1 w8) E rfl (by decide) rfl (w_yes (g := 4) (s := 38) E rfl rfl (by decide) (E.get 6 rfl)) (run_call2 (enters_of Tryz.func24 (by kernel_rfl) rfl) rfl rfl (E.get 1 rfl) (E.get 0 rfl)) ((either_calls hu9 hu10 (by have := notQ_len l0; omega) (by have := notQ_len l1; omega)).mono fun e w8 h => by obtain ⟨u, rfl, h1, h2⟩ := h; exact ⟨_, rfl, ow.Src spL_len h1, h2⟩) fun a w1 u15 ⟨hu15, f1⟩ E => ?_
    have hT := Tb.fr hT f1 (fun r hr => id)
    have h0 := Src.fr h0 f1
    have h1 := Src.fr h1 f1
    have hu8 := Src.fr hu8 f1
    have hu9 := Src.fr hu9 f1
    have hu10 := Src.fr hu10 f1
    have hu11 := Src.fr hu11 f1
    have hu12 := Src.fr hu12 f1
    have hu13 := Src.fr hu13 f1
    have hu14 := Src.fr hu14 f1
    have hf := hf.trans' f1 (fun _ _ h => h.elim)
    clear f1
    refine env_call (d := 46) (v := .bool true) E rfl (by decide) rfl (w_yes (g := 4) (s := 38) E rfl rfl (by decide) (E.get 7 rfl)) (run_call2 (enters_of Tryz.func17 (by kernel_rfl) rfl) rfl rfl (E.get 3 rfl) (E.get 0 rfl)) (by have h := same_calls hu14 hu15; rw [show ((notQ (bothQ l0 l1) : List Sp) == (eitherQ (notQ l0) (notQ l1) : List Sp)) = true from beq_of (law_nb hq0 hq1)] at h; exact h) fun a w1 f1 E => ?_
    have hT := Tb.fr hT f1 (fun r hr => id)
    have h0 := Src.fr h0 f1
    have h1 := Src.fr h1 f1
    have hu8 := Src.fr hu8 f1
    have hu9 := Src.fr hu9 f1
    have hu10 := Src.fr hu10 f1
    have hu11 := Src.fr hu11 f1
    have hu12 := Src.fr hu12 f1
    have hu13 := Src.fr hu13 f1
    have hu14 := Src.fr hu14 f1
    have hu15 := Src.fr hu15 f1
    have hf := hf.trans' f1 (fun _ _ h => h.elim)
    clear f1
    refine ep (v := .bool true) E (run_pick_t rfl (E.get 8 rfl) (E.get 0 rfl)) fun a E => ?_
    refine ep (v := .bool true) E (run_move rfl (E.get 0 rfl)) fun a E => ?_
    refine eg (v := .slice (p0) l0.length c0) E (w_yes (g := 14) (s := 48) E rfl rfl (by decide) (E.get 0 rfl)) (run_move rfl (E.get 43 rfl)) fun a E => ?_
    refine eg (v := .slice (p1) l1.length c1) E (w_yes (g := 14) (s := 48) E rfl rfl (by decide) (E.get 1 rfl)) (run_move rfl (E.get 45 rfl)) fun a E => ?_
    refine env_callv (d := 51) (R := fun u w8 => SpV w8 u (eitherQ l0 l1) ∧ Fr (fun _ => False) w1 w8) E rfl (by decide) rfl (w_yes (g := 14) (s := 48) E rfl rfl (by decide) (E.get 2 rfl)) (run_call2 (enters_of Tryz.func24 (by kernel_rfl) rfl) rfl rfl (E.get 1 rfl) (E.get 0 rfl)) ((either_calls h0 h1 (by omega) (by omega)).mono fun e w8 h => by obtain ⟨u, rfl, h1, h2⟩ := h; exact ⟨_, rfl, ow.Src spL_len h1, h2⟩) fun a w1 u16 ⟨hu16, f1⟩ E => ?_
    have hT := Tb.fr hT f1 (fun r hr => id)
    have h0 := Src.fr h0 f1
    have h1 := Src.fr h1 f1
    have hu8 := Src.fr hu8 f1
    have hu9 := Src.fr hu9 f1
    have hu10 := Src.fr hu10 f1
    have hu11 := Src.fr hu11 f1
    have hu12 := Src.fr hu12 f1
    have hu13 := Src.fr hu13 f1
    have hu14 := Src.fr hu14 f1
    have hu15 := Src.fr hu15 f1
    have hf := hf.trans' f1 (fun _ _ h => h.elim)
    clear f1
    refine env_callv (d := 52) (R := fun u w8 => SpV w8 u (notQ (eitherQ l0 l1)) ∧ Fr (fun _ => False) w1 w8) E rfl (by decide) rfl (w_yes (g := 14) (s := 48) E rfl rfl (by decide) (E.get 3 rfl)) (run_call1 (enters_of Tryz.func25 (by kernel_rfl) rfl) rfl rfl (E.get 0 rfl)) ((not_calls hu16 (by have := eitherQ_len l0 l1; omega)).mono fun e w8 h => by obtain ⟨u, rfl, h1, h2⟩ := h; exact ⟨_, rfl, ow.Src spL_len h1, h2⟩) fun a w1 u17 ⟨hu17, f1⟩ E => ?_
    have hT := Tb.fr hT f1 (fun r hr => id)
    have h0 := Src.fr h0 f1
    have h1 := Src.fr h1 f1
    have hu8 := Src.fr hu8 f1
    have hu9 := Src.fr hu9 f1
    have hu10 := Src.fr hu10 f1
    have hu11 := Src.fr hu11 f1
    have hu12 := Src.fr hu12 f1
    have hu13 := Src.fr hu13 f1
    have hu14 := Src.fr hu14 f1
    have hu15 := Src.fr hu15 f1
    have hu16 := Src.fr hu16 f1
    have hf := hf.trans' f1 (fun _ _ h => h.elim)
    clear f1
    refine eg (v := u9) E (w_yes (g := 14) (s := 48) E rfl rfl (by decide) (E.get 4 rfl)) (run_move rfl (E.get 26 rfl)) fun a E => ?_
    refine eg (v := u10) E (w_yes (g := 14) (s := 48) E rfl rfl (by decide) (E.get 5 rfl)) (run_move rfl (E.get 24 rfl)) fun a E => ?_
    refine env_callv (d := 55) (R := fun u w8 => SpV w8 u (bothQ (notQ l0) (notQ l1)) ∧ Fr (fun _ => False) w1 w8) E rfl (by decide) rfl (w_yes (g := 14) (s := 48) E rfl rfl (by decide) (E.get 6 rfl)) (run_call2 (enters_of Tryz.func26 (by kernel_rfl) rfl) rfl rfl (E.get 1 rfl) (E.get 0 rfl)) ((both_calls hu9 hu10 (by have := notQ_len l0; omega) (by have := notQ_len l1; omega)).mono fun e w8 h => by obtain ⟨u, rfl, h1, h2⟩ := h; exact ⟨_, rfl, ow.Src spL_len h1, h2⟩) fun a w1 u18 ⟨hu18, f1⟩ E => ?_
    have hT := Tb.fr hT f1 (fun r hr => id)
    have h0 := Src.fr h0 f1
    have h1 := Src.fr h1 f1
    have hu8 := Src.fr hu8 f1
    have hu9 := Src.fr hu9 f1
    have hu10 := Src.fr hu10 f1
    have hu11 := Src.fr hu11 f1
    have hu12 := Src.fr hu12 f1
    have hu13 := Src.fr hu13 f1
    have hu14 := Src.fr hu14 f1
    have hu15 := Src.fr hu15 f1
    have hu16 := Src.fr hu16 f1
    have hu17 := Src.fr hu17 f1
    have hf := hf.trans' f1 (fun _ _ h => h.elim)
    clear f1
    refine env_call (d := 56) (v := .bool true) E rfl (by decide) rfl (w_yes (g := 14) (s := 48) E rfl rfl (by decide) (E.get 7 rfl)) (run_call2 (enters_of Tryz.func17 (by kernel_rfl) rfl) rfl rfl (E.get 3 rfl) (E.get 0 rfl)) (by have h := same_calls hu17 hu18; rw [show ((notQ (eitherQ l0 l1) : List Sp) == (bothQ (notQ l0) (notQ l1) : List Sp)) = true from beq_of (law_ne hq0 hq1)] at h; exact h) fun a w1 f1 E => ?_
    have hT := Tb.fr hT f1 (fun r hr => id)
    have h0 := Src.fr h0 f1
    have h1 := Src.fr h1 f1
    have hu8 := Src.fr hu8 f1
    have hu9 := Src.fr hu9 f1
    have hu10 := Src.fr hu10 f1
    have hu11 := Src.fr hu11 f1
    have hu12 := Src.fr hu12 f1
    have hu13 := Src.fr hu13 f1
    have hu14 := Src.fr hu14 f1
    have hu15 := Src.fr hu15 f1
    have hu16 := Src.fr hu16 f1
    have hu17 := Src.fr hu17 f1
    have hu18 := Src.fr hu18 f1
    have hf := hf.trans' f1 (fun _ _ h => h.elim)
    clear f1
    refine ep (v := .bool true) E (run_pick_t rfl (E.get 8 rfl) (E.get 0 rfl)) fun a E => ?_
    refine ep (v := .bool true) E (run_assign rfl (E.get 0 rfl)) fun a E => ?_
    refine wpList_nil ?_
    refine then_n ?_
    refine wp_seq ?_
    refine wp_region_lit ?_
    refine ep (v := .bool true) E (run_move rfl (E.get 50 rfl)) fun a E => ?_
    refine ep (v := .bool true) E (run_move rfl (E.get 0 rfl)) fun a E => ?_
    refine eg (v := .bool true) E (w_yes (g := 1) (s := 59) E rfl rfl (by decide) (E.get 0 rfl)) (run_move rfl (E.get 2 rfl)) fun a E => ?_
    refine ep (v := .bool true) E (run_pick_t rfl (E.get 1 rfl) (E.get 0 rfl)) fun a E => ?_
    refine ep (v := .bool true) E (run_move rfl (E.get 0 rfl)) fun a E => ?_
    refine eg (v := .slice (p0) l0.length c0) E (w_yes (g := 4) (s := 62) E rfl rfl (by decide) (E.get 0 rfl)) (run_move rfl (E.get 58 rfl)) fun a E => ?_
    refine eg (v := u9) E (w_yes (g := 4) (s := 62) E rfl rfl (by decide) (E.get 1 rfl)) (run_move rfl (E.get 38 rfl)) fun a E => ?_
    refine env_callv (d := 65) (R := fun u w8 => SpV w8 u (bothQ l0 (notQ l0)) ∧ Fr (fun _ => False) w1 w8) E rfl (by decide) rfl (w_yes (g := 4) (s := 62) E rfl rfl (by decide) (E.get 2 rfl)) (run_call2 (enters_of Tryz.func26 (by kernel_rfl) rfl) rfl rfl (E.get 1 rfl) (E.get 0 rfl)) ((both_calls h0 hu9 (by omega) (by have := notQ_len l0; omega)).mono fun e w8 h => by obtain ⟨u, rfl, h1, h2⟩ := h; exact ⟨_, rfl, ow.Src spL_len h1, h2⟩) fun a w1 u19 ⟨hu19, f1⟩ E => ?_
    have hT := Tb.fr hT f1 (fun r hr => id)
    have h0 := Src.fr h0 f1
    have h1 := Src.fr h1 f1
    have hu8 := Src.fr hu8 f1
    have hu9 := Src.fr hu9 f1
    have hu10 := Src.fr hu10 f1
    have hu11 := Src.fr hu11 f1
    have hu12 := Src.fr hu12 f1
    have hu13 := Src.fr hu13 f1
    have hu14 := Src.fr hu14 f1
    have hu15 := Src.fr hu15 f1
    have hu16 := Src.fr hu16 f1
    have hu17 := Src.fr hu17 f1
    have hu18 := Src.fr hu18 f1
    have hf := hf.trans' f1 (fun _ _ h => h.elim)
    clear f1
    refine eg (v := .int .i64 0) E (w_yes (g := 4) (s := 62) E rfl rfl (by decide) (E.get 3 rfl)) ((run_len22s hu19 rfl (E.get 0 rfl)).trans (by rw [law_empty hq0]; rfl)) fun a E => ?_
    refine eg (v := .bool true) E (w_yes (g := 4) (s := 62) E rfl rfl (by decide) (E.get 4 rfl)) (run_ieql (m := 0) (n := 0) (E.get 0 rfl) rfl Tryz.underlying3 rfl) fun a E => ?_
    refine ep (v := .bool true) E (run_pick_t rfl (E.get 5 rfl) (E.get 0 rfl)) fun a E => ?_
    refine ep (v := .bool true) E (run_move rfl (E.get 0 rfl)) fun a E => ?_
    refine eg (v := u11) E (w_yes (g := 11) (s := 69) E rfl rfl (by decide) (E.get 0 rfl)) (run_move rfl (E.get 37 rfl)) fun a E => ?_
    refine eg (v := .agg (spA (0, 10080))) E (w_yes (g := 11) (s := 69) E rfl rfl (by decide) (E.get 1 rfl)) (run_of48 rfl rfl rfl) fun a E => ?_
    refine env_one22s (d := 72) (s := (0, 10080)) E rfl (by decide) rfl (w_yes (g := 11) (s := 69) E rfl rfl (by decide) (E.get 2 rfl)) rfl (E.get 0 rfl) fun a w1 u20 hu20 f1 E => ?_
    have hT := Tb.fr hT f1 (fun r hr => id)
    have h0 := Src.fr h0 f1
    have h1 := Src.fr h1 f1
    have hu8 := Src.fr hu8 f1
    have hu9 := Src.fr hu9 f1
    have hu10 := Src.fr hu10 f1
    have hu11 := Src.fr hu11 f1
    have hu12 := Src.fr hu12 f1
    have hu13 := Src.fr hu13 f1
    have hu14 := Src.fr hu14 f1
    have hu15 := Src.fr hu15 f1
    have hu16 := Src.fr hu16 f1
    have hu17 := Src.fr hu17 f1
    have hu18 := Src.fr hu18 f1
    have hu19 := Src.fr hu19 f1
    have hf := hf.trans' f1 (fun _ _ h => h.elim)
    clear f1
    refine env_call (d := 73) (v := .bool true) E rfl (by decide) rfl (w_yes (g := 11) (s := 69) E rfl rfl (by decide) (E.get 3 rfl)) (run_call2 (enters_of Tryz.func17 (by kernel_rfl) rfl) rfl rfl (E.get 2 rfl) (E.get 0 rfl)) (by have h := same_calls hu11 hu20; rw [show ((eitherQ l0 (notQ l0) : List Sp) == ([(0, 10080)] : List Sp)) = true from beq_of (law_all hq0)] at h; exact h) fun a w1 f1 E => ?_
    have hT := Tb.fr hT f1 (fun r hr => id)
    have h0 := Src.fr h0 f1
    have h1 := Src.fr h1 f1
    have hu8 := Src.fr hu8 f1
    have hu9 := Src.fr hu9 f1
    have hu10 := Src.fr hu10 f1
    have hu11 := Src.fr hu11 f1
    have hu12 := Src.fr hu12 f1
    have hu13 := Src.fr hu13 f1
    have hu14 := Src.fr hu14 f1
    have hu15 := Src.fr hu15 f1
    have hu16 := Src.fr hu16 f1
    have hu17 := Src.fr hu17 f1
    have hu18 := Src.fr hu18 f1
    have hu19 := Src.fr hu19 f1
    have hu20 := Src.fr hu20 f1
    have hf := hf.trans' f1 (fun _ _ h => h.elim)
    clear f1
    refine ep (v := .bool true) E (run_pick_t rfl (E.get 4 rfl) (E.get 0 rfl)) fun a E => ?_
    refine ep (v := .bool true) E (run_move rfl (E.get 0 rfl)) fun a E => ?_
    refine eg (v := .slice (p0) l0.length c0) E (w_yes (g := 17) (s := 75) E rfl rfl (by decide) (E.get 0 rfl)) (run_move rfl (E.get 71 rfl)) fun a E => ?_
    refine eg (v := .slice (p1) l1.length c1) E (w_yes (g := 17) (s := 75) E rfl rfl (by decide) (E.get 1 rfl)) (run_move rfl (E.get 73 rfl)) fun a E => ?_
    refine env_callv (d := 78) (R := fun u w8 => SpV w8 u (bothQ l0 l1) ∧ Fr (fun _ => False) w1 w8) E rfl (by decide) rfl (w_yes (g := 17) (s := 75) E rfl rfl (by decide) (E.get 2 rfl)) (run_call2 (enters_of Tryz.func26 (by kernel_rfl) rfl) rfl rfl (E.get 1 rfl) (E.get 0 rfl)) ((both_calls h0 h1 (by omega) (by omega)).mono fun e w8 h => by obtain ⟨u, rfl, h1, h2⟩ := h; exact ⟨_, rfl, ow.Src spL_len h1, h2⟩) fun a w1 u21 ⟨hu21, f1⟩ E => ?_
    have hT := Tb.fr hT f1 (fun r hr => id)
    have h0 := Src.fr h0 f1
    have h1 := Src.fr h1 f1
    have hu8 := Src.fr hu8 f1
    have hu9 := Src.fr hu9 f1
    have hu10 := Src.fr hu10 f1
    have hu11 := Src.fr hu11 f1
    have hu12 := Src.fr hu12 f1
    have hu13 := Src.fr hu13 f1
    have hu14 := Src.fr hu14 f1
    have hu15 := Src.fr hu15 f1
    have hu16 := Src.fr hu16 f1
    have hu17 := Src.fr hu17 f1
    have hu18 := Src.fr hu18 f1
    have hu19 := Src.fr hu19 f1
    have hu20 := Src.fr hu20 f1
    have hf := hf.trans' f1 (fun _ _ h => h.elim)
    clear f1
    refine eg (v := .slice (p1) l1.length c1) E (w_yes (g := 17) (s := 75) E rfl rfl (by decide) (E.get 3 rfl)) (run_move rfl (E.get 75 rfl)) fun a E => ?_
    refine eg (v := .slice (p0) l0.length c0) E (w_yes (g := 17) (s := 75) E rfl rfl (by decide) (E.get 4 rfl)) (run_move rfl (E.get 75 rfl)) fun a E => ?_
    refine env_callv (d := 81) (R := fun u w8 => SpV w8 u (bothQ l1 l0) ∧ Fr (fun _ => False) w1 w8) E rfl (by decide) rfl (w_yes (g := 17) (s := 75) E rfl rfl (by decide) (E.get 5 rfl)) (run_call2 (enters_of Tryz.func26 (by kernel_rfl) rfl) rfl rfl (E.get 1 rfl) (E.get 0 rfl)) ((both_calls h1 h0 (by omega) (by omega)).mono fun e w8 h => by obtain ⟨u, rfl, h1, h2⟩ := h; exact ⟨_, rfl, ow.Src spL_len h1, h2⟩) fun a w1 u22 ⟨hu22, f1⟩ E => ?_
    have hT := Tb.fr hT f1 (fun r hr => id)
    have h0 := Src.fr h0 f1
    have h1 := Src.fr h1 f1
    have hu8 := Src.fr hu8 f1
    have hu9 := Src.fr hu9 f1
    have hu10 := Src.fr hu10 f1
    have hu11 := Src.fr hu11 f1
    have hu12 := Src.fr hu12 f1
    have hu13 := Src.fr hu13 f1
    have hu14 := Src.fr hu14 f1
    have hu15 := Src.fr hu15 f1
    have hu16 := Src.fr hu16 f1
    have hu17 := Src.fr hu17 f1
    have hu18 := Src.fr hu18 f1
    have hu19 := Src.fr hu19 f1
    have hu20 := Src.fr hu20 f1
    have hu21 := Src.fr hu21 f1
    have hf := hf.trans' f1 (fun _ _ h => h.elim)
    clear f1
    refine env_call (d := 82) (v := .bool true) E rfl (by decide) rfl (w_yes (g := 17) (s := 75) E rfl rfl (by decide) (E.get 6 rfl)) (run_call2 (enters_of Tryz.func17 (by kernel_rfl) rfl) rfl rfl (E.get 3 rfl) (E.get 0 rfl)) (by have h := same_calls hu21 hu22; rw [show ((bothQ l0 l1 : List Sp) == (bothQ l1 l0 : List Sp)) = true from beq_of (law_bc hq0 hq1)] at h; exact h) fun a w1 f1 E => ?_
    have hT := Tb.fr hT f1 (fun r hr => id)
    have h0 := Src.fr h0 f1
    have h1 := Src.fr h1 f1
    have hu8 := Src.fr hu8 f1
    have hu9 := Src.fr hu9 f1
    have hu10 := Src.fr hu10 f1
    have hu11 := Src.fr hu11 f1
    have hu12 := Src.fr hu12 f1
    have hu13 := Src.fr hu13 f1
    have hu14 := Src.fr hu14 f1
    have hu15 := Src.fr hu15 f1
    have hu16 := Src.fr hu16 f1
    have hu17 := Src.fr hu17 f1
    have hu18 := Src.fr hu18 f1
    have hu19 := Src.fr hu19 f1
    have hu20 := Src.fr hu20 f1
    have hu21 := Src.fr hu21 f1
    have hu22 := Src.fr hu22 f1
    have hf := hf.trans' f1 (fun _ _ h => h.elim)
    clear f1
    refine ep (v := .bool true) E (run_pick_t rfl (E.get 7 rfl) (E.get 0 rfl)) fun a E => ?_
    refine ep (v := .bool true) E (run_move rfl (E.get 0 rfl)) fun a E => ?_
    refine eg (v := .slice (p0) l0.length c0) E (w_yes (g := 26) (s := 84) E rfl rfl (by decide) (E.get 0 rfl)) (run_move rfl (E.get 80 rfl)) fun a E => ?_
    refine eg (v := .slice (p1) l1.length c1) E (w_yes (g := 26) (s := 84) E rfl rfl (by decide) (E.get 1 rfl)) (run_move rfl (E.get 82 rfl)) fun a E => ?_
    refine env_callv (d := 87) (R := fun u w8 => SpV w8 u (eitherQ l0 l1) ∧ Fr (fun _ => False) w1 w8) E rfl (by decide) rfl (w_yes (g := 26) (s := 84) E rfl rfl (by decide) (E.get 2 rfl)) (run_call2 (enters_of Tryz.func24 (by kernel_rfl) rfl) rfl rfl (E.get 1 rfl) (E.get 0 rfl)) ((either_calls h0 h1 (by omega) (by omega)).mono fun e w8 h => by obtain ⟨u, rfl, h1, h2⟩ := h; exact ⟨_, rfl, ow.Src spL_len h1, h2⟩) fun a w1 u23 ⟨hu23, f1⟩ E => ?_
    have hT := Tb.fr hT f1 (fun r hr => id)
    have h0 := Src.fr h0 f1
    have h1 := Src.fr h1 f1
    have hu8 := Src.fr hu8 f1
    have hu9 := Src.fr hu9 f1
    have hu10 := Src.fr hu10 f1
    have hu11 := Src.fr hu11 f1
    have hu12 := Src.fr hu12 f1
    have hu13 := Src.fr hu13 f1
    have hu14 := Src.fr hu14 f1
    have hu15 := Src.fr hu15 f1
    have hu16 := Src.fr hu16 f1
    have hu17 := Src.fr hu17 f1
    have hu18 := Src.fr hu18 f1
    have hu19 := Src.fr hu19 f1
    have hu20 := Src.fr hu20 f1
    have hu21 := Src.fr hu21 f1
    have hu22 := Src.fr hu22 f1
    have hf := hf.trans' f1 (fun _ _ h => h.elim)
    clear f1
    refine eg (v := .slice (p1) l1.length c1) E (w_yes (g := 26) (s := 84) E rfl rfl (by decide) (E.get 3 rfl)) (run_move rfl (E.get 84 rfl)) fun a E => ?_
    refine eg (v := .slice (p0) l0.length c0) E (w_yes (g := 26) (s := 84) E rfl rfl (by decide) (E.get 4 rfl)) (run_move rfl (E.get 84 rfl)) fun a E => ?_
    refine env_callv (d := 90) (R := fun u w8 => SpV w8 u (eitherQ l1 l0) ∧ Fr (fun _ => False) w1 w8) E rfl (by decide) rfl (w_yes (g := 26) (s := 84) E rfl rfl (by decide) (E.get 5 rfl)) (run_call2 (enters_of Tryz.func24 (by kernel_rfl) rfl) rfl rfl (E.get 1 rfl) (E.get 0 rfl)) ((either_calls h1 h0 (by omega) (by omega)).mono fun e w8 h => by obtain ⟨u, rfl, h1, h2⟩ := h; exact ⟨_, rfl, ow.Src spL_len h1, h2⟩) fun a w1 u24 ⟨hu24, f1⟩ E => ?_
    have hT := Tb.fr hT f1 (fun r hr => id)
    have h0 := Src.fr h0 f1
    have h1 := Src.fr h1 f1
    have hu8 := Src.fr hu8 f1
    have hu9 := Src.fr hu9 f1
    have hu10 := Src.fr hu10 f1
    have hu11 := Src.fr hu11 f1
    have hu12 := Src.fr hu12 f1
    have hu13 := Src.fr hu13 f1
    have hu14 := Src.fr hu14 f1
    have hu15 := Src.fr hu15 f1
    have hu16 := Src.fr hu16 f1
    have hu17 := Src.fr hu17 f1
    have hu18 := Src.fr hu18 f1
    have hu19 := Src.fr hu19 f1
    have hu20 := Src.fr hu20 f1
    have hu21 := Src.fr hu21 f1
    have hu22 := Src.fr hu22 f1
    have hu23 := Src.fr hu23 f1
    have hf := hf.trans' f1 (fun _ _ h => h.elim)
    clear f1
    refine env_call (d := 91) (v := .bool true) E rfl (by decide) rfl (w_yes (g := 26) (s := 84) E rfl rfl (by decide) (E.get 6 rfl)) (run_call2 (enters_of Tryz.func17 (by kernel_rfl) rfl) rfl rfl (E.get 3 rfl) (E.get 0 rfl)) (by have h := same_calls hu23 hu24; rw [show ((eitherQ l0 l1 : List Sp) == (eitherQ l1 l0 : List Sp)) = true from beq_of (law_ec hq0 hq1)] at h; exact h) fun a w1 f1 E => ?_
    have hT := Tb.fr hT f1 (fun r hr => id)
    have h0 := Src.fr h0 f1
    have h1 := Src.fr h1 f1
    have hu8 := Src.fr hu8 f1
    have hu9 := Src.fr hu9 f1
    have hu10 := Src.fr hu10 f1
    have hu11 := Src.fr hu11 f1
    have hu12 := Src.fr hu12 f1
    have hu13 := Src.fr hu13 f1
    have hu14 := Src.fr hu14 f1
    have hu15 := Src.fr hu15 f1
    have hu16 := Src.fr hu16 f1
    have hu17 := Src.fr hu17 f1
    have hu18 := Src.fr hu18 f1
    have hu19 := Src.fr hu19 f1
    have hu20 := Src.fr hu20 f1
    have hu21 := Src.fr hu21 f1
    have hu22 := Src.fr hu22 f1
    have hu23 := Src.fr hu23 f1
    have hu24 := Src.fr hu24 f1
    have hf := hf.trans' f1 (fun _ _ h => h.elim)
    clear f1
    refine ep (v := .bool true) E (run_pick_t rfl (E.get 7 rfl) (E.get 0 rfl)) fun a E => ?_
    refine env_set (d := 4) (v := .bool true) E rfl (by decide) (wanted_none rfl _) (run_assign rfl (E.get 0 rfl)) fun a E => ?_
    refine wpList_nil ?_
    refine then_n ?_
    refine wp_ret ?_
    exact ret_tmp (t := 4) rfl E (E.get 0 rfl) ⟨rfl, hf⟩
end Go.Proofs.YtjaffpnegdcjnaaGreatDoor
