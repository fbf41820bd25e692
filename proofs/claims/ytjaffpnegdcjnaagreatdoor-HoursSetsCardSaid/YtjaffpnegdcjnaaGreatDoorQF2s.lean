/- The laws of the sets: a walk. -/
import Derived.Test.YtjaffpnegdcjnaaGreatDoorQF2
set_option linter.unusedVariables false
set_option linter.unusedSimpArgs false
namespace Go.Proofs.YtjaffpnegdcjnaaGreatDoor
open Go.RowKit Go.Pl
set_option maxRecDepth 100000 in
set_option maxHeartbeats 4000000 in
theorem sets_calls {w : World} {v0 v1 : Value} {l0 l1 : List Sp} (h0 : SpV w v0 l0) (h1 : SpV w v1 l1) {n : Int} (hn32 : 0 ≤ n) (hn64 : n < 4294967296) (hT : Tb w) : Calls Tryz.prog 10 #[v0, v1, .int .u32 n] w fun e w' => e = .returned (.bool true) ∧ Fr (fun _ => False) w w' := by
 obtain ⟨p0, c0, hv0, hle0, hcap0, hs0, hz0⟩ := h0
 subst hv0
 have h0 : SpV w (.slice p0 l0.length c0) l0 := ⟨p0, c0, rfl, hle0, hcap0, hs0, hz0⟩
 obtain ⟨p1, c1, hv1, hle1, hcap1, hs1, hz1⟩ := h1
 subst hv1
 have h1 : SpV w (.slice p1 l1.length c1) l1 := ⟨p1, c1, rfl, hle1, hcap1, hs1, hz1⟩
 refine wp_start3 Tryz.func10 rfl rfl (n := 90) (by decide) fun a E => ?_
 have hf : Fr (fun _ => False) w w := Fr.refl _ _
 have hm : minuteB (n % 1000000001) = true := by unfold minuteB; simp only [Bool.and_eq_true, decide_eq_true_eq]; omega
 refine wp_seq ?_
 refine wp_region_lit ?_
 refine ep (v := .bool false) E (run_assign rfl rfl) fun a E => ?_
 refine wpList_nil ?_
 refine then_n ?_
 refine wp_seq ?_
 refine wp_region_lit ?_
 refine env_call (d := 14) (v := .bool true) E rfl (by decide) rfl (wanted_none rfl _) (run_call0 (enters_of Tryz.func11 (by kernel_rfl) rfl) rfl rfl) (head_calls hT) fun a w1 f1 E => ?_
 have hT := Tb.fr hT f1 (fun r hr => id)
 have h0 := Src.fr h0 f1
 have h1 := Src.fr h1 f1
 have hf := hf.trans' f1 (fun _ _ h => h.elim)
 clear f1
 refine ep (v := .bool true) E (run_assign rfl (E.get 0 rfl)) fun a E => ?_
 refine wpList_nil ?_
 refine then_n ?_
 refine wp_seq ?_
 refine wp_region_lit ?_
 refine ep (v := .int .u32 n) E (run_move rfl (E.get 5 rfl)) fun a E => ?_
 refine ep (v := .int .i64 n) E (run_tou3 rfl (E.get 0 rfl) hn32 hn64) fun a E => ?_
 refine ep (v := .int .i64 (n % 1000000001)) E (run_irem (E.get 0 rfl) rfl (by omega) (by omega) (by omega) (by omega) rfl) fun a E => ?_
 refine ep (v := .int .i64 (n % 1000000001)) E (run_assign rfl (E.get 0 rfl)) fun a E => ?_
 refine wpList_nil ?_
 refine then_n ?_
 refine wp_seq ?_
 refine wp_seq ?_
 refine wp_region_lit ?_
 refine ep (v := .slice (p0) l0.length c0) E (run_move rfl (E.get 7 rfl)) fun a E => ?_
 refine ep (v := .slice (p1) l1.length c1) E (run_move rfl (E.get 9 rfl)) fun a E => ?_
 refine env_sl2 (d := 20) E rfl (by decide) rfl (wanted_none rfl _) rfl (E.get 1 rfl) (E.get 0 rfl) fun a w1 u25 hu25 f1 E => ?_
 have hT := Tb.fr hT f1 (fun r hr => id)
 have h0 := Src.fr h0 f1
 have h1 := Src.fr h1 f1
 have hf := hf.trans' f1 (fun _ _ h => h.elim)
 clear f1
 refine env_call (d := 21) (v := .bool (fewB [(p0, l0.length, c0), (p1, l1.length, c1)])) E rfl (by decide) rfl (wanted_none rfl _) (run_call1 (enters_of Tryz.func12 (by kernel_rfl) rfl) rfl rfl (E.get 0 rfl)) (few_calls hu25) fun a w1 f1 E => ?_
 have hT := Tb.fr hT f1 (fun r hr => id)
 have h0 := Src.fr h0 f1
 have h1 := Src.fr h1 f1
 have hu25 := Src.fr hu25 f1
 have hf := hf.trans' f1 (fun _ _ h => h.elim)
 clear f1
 refine ep (v := .bool (!(fewB [(p0, l0.length, c0), (p1, l1.length, c1)]))) E (run_not rfl (E.get 0 rfl)) fun a E => ?_
 refine ep (v := .bool (!(fewB [(p0, l0.length, c0), (p1, l1.length, c1)]))) E (run_move rfl (E.get 0 rfl)) fun a E => ?_
 cases hq150 : (fewB [(p0, l0.length, c0), (p1, l1.length, c1)]) with
 | false =>
  rw [hq150] at E
  refine env_skip (d := 24) (g := 5) (s := 23) E rfl (by decide) rfl rfl rfl (by decide) (E.get 0 rfl) fun a E => ?_
  refine env_skip (d := 25) (g := 5) (s := 23) E rfl (by decide) rfl rfl rfl (by decide) (E.get 1 rfl) fun a E => ?_
  refine env_skip (d := 26) (g := 5) (s := 23) E rfl (by decide) rfl rfl rfl (by decide) (E.get 2 rfl) fun a E => ?_
  refine ep (v := .bool true) E (run_pick_t rfl (E.get 3 rfl) rfl) fun a E => ?_
  refine ep (v := .bool true) E (run_move rfl (E.get 0 rfl)) fun a E => ?_
  refine env_skip (d := 29) (g := 10) (s := 28) E rfl (by decide) rfl rfl rfl (by decide) (E.get 0 rfl) fun a E => ?_
  refine env_skip (d := 30) (g := 10) (s := 28) E rfl (by decide) rfl rfl rfl (by decide) (E.get 1 rfl) fun a E => ?_
  refine env_skip (d := 31) (g := 10) (s := 28) E rfl (by decide) rfl rfl rfl (by decide) (E.get 2 rfl) fun a E => ?_
  refine ep (v := .bool true) E (run_pick_t rfl (E.get 3 rfl) rfl) fun a E => ?_
  refine wpList_nil ?_
  refine then_n ?_
  refine wp_cond_true (E.get 0 rfl) ?_
  refine wp_seq ?_
  refine wp_region_lit ?_
  refine ep (v := .bool true) E (run_move rfl (E.get 19 rfl)) fun a E => ?_
  refine env_set (d := 6) (v := .bool true) E rfl (by decide) (wanted_none rfl _) (run_assign rfl (E.get 0 rfl)) fun a E => ?_
  refine wpList_nil ?_
  refine then_n ?_
  refine wp_ret ?_
  refine then_r ?_
  exact ret_tmp (t := 6) rfl E (E.get 0 rfl) ⟨rfl, hf⟩
 | true =>
  rw [hq150] at E
  have hfew := few2 hq150
  simp only at hfew
  have hn0 := hfew.1
  have hn1 := hfew.2
  refine eg (v := .slice (p0) l0.length c0) E (w_yes (g := 5) (s := 23) E rfl rfl (by decide) (E.get 0 rfl)) (run_move rfl (E.get 13 rfl)) fun a E => ?_
  refine env_call (d := 25) (v := .bool (vl (-1) l0)) E rfl (by decide) rfl (w_yes (g := 5) (s := 23) E rfl rfl (by decide) (E.get 1 rfl)) (run_call1 (enters_of Tryz.func18 (by kernel_rfl) rfl) rfl rfl (E.get 0 rfl)) (valid_calls h0) fun a w1 f1 E => ?_
  have hT := Tb.fr hT f1 (fun r hr => id)
  have h0 := Src.fr h0 f1
  have h1 := Src.fr h1 f1
  have hu25 := Src.fr hu25 f1
  have hf := hf.trans' f1 (fun _ _ h => h.elim)
  clear f1
  refine eg (v := .bool (!(vl (-1) l0))) E (w_yes (g := 5) (s := 23) E rfl rfl (by decide) (E.get 2 rfl)) (run_not rfl (E.get 0 rfl)) fun a E => ?_
  refine ep (v := .bool (!(vl (-1) l0))) E (run_pick_f rfl (E.get 3 rfl) (E.get 0 rfl)) fun a E => ?_
  refine ep (v := .bool (!(vl (-1) l0))) E (run_move rfl (E.get 0 rfl)) fun a E => ?_
  cases hq151 : (vl (-1) l0) with
  | false =>
   rw [hq151] at E
   refine env_skip (d := 29) (g := 10) (s := 28) E rfl (by decide) rfl rfl rfl (by decide) (E.get 0 rfl) fun a E => ?_
   refine env_skip (d := 30) (g := 10) (s := 28) E rfl (by decide) rfl rfl rfl (by decide) (E.get 1 rfl) fun a E => ?_
   refine env_skip (d := 31) (g := 10) (s := 28) E rfl (by decide) rfl rfl rfl (by decide) (E.get 2 rfl) fun a E => ?_
   refine ep (v := .bool true) E (run_pick_t rfl (E.get 3 rfl) rfl) fun a E => ?_
   refine wpList_nil ?_
   refine then_n ?_
   refine wp_cond_true (E.get 0 rfl) ?_
   refine wp_seq ?_
   refine wp_region_lit ?_
   refine ep (v := .bool true) E (run_move rfl (E.get 19 rfl)) fun a E => ?_
   refine env_set (d := 6) (v := .bool true) E rfl (by decide) (wanted_none rfl _) (run_assign rfl (E.get 0 rfl)) fun a E => ?_
   refine wpList_nil ?_
   refine then_n ?_
   refine wp_ret ?_
   refine then_r ?_
   exact ret_tmp (t := 6) rfl E (E.get 0 rfl) ⟨rfl, hf⟩
  | true =>
   rw [hq151] at E
   have hq0 : vl (-1) l0 = true := hq151
   refine eg (v := .slice (p1) l1.length c1) E (w_yes (g := 10) (s := 28) E rfl rfl (by decide) (E.get 0 rfl)) (run_move rfl (E.get 19 rfl)) fun a E => ?_
   refine env_call (d := 30) (v := .bool (vl (-1) l1)) E rfl (by decide) rfl (w_yes (g := 10) (s := 28) E rfl rfl (by decide) (E.get 1 rfl)) (run_call1 (enters_of Tryz.func18 (by kernel_rfl) rfl) rfl rfl (E.get 0 rfl)) (valid_calls h1) fun a w1 f1 E => ?_
   have hT := Tb.fr hT f1 (fun r hr => id)
   have h0 := Src.fr h0 f1
   have h1 := Src.fr h1 f1
   have hu25 := Src.fr hu25 f1
   have hf := hf.trans' f1 (fun _ _ h => h.elim)
   clear f1
   refine eg (v := .bool (!(vl (-1) l1))) E (w_yes (g := 10) (s := 28) E rfl rfl (by decide) (E.get 2 rfl)) (run_not rfl (E.get 0 rfl)) fun a E => ?_
   refine ep (v := .bool (!(vl (-1) l1))) E (run_pick_f rfl (E.get 3 rfl) (E.get 0 rfl)) fun a E => ?_
   refine wpList_nil ?_
   refine then_n ?_
   cases hq152 : (vl (-1) l1) with
   | false =>
    rw [hq152] at E
    refine wp_cond_true (E.get 0 rfl) ?_
    refine wp_seq ?_
    refine wp_region_lit ?_
    refine ep (v := .bool true) E (run_move rfl (E.get 19 rfl)) fun a E => ?_
    refine env_set (d := 6) (v := .bool true) E rfl (by decide) (wanted_none rfl _) (run_assign rfl (E.get 0 rfl)) fun a E => ?_
    refine wpList_nil ?_
    refine then_n ?_
    refine wp_ret ?_
    refine then_r ?_
    exact ret_tmp (t := 6) rfl E (E.get 0 rfl) ⟨rfl, hf⟩
   | true =>
    rw [hq152] at E
    have hq1 : vl (-1) l1 = true := hq152
    refine wp_cond_false (E.get 0 rfl) ?_
    refine wp_skip ?_
    refine then_n ?_
    refine wp_seq ?_
    refine wp_region_lit ?_
    refine ep (v := .slice (p0) l0.length c0) E (run_move rfl (E.get 22 rfl)) fun a E => ?_
    refine ep (v := .slice (p1) l1.length c1) E (run_move rfl (E.get 24 rfl)) fun a E => ?_
    refine env_callv (d := 36) (R := fun u w8 => SpV w8 u (bothQ l0 l1) ∧ Fr (fun _ => False) w1 w8) E rfl (by decide) rfl (wanted_none rfl _) (run_call2 (enters_of Tryz.func26 (by kernel_rfl) rfl) rfl rfl (E.get 1 rfl) (E.get 0 rfl)) ((both_calls h0 h1 (by omega) (by omega)).mono fun e w8 h => by obtain ⟨u, rfl, h1, h2⟩ := h; exact ⟨_, rfl, ow.Src spL_len h1, h2⟩) fun a w1 u26 ⟨hu26, f1⟩ E => ?_
    have hT := Tb.fr hT f1 (fun r hr => id)
    have h0 := Src.fr h0 f1
    have h1 := Src.fr h1 f1
    have hu25 := Src.fr hu25 f1
    have hf := hf.trans' f1 (fun _ _ h => h.elim)
    clear f1
    refine ep (v := u26) E (run_assign rfl (E.get 0 rfl)) fun a E => ?_
    refine wpList_nil ?_
    refine then_n ?_
    refine wp_seq ?_
    refine wp_region_lit ?_
    refine ep (v := .slice (p0) l0.length c0) E (run_move rfl (E.get 26 rfl)) fun a E => ?_
    refine ep (v := .slice (p1) l1.length c1) E (run_move rfl (E.get 28 rfl)) fun a E => ?_
    refine env_callv (d := 39) (R := fun u w8 => SpV w8 u (eitherQ l0 l1) ∧ Fr (fun _ => False) w1 w8) E rfl (by decide) rfl (wanted_none rfl _) (run_call2 (enters_of Tryz.func24 (by kernel_rfl) rfl) rfl rfl (E.get 1 rfl) (E.get 0 rfl)) ((either_calls h0 h1 (by omega) (by omega)).mono fun e w8 h => by obtain ⟨u, rfl, h1, h2⟩ := h; exact ⟨_, rfl, ow.Src spL_len h1, h2⟩) fun a w1 u27 ⟨hu27, f1⟩ E => ?_
    have hT := Tb.fr hT f1 (fun r hr => id)
    have h0 := Src.fr h0 f1
    have h1 := Src.fr h1 f1
    have hu25 := Src.fr hu25 f1
    have hu26 := Src.fr hu26 f1
    have hf := hf.trans' f1 (fun _ _ h => h.elim)
    clear f1
    refine ep (v := u27) E (run_assign rfl (E.get 0 rfl)) fun a E => ?_
    refine wpList_nil ?_
    refine then_n ?_
    refine wp_seq ?_
    refine wp_region_lit ?_
    refine ep (v := .slice (p0) l0.length c0) E (run_move rfl (E.get 30 rfl)) fun a E => ?_
    refine env_callv (d := 41) (R := fun u w8 => SpV w8 u (notQ l0) ∧ Fr (fun _ => False) w1 w8) E rfl (by decide) rfl (wanted_none rfl _) (run_call1 (enters_of Tryz.func25 (by kernel_rfl) rfl) rfl rfl (E.get 0 rfl)) ((not_calls h0 (by omega)).mono fun e w8 h => by obtain ⟨u, rfl, h1, h2⟩ := h; exact ⟨_, rfl, ow.Src spL_len h1, h2⟩) fun a w1 u28 ⟨hu28, f1⟩ E => ?_
    have hT := Tb.fr hT f1 (fun r hr => id)
    have h0 := Src.fr h0 f1
    have h1 := Src.fr h1 f1
    have hu25 := Src.fr hu25 f1
    have hu26 := Src.fr hu26 f1
    have hu27 := Src.fr hu27 f1
    have hf := hf.trans' f1 (fun _ _ h => h.elim)
    clear f1
    refine ep (v := u28) E (run_assign rfl (E.get 0 rfl)) fun a E => ?_
    refine wpList_nil ?_
    refine then_n ?_
    refine wp_seq ?_
    refine wp_seq ?_
    refine wp_region_lit ?_
    refine ep (v := u26) E (run_move rfl (E.get 7 rfl)) fun a E => ?_
    refine env_call (d := 43) (v := .bool true) E rfl (by decide) rfl (wanted_none rfl _) (run_call1 (enters_of Tryz.func18 (by kernel_rfl) rfl) rfl rfl (E.get 0 rfl)) (by have h := valid_calls hu26; rw [show vl (-1) (bothQ l0 l1) = true from bothQ_vl l0 l1] at h; exact h) fun a w1 f1 E => ?_
    have hT := Tb.fr hT f1 (fun r hr => id)
    have h0 := Src.fr h0 f1
    have h1 := Src.fr h1 f1
    have hu25 := Src.fr hu25 f1
    have hu26 := Src.fr hu26 f1
    have hu27 := Src.fr hu27 f1
    have hu28 := Src.fr hu28 f1
    have hf := hf.trans' f1 (fun _ _ h => h.elim)
    clear f1
    refine ep (v := .bool false) E (run_not rfl (E.get 0 rfl)) fun a E => ?_
    refine ep (v := .bool false) E (run_move rfl (E.get 0 rfl)) fun a E => ?_
    refine eg (v := u27) E (w_yes (g := 3) (s := 45) E rfl rfl (by decide) (E.get 0 rfl)) (run_move rfl (E.get 7 rfl)) fun a E => ?_
    refine env_call (d := 47) (v := .bool true) E rfl (by decide) rfl (w_yes (g := 3) (s := 45) E rfl rfl (by decide) (E.get 1 rfl)) (run_call1 (enters_of Tryz.func18 (by kernel_rfl) rfl) rfl rfl (E.get 0 rfl)) (by have h := valid_calls hu27; rw [show vl (-1) (eitherQ l0 l1) = true from eitherQ_vl l0 l1] at h; exact h) fun a w1 f1 E => ?_
    have hT := Tb.fr hT f1 (fun r hr => id)
    have h0 := Src.fr h0 f1
    have h1 := Src.fr h1 f1
    have hu25 := Src.fr hu25 f1
    have hu26 := Src.fr hu26 f1
    have hu27 := Src.fr hu27 f1
    have hu28 := Src.fr hu28 f1
    have hf := hf.trans' f1 (fun _ _ h => h.elim)
    clear f1
    refine eg (v := .bool false) E (w_yes (g := 3) (s := 45) E rfl rfl (by decide) (E.get 2 rfl)) (run_not rfl (E.get 0 rfl)) fun a E => ?_
    refine ep (v := .bool false) E (run_pick_f rfl (E.get 3 rfl) (E.get 0 rfl)) fun a E => ?_
    refine ep (v := .bool false) E (run_move rfl (E.get 0 rfl)) fun a E => ?_
    refine eg (v := u28) E (w_yes (g := 8) (s := 50) E rfl rfl (by decide) (E.get 0 rfl)) (run_move rfl (E.get 9 rfl)) fun a E => ?_
    refine env_call (d := 52) (v := .bool true) E rfl (by decide) rfl (w_yes (g := 8) (s := 50) E rfl rfl (by decide) (E.get 1 rfl)) (run_call1 (enters_of Tryz.func18 (by kernel_rfl) rfl) rfl rfl (E.get 0 rfl)) (by have h := valid_calls hu28; rw [show vl (-1) (notQ l0) = true from notQ_vl l0] at h; exact h) fun a w1 f1 E => ?_
    have hT := Tb.fr hT f1 (fun r hr => id)
    have h0 := Src.fr h0 f1
    have h1 := Src.fr h1 f1
    have hu25 := Src.fr hu25 f1
    have hu26 := Src.fr hu26 f1
    have hu27 := Src.fr hu27 f1
    have hu28 := Src.fr hu28 f1
    have hf := hf.trans' f1 (fun _ _ h => h.elim)
    clear f1
    refine eg (v := .bool false) E (w_yes (g := 8) (s := 50) E rfl rfl (by decide) (E.get 2 rfl)) (run_not rfl (E.get 0 rfl)) fun a E => ?_
    refine ep (v := .bool false) E (run_pick_f rfl (E.get 3 rfl) (E.get 0 rfl)) fun a E => ?_
    refine wpList_nil ?_
    refine then_n ?_
    refine wp_cond_false (E.get 0 rfl) ?_
    refine wp_skip ?_
    refine then_n ?_
    refine wp_seq ?_
    refine wp_region_lit ?_
    refine ep (v := .slice (p0) l0.length c0) E (run_move rfl (E.get 46 rfl)) fun a E => ?_
    refine ep (v := .int .i64 (n % 1000000001)) E (run_move rfl (E.get 40 rfl)) fun a E => ?_
    refine env_call (d := 57) (v := .bool (openB l0 (n % 1000000001))) E rfl (by decide) rfl (wanted_none rfl _) (run_call2 (enters_of Tryz.func22 (by kernel_rfl) rfl) rfl rfl (E.get 1 rfl) (E.get 0 rfl)) (open_calls h0 (by omega) _) fun a w1 f1 E => ?_
    have hT := Tb.fr hT f1 (fun r hr => id)
    have h0 := Src.fr h0 f1
    have h1 := Src.fr h1 f1
    have hu25 := Src.fr hu25 f1
    have hu26 := Src.fr hu26 f1
    have hu27 := Src.fr hu27 f1
    have hu28 := Src.fr hu28 f1
    have hf := hf.trans' f1 (fun _ _ h => h.elim)
    clear f1
    refine ep (v := .bool (openB l0 (n % 1000000001))) E (run_assign rfl (E.get 0 rfl)) fun a E => ?_
    refine wpList_nil ?_
    refine then_n ?_
    refine wp_seq ?_
    refine wp_region_lit ?_
    refine ep (v := .slice (p1) l1.length c1) E (run_move rfl (E.get 51 rfl)) fun a E => ?_
    refine ep (v := .int .i64 (n % 1000000001)) E (run_move rfl (E.get 44 rfl)) fun a E => ?_
    refine env_call (d := 60) (v := .bool (openB l1 (n % 1000000001))) E rfl (by decide) rfl (wanted_none rfl _) (run_call2 (enters_of Tryz.func22 (by kernel_rfl) rfl) rfl rfl (E.get 1 rfl) (E.get 0 rfl)) (open_calls h1 (by omega) _) fun a w1 f1 E => ?_
    have hT := Tb.fr hT f1 (fun r hr => id)
    have h0 := Src.fr h0 f1
    have h1 := Src.fr h1 f1
    have hu25 := Src.fr hu25 f1
    have hu26 := Src.fr hu26 f1
    have hu27 := Src.fr hu27 f1
    have hu28 := Src.fr hu28 f1
    have hf := hf.trans' f1 (fun _ _ h => h.elim)
    clear f1
    refine ep (v := .bool (openB l1 (n % 1000000001))) E (run_assign rfl (E.get 0 rfl)) fun a E => ?_
    refine wpList_nil ?_
    refine then_n ?_
    refine wp_seq ?_
    cases hq153 : (openB l0 (n % 1000000001)) with
    | false =>
     rw [hq153] at E
     cases hq154 : (openB l1 (n % 1000000001)) with
     | false =>
      rw [hq154] at E
      refine wp_region_lit ?_
      refine ep (v := .bool true) E (run_move rfl (E.get 51 rfl)) fun a E => ?_
      refine ep (v := .bool true) E (run_move rfl (E.get 0 rfl)) fun a E => ?_
      refine eg (v := u26) E (w_yes (g := 1) (s := 62) E rfl rfl (by decide) (E.get 0 rfl)) (run_move rfl (E.get 30 rfl)) fun a E => ?_
      refine eg (v := .int .i64 (n % 1000000001)) E (w_yes (g := 1) (s := 62) E rfl rfl (by decide) (E.get 1 rfl)) (run_move rfl (E.get 50 rfl)) fun a E => ?_
      refine env_call (d := 65) (v := .bool false) E rfl (by decide) rfl (w_yes (g := 1) (s := 62) E rfl rfl (by decide) (E.get 2 rfl)) (run_call2 (enters_of Tryz.func22 (by kernel_rfl) rfl) rfl rfl (E.get 1 rfl) (E.get 0 rfl)) (by have h := open_calls hu26 (by have := bothQ_len l0 l1; omega) (n % 1000000001); rw [open_both hq0 hq1 hm, hq153, hq154] at h; exact h) fun a w1 f1 E => ?_
      have hT := Tb.fr hT f1 (fun r hr => id)
      have h0 := Src.fr h0 f1
      have h1 := Src.fr h1 f1
      have hu25 := Src.fr hu25 f1
      have hu26 := Src.fr hu26 f1
      have hu27 := Src.fr hu27 f1
      have hu28 := Src.fr hu28 f1
      have hf := hf.trans' f1 (fun _ _ h => h.elim)
      clear f1
      refine eg (v := .bool false) E (w_yes (g := 1) (s := 62) E rfl rfl (by decide) (E.get 3 rfl)) (run_move rfl (E.get 9 rfl)) fun a E => ?_
      refine eg (v := .bool false) E (w_yes (g := 1) (s := 62) E rfl rfl (by decide) (E.get 4 rfl)) (run_move rfl (E.get 0 rfl)) fun a E => ?_
      refine env_skip (d := 68) (g := 6) (s := 67) E rfl (by decide) rfl rfl rfl (by decide) (E.get 0 rfl) fun a E => ?_
      refine eg (v := .bool false) E (w_yes (g := 1) (s := 62) E rfl rfl (by decide) (E.get 6 rfl)) (run_pick_f rfl (E.get 1 rfl) rfl) fun a E => ?_
      refine eg (v := .bool true) E (w_yes (g := 1) (s := 62) E rfl rfl (by decide) (E.get 7 rfl)) (run_beql (E.get 4 rfl) (E.get 0 rfl) rfl) fun a E => ?_
      refine ep (v := .bool true) E (run_pick_t rfl (E.get 8 rfl) (E.get 0 rfl)) fun a E => ?_
      refine ep (v := .bool true) E (run_move rfl (E.get 0 rfl)) fun a E => ?_
      refine eg (v := u27) E (w_yes (g := 11) (s := 72) E rfl rfl (by decide) (E.get 0 rfl)) (run_move rfl (E.get 36 rfl)) fun a E => ?_
      refine eg (v := .int .i64 (n % 1000000001)) E (w_yes (g := 11) (s := 72) E rfl rfl (by decide) (E.get 1 rfl)) (run_move rfl (E.get 60 rfl)) fun a E => ?_
      refine env_call (d := 75) (v := .bool false) E rfl (by decide) rfl (w_yes (g := 11) (s := 72) E rfl rfl (by decide) (E.get 2 rfl)) (run_call2 (enters_of Tryz.func22 (by kernel_rfl) rfl) rfl rfl (E.get 1 rfl) (E.get 0 rfl)) (by have h := open_calls hu27 (by have := eitherQ_len l0 l1; omega) (n % 1000000001); rw [open_either hq0 hq1 hm, hq153, hq154] at h; exact h) fun a w1 f1 E => ?_
      have hT := Tb.fr hT f1 (fun r hr => id)
      have h0 := Src.fr h0 f1
      have h1 := Src.fr h1 f1
      have hu25 := Src.fr hu25 f1
      have hu26 := Src.fr hu26 f1
      have hu27 := Src.fr hu27 f1
      have hu28 := Src.fr hu28 f1
      have hf := hf.trans' f1 (fun _ _ h => h.elim)
      clear f1
      refine eg (v := .bool false) E (w_yes (g := 11) (s := 72) E rfl rfl (by decide) (E.get 3 rfl)) (run_move rfl (E.get 19 rfl)) fun a E => ?_
      refine eg (v := .bool false) E (w_yes (g := 11) (s := 72) E rfl rfl (by decide) (E.get 4 rfl)) (run_move rfl (E.get 0 rfl)) fun a E => ?_
      refine eg (v := .bool false) E (w_yes (g := 16) (s := 77) E rfl rfl (by decide) (E.get 0 rfl)) (run_move rfl (E.get 17 rfl)) fun a E => ?_
      refine eg (v := .bool false) E (w_yes (g := 11) (s := 72) E rfl rfl (by decide) (E.get 6 rfl)) (run_pick_f rfl (E.get 1 rfl) (E.get 0 rfl)) fun a E => ?_
      refine eg (v := .bool true) E (w_yes (g := 11) (s := 72) E rfl rfl (by decide) (E.get 7 rfl)) (run_beql (E.get 4 rfl) (E.get 0 rfl) rfl) fun a E => ?_
      refine ep (v := .bool true) E (run_pick_t rfl (E.get 8 rfl) (E.get 0 rfl)) fun a E => ?_
      refine ep (v := .bool true) E (run_move rfl (E.get 0 rfl)) fun a E => ?_
      refine eg (v := u28) E (w_yes (g := 21) (s := 82) E rfl rfl (by decide) (E.get 0 rfl)) (run_move rfl (E.get 43 rfl)) fun a E => ?_
      refine eg (v := .int .i64 (n % 1000000001)) E (w_yes (g := 21) (s := 82) E rfl rfl (by decide) (E.get 1 rfl)) (run_move rfl (E.get 70 rfl)) fun a E => ?_
      refine env_call (d := 85) (v := .bool true) E rfl (by decide) rfl (w_yes (g := 21) (s := 82) E rfl rfl (by decide) (E.get 2 rfl)) (run_call2 (enters_of Tryz.func22 (by kernel_rfl) rfl) rfl rfl (E.get 1 rfl) (E.get 0 rfl)) (by have h := open_calls hu28 (by have := notQ_len l0; omega) (n % 1000000001); rw [open_not hq0 hm, hq153] at h; exact h) fun a w1 f1 E => ?_
      have hT := Tb.fr hT f1 (fun r hr => id)
      have h0 := Src.fr h0 f1
      have h1 := Src.fr h1 f1
      have hu25 := Src.fr hu25 f1
      have hu26 := Src.fr hu26 f1
      have hu27 := Src.fr hu27 f1
      have hu28 := Src.fr hu28 f1
      have hf := hf.trans' f1 (fun _ _ h => h.elim)
      clear f1
      refine eg (v := .bool false) E (w_yes (g := 21) (s := 82) E rfl rfl (by decide) (E.get 3 rfl)) (run_move rfl (E.get 29 rfl)) fun a E => ?_
      refine eg (v := .bool true) E (w_yes (g := 21) (s := 82) E rfl rfl (by decide) (E.get 4 rfl)) (run_not rfl (E.get 0 rfl)) fun a E => ?_
      refine eg (v := .bool true) E (w_yes (g := 21) (s := 82) E rfl rfl (by decide) (E.get 5 rfl)) (run_beql (E.get 2 rfl) (E.get 0 rfl) rfl) fun a E => ?_
      refine ep (v := .bool true) E (run_pick_t rfl (E.get 6 rfl) (E.get 0 rfl)) fun a E => ?_
      refine env_set (d := 6) (v := .bool true) E rfl (by decide) (wanted_none rfl _) (run_assign rfl (E.get 0 rfl)) fun a E => ?_
      refine wpList_nil ?_
      refine then_n ?_
      refine wp_ret ?_
      exact ret_tmp (t := 6) rfl E (E.get 0 rfl) ⟨rfl, hf⟩
     | true =>
      rw [hq154] at E
      refine wp_region_lit ?_
      refine ep (v := .bool true) E (run_move rfl (E.get 51 rfl)) fun a E => ?_
      refine ep (v := .bool true) E (run_move rfl (E.get 0 rfl)) fun a E => ?_
      refine eg (v := u26) E (w_yes (g := 1) (s := 62) E rfl rfl (by decide) (E.get 0 rfl)) (run_move rfl (E.get 30 rfl)) fun a E => ?_
      refine eg (v := .int .i64 (n % 1000000001)) E (w_yes (g := 1) (s := 62) E rfl rfl (by decide) (E.get 1 rfl)) (run_move rfl (E.get 50 rfl)) fun a E => ?_
      refine env_call (d := 65) (v := .bool false) E rfl (by decide) rfl (w_yes (g := 1) (s := 62) E rfl rfl (by decide) (E.get 2 rfl)) (run_call2 (enters_of Tryz.func22 (by kernel_rfl) rfl) rfl rfl (E.get 1 rfl) (E.get 0 rfl)) (by have h := open_calls hu26 (by have := bothQ_len l0 l1; omega) (n % 1000000001); rw [open_both hq0 hq1 hm, hq153, hq154] at h; exact h) fun a w1 f1 E => ?_
      have hT := Tb.fr hT f1 (fun r hr => id)
      have h0 := Src.fr h0 f1
      have h1 := Src.fr h1 f1
      have hu25 := Src.fr hu25 f1
      have hu26 := Src.fr hu26 f1
      have hu27 := Src.fr hu27 f1
      have hu28 := Src.fr hu28 f1
      have hf := hf.trans' f1 (fun _ _ h => h.elim)
      clear f1
      refine eg (v := .bool false) E (w_yes (g := 1) (s := 62) E rfl rfl (by decide) (E.get 3 rfl)) (run_move rfl (E.get 9 rfl)) fun a E => ?_
      refine eg (v := .bool false) E (w_yes (g := 1) (s := 62) E rfl rfl (by decide) (E.get 4 rfl)) (run_move rfl (E.get 0 rfl)) fun a E => ?_
      refine env_skip (d := 68) (g := 6) (s := 67) E rfl (by decide) rfl rfl rfl (by decide) (E.get 0 rfl) fun a E => ?_
      refine eg (v := .bool false) E (w_yes (g := 1) (s := 62) E rfl rfl (by decide) (E.get 6 rfl)) (run_pick_f rfl (E.get 1 rfl) rfl) fun a E => ?_
      refine eg (v := .bool true) E (w_yes (g := 1) (s := 62) E rfl rfl (by decide) (E.get 7 rfl)) (run_beql (E.get 4 rfl) (E.get 0 rfl) rfl) fun a E => ?_
      refine ep (v := .bool true) E (run_pick_t rfl (E.get 8 rfl) (E.get 0 rfl)) fun a E => ?_
      refine ep (v := .bool true) E (run_move rfl (E.get 0 rfl)) fun a E => ?_
      refine eg (v := u27) E (w_yes (g := 11) (s := 72) E rfl rfl (by decide) (E.get 0 rfl)) (run_move rfl (E.get 36 rfl)) fun a E => ?_
      refine eg (v := .int .i64 (n % 1000000001)) E (w_yes (g := 11) (s := 72) E rfl rfl (by decide) (E.get 1 rfl)) (run_move rfl (E.get 60 rfl)) fun a E => ?_
      refine env_call (d := 75) (v := .bool true) E rfl (by decide) rfl (w_yes (g := 11) (s := 72) E rfl rfl (by decide) (E.get 2 rfl)) (run_call2 (enters_of Tryz.func22 (by kernel_rfl) rfl) rfl rfl (E.get 1 rfl) (E.get 0 rfl)) (by have h := open_calls hu27 (by have := eitherQ_len l0 l1; omega) (n % 1000000001); rw [open_either hq0 hq1 hm, hq153, hq154] at h; exact h) fun a w1 f1 E => ?_
      have hT := Tb.fr hT f1 (fun r hr => id)
      have h0 := Src.fr h0 f1
      have h1 := Src.fr h1 f1
      have hu25 := Src.fr hu25 f1
      have hu26 := Src.fr hu26 f1
      have hu27 := Src.fr hu27 f1
      have hu28 := Src.fr hu28 f1
      have hf := hf.trans' f1 (fun _ _ h => h.elim)
      clear f1
      refine eg (v := .bool false) E (w_yes (g := 11) (s := 72) E rfl rfl (by decide) (E.get 3 rfl)) (run_move rfl (E.get 19 rfl)) fun a E => ?_
      refine eg (v := .bool false) E (w_yes (g := 11) (s := 72) E rfl rfl (by decide) (E.get 4 rfl)) (run_move rfl (E.get 0 rfl)) fun a E => ?_
      refine eg (v := .bool true) E (w_yes (g := 16) (s := 77) E rfl rfl (by decide) (E.get 0 rfl)) (run_move rfl (E.get 17 rfl)) fun a E => ?_
      refine eg (v := .bool true) E (w_yes (g := 11) (s := 72) E rfl rfl (by decide) (E.get 6 rfl)) (run_pick_f rfl (E.get 1 rfl) (E.get 0 rfl)) fun a E => ?_
      refine eg (v := .bool true) E (w_yes (g := 11) (s := 72) E rfl rfl (by decide) (E.get 7 rfl)) (run_beql (E.get 4 rfl) (E.get 0 rfl) rfl) fun a E => ?_
      refine ep (v := .bool true) E (run_pick_t rfl (E.get 8 rfl) (E.get 0 rfl)) fun a E => ?_
      refine ep (v := .bool true) E (run_move rfl (E.get 0 rfl)) fun a E => ?_
      refine eg (v := u28) E (w_yes (g := 21) (s := 82) E rfl rfl (by decide) (E.get 0 rfl)) (run_move rfl (E.get 43 rfl)) fun a E => ?_
      refine eg (v := .int .i64 (n % 1000000001)) E (w_yes (g := 21) (s := 82) E rfl rfl (by decide) (E.get 1 rfl)) (run_move rfl (E.get 70 rfl)) fun a E => ?_
      refine env_call (d := 85) (v := .bool true) E rfl (by decide) rfl (w_yes (g := 21) (s := 82) E rfl rfl (by decide) (E.get 2 rfl)) (run_call2 (enters_of Tryz.func22 (by kernel_rfl) rfl) rfl rfl (E.get 1 rfl) (E.get 0 rfl)) (by have h := open_calls hu28 (by have := notQ_len l0; omega) (n % 1000000001); rw [open_not hq0 hm, hq153] at h; exact h) fun a w1 f1 E => ?_
      have hT := Tb.fr hT f1 (fun r hr => id)
      have h0 := Src.fr h0 f1
      have h1 := Src.fr h1 f1
      have hu25 := Src.fr hu25 f1
      have hu26 := Src.fr hu26 f1
      have hu27 := Src.fr hu27 f1
      have hu28 := Src.fr hu28 f1
      have hf := hf.trans' f1 (fun _ _ h => h.elim)
      clear f1
      refine eg (v := .bool false) E (w_yes (g := 21) (s := 82) E rfl rfl (by decide) (E.get 3 rfl)) (run_move rfl (E.get 29 rfl)) fun a E => ?_
      refine eg (v := .bool true) E (w_yes (g := 21) (s := 82) E rfl rfl (by decide) (E.get 4 rfl)) (run_not rfl (E.get 0 rfl)) fun a E => ?_
      refine eg (v := .bool true) E (w_yes (g := 21) (s := 82) E rfl rfl (by decide) (E.get 5 rfl)) (run_beql (E.get 2 rfl) (E.get 0 rfl) rfl) fun a E => ?_
      refine ep (v := .bool true) E (run_pick_t rfl (E.get 6 rfl) (E.get 0 rfl)) fun a E => ?_
      refine env_set (d := 6) (v := .bool true) E rfl (by decide) (wanted_none rfl _) (run_assign rfl (E.get 0 rfl)) fun a E => ?_
      refine wpList_nil ?_
      refine then_n ?_
      refine wp_ret ?_
      exact ret_tmp (t := 6) rfl E (E.get 0 rfl) ⟨rfl, hf⟩
    | true =>
     rw [hq153] at E
     cases hq155 : (openB l1 (n % 1000000001)) with
     | false =>
      rw [hq155] at E
      refine wp_region_lit ?_
      refine ep (v := .bool true) E (run_move rfl (E.get 51 rfl)) fun a E => ?_
      refine ep (v := .bool true) E (run_move rfl (E.get 0 rfl)) fun a E => ?_
      refine eg (v := u26) E (w_yes (g := 1) (s := 62) E rfl rfl (by decide) (E.get 0 rfl)) (run_move rfl (E.get 30 rfl)) fun a E => ?_
      refine eg (v := .int .i64 (n % 1000000001)) E (w_yes (g := 1) (s := 62) E rfl rfl (by decide) (E.get 1 rfl)) (run_move rfl (E.get 50 rfl)) fun a E => ?_
      refine env_call (d := 65) (v := .bool false) E rfl (by decide) rfl (w_yes (g := 1) (s := 62) E rfl rfl (by decide) (E.get 2 rfl)) (run_call2 (enters_of Tryz.func22 (by kernel_rfl) rfl) rfl rfl (E.get 1 rfl) (E.get 0 rfl)) (by have h := open_calls hu26 (by have := bothQ_len l0 l1; omega) (n % 1000000001); rw [open_both hq0 hq1 hm, hq153, hq155] at h; exact h) fun a w1 f1 E => ?_
      have hT := Tb.fr hT f1 (fun r hr => id)
      have h0 := Src.fr h0 f1
      have h1 := Src.fr h1 f1
      have hu25 := Src.fr hu25 f1
      have hu26 := Src.fr hu26 f1
      have hu27 := Src.fr hu27 f1
      have hu28 := Src.fr hu28 f1
      have hf := hf.trans' f1 (fun _ _ h => h.elim)
      clear f1
      refine eg (v := .bool true) E (w_yes (g := 1) (s := 62) E rfl rfl (by decide) (E.get 3 rfl)) (run_move rfl (E.get 9 rfl)) fun a E => ?_
      refine eg (v := .bool true) E (w_yes (g := 1) (s := 62) E rfl rfl (by decide) (E.get 4 rfl)) (run_move rfl (E.get 0 rfl)) fun a E => ?_
      refine eg (v := .bool false) E (w_yes (g := 6) (s := 67) E rfl rfl (by decide) (E.get 0 rfl)) (run_move rfl (E.get 7 rfl)) fun a E => ?_
      refine eg (v := .bool false) E (w_yes (g := 1) (s := 62) E rfl rfl (by decide) (E.get 6 rfl)) (run_pick_t rfl (E.get 1 rfl) (E.get 0 rfl)) fun a E => ?_
      refine eg (v := .bool true) E (w_yes (g := 1) (s := 62) E rfl rfl (by decide) (E.get 7 rfl)) (run_beql (E.get 4 rfl) (E.get 0 rfl) rfl) fun a E => ?_
      refine ep (v := .bool true) E (run_pick_t rfl (E.get 8 rfl) (E.get 0 rfl)) fun a E => ?_
      refine ep (v := .bool true) E (run_move rfl (E.get 0 rfl)) fun a E => ?_
      refine eg (v := u27) E (w_yes (g := 11) (s := 72) E rfl rfl (by decide) (E.get 0 rfl)) (run_move rfl (E.get 36 rfl)) fun a E => ?_
      refine eg (v := .int .i64 (n % 1000000001)) E (w_yes (g := 11) (s := 72) E rfl rfl (by decide) (E.get 1 rfl)) (run_move rfl (E.get 60 rfl)) fun a E => ?_
      refine env_call (d := 75) (v := .bool true) E rfl (by decide) rfl (w_yes (g := 11) (s := 72) E rfl rfl (by decide) (E.get 2 rfl)) (run_call2 (enters_of Tryz.func22 (by kernel_rfl) rfl) rfl rfl (E.get 1 rfl) (E.get 0 rfl)) (by have h := open_calls hu27 (by have := eitherQ_len l0 l1; omega) (n % 1000000001); rw [open_either hq0 hq1 hm, hq153, hq155] at h; exact h) fun a w1 f1 E => ?_
      have hT := Tb.fr hT f1 (fun r hr => id)
      have h0 := Src.fr h0 f1
      have h1 := Src.fr h1 f1
      have hu25 := Src.fr hu25 f1
      have hu26 := Src.fr hu26 f1
      have hu27 := Src.fr hu27 f1
      have hu28 := Src.fr hu28 f1
      have hf := hf.trans' f1 (fun _ _ h => h.elim)
      clear f1
      refine eg (v := .bool true) E (w_yes (g := 11) (s := 72) E rfl rfl (by decide) (E.get 3 rfl)) (run_move rfl (E.get 19 rfl)) fun a E => ?_
      refine eg (v := .bool true) E (w_yes (g := 11) (s := 72) E rfl rfl (by decide) (E.get 4 rfl)) (run_move rfl (E.get 0 rfl)) fun a E => ?_
      refine env_skip (d := 78) (g := 16) (s := 77) E rfl (by decide) rfl rfl rfl (by decide) (E.get 0 rfl) fun a E => ?_
      refine eg (v := .bool true) E (w_yes (g := 11) (s := 72) E rfl rfl (by decide) (E.get 6 rfl)) (run_pick_t rfl (E.get 1 rfl) rfl) fun a E => ?_
      refine eg (v := .bool true) E (w_yes (g := 11) (s := 72) E rfl rfl (by decide) (E.get 7 rfl)) (run_beql (E.get 4 rfl) (E.get 0 rfl) rfl) fun a E => ?_
      refine ep (v := .bool true) E (run_pick_t rfl (E.get 8 rfl) (E.get 0 rfl)) fun a E => ?_
      refine ep (v := .bool true) E (run_move rfl (E.get 0 rfl)) fun a E => ?_
      refine eg (v := u28) E (w_yes (g := 21) (s := 82) E rfl rfl (by decide) (E.get 0 rfl)) (run_move rfl (E.get 43 rfl)) fun a E => ?_
      refine eg (v := .int .i64 (n % 1000000001)) E (w_yes (g := 21) (s := 82) E rfl rfl (by decide) (E.get 1 rfl)) (run_move rfl (E.get 70 rfl)) fun a E => ?_
      refine env_call (d := 85) (v := .bool false) E rfl (by decide) rfl (w_yes (g := 21) (s := 82) E rfl rfl (by decide) (E.get 2 rfl)) (run_call2 (enters_of Tryz.func22 (by kernel_rfl) rfl) rfl rfl (E.get 1 rfl) (E.get 0 rfl)) (by have h := open_calls hu28 (by have := notQ_len l0; omega) (n % 1000000001); rw [open_not hq0 hm, hq153] at h; exact h) fun a w1 f1 E => ?_
      have hT := Tb.fr hT f1 (fun r hr => id)
      have h0 := Src.fr h0 f1
      have h1 := Src.fr h1 f1
      have hu25 := Src.fr hu25 f1
      have hu26 := Src.fr hu26 f1
      have hu27 := Src.fr hu27 f1
      have hu28 := Src.fr hu28 f1
      have hf := hf.trans' f1 (fun _ _ h => h.elim)
      clear f1
      refine eg (v := .bool true) E (w_yes (g := 21) (s := 82) E rfl rfl (by decide) (E.get 3 rfl)) (run_move rfl (E.get 29 rfl)) fun a E => ?_
      refine eg (v := .bool false) E (w_yes (g := 21) (s := 82) E rfl rfl (by decide) (E.get 4 rfl)) (run_not rfl (E.get 0 rfl)) fun a E => ?_
      refine eg (v := .bool true) E (w_yes (g := 21) (s := 82) E rfl rfl (by decide) (E.get 5 rfl)) (run_beql (E.get 2 rfl) (E.get 0 rfl) rfl) fun a E => ?_
      refine ep (v := .bool true) E (run_pick_t rfl (E.get 6 rfl) (E.get 0 rfl)) fun a E => ?_
      refine env_set (d := 6) (v := .bool true) E rfl (by decide) (wanted_none rfl _) (run_assign rfl (E.get 0 rfl)) fun a E => ?_
      refine wpList_nil ?_
      refine then_n ?_
      refine wp_ret ?_
      exact ret_tmp (t := 6) rfl E (E.get 0 rfl) ⟨rfl, hf⟩
     | true =>
      rw [hq155] at E
      refine wp_region_lit ?_
      refine ep (v := .bool true) E (run_move rfl (E.get 51 rfl)) fun a E => ?_
      refine ep (v := .bool true) E (run_move rfl (E.get 0 rfl)) fun a E => ?_
      refine eg (v := u26) E (w_yes (g := 1) (s := 62) E rfl rfl (by decide) (E.get 0 rfl)) (run_move rfl (E.get 30 rfl)) fun a E => ?_
      refine eg (v := .int .i64 (n % 1000000001)) E (w_yes (g := 1) (s := 62) E rfl rfl (by decide) (E.get 1 rfl)) (run_move rfl (E.get 50 rfl)) fun a E => ?_
      refine env_call (d := 65) (v := .bool true) E rfl (by decide) rfl (w_yes (g := 1) (s := 62) E rfl rfl (by decide) (E.get 2 rfl)) (run_call2 (enters_of Tryz.func22 (by kernel_rfl) rfl) rfl rfl (E.get 1 rfl) (E.get 0 rfl)) (by have h := open_calls hu26 (by have := bothQ_len l0 l1; omega) (n % 1000000001); rw [open_both hq0 hq1 hm, hq153, hq155] at h; exact h) fun a w1 f1 E => ?_
      have hT := Tb.fr hT f1 (fun r hr => id)
      have h0 := Src.fr h0 f1
      have h1 := Src.fr h1 f1
      have hu25 := Src.fr hu25 f1
      have hu26 := Src.fr hu26 f1
      have hu27 := Src.fr hu27 f1
      have hu28 := Src.fr hu28 f1
      have hf := hf.trans' f1 (fun _ _ h => h.elim)
      clear f1
      refine eg (v := .bool true) E (w_yes (g := 1) (s := 62) E rfl rfl (by decide) (E.get 3 rfl)) (run_move rfl (E.get 9 rfl)) fun a E => ?_
      refine eg (v := .bool true) E (w_yes (g := 1) (s := 62) E rfl rfl (by decide) (E.get 4 rfl)) (run_move rfl (E.get 0 rfl)) fun a E => ?_
      refine eg (v := .bool true) E (w_yes (g := 6) (s := 67) E rfl rfl (by decide) (E.get 0 rfl)) (run_move rfl (E.get 7 rfl)) fun a E => ?_
      refine eg (v := .bool true) E (w_yes (g := 1) (s := 62) E rfl rfl (by decide) (E.get 6 rfl)) (run_pick_t rfl (E.get 1 rfl) (E.get 0 rfl)) fun a E => ?_
      refine eg (v := .bool true) E (w_yes (g := 1) (s := 62) E rfl rfl (by decide) (E.get 7 rfl)) (run_beql (E.get 4 rfl) (E.get 0 rfl) rfl) fun a E => ?_
      refine ep (v := .bool true) E (run_pick_t rfl (E.get 8 rfl) (E.get 0 rfl)) fun a E => ?_
      refine ep (v := .bool true) E (run_move rfl (E.get 0 rfl)) fun a E => ?_
      refine eg (v := u27) E (w_yes (g := 11) (s := 72) E rfl rfl (by decide) (E.get 0 rfl)) (run_move rfl (E.get 36 rfl)) fun a E => ?_
      refine eg (v := .int .i64 (n % 1000000001)) E (w_yes (g := 11) (s := 72) E rfl rfl (by decide) (E.get 1 rfl)) (run_move rfl (E.get 60 rfl)) fun a E => ?_
      refine env_call (d := 75) (v := .bool true) E rfl (by decide) rfl (w_yes (g := 11) (s := 72) E rfl rfl (by decide) (E.get 2 rfl)) (run_call2 (enters_of Tryz.func22 (by kernel_rfl) rfl) rfl rfl (E.get 1 rfl) (E.get 0 rfl)) (by have h := open_calls hu27 (by have := eitherQ_len l0 l1; omega) (n % 1000000001); rw [open_either hq0 hq1 hm, hq153, hq155] at h; exact h) fun a w1 f1 E => ?_
      have hT := Tb.fr hT f1 (fun r hr => id)
      have h0 := Src.fr h0 f1
      have h1 := Src.fr h1 f1
      have hu25 := Src.fr hu25 f1
      have hu26 := Src.fr hu26 f1
      have hu27 := Src.fr hu27 f1
      have hu28 := Src.fr hu28 f1
      have hf := hf.trans' f1 (fun _ _ h => h.elim)
      clear f1
      refine eg (v := .bool true) E (w_yes (g := 11) (s := 72) E rfl rfl (by decide) (E.get 3 rfl)) (run_move rfl (E.get 19 rfl)) fun a E => ?_
      refine eg (v := .bool true) E (w_yes (g := 11) (s := 72) E rfl rfl (by decide) (E.get 4 rfl)) (run_move rfl (E.get 0 rfl)) fun a E => ?_
      refine env_skip (d := 78) (g := 16) (s := 77) E rfl (by decide) rfl rfl rfl (by decide) (E.get 0 rfl) fun a E => ?_
      refine eg (v := .bool true) E (w_yes (g := 11) (s := 72) E rfl rfl (by decide) (E.get 6 rfl)) (run_pick_t rfl (E.get 1 rfl) rfl) fun a E => ?_
      refine eg (v := .bool true) E (w_yes (g := 11) (s := 72) E rfl rfl (by decide) (E.get 7 rfl)) (run_beql (E.get 4 rfl) (E.get 0 rfl) rfl) fun a E => ?_
      refine ep (v := .bool true) E (run_pick_t rfl (E.get 8 rfl) (E.get 0 rfl)) fun a E => ?_
      refine ep (v := .bool true) E (run_move rfl (E.get 0 rfl)) fun a E => ?_
      refine eg (v := u28) E (w_yes (g := 21) (s := 82) E rfl rfl (by decide) (E.get 0 rfl)) (run_move rfl (E.get 43 rfl)) fun a E => ?_
      refine eg (v := .int .i64 (n % 1000000001)) E (w_yes (g := 21) (s := 82) E rfl rfl (by decide) (E.get 1 rfl)) (run_move rfl (E.get 70 rfl)) fun a E => ?_
      refine env_call (d := 85) (v := .bool false) E rfl (by decide) rfl (w_yes (g := 21) (s := 82) E rfl rfl (by decide) (E.get 2 rfl)) (run_call2 (enters_of Tryz.func22 (by kernel_rfl) rfl) rfl rfl (E.get 1 rfl) (E.get 0 rfl)) (by have h := open_calls hu28 (by have := notQ_len l0; omega) (n % 1000000001); rw [open_not hq0 hm, hq153] at h; exact h) fun a w1 f1 E => ?_
      have hT := Tb.fr hT f1 (fun r hr => id)
      have h0 := Src.fr h0 f1
      have h1 := Src.fr h1 f1
      have hu25 := Src.fr hu25 f1
      have hu26 := Src.fr hu26 f1
      have hu27 := Src.fr hu27 f1
      have hu28 := Src.fr hu28 f1
      have hf := hf.trans' f1 (fun _ _ h => h.elim)
      clear f1
      refine eg (v := .bool true) E (w_yes (g := 21) (s := 82) E rfl rfl (by decide) (E.get 3 rfl)) (run_move rfl (E.get 29 rfl)) fun a E => ?_
      refine eg (v := .bool false) E (w_yes (g := 21) (s := 82) E rfl rfl (by decide) (E.get 4 rfl)) (run_not rfl (E.get 0 rfl)) fun a E => ?_
      refine eg (v := .bool true) E (w_yes (g := 21) (s := 82) E rfl rfl (by decide) (E.get 5 rfl)) (run_beql (E.get 2 rfl) (E.get 0 rfl) rfl) fun a E => ?_
      refine ep (v := .bool true) E (run_pick_t rfl (E.get 6 rfl) (E.get 0 rfl)) fun a E => ?_
      refine env_set (d := 6) (v := .bool true) E rfl (by decide) (wanted_none rfl _) (run_assign rfl (E.get 0 rfl)) fun a E => ?_
      refine wpList_nil ?_
      refine then_n ?_
      refine wp_ret ?_
      exact ret_tmp (t := 6) rfl E (E.get 0 rfl) ⟨rfl, hf⟩
end Go.Proofs.YtjaffpnegdcjnaaGreatDoor
