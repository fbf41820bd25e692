/- The laws of the sets: a walk. -/
import Derived.Test.YtjaffpnegdcjnaaGreatDoorSF2
set_option linter.unusedVariables false
set_option linter.unusedSimpArgs false
namespace Go.Proofs.YtjaffpnegdcjnaaGreatDoor
open Go.RowKit Go.Pl
set_option maxRecDepth 100000 in
set_option maxHeartbeats 4000000 in
theorem setsref_calls {w : World} {v0 v1 : Value} {l0 l1 : List Sp} (h0 : SpV w v0 l0) (h1 : SpV w v1 l1) (m : Int) (hT : Tb w) : Calls Tryz.prog 9 #[v0, v1, .int .i64 m] w fun e w' => e = .returned (.bool true) ∧ Fr (fun _ => False) w w' := by
 obtain ⟨p0, c0, hv0, hle0, hcap0, hs0, hz0⟩ := h0
 subst hv0
 have h0 : SpV w (.slice p0 l0.length c0) l0 := ⟨p0, c0, rfl, hle0, hcap0, hs0, hz0⟩
 obtain ⟨p1, c1, hv1, hle1, hcap1, hs1, hz1⟩ := h1
 subst hv1
 have h1 : SpV w (.slice p1 l1.length c1) l1 := ⟨p1, c1, rfl, hle1, hcap1, hs1, hz1⟩
 refine wp_start3 Tryz.func9 rfl rfl (n := 78) (by decide) fun a E => ?_
 have hf : Fr (fun _ => False) w w := Fr.refl _ _
 refine wp_seq ?_
 refine wp_region_lit ?_
 refine ep (v := .bool false) E (run_assign rfl rfl) fun a E => ?_
 refine wpList_nil ?_
 refine then_n ?_
 refine wp_seq ?_
 refine wp_region_lit ?_
 refine env_call (d := 13) (v := .bool true) E rfl (by decide) rfl (wanted_none rfl _) (run_call0 (enters_of Tryz.func11 (by kernel_rfl) rfl) rfl rfl) (head_calls hT) fun a w1 f1 E => ?_
 have hT := Tb.fr hT f1 (fun r hr => id)
 have h0 := Src.fr h0 f1
 have h1 := Src.fr h1 f1
 have hf := hf.trans' f1 (fun _ _ h => h.elim)
 clear f1
 refine ep (v := .bool true) E (run_assign rfl (E.get 0 rfl)) fun a E => ?_
 refine wpList_nil ?_
 refine then_n ?_
 refine wp_seq ?_
 refine wp_seq ?_
 refine wp_region_lit ?_
 refine ep (v := .slice (p0) l0.length c0) E (run_move rfl (E.get 3 rfl)) fun a E => ?_
 refine ep (v := .slice (p1) l1.length c1) E (run_move rfl (E.get 5 rfl)) fun a E => ?_
 refine env_sl2 (d := 16) E rfl (by decide) rfl (wanted_none rfl _) rfl (E.get 1 rfl) (E.get 0 rfl) fun a w1 u1 hu1 f1 E => ?_
 have hT := Tb.fr hT f1 (fun r hr => id)
 have h0 := Src.fr h0 f1
 have h1 := Src.fr h1 f1
 have hf := hf.trans' f1 (fun _ _ h => h.elim)
 clear f1
 refine env_call (d := 17) (v := .bool (fewB [(p0, l0.length, c0), (p1, l1.length, c1)])) E rfl (by decide) rfl (wanted_none rfl _) (run_call1 (enters_of Tryz.func12 (by kernel_rfl) rfl) rfl rfl (E.get 0 rfl)) (few_calls hu1) fun a w1 f1 E => ?_
 have hT := Tb.fr hT f1 (fun r hr => id)
 have h0 := Src.fr h0 f1
 have h1 := Src.fr h1 f1
 have hu1 := Src.fr hu1 f1
 have hf := hf.trans' f1 (fun _ _ h => h.elim)
 clear f1
 refine ep (v := .bool (!(fewB [(p0, l0.length, c0), (p1, l1.length, c1)]))) E (run_not rfl (E.get 0 rfl)) fun a E => ?_
 refine wpList_nil ?_
 refine then_n ?_
 cases hq146 : (fewB [(p0, l0.length, c0), (p1, l1.length, c1)]) with
 | false =>
  rw [hq146] at E
  refine wp_cond_true (E.get 0 rfl) ?_
  refine wp_seq ?_
  refine wp_region_lit ?_
  refine ep (v := .bool true) E (run_move rfl (E.get 5 rfl)) fun a E => ?_
  refine env_set (d := 6) (v := .bool true) E rfl (by decide) (wanted_none rfl _) (run_assign rfl (E.get 0 rfl)) fun a E => ?_
  refine wpList_nil ?_
  refine then_n ?_
  refine wp_ret ?_
  refine then_r ?_
  exact ret_tmp (t := 6) rfl E (E.get 0 rfl) ⟨rfl, hf⟩
 | true =>
  rw [hq146] at E
  have hfew := few2 hq146
  simp only at hfew
  have hn0 := hfew.1
  have hn1 := hfew.2
  refine wp_cond_false (E.get 0 rfl) ?_
  refine wp_skip ?_
  refine then_n ?_
  refine wp_seq ?_
  refine wp_region_lit ?_
  refine ep (v := .slice (p0) l0.length c0) E (run_move rfl (E.get 8 rfl)) fun a E => ?_
  refine ep (v := .int .i64 m) E (run_move rfl (E.get 11 rfl)) fun a E => ?_
  refine env_call (d := 23) (v := .tuple #[.int .i64 (nextP l0 m).1, .bool (nextP l0 m).2]) E rfl (by decide) rfl (wanted_none rfl _) (run_call2 (enters_of Tryz.func21 (by kernel_rfl) rfl) rfl rfl (E.get 1 rfl) (E.get 0 rfl)) (next_calls h0 (by omega) m) fun a w1 f1 E => ?_
  have hT := Tb.fr hT f1 (fun r hr => id)
  have h0 := Src.fr h0 f1
  have h1 := Src.fr h1 f1
  have hu1 := Src.fr hu1 f1
  have hf := hf.trans' f1 (fun _ _ h => h.elim)
  clear f1
  refine ep (v := .tuple #[.int .i64 (nextP l0 m).1, .bool (nextP l0 m).2]) E (run_move rfl (E.get 0 rfl)) fun a E => ?_
  refine ep (v := .int .i64 (nextP l0 m).1) E (run_ext0 rfl (E.get 0 rfl)) fun a E => ?_
  refine ep (v := .bool (nextP l0 m).2) E (run_ext1 rfl (E.get 1 rfl)) fun a E => ?_
  refine ep (v := .int .i64 (nextP l0 m).1) E (run_assign rfl (E.get 1 rfl)) fun a E => ?_
  refine ep (v := .bool (nextP l0 m).2) E (run_assign rfl (E.get 1 rfl)) fun a E => ?_
  refine wpList_nil ?_
  refine then_n ?_
  refine wp_seq ?_
  refine wp_region_lit ?_
  refine ep (v := .slice (p0) l0.length c0) E (run_move rfl (E.get 16 rfl)) fun a E => ?_
  refine ep (v := .int .i64 m) E (run_move rfl (E.get 19 rfl)) fun a E => ?_
  refine env_call (d := 29) (v := .tuple #[.int .i64 (nextP l0 m).1, .bool (nextP l0 m).2]) E rfl (by decide) rfl (wanted_none rfl _) (run_call2 (enters_of Tryz.func27 (by kernel_rfl) rfl) rfl rfl (E.get 1 rfl) (E.get 0 rfl)) (rnext_calls h0 m) fun a w1 f1 E => ?_
  have hT := Tb.fr hT f1 (fun r hr => id)
  have h0 := Src.fr h0 f1
  have h1 := Src.fr h1 f1
  have hu1 := Src.fr hu1 f1
  have hf := hf.trans' f1 (fun _ _ h => h.elim)
  clear f1
  refine ep (v := .tuple #[.int .i64 (nextP l0 m).1, .bool (nextP l0 m).2]) E (run_move rfl (E.get 0 rfl)) fun a E => ?_
  refine ep (v := .int .i64 (nextP l0 m).1) E (run_ext0 rfl (E.get 0 rfl)) fun a E => ?_
  refine ep (v := .bool (nextP l0 m).2) E (run_ext1 rfl (E.get 1 rfl)) fun a E => ?_
  refine ep (v := .int .i64 (nextP l0 m).1) E (run_assign rfl (E.get 1 rfl)) fun a E => ?_
  refine ep (v := .bool (nextP l0 m).2) E (run_assign rfl (E.get 1 rfl)) fun a E => ?_
  refine wpList_nil ?_
  refine then_n ?_
  refine wp_seq ?_
  refine wp_region_lit ?_
  refine ep (v := .int .i64 (nextP l0 m).1) E (run_move rfl (E.get 9 rfl)) fun a E => ?_
  refine ep (v := .int .i64 (nextP l0 m).1) E (run_move rfl (E.get 2 rfl)) fun a E => ?_
  refine ep (v := .bool true) E ((run_ieql (E.get 1 rfl) (E.get 0 rfl) Tryz.underlying3 rfl).trans (by rw [beq_self_eq_true])) fun a E => ?_
  refine ep (v := .bool true) E (run_move rfl (E.get 0 rfl)) fun a E => ?_
  refine eg (v := .bool (nextP l0 m).2) E (w_yes (g := 3) (s := 35) E rfl rfl (by decide) (E.get 0 rfl)) (run_move rfl (E.get 12 rfl)) fun a E => ?_
  refine eg (v := .bool (nextP l0 m).2) E (w_yes (g := 3) (s := 35) E rfl rfl (by decide) (E.get 1 rfl)) (run_move rfl (E.get 5 rfl)) fun a E => ?_
  refine eg (v := .bool true) E (w_yes (g := 3) (s := 35) E rfl rfl (by decide) (E.get 2 rfl)) ((run_beql (E.get 1 rfl) (E.get 0 rfl) rfl).trans (by rw [beq_self_eq_true])) fun a E => ?_
  refine ep (v := .bool true) E (run_pick_t rfl (E.get 3 rfl) (E.get 0 rfl)) fun a E => ?_
  refine ep (v := .bool true) E (run_move rfl (E.get 0 rfl)) fun a E => ?_
  refine eg (v := .slice (p0) l0.length c0) E (w_yes (g := 8) (s := 40) E rfl rfl (by decide) (E.get 0 rfl)) (run_move rfl (E.get 33 rfl)) fun a E => ?_
  refine eg (v := .int .i64 m) E (w_yes (g := 8) (s := 40) E rfl rfl (by decide) (E.get 1 rfl)) (run_move rfl (E.get 36 rfl)) fun a E => ?_
  refine env_call (d := 43) (v := .bool (openB l0 m)) E rfl (by decide) rfl (w_yes (g := 8) (s := 40) E rfl rfl (by decide) (E.get 2 rfl)) (run_call2 (enters_of Tryz.func22 (by kernel_rfl) rfl) rfl rfl (E.get 1 rfl) (E.get 0 rfl)) (open_calls h0 (by omega) m) fun a w1 f1 E => ?_
  have hT := Tb.fr hT f1 (fun r hr => id)
  have h0 := Src.fr h0 f1
  have h1 := Src.fr h1 f1
  have hu1 := Src.fr hu1 f1
  have hf := hf.trans' f1 (fun _ _ h => h.elim)
  clear f1
  refine eg (v := .slice (p0) l0.length c0) E (w_yes (g := 8) (s := 40) E rfl rfl (by decide) (E.get 3 rfl)) (run_move rfl (E.get 36 rfl)) fun a E => ?_
  refine eg (v := .int .i64 m) E (w_yes (g := 8) (s := 40) E rfl rfl (by decide) (E.get 4 rfl)) (run_move rfl (E.get 39 rfl)) fun a E => ?_
  refine env_call (d := 46) (v := .bool (openB l0 m)) E rfl (by decide) rfl (w_yes (g := 8) (s := 40) E rfl rfl (by decide) (E.get 5 rfl)) (run_call2 (enters_of Tryz.func28 (by kernel_rfl) rfl) rfl rfl (E.get 1 rfl) (E.get 0 rfl)) (ropen_calls h0 m) fun a w1 f1 E => ?_
  have hT := Tb.fr hT f1 (fun r hr => id)
  have h0 := Src.fr h0 f1
  have h1 := Src.fr h1 f1
  have hu1 := Src.fr hu1 f1
  have hf := hf.trans' f1 (fun _ _ h => h.elim)
  clear f1
  refine eg (v := .bool true) E (w_yes (g := 8) (s := 40) E rfl rfl (by decide) (E.get 6 rfl)) ((run_beql (E.get 3 rfl) (E.get 0 rfl) rfl).trans (by rw [beq_self_eq_true])) fun a E => ?_
  refine ep (v := .bool true) E (run_pick_t rfl (E.get 7 rfl) (E.get 0 rfl)) fun a E => ?_
  refine ep (v := .bool true) E (run_move rfl (E.get 0 rfl)) fun a E => ?_
  refine eg (v := .slice (p0) l0.length c0) E (w_yes (g := 17) (s := 49) E rfl rfl (by decide) (E.get 0 rfl)) (run_move rfl (E.get 42 rfl)) fun a E => ?_
  refine env_callv (d := 51) (R := fun u w8 => SpV w8 u (notQ l0) ∧ Fr (fun _ => False) w1 w8) E rfl (by decide) rfl (w_yes (g := 17) (s := 49) E rfl rfl (by decide) (E.get 1 rfl)) (run_call1 (enters_of Tryz.func25 (by kernel_rfl) rfl) rfl rfl (E.get 0 rfl)) ((not_calls h0 (by omega)).mono fun e w8 h => by obtain ⟨u, rfl, h1, h2⟩ := h; exact ⟨_, rfl, ow.Src spL_len h1, h2⟩) fun a w1 u2 ⟨hu2, f1⟩ E => ?_
  have hT := Tb.fr hT f1 (fun r hr => id)
  have h0 := Src.fr h0 f1
  have h1 := Src.fr h1 f1
  have hu1 := Src.fr hu1 f1
  have hf := hf.trans' f1 (fun _ _ h => h.elim)
  clear f1
  refine eg (v := .slice (p0) l0.length c0) E (w_yes (g := 17) (s := 49) E rfl rfl (by decide) (E.get 2 rfl)) (run_move rfl (E.get 44 rfl)) fun a E => ?_
  refine env_callv (d := 53) (R := fun u w8 => SpV w8 u (notQ l0) ∧ Fr (fun _ => False) w1 w8) E rfl (by decide) rfl (w_yes (g := 17) (s := 49) E rfl rfl (by decide) (E.get 3 rfl)) (run_call1 (enters_of Tryz.func29 (by kernel_rfl) rfl) rfl rfl (E.get 0 rfl)) ((rnot_calls h0).mono fun e w8 h => by obtain ⟨u, rfl, h1, h2⟩ := h; exact ⟨_, rfl, h1, h2⟩) fun a w1 u3 ⟨hu3, f1⟩ E => ?_
  have hT := Tb.fr hT f1 (fun r hr => id)
  have h0 := Src.fr h0 f1
  have h1 := Src.fr h1 f1
  have hu1 := Src.fr hu1 f1
  have hu2 := Src.fr hu2 f1
  have hf := hf.trans' f1 (fun _ _ h => h.elim)
  clear f1
  refine env_call (d := 54) (v := .bool true) E rfl (by decide) rfl (w_yes (g := 17) (s := 49) E rfl rfl (by decide) (E.get 4 rfl)) (run_call2 (enters_of Tryz.func17 (by kernel_rfl) rfl) rfl rfl (E.get 2 rfl) (E.get 0 rfl)) (by have h := same_calls hu2 hu3; rw [show ((notQ l0 : List Sp) == (notQ l0 : List Sp)) = true from beq_of rfl] at h; exact h) fun a w1 f1 E => ?_
  have hT := Tb.fr hT f1 (fun r hr => id)
  have h0 := Src.fr h0 f1
  have h1 := Src.fr h1 f1
  have hu1 := Src.fr hu1 f1
  have hu2 := Src.fr hu2 f1
  have hu3 := Src.fr hu3 f1
  have hf := hf.trans' f1 (fun _ _ h => h.elim)
  clear f1
  refine ep (v := .bool true) E (run_pick_t rfl (E.get 5 rfl) (E.get 0 rfl)) fun a E => ?_
  refine ep (v := .bool true) E (run_assign rfl (E.get 0 rfl)) fun a E => ?_
  refine wpList_nil ?_
  refine then_n ?_
  refine wp_seq ?_
  refine wp_region_lit ?_
  refine ep (v := .bool true) E (run_move rfl (E.get 46 rfl)) fun a E => ?_
  refine ep (v := .bool true) E (run_move rfl (E.get 0 rfl)) fun a E => ?_
  refine eg (v := .bool true) E (w_yes (g := 1) (s := 57) E rfl rfl (by decide) (E.get 0 rfl)) (run_move rfl (E.get 2 rfl)) fun a E => ?_
  refine ep (v := .bool true) E (run_pick_t rfl (E.get 1 rfl) (E.get 0 rfl)) fun a E => ?_
  refine ep (v := .bool true) E (run_move rfl (E.get 0 rfl)) fun a E => ?_
  refine eg (v := .slice (p0) l0.length c0) E (w_yes (g := 4) (s := 60) E rfl rfl (by decide) (E.get 0 rfl)) (run_move rfl (E.get 54 rfl)) fun a E => ?_
  refine eg (v := .slice (p1) l1.length c1) E (w_yes (g := 4) (s := 60) E rfl rfl (by decide) (E.get 1 rfl)) (run_move rfl (E.get 56 rfl)) fun a E => ?_
  refine env_callv (d := 63) (R := fun u w8 => SpV w8 u (bothQ l0 l1) ∧ Fr (fun _ => False) w1 w8) E rfl (by decide) rfl (w_yes (g := 4) (s := 60) E rfl rfl (by decide) (E.get 2 rfl)) (run_call2 (enters_of Tryz.func26 (by kernel_rfl) rfl) rfl rfl (E.get 1 rfl) (E.get 0 rfl)) ((both_calls h0 h1 (by omega) (by omega)).mono fun e w8 h => by obtain ⟨u, rfl, h1, h2⟩ := h; exact ⟨_, rfl, ow.Src spL_len h1, h2⟩) fun a w1 u4 ⟨hu4, f1⟩ E => ?_
  have hT := Tb.fr hT f1 (fun r hr => id)
  have h0 := Src.fr h0 f1
  have h1 := Src.fr h1 f1
  have hu1 := Src.fr hu1 f1
  have hu2 := Src.fr hu2 f1
  have hu3 := Src.fr hu3 f1
  have hf := hf.trans' f1 (fun _ _ h => h.elim)
  clear f1
  refine eg (v := .slice (p0) l0.length c0) E (w_yes (g := 4) (s := 60) E rfl rfl (by decide) (E.get 3 rfl)) (run_move rfl (E.get 57 rfl)) fun a E => ?_
  refine eg (v := .slice (p1) l1.length c1) E (w_yes (g := 4) (s := 60) E rfl rfl (by decide) (E.get 4 rfl)) (run_move rfl (E.get 59 rfl)) fun a E => ?_
  refine env_callv (d := 66) (R := fun u w8 => SpV w8 u (bothQ l0 l1) ∧ Fr (fun _ => False) w1 w8) E rfl (by decide) rfl (w_yes (g := 4) (s := 60) E rfl rfl (by decide) (E.get 5 rfl)) (run_call2 (enters_of Tryz.func30 (by kernel_rfl) rfl) rfl rfl (E.get 1 rfl) (E.get 0 rfl)) ((rboth_calls h0 h1).mono fun e w8 h => by obtain ⟨u, rfl, h1, h2⟩ := h; exact ⟨_, rfl, h1, h2⟩) fun a w1 u5 ⟨hu5, f1⟩ E => ?_
  have hT := Tb.fr hT f1 (fun r hr => id)
  have h0 := Src.fr h0 f1
  have h1 := Src.fr h1 f1
  have hu1 := Src.fr hu1 f1
  have hu2 := Src.fr hu2 f1
  have hu3 := Src.fr hu3 f1
  have hu4 := Src.fr hu4 f1
  have hf := hf.trans' f1 (fun _ _ h => h.elim)
  clear f1
  refine env_call (d := 67) (v := .bool true) E rfl (by decide) rfl (w_yes (g := 4) (s := 60) E rfl rfl (by decide) (E.get 6 rfl)) (run_call2 (enters_of Tryz.func17 (by kernel_rfl) rfl) rfl rfl (E.get 3 rfl) (E.get 0 rfl)) (by have h := same_calls hu4 hu5; rw [show ((bothQ l0 l1 : List Sp) == (bothQ l0 l1 : List Sp)) = true from beq_of rfl] at h; exact h) fun a w1 f1 E => ?_
  have hT := Tb.fr hT f1 (fun r hr => id)
  have h0 := Src.fr h0 f1
  have h1 := Src.fr h1 f1
  have hu1 := Src.fr hu1 f1
  have hu2 := Src.fr hu2 f1
  have hu3 := Src.fr hu3 f1
  have hu4 := Src.fr hu4 f1
  have hu5 := Src.fr hu5 f1
  have hf := hf.trans' f1 (fun _ _ h => h.elim)
  clear f1
  refine ep (v := .bool true) E (run_pick_t rfl (E.get 7 rfl) (E.get 0 rfl)) fun a E => ?_
  refine ep (v := .bool true) E (run_move rfl (E.get 0 rfl)) fun a E => ?_
  refine eg (v := .slice (p0) l0.length c0) E (w_yes (g := 13) (s := 69) E rfl rfl (by decide) (E.get 0 rfl)) (run_move rfl (E.get 63 rfl)) fun a E => ?_
  refine eg (v := .slice (p1) l1.length c1) E (w_yes (g := 13) (s := 69) E rfl rfl (by decide) (E.get 1 rfl)) (run_move rfl (E.get 65 rfl)) fun a E => ?_
  refine env_callv (d := 72) (R := fun u w8 => SpV w8 u (eitherQ l0 l1) ∧ Fr (fun _ => False) w1 w8) E rfl (by decide) rfl (w_yes (g := 13) (s := 69) E rfl rfl (by decide) (E.get 2 rfl)) (run_call2 (enters_of Tryz.func24 (by kernel_rfl) rfl) rfl rfl (E.get 1 rfl) (E.get 0 rfl)) ((either_calls h0 h1 (by omega) (by omega)).mono fun e w8 h => by obtain ⟨u, rfl, h1, h2⟩ := h; exact ⟨_, rfl, ow.Src spL_len h1, h2⟩) fun a w1 u6 ⟨hu6, f1⟩ E => ?_
  have hT := Tb.fr hT f1 (fun r hr => id)
  have h0 := Src.fr h0 f1
  have h1 := Src.fr h1 f1
  have hu1 := Src.fr hu1 f1
  have hu2 := Src.fr hu2 f1
  have hu3 := Src.fr hu3 f1
  have hu4 := Src.fr hu4 f1
  have hu5 := Src.fr hu5 f1
  have hf := hf.trans' f1 (fun _ _ h => h.elim)
  clear f1
  refine eg (v := .slice (p0) l0.length c0) E (w_yes (g := 13) (s := 69) E rfl rfl (by decide) (E.get 3 rfl)) (run_move rfl (E.get 66 rfl)) fun a E => ?_
  refine eg (v := .slice (p1) l1.length c1) E (w_yes (g := 13) (s := 69) E rfl rfl (by decide) (E.get 4 rfl)) (run_move rfl (E.get 68 rfl)) fun a E => ?_
  refine env_callv (d := 75) (R := fun u w8 => SpV w8 u (eitherQ l0 l1) ∧ Fr (fun _ => False) w1 w8) E rfl (by decide) rfl (w_yes (g := 13) (s := 69) E rfl rfl (by decide) (E.get 5 rfl)) (run_call2 (enters_of Tryz.func31 (by kernel_rfl) rfl) rfl rfl (E.get 1 rfl) (E.get 0 rfl)) ((reither_calls h0 h1).mono fun e w8 h => by obtain ⟨u, rfl, h1, h2⟩ := h; exact ⟨_, rfl, h1, h2⟩) fun a w1 u7 ⟨hu7, f1⟩ E => ?_
  have hT := Tb.fr hT f1 (fun r hr => id)
  have h0 := Src.fr h0 f1
  have h1 := Src.fr h1 f1
  have hu1 := Src.fr hu1 f1
  have hu2 := Src.fr hu2 f1
  have hu3 := Src.fr hu3 f1
  have hu4 := Src.fr hu4 f1
  have hu5 := Src.fr hu5 f1
  have hu6 := Src.fr hu6 f1
  have hf := hf.trans' f1 (fun _ _ h => h.elim)
  clear f1
  refine env_call (d := 76) (v := .bool true) E rfl (by decide) rfl (w_yes (g := 13) (s := 69) E rfl rfl (by decide) (E.get 6 rfl)) (run_call2 (enters_of Tryz.func17 (by kernel_rfl) rfl) rfl rfl (E.get 3 rfl) (E.get 0 rfl)) (by have h := same_calls hu6 hu7; rw [show ((eitherQ l0 l1 : List Sp) == (eitherQ l0 l1 : List Sp)) = true from beq_of rfl] at h; exact h) fun a w1 f1 E => ?_
  have hT := Tb.fr hT f1 (fun r hr => id)
  have h0 := Src.fr h0 f1
  have h1 := Src.fr h1 f1
  have hu1 := Src.fr hu1 f1
  have hu2 := Src.fr hu2 f1
  have hu3 := Src.fr hu3 f1
  have hu4 := Src.fr hu4 f1
  have hu5 := Src.fr hu5 f1
  have hu6 := Src.fr hu6 f1
  have hu7 := Src.fr hu7 f1
  have hf := hf.trans' f1 (fun _ _ h => h.elim)
  clear f1
  refine ep (v := .bool true) E (run_pick_t rfl (E.get 7 rfl) (E.get 0 rfl)) fun a E => ?_
  refine env_set (d := 6) (v := .bool true) E rfl (by decide) (wanted_none rfl _) (run_assign rfl (E.get 0 rfl)) fun a E => ?_
  refine wpList_nil ?_
  refine then_n ?_
  refine wp_ret ?_
  exact ret_tmp (t := 6) rfl E (E.get 0 rfl) ⟨rfl, hf⟩
end Go.Proofs.YtjaffpnegdcjnaaGreatDoor
