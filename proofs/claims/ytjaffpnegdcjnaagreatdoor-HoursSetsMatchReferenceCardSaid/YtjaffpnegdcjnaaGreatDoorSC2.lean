/- The reader: clock, add. -/
import Derived.Test.YtjaffpnegdcjnaaGreatDoorSC1
set_option linter.unusedVariables false
set_option linter.unusedSimpArgs false
namespace Go.Proofs.YtjaffpnegdcjnaaGreatDoor
open Go.RowKit Go.Pl
theorem num_tok {t : Tok Int} (h : tokOK t) (hk : t.1 = 2) : t.2.1 ≠ [] ∧ (∀ b ∈ t.2.1, isDig b = true) ∧ t.2.1.length ≤ 7 ∧ 0 ≤ numT t.2.1 ∧ numT t.2.1 ≤ 9999999 := by
 rcases h with ⟨h, _⟩ | ⟨h, h0, h1, h2⟩ | h | ⟨h, _⟩
 ·omega
 ·exact ⟨h0, h2, h1, numT_go _ 0 (Int.le_refl _) h2, num_le h2 h1⟩
 ·omega
 ·omega
theorem len_ne2 (l : Bys) : (l.length != 2) = ((l.length : Int) != 2) := by
 by_cases h : l.length = 2
 ·rw [h]; rfl
 ·rw [bne_iff_ne.2 h, bne_iff_ne.2 (by omega)]
set_option maxRecDepth 100000 in
set_option maxHeartbeats 4000000 in
theorem clock_calls {w : World} {rb G : Nat} {en most : Int} {ts : List (Tok Int)} {sv : Value} (hR : Rd w rb G en ts sv) (hk : Tk ts) : Calls Tryz.prog 80 #[.pointer (some ⟨rb, 0, none⟩), .int .i64 most] w (StepP (Int × Int) w rb G en sv (fun r => .tuple #[.int .i64 r.1, .int .i64 r.2]) (clock en most ts)) := by
 refine wp_start2 Tryz.func80 rfl rfl (n := 60) (by decide) fun a E => ?_
 have hf : Fr (fun r => r = rb) w w := Fr.refl _ _
 have hrl := hR.lt
 refine wp_seq ?_
 refine wp_region_lit ?_
 refine ep (v := .int .i64 0) E (run_assign rfl rfl) fun a E => ?_
 refine ep (v := .int .i64 0) E (run_assign rfl rfl) fun a E => ?_
 refine wpList_nil ?_
 refine then_n ?_
 refine wp_seq ?_
 refine wp_region_lit ?_
 refine ep (v := .pointer (some ⟨rb, 0, none⟩)) E (run_move rfl (E.get 2 rfl)) fun a E => ?_
 refine ep (v := .pointer (some ⟨rb, 0, none⟩)) E (run_nilchk rfl (E.get 0 rfl)) fun a E => ?_
 refine ep (v := .pointer (some ⟨rb, 0, none⟩)) E (fa59_0 rfl (E.get 0 rfl)) fun a E => ?_
 rcases htk64 : take en 2 [] ts with ⟨c64, x64⟩ | ⟨t64, l64⟩
 ·skip
  refine env_callp (ch := pn c64 x64) (R := fun w8 => Fr (fun r => r = rb) w w8) (wanted_none rfl _) (run_call3 (enters_of Tryz.func56 (by kernel_rfl) rfl) rfl rfl (E.get 0 rfl) rfl rfl) ((take_calls (xs := []) hR (Src.nil _) 2).mono fun e w8 h => by unfold StepP at h; rw [htk64] at h; exact ⟨h.2, h.1⟩) fun w1 f1 => ?_
  have hf := hf.trans' f1 (fun r hr e => by (try simp only at e); first | exact e | exact .inl e)
  refine then_p ?_
  refine pan_end E ⟨hf, ?_⟩
  unfold clock
  rw [htk64]
  try simp only
 refine env_callv (d := 11) (R := fun u w8 => u = .agg (tkA t64) ∧ Rd w8 rb G en l64 sv ∧ Fr (fun r => r = rb) w w8) E rfl (by decide) rfl (wanted_none rfl _) (run_call3 (enters_of Tryz.func56 (by kernel_rfl) rfl) rfl rfl (E.get 0 rfl) rfl rfl) ((take_calls (xs := []) hR (Src.nil _) 2).mono fun e w8 h => by unfold StepP at h; rw [htk64] at h; exact ⟨_, h.2.1, rfl, h.2.2, h.1⟩) fun a w1 u ⟨hu, hR2, f1⟩ E => ?_
 subst hu
 have hf := hf.trans' f1 (fun r hr => (fun e => by (try simp only at e); omega))
 clear f1
 have hR := hR2
 clear hR2
 obtain ⟨hto64, hkd64, hk⟩ := take_tk hk htk64
 have hin64 := (take_ok htk64).2.2
 refine env_new (d := 6) E rfl (by decide) rfl (wanted_none rfl _) (run_alloc38 rfl) fun a w1 b65 eb65 hb65 f1 E => ?_
 have hnb65 : w.heap.size ≤ b65 := by have := hf.size; omega
 have hR := Rd.fr hR f1 (fun r hr => id)
 have hf := hf.trans' f1 (fun _ _ h => h.elim)
 clear f1
 refine env_st38 E rfl (wanted_none rfl _) rfl (E.get 0 rfl) (E.get 1 rfl) hb65 fun w1 hb65n f1 E => ?_
 have hR := Rd.fr hR f1 (fun r hr => (fun e => by (try simp only at e); omega))
 have hf := hf.trans' f1 (fun r hr => (fun e => by (try simp only at e); omega))
 clear f1
 replace hb65 := hb65n
 refine wpList_nil ?_
 refine then_n ?_
 refine wp_seq ?_
 refine wp_seq ?_
 have hntt64 := num_tok hto64 hkd64
 refine wp_region_lit ?_
 refine ep (v := .agg (tkA t64)) E (run_ld38 rfl (E.get 0 rfl) (rng3 (p := t64) hb65 0 rfl rfl rfl)) fun a E => ?_
 refine env_call (d := 13) (v := .int .i64 (numT t64.2.1)) E rfl (by decide) rfl (wanted_none rfl _) (run_call1 (enters_of Tryz.func99 (by kernel_rfl) rfl) rfl rfl (E.get 0 rfl)) (number_calls t64 hntt64.1 hntt64.2.1 hntt64.2.2.1 _) fun a w1 f1 E => ?_
 have hR := Rd.fr hR f1 (fun r hr => id)
 have hb65 := f1.obj hb65 id
 have hf := hf.trans' f1 (fun _ _ h => h.elim)
 clear f1
 refine ep (v := .int .i64 most) E (run_move rfl (E.get 10 rfl)) fun a E => ?_
 refine ep (v := .bool (decide (most < (numT t64.2.1)))) E (run_igtr (E.get 1 rfl) (E.get 0 rfl) Tryz.underlying3 rfl) fun a E => ?_
 refine wpList_nil ?_
 refine then_n ?_
 cases hq66 : (decide (most < (numT t64.2.1))) with
 | false =>
  rw [hq66] at E
  refine wp_cond_false (E.get 0 rfl) ?_
  refine wp_skip ?_
  refine then_n ?_
  refine wp_seq ?_
  refine wp_region_lit ?_
  refine ep (v := .pointer (some ⟨rb, 0, none⟩)) E (run_move rfl (E.get 11 rfl)) fun a E => ?_
  refine ep (v := .pointer (some ⟨rb, 0, none⟩)) E (run_nilchk rfl (E.get 0 rfl)) fun a E => ?_
  refine ep (v := .pointer (some ⟨rb, 0, none⟩)) E (fa59_0 rfl (E.get 0 rfl)) fun a E => ?_
  refine env_one70 (d := 23) E rfl (by decide) rfl (wanted_none rfl _) rfl rfl fun a w1 b67 eb67 hbb67 f1 E => ?_
  have hR := Rd.fr hR f1 (fun r hr => id)
  have hb65 := f1.obj hb65 id
  have hf := hf.trans' f1 (fun _ _ h => h.elim)
  clear f1
  have hsb67 := src_one (f := stL) (c := 1) (G := w1.heap.size) hbb67 (lt_of_blk hbb67)
  clear hbb67 eb67
  rcases htk68 : take en 4 [cColon] l64 with ⟨c68, x68⟩ | ⟨t68, l68⟩
  ·skip
   refine env_callp (ch := pn c68 x68) (R := fun w8 => Fr (fun r => r = rb) w1 w8) (wanted_none rfl _) (run_call3 (enters_of Tryz.func56 (by kernel_rfl) rfl) rfl rfl (E.get 1 rfl) rfl (E.get 0 rfl)) ((take_calls (xs := [cColon]) hR ⟨_, 1, rfl, Nat.le_refl _, by omega, hsb67, fun h => by cases h⟩ 4).mono fun e w8 h => by unfold StepP at h; rw [htk68] at h; exact ⟨h.2, h.1⟩) fun w1 f1 => ?_
   have hf := hf.trans' f1 (fun r hr e => by (try simp only at e); first | exact e | exact .inl e)
   refine then_p ?_
   refine pan_end E ⟨hf, ?_⟩
   unfold clock
   rw [htk64]
   try simp only
   rw [if_neg (of_decide_eq_false hq66)]
   try simp only
   rw [htk68]
   try simp only
  refine env_callv (d := 24) (R := fun u w8 => u = .agg (tkA t68) ∧ Rd w8 rb G en l68 sv ∧ Fr (fun r => r = rb) w1 w8) E rfl (by decide) rfl (wanted_none rfl _) (run_call3 (enters_of Tryz.func56 (by kernel_rfl) rfl) rfl rfl (E.get 1 rfl) rfl (E.get 0 rfl)) ((take_calls (xs := [cColon]) hR ⟨_, 1, rfl, Nat.le_refl _, by omega, hsb67, fun h => by cases h⟩ 4).mono fun e w8 h => by unfold StepP at h; rw [htk68] at h; exact ⟨_, h.2.1, rfl, h.2.2, h.1⟩) fun a w1 u ⟨hu, hR2, f1⟩ E => ?_
  subst hu
  have hb65 := f1.obj hb65 (fun e => by (try simp only at e); omega)
  have hf := hf.trans' f1 (fun r hr => (fun e => by (try simp only at e); omega))
  clear f1
  have hR := hR2
  clear hR2
  obtain ⟨hto68, hkd68, hk⟩ := take_tk hk htk68
  have hin68 := (take_ok htk68).2.2
  refine wpList_nil ?_
  refine then_n ?_
  refine wp_seq ?_
  refine wp_region_lit ?_
  refine ep (v := .pointer (some ⟨rb, 0, none⟩)) E (run_move rfl (E.get 16 rfl)) fun a E => ?_
  refine ep (v := .pointer (some ⟨rb, 0, none⟩)) E (run_nilchk rfl (E.get 0 rfl)) fun a E => ?_
  refine ep (v := .pointer (some ⟨rb, 0, none⟩)) E (fa59_0 rfl (E.get 0 rfl)) fun a E => ?_
  rcases htk69 : take en 2 [] l68 with ⟨c69, x69⟩ | ⟨t69, l69⟩
  ·skip
   refine env_callp (ch := pn c69 x69) (R := fun w8 => Fr (fun r => r = rb) w1 w8) (wanted_none rfl _) (run_call3 (enters_of Tryz.func56 (by kernel_rfl) rfl) rfl rfl (E.get 0 rfl) rfl rfl) ((take_calls (xs := []) hR (Src.nil _) 2).mono fun e w8 h => by unfold StepP at h; rw [htk69] at h; exact ⟨h.2, h.1⟩) fun w1 f1 => ?_
   have hf := hf.trans' f1 (fun r hr e => by (try simp only at e); first | exact e | exact .inl e)
   refine then_p ?_
   refine pan_end E ⟨hf, ?_⟩
   unfold clock
   rw [htk64]
   try simp only
   rw [if_neg (of_decide_eq_false hq66)]
   try simp only
   rw [htk68]
   try simp only
   rw [htk69]
   try simp only
  refine env_callv (d := 28) (R := fun u w8 => u = .agg (tkA t69) ∧ Rd w8 rb G en l69 sv ∧ Fr (fun r => r = rb) w1 w8) E rfl (by decide) rfl (wanted_none rfl _) (run_call3 (enters_of Tryz.func56 (by kernel_rfl) rfl) rfl rfl (E.get 0 rfl) rfl rfl) ((take_calls (xs := []) hR (Src.nil _) 2).mono fun e w8 h => by unfold StepP at h; rw [htk69] at h; exact ⟨_, h.2.1, rfl, h.2.2, h.1⟩) fun a w1 u ⟨hu, hR2, f1⟩ E => ?_
  subst hu
  have hb65 := f1.obj hb65 (fun e => by (try simp only at e); omega)
  have hf := hf.trans' f1 (fun r hr => (fun e => by (try simp only at e); omega))
  clear f1
  have hR := hR2
  clear hR2
  obtain ⟨hto69, hkd69, hk⟩ := take_tk hk htk69
  have hin69 := (take_ok htk69).2.2
  refine env_new (d := 7) E rfl (by decide) rfl (wanted_none rfl _) (run_alloc38 rfl) fun a w1 b70 eb70 hb70 f1 E => ?_
  have hnb70 : w.heap.size ≤ b70 := by have := hf.size; omega
  have hlb65b70 : b65 < b70 := by have := lt_of_blk hb65; omega
  have hR := Rd.fr hR f1 (fun r hr => id)
  have hb65 := f1.obj hb65 id
  have hf := hf.trans' f1 (fun _ _ h => h.elim)
  clear f1
  refine env_st38 E rfl (wanted_none rfl _) rfl (E.get 0 rfl) (E.get 1 rfl) hb70 fun w1 hb70n f1 E => ?_
  have hR := Rd.fr hR f1 (fun r hr => (fun e => by (try simp only at e); omega))
  have hb65 := f1.obj hb65 (fun e => by (try simp only at e); omega)
  have hf := hf.trans' f1 (fun r hr => (fun e => by (try simp only at e); omega))
  clear f1
  replace hb70 := hb70n
  refine wpList_nil ?_
  refine then_n ?_
  refine wp_seq ?_
  refine wp_seq ?_
  have hntt69 := num_tok hto69 hkd69
  refine wp_region_lit ?_
  refine ep (v := .pointer (some ⟨b70, 1, none⟩)) E (fa38_1 rfl (E.get 0 rfl)) fun a E => ?_
  refine ep (v := .string (ofL t69.2.1)) E (run_lds rfl (E.get 0 rfl) (bx hb70 1 rfl)) fun a E => ?_
  refine ep (v := .int .i64 (t69.2.1.length : Int)) E (run_slen rfl (E.get 0 rfl)) fun a E => ?_
  refine ep (v := .bool ((t69.2.1.length : Int) != 2)) E (run_ineq (E.get 0 rfl) rfl Tryz.underlying3 rfl) fun a E => ?_
  refine ep (v := .bool ((t69.2.1.length : Int) != 2)) E (run_move rfl (E.get 0 rfl)) fun a E => ?_
  cases hq71 : ((t69.2.1.length : Int) != 2) with
  | false =>
   rw [hq71] at E
   refine eg (v := .agg (tkA t69)) E (w_yes (g := 4) (s := 33) E rfl rfl (by decide) (E.get 0 rfl)) (run_ld38 rfl (E.get 5 rfl) (rng3 (p := t69) hb70 0 rfl rfl rfl)) fun a E => ?_
   refine env_call (d := 35) (v := .int .i64 (numT t69.2.1)) E rfl (by decide) rfl (w_yes (g := 4) (s := 33) E rfl rfl (by decide) (E.get 1 rfl)) (run_call1 (enters_of Tryz.func99 (by kernel_rfl) rfl) rfl rfl (E.get 0 rfl)) (number_calls t69 hntt69.1 hntt69.2.1 hntt69.2.2.1 _) fun a w1 f1 E => ?_
   have hR := Rd.fr hR f1 (fun r hr => id)
   have hb65 := f1.obj hb65 id
   have hb70 := f1.obj hb70 id
   have hf := hf.trans' f1 (fun _ _ h => h.elim)
   clear f1
   refine eg (v := .bool (decide (59 < (numT t69.2.1)))) E (w_yes (g := 4) (s := 33) E rfl rfl (by decide) (E.get 2 rfl)) (run_igtr (E.get 0 rfl) rfl Tryz.underlying3 rfl) fun a E => ?_
   refine ep (v := .bool (decide (59 < (numT t69.2.1)))) E (run_pick_f rfl (E.get 3 rfl) (E.get 0 rfl)) fun a E => ?_
   refine ep (v := .bool (decide (59 < (numT t69.2.1)))) E (run_move rfl (E.get 0 rfl)) fun a E => ?_
   cases hq72 : (decide (59 < (numT t69.2.1))) with
   | false =>
    rw [hq72] at E
    refine eg (v := .agg (tkA t64)) E (w_yes (g := 9) (s := 38) E rfl rfl (by decide) (E.get 0 rfl)) (run_ld38 rfl (E.get 24 rfl) (rng3 (p := t64) hb65 0 rfl rfl rfl)) fun a E => ?_
    refine env_call (d := 40) (v := .int .i64 (numT t64.2.1)) E rfl (by decide) rfl (w_yes (g := 9) (s := 38) E rfl rfl (by decide) (E.get 1 rfl)) (run_call1 (enters_of Tryz.func99 (by kernel_rfl) rfl) rfl rfl (E.get 0 rfl)) (number_calls t64 hntt64.1 hntt64.2.1 hntt64.2.2.1 _) fun a w1 f1 E => ?_
    have hR := Rd.fr hR f1 (fun r hr => id)
    have hb65 := f1.obj hb65 id
    have hb70 := f1.obj hb70 id
    have hf := hf.trans' f1 (fun _ _ h => h.elim)
    clear f1
    refine eg (v := .bool ((numT t64.2.1) == 24)) E (w_yes (g := 9) (s := 38) E rfl rfl (by decide) (E.get 2 rfl)) (run_ieql (E.get 0 rfl) rfl Tryz.underlying3 rfl) fun a E => ?_
    refine eg (v := .bool ((numT t64.2.1) == 24)) E (w_yes (g := 9) (s := 38) E rfl rfl (by decide) (E.get 3 rfl)) (run_move rfl (E.get 0 rfl)) fun a E => ?_
    cases hq73 : ((numT t64.2.1) == 24) with
    | false =>
     rw [hq73] at E
     refine ek E rfl (E.get 0 rfl) fun a E => ?_
     refine ek E rfl (E.get 1 rfl) fun a E => ?_
     refine ek E rfl (E.get 2 rfl) fun a E => ?_
     refine eg (v := .bool false) E (w_yes (g := 9) (s := 38) E rfl rfl (by decide) (E.get 7 rfl)) (run_pick_f rfl (E.get 3 rfl) rfl) fun a E => ?_
     refine ep (v := .bool false) E (run_pick_f rfl (E.get 8 rfl) (E.get 0 rfl)) fun a E => ?_
     refine wpList_nil ?_
     refine then_n ?_
     refine wp_cond_false (E.get 0 rfl) ?_
     refine wp_skip ?_
     refine then_n ?_
     refine wp_seq ?_
     refine wp_region_invx (G := Unit) () (n := 60) (base := [(47, .bool false), (46, .bool false), (45, undef), (44, undef), (43, undef), (42, .bool false), (41, .bool false), (40, .int .i64 (numT t64.2.1)), (39, .agg (tkA t64)), (38, .bool false), (37, .bool false), (36, .bool false), (35, .int .i64 (numT t69.2.1)), (34, .agg (tkA t69)), (33, .bool false), (32, .bool false), (31, .int .i64 (t69.2.1.length : Int)), (30, .string (ofL t69.2.1)), (29, .pointer (some ⟨b70, 1, none⟩)), (7, .pointer (some ⟨b70, 0, none⟩)), (28, .agg (tkA t69)), (27, .pointer (some ⟨rb, 0, none⟩)), (26, .pointer (some ⟨rb, 0, none⟩)), (25, .pointer (some ⟨rb, 0, none⟩)), (23, .slice (some ⟨b67, 0, none⟩) 1 1), (22, .pointer (some ⟨rb, 0, none⟩)), (21, .pointer (some ⟨rb, 0, none⟩)), (20, .pointer (some ⟨rb, 0, none⟩)), (15, .bool false), (14, .int .i64 most), (13, .int .i64 (numT t64.2.1)), (12, .agg (tkA t64)), (6, .pointer (some ⟨b65, 0, none⟩)), (11, .agg (tkA t64)), (10, .pointer (some ⟨rb, 0, none⟩)), (9, .pointer (some ⟨rb, 0, none⟩)), (8, .pointer (some ⟨rb, 0, none⟩)), (0, .pointer (some ⟨rb, 0, none⟩)), (1, .int .i64 most)]) (U := [(5, .int .i64 0, 9), (4, .int .i64 0, 8)]) (T := fun γ => [some (52, .agg (tkA t64)), some (53, .int .i64 (numT t64.2.1)), some (54, .int .i64 (60 * (numT t64.2.1))), some (55, .agg (tkA t69)), some (56, .int .i64 (numT t69.2.1)), some (57, .int .i64 ((60 * (numT t64.2.1)) + (numT t69.2.1))), some (58, .pointer (some ⟨b65, 2, none⟩)), some (59, .int .i64 t64.2.2), some (4, .int .i64 ((60 * (numT t64.2.1)) + (numT t69.2.1))), some (5, .int .i64 t64.2.2)]) (M := fun γ ls9 wm => Fr (fun _ => False) w1 wm) (by kernel_rfl) (by kernel_rfl) (fun _ => by kernel_rfl) (E.of ⟨E.get 0 rfl, E.get 1 rfl, E.get 2 rfl, E.get 3 rfl, E.get 4 rfl, E.get 5 rfl, E.get 6 rfl, E.get 7 rfl, E.get 8 rfl, E.get 9 rfl, E.get 10 rfl, E.get 11 rfl, E.get 12 rfl, E.get 13 rfl, E.get 14 rfl, E.get 15 rfl, E.get 16 rfl, E.get 17 rfl, E.get 18 rfl, E.get 19 rfl, E.get 20 rfl, E.get 21 rfl, E.get 22 rfl, E.get 23 rfl, E.get 25 rfl, E.get 26 rfl, E.get 27 rfl, E.get 28 rfl, E.get 29 rfl, E.get 30 rfl, E.get 31 rfl, E.get 32 rfl, E.get 33 rfl, E.get 34 rfl, E.get 35 rfl, E.get 36 rfl, E.get 37 rfl, E.get 40 rfl, E.get 41 rfl, trivial⟩) (fun x hx => by simp only [List.mem_cons, List.not_mem_nil, or_false] at hx; rcases hx with rfl | rfl; exact E.get 38 rfl; exact E.get 39 rfl) (Fr.refl _ _).drew ?_ ?_
     ·intro j9 o9 γ ls9 a w5 ho hl E D DL DL2 hB hM
      have hR := Rd.fr hR hM (fun r hr => id)
      have hb65 := hM.obj hb65 id
      have hb70 := hM.obj hb70 id
      match j9, ho, hl, D, DL, hB with
      | 0, ho, hl, D, DL, hB =>
       obtain rfl := Option.some.inj ho
       clear ho
       exact ⟨fun _ => valx rfl (run_ld38 rfl (E.get 32 rfl) (rng3 (p := t64) hb65 0 rfl rfl rfl)) rfl hM, fun h => by rw [wanted_none rfl] at h; cases h⟩
      | 1, ho, hl, D, DL, hB =>
       obtain rfl := Option.some.inj ho
       clear ho
       exact ⟨fun _ => callx rfl (run_call1 (enters_of Tryz.func99 (by kernel_rfl) rfl) rfl rfl (D 0 _ rfl rfl)) (number_calls t64 hntt64.1 hntt64.2.1 hntt64.2.2.1 _) rfl fun w9 f1 => hM.trans' f1 (fun _ _ h => h.elim), fun h => by rw [wanted_none rfl] at h; cases h⟩
      | 2, ho, hl, D, DL, hB =>
       obtain rfl := Option.some.inj ho
       clear ho
       exact ⟨fun _ => valx rfl (run_imul Tryz.underlying3 rfl (D 1 _ rfl rfl) (by omega) (by omega) rfl) rfl hM, fun h => by rw [wanted_none rfl] at h; cases h⟩
      | 3, ho, hl, D, DL, hB =>
       obtain rfl := Option.some.inj ho
       clear ho
       exact ⟨fun _ => valx rfl (run_ld38 rfl (E.get 19 rfl) (rng3 (p := t69) hb70 0 rfl rfl rfl)) rfl hM, fun h => by rw [wanted_none rfl] at h; cases h⟩
      | 4, ho, hl, D, DL, hB =>
       obtain rfl := Option.some.inj ho
       clear ho
       exact ⟨fun _ => callx rfl (run_call1 (enters_of Tryz.func99 (by kernel_rfl) rfl) rfl rfl (D 3 _ rfl rfl)) (number_calls t69 hntt69.1 hntt69.2.1 hntt69.2.2.1 _) rfl fun w9 f1 => hM.trans' f1 (fun _ _ h => h.elim), fun h => by rw [wanted_none rfl] at h; cases h⟩
      | 5, ho, hl, D, DL, hB =>
       obtain rfl := Option.some.inj ho
       clear ho
       exact ⟨fun _ => valx rfl (run_iadd Tryz.underlying3 (D 2 _ rfl rfl) (D 4 _ rfl rfl) (by omega) (by omega) rfl) rfl hM, fun h => by rw [wanted_none rfl] at h; cases h⟩
      | 6, ho, hl, D, DL, hB =>
       obtain rfl := Option.some.inj ho
       clear ho
       exact ⟨fun _ => valx rfl (fa38_2 rfl (E.get 32 rfl)) rfl hM, fun h => by rw [wanted_none rfl] at h; cases h⟩
      | 7, ho, hl, D, DL, hB =>
       obtain rfl := Option.some.inj ho
       clear ho
       exact ⟨fun _ => valx rfl (run_ldi rfl (D 6 _ rfl rfl) (bx hb65 2 rfl)) rfl hM, fun h => by rw [wanted_none rfl] at h; cases h⟩
      | 8, ho, hl, D, DL, hB =>
       obtain rfl := Option.some.inj ho
       clear ho
       exact ⟨fun _ => valx rfl (run_assign rfl (D 5 _ rfl rfl)) rfl hM, fun h => by rw [wanted_none rfl] at h; cases h⟩
      | 9, ho, hl, D, DL, hB =>
       obtain rfl := Option.some.inj ho
       clear ho
       exact ⟨fun _ => valx rfl (run_assign rfl (D 7 _ rfl rfl)) rfl hM, fun h => by rw [wanted_none rfl] at h; cases h⟩
      | j9 + 10, ho, hl, D, DL, hB => exact absurd ho (by simp)
     ·rintro _ a w5 E V hM
      have E := E.add (v := .int .i64 ((60 * (numT t64.2.1)) + (numT t69.2.1))) (V 8 _ rfl)
      have E := E.add (v := .int .i64 t64.2.2) (V 9 _ rfl)
      clear V
      have hR := Rd.fr hR hM (fun r hr => id)
      have hb65 := hM.obj hb65 id
      have hb70 := hM.obj hb70 id
      have hf := hf.trans' hM (fun _ _ h => h.elim)
      clear hM
      refine then_n ?_
      refine wp_ret ?_
      refine ret_tmp2 (t := 4) (t2 := 5) rfl E (E.get 1 rfl) (E.get 0 rfl) ⟨hf, ?_⟩
      unfold clock
      rw [htk64]
      try simp only
      rw [if_neg (of_decide_eq_false hq66)]
      try simp only
      rw [htk68]
      try simp only
      rw [htk69]
      try simp only
      have hbb : (t69.2.1.length != 2 || decide (numT t69.2.1 > 59) || (numT t64.2.1 == 24 && decide (numT t69.2.1 > 0))) = false := by
       rw [len_ne2]
       simp only [gt_iff_lt]
       try rw [hq71]
       try rw [hq72]
       try rw [hq73]
       first | rfl | simp
      rw [hbb]
      simp only [Bool.false_eq_true, if_true, if_false]
      first | exact ⟨rfl, hR⟩ | exact ⟨trivial, hR⟩
    | true =>
     rw [hq73] at E
     refine eg (v := .agg (tkA t69)) E (w_yes (g := 13) (s := 42) E rfl rfl (by decide) (E.get 0 rfl)) (run_ld38 rfl (E.get 14 rfl) (rng3 (p := t69) hb70 0 rfl rfl rfl)) fun a E => ?_
     refine env_call (d := 44) (v := .int .i64 (numT t69.2.1)) E rfl (by decide) rfl (w_yes (g := 13) (s := 42) E rfl rfl (by decide) (E.get 1 rfl)) (run_call1 (enters_of Tryz.func99 (by kernel_rfl) rfl) rfl rfl (E.get 0 rfl)) (number_calls t69 hntt69.1 hntt69.2.1 hntt69.2.2.1 _) fun a w1 f1 E => ?_
     have hR := Rd.fr hR f1 (fun r hr => id)
     have hb65 := f1.obj hb65 id
     have hb70 := f1.obj hb70 id
     have hf := hf.trans' f1 (fun _ _ h => h.elim)
     clear f1
     refine eg (v := .bool (decide (0 < (numT t69.2.1)))) E (w_yes (g := 13) (s := 42) E rfl rfl (by decide) (E.get 2 rfl)) (run_igtr (E.get 0 rfl) rfl Tryz.underlying3 rfl) fun a E => ?_
     refine eg (v := .bool (decide (0 < (numT t69.2.1)))) E (w_yes (g := 9) (s := 38) E rfl rfl (by decide) (E.get 7 rfl)) (run_pick_t rfl (E.get 3 rfl) (E.get 0 rfl)) fun a E => ?_
     refine ep (v := .bool (decide (0 < (numT t69.2.1)))) E (run_pick_f rfl (E.get 8 rfl) (E.get 0 rfl)) fun a E => ?_
     refine wpList_nil ?_
     refine then_n ?_
     cases hq75 : (decide (0 < (numT t69.2.1))) with
     | false =>
      rw [hq75] at E
      refine wp_cond_false (E.get 0 rfl) ?_
      refine wp_skip ?_
      refine then_n ?_
      refine wp_seq ?_
      refine wp_region_invx (G := Unit) () (n := 60) (base := [(47, .bool false), (46, .bool false), (45, .bool false), (44, .int .i64 (numT t69.2.1)), (43, .agg (tkA t69)), (42, .bool true), (41, .bool true), (40, .int .i64 (numT t64.2.1)), (39, .agg (tkA t64)), (38, .bool false), (37, .bool false), (36, .bool false), (35, .int .i64 (numT t69.2.1)), (34, .agg (tkA t69)), (33, .bool false), (32, .bool false), (31, .int .i64 (t69.2.1.length : Int)), (30, .string (ofL t69.2.1)), (29, .pointer (some ⟨b70, 1, none⟩)), (7, .pointer (some ⟨b70, 0, none⟩)), (28, .agg (tkA t69)), (27, .pointer (some ⟨rb, 0, none⟩)), (26, .pointer (some ⟨rb, 0, none⟩)), (25, .pointer (some ⟨rb, 0, none⟩)), (23, .slice (some ⟨b67, 0, none⟩) 1 1), (22, .pointer (some ⟨rb, 0, none⟩)), (21, .pointer (some ⟨rb, 0, none⟩)), (20, .pointer (some ⟨rb, 0, none⟩)), (15, .bool false), (14, .int .i64 most), (13, .int .i64 (numT t64.2.1)), (12, .agg (tkA t64)), (6, .pointer (some ⟨b65, 0, none⟩)), (11, .agg (tkA t64)), (10, .pointer (some ⟨rb, 0, none⟩)), (9, .pointer (some ⟨rb, 0, none⟩)), (8, .pointer (some ⟨rb, 0, none⟩)), (0, .pointer (some ⟨rb, 0, none⟩)), (1, .int .i64 most)]) (U := [(5, .int .i64 0, 9), (4, .int .i64 0, 8)]) (T := fun γ => [some (52, .agg (tkA t64)), some (53, .int .i64 (numT t64.2.1)), some (54, .int .i64 (60 * (numT t64.2.1))), some (55, .agg (tkA t69)), some (56, .int .i64 (numT t69.2.1)), some (57, .int .i64 ((60 * (numT t64.2.1)) + (numT t69.2.1))), some (58, .pointer (some ⟨b65, 2, none⟩)), some (59, .int .i64 t64.2.2), some (4, .int .i64 ((60 * (numT t64.2.1)) + (numT t69.2.1))), some (5, .int .i64 t64.2.2)]) (M := fun γ ls9 wm => Fr (fun _ => False) w1 wm) (by kernel_rfl) (by kernel_rfl) (fun _ => by kernel_rfl) (E.of ⟨E.get 0 rfl, E.get 1 rfl, E.get 2 rfl, E.get 3 rfl, E.get 4 rfl, E.get 5 rfl, E.get 6 rfl, E.get 7 rfl, E.get 8 rfl, E.get 9 rfl, E.get 10 rfl, E.get 11 rfl, E.get 12 rfl, E.get 13 rfl, E.get 14 rfl, E.get 15 rfl, E.get 16 rfl, E.get 17 rfl, E.get 18 rfl, E.get 19 rfl, E.get 20 rfl, E.get 21 rfl, E.get 22 rfl, E.get 23 rfl, E.get 25 rfl, E.get 26 rfl, E.get 27 rfl, E.get 28 rfl, E.get 29 rfl, E.get 30 rfl, E.get 31 rfl, E.get 32 rfl, E.get 33 rfl, E.get 34 rfl, E.get 35 rfl, E.get 36 rfl, E.get 37 rfl, E.get 40 rfl, E.get 41 rfl, trivial⟩) (fun x hx => by simp only [List.mem_cons, List.not_mem_nil, or_false] at hx; rcases hx with rfl | rfl; exact E.get 38 rfl; exact E.get 39 rfl) (Fr.refl _ _).drew ?_ ?_
      ·intro j9 o9 γ ls9 a w5 ho hl E D DL DL2 hB hM
       have hR := Rd.fr hR hM (fun r hr => id)
       have hb65 := hM.obj hb65 id
       have hb70 := hM.obj hb70 id
       match j9, ho, hl, D, DL, hB with
       | 0, ho, hl, D, DL, hB =>
        obtain rfl := Option.some.inj ho
        clear ho
        exact ⟨fun _ => valx rfl (run_ld38 rfl (E.get 32 rfl) (rng3 (p := t64) hb65 0 rfl rfl rfl)) rfl hM, fun h => by rw [wanted_none rfl] at h; cases h⟩
       | 1, ho, hl, D, DL, hB =>
        obtain rfl := Option.some.inj ho
        clear ho
        exact ⟨fun _ => callx rfl (run_call1 (enters_of Tryz.func99 (by kernel_rfl) rfl) rfl rfl (D 0 _ rfl rfl)) (number_calls t64 hntt64.1 hntt64.2.1 hntt64.2.2.1 _) rfl fun w9 f1 => hM.trans' f1 (fun _ _ h => h.elim), fun h => by rw [wanted_none rfl] at h; cases h⟩
       | 2, ho, hl, D, DL, hB =>
        obtain rfl := Option.some.inj ho
        clear ho
        exact ⟨fun _ => valx rfl (run_imul Tryz.underlying3 rfl (D 1 _ rfl rfl) (by omega) (by omega) rfl) rfl hM, fun h => by rw [wanted_none rfl] at h; cases h⟩
       | 3, ho, hl, D, DL, hB =>
        obtain rfl := Option.some.inj ho
        clear ho
        exact ⟨fun _ => valx rfl (run_ld38 rfl (E.get 19 rfl) (rng3 (p := t69) hb70 0 rfl rfl rfl)) rfl hM, fun h => by rw [wanted_none rfl] at h; cases h⟩
       | 4, ho, hl, D, DL, hB =>
        obtain rfl := Option.some.inj ho
        clear ho
        exact ⟨fun _ => callx rfl (run_call1 (enters_of Tryz.func99 (by kernel_rfl) rfl) rfl rfl (D 3 _ rfl rfl)) (number_calls t69 hntt69.1 hntt69.2.1 hntt69.2.2.1 _) rfl fun w9 f1 => hM.trans' f1 (fun _ _ h => h.elim), fun h => by rw [wanted_none rfl] at h; cases h⟩
       | 5, ho, hl, D, DL, hB =>
        obtain rfl := Option.some.inj ho
        clear ho
        exact ⟨fun _ => valx rfl (run_iadd Tryz.underlying3 (D 2 _ rfl rfl) (D 4 _ rfl rfl) (by omega) (by omega) rfl) rfl hM, fun h => by rw [wanted_none rfl] at h; cases h⟩
       | 6, ho, hl, D, DL, hB =>
        obtain rfl := Option.some.inj ho
        clear ho
        exact ⟨fun _ => valx rfl (fa38_2 rfl (E.get 32 rfl)) rfl hM, fun h => by rw [wanted_none rfl] at h; cases h⟩
       | 7, ho, hl, D, DL, hB =>
        obtain rfl := Option.some.inj ho
        clear ho
        exact ⟨fun _ => valx rfl (run_ldi rfl (D 6 _ rfl rfl) (bx hb65 2 rfl)) rfl hM, fun h => by rw [wanted_none rfl] at h; cases h⟩
       | 8, ho, hl, D, DL, hB =>
        obtain rfl := Option.some.inj ho
        clear ho
        exact ⟨fun _ => valx rfl (run_assign rfl (D 5 _ rfl rfl)) rfl hM, fun h => by rw [wanted_none rfl] at h; cases h⟩
       | 9, ho, hl, D, DL, hB =>
        obtain rfl := Option.some.inj ho
        clear ho
        exact ⟨fun _ => valx rfl (run_assign rfl (D 7 _ rfl rfl)) rfl hM, fun h => by rw [wanted_none rfl] at h; cases h⟩
       | j9 + 10, ho, hl, D, DL, hB => exact absurd ho (by simp)
      ·rintro _ a w5 E V hM
       have E := E.add (v := .int .i64 ((60 * (numT t64.2.1)) + (numT t69.2.1))) (V 8 _ rfl)
       have E := E.add (v := .int .i64 t64.2.2) (V 9 _ rfl)
       clear V
       have hR := Rd.fr hR hM (fun r hr => id)
       have hb65 := hM.obj hb65 id
       have hb70 := hM.obj hb70 id
       have hf := hf.trans' hM (fun _ _ h => h.elim)
       clear hM
       refine then_n ?_
       refine wp_ret ?_
       refine ret_tmp2 (t := 4) (t2 := 5) rfl E (E.get 1 rfl) (E.get 0 rfl) ⟨hf, ?_⟩
       unfold clock
       rw [htk64]
       try simp only
       rw [if_neg (of_decide_eq_false hq66)]
       try simp only
       rw [htk68]
       try simp only
       rw [htk69]
       try simp only
       have hbb : (t69.2.1.length != 2 || decide (numT t69.2.1 > 59) || (numT t64.2.1 == 24 && decide (numT t69.2.1 > 0))) = false := by
        rw [len_ne2]
        simp only [gt_iff_lt]
        try rw [hq71]
        try rw [hq72]
        try rw [hq73]
        try rw [hq75]
        first | rfl | simp
       rw [hbb]
       simp only [Bool.false_eq_true, if_true, if_false]
       first | exact ⟨rfl, hR⟩ | exact ⟨trivial, hR⟩
     | true =>
      rw [hq75] at E
      refine wp_cond_true (E.get 0 rfl) ?_
      refine wp_region_lit ?_
      refine ep (v := .pointer (some ⟨b70, 2, none⟩)) E (fa38_2 rfl (E.get 19 rfl)) fun a E => ?_
      refine ep (v := .int .i64 t69.2.2) E (run_ldi rfl (E.get 0 rfl) (bx hb70 2 rfl)) fun a E => ?_
      refine ep (v := .agg #[.int .i64 10, .int .i64 t69.2.2]) E (run_of54 rfl rfl (E.get 0 rfl)) fun a E => ?_
      refine ep (v := prob 10 t69.2.2) E (run_mkif54 rfl (E.get 0 rfl)) fun a E => ?_
      refine env_panic (wanted_none rfl _) (run_panic rfl (E.get 0 rfl)) ?_
      refine then_p ?_
      refine pan_end E ⟨hf, ?_⟩
      unfold clock
      rw [htk64]
      try simp only
      rw [if_neg (of_decide_eq_false hq66)]
      try simp only
      rw [htk68]
      try simp only
      rw [htk69]
      try simp only
      have hbb : (t69.2.1.length != 2 || decide (numT t69.2.1 > 59) || (numT t64.2.1 == 24 && decide (numT t69.2.1 > 0))) = true := by
       rw [len_ne2]
       simp only [gt_iff_lt]
       try rw [hq71]
       try rw [hq72]
       try rw [hq73]
       try rw [hq75]
       first | rfl | simp
      rw [hbb]
      simp only [Bool.false_eq_true, if_true, if_false]
   | true =>
    rw [hq72] at E
    refine ek E rfl (E.get 0 rfl) fun a E => ?_
    refine ek E rfl (E.get 1 rfl) fun a E => ?_
    refine ek E rfl (E.get 2 rfl) fun a E => ?_
    refine ek E rfl (E.get 3 rfl) fun a E => ?_
    refine eu E rfl (E.get 0 rfl) fun a E => ?_
    refine eu E rfl (E.get 1 rfl) fun a E => ?_
    refine eu E rfl (E.get 2 rfl) fun a E => ?_
    refine ek E rfl (E.get 7 rfl) fun a E => ?_
    refine ep (v := .bool true) E (run_pick_t rfl (E.get 8 rfl) rfl) fun a E => ?_
    refine wpList_nil ?_
    refine then_n ?_
    refine wp_cond_true (E.get 0 rfl) ?_
    refine wp_region_lit ?_
    refine ep (v := .pointer (some ⟨b70, 2, none⟩)) E (fa38_2 rfl (E.get 19 rfl)) fun a E => ?_
    refine ep (v := .int .i64 t69.2.2) E (run_ldi rfl (E.get 0 rfl) (bx hb70 2 rfl)) fun a E => ?_
    refine ep (v := .agg #[.int .i64 10, .int .i64 t69.2.2]) E (run_of54 rfl rfl (E.get 0 rfl)) fun a E => ?_
    refine ep (v := prob 10 t69.2.2) E (run_mkif54 rfl (E.get 0 rfl)) fun a E => ?_
    refine env_panic (wanted_none rfl _) (run_panic rfl (E.get 0 rfl)) ?_
    refine then_p ?_
    refine pan_end E ⟨hf, ?_⟩
    unfold clock
    rw [htk64]
    try simp only
    rw [if_neg (of_decide_eq_false hq66)]
    try simp only
    rw [htk68]
    try simp only
    rw [htk69]
    try simp only
    have hbb : (t69.2.1.length != 2 || decide (numT t69.2.1 > 59) || (numT t64.2.1 == 24 && decide (numT t69.2.1 > 0))) = true := by
     rw [len_ne2]
     simp only [gt_iff_lt]
     try rw [hq71]
     try rw [hq72]
     first | rfl | simp
    rw [hbb]
    simp only [Bool.false_eq_true, if_true, if_false]
  | true =>
   rw [hq71] at E
   refine ek E rfl (E.get 0 rfl) fun a E => ?_
   refine ek E rfl (E.get 1 rfl) fun a E => ?_
   refine ek E rfl (E.get 2 rfl) fun a E => ?_
   refine ep (v := .bool true) E (run_pick_t rfl (E.get 3 rfl) rfl) fun a E => ?_
   refine ep (v := .bool true) E (run_move rfl (E.get 0 rfl)) fun a E => ?_
   refine ek E rfl (E.get 0 rfl) fun a E => ?_
   refine ek E rfl (E.get 1 rfl) fun a E => ?_
   refine ek E rfl (E.get 2 rfl) fun a E => ?_
   refine ek E rfl (E.get 3 rfl) fun a E => ?_
   refine eu E rfl (E.get 0 rfl) fun a E => ?_
   refine eu E rfl (E.get 1 rfl) fun a E => ?_
   refine eu E rfl (E.get 2 rfl) fun a E => ?_
   refine ek E rfl (E.get 7 rfl) fun a E => ?_
   refine ep (v := .bool true) E (run_pick_t rfl (E.get 8 rfl) rfl) fun a E => ?_
   refine wpList_nil ?_
   refine then_n ?_
   refine wp_cond_true (E.get 0 rfl) ?_
   refine wp_region_lit ?_
   refine ep (v := .pointer (some ⟨b70, 2, none⟩)) E (fa38_2 rfl (E.get 19 rfl)) fun a E => ?_
   refine ep (v := .int .i64 t69.2.2) E (run_ldi rfl (E.get 0 rfl) (bx hb70 2 rfl)) fun a E => ?_
   refine ep (v := .agg #[.int .i64 10, .int .i64 t69.2.2]) E (run_of54 rfl rfl (E.get 0 rfl)) fun a E => ?_
   refine ep (v := prob 10 t69.2.2) E (run_mkif54 rfl (E.get 0 rfl)) fun a E => ?_
   refine env_panic (wanted_none rfl _) (run_panic rfl (E.get 0 rfl)) ?_
   refine then_p ?_
   refine pan_end E ⟨hf, ?_⟩
   unfold clock
   rw [htk64]
   try simp only
   rw [if_neg (of_decide_eq_false hq66)]
   try simp only
   rw [htk68]
   try simp only
   rw [htk69]
   try simp only
   have hbb : (t69.2.1.length != 2 || decide (numT t69.2.1 > 59) || (numT t64.2.1 == 24 && decide (numT t69.2.1 > 0))) = true := by
    rw [len_ne2]
    simp only [gt_iff_lt]
    try rw [hq71]
    first | rfl | simp
   rw [hbb]
   simp only [Bool.false_eq_true, if_true, if_false]
 | true =>
  rw [hq66] at E
  refine wp_cond_true (E.get 0 rfl) ?_
  refine wp_region_lit ?_
  refine ep (v := .pointer (some ⟨b65, 2, none⟩)) E (fa38_2 rfl (E.get 4 rfl)) fun a E => ?_
  refine ep (v := .int .i64 t64.2.2) E (run_ldi rfl (E.get 0 rfl) (bx hb65 2 rfl)) fun a E => ?_
  refine ep (v := .agg #[.int .i64 10, .int .i64 t64.2.2]) E (run_of54 rfl rfl (E.get 0 rfl)) fun a E => ?_
  refine ep (v := prob 10 t64.2.2) E (run_mkif54 rfl (E.get 0 rfl)) fun a E => ?_
  refine env_panic (wanted_none rfl _) (run_panic rfl (E.get 0 rfl)) ?_
  refine then_p ?_
  refine pan_end E ⟨hf, ?_⟩
  unfold clock
  rw [htk64]
  try simp only
  rw [if_pos (of_decide_eq_true hq66)]
  try simp only
/-- The reader with the spans that it has. -/
def RdO (w : World) (rb G B : Nat) (en : Int) (ts : List (Tok Int)) (ss : List Sp) : Prop := rb < B ∧ B ≤ w.heap.size ∧ ∃ sv, Rd w rb G en ts sv ∧ oSp w B sv ss
theorem RdO.fr {w w' : World} {rb G B : Nat} {en : Int} {ts : List (Tok Int)} {ss : List Sp} (h : RdO w rb G B en ts ss) (f : Fr (fun _ => False) w w') : RdO w' rb G B en ts ss := by
 obtain ⟨h1, h2, sv, h3, h4⟩ := h
 exact ⟨h1, Nat.le_trans h2 f.size, sv, h3.fr f (fun _ _ => id), h4.fr f fun _ _ => id⟩
set_option maxRecDepth 100000 in
set_option maxHeartbeats 4000000 in
theorem add_calls {w : World} {rb G B : Nat} {en f t : Int} {ts : List (Tok Int)} {ss : List Sp} (hRO : RdO w rb G B en ts ss) (ht : 0 ≤ t) (ht2 : t ≤ 30000) (hl : ss.length ≤ 300000000) : Calls Tryz.prog 57 #[.pointer (some ⟨rb, 0, none⟩), .int .i64 f, .int .i64 t] w fun e w' => e = .returned (.tuple #[]) ∧ RdO w' rb G B en ts (ss ++ addL f t) ∧ Fr (fun r => r = rb ∨ B ≤ r) w w' := by
 obtain ⟨hrB, hBs, sv, hR, hO⟩ := hRO
 obtain ⟨hGr, lv, hrb, pl, cl, hlv, hlv0, hlv1, hts, hzl⟩ := hR
 subst hlv
 have hrl := lt_of_blk hrb
 refine wp_start3 Tryz.func57 rfl rfl (n := 33) (by decide) fun a E => ?_
 have hf : Fr (fun r => r = rb ∨ B ≤ r) w w := Fr.refl _ _
 refine wp_seq ?_
 refine wp_region_lit ?_
 refine ep (v := .pointer (some ⟨rb, 0, none⟩)) E (run_move rfl (E.get 0 rfl)) fun a E => ?_
 refine ep (v := .pointer (some ⟨rb, 0, none⟩)) E (run_move rfl (E.get 1 rfl)) fun a E => ?_
 refine ep (v := .pointer (some ⟨rb, 0, none⟩)) E (run_nilchk rfl (E.get 0 rfl)) fun a E => ?_
 refine ep (v := .pointer (some ⟨rb, 2, none⟩)) E (fa59_1 rfl (E.get 0 rfl)) fun a E => ?_
 refine ep (v := sv) E (run_ld22 rfl (E.get 0 rfl) (bx hrb 2 rfl)) fun a E => ?_
 refine ep (v := .int .i64 f) E (run_move rfl (E.get 6 rfl)) fun a E => ?_
 refine ep (v := .int .i64 t) E (run_move rfl (E.get 8 rfl)) fun a E => ?_
 refine ep (v := .int .i64 (min t 10080)) E (run_min rfl (E.get 0 rfl) rfl) fun a E => ?_
 refine ep (v := .agg (spA (f, (min t 10080)))) E (run_of48 rfl (E.get 2 rfl) (E.get 0 rfl)) fun a E => ?_
 refine env_one22 (d := 15) E rfl (by decide) rfl (wanted_none rfl _) rfl (E.get 0 rfl) fun a w1 b77 eb77 hbb77 f1 E => ?_
 have hrb := f1.obj hrb id
 have hts := srcAt.fr hts f1 (fun r hr => id)
 have hO := ow.fr hO f1 (fun _ _ => id)
 have hBs := Nat.le_trans hBs f1.size
 have hf := hf.trans' f1 (fun _ _ h => h.elim)
 clear f1
 have hsb77 := src_one (f := spL) (c := 2) (G := w1.heap.size) hbb77 (lt_of_blk hbb77)
 clear hbb77 eb77
 refine env_app22 (d := 16) E rfl (by decide) rfl rfl rfl (E.get 5 rfl) hO (E.get 0 rfl) hsb77 (fun h => by cases h) (by simp only [List.length_append, List.length_cons, List.length_nil]; omega) hBs fun a w1 ov78 hO2 f1 hloc E => ?_
 have hrb := f1.obj hrb (fun e => by (try simp only at e); have := (hO.lt e).1; omega)
 have hts := srcAt.fr hts f1 (fun r hr => (fun e => by (try simp only at e); have := (hO.lt e).1; omega))
 have hBs := Nat.le_trans hBs f1.size
 have hf := hf.trans' f1 (fun r hr => (fun e => by (try simp only at e); have := (hO.lt e).1; omega))
 clear f1
 replace hO := hO2
 clear hloc
 refine ep (v := .pointer (some ⟨rb, 0, none⟩)) E (run_nilchk rfl (E.get 10 rfl)) fun a E => ?_
 refine ep (v := .pointer (some ⟨rb, 2, none⟩)) E (fa59_1 rfl (E.get 0 rfl)) fun a E => ?_
 refine env_st1 (j := 2) E rfl (wanted_none rfl _) hrb (run_st22v (ow.sl spL_len hO) rfl (E.get 0 rfl) (E.get 2 rfl) (bx hrb 2 rfl) (free_of_blk hrb 2)) fun w1 hrbn f1 E => ?_
 replace hrbn : w1.heap[rb]? = some (.cells #[.slice (pl) ts.length cl, .int .i64 en, ov78] 59 (0, 0)) := hrbn
 have hts := srcAt.fr hts f1 (fun r hr => (fun e => by (try simp only at e); omega))
 have hO := ow.fr hO f1 (fun k hk e => by have := (hO.lt hk).1; (try simp only at e); omega)
 have hBs := Nat.le_trans hBs f1.size
 have hf := hf.trans' f1 (fun r hr => (fun e => by (try simp only at e); omega))
 clear f1
 replace hrb := hrbn
 refine wpList_nil ?_
 refine then_n ?_
 refine wp_seq ?_
 refine wp_region_lit ?_
 refine ep (v := .int .i64 t) E (run_move rfl (E.get 15 rfl)) fun a E => ?_
 refine ep (v := .bool (decide (10080 < t))) E (run_igtr (E.get 0 rfl) rfl Tryz.underlying3 rfl) fun a E => ?_
 refine wpList_nil ?_
 refine then_n ?_
 cases hq79 : (decide (10080 < t)) with
 | false =>
  rw [hq79] at E
  refine wp_cond_false (E.get 0 rfl) ?_
  refine wp_skip ?_
  refine (ret_nil rfl E ⟨rfl, ⟨hrB, hBs, _, ⟨hGr, _, hrb, _, _, rfl, hlv0, hlv1, hts, hzl⟩, ?_⟩, hf⟩).1
  unfold addL
  rw [if_neg (of_decide_eq_false hq79)]
  first | exact hO | (simp only [List.append_assoc, List.cons_append, List.nil_append] at hO; exact hO)
 | true =>
  rw [hq79] at E
  refine wp_cond_true (E.get 0 rfl) ?_
  refine wp_region_lit ?_
  refine ep (v := .pointer (some ⟨rb, 0, none⟩)) E (run_move rfl (E.get 15 rfl)) fun a E => ?_
  refine ep (v := .pointer (some ⟨rb, 0, none⟩)) E (run_move rfl (E.get 16 rfl)) fun a E => ?_
  refine ep (v := .pointer (some ⟨rb, 0, none⟩)) E (run_nilchk rfl (E.get 0 rfl)) fun a E => ?_
  refine ep (v := .pointer (some ⟨rb, 2, none⟩)) E (fa59_1 rfl (E.get 0 rfl)) fun a E => ?_
  refine ep (v := ov78) E (run_ld22 rfl (E.get 0 rfl) (bx hrb 2 rfl)) fun a E => ?_
  refine ep (v := .int .i64 t) E (run_move rfl (E.get 22 rfl)) fun a E => ?_
  refine ep (v := .int .i64 (t - 10080)) E (run_isub Tryz.underlying3 (E.get 0 rfl) rfl (by omega) (by omega) rfl) fun a E => ?_
  refine ep (v := .agg (spA (0, (t - 10080)))) E (run_of48 rfl rfl (E.get 0 rfl)) fun a E => ?_
  refine env_one22 (d := 29) E rfl (by decide) rfl (wanted_none rfl _) rfl (E.get 0 rfl) fun a w1 b80 eb80 hbb80 f1 E => ?_
  have hrb := f1.obj hrb id
  have hts := srcAt.fr hts f1 (fun r hr => id)
  have hO := ow.fr hO f1 (fun _ _ => id)
  have hBs := Nat.le_trans hBs f1.size
  have hf := hf.trans' f1 (fun _ _ h => h.elim)
  clear f1
  have hsb80 := src_one (f := spL) (c := 2) (G := w1.heap.size) hbb80 (lt_of_blk hbb80)
  clear hbb80 eb80
  refine env_app22 (d := 30) E rfl (by decide) rfl rfl rfl (E.get 4 rfl) hO (E.get 0 rfl) hsb80 (fun h => by cases h) (by simp only [List.length_append, List.length_cons, List.length_nil]; omega) hBs fun a w1 ov81 hO2 f1 hloc E => ?_
  have hrb := f1.obj hrb (fun e => by (try simp only at e); have := (hO.lt e).1; omega)
  have hts := srcAt.fr hts f1 (fun r hr => (fun e => by (try simp only at e); have := (hO.lt e).1; omega))
  have hBs := Nat.le_trans hBs f1.size
  have hf := hf.trans' f1 (fun r hr => (fun e => by (try simp only at e); have := (hO.lt e).1; omega))
  clear f1
  replace hO := hO2
  clear hloc
  refine ep (v := .pointer (some ⟨rb, 0, none⟩)) E (run_nilchk rfl (E.get 9 rfl)) fun a E => ?_
  refine ep (v := .pointer (some ⟨rb, 2, none⟩)) E (fa59_1 rfl (E.get 0 rfl)) fun a E => ?_
  refine env_st1 (j := 2) E rfl (wanted_none rfl _) hrb (run_st22v (ow.sl spL_len hO) rfl (E.get 0 rfl) (E.get 2 rfl) (bx hrb 2 rfl) (free_of_blk hrb 2)) fun w1 hrbn f1 E => ?_
  replace hrbn : w1.heap[rb]? = some (.cells #[.slice (pl) ts.length cl, .int .i64 en, ov81] 59 (0, 0)) := hrbn
  have hts := srcAt.fr hts f1 (fun r hr => (fun e => by (try simp only at e); omega))
  have hO := ow.fr hO f1 (fun k hk e => by have := (hO.lt hk).1; (try simp only at e); omega)
  have hBs := Nat.le_trans hBs f1.size
  have hf := hf.trans' f1 (fun r hr => (fun e => by (try simp only at e); omega))
  clear f1
  replace hrb := hrbn
  refine wpList_nil ?_
  refine (ret_nil rfl E ⟨rfl, ⟨hrB, hBs, _, ⟨hGr, _, hrb, _, _, rfl, hlv0, hlv1, hts, hzl⟩, ?_⟩, hf⟩).1
  unfold addL
  rw [if_pos (of_decide_eq_true hq79)]
  first | exact hO | (simp only [List.append_assoc, List.cons_append, List.nil_append] at hO; exact hO)
end Go.Proofs.YtjaffpnegdcjnaaGreatDoor
