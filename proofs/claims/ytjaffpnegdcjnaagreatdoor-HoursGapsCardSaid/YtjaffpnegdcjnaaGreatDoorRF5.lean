/- HoursParts. -/
import Derived.Test.YtjaffpnegdcjnaaGreatDoorRF2
set_option linter.unusedVariables false
set_option linter.unusedSimpArgs false
namespace Go.Proofs.YtjaffpnegdcjnaaGreatDoor
open Go.RowKit Go.Pl
theorem isParts_ex {l : Bys} (h : isParts l) : ∃ s, parseP l = .ok s ∧ vl (-1) s = true ∧ s.length ≤ 60 := by
 obtain ⟨_, _, _, _, _, _, _, _, _, _, hp⟩ := h
 rcases parse_cases l with ⟨e, a, h1, _⟩ | ⟨s, h1, h2, h3⟩
 ·rw [hp] at h1; cases h1
 ·exact ⟨s, h1, h2, h3⟩
theorem lex_err {s : Bys} {c x : Int} (h : lexP s = .error (c, x)) (hs : s.length ≤ 4999) (w : World) : Calls Tryz.prog 20 #[.string (ofL s)] w fun e w' => e = .returned (.tuple #[.slice none 0 0, .int .i64 c, .int .i64 x]) ∧ Fr (fun _ => False) w w' := by
 have := lex_calls s hs w
 rw [h] at this
 exact this
theorem lex_ok {s : Bys} {ts : List (Tok Int)} (h : lexP s = .ok ts) (hs : s.length ≤ 4999) (w : World) : Calls Tryz.prog 20 #[.string (ofL s)] w fun e w' => ∃ u, e = .returned u ∧ (∃ v, u = .tuple #[v, .int .i64 0, .int .i64 0] ∧ TkV w' v ts) ∧ Fr (fun _ => False) w w' := by
 have := lex_calls s hs w
 rw [h] at this
 exact this.mono fun e w' ⟨v, h1, h2, h3⟩ => ⟨_, h1, ⟨v, rfl, ow.Src tkL_len h2⟩, h3⟩
set_option maxRecDepth 100000 in
set_option maxHeartbeats 4000000 in
theorem parts23_calls {w : World} (s : Bys) (hs : s.length ≤ 1500) (hT : Tb w) : Calls Tryz.prog 23 #[.string (ofL s)] w fun e w' => ∃ b, e = .returned (.bool b) ∧ (b = true → isParts s) ∧ Fr (fun _ => False) w w' := by
 refine wp_start1 Tryz.func23 rfl rfl (n := 46) (by decide) fun a E => ?_
 have hf : Fr (fun _ => False) w w := Fr.refl _ _
 refine wp_seq ?_
 refine wp_region_lit ?_
 refine ep (v := .bool false) E (run_assign rfl rfl) fun a E => ?_
 refine wpList_nil ?_
 refine then_n ?_
 refine wp_seq ?_
 rcases lexP_cases s with ⟨c9, x9, hL, hc9, _⟩ | ⟨hL, hz9⟩
 ·have hP : parseP s = .error (c9, x9) := by unfold parseP; rw [hL]
  refine wp_region_lit ?_
  refine ep (v := .string (ofL s)) E (run_move rfl (E.get 1 rfl)) fun a E => ?_
  refine env_call (d := 11) E rfl (by decide) rfl (wanted_none rfl _) (run_call1 (enters_of Tryz.func20 (by kernel_rfl) rfl) rfl rfl (E.get 0 rfl)) (lex_err (c := c9) (x := x9) hL (by omega) _) fun a w1 f1 E => ?_
  have hT := Tb.fr hT f1 (fun r hr => id)
  have hf := hf.trans' f1 (fun _ _ h => h.elim)
  clear f1
  refine ep (v := .tuple #[.slice none 0 0, .int .i64 c9, .int .i64 x9]) E (run_move rfl (E.get 0 rfl)) fun a E => ?_
  refine ep (v := .slice none 0 0) E (run_ex0of3 rfl (E.get 0 rfl)) fun a E => ?_
  refine ep (v := .int .i64 c9) E (run_ex1of3 rfl (E.get 1 rfl)) fun a E => ?_
  refine ep (v := .int .i64 x9) E (run_ex2of3 rfl (E.get 2 rfl)) fun a E => ?_
  refine ep (v := .slice none 0 0) E (run_assign rfl (E.get 2 rfl)) fun a E => ?_
  refine ep (v := .int .i64 c9) E (run_assign rfl (E.get 2 rfl)) fun a E => ?_
  refine ep (v := .int .i64 x9) E (run_assign rfl (E.get 2 rfl)) fun a E => ?_
  refine wpList_nil ?_
  refine then_n ?_
  refine wp_seq ?_
  refine wp_region_lit ?_
  refine ep (v := .string (ofL s)) E (run_move rfl (E.get 10 rfl)) fun a E => ?_
  refine env_call (d := 17) E rfl (by decide) rfl (wanted_none rfl _) (run_call1 (enters_of Tryz.func13 (by kernel_rfl) rfl) rfl rfl (E.get 0 rfl)) (parse_err (c := c9) (x := x9) (hP) (by omega) hT) fun a w1 f1 E => ?_
  have hT := Tb.fr hT f1 (fun r hr => id)
  have hf := hf.trans' f1 (fun _ _ h => h.elim)
  clear f1
  refine ep (v := .tuple #[.slice none 0 0, .int .i64 c9, .int .i64 x9]) E (run_move rfl (E.get 0 rfl)) fun a E => ?_
  refine ep (v := .slice none 0 0) E (run_ex0of3 rfl (E.get 0 rfl)) fun a E => ?_
  refine ep (v := .int .i64 c9) E (run_ex1of3 rfl (E.get 1 rfl)) fun a E => ?_
  refine ep (v := .int .i64 x9) E (run_ex2of3 rfl (E.get 2 rfl)) fun a E => ?_
  refine ep (v := .slice none 0 0) E (run_assign rfl (E.get 2 rfl)) fun a E => ?_
  refine ep (v := .int .i64 c9) E (run_assign rfl (E.get 2 rfl)) fun a E => ?_
  refine ep (v := .int .i64 x9) E (run_assign rfl (E.get 2 rfl)) fun a E => ?_
  refine wpList_nil ?_
  refine then_n ?_
  refine wp_seq ?_
  refine wp_region_lit ?_
  refine ep (v := .int .i64 c9) E (run_move rfl (E.get 10 rfl)) fun a E => ?_
  refine ep (v := .bool (c9 == 0)) E (run_ieql (E.get 0 rfl) rfl Tryz.underlying25 rfl) fun a E => ?_
  refine ep (v := .bool (c9 == 0)) E (run_move rfl (E.get 0 rfl)) fun a E => ?_
  cases hq146 : (c9 == 0) with
  | false =>
   rw [hq146] at E
   refine env_skip (d := 24) (g := 2) (s := 23) E rfl (by decide) rfl rfl rfl (by decide) (E.get 0 rfl) fun a E => ?_
   refine env_skip (d := 25) (g := 2) (s := 23) E rfl (by decide) rfl rfl rfl (by decide) (E.get 1 rfl) fun a E => ?_
   refine ep (v := .bool false) E (run_pick_f rfl (E.get 2 rfl) rfl) fun a E => ?_
   refine ep (v := .bool false) E (run_move rfl (E.get 0 rfl)) fun a E => ?_
   refine env_skip (d := 28) (g := 6) (s := 27) E rfl (by decide) rfl rfl rfl (by decide) (E.get 0 rfl) fun a E => ?_
   refine env_skip (d := 29) (g := 6) (s := 27) E rfl (by decide) rfl rfl rfl (by decide) (E.get 1 rfl) fun a E => ?_
   refine env_skip (d := 30) (g := 6) (s := 27) E rfl (by decide) rfl rfl rfl (by decide) (E.get 2 rfl) fun a E => ?_
   refine ep (v := .bool false) E (run_pick_f rfl (E.get 3 rfl) rfl) fun a E => ?_
   refine ep (v := .bool false) E (run_move rfl (E.get 0 rfl)) fun a E => ?_
   refine env_skip (d := 33) (g := 11) (s := 32) E rfl (by decide) rfl rfl rfl (by decide) (E.get 0 rfl) fun a E => ?_
   refine env_skip (d := 34) (g := 11) (s := 32) E rfl (by decide) rfl rfl rfl (by decide) (E.get 1 rfl) fun a E => ?_
   refine env_skip (d := 35) (g := 11) (s := 32) E rfl (by decide) rfl rfl rfl (by decide) (E.get 2 rfl) fun a E => ?_
   refine env_skip (d := 36) (g := 11) (s := 32) E rfl (by decide) rfl rfl rfl (by decide) (E.get 3 rfl) fun a E => ?_
   refine env_skip (d := 37) (g := 11) (s := 32) E rfl (by decide) rfl rfl rfl (by decide) (E.get 4 rfl) fun a E => ?_
   refine ep (v := .bool false) E (run_pick_f rfl (E.get 5 rfl) rfl) fun a E => ?_
   refine ep (v := .bool false) E (run_move rfl (E.get 0 rfl)) fun a E => ?_
   refine env_skip (d := 40) (g := 18) (s := 39) E rfl (by decide) rfl rfl rfl (by decide) (E.get 0 rfl) fun a E => ?_
   refine env_skip (d := 41) (g := 18) (s := 39) E rfl (by decide) rfl rfl rfl (by decide) (E.get 1 rfl) fun a E => ?_
   refine env_skip (d := 42) (g := 18) (s := 39) E rfl (by decide) rfl rfl rfl (by decide) (E.get 2 rfl) fun a E => ?_
   refine env_skip (d := 43) (g := 18) (s := 39) E rfl (by decide) rfl rfl rfl (by decide) (E.get 3 rfl) fun a E => ?_
   refine env_skip (d := 44) (g := 18) (s := 39) E rfl (by decide) rfl rfl rfl (by decide) (E.get 4 rfl) fun a E => ?_
   refine ep (v := .bool false) E (run_pick_f rfl (E.get 5 rfl) rfl) fun a E => ?_
   refine env_set (d := 2) (v := .bool false) E rfl (by decide) (wanted_none rfl _) (run_assign rfl (E.get 0 rfl)) fun a E => ?_
   refine wpList_nil ?_
   refine then_n ?_
   refine wp_ret ?_
   exact ret_tmp (t := 2) rfl E (E.get 0 rfl) ⟨_, rfl, fun e => (by cases e), hf⟩
  | true =>
   rw [hq146] at E
   exact absurd (by simpa using hq146) hc9
 ·obtain ⟨ts, hts⟩ : ∃ ts, ts = (lexL s 0).map (·.1) := ⟨_, rfl⟩
  rw [← hts] at hL
  have htl := (lexP_tk hL).2.2.2.2
  rcases parse_cases s with ⟨e9, a9, hP, he, ha0, ha1⟩ | ⟨g9, hP, hgv, hg60⟩
  ·refine wp_region_lit ?_
   refine ep (v := .string (ofL s)) E (run_move rfl (E.get 1 rfl)) fun a E => ?_
   refine env_callv (d := 11) (R := fun u w8 => (∃ v, u = .tuple #[v, .int .i64 0, .int .i64 0] ∧ TkV w8 v ts) ∧ Fr (fun _ => False) w w8) E rfl (by decide) rfl (wanted_none rfl _) (run_call1 (enters_of Tryz.func20 (by kernel_rfl) rfl) rfl rfl (E.get 0 rfl)) (lex_ok hL (by omega) _) fun a w1 u ⟨⟨tv, hu, htv⟩, f1⟩ E => ?_
   subst hu
   obtain ⟨pt, ct, rfl, hct1, hct2, htk, hzt⟩ := htv
   have hT := Tb.fr hT f1 (fun r hr => id)
   have hf := hf.trans' f1 (fun _ _ h => h.elim)
   clear f1
   refine ep (v := .tuple #[.slice (pt) ts.length ct, .int .i64 0, .int .i64 0]) E (run_move rfl (E.get 0 rfl)) fun a E => ?_
   refine ep (v := .slice (pt) ts.length ct) E (run_ex0of3 rfl (E.get 0 rfl)) fun a E => ?_
   refine ep (v := .int .i64 0) E (run_ex1of3 rfl (E.get 1 rfl)) fun a E => ?_
   refine ep (v := .int .i64 0) E (run_ex2of3 rfl (E.get 2 rfl)) fun a E => ?_
   refine ep (v := .slice (pt) ts.length ct) E (run_assign rfl (E.get 2 rfl)) fun a E => ?_
   refine ep (v := .int .i64 0) E (run_assign rfl (E.get 2 rfl)) fun a E => ?_
   refine ep (v := .int .i64 0) E (run_assign rfl (E.get 2 rfl)) fun a E => ?_
   refine wpList_nil ?_
   refine then_n ?_
   refine wp_seq ?_
   refine wp_region_lit ?_
   refine ep (v := .string (ofL s)) E (run_move rfl (E.get 10 rfl)) fun a E => ?_
   refine env_call (d := 17) E rfl (by decide) rfl (wanted_none rfl _) (run_call1 (enters_of Tryz.func13 (by kernel_rfl) rfl) rfl rfl (E.get 0 rfl)) (parse_err (c := e9) (x := a9) (hP) (by omega) hT) fun a w1 f1 E => ?_
   have hT := Tb.fr hT f1 (fun r hr => id)
   have htk := srcAt.fr htk f1 (fun r hr => id)
   have hf := hf.trans' f1 (fun _ _ h => h.elim)
   clear f1
   refine ep (v := .tuple #[.slice none 0 0, .int .i64 e9, .int .i64 a9]) E (run_move rfl (E.get 0 rfl)) fun a E => ?_
   refine ep (v := .slice none 0 0) E (run_ex0of3 rfl (E.get 0 rfl)) fun a E => ?_
   refine ep (v := .int .i64 e9) E (run_ex1of3 rfl (E.get 1 rfl)) fun a E => ?_
   refine ep (v := .int .i64 a9) E (run_ex2of3 rfl (E.get 2 rfl)) fun a E => ?_
   refine ep (v := .slice none 0 0) E (run_assign rfl (E.get 2 rfl)) fun a E => ?_
   refine ep (v := .int .i64 e9) E (run_assign rfl (E.get 2 rfl)) fun a E => ?_
   refine ep (v := .int .i64 a9) E (run_assign rfl (E.get 2 rfl)) fun a E => ?_
   refine wpList_nil ?_
   refine then_n ?_
   refine wp_seq ?_
   refine wp_region_lit ?_
   refine ep (v := .int .i64 0) E (run_move rfl (E.get 10 rfl)) fun a E => ?_
   refine ep (v := .bool true) E (run_ieql (m := 0) (n := 0) (E.get 0 rfl) rfl Tryz.underlying25 rfl) fun a E => ?_
   refine ep (v := .bool true) E (run_move rfl (E.get 0 rfl)) fun a E => ?_
   refine eg (v := .int .i64 e9) E (w_yes (g := 2) (s := 23) E rfl rfl (by decide) (E.get 0 rfl)) (run_move rfl (E.get 4 rfl)) fun a E => ?_
   refine eg (v := .bool (e9 == 0)) E (w_yes (g := 2) (s := 23) E rfl rfl (by decide) (E.get 1 rfl)) (run_ieql (E.get 0 rfl) rfl Tryz.underlying25 rfl) fun a E => ?_
   refine ep (v := .bool (e9 == 0)) E (run_pick_t rfl (E.get 2 rfl) (E.get 0 rfl)) fun a E => ?_
   refine ep (v := .bool (e9 == 0)) E (run_move rfl (E.get 0 rfl)) fun a E => ?_
   cases hq147 : (e9 == 0) with
   | false =>
    rw [hq147] at E
    refine env_skip (d := 28) (g := 6) (s := 27) E rfl (by decide) rfl rfl rfl (by decide) (E.get 0 rfl) fun a E => ?_
    refine env_skip (d := 29) (g := 6) (s := 27) E rfl (by decide) rfl rfl rfl (by decide) (E.get 1 rfl) fun a E => ?_
    refine env_skip (d := 30) (g := 6) (s := 27) E rfl (by decide) rfl rfl rfl (by decide) (E.get 2 rfl) fun a E => ?_
    refine ep (v := .bool false) E (run_pick_f rfl (E.get 3 rfl) rfl) fun a E => ?_
    refine ep (v := .bool false) E (run_move rfl (E.get 0 rfl)) fun a E => ?_
    refine env_skip (d := 33) (g := 11) (s := 32) E rfl (by decide) rfl rfl rfl (by decide) (E.get 0 rfl) fun a E => ?_
    refine env_skip (d := 34) (g := 11) (s := 32) E rfl (by decide) rfl rfl rfl (by decide) (E.get 1 rfl) fun a E => ?_
    refine env_skip (d := 35) (g := 11) (s := 32) E rfl (by decide) rfl rfl rfl (by decide) (E.get 2 rfl) fun a E => ?_
    refine env_skip (d := 36) (g := 11) (s := 32) E rfl (by decide) rfl rfl rfl (by decide) (E.get 3 rfl) fun a E => ?_
    refine env_skip (d := 37) (g := 11) (s := 32) E rfl (by decide) rfl rfl rfl (by decide) (E.get 4 rfl) fun a E => ?_
    refine ep (v := .bool false) E (run_pick_f rfl (E.get 5 rfl) rfl) fun a E => ?_
    refine ep (v := .bool false) E (run_move rfl (E.get 0 rfl)) fun a E => ?_
    refine env_skip (d := 40) (g := 18) (s := 39) E rfl (by decide) rfl rfl rfl (by decide) (E.get 0 rfl) fun a E => ?_
    refine env_skip (d := 41) (g := 18) (s := 39) E rfl (by decide) rfl rfl rfl (by decide) (E.get 1 rfl) fun a E => ?_
    refine env_skip (d := 42) (g := 18) (s := 39) E rfl (by decide) rfl rfl rfl (by decide) (E.get 2 rfl) fun a E => ?_
    refine env_skip (d := 43) (g := 18) (s := 39) E rfl (by decide) rfl rfl rfl (by decide) (E.get 3 rfl) fun a E => ?_
    refine env_skip (d := 44) (g := 18) (s := 39) E rfl (by decide) rfl rfl rfl (by decide) (E.get 4 rfl) fun a E => ?_
    refine ep (v := .bool false) E (run_pick_f rfl (E.get 5 rfl) rfl) fun a E => ?_
    refine env_set (d := 2) (v := .bool false) E rfl (by decide) (wanted_none rfl _) (run_assign rfl (E.get 0 rfl)) fun a E => ?_
    refine wpList_nil ?_
    refine then_n ?_
    refine wp_ret ?_
    exact ret_tmp (t := 2) rfl E (E.get 0 rfl) ⟨_, rfl, fun e => (by cases e), hf⟩
   | true =>
    rw [hq147] at E
    exact absurd (by simpa using hq147) he
  ·refine wp_region_lit ?_
   refine ep (v := .string (ofL s)) E (run_move rfl (E.get 1 rfl)) fun a E => ?_
   refine env_callv (d := 11) (R := fun u w8 => (∃ v, u = .tuple #[v, .int .i64 0, .int .i64 0] ∧ TkV w8 v ts) ∧ Fr (fun _ => False) w w8) E rfl (by decide) rfl (wanted_none rfl _) (run_call1 (enters_of Tryz.func20 (by kernel_rfl) rfl) rfl rfl (E.get 0 rfl)) (lex_ok hL (by omega) _) fun a w1 u ⟨⟨tv, hu, htv⟩, f1⟩ E => ?_
   subst hu
   obtain ⟨pt, ct, rfl, hct1, hct2, htk, hzt⟩ := htv
   have hT := Tb.fr hT f1 (fun r hr => id)
   have hf := hf.trans' f1 (fun _ _ h => h.elim)
   clear f1
   refine ep (v := .tuple #[.slice (pt) ts.length ct, .int .i64 0, .int .i64 0]) E (run_move rfl (E.get 0 rfl)) fun a E => ?_
   refine ep (v := .slice (pt) ts.length ct) E (run_ex0of3 rfl (E.get 0 rfl)) fun a E => ?_
   refine ep (v := .int .i64 0) E (run_ex1of3 rfl (E.get 1 rfl)) fun a E => ?_
   refine ep (v := .int .i64 0) E (run_ex2of3 rfl (E.get 2 rfl)) fun a E => ?_
   refine ep (v := .slice (pt) ts.length ct) E (run_assign rfl (E.get 2 rfl)) fun a E => ?_
   refine ep (v := .int .i64 0) E (run_assign rfl (E.get 2 rfl)) fun a E => ?_
   refine ep (v := .int .i64 0) E (run_assign rfl (E.get 2 rfl)) fun a E => ?_
   refine wpList_nil ?_
   refine then_n ?_
   refine wp_seq ?_
   refine wp_region_lit ?_
   refine ep (v := .string (ofL s)) E (run_move rfl (E.get 10 rfl)) fun a E => ?_
   refine env_callv (d := 17) (R := fun u w8 => (∃ v, u = .tuple #[v, .int .i64 0, .int .i64 0] ∧ SpV w8 v (g9)) ∧ Fr (fun _ => False) w1 w8) E rfl (by decide) rfl (wanted_none rfl _) (run_call1 (enters_of Tryz.func13 (by kernel_rfl) rfl) rfl rfl (E.get 0 rfl)) (parse_ok (hP) (by omega) hT) fun a w1 u ⟨⟨u1, hu, hu1⟩, f1⟩ E => ?_
   subst hu
   have hT := Tb.fr hT f1 (fun r hr => id)
   have htk := srcAt.fr htk f1 (fun r hr => id)
   have hf := hf.trans' f1 (fun _ _ h => h.elim)
   clear f1
   refine ep (v := .tuple #[u1, .int .i64 0, .int .i64 0]) E (run_move rfl (E.get 0 rfl)) fun a E => ?_
   refine ep (v := u1) E (run_ex0of3 rfl (E.get 0 rfl)) fun a E => ?_
   refine ep (v := .int .i64 0) E (run_ex1of3 rfl (E.get 1 rfl)) fun a E => ?_
   refine ep (v := .int .i64 0) E (run_ex2of3 rfl (E.get 2 rfl)) fun a E => ?_
   refine ep (v := u1) E (run_assign rfl (E.get 2 rfl)) fun a E => ?_
   refine ep (v := .int .i64 0) E (run_assign rfl (E.get 2 rfl)) fun a E => ?_
   refine ep (v := .int .i64 0) E (run_assign rfl (E.get 2 rfl)) fun a E => ?_
   refine wpList_nil ?_
   refine then_n ?_
   refine wp_seq ?_
   refine wp_region_lit ?_
   refine ep (v := .int .i64 0) E (run_move rfl (E.get 10 rfl)) fun a E => ?_
   refine ep (v := .bool true) E (run_ieql (m := 0) (n := 0) (E.get 0 rfl) rfl Tryz.underlying25 rfl) fun a E => ?_
   refine ep (v := .bool true) E (run_move rfl (E.get 0 rfl)) fun a E => ?_
   refine eg (v := .int .i64 0) E (w_yes (g := 2) (s := 23) E rfl rfl (by decide) (E.get 0 rfl)) (run_move rfl (E.get 4 rfl)) fun a E => ?_
   refine eg (v := .bool true) E (w_yes (g := 2) (s := 23) E rfl rfl (by decide) (E.get 1 rfl)) (run_ieql (m := 0) (n := 0) (E.get 0 rfl) rfl Tryz.underlying25 rfl) fun a E => ?_
   refine ep (v := .bool true) E (run_pick_t rfl (E.get 2 rfl) (E.get 0 rfl)) fun a E => ?_
   refine ep (v := .bool true) E (run_move rfl (E.get 0 rfl)) fun a E => ?_
   refine eg (v := .slice (pt) ts.length ct) E (w_yes (g := 6) (s := 27) E rfl rfl (by decide) (E.get 0 rfl)) (run_move rfl (E.get 18 rfl)) fun a E => ?_
   refine eg (v := .int .i64 (ts.length : Int)) E (w_yes (g := 6) (s := 27) E rfl rfl (by decide) (E.get 1 rfl)) (run_len34 rfl (E.get 0 rfl)) fun a E => ?_
   refine eg (v := .bool (decide (0 < (ts.length : Int)))) E (w_yes (g := 6) (s := 27) E rfl rfl (by decide) (E.get 2 rfl)) (run_igtr (E.get 0 rfl) rfl Tryz.underlying3 rfl) fun a E => ?_
   refine ep (v := .bool (decide (0 < (ts.length : Int)))) E (run_pick_t rfl (E.get 3 rfl) (E.get 0 rfl)) fun a E => ?_
   refine ep (v := .bool (decide (0 < (ts.length : Int)))) E (run_move rfl (E.get 0 rfl)) fun a E => ?_
   cases hq148 : (decide (0 < (ts.length : Int))) with
   | false =>
    rw [hq148] at E
    refine env_skip (d := 33) (g := 11) (s := 32) E rfl (by decide) rfl rfl rfl (by decide) (E.get 0 rfl) fun a E => ?_
    refine env_skip (d := 34) (g := 11) (s := 32) E rfl (by decide) rfl rfl rfl (by decide) (E.get 1 rfl) fun a E => ?_
    refine env_skip (d := 35) (g := 11) (s := 32) E rfl (by decide) rfl rfl rfl (by decide) (E.get 2 rfl) fun a E => ?_
    refine env_skip (d := 36) (g := 11) (s := 32) E rfl (by decide) rfl rfl rfl (by decide) (E.get 3 rfl) fun a E => ?_
    refine env_skip (d := 37) (g := 11) (s := 32) E rfl (by decide) rfl rfl rfl (by decide) (E.get 4 rfl) fun a E => ?_
    refine ep (v := .bool false) E (run_pick_f rfl (E.get 5 rfl) rfl) fun a E => ?_
    refine ep (v := .bool false) E (run_move rfl (E.get 0 rfl)) fun a E => ?_
    refine env_skip (d := 40) (g := 18) (s := 39) E rfl (by decide) rfl rfl rfl (by decide) (E.get 0 rfl) fun a E => ?_
    refine env_skip (d := 41) (g := 18) (s := 39) E rfl (by decide) rfl rfl rfl (by decide) (E.get 1 rfl) fun a E => ?_
    refine env_skip (d := 42) (g := 18) (s := 39) E rfl (by decide) rfl rfl rfl (by decide) (E.get 2 rfl) fun a E => ?_
    refine env_skip (d := 43) (g := 18) (s := 39) E rfl (by decide) rfl rfl rfl (by decide) (E.get 3 rfl) fun a E => ?_
    refine env_skip (d := 44) (g := 18) (s := 39) E rfl (by decide) rfl rfl rfl (by decide) (E.get 4 rfl) fun a E => ?_
    refine ep (v := .bool false) E (run_pick_f rfl (E.get 5 rfl) rfl) fun a E => ?_
    refine env_set (d := 2) (v := .bool false) E rfl (by decide) (wanted_none rfl _) (run_assign rfl (E.get 0 rfl)) fun a E => ?_
    refine wpList_nil ?_
    refine then_n ?_
    refine wp_ret ?_
    exact ret_tmp (t := 2) rfl E (E.get 0 rfl) ⟨_, rfl, fun e => (by cases e), hf⟩
   | true =>
    rw [hq148] at E
    have hlt0 : 0 < ts.length := by have := of_decide_eq_true hq148; omega
    obtain ⟨t, ht⟩ : ∃ y, ts[0]? = some y := ⟨_, List.getElem?_eq_getElem hlt0⟩
    obtain ⟨g149, off149, hpe149, hgl149, hrow149⟩ := htk.at hlt0
    replace hrow149 := hrow149 0 t ht
    refine eg (v := .slice (pt) ts.length ct) E (w_yes (g := 11) (s := 32) E rfl rfl (by decide) (E.get 0 rfl)) (run_move rfl (E.get 23 rfl)) fun a E => ?_
    refine eg (v := .pointer (some ⟨g149, (off149 + 0 * 3), none⟩)) E (w_yes (g := 11) (s := 32) E rfl rfl (by decide) (E.get 1 rfl)) (run_index34 (i := 0) rfl ((E.get 0 rfl).trans (by rw [hpe149])) rfl hlt0) fun a E => ?_
    refine eg (v := .pointer (some ⟨g149, ((off149 + 0 * 3) + 1), none⟩)) E (w_yes (g := 11) (s := 32) E rfl rfl (by decide) (E.get 2 rfl)) (fa38_1 rfl (E.get 0 rfl)) fun a E => ?_
    refine eg (v := .string (ofL t.2.1)) E (w_yes (g := 11) (s := 32) E rfl rfl (by decide) (E.get 3 rfl)) (run_lds rfl (E.get 0 rfl) (hrow149 1 _ rfl)) fun a E => ?_
    refine eg (v := .bool (!(t.2.1 == [97, 108, 119, 97, 121, 115]))) E (w_yes (g := 11) (s := 32) E rfl rfl (by decide) (E.get 4 rfl)) (run_sne (E.get 0 rfl) rfl rfl) fun a E => ?_
    refine ep (v := .bool (!(t.2.1 == [97, 108, 119, 97, 121, 115]))) E (run_pick_t rfl (E.get 5 rfl) (E.get 0 rfl)) fun a E => ?_
    refine ep (v := .bool (!(t.2.1 == [97, 108, 119, 97, 121, 115]))) E (run_move rfl (E.get 0 rfl)) fun a E => ?_
    cases hq150 : (t.2.1 == [97, 108, 119, 97, 121, 115]) with
    | false =>
     rw [hq150] at E
     refine eg (v := .slice (pt) ts.length ct) E (w_yes (g := 18) (s := 39) E rfl rfl (by decide) (E.get 0 rfl)) (run_move rfl (E.get 30 rfl)) fun a E => ?_
     refine eg (v := .pointer (some ⟨g149, (off149 + 0 * 3), none⟩)) E (w_yes (g := 18) (s := 39) E rfl rfl (by decide) (E.get 1 rfl)) (run_index34 (i := 0) rfl ((E.get 0 rfl).trans (by rw [hpe149])) rfl hlt0) fun a E => ?_
     refine eg (v := .pointer (some ⟨g149, ((off149 + 0 * 3) + 1), none⟩)) E (w_yes (g := 18) (s := 39) E rfl rfl (by decide) (E.get 2 rfl)) (fa38_1 rfl (E.get 0 rfl)) fun a E => ?_
     refine eg (v := .string (ofL t.2.1)) E (w_yes (g := 18) (s := 39) E rfl rfl (by decide) (E.get 3 rfl)) (run_lds rfl (E.get 0 rfl) (hrow149 1 _ rfl)) fun a E => ?_
     refine eg (v := .bool (!(t.2.1 == [110, 101, 118, 101, 114]))) E (w_yes (g := 18) (s := 39) E rfl rfl (by decide) (E.get 4 rfl)) (run_sne (E.get 0 rfl) rfl rfl) fun a E => ?_
     refine ep (v := .bool (!(t.2.1 == [110, 101, 118, 101, 114]))) E (run_pick_t rfl (E.get 5 rfl) (E.get 0 rfl)) fun a E => ?_
     refine env_set (d := 2) (v := .bool (!(t.2.1 == [110, 101, 118, 101, 114]))) E rfl (by decide) (wanted_none rfl _) (run_assign rfl (E.get 0 rfl)) fun a E => ?_
     refine wpList_nil ?_
     refine then_n ?_
     refine wp_ret ?_
     obtain ⟨t9, l9, hcons⟩ := List.exists_cons_of_ne_nil (List.ne_nil_of_length_pos hlt0)
     have ht9 : t = t9 := by rw [hcons] at ht; simpa using ht.symm
     subst ht9
     have hal : t.2.1 ≠ always := by have := hq150; rw [beq_eq_false_iff_ne] at this; exact this
     refine ret_tmp (t := 2) rfl E (E.get 0 rfl) ⟨_, rfl, fun hb9 => isParts_of hL hcons hal ?_ hP, hf⟩
     have h8 : (t.2.1 == ([110, 101, 118, 101, 114] : Bys)) = false := by simpa using hb9
     rw [beq_eq_false_iff_ne] at h8; exact h8
    | true =>
     rw [hq150] at E
     refine env_skip (d := 40) (g := 18) (s := 39) E rfl (by decide) rfl rfl rfl (by decide) (E.get 0 rfl) fun a E => ?_
     refine env_skip (d := 41) (g := 18) (s := 39) E rfl (by decide) rfl rfl rfl (by decide) (E.get 1 rfl) fun a E => ?_
     refine env_skip (d := 42) (g := 18) (s := 39) E rfl (by decide) rfl rfl rfl (by decide) (E.get 2 rfl) fun a E => ?_
     refine env_skip (d := 43) (g := 18) (s := 39) E rfl (by decide) rfl rfl rfl (by decide) (E.get 3 rfl) fun a E => ?_
     refine env_skip (d := 44) (g := 18) (s := 39) E rfl (by decide) rfl rfl rfl (by decide) (E.get 4 rfl) fun a E => ?_
     refine ep (v := .bool false) E (run_pick_f rfl (E.get 5 rfl) rfl) fun a E => ?_
     refine env_set (d := 2) (v := .bool false) E rfl (by decide) (wanted_none rfl _) (run_assign rfl (E.get 0 rfl)) fun a E => ?_
     refine wpList_nil ?_
     refine then_n ?_
     refine wp_ret ?_
     exact ret_tmp (t := 2) rfl E (E.get 0 rfl) ⟨_, rfl, fun e => (by cases e), hf⟩
set_option maxRecDepth 100000 in
set_option maxHeartbeats 4000000 in
theorem hparts_calls {w : World} (s0 s1 : Bys) (hT : Tb w) : Calls Tryz.prog 7 #[.string (ofL s0), .string (ofL s1)] w fun e w' => e = .returned (.bool true) ∧ Fr (fun _ => False) w w' := by
 refine wp_start2 Tryz.func7 rfl rfl (n := 86) (by decide) fun a E => ?_
 have hf : Fr (fun _ => False) w w := Fr.refl _ _
 refine wp_seq ?_
 refine wp_region_lit ?_
 refine ep (v := .bool false) E (run_assign rfl rfl) fun a E => ?_
 refine wpList_nil ?_
 refine then_n ?_
 refine wp_seq ?_
 refine wp_region_lit ?_
 refine env_call (d := 17) (v := .bool true) E rfl (by decide) rfl (wanted_none rfl _) (run_call0 (enters_of Tryz.func11 (by kernel_rfl) rfl) rfl rfl) (head_calls hT) fun a w1 f1 E => ?_
 have hT := Tb.fr hT f1 (fun r hr => id)
 have hf := hf.trans' f1 (fun _ _ h => h.elim)
 clear f1
 refine ep (v := .bool true) E (run_assign rfl (E.get 0 rfl)) fun a E => ?_
 refine wpList_nil ?_
 refine then_n ?_
 refine wp_seq ?_
 refine wp_seq ?_
 refine wp_region_lit ?_
 refine ep (v := .string (ofL s0)) E (run_move rfl (E.get 3 rfl)) fun a E => ?_
 refine ep (v := .int .i64 (s0.length : Int)) E (run_slen rfl (E.get 0 rfl)) fun a E => ?_
 refine ep (v := .bool (decide (1500 < (s0.length : Int)))) E (run_igtr (E.get 0 rfl) rfl Tryz.underlying3 rfl) fun a E => ?_
 refine ep (v := .bool (decide (1500 < (s0.length : Int)))) E (run_move rfl (E.get 0 rfl)) fun a E => ?_
 cases hq151 : (decide (1500 < (s0.length : Int))) with
 | false =>
  rw [hq151] at E
  have hs0l : s0.length ≤ 1500 := by have := of_decide_eq_false hq151; omega
  refine eg (v := .string (ofL s1)) E (w_yes (g := 3) (s := 21) E rfl rfl (by decide) (E.get 0 rfl)) (run_move rfl (E.get 8 rfl)) fun a E => ?_
  refine eg (v := .int .i64 (s1.length : Int)) E (w_yes (g := 3) (s := 21) E rfl rfl (by decide) (E.get 1 rfl)) (run_slen rfl (E.get 0 rfl)) fun a E => ?_
  refine eg (v := .bool (decide (1500 < (s1.length : Int)))) E (w_yes (g := 3) (s := 21) E rfl rfl (by decide) (E.get 2 rfl)) (run_igtr (E.get 0 rfl) rfl Tryz.underlying3 rfl) fun a E => ?_
  refine ep (v := .bool (decide (1500 < (s1.length : Int)))) E (run_pick_f rfl (E.get 3 rfl) (E.get 0 rfl)) fun a E => ?_
  refine ep (v := .bool (decide (1500 < (s1.length : Int)))) E (run_move rfl (E.get 0 rfl)) fun a E => ?_
  cases hq152 : (decide (1500 < (s1.length : Int))) with
  | false =>
   rw [hq152] at E
   have hs1l : s1.length ≤ 1500 := by have := of_decide_eq_false hq152; omega
   refine eg (v := .string (ofL s0)) E (w_yes (g := 8) (s := 26) E rfl rfl (by decide) (E.get 0 rfl)) (run_move rfl (E.get 12 rfl)) fun a E => ?_
   refine env_callv (d := 28) (R := fun u w8 => (∃ b, u = .bool b ∧ (b = true → isParts s0)) ∧ Fr (fun _ => False) w1 w8) E rfl (by decide) rfl (w_yes (g := 8) (s := 26) E rfl rfl (by decide) (E.get 1 rfl)) (run_call1 (enters_of Tryz.func23 (by kernel_rfl) rfl) rfl rfl (E.get 0 rfl)) ((parts23_calls s0 (by omega) hT).mono fun e w8 h => by obtain ⟨b, rfl, h1, h2⟩ := h; exact ⟨_, rfl, ⟨b, rfl, h1⟩, h2⟩) fun a w1 u ⟨⟨k0, hu, hk0⟩, f1⟩ E => ?_
   subst hu
   have hT := Tb.fr hT f1 (fun r hr => id)
   have hf := hf.trans' f1 (fun _ _ h => h.elim)
   clear f1
   refine eg (v := .bool (!k0)) E (w_yes (g := 8) (s := 26) E rfl rfl (by decide) (E.get 2 rfl)) (run_not rfl (E.get 0 rfl)) fun a E => ?_
   refine ep (v := .bool (!k0)) E (run_pick_f rfl (E.get 3 rfl) (E.get 0 rfl)) fun a E => ?_
   refine ep (v := .bool (!k0)) E (run_move rfl (E.get 0 rfl)) fun a E => ?_
   cases hq153 : k0 with
   | false =>
    rw [hq153] at E
    refine env_skip (d := 32) (g := 13) (s := 31) E rfl (by decide) rfl rfl rfl (by decide) (E.get 0 rfl) fun a E => ?_
    refine env_skip (d := 33) (g := 13) (s := 31) E rfl (by decide) rfl rfl rfl (by decide) (E.get 1 rfl) fun a E => ?_
    refine env_skip (d := 34) (g := 13) (s := 31) E rfl (by decide) rfl rfl rfl (by decide) (E.get 2 rfl) fun a E => ?_
    refine ep (v := .bool true) E (run_pick_t rfl (E.get 3 rfl) rfl) fun a E => ?_
    refine wpList_nil ?_
    refine then_n ?_
    refine wp_cond_true (E.get 0 rfl) ?_
    refine wp_seq ?_
    refine wp_region_lit ?_
    refine ep (v := .bool true) E (run_move rfl (E.get 18 rfl)) fun a E => ?_
    refine env_set (d := 4) (v := .bool true) E rfl (by decide) (wanted_none rfl _) (run_assign rfl (E.get 0 rfl)) fun a E => ?_
    refine wpList_nil ?_
    refine then_n ?_
    refine wp_ret ?_
    refine then_r ?_
    exact ret_tmp (t := 4) rfl E (E.get 0 rfl) ⟨rfl, hf⟩
   | true =>
    rw [hq153] at E
    have hi0 := hk0 hq153
    obtain ⟨r0, hP0, hv0, hr0⟩ := isParts_ex hi0
    refine eg (v := .string (ofL s1)) E (w_yes (g := 13) (s := 31) E rfl rfl (by decide) (E.get 0 rfl)) (run_move rfl (E.get 18 rfl)) fun a E => ?_
    refine env_callv (d := 33) (R := fun u w8 => (∃ b, u = .bool b ∧ (b = true → isParts s1)) ∧ Fr (fun _ => False) w1 w8) E rfl (by decide) rfl (w_yes (g := 13) (s := 31) E rfl rfl (by decide) (E.get 1 rfl)) (run_call1 (enters_of Tryz.func23 (by kernel_rfl) rfl) rfl rfl (E.get 0 rfl)) ((parts23_calls s1 (by omega) hT).mono fun e w8 h => by obtain ⟨b, rfl, h1, h2⟩ := h; exact ⟨_, rfl, ⟨b, rfl, h1⟩, h2⟩) fun a w1 u ⟨⟨k1, hu, hk1⟩, f1⟩ E => ?_
    subst hu
    have hT := Tb.fr hT f1 (fun r hr => id)
    have hf := hf.trans' f1 (fun _ _ h => h.elim)
    clear f1
    refine eg (v := .bool (!k1)) E (w_yes (g := 13) (s := 31) E rfl rfl (by decide) (E.get 2 rfl)) (run_not rfl (E.get 0 rfl)) fun a E => ?_
    refine ep (v := .bool (!k1)) E (run_pick_f rfl (E.get 3 rfl) (E.get 0 rfl)) fun a E => ?_
    refine wpList_nil ?_
    refine then_n ?_
    cases hq154 : k1 with
    | false =>
     rw [hq154] at E
     refine wp_cond_true (E.get 0 rfl) ?_
     refine wp_seq ?_
     refine wp_region_lit ?_
     refine ep (v := .bool true) E (run_move rfl (E.get 18 rfl)) fun a E => ?_
     refine env_set (d := 4) (v := .bool true) E rfl (by decide) (wanted_none rfl _) (run_assign rfl (E.get 0 rfl)) fun a E => ?_
     refine wpList_nil ?_
     refine then_n ?_
     refine wp_ret ?_
     refine then_r ?_
     exact ret_tmp (t := 4) rfl E (E.get 0 rfl) ⟨rfl, hf⟩
    | true =>
     rw [hq154] at E
     have hi1 := hk1 hq154
     obtain ⟨r1, hP1, hv1, hr1⟩ := isParts_ex hi1
     refine wp_cond_false (E.get 0 rfl) ?_
     refine wp_skip ?_
     refine then_n ?_
     refine wp_seq ?_
     refine wp_region_lit ?_
     refine ep (v := .string (ofL s0)) E (run_move rfl (E.get 21 rfl)) fun a E => ?_
     refine ep (v := .string (ofL (s0 ++ [10, 44, 32]))) E (run_sadd (E.get 0 rfl) rfl rfl (by simp only [List.length_append, List.length_cons, List.length_nil]; omega)) fun a E => ?_
     refine ep (v := .string (ofL s1)) E (run_move rfl (E.get 24 rfl)) fun a E => ?_
     refine ep (v := .string (ofL ((s0 ++ [10, 44, 32]) ++ s1))) E (run_sadd (E.get 1 rfl) (E.get 0 rfl) rfl (by simp only [List.length_append, List.length_cons, List.length_nil]; omega)) fun a E => ?_
     refine ep (v := .string (ofL ((s0 ++ [10, 44, 32]) ++ s1))) E (run_assign rfl (E.get 0 rfl)) fun a E => ?_
     refine wpList_nil ?_
     refine then_n ?_
     refine wp_seq ?_
     refine wp_region_lit ?_
     refine ep (v := .string (ofL s0)) E (run_move rfl (E.get 26 rfl)) fun a E => ?_
     refine env_callv (d := 43) (R := fun u w8 => (∃ v, u = .tuple #[v, .int .i64 0, .int .i64 0] ∧ SpV w8 v (r0)) ∧ Fr (fun _ => False) w1 w8) E rfl (by decide) rfl (wanted_none rfl _) (run_call1 (enters_of Tryz.func13 (by kernel_rfl) rfl) rfl rfl (E.get 0 rfl)) (parse_ok (hP0) (by omega) hT) fun a w1 u ⟨⟨u2, hu, hu2⟩, f1⟩ E => ?_
     subst hu
     have hT := Tb.fr hT f1 (fun r hr => id)
     have hf := hf.trans' f1 (fun _ _ h => h.elim)
     clear f1
     refine ep (v := .tuple #[u2, .int .i64 0, .int .i64 0]) E (run_move rfl (E.get 0 rfl)) fun a E => ?_
     refine ep (v := u2) E (run_ex0of3 rfl (E.get 0 rfl)) fun a E => ?_
     refine ep (v := .int .i64 0) E (run_ex1of3 rfl (E.get 1 rfl)) fun a E => ?_
     refine ep (v := .int .i64 0) E (run_ex2of3 rfl (E.get 2 rfl)) fun a E => ?_
     refine ep (v := u2) E (run_assign rfl (E.get 2 rfl)) fun a E => ?_
     refine ep (v := .int .i64 0) E (run_assign rfl (E.get 2 rfl)) fun a E => ?_
     refine ep (v := .int .i64 0) E (run_assign rfl (E.get 2 rfl)) fun a E => ?_
     refine wpList_nil ?_
     refine then_n ?_
     refine wp_seq ?_
     refine wp_region_lit ?_
     refine ep (v := .string (ofL s1)) E (run_move rfl (E.get 36 rfl)) fun a E => ?_
     refine env_callv (d := 49) (R := fun u w8 => (∃ v, u = .tuple #[v, .int .i64 0, .int .i64 0] ∧ SpV w8 v (r1)) ∧ Fr (fun _ => False) w1 w8) E rfl (by decide) rfl (wanted_none rfl _) (run_call1 (enters_of Tryz.func13 (by kernel_rfl) rfl) rfl rfl (E.get 0 rfl)) (parse_ok (hP1) (by omega) hT) fun a w1 u ⟨⟨u3, hu, hu3⟩, f1⟩ E => ?_
     subst hu
     have hT := Tb.fr hT f1 (fun r hr => id)
     have hu2 := Src.fr hu2 f1
     have hf := hf.trans' f1 (fun _ _ h => h.elim)
     clear f1
     refine ep (v := .tuple #[u3, .int .i64 0, .int .i64 0]) E (run_move rfl (E.get 0 rfl)) fun a E => ?_
     refine ep (v := u3) E (run_ex0of3 rfl (E.get 0 rfl)) fun a E => ?_
     refine ep (v := .int .i64 0) E (run_ex1of3 rfl (E.get 1 rfl)) fun a E => ?_
     refine ep (v := .int .i64 0) E (run_ex2of3 rfl (E.get 2 rfl)) fun a E => ?_
     refine ep (v := u3) E (run_assign rfl (E.get 2 rfl)) fun a E => ?_
     refine ep (v := .int .i64 0) E (run_assign rfl (E.get 2 rfl)) fun a E => ?_
     refine ep (v := .int .i64 0) E (run_assign rfl (E.get 2 rfl)) fun a E => ?_
     refine wpList_nil ?_
     refine then_n ?_
     refine wp_seq ?_
     have hEL : eitherQ r0 r1 = eitherL r0 r1 := by unfold eitherQ; rw [hv0, hv1]; rfl
     have hlaw := parts_law hi0 hi1 hP0 hP1
     rw [← hEL] at hlaw
     cases hq155 : (decide (60 < ((eitherQ r0 r1).length : Int))) with
     | false =>
      refine wp_region_lit ?_
      refine ep (v := .string (ofL ((s0 ++ [10, 44, 32]) ++ s1))) E (run_move rfl (E.get 18 rfl)) fun a E => ?_
      refine env_callv (d := 55) (R := fun u w8 => (∃ v, u = .tuple #[v, .int .i64 0, .int .i64 0] ∧ SpV w8 v (eitherQ r0 r1)) ∧ Fr (fun _ => False) w1 w8) E rfl (by decide) rfl (wanted_none rfl _) (run_call1 (enters_of Tryz.func13 (by kernel_rfl) rfl) rfl rfl (E.get 0 rfl)) (parse_ok (hlaw.trans (if_neg (by have := of_decide_eq_false hq155; omega))) (by simp only [List.length_append, List.length_cons, List.length_nil]; omega) hT) fun a w1 u ⟨⟨u4, hu, hu4⟩, f1⟩ E => ?_
      subst hu
      have hT := Tb.fr hT f1 (fun r hr => id)
      have hu2 := Src.fr hu2 f1
      have hu3 := Src.fr hu3 f1
      have hf := hf.trans' f1 (fun _ _ h => h.elim)
      clear f1
      refine ep (v := .tuple #[u4, .int .i64 0, .int .i64 0]) E (run_move rfl (E.get 0 rfl)) fun a E => ?_
      refine ep (v := u4) E (run_ex0of3 rfl (E.get 0 rfl)) fun a E => ?_
      refine ep (v := .int .i64 0) E (run_ex1of3 rfl (E.get 1 rfl)) fun a E => ?_
      refine ep (v := .int .i64 0) E (run_ex2of3 rfl (E.get 2 rfl)) fun a E => ?_
      refine ep (v := u4) E (run_assign rfl (E.get 2 rfl)) fun a E => ?_
      refine ep (v := .int .i64 0) E (run_assign rfl (E.get 2 rfl)) fun a E => ?_
      refine ep (v := .int .i64 0) E (run_assign rfl (E.get 2 rfl)) fun a E => ?_
      refine wpList_nil ?_
      refine then_n ?_
      refine wp_seq ?_
      refine wp_region_lit ?_
      refine ep (v := u2) E (run_move rfl (E.get 20 rfl)) fun a E => ?_
      refine ep (v := u3) E (run_move rfl (E.get 12 rfl)) fun a E => ?_
      refine env_callv (d := 61) (R := fun u w8 => SpV w8 u (eitherQ r0 r1) ∧ Fr (fun _ => False) w1 w8) E rfl (by decide) rfl (wanted_none rfl _) (run_call2 (enters_of Tryz.func24 (by kernel_rfl) rfl) rfl rfl (E.get 1 rfl) (E.get 0 rfl)) ((either_calls hu2 hu3 (by omega) (by omega)).mono fun e w8 h => by obtain ⟨u, rfl, h1, h2⟩ := h; exact ⟨_, rfl, ow.Src spL_len h1, h2⟩) fun a w1 u5 ⟨hu5, f1⟩ E => ?_
      have hT := Tb.fr hT f1 (fun r hr => id)
      have hu2 := Src.fr hu2 f1
      have hu3 := Src.fr hu3 f1
      have hu4 := Src.fr hu4 f1
      have hf := hf.trans' f1 (fun _ _ h => h.elim)
      clear f1
      refine ep (v := u5) E (run_assign rfl (E.get 0 rfl)) fun a E => ?_
      refine wpList_nil ?_
      refine then_n ?_
      refine wp_seq ?_
      refine wp_seq ?_
      refine wp_region_lit ?_
      refine ep (v := u5) E (run_move rfl (E.get 0 rfl)) fun a E => ?_
      refine ep (v := .int .i64 ((eitherQ r0 r1).length : Int)) E (run_len22s hu5 rfl (E.get 0 rfl)) fun a E => ?_
      refine ep (v := .bool false) E ((run_igtr (E.get 0 rfl) rfl Tryz.underlying3 rfl).trans (by rw [hq155] <;> rfl)) fun a E => ?_
      refine wpList_nil ?_
      refine then_n ?_
      refine wp_cond_false (E.get 0 rfl) ?_
      refine wp_skip ?_
      refine then_n ?_
      refine wp_seq ?_
      refine wp_region_lit ?_
      refine ep (v := .bool true) E (run_move rfl (E.get 57 rfl)) fun a E => ?_
      refine ep (v := .bool true) E (run_move rfl (E.get 0 rfl)) fun a E => ?_
      refine eg (v := .int .i64 0) E (w_yes (g := 1) (s := 77) E rfl rfl (by decide) (E.get 0 rfl)) (run_move rfl (E.get 10 rfl)) fun a E => ?_
      refine eg (v := .bool true) E (w_yes (g := 1) (s := 77) E rfl rfl (by decide) (E.get 1 rfl)) (run_ieql (m := 0) (n := 0) (E.get 0 rfl) rfl Tryz.underlying25 rfl) fun a E => ?_
      refine ep (v := .bool true) E (run_pick_t rfl (E.get 2 rfl) (E.get 0 rfl)) fun a E => ?_
      refine ep (v := .bool true) E (run_move rfl (E.get 0 rfl)) fun a E => ?_
      refine eg (v := u4) E (w_yes (g := 5) (s := 81) E rfl rfl (by decide) (E.get 0 rfl)) (run_move rfl (E.get 15 rfl)) fun a E => ?_
      refine eg (v := u5) E (w_yes (g := 5) (s := 81) E rfl rfl (by decide) (E.get 1 rfl)) (run_move rfl (E.get 10 rfl)) fun a E => ?_
      refine env_call (d := 84) (v := .bool true) E rfl (by decide) rfl (w_yes (g := 5) (s := 81) E rfl rfl (by decide) (E.get 2 rfl)) (run_call2 (enters_of Tryz.func17 (by kernel_rfl) rfl) rfl rfl (E.get 1 rfl) (E.get 0 rfl)) (by have h := same_calls hu4 hu5; rw [show ((eitherQ r0 r1 : List Sp) == (eitherQ r0 r1 : List Sp)) = true from beq_of rfl] at h; exact h) fun a w1 f1 E => ?_
      have hT := Tb.fr hT f1 (fun r hr => id)
      have hu2 := Src.fr hu2 f1
      have hu3 := Src.fr hu3 f1
      have hu4 := Src.fr hu4 f1
      have hu5 := Src.fr hu5 f1
      have hf := hf.trans' f1 (fun _ _ h => h.elim)
      clear f1
      refine ep (v := .bool true) E (run_pick_t rfl (E.get 3 rfl) (E.get 0 rfl)) fun a E => ?_
      refine env_set (d := 4) (v := .bool true) E rfl (by decide) (wanted_none rfl _) (run_assign rfl (E.get 0 rfl)) fun a E => ?_
      refine wpList_nil ?_
      refine then_n ?_
      refine wp_ret ?_
      exact ret_tmp (t := 4) rfl E (E.get 0 rfl) ⟨rfl, hf⟩
     | true =>
      refine wp_region_lit ?_
      refine ep (v := .string (ofL ((s0 ++ [10, 44, 32]) ++ s1))) E (run_move rfl (E.get 18 rfl)) fun a E => ?_
      refine env_call (d := 55) E rfl (by decide) rfl (wanted_none rfl _) (run_call1 (enters_of Tryz.func13 (by kernel_rfl) rfl) rfl rfl (E.get 0 rfl)) (parse_err (c := 2) (x := (((s0 ++ [10, 44, 32]) ++ s1).length : Int)) (hlaw.trans (if_pos (by have := of_decide_eq_true hq155; omega))) (by simp only [List.length_append, List.length_cons, List.length_nil]; omega) hT) fun a w1 f1 E => ?_
      have hT := Tb.fr hT f1 (fun r hr => id)
      have hu2 := Src.fr hu2 f1
      have hu3 := Src.fr hu3 f1
      have hf := hf.trans' f1 (fun _ _ h => h.elim)
      clear f1
      refine ep (v := .tuple #[.slice none 0 0, .int .i64 2, .int .i64 (((s0 ++ [10, 44, 32]) ++ s1).length : Int)]) E (run_move rfl (E.get 0 rfl)) fun a E => ?_
      refine ep (v := .slice none 0 0) E (run_ex0of3 rfl (E.get 0 rfl)) fun a E => ?_
      refine ep (v := .int .i64 2) E (run_ex1of3 rfl (E.get 1 rfl)) fun a E => ?_
      refine ep (v := .int .i64 (((s0 ++ [10, 44, 32]) ++ s1).length : Int)) E (run_ex2of3 rfl (E.get 2 rfl)) fun a E => ?_
      refine ep (v := .slice none 0 0) E (run_assign rfl (E.get 2 rfl)) fun a E => ?_
      refine ep (v := .int .i64 2) E (run_assign rfl (E.get 2 rfl)) fun a E => ?_
      refine ep (v := .int .i64 (((s0 ++ [10, 44, 32]) ++ s1).length : Int)) E (run_assign rfl (E.get 2 rfl)) fun a E => ?_
      refine wpList_nil ?_
      refine then_n ?_
      refine wp_seq ?_
      refine wp_region_lit ?_
      refine ep (v := u2) E (run_move rfl (E.get 20 rfl)) fun a E => ?_
      refine ep (v := u3) E (run_move rfl (E.get 12 rfl)) fun a E => ?_
      refine env_callv (d := 61) (R := fun u w8 => SpV w8 u (eitherQ r0 r1) ∧ Fr (fun _ => False) w1 w8) E rfl (by decide) rfl (wanted_none rfl _) (run_call2 (enters_of Tryz.func24 (by kernel_rfl) rfl) rfl rfl (E.get 1 rfl) (E.get 0 rfl)) ((either_calls hu2 hu3 (by omega) (by omega)).mono fun e w8 h => by obtain ⟨u, rfl, h1, h2⟩ := h; exact ⟨_, rfl, ow.Src spL_len h1, h2⟩) fun a w1 u6 ⟨hu6, f1⟩ E => ?_
      have hT := Tb.fr hT f1 (fun r hr => id)
      have hu2 := Src.fr hu2 f1
      have hu3 := Src.fr hu3 f1
      have hf := hf.trans' f1 (fun _ _ h => h.elim)
      clear f1
      refine ep (v := u6) E (run_assign rfl (E.get 0 rfl)) fun a E => ?_
      refine wpList_nil ?_
      refine then_n ?_
      refine wp_seq ?_
      refine wp_seq ?_
      refine wp_region_lit ?_
      refine ep (v := u6) E (run_move rfl (E.get 0 rfl)) fun a E => ?_
      refine ep (v := .int .i64 ((eitherQ r0 r1).length : Int)) E (run_len22s hu6 rfl (E.get 0 rfl)) fun a E => ?_
      refine ep (v := .bool true) E ((run_igtr (E.get 0 rfl) rfl Tryz.underlying3 rfl).trans (by rw [hq155] <;> rfl)) fun a E => ?_
      refine wpList_nil ?_
      refine then_n ?_
      refine wp_cond_true (E.get 0 rfl) ?_
      refine wp_seq ?_
      refine wp_region_lit ?_
      refine ep (v := .bool true) E (run_move rfl (E.get 57 rfl)) fun a E => ?_
      refine ep (v := .bool true) E (run_move rfl (E.get 0 rfl)) fun a E => ?_
      refine eg (v := .int .i64 2) E (w_yes (g := 1) (s := 66) E rfl rfl (by decide) (E.get 0 rfl)) (run_move rfl (E.get 10 rfl)) fun a E => ?_
      refine eg (v := .bool true) E (w_yes (g := 1) (s := 66) E rfl rfl (by decide) (E.get 1 rfl)) (run_ieql (m := 2) (n := 2) (E.get 0 rfl) rfl Tryz.underlying25 rfl) fun a E => ?_
      refine ep (v := .bool true) E (run_pick_t rfl (E.get 2 rfl) (E.get 0 rfl)) fun a E => ?_
      refine ep (v := .bool true) E (run_move rfl (E.get 0 rfl)) fun a E => ?_
      refine eg (v := .int .i64 (((s0 ++ [10, 44, 32]) ++ s1).length : Int)) E (w_yes (g := 5) (s := 70) E rfl rfl (by decide) (E.get 0 rfl)) (run_move rfl (E.get 13 rfl)) fun a E => ?_
      refine eg (v := .string (ofL ((s0 ++ [10, 44, 32]) ++ s1))) E (w_yes (g := 5) (s := 70) E rfl rfl (by decide) (E.get 1 rfl)) (run_move rfl (E.get 41 rfl)) fun a E => ?_
      refine eg (v := .int .i64 (((s0 ++ [10, 44, 32]) ++ s1).length : Int)) E (w_yes (g := 5) (s := 70) E rfl rfl (by decide) (E.get 2 rfl)) (run_slen rfl (E.get 0 rfl)) fun a E => ?_
      refine eg (v := .bool true) E (w_yes (g := 5) (s := 70) E rfl rfl (by decide) (E.get 3 rfl)) ((run_ieql (E.get 2 rfl) (E.get 0 rfl) Tryz.underlying3 rfl).trans (by rw [beq_self_eq_true])) fun a E => ?_
      refine ep (v := .bool true) E (run_pick_t rfl (E.get 4 rfl) (E.get 0 rfl)) fun a E => ?_
      refine env_set (d := 4) (v := .bool true) E rfl (by decide) (wanted_none rfl _) (run_assign rfl (E.get 0 rfl)) fun a E => ?_
      refine wpList_nil ?_
      refine then_n ?_
      refine wp_ret ?_
      refine then_r ?_
      exact ret_tmp (t := 4) rfl E (E.get 0 rfl) ⟨rfl, hf⟩
  | true =>
   rw [hq152] at E
   refine env_skip (d := 27) (g := 8) (s := 26) E rfl (by decide) rfl rfl rfl (by decide) (E.get 0 rfl) fun a E => ?_
   refine env_skip (d := 28) (g := 8) (s := 26) E rfl (by decide) rfl rfl rfl (by decide) (E.get 1 rfl) fun a E => ?_
   refine env_skip (d := 29) (g := 8) (s := 26) E rfl (by decide) rfl rfl rfl (by decide) (E.get 2 rfl) fun a E => ?_
   refine ep (v := .bool true) E (run_pick_t rfl (E.get 3 rfl) rfl) fun a E => ?_
   refine ep (v := .bool true) E (run_move rfl (E.get 0 rfl)) fun a E => ?_
   refine env_skip (d := 32) (g := 13) (s := 31) E rfl (by decide) rfl rfl rfl (by decide) (E.get 0 rfl) fun a E => ?_
   refine env_skip (d := 33) (g := 13) (s := 31) E rfl (by decide) rfl rfl rfl (by decide) (E.get 1 rfl) fun a E => ?_
   refine env_skip (d := 34) (g := 13) (s := 31) E rfl (by decide) rfl rfl rfl (by decide) (E.get 2 rfl) fun a E => ?_
   refine ep (v := .bool true) E (run_pick_t rfl (E.get 3 rfl) rfl) fun a E => ?_
   refine wpList_nil ?_
   refine then_n ?_
   refine wp_cond_true (E.get 0 rfl) ?_
   refine wp_seq ?_
   refine wp_region_lit ?_
   refine ep (v := .bool true) E (run_move rfl (E.get 18 rfl)) fun a E => ?_
   refine env_set (d := 4) (v := .bool true) E rfl (by decide) (wanted_none rfl _) (run_assign rfl (E.get 0 rfl)) fun a E => ?_
   refine wpList_nil ?_
   refine then_n ?_
   refine wp_ret ?_
   refine then_r ?_
   exact ret_tmp (t := 4) rfl E (E.get 0 rfl) ⟨rfl, hf⟩
 | true =>
  rw [hq151] at E
  refine env_skip (d := 22) (g := 3) (s := 21) E rfl (by decide) rfl rfl rfl (by decide) (E.get 0 rfl) fun a E => ?_
  refine env_skip (d := 23) (g := 3) (s := 21) E rfl (by decide) rfl rfl rfl (by decide) (E.get 1 rfl) fun a E => ?_
  refine env_skip (d := 24) (g := 3) (s := 21) E rfl (by decide) rfl rfl rfl (by decide) (E.get 2 rfl) fun a E => ?_
  refine ep (v := .bool true) E (run_pick_t rfl (E.get 3 rfl) rfl) fun a E => ?_
  refine ep (v := .bool true) E (run_move rfl (E.get 0 rfl)) fun a E => ?_
  refine env_skip (d := 27) (g := 8) (s := 26) E rfl (by decide) rfl rfl rfl (by decide) (E.get 0 rfl) fun a E => ?_
  refine env_skip (d := 28) (g := 8) (s := 26) E rfl (by decide) rfl rfl rfl (by decide) (E.get 1 rfl) fun a E => ?_
  refine env_skip (d := 29) (g := 8) (s := 26) E rfl (by decide) rfl rfl rfl (by decide) (E.get 2 rfl) fun a E => ?_
  refine ep (v := .bool true) E (run_pick_t rfl (E.get 3 rfl) rfl) fun a E => ?_
  refine ep (v := .bool true) E (run_move rfl (E.get 0 rfl)) fun a E => ?_
  refine env_skip (d := 32) (g := 13) (s := 31) E rfl (by decide) rfl rfl rfl (by decide) (E.get 0 rfl) fun a E => ?_
  refine env_skip (d := 33) (g := 13) (s := 31) E rfl (by decide) rfl rfl rfl (by decide) (E.get 1 rfl) fun a E => ?_
  refine env_skip (d := 34) (g := 13) (s := 31) E rfl (by decide) rfl rfl rfl (by decide) (E.get 2 rfl) fun a E => ?_
  refine ep (v := .bool true) E (run_pick_t rfl (E.get 3 rfl) rfl) fun a E => ?_
  refine wpList_nil ?_
  refine then_n ?_
  refine wp_cond_true (E.get 0 rfl) ?_
  refine wp_seq ?_
  refine wp_region_lit ?_
  refine ep (v := .bool true) E (run_move rfl (E.get 18 rfl)) fun a E => ?_
  refine env_set (d := 4) (v := .bool true) E rfl (by decide) (wanted_none rfl _) (run_assign rfl (E.get 0 rfl)) fun a E => ?_
  refine wpList_nil ?_
  refine then_n ?_
  refine wp_ret ?_
  refine then_r ?_
  exact ret_tmp (t := 4) rfl E (E.get 0 rfl) ⟨rfl, hf⟩
end Go.Proofs.YtjaffpnegdcjnaaGreatDoor
