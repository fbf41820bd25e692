/- HoursGaps. -/
import Derived.Test.YtjaffpnegdcjnaaGreatDoorRF5
set_option linter.unusedVariables false
set_option linter.unusedSimpArgs false
namespace Go.Proofs.YtjaffpnegdcjnaaGreatDoor
open Go.RowKit Go.Pl
theorem spaced_fil : ∀ (n : Nat) (l : Bys) (a : Int), l.length ≤ n → (spaced (((lexL l a).map (·.1)).filter fun t => t.1 != 3)).length ≤ 2 * l.length := by
 intro n
 induction n with
 | zero =>
  intro l a h
  have : l = [] := List.eq_nil_of_length_eq_zero (by omega)
  subst this; simp [lexL_nil, spaced]
 | succ n ih =>
  intro l a h
  cases l with
  | nil => simp [lexL_nil, spaced]
  | cons c l =>
   simp only [List.length_cons] at h ⊢
   rw [lexL_cons]
   have ih := fun b => ih (l.drop (one c l).2.2.1) b (by simp; omega)
   rw [List.length_drop] at ih
   have hm : (one c l).1 ≠ 3 → (one c l).2.1.length ≤ 1 + l.length := fun h9 => by
    unfold one at *
    have ht1 := takeWhile_len isWrd l
    have ht2 := takeWhile_len isDig l
    split
    ·simp
    rename_i h1; rw [if_neg h1] at h9
    split
    ·simp
    rename_i h2; rw [if_neg h2] at h9
    split
    ·simp; omega
    rename_i h3; rw [if_neg h3] at h9
    split
    ·simp; omega
    rename_i h4; rw [if_neg h4] at h9
    split
    ·rename_i h5; rw [if_pos h5] at h9
     cases hq : strL l with
     | none => simp
     | some q => rw [hq] at h9; exact absurd rfl h9
    ·split <;> simp
   have hsp : ∀ (t : Tok Int) (q : List (Tok Int)), (spaced (t :: q)).length = t.2.1.length + 1 + (spaced q).length := fun t q => by simp [spaced]; omega
   split
   ·rename_i he
    by_cases h3 : (one c l).1 = 3
    ·simp [h3, spaced]
    ·have := hm h3
     simp [h3, spaced]; omega
   ·rename_i he
    split
    ·rename_i hk
     have := ih (a + 1 + ((one c l).2.2.1 : Nat)); omega
    ·rename_i hk
     have h4 := ih (a + 1 + ((one c l).2.2.1 : Nat))
     by_cases h3 : (one c l).1 = 3
     ·rw [List.map_cons, List.filter_cons_of_neg (by simp [h3])]
      omega
     ·have h5 := one_len (c := c) (l := l) h3
      have h6 := hm h3
      rw [List.map_cons, List.filter_cons_of_pos (by simp [h3]), hsp]
      simp only
      omega
theorem spaced_pre {l : Bys} {ts : List (Tok Int)} (h : lexP l = .ok ts) {k : Nat} (h3 : ∀ t ∈ ts.take k, t.1 ≠ 3) : (spaced (ts.take k)).length ≤ 2 * l.length := by
 obtain ⟨e, _⟩ := lexP_tk h
 have h1 := spaced_fil _ l 0 (Nat.le_refl _)
 rw [← e] at h1
 have h2 : ts.filter (fun t => t.1 != 3) = ts.take k ++ (ts.drop k).filter (fun t => t.1 != 3) := by
  conv => lhs; rw [← List.take_append_drop k ts]
  rw [List.filter_append, List.filter_eq_self.2 fun t ht => by simpa using h3 t ht]
 rw [h2] at h1
 have h4 : (spaced (ts.take k ++ (ts.drop k).filter (fun t => t.1 != 3))).length = (spaced (ts.take k)).length + (spaced ((ts.drop k).filter (fun t => t.1 != 3))).length := by
  unfold spaced; rw [List.flatMap_append, List.length_append]
 omega
theorem plc_snoc (a : Int) (t : Tok Int) : ∀ (ts : List (Tok Int)) (n p : Int), plc a (ts ++ [t]) n p = if t.2.2 == a then n + (spaced ts).length else plc a ts n p := by
 intro ts
 induction ts with
 | nil => intro n p; simp [plc, spaced]
 | cons u ts ih =>
  intro n p
  show plc a (ts ++ [t]) _ _ = _
  rw [ih]
  have : ((spaced (u :: ts)).length : Int) = (u.2.1.length + 1 : Nat) + ((spaced ts).length : Int) := by simp [spaced]; omega
  split
  ·rw [this]; omega
  ·rfl
theorem spaced_snoc {ts : List (Tok Int)} {k : Nat} {t : Tok Int} (h : ts[k]? = some t) : spaced (ts.take (k + 1)) = spaced (ts.take k) ++ (t.2.1 ++ [10]) := by
 rw [List.take_add_one, h]; simp [spaced]
set_option maxRecDepth 100000 in
set_option maxHeartbeats 4000000 in
theorem hgaps_calls {w : World} (s : Bys) (hT : Tb w) : Calls Tryz.prog 5 #[.string (ofL s)] w fun e w' => e = .returned (.bool true) ∧ Fr (fun _ => False) w w' := by
 refine wp_start1 Tryz.func5 rfl rfl (n := 118) (by decide) fun a E => ?_
 have hf : Fr (fun _ => False) w w := Fr.refl _ _
 refine wp_seq ?_
 refine wp_region_lit ?_
 refine ep (v := .bool false) E (run_assign rfl rfl) fun a E => ?_
 refine wpList_nil ?_
 refine then_n ?_
 refine wp_seq ?_
 refine wp_region_lit ?_
 refine env_call (d := 16) (v := .bool true) E rfl (by decide) rfl (wanted_none rfl _) (run_call0 (enters_of Tryz.func11 (by kernel_rfl) rfl) rfl rfl) (head_calls hT) fun a w1 f1 E => ?_
 have hT := Tb.fr hT f1 (fun r hr => id)
 have hf := hf.trans' f1 (fun _ _ h => h.elim)
 clear f1
 refine ep (v := .bool true) E (run_assign rfl (E.get 0 rfl)) fun a E => ?_
 refine wpList_nil ?_
 refine then_n ?_
 refine wp_seq ?_
 refine wp_seq ?_
 refine wp_region_lit ?_
 refine ep (v := .string (ofL s)) E (run_move rfl (E.get 3 rfl)) fun a E => ?_
 refine ep (v := .int .i64 (s.length : Int)) E (run_slen rfl (E.get 0 rfl)) fun a E => ?_
 refine ep (v := .bool (decide (1500 < (s.length : Int)))) E (run_igtr (E.get 0 rfl) rfl Tryz.underlying3 rfl) fun a E => ?_
 refine wpList_nil ?_
 refine then_n ?_
 cases hq146 : (decide (1500 < (s.length : Int))) with
 | false =>
  rw [hq146] at E
  have hsl : s.length ≤ 1500 := by have := of_decide_eq_false hq146; omega
  refine wp_cond_false (E.get 0 rfl) ?_
  refine wp_skip ?_
  refine then_n ?_
  refine wp_seq ?_
  rcases lexP_cases s with ⟨c9, x9, hL, hc9, _⟩ | ⟨hL, hz9⟩
  ·have hP : parseP s = .error (c9, x9) := by unfold parseP; rw [hL]
   refine wp_region_lit ?_
   refine ep (v := .string (ofL s)) E (run_move rfl (E.get 6 rfl)) fun a E => ?_
   refine env_call (d := 23) E rfl (by decide) rfl (wanted_none rfl _) (run_call1 (enters_of Tryz.func20 (by kernel_rfl) rfl) rfl rfl (E.get 0 rfl)) (lex_err (c := c9) (x := x9) hL (by omega) _) fun a w1 f1 E => ?_
   have hT := Tb.fr hT f1 (fun r hr => id)
   have hf := hf.trans' f1 (fun _ _ h => h.elim)
   clear f1
   refine ep (v := .tuple #[.slice none 0 0, .int .i64 c9, .int .i64 x9]) E (run_move rfl (E.get 0 rfl)) fun a E => ?_
   refine ep (v := .slice none 0 0) E (run_ex0of3 rfl (E.get 0 rfl)) fun a E => ?_
   refine ep (v := .int .i64 c9) E (run_ex1of3 rfl (E.get 1 rfl)) fun a E => ?_
   refine ep (v := .int .i64 x9) E (run_ex2of3 rfl (E.get 2 rfl)) fun a E => ?_
   refine ep (v := .slice none 0 0) E (run_assign rfl (E.get 2 rfl)) fun a E => ?_
   refine ep (v := .int .i64 c9) E (run_assign rfl (E.get 2 rfl)) fun a E => ?_
   refine ep (v := .int .i64 x9) E (run_assign rfl (E.get 2 rfl)) fun a E => ?_
   refine wpList_nil ?_
   refine then_n ?_
   refine wp_seq ?_
   refine wp_region_lit ?_
   refine ep (v := .string (ofL s)) E (run_move rfl (E.get 15 rfl)) fun a E => ?_
   refine env_call (d := 29) E rfl (by decide) rfl (wanted_none rfl _) (run_call1 (enters_of Tryz.func13 (by kernel_rfl) rfl) rfl rfl (E.get 0 rfl)) (parse_err (c := c9) (x := x9) (hP) (by omega) hT) fun a w1 f1 E => ?_
   have hT := Tb.fr hT f1 (fun r hr => id)
   have hf := hf.trans' f1 (fun _ _ h => h.elim)
   clear f1
   refine ep (v := .tuple #[.slice none 0 0, .int .i64 c9, .int .i64 x9]) E (run_move rfl (E.get 0 rfl)) fun a E => ?_
   refine ep (v := .slice none 0 0) E (run_ex0of3 rfl (E.get 0 rfl)) fun a E => ?_
   refine ep (v := .int .i64 c9) E (run_ex1of3 rfl (E.get 1 rfl)) fun a E => ?_
   refine ep (v := .int .i64 x9) E (run_ex2of3 rfl (E.get 2 rfl)) fun a E => ?_
   refine ep (v := .slice none 0 0) E (run_assign rfl (E.get 2 rfl)) fun a E => ?_
   refine ep (v := .int .i64 c9) E (run_assign rfl (E.get 2 rfl)) fun a E => ?_
   refine ep (v := .int .i64 x9) E (run_assign rfl (E.get 2 rfl)) fun a E => ?_
   refine wpList_nil ?_
   refine then_n ?_
   refine wp_seq ?_
   refine wp_seq ?_
   refine wp_region_lit ?_
   refine ep (v := .int .i64 c9) E (run_move rfl (E.get 10 rfl)) fun a E => ?_
   refine ep (v := .bool (c9 != 0)) E (run_ineq (E.get 0 rfl) rfl Tryz.underlying25 rfl) fun a E => ?_
   refine wpList_nil ?_
   refine then_n ?_
   cases hq147 : (c9 != 0) with
   | false =>
    rw [hq147] at E
    exact absurd (by simpa using hq147) hc9
   | true =>
    rw [hq147] at E
    refine wp_cond_true (E.get 0 rfl) ?_
    refine wp_seq ?_
    refine wp_region_lit ?_
    refine ep (v := .bool true) E (run_move rfl (E.get 23 rfl)) fun a E => ?_
    refine ep (v := .bool true) E (run_move rfl (E.get 0 rfl)) fun a E => ?_
    refine eg (v := .int .i64 c9) E (w_yes (g := 1) (s := 36) E rfl rfl (by decide) (E.get 0 rfl)) (run_move rfl (E.get 5 rfl)) fun a E => ?_
    refine eg (v := .int .i64 c9) E (w_yes (g := 1) (s := 36) E rfl rfl (by decide) (E.get 1 rfl)) (run_move rfl (E.get 15 rfl)) fun a E => ?_
    refine eg (v := .bool true) E (w_yes (g := 1) (s := 36) E rfl rfl (by decide) (E.get 2 rfl)) ((run_ieql (E.get 1 rfl) (E.get 0 rfl) Tryz.underlying25 rfl).trans (by rw [beq_self_eq_true])) fun a E => ?_
    refine ep (v := .bool true) E (run_pick_t rfl (E.get 3 rfl) (E.get 0 rfl)) fun a E => ?_
    refine env_set (d := 2) (v := .bool true) E rfl (by decide) (wanted_none rfl _) (run_assign rfl (E.get 0 rfl)) fun a E => ?_
    refine wpList_nil ?_
    refine then_n ?_
    refine wp_ret ?_
    refine then_r ?_
    exact ret_tmp (t := 2) rfl E (E.get 0 rfl) ⟨rfl, hf⟩
  ·obtain ⟨ts, hts⟩ : ∃ ts, ts = (lexL s 0).map (·.1) := ⟨_, rfl⟩
   rw [← hts] at hL
   have htl := (lexP_tk hL).2.2.2.2
   rcases parse_cases s with ⟨e9, a9, hP, he, ha0, ha1⟩ | ⟨g9, hP, hgv, hg60⟩
   ·refine wp_region_lit ?_
    refine ep (v := .string (ofL s)) E (run_move rfl (E.get 6 rfl)) fun a E => ?_
    refine env_callv (d := 23) (R := fun u w8 => (∃ v, u = .tuple #[v, .int .i64 0, .int .i64 0] ∧ TkV w8 v ts) ∧ Fr (fun _ => False) w1 w8) E rfl (by decide) rfl (wanted_none rfl _) (run_call1 (enters_of Tryz.func20 (by kernel_rfl) rfl) rfl rfl (E.get 0 rfl)) (lex_ok hL (by omega) _) fun a w1 u ⟨⟨tv, hu, htv⟩, f1⟩ E => ?_
    subst hu
    obtain ⟨pt, ct, rfl, hct1, hct2, htk, hzt⟩ := htv
    have hT := Tb.fr hT f1 (fun r hr => id)
    have hf := hf.trans' f1 (fun _ _ h => h.elim)
    clear f1
    obtain ⟨G0, hG0⟩ : ∃ G0, G0 = w1.heap.size := ⟨_, rfl⟩
    rw [← hG0] at htk
    clear hG0
    refine ep (v := .tuple #[.slice (pt) ts.length ct, .int .i64 0, .int .i64 0]) E (run_move rfl (E.get 0 rfl)) fun a E => ?_
    refine ep (v := .slice (pt) ts.length ct) E (run_ex0of3 rfl (E.get 0 rfl)) fun a E => ?_
    refine ep (v := .int .i64 0) E (run_ex1of3 rfl (E.get 1 rfl)) fun a E => ?_
    refine ep (v := .int .i64 0) E (run_ex2of3 rfl (E.get 2 rfl)) fun a E => ?_
    refine ep (v := .slice (pt) ts.length ct) E (run_assign rfl (E.get 2 rfl)) fun a E => ?_
    refine ep (v := .int .i64 0) E (run_assign rfl (E.get 2 rfl)) fun a E => ?_
    refine ep (v := .int .i64 0) E (run_assign rfl (E.get 2 rfl)) fun a E => ?_
    refine wpList_nil ?_
    refine then_n ?_
    refine wp_seq ?_
    refine wp_region_lit ?_
    refine ep (v := .string (ofL s)) E (run_move rfl (E.get 15 rfl)) fun a E => ?_
    refine env_call (d := 29) E rfl (by decide) rfl (wanted_none rfl _) (run_call1 (enters_of Tryz.func13 (by kernel_rfl) rfl) rfl rfl (E.get 0 rfl)) (parse_err (c := e9) (x := a9) (hP) (by omega) hT) fun a w1 f1 E => ?_
    have hT := Tb.fr hT f1 (fun r hr => id)
    have htk := srcAt.fr htk f1 (fun r hr => id)
    have hf := hf.trans' f1 (fun _ _ h => h.elim)
    clear f1
    refine ep (v := .tuple #[.slice none 0 0, .int .i64 e9, .int .i64 a9]) E (run_move rfl (E.get 0 rfl)) fun a E => ?_
    refine ep (v := .slice none 0 0) E (run_ex0of3 rfl (E.get 0 rfl)) fun a E => ?_
    refine ep (v := .int .i64 e9) E (run_ex1of3 rfl (E.get 1 rfl)) fun a E => ?_
    refine ep (v := .int .i64 a9) E (run_ex2of3 rfl (E.get 2 rfl)) fun a E => ?_
    refine ep (v := .slice none 0 0) E (run_assign rfl (E.get 2 rfl)) fun a E => ?_
    refine ep (v := .int .i64 e9) E (run_assign rfl (E.get 2 rfl)) fun a E => ?_
    refine ep (v := .int .i64 a9) E (run_assign rfl (E.get 2 rfl)) fun a E => ?_
    refine wpList_nil ?_
    refine then_n ?_
    refine wp_seq ?_
    refine wp_seq ?_
    refine wp_region_lit ?_
    refine ep (v := .int .i64 0) E (run_move rfl (E.get 10 rfl)) fun a E => ?_
    refine ep (v := .bool false) E (run_ineq (m := 0) (n := 0) (E.get 0 rfl) rfl Tryz.underlying25 rfl) fun a E => ?_
    refine wpList_nil ?_
    refine then_n ?_
    refine wp_cond_false (E.get 0 rfl) ?_
    refine wp_skip ?_
    refine then_n ?_
    refine wp_seq ?_
    refine wp_region_lit ?_
    refine ep (v := .string (ofL [])) E (run_assign rfl rfl) fun a E => ?_
    refine wpList_nil ?_
    refine then_n ?_
    refine wp_seq ?_
    refine wp_region_lit ?_
    refine ep (v := .int .i64 (-1)) E (run_assign rfl rfl) fun a E => ?_
    refine wpList_nil ?_
    refine then_n ?_
    refine wp_seq ?_
    refine wp_seq ?_
    refine wp_region_lit ?_
    refine ep (v := .int .i64 0) E (run_assign rfl rfl) fun a E => ?_
    refine wpList_nil ?_
    refine then_n ?_
    refine wp_block ?_
    refine wp_loop (fun a w2 => ∃ (k : Nat), Env 118 [(0, .string (ofL s)), (3, .bool true), (4, .slice (pt) ts.length ct), (5, .int .i64 0), (7, .slice none 0 0), (8, .int .i64 e9), (9, .int .i64 a9), (10, .string (ofL (spaced (ts.take k)))), (11, .int .i64 (plc a9 (ts.take k) 0 (-1))), (12, .int .i64 (k : Int))] a ∧ k ≤ ts.length ∧ srcAt tkL 3 w2 G0 pt ts ∧ Tb w2 ∧ Fr (fun _ => False) w w2 ∧ (∀ t ∈ ts.take k, t.1 ≠ 3)) (fun a _ => ts.length - (intOf (a.eval (.tmp 12))).toNat) ?_ ?_
    ·exact ⟨0, E.of ⟨E.get 29 rfl, E.get 26 rfl, E.get 16 rfl, E.get 15 rfl, E.get 7 rfl, E.get 6 rfl, E.get 5 rfl, E.get 2 rfl, E.get 1 rfl, E.get 0 rfl, trivial⟩, Nat.zero_le _, htk, hT, hf, (fun t ht => by simp at ht)⟩
    clear E
    rintro a w2 ⟨k, E, hk, htk, hT, hf, h3⟩
    have hmu : ts.length - (intOf (a.eval (.tmp 12))).toNat = ts.length - k := by rw [E.get 9 rfl]; first | rfl | (simp [intOf]; done) | (simp only [intOf]; omega)
    rw [hmu]
    clear hmu
    refine wp_seq ?_
    refine wp_seq ?_
    refine wp_region_lit ?_
    refine ep (v := .int .i64 (k : Int)) E (run_move rfl (E.get 9 rfl)) fun a E => ?_
    refine ep (v := .slice (pt) ts.length ct) E (run_move rfl (E.get 3 rfl)) fun a E => ?_
    refine ep (v := .int .i64 (ts.length : Int)) E (run_len34 rfl (E.get 0 rfl)) fun a E => ?_
    refine ep (v := .bool (decide ((k : Int) < (ts.length : Int)))) E (run_ilss (E.get 2 rfl) (E.get 0 rfl) Tryz.underlying3 rfl) fun a E => ?_
    refine wpList_nil ?_
    refine then_n ?_
    cases hq149 : (decide ((k : Int) < (ts.length : Int))) with
    | false =>
     rw [hq149] at E
     have hie : k = ts.length := by have := of_decide_eq_false hq149; omega
     subst hie
     rw [List.take_length] at E h3
     obtain ⟨hsl2, hgl⟩ := gaps_law hL h3
     obtain ⟨y9, hP2, hy⟩ : ∃ y, parseP (spaced ts) = .error (e9, y) ∧ ((a9 = s.length ∧ y = (spaced ts).length) ∨ (a9 ≠ s.length ∧ y = plc a9 ts 0 (-1) ∧ 0 ≤ y)) := by
      rcases hgl with ⟨z, z1, z2⟩ | ⟨c, x, y, z1, z2, z3⟩
      ·rw [hP] at z1; cases z1
      ·rw [hP] at z1; cases z1; exact ⟨y, z2, z3⟩
     refine wp_cond_false (E.get 0 rfl) ?_
     refine wp_exit ?_
     refine then_e ?_
     refine then_e ?_
     refine blk_e ?_
     refine then_n ?_
     refine wp_seq ?_
     refine wp_region_lit ?_
     refine ep (v := .string (ofL (spaced ts))) E (run_move rfl (E.get 11 rfl)) fun a E => ?_
     refine env_call (d := 73) E rfl (by decide) rfl (wanted_none rfl _) (run_call1 (enters_of Tryz.func13 (by kernel_rfl) rfl) rfl rfl (E.get 0 rfl)) (parse_err (c := e9) (x := y9) (hP2) (by omega) hT) fun a w1 f1 E => ?_
     have hT := Tb.fr hT f1 (fun r hr => id)
     have htk := srcAt.fr htk f1 (fun r hr => id)
     have hf := hf.trans' f1 (fun _ _ h => h.elim)
     clear f1
     refine ep (v := .tuple #[.slice none 0 0, .int .i64 e9, .int .i64 y9]) E (run_move rfl (E.get 0 rfl)) fun a E => ?_
     refine ep (v := .slice none 0 0) E (run_ex0of3 rfl (E.get 0 rfl)) fun a E => ?_
     refine ep (v := .int .i64 e9) E (run_ex1of3 rfl (E.get 1 rfl)) fun a E => ?_
     refine ep (v := .int .i64 y9) E (run_ex2of3 rfl (E.get 2 rfl)) fun a E => ?_
     refine ep (v := .slice none 0 0) E (run_assign rfl (E.get 2 rfl)) fun a E => ?_
     refine ep (v := .int .i64 e9) E (run_assign rfl (E.get 2 rfl)) fun a E => ?_
     refine ep (v := .int .i64 y9) E (run_assign rfl (E.get 2 rfl)) fun a E => ?_
     refine wpList_nil ?_
     refine then_n ?_
     refine wp_seq ?_
     refine wp_seq ?_
     refine wp_region_lit ?_
     refine ep (v := .int .i64 e9) E (run_move rfl (E.get 18 rfl)) fun a E => ?_
     refine ep (v := .int .i64 e9) E (run_move rfl (E.get 2 rfl)) fun a E => ?_
     refine ep (v := .bool false) E ((run_ineq (E.get 1 rfl) (E.get 0 rfl) Tryz.underlying25 rfl).trans (by rw [bne_self_eq_false])) fun a E => ?_
     refine ep (v := .bool false) E (run_move rfl (E.get 0 rfl)) fun a E => ?_
     refine eg (v := .slice none 0 0) E (w_yes (g := 3) (s := 80) E rfl rfl (by decide) (E.get 0 rfl)) (run_move rfl (E.get 21 rfl)) fun a E => ?_
     refine eg (v := .slice none 0 0) E (w_yes (g := 3) (s := 80) E rfl rfl (by decide) (E.get 1 rfl)) (run_move rfl (E.get 7 rfl)) fun a E => ?_
     refine env_call (d := 83) (v := .bool true) E rfl (by decide) rfl (w_yes (g := 3) (s := 80) E rfl rfl (by decide) (E.get 2 rfl)) (run_call2 (enters_of Tryz.func17 (by kernel_rfl) rfl) rfl rfl (E.get 1 rfl) (E.get 0 rfl)) (by have h := same_calls (Src.nil w1) (Src.nil w1); rw [show ((([] : List Sp) : List Sp) == (([] : List Sp) : List Sp)) = true from beq_of rfl] at h; exact h) fun a w1 f1 E => ?_
     have hT := Tb.fr hT f1 (fun r hr => id)
     have htk := srcAt.fr htk f1 (fun r hr => id)
     have hf := hf.trans' f1 (fun _ _ h => h.elim)
     clear f1
     refine eg (v := .bool false) E (w_yes (g := 3) (s := 80) E rfl rfl (by decide) (E.get 3 rfl)) (run_not rfl (E.get 0 rfl)) fun a E => ?_
     refine ep (v := .bool false) E (run_pick_f rfl (E.get 4 rfl) (E.get 0 rfl)) fun a E => ?_
     refine wpList_nil ?_
     refine then_n ?_
     refine wp_cond_false (E.get 0 rfl) ?_
     refine wp_skip ?_
     refine then_n ?_
     refine wp_seq ?_
     refine wp_seq ?_
     refine wp_region_lit ?_
     refine ep (v := .int .i64 e9) E (run_move rfl (E.get 27 rfl)) fun a E => ?_
     refine ep (v := .bool (e9 == 0)) E (run_ieql (E.get 0 rfl) rfl Tryz.underlying25 rfl) fun a E => ?_
     refine wpList_nil ?_
     refine then_n ?_
     cases hq150 : (e9 == 0) with
     | false =>
      rw [hq150] at E
      refine wp_cond_false (E.get 0 rfl) ?_
      refine wp_skip ?_
      refine then_n ?_
      refine wp_seq ?_
      refine wp_seq ?_
      refine wp_region_lit ?_
      refine ep (v := .int .i64 a9) E (run_move rfl (E.get 30 rfl)) fun a E => ?_
      refine ep (v := .string (ofL s)) E (run_move rfl (E.get 25 rfl)) fun a E => ?_
      refine ep (v := .int .i64 (s.length : Int)) E (run_slen rfl (E.get 0 rfl)) fun a E => ?_
      refine ep (v := .bool (a9 == (s.length : Int))) E (run_ieql (E.get 2 rfl) (E.get 0 rfl) Tryz.underlying3 rfl) fun a E => ?_
      refine wpList_nil ?_
      refine then_n ?_
      cases hq151 : (a9 == (s.length : Int)) with
      | false =>
       rw [hq151] at E
       have hy8 : y9 = plc a9 ts 0 (-1) ∧ 0 ≤ y9 := hy.elim (fun z => absurd z.1 (beq_eq_false_iff_ne.1 hq151)) (fun z => z.2)
       have hy9 := hy8.1
       have hy7 := hy8.2
       refine wp_cond_false (E.get 0 rfl) ?_
       refine wp_skip ?_
       refine then_n ?_
       refine wp_seq ?_
       refine wp_region_lit ?_
       refine ep (v := .bool true) E (run_move rfl (E.get 29 rfl)) fun a E => ?_
       refine ep (v := .bool true) E (run_move rfl (E.get 0 rfl)) fun a E => ?_
       refine eg (v := .int .i64 (plc a9 ts 0 (-1))) E (w_yes (g := 1) (s := 109) E rfl rfl (by decide) (E.get 0 rfl)) (run_move rfl (E.get 38 rfl)) fun a E => ?_
       refine eg (v := .bool (decide (0 ≤ (plc a9 ts 0 (-1))))) E (w_yes (g := 1) (s := 109) E rfl rfl (by decide) (E.get 1 rfl)) (run_igeq (E.get 0 rfl) rfl Tryz.underlying3 rfl) fun a E => ?_
       refine ep (v := .bool (decide (0 ≤ (plc a9 ts 0 (-1))))) E (run_pick_t rfl (E.get 2 rfl) (E.get 0 rfl)) fun a E => ?_
       refine ep (v := .bool (decide (0 ≤ (plc a9 ts 0 (-1))))) E (run_move rfl (E.get 0 rfl)) fun a E => ?_
       cases hq152 : (decide (0 ≤ (plc a9 ts 0 (-1)))) with
       | false =>
        rw [hq152] at E
        exact absurd (of_decide_eq_false hq152) (by omega)
       | true =>
        rw [hq152] at E
        refine eg (v := .int .i64 y9) E (w_yes (g := 5) (s := 113) E rfl rfl (by decide) (E.get 0 rfl)) (run_move rfl (E.get 21 rfl)) fun a E => ?_
        refine eg (v := .int .i64 (plc a9 ts 0 (-1))) E (w_yes (g := 5) (s := 113) E rfl rfl (by decide) (E.get 1 rfl)) (run_move rfl (E.get 43 rfl)) fun a E => ?_
        refine eg (v := .bool (y9 == (plc a9 ts 0 (-1)))) E (w_yes (g := 5) (s := 113) E rfl rfl (by decide) (E.get 2 rfl)) (run_ieql (E.get 1 rfl) (E.get 0 rfl) Tryz.underlying3 rfl) fun a E => ?_
        refine ep (v := .bool (y9 == (plc a9 ts 0 (-1)))) E (run_pick_t rfl (E.get 3 rfl) (E.get 0 rfl)) fun a E => ?_
        refine ep (v := .bool (y9 == (plc a9 ts 0 (-1)))) E (run_assign rfl (E.get 0 rfl)) fun a E => ?_
        refine wpList_nil ?_
        refine then_n ?_
        refine wp_ret ?_
        have hz : (y9 == (plc a9 ts 0 (-1))) = true := by rw [beq_iff_eq]; exact hy9
        exact ret_tmp (t := 2) rfl E (E.get 0 rfl) ⟨by rw [hz], hf⟩
      | true =>
       rw [hq151] at E
       have hy9 : y9 = (spaced ts).length := hy.elim (fun z => z.2) (fun z => absurd (beq_iff_eq.1 hq151) z.1)
       refine wp_cond_true (E.get 0 rfl) ?_
       refine wp_seq ?_
       refine wp_region_lit ?_
       refine ep (v := .bool true) E (run_move rfl (E.get 29 rfl)) fun a E => ?_
       refine ep (v := .bool true) E (run_move rfl (E.get 0 rfl)) fun a E => ?_
       refine eg (v := .int .i64 y9) E (w_yes (g := 1) (s := 102) E rfl rfl (by decide) (E.get 0 rfl)) (run_move rfl (E.get 17 rfl)) fun a E => ?_
       refine eg (v := .string (ofL (spaced ts))) E (w_yes (g := 1) (s := 102) E rfl rfl (by decide) (E.get 1 rfl)) (run_move rfl (E.get 38 rfl)) fun a E => ?_
       refine eg (v := .int .i64 ((spaced ts).length : Int)) E (w_yes (g := 1) (s := 102) E rfl rfl (by decide) (E.get 2 rfl)) (run_slen rfl (E.get 0 rfl)) fun a E => ?_
       refine eg (v := .bool (y9 == ((spaced ts).length : Int))) E (w_yes (g := 1) (s := 102) E rfl rfl (by decide) (E.get 3 rfl)) (run_ieql (E.get 2 rfl) (E.get 0 rfl) Tryz.underlying3 rfl) fun a E => ?_
       refine ep (v := .bool (y9 == ((spaced ts).length : Int))) E (run_pick_t rfl (E.get 4 rfl) (E.get 0 rfl)) fun a E => ?_
       refine ep (v := .bool (y9 == ((spaced ts).length : Int))) E (run_assign rfl (E.get 0 rfl)) fun a E => ?_
       refine wpList_nil ?_
       refine then_n ?_
       refine wp_ret ?_
       refine then_r ?_
       have hz : (y9 == ((spaced ts).length : Int)) = true := by rw [beq_iff_eq]; exact hy9
       exact ret_tmp (t := 2) rfl E (E.get 0 rfl) ⟨by rw [hz], hf⟩
     | true =>
      rw [hq150] at E
      exact absurd (by simpa using hq150) he
    | true =>
     rw [hq149] at E
     have hlt : k < ts.length := by have := of_decide_eq_true hq149; omega
     obtain ⟨t, ht⟩ : ∃ y, ts[k]? = some y := ⟨_, List.getElem?_eq_getElem hlt⟩
     obtain ⟨g153, off153, hpe153, hgl153, hrow153⟩ := htk.at hlt
     replace hrow153 := hrow153 k t ht
     refine wp_cond_true (E.get 0 rfl) ?_
     refine wp_skip ?_
     refine then_n ?_
     refine wp_seq ?_
     refine wp_block ?_
     refine wp_seq ?_
     refine wp_seq ?_
     refine wp_region_lit ?_
     refine ep (v := .slice (pt) ts.length ct) E (run_move rfl (E.get 6 rfl)) fun a E => ?_
     refine ep (v := .int .i64 (k : Int)) E (run_move rfl (E.get 14 rfl)) fun a E => ?_
     refine ep (v := .pointer (some ⟨g153, (off153 + k * 3), none⟩)) E (run_index34 (i := k) rfl ((E.get 1 rfl).trans (by rw [hpe153])) (E.get 0 rfl) hlt) fun a E => ?_
     refine ep (v := .pointer (some ⟨g153, ((off153 + k * 3) + 0), none⟩)) E (fa38_0 rfl (E.get 0 rfl)) fun a E => ?_
     refine ep (v := .int .i64 t.1) E (run_ldi rfl (E.get 0 rfl) (hrow153 0 _ rfl)) fun a E => ?_
     refine ep (v := .bool (t.1 == 3)) E (run_ieql (E.get 0 rfl) rfl Tryz.underlying3 rfl) fun a E => ?_
     refine wpList_nil ?_
     refine then_n ?_
     cases hq154 : (t.1 == 3) with
     | false =>
      rw [hq154] at E
      refine wp_cond_false (E.get 0 rfl) ?_
      refine wp_skip ?_
      refine then_n ?_
      refine wp_seq ?_
      refine wp_seq ?_
      refine wp_region_lit ?_
      refine ep (v := .slice (pt) ts.length ct) E (run_move rfl (E.get 12 rfl)) fun a E => ?_
      refine ep (v := .int .i64 (k : Int)) E (run_move rfl (E.get 20 rfl)) fun a E => ?_
      refine ep (v := .pointer (some ⟨g153, (off153 + k * 3), none⟩)) E (run_index34 (i := k) rfl ((E.get 1 rfl).trans (by rw [hpe153])) (E.get 0 rfl) hlt) fun a E => ?_
      refine ep (v := .pointer (some ⟨g153, ((off153 + k * 3) + 2), none⟩)) E (fa38_2 rfl (E.get 0 rfl)) fun a E => ?_
      refine ep (v := .int .i64 t.2.2) E (run_ldi rfl (E.get 0 rfl) (hrow153 2 _ rfl)) fun a E => ?_
      refine ep (v := .int .i64 a9) E (run_move rfl (E.get 21 rfl)) fun a E => ?_
      refine ep (v := .bool (t.2.2 == a9)) E (run_ieql (E.get 1 rfl) (E.get 0 rfl) Tryz.underlying3 rfl) fun a E => ?_
      refine wpList_nil ?_
      refine then_n ?_
      cases hq155 : (t.2.2 == a9) with
      | false =>
       rw [hq155] at E
       refine wp_cond_false (E.get 0 rfl) ?_
       refine wp_skip ?_
       refine then_n ?_
       have h39 : ∀ u ∈ ts.take (k + 1), u.1 ≠ 3 := by
        intro u hu
        rw [List.take_add_one, ht] at hu
        rcases List.mem_append.1 hu with h9 | h9
        ·exact h3 u h9
        ·simp at h9; subst h9; exact beq_eq_false_iff_ne.1 hq154
       have hb9 := spaced_pre hL h39
       rw [spaced_snoc ht] at hb9
       simp only [List.length_append, List.length_cons, List.length_nil] at hb9
       refine wp_region_lit ?_
       refine ep (v := .string (ofL (spaced (ts.take k)))) E (run_move rfl (E.get 24 rfl)) fun a E => ?_
       refine ep (v := .slice (pt) ts.length ct) E (run_move rfl (E.get 20 rfl)) fun a E => ?_
       refine ep (v := .int .i64 (k : Int)) E (run_move rfl (E.get 28 rfl)) fun a E => ?_
       refine ep (v := .pointer (some ⟨g153, (off153 + k * 3), none⟩)) E (run_index34 (i := k) rfl ((E.get 1 rfl).trans (by rw [hpe153])) (E.get 0 rfl) hlt) fun a E => ?_
       refine ep (v := .pointer (some ⟨g153, ((off153 + k * 3) + 1), none⟩)) E (fa38_1 rfl (E.get 0 rfl)) fun a E => ?_
       refine ep (v := .string (ofL t.2.1)) E (run_lds rfl (E.get 0 rfl) (hrow153 1 _ rfl)) fun a E => ?_
       refine ep (v := .string (ofL (t.2.1 ++ [10]))) E (run_sadd (E.get 0 rfl) rfl rfl (by simp only [List.length_append, List.length_cons, List.length_nil] at *; omega)) fun a E => ?_
       refine ep (v := .string (ofL ((spaced (ts.take k)) ++ (t.2.1 ++ [10])))) E (run_sadd (E.get 6 rfl) (E.get 0 rfl) rfl (by simp only [List.length_append, List.length_cons, List.length_nil] at *; omega)) fun a E => ?_
       refine env_set (d := 10) (v := .string (ofL ((spaced (ts.take k)) ++ (t.2.1 ++ [10])))) E rfl (by decide) (wanted_none rfl _) (run_assign rfl (E.get 0 rfl)) fun a E => ?_
       refine wpList_nil ?_
       refine blk_n ?_
       refine then_n ?_
       refine wp_region_lit ?_
       refine ep (v := .int .i64 (k : Int)) E (run_move rfl (E.get 34 rfl)) fun a E => ?_
       refine ep (v := .int .i64 ((k : Int) + 1)) E (run_iadd Tryz.underlying3 (E.get 0 rfl) rfl (by omega) (by omega) rfl) fun a E => ?_
       refine env_set (d := 12) (v := .int .i64 ((k : Int) + 1)) E rfl (by decide) (wanted_none rfl _) (run_assign rfl (E.get 0 rfl)) fun a E => ?_
       refine wpList_nil ?_
       refine then_n ?_
       have eT : ts.take (k + 1) = ts.take k ++ [t] := by rw [List.take_add_one, ht]; rfl
       have e10 := spaced_snoc ht
       have e11 : plc a9 (ts.take (k + 1)) 0 (-1) = (plc a9 (ts.take k) 0 (-1)) := by
        rw [eT, plc_snoc, hq155]
        simp
       refine ⟨⟨k + 1, E.of ⟨E.get 29 rfl, E.get 30 rfl, E.get 31 rfl, E.get 32 rfl, E.get 33 rfl, E.get 34 rfl, E.get 35 rfl, (E.get 3 rfl).trans (by rw [e10]), (E.get 36 rfl).trans (by rw [e11]), E.get 0 rfl, trivial⟩, hlt, htk, hT, hf, h39⟩, ?_⟩
       rw [E.get 0 rfl]; simp only [intOf]; omega
      | true =>
       rw [hq155] at E
       refine wp_cond_true (E.get 0 rfl) ?_
       refine wp_region_lit ?_
       refine ep (v := .string (ofL (spaced (ts.take k)))) E (run_move rfl (E.get 24 rfl)) fun a E => ?_
       refine ep (v := .int .i64 ((spaced (ts.take k)).length : Int)) E (run_slen rfl (E.get 0 rfl)) fun a E => ?_
       refine env_set (d := 11) (v := .int .i64 ((spaced (ts.take k)).length : Int)) E rfl (by decide) (wanted_none rfl _) (run_assign rfl (E.get 0 rfl)) fun a E => ?_
       refine wpList_nil ?_
       refine then_n ?_
       have h39 : ∀ u ∈ ts.take (k + 1), u.1 ≠ 3 := by
        intro u hu
        rw [List.take_add_one, ht] at hu
        rcases List.mem_append.1 hu with h9 | h9
        ·exact h3 u h9
        ·simp at h9; subst h9; exact beq_eq_false_iff_ne.1 hq154
       have hb9 := spaced_pre hL h39
       rw [spaced_snoc ht] at hb9
       simp only [List.length_append, List.length_cons, List.length_nil] at hb9
       refine wp_region_lit ?_
       refine ep (v := .string (ofL (spaced (ts.take k)))) E (run_move rfl (E.get 27 rfl)) fun a E => ?_
       refine ep (v := .slice (pt) ts.length ct) E (run_move rfl (E.get 23 rfl)) fun a E => ?_
       refine ep (v := .int .i64 (k : Int)) E (run_move rfl (E.get 30 rfl)) fun a E => ?_
       refine ep (v := .pointer (some ⟨g153, (off153 + k * 3), none⟩)) E (run_index34 (i := k) rfl ((E.get 1 rfl).trans (by rw [hpe153])) (E.get 0 rfl) hlt) fun a E => ?_
       refine ep (v := .pointer (some ⟨g153, ((off153 + k * 3) + 1), none⟩)) E (fa38_1 rfl (E.get 0 rfl)) fun a E => ?_
       refine ep (v := .string (ofL t.2.1)) E (run_lds rfl (E.get 0 rfl) (hrow153 1 _ rfl)) fun a E => ?_
       refine ep (v := .string (ofL (t.2.1 ++ [10]))) E (run_sadd (E.get 0 rfl) rfl rfl (by simp only [List.length_append, List.length_cons, List.length_nil] at *; omega)) fun a E => ?_
       refine ep (v := .string (ofL ((spaced (ts.take k)) ++ (t.2.1 ++ [10])))) E (run_sadd (E.get 6 rfl) (E.get 0 rfl) rfl (by simp only [List.length_append, List.length_cons, List.length_nil] at *; omega)) fun a E => ?_
       refine env_set (d := 10) (v := .string (ofL ((spaced (ts.take k)) ++ (t.2.1 ++ [10])))) E rfl (by decide) (wanted_none rfl _) (run_assign rfl (E.get 0 rfl)) fun a E => ?_
       refine wpList_nil ?_
       refine blk_n ?_
       refine then_n ?_
       refine wp_region_lit ?_
       refine ep (v := .int .i64 (k : Int)) E (run_move rfl (E.get 36 rfl)) fun a E => ?_
       refine ep (v := .int .i64 ((k : Int) + 1)) E (run_iadd Tryz.underlying3 (E.get 0 rfl) rfl (by omega) (by omega) rfl) fun a E => ?_
       refine env_set (d := 12) (v := .int .i64 ((k : Int) + 1)) E rfl (by decide) (wanted_none rfl _) (run_assign rfl (E.get 0 rfl)) fun a E => ?_
       refine wpList_nil ?_
       refine then_n ?_
       have eT : ts.take (k + 1) = ts.take k ++ [t] := by rw [List.take_add_one, ht]; rfl
       have e10 := spaced_snoc ht
       have e11 : plc a9 (ts.take (k + 1)) 0 (-1) = ((spaced (ts.take k)).length : Int) := by
        rw [eT, plc_snoc, hq155]
        simp
       refine ⟨⟨k + 1, E.of ⟨E.get 32 rfl, E.get 33 rfl, E.get 34 rfl, E.get 35 rfl, E.get 36 rfl, E.get 37 rfl, E.get 38 rfl, (E.get 3 rfl).trans (by rw [e10]), (E.get 12 rfl).trans (by rw [e11]), E.get 0 rfl, trivial⟩, hlt, htk, hT, hf, h39⟩, ?_⟩
       rw [E.get 0 rfl]; simp only [intOf]; omega
     | true =>
      rw [hq154] at E
      refine wp_cond_true (E.get 0 rfl) ?_
      refine wp_seq ?_
      refine wp_region_lit ?_
      refine ep (v := .bool true) E (run_move rfl (E.get 11 rfl)) fun a E => ?_
      refine ep (v := .bool true) E (run_assign rfl (E.get 0 rfl)) fun a E => ?_
      refine wpList_nil ?_
      refine then_n ?_
      refine wp_ret ?_
      refine then_r ?_
      refine blk_r ?_
      refine then_r ?_
      refine then_r ?_
      refine blk_r ?_
      refine then_r ?_
      exact ret_tmp (t := 2) rfl E (E.get 0 rfl) ⟨rfl, hf⟩
   ·refine wp_region_lit ?_
    refine ep (v := .string (ofL s)) E (run_move rfl (E.get 6 rfl)) fun a E => ?_
    refine env_callv (d := 23) (R := fun u w8 => (∃ v, u = .tuple #[v, .int .i64 0, .int .i64 0] ∧ TkV w8 v ts) ∧ Fr (fun _ => False) w1 w8) E rfl (by decide) rfl (wanted_none rfl _) (run_call1 (enters_of Tryz.func20 (by kernel_rfl) rfl) rfl rfl (E.get 0 rfl)) (lex_ok hL (by omega) _) fun a w1 u ⟨⟨tv, hu, htv⟩, f1⟩ E => ?_
    subst hu
    obtain ⟨pt, ct, rfl, hct1, hct2, htk, hzt⟩ := htv
    have hT := Tb.fr hT f1 (fun r hr => id)
    have hf := hf.trans' f1 (fun _ _ h => h.elim)
    clear f1
    obtain ⟨G0, hG0⟩ : ∃ G0, G0 = w1.heap.size := ⟨_, rfl⟩
    rw [← hG0] at htk
    clear hG0
    refine ep (v := .tuple #[.slice (pt) ts.length ct, .int .i64 0, .int .i64 0]) E (run_move rfl (E.get 0 rfl)) fun a E => ?_
    refine ep (v := .slice (pt) ts.length ct) E (run_ex0of3 rfl (E.get 0 rfl)) fun a E => ?_
    refine ep (v := .int .i64 0) E (run_ex1of3 rfl (E.get 1 rfl)) fun a E => ?_
    refine ep (v := .int .i64 0) E (run_ex2of3 rfl (E.get 2 rfl)) fun a E => ?_
    refine ep (v := .slice (pt) ts.length ct) E (run_assign rfl (E.get 2 rfl)) fun a E => ?_
    refine ep (v := .int .i64 0) E (run_assign rfl (E.get 2 rfl)) fun a E => ?_
    refine ep (v := .int .i64 0) E (run_assign rfl (E.get 2 rfl)) fun a E => ?_
    refine wpList_nil ?_
    refine then_n ?_
    refine wp_seq ?_
    refine wp_region_lit ?_
    refine ep (v := .string (ofL s)) E (run_move rfl (E.get 15 rfl)) fun a E => ?_
    refine env_callv (d := 29) (R := fun u w8 => (∃ v, u = .tuple #[v, .int .i64 0, .int .i64 0] ∧ SpV w8 v (g9)) ∧ Fr (fun _ => False) w1 w8) E rfl (by decide) rfl (wanted_none rfl _) (run_call1 (enters_of Tryz.func13 (by kernel_rfl) rfl) rfl rfl (E.get 0 rfl)) (parse_ok (hP) (by omega) hT) fun a w1 u ⟨⟨u1, hu, hu1⟩, f1⟩ E => ?_
    subst hu
    have hT := Tb.fr hT f1 (fun r hr => id)
    have htk := srcAt.fr htk f1 (fun r hr => id)
    have hf := hf.trans' f1 (fun _ _ h => h.elim)
    clear f1
    refine ep (v := .tuple #[u1, .int .i64 0, .int .i64 0]) E (run_move rfl (E.get 0 rfl)) fun a E => ?_
    refine ep (v := u1) E (run_ex0of3 rfl (E.get 0 rfl)) fun a E => ?_
    refine ep (v := .int .i64 0) E (run_ex1of3 rfl (E.get 1 rfl)) fun a E => ?_
    refine ep (v := .int .i64 0) E (run_ex2of3 rfl (E.get 2 rfl)) fun a E => ?_
    refine ep (v := u1) E (run_assign rfl (E.get 2 rfl)) fun a E => ?_
    refine ep (v := .int .i64 0) E (run_assign rfl (E.get 2 rfl)) fun a E => ?_
    refine ep (v := .int .i64 0) E (run_assign rfl (E.get 2 rfl)) fun a E => ?_
    refine wpList_nil ?_
    refine then_n ?_
    refine wp_seq ?_
    refine wp_seq ?_
    refine wp_region_lit ?_
    refine ep (v := .int .i64 0) E (run_move rfl (E.get 10 rfl)) fun a E => ?_
    refine ep (v := .bool false) E (run_ineq (m := 0) (n := 0) (E.get 0 rfl) rfl Tryz.underlying25 rfl) fun a E => ?_
    refine wpList_nil ?_
    refine then_n ?_
    refine wp_cond_false (E.get 0 rfl) ?_
    refine wp_skip ?_
    refine then_n ?_
    refine wp_seq ?_
    refine wp_region_lit ?_
    refine ep (v := .string (ofL [])) E (run_assign rfl rfl) fun a E => ?_
    refine wpList_nil ?_
    refine then_n ?_
    refine wp_seq ?_
    refine wp_region_lit ?_
    refine ep (v := .int .i64 (-1)) E (run_assign rfl rfl) fun a E => ?_
    refine wpList_nil ?_
    refine then_n ?_
    refine wp_seq ?_
    refine wp_seq ?_
    refine wp_region_lit ?_
    refine ep (v := .int .i64 0) E (run_assign rfl rfl) fun a E => ?_
    refine wpList_nil ?_
    refine then_n ?_
    refine wp_block ?_
    refine wp_loop (fun a w2 => ∃ (k : Nat), Env 118 [(0, .string (ofL s)), (3, .bool true), (4, .slice (pt) ts.length ct), (5, .int .i64 0), (7, u1), (8, .int .i64 0), (9, .int .i64 0), (10, .string (ofL (spaced (ts.take k)))), (11, .int .i64 (plc 0 (ts.take k) 0 (-1))), (12, .int .i64 (k : Int))] a ∧ k ≤ ts.length ∧ srcAt tkL 3 w2 G0 pt ts ∧ Tb w2 ∧ Fr (fun _ => False) w w2 ∧ (∀ t ∈ ts.take k, t.1 ≠ 3) ∧ SpV w2 u1 (g9)) (fun a _ => ts.length - (intOf (a.eval (.tmp 12))).toNat) ?_ ?_
    ·exact ⟨0, E.of ⟨E.get 29 rfl, E.get 26 rfl, E.get 16 rfl, E.get 15 rfl, E.get 7 rfl, E.get 6 rfl, E.get 5 rfl, E.get 2 rfl, E.get 1 rfl, E.get 0 rfl, trivial⟩, Nat.zero_le _, htk, hT, hf, (fun t ht => by simp at ht), hu1⟩
    clear E
    rintro a w2 ⟨k, E, hk, htk, hT, hf, h3, hu1⟩
    have hmu : ts.length - (intOf (a.eval (.tmp 12))).toNat = ts.length - k := by rw [E.get 9 rfl]; first | rfl | (simp [intOf]; done) | (simp only [intOf]; omega)
    rw [hmu]
    clear hmu
    refine wp_seq ?_
    refine wp_seq ?_
    refine wp_region_lit ?_
    refine ep (v := .int .i64 (k : Int)) E (run_move rfl (E.get 9 rfl)) fun a E => ?_
    refine ep (v := .slice (pt) ts.length ct) E (run_move rfl (E.get 3 rfl)) fun a E => ?_
    refine ep (v := .int .i64 (ts.length : Int)) E (run_len34 rfl (E.get 0 rfl)) fun a E => ?_
    refine ep (v := .bool (decide ((k : Int) < (ts.length : Int)))) E (run_ilss (E.get 2 rfl) (E.get 0 rfl) Tryz.underlying3 rfl) fun a E => ?_
    refine wpList_nil ?_
    refine then_n ?_
    cases hq157 : (decide ((k : Int) < (ts.length : Int))) with
    | false =>
     rw [hq157] at E
     have hie : k = ts.length := by have := of_decide_eq_false hq157; omega
     subst hie
     rw [List.take_length] at E h3
     obtain ⟨hsl2, hgl⟩ := gaps_law hL h3
     have hP2 : parseP (spaced ts) = .ok g9 := by
      rcases hgl with ⟨z, z1, z2⟩ | ⟨c, x, y, z1, _⟩
      ·rw [hP] at z1; cases z1; exact z2
      ·rw [hP] at z1; cases z1
     refine wp_cond_false (E.get 0 rfl) ?_
     refine wp_exit ?_
     refine then_e ?_
     refine then_e ?_
     refine blk_e ?_
     refine then_n ?_
     refine wp_seq ?_
     refine wp_region_lit ?_
     refine ep (v := .string (ofL (spaced ts))) E (run_move rfl (E.get 11 rfl)) fun a E => ?_
     refine env_callv (d := 73) (R := fun u w8 => (∃ v, u = .tuple #[v, .int .i64 0, .int .i64 0] ∧ SpV w8 v (g9)) ∧ Fr (fun _ => False) w2 w8) E rfl (by decide) rfl (wanted_none rfl _) (run_call1 (enters_of Tryz.func13 (by kernel_rfl) rfl) rfl rfl (E.get 0 rfl)) (parse_ok (hP2) (by omega) hT) fun a w1 u ⟨⟨u2, hu, hu2⟩, f1⟩ E => ?_
     subst hu
     have hT := Tb.fr hT f1 (fun r hr => id)
     have htk := srcAt.fr htk f1 (fun r hr => id)
     have hu1 := Src.fr hu1 f1
     have hf := hf.trans' f1 (fun _ _ h => h.elim)
     clear f1
     refine ep (v := .tuple #[u2, .int .i64 0, .int .i64 0]) E (run_move rfl (E.get 0 rfl)) fun a E => ?_
     refine ep (v := u2) E (run_ex0of3 rfl (E.get 0 rfl)) fun a E => ?_
     refine ep (v := .int .i64 0) E (run_ex1of3 rfl (E.get 1 rfl)) fun a E => ?_
     refine ep (v := .int .i64 0) E (run_ex2of3 rfl (E.get 2 rfl)) fun a E => ?_
     refine ep (v := u2) E (run_assign rfl (E.get 2 rfl)) fun a E => ?_
     refine ep (v := .int .i64 0) E (run_assign rfl (E.get 2 rfl)) fun a E => ?_
     refine ep (v := .int .i64 0) E (run_assign rfl (E.get 2 rfl)) fun a E => ?_
     refine wpList_nil ?_
     refine then_n ?_
     refine wp_seq ?_
     refine wp_seq ?_
     refine wp_region_lit ?_
     refine ep (v := .int .i64 0) E (run_move rfl (E.get 18 rfl)) fun a E => ?_
     refine ep (v := .int .i64 0) E (run_move rfl (E.get 2 rfl)) fun a E => ?_
     refine ep (v := .bool false) E (run_ineq (m := 0) (n := 0) (E.get 1 rfl) (E.get 0 rfl) Tryz.underlying25 rfl) fun a E => ?_
     refine ep (v := .bool false) E (run_move rfl (E.get 0 rfl)) fun a E => ?_
     refine eg (v := u1) E (w_yes (g := 3) (s := 80) E rfl rfl (by decide) (E.get 0 rfl)) (run_move rfl (E.get 21 rfl)) fun a E => ?_
     refine eg (v := u2) E (w_yes (g := 3) (s := 80) E rfl rfl (by decide) (E.get 1 rfl)) (run_move rfl (E.get 7 rfl)) fun a E => ?_
     refine env_call (d := 83) (v := .bool true) E rfl (by decide) rfl (w_yes (g := 3) (s := 80) E rfl rfl (by decide) (E.get 2 rfl)) (run_call2 (enters_of Tryz.func17 (by kernel_rfl) rfl) rfl rfl (E.get 1 rfl) (E.get 0 rfl)) (by have h := same_calls hu1 hu2; rw [show ((g9 : List Sp) == (g9 : List Sp)) = true from beq_of rfl] at h; exact h) fun a w1 f1 E => ?_
     have hT := Tb.fr hT f1 (fun r hr => id)
     have htk := srcAt.fr htk f1 (fun r hr => id)
     have hu1 := Src.fr hu1 f1
     have hu2 := Src.fr hu2 f1
     have hf := hf.trans' f1 (fun _ _ h => h.elim)
     clear f1
     refine eg (v := .bool false) E (w_yes (g := 3) (s := 80) E rfl rfl (by decide) (E.get 3 rfl)) (run_not rfl (E.get 0 rfl)) fun a E => ?_
     refine ep (v := .bool false) E (run_pick_f rfl (E.get 4 rfl) (E.get 0 rfl)) fun a E => ?_
     refine wpList_nil ?_
     refine then_n ?_
     refine wp_cond_false (E.get 0 rfl) ?_
     refine wp_skip ?_
     refine then_n ?_
     refine wp_seq ?_
     refine wp_seq ?_
     refine wp_region_lit ?_
     refine ep (v := .int .i64 0) E (run_move rfl (E.get 27 rfl)) fun a E => ?_
     refine ep (v := .bool true) E (run_ieql (m := 0) (n := 0) (E.get 0 rfl) rfl Tryz.underlying25 rfl) fun a E => ?_
     refine wpList_nil ?_
     refine then_n ?_
     refine wp_cond_true (E.get 0 rfl) ?_
     refine wp_seq ?_
     refine wp_region_lit ?_
     refine ep (v := .bool true) E (run_move rfl (E.get 25 rfl)) fun a E => ?_
     refine ep (v := .bool true) E (run_move rfl (E.get 0 rfl)) fun a E => ?_
     refine eg (v := .int .i64 0) E (w_yes (g := 1) (s := 89) E rfl rfl (by decide) (E.get 0 rfl)) (run_move rfl (E.get 32 rfl)) fun a E => ?_
     refine eg (v := .bool true) E (w_yes (g := 1) (s := 89) E rfl rfl (by decide) (E.get 1 rfl)) (run_ieql (m := 0) (n := 0) (E.get 0 rfl) rfl Tryz.underlying3 rfl) fun a E => ?_
     refine ep (v := .bool true) E (run_pick_t rfl (E.get 2 rfl) (E.get 0 rfl)) fun a E => ?_
     refine ep (v := .bool true) E (run_move rfl (E.get 0 rfl)) fun a E => ?_
     refine eg (v := .int .i64 0) E (w_yes (g := 5) (s := 93) E rfl rfl (by decide) (E.get 0 rfl)) (run_move rfl (E.get 17 rfl)) fun a E => ?_
     refine eg (v := .bool true) E (w_yes (g := 5) (s := 93) E rfl rfl (by decide) (E.get 1 rfl)) (run_ieql (m := 0) (n := 0) (E.get 0 rfl) rfl Tryz.underlying3 rfl) fun a E => ?_
     refine ep (v := .bool true) E (run_pick_t rfl (E.get 2 rfl) (E.get 0 rfl)) fun a E => ?_
     refine ep (v := .bool true) E (run_assign rfl (E.get 0 rfl)) fun a E => ?_
     refine wpList_nil ?_
     refine then_n ?_
     refine wp_ret ?_
     refine then_r ?_
     exact ret_tmp (t := 2) rfl E (E.get 0 rfl) ⟨rfl, hf⟩
    | true =>
     rw [hq157] at E
     have hlt : k < ts.length := by have := of_decide_eq_true hq157; omega
     obtain ⟨t, ht⟩ : ∃ y, ts[k]? = some y := ⟨_, List.getElem?_eq_getElem hlt⟩
     obtain ⟨g158, off158, hpe158, hgl158, hrow158⟩ := htk.at hlt
     replace hrow158 := hrow158 k t ht
     refine wp_cond_true (E.get 0 rfl) ?_
     refine wp_skip ?_
     refine then_n ?_
     refine wp_seq ?_
     refine wp_block ?_
     refine wp_seq ?_
     refine wp_seq ?_
     refine wp_region_lit ?_
     refine ep (v := .slice (pt) ts.length ct) E (run_move rfl (E.get 6 rfl)) fun a E => ?_
     refine ep (v := .int .i64 (k : Int)) E (run_move rfl (E.get 14 rfl)) fun a E => ?_
     refine ep (v := .pointer (some ⟨g158, (off158 + k * 3), none⟩)) E (run_index34 (i := k) rfl ((E.get 1 rfl).trans (by rw [hpe158])) (E.get 0 rfl) hlt) fun a E => ?_
     refine ep (v := .pointer (some ⟨g158, ((off158 + k * 3) + 0), none⟩)) E (fa38_0 rfl (E.get 0 rfl)) fun a E => ?_
     refine ep (v := .int .i64 t.1) E (run_ldi rfl (E.get 0 rfl) (hrow158 0 _ rfl)) fun a E => ?_
     refine ep (v := .bool (t.1 == 3)) E (run_ieql (E.get 0 rfl) rfl Tryz.underlying3 rfl) fun a E => ?_
     refine wpList_nil ?_
     refine then_n ?_
     cases hq159 : (t.1 == 3) with
     | false =>
      rw [hq159] at E
      refine wp_cond_false (E.get 0 rfl) ?_
      refine wp_skip ?_
      refine then_n ?_
      refine wp_seq ?_
      refine wp_seq ?_
      refine wp_region_lit ?_
      refine ep (v := .slice (pt) ts.length ct) E (run_move rfl (E.get 12 rfl)) fun a E => ?_
      refine ep (v := .int .i64 (k : Int)) E (run_move rfl (E.get 20 rfl)) fun a E => ?_
      refine ep (v := .pointer (some ⟨g158, (off158 + k * 3), none⟩)) E (run_index34 (i := k) rfl ((E.get 1 rfl).trans (by rw [hpe158])) (E.get 0 rfl) hlt) fun a E => ?_
      refine ep (v := .pointer (some ⟨g158, ((off158 + k * 3) + 2), none⟩)) E (fa38_2 rfl (E.get 0 rfl)) fun a E => ?_
      refine ep (v := .int .i64 t.2.2) E (run_ldi rfl (E.get 0 rfl) (hrow158 2 _ rfl)) fun a E => ?_
      refine ep (v := .int .i64 0) E (run_move rfl (E.get 21 rfl)) fun a E => ?_
      refine ep (v := .bool (t.2.2 == 0)) E (run_ieql (E.get 1 rfl) (E.get 0 rfl) Tryz.underlying3 rfl) fun a E => ?_
      refine wpList_nil ?_
      refine then_n ?_
      cases hq160 : (t.2.2 == 0) with
      | false =>
       rw [hq160] at E
       refine wp_cond_false (E.get 0 rfl) ?_
       refine wp_skip ?_
       refine then_n ?_
       have h39 : ∀ u ∈ ts.take (k + 1), u.1 ≠ 3 := by
        intro u hu
        rw [List.take_add_one, ht] at hu
        rcases List.mem_append.1 hu with h9 | h9
        ·exact h3 u h9
        ·simp at h9; subst h9; exact beq_eq_false_iff_ne.1 hq159
       have hb9 := spaced_pre hL h39
       rw [spaced_snoc ht] at hb9
       simp only [List.length_append, List.length_cons, List.length_nil] at hb9
       refine wp_region_lit ?_
       refine ep (v := .string (ofL (spaced (ts.take k)))) E (run_move rfl (E.get 24 rfl)) fun a E => ?_
       refine ep (v := .slice (pt) ts.length ct) E (run_move rfl (E.get 20 rfl)) fun a E => ?_
       refine ep (v := .int .i64 (k : Int)) E (run_move rfl (E.get 28 rfl)) fun a E => ?_
       refine ep (v := .pointer (some ⟨g158, (off158 + k * 3), none⟩)) E (run_index34 (i := k) rfl ((E.get 1 rfl).trans (by rw [hpe158])) (E.get 0 rfl) hlt) fun a E => ?_
       refine ep (v := .pointer (some ⟨g158, ((off158 + k * 3) + 1), none⟩)) E (fa38_1 rfl (E.get 0 rfl)) fun a E => ?_
       refine ep (v := .string (ofL t.2.1)) E (run_lds rfl (E.get 0 rfl) (hrow158 1 _ rfl)) fun a E => ?_
       refine ep (v := .string (ofL (t.2.1 ++ [10]))) E (run_sadd (E.get 0 rfl) rfl rfl (by simp only [List.length_append, List.length_cons, List.length_nil] at *; omega)) fun a E => ?_
       refine ep (v := .string (ofL ((spaced (ts.take k)) ++ (t.2.1 ++ [10])))) E (run_sadd (E.get 6 rfl) (E.get 0 rfl) rfl (by simp only [List.length_append, List.length_cons, List.length_nil] at *; omega)) fun a E => ?_
       refine env_set (d := 10) (v := .string (ofL ((spaced (ts.take k)) ++ (t.2.1 ++ [10])))) E rfl (by decide) (wanted_none rfl _) (run_assign rfl (E.get 0 rfl)) fun a E => ?_
       refine wpList_nil ?_
       refine blk_n ?_
       refine then_n ?_
       refine wp_region_lit ?_
       refine ep (v := .int .i64 (k : Int)) E (run_move rfl (E.get 34 rfl)) fun a E => ?_
       refine ep (v := .int .i64 ((k : Int) + 1)) E (run_iadd Tryz.underlying3 (E.get 0 rfl) rfl (by omega) (by omega) rfl) fun a E => ?_
       refine env_set (d := 12) (v := .int .i64 ((k : Int) + 1)) E rfl (by decide) (wanted_none rfl _) (run_assign rfl (E.get 0 rfl)) fun a E => ?_
       refine wpList_nil ?_
       refine then_n ?_
       have eT : ts.take (k + 1) = ts.take k ++ [t] := by rw [List.take_add_one, ht]; rfl
       have e10 := spaced_snoc ht
       have e11 : plc 0 (ts.take (k + 1)) 0 (-1) = (plc 0 (ts.take k) 0 (-1)) := by
        rw [eT, plc_snoc, hq160]
        simp
       refine ⟨⟨k + 1, E.of ⟨E.get 29 rfl, E.get 30 rfl, E.get 31 rfl, E.get 32 rfl, E.get 33 rfl, E.get 34 rfl, E.get 35 rfl, (E.get 3 rfl).trans (by rw [e10]), (E.get 36 rfl).trans (by rw [e11]), E.get 0 rfl, trivial⟩, hlt, htk, hT, hf, h39, hu1⟩, ?_⟩
       rw [E.get 0 rfl]; simp only [intOf]; omega
      | true =>
       rw [hq160] at E
       refine wp_cond_true (E.get 0 rfl) ?_
       refine wp_region_lit ?_
       refine ep (v := .string (ofL (spaced (ts.take k)))) E (run_move rfl (E.get 24 rfl)) fun a E => ?_
       refine ep (v := .int .i64 ((spaced (ts.take k)).length : Int)) E (run_slen rfl (E.get 0 rfl)) fun a E => ?_
       refine env_set (d := 11) (v := .int .i64 ((spaced (ts.take k)).length : Int)) E rfl (by decide) (wanted_none rfl _) (run_assign rfl (E.get 0 rfl)) fun a E => ?_
       refine wpList_nil ?_
       refine then_n ?_
       have h39 : ∀ u ∈ ts.take (k + 1), u.1 ≠ 3 := by
        intro u hu
        rw [List.take_add_one, ht] at hu
        rcases List.mem_append.1 hu with h9 | h9
        ·exact h3 u h9
        ·simp at h9; subst h9; exact beq_eq_false_iff_ne.1 hq159
       have hb9 := spaced_pre hL h39
       rw [spaced_snoc ht] at hb9
       simp only [List.length_append, List.length_cons, List.length_nil] at hb9
       refine wp_region_lit ?_
       refine ep (v := .string (ofL (spaced (ts.take k)))) E (run_move rfl (E.get 27 rfl)) fun a E => ?_
       refine ep (v := .slice (pt) ts.length ct) E (run_move rfl (E.get 23 rfl)) fun a E => ?_
       refine ep (v := .int .i64 (k : Int)) E (run_move rfl (E.get 30 rfl)) fun a E => ?_
       refine ep (v := .pointer (some ⟨g158, (off158 + k * 3), none⟩)) E (run_index34 (i := k) rfl ((E.get 1 rfl).trans (by rw [hpe158])) (E.get 0 rfl) hlt) fun a E => ?_
       refine ep (v := .pointer (some ⟨g158, ((off158 + k * 3) + 1), none⟩)) E (fa38_1 rfl (E.get 0 rfl)) fun a E => ?_
       refine ep (v := .string (ofL t.2.1)) E (run_lds rfl (E.get 0 rfl) (hrow158 1 _ rfl)) fun a E => ?_
       refine ep (v := .string (ofL (t.2.1 ++ [10]))) E (run_sadd (E.get 0 rfl) rfl rfl (by simp only [List.length_append, List.length_cons, List.length_nil] at *; omega)) fun a E => ?_
       refine ep (v := .string (ofL ((spaced (ts.take k)) ++ (t.2.1 ++ [10])))) E (run_sadd (E.get 6 rfl) (E.get 0 rfl) rfl (by simp only [List.length_append, List.length_cons, List.length_nil] at *; omega)) fun a E => ?_
       refine env_set (d := 10) (v := .string (ofL ((spaced (ts.take k)) ++ (t.2.1 ++ [10])))) E rfl (by decide) (wanted_none rfl _) (run_assign rfl (E.get 0 rfl)) fun a E => ?_
       refine wpList_nil ?_
       refine blk_n ?_
       refine then_n ?_
       refine wp_region_lit ?_
       refine ep (v := .int .i64 (k : Int)) E (run_move rfl (E.get 36 rfl)) fun a E => ?_
       refine ep (v := .int .i64 ((k : Int) + 1)) E (run_iadd Tryz.underlying3 (E.get 0 rfl) rfl (by omega) (by omega) rfl) fun a E => ?_
       refine env_set (d := 12) (v := .int .i64 ((k : Int) + 1)) E rfl (by decide) (wanted_none rfl _) (run_assign rfl (E.get 0 rfl)) fun a E => ?_
       refine wpList_nil ?_
       refine then_n ?_
       have eT : ts.take (k + 1) = ts.take k ++ [t] := by rw [List.take_add_one, ht]; rfl
       have e10 := spaced_snoc ht
       have e11 : plc 0 (ts.take (k + 1)) 0 (-1) = ((spaced (ts.take k)).length : Int) := by
        rw [eT, plc_snoc, hq160]
        simp
       refine ⟨⟨k + 1, E.of ⟨E.get 32 rfl, E.get 33 rfl, E.get 34 rfl, E.get 35 rfl, E.get 36 rfl, E.get 37 rfl, E.get 38 rfl, (E.get 3 rfl).trans (by rw [e10]), (E.get 12 rfl).trans (by rw [e11]), E.get 0 rfl, trivial⟩, hlt, htk, hT, hf, h39, hu1⟩, ?_⟩
       rw [E.get 0 rfl]; simp only [intOf]; omega
     | true =>
      rw [hq159] at E
      refine wp_cond_true (E.get 0 rfl) ?_
      refine wp_seq ?_
      refine wp_region_lit ?_
      refine ep (v := .bool true) E (run_move rfl (E.get 11 rfl)) fun a E => ?_
      refine ep (v := .bool true) E (run_assign rfl (E.get 0 rfl)) fun a E => ?_
      refine wpList_nil ?_
      refine then_n ?_
      refine wp_ret ?_
      refine then_r ?_
      refine blk_r ?_
      refine then_r ?_
      refine then_r ?_
      refine blk_r ?_
      refine then_r ?_
      exact ret_tmp (t := 2) rfl E (E.get 0 rfl) ⟨rfl, hf⟩
 | true =>
  rw [hq146] at E
  refine wp_cond_true (E.get 0 rfl) ?_
  refine wp_seq ?_
  refine wp_region_lit ?_
  refine ep (v := .bool true) E (run_move rfl (E.get 3 rfl)) fun a E => ?_
  refine env_set (d := 2) (v := .bool true) E rfl (by decide) (wanted_none rfl _) (run_assign rfl (E.get 0 rfl)) fun a E => ?_
  refine wpList_nil ?_
  refine then_n ?_
  refine wp_ret ?_
  refine then_r ?_
  exact ret_tmp (t := 2) rfl E (E.get 0 rfl) ⟨rfl, hf⟩
end Go.Proofs.YtjaffpnegdcjnaaGreatDoor
