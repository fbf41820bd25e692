/- The reference lineage: Follow. -/
import Derived.Test.YtcolfgnjmnapkaaRs
set_option linter.unusedVariables false
set_option linter.unusedSimpArgs false
namespace Go.Proofs.Ytcolfgnjmnapkaa
open Go.RowKit Go.Pl

theorem stp_pos {a b : ByteArray} {R : RefS} {x : ByteArray} (h : pairB R x a = true) : stp a b R x = addR R x b := by unfold stp; rw [if_pos h]
theorem stp_neg {a b : ByteArray} {R : RefS} {x : ByteArray} (h : pairB R x a = false) : stp a b R x = R := by unfold stp; rw [if_neg (by rw [h]; simp)]
theorem addpost {w w5 w9 : World} {r : Nat} {σ : Nat → Prop} {R' : RefS} {mv : Value} (hf : Fr (fun _ => False) w w5) (h : ∃ σ', (∃ pv', RefAt w9 r σ' R' pv' mv) ∧ Fr σ w5 w9 ∧ ∀ k, k < w5.heap.size → σ' k → σ k) : ∃ σ', (∃ pv', RefAt w9 r σ' R' pv' mv) ∧ Fr σ w w9 ∧ ∀ k, k < w.heap.size → σ' k → σ k := by
  obtain ⟨σ', h1, h2, h3⟩ := h
  exact ⟨σ', h1, (hf.mono fun _ _ h => h.elim).trans h2, fun k hk => h3 k (Nat.lt_of_lt_of_le hk hf.size)⟩
set_option maxRecDepth 100000 in
set_option maxHeartbeats 8000000 in
theorem rfol_lo {w : World} {r : Nat} {σ : Nat → Prop} {R : RefS} {pv mv : Value} (h : RefAt w r σ R pv mv) (hb1 : R.ms.length ≤ 40000) (hb2 : R.ps.length ≤ 40000) (e : Edt) (hop : e.op < 1) : Calls Try.prog 15 #[.pointer (some ⟨r, 0, none⟩), .agg e.cells] w (RPost r σ (if refE R e = 0 then refF R e else R) (.int .i64 (refE R e)) w) := by
  refine wp_start2 Try.func15 rfl rfl (n := 174) (by decide) fun a E => ?_
  have hT : Fr σ w w := Fr.refl _ _
  have hS : ∀ k, k < w.heap.size → σ k → σ k := fun _ _ h => h
  have hk0 : (e.op == 6) = false := by rw [beq_eq_false_iff_ne]; omega
  have hk1 : (e.op == 7) = false := by rw [beq_eq_false_iff_ne]; omega
  have hk2 : (e.op == 1) = false := by rw [beq_eq_false_iff_ne]; omega
  have hk3 : (e.op == 5) = false := by rw [beq_eq_false_iff_ne]; omega
  have hk4 : (e.op != 1) = true := by rw [bne_iff_ne]; omega
  have hk5 : (decide (e.op < 1)) = true := by exact decide_eq_true (by omega)
  have hk6 : (decide (7 < e.op)) = false := by exact decide_eq_false (by omega)
  refine wp_seq ?_
  refine wp_region_lit ?_
  refine env_box38 (d := 3) E rfl (by decide) rfl (wanted_none rfl _) rfl (E.get 1 rfl) fun a w1 b0 e0 hb f1 E => ?_
  have hnb : ¬ σ b0 := fun hh => by have := h.lt b0 hh; omega
  have h := h.fr f1 (fun _ _ h => h)
  have hT := hT.trans' f1 (fun _ _ h => h.elim)
  clear f1 e0
  obtain ⟨pa1, ca1, hva, _⟩ := h.msrc
  subst hva
  refine env_put (d := 4) (v := .int .i64 0) E rfl (by decide) rfl (wanted_none rfl _) (run_assign rfl rfl) fun a E => ?_
  refine wpList_nil ?_
  refine then_n ?_
  refine wp_seq ?_
  refine wp_region_lit ?_
  refine env_put (d := 9) (v := .pointer (some ⟨b0, 0, none⟩)) E rfl (by decide) rfl (wanted_none rfl _) (fa38_0 rfl (E.get 1 rfl)) fun a E => ?_
  refine env_put (d := 10) (v := .int .i64 e.op) E rfl (by decide) rfl (wanted_none rfl _) (run_ldi rfl (E.get 0 rfl) (bx hb 0 rfl)) fun a E => ?_
  refine env_put (d := 11) (v := .bool false) E rfl (by decide) rfl (wanted_none rfl _) ((run_ieql (E.get 0 rfl) rfl Try.underlying3 rfl).trans (by rw [hk0] <;> rfl)) fun a E => ?_
  refine env_put (d := 12) (v := .bool false) E rfl (by decide) rfl (wanted_none rfl _) (run_move rfl (E.get 0 rfl)) fun a E => ?_
  refine env_put (d := 13) (v := .pointer (some ⟨b0, 0, none⟩)) E rfl (by decide) rfl (w_yes (g := 3) (s := 12) E rfl rfl (by decide) (E.get 0 rfl)) (fa38_0 rfl (E.get 5 rfl)) fun a E => ?_
  refine env_put (d := 14) (v := .int .i64 e.op) E rfl (by decide) rfl (w_yes (g := 3) (s := 12) E rfl rfl (by decide) (E.get 1 rfl)) (run_ldi rfl (E.get 0 rfl) (bx hb 0 rfl)) fun a E => ?_
  refine env_put (d := 15) (v := .bool false) E rfl (by decide) rfl (w_yes (g := 3) (s := 12) E rfl rfl (by decide) (E.get 2 rfl)) ((run_ieql (E.get 0 rfl) rfl Try.underlying3 rfl).trans (by rw [hk1] <;> rfl)) fun a E => ?_
  refine env_put (d := 16) (v := .bool false) E rfl (by decide) rfl (wanted_none rfl _) (run_pick_f rfl (E.get 3 rfl) (E.get 0 rfl)) fun a E => ?_
  refine env_put (d := 5) (v := .bool false) E rfl (by decide) rfl (wanted_none rfl _) (run_assign rfl (E.get 0 rfl)) fun a E => ?_
  refine wpList_nil ?_
  refine then_n ?_
  refine wp_seq ?_
  refine wp_seq ?_
  refine wp_region_lit ?_
  refine env_put (d := 17) (v := .pointer (some ⟨r, 0, none⟩)) E rfl (by decide) rfl (wanted_none rfl _) (run_move rfl (E.get 11 rfl)) fun a E => ?_
  refine env_put (d := 18) (v := .bool false) E rfl (by decide) rfl (wanted_none rfl _) (run_pnil rfl (E.get 0 rfl) rfl) fun a E => ?_
  refine env_put (d := 19) (v := .bool false) E rfl (by decide) rfl (wanted_none rfl _) (run_move rfl (E.get 0 rfl)) fun a E => ?_
  refine env_put (d := 20) (v := .pointer (some ⟨b0, 0, none⟩)) E rfl (by decide) rfl (w_yes (g := 2) (s := 19) E rfl rfl (by decide) (E.get 0 rfl)) (fa38_0 rfl (E.get 13 rfl)) fun a E => ?_
  refine env_put (d := 21) (v := .int .i64 e.op) E rfl (by decide) rfl (w_yes (g := 2) (s := 19) E rfl rfl (by decide) (E.get 1 rfl)) (run_ldi rfl (E.get 0 rfl) (bx hb 0 rfl)) fun a E => ?_
  refine env_put (d := 22) (v := .bool true) E rfl (by decide) rfl (w_yes (g := 2) (s := 19) E rfl rfl (by decide) (E.get 2 rfl)) ((run_ilss (E.get 0 rfl) rfl Try.underlying3 rfl).trans (by rw [hk5] <;> rfl)) fun a E => ?_
  refine env_put (d := 23) (v := .bool true) E rfl (by decide) rfl (wanted_none rfl _) (run_pick_f rfl (E.get 3 rfl) (E.get 0 rfl)) fun a E => ?_
  refine env_put (d := 24) (v := .bool true) E rfl (by decide) rfl (wanted_none rfl _) (run_move rfl (E.get 0 rfl)) fun a E => ?_
  refine env_skip (d := 25) (g := 7) (s := 24) E rfl (by decide) rfl rfl rfl (by decide) (E.get 0 rfl) fun a E => ?_
  refine env_skip (d := 26) (g := 7) (s := 24) E rfl (by decide) rfl rfl rfl (by decide) (E.get 1 rfl) fun a E => ?_
  refine env_skip (d := 27) (g := 7) (s := 24) E rfl (by decide) rfl rfl rfl (by decide) (E.get 2 rfl) fun a E => ?_
  refine env_put (d := 28) (v := .bool true) E rfl (by decide) rfl (wanted_none rfl _) (run_pick_t rfl (E.get 3 rfl) rfl) fun a E => ?_
  refine env_put (d := 29) (v := .bool true) E rfl (by decide) rfl (wanted_none rfl _) (run_move rfl (E.get 0 rfl)) fun a E => ?_
  refine env_skip (d := 30) (g := 12) (s := 29) E rfl (by decide) rfl rfl rfl (by decide) (E.get 0 rfl) fun a E => ?_
  refine env_skip (d := 31) (g := 12) (s := 29) E rfl (by decide) rfl rfl rfl (by decide) (E.get 1 rfl) fun a E => ?_
  refine env_skipu (d := 32) (g := 14) (s := 31) E rfl (by decide) rfl rfl rfl (by decide) (E.get 0 rfl) fun a E => ?_
  refine env_skipu (d := 33) (g := 14) (s := 31) E rfl (by decide) rfl rfl rfl (by decide) (E.get 1 rfl) fun a E => ?_
  refine env_skipu (d := 34) (g := 14) (s := 31) E rfl (by decide) rfl rfl rfl (by decide) (E.get 2 rfl) fun a E => ?_
  refine env_skipu (d := 35) (g := 14) (s := 31) E rfl (by decide) rfl rfl rfl (by decide) (E.get 3 rfl) fun a E => ?_
  refine env_skipu (d := 36) (g := 14) (s := 31) E rfl (by decide) rfl rfl rfl (by decide) (E.get 4 rfl) fun a E => ?_
  refine env_skip (d := 37) (g := 12) (s := 29) E rfl (by decide) rfl rfl rfl (by decide) (E.get 7 rfl) fun a E => ?_
  refine env_put (d := 38) (v := .bool true) E rfl (by decide) rfl (wanted_none rfl _) (run_pick_t rfl (E.get 8 rfl) rfl) fun a E => ?_
  refine wpList_nil ?_
  refine then_n ?_
  refine wp_cond_true (E.get 0 rfl) ?_
  refine wp_seq ?_
  refine wp_region_lit ?_
  refine env_set (d := 4) (v := .int .i64 1) E rfl (by decide) (wanted_none rfl _) (run_assign rfl rfl) fun a E => ?_
  refine wpList_nil ?_
  refine then_n ?_
  refine wp_ret ?_
  refine then_r ?_
  have hE : refE R e = 1 := by
    unfold refE followE; rw [if_pos (show e.bad from .inl hop)]
  have hR : (if refE R e = 0 then refF R e else R) = R := if_neg (by rw [hE]; decide)
  refine ret_tmp (t := 4) rfl E (E.get 0 rfl) ⟨by rw [hE], _, ?_, hT, hS⟩
  rw [hR]; exact ⟨_, _, h⟩
set_option maxRecDepth 100000 in
set_option maxHeartbeats 8000000 in
theorem rfol_hi {w : World} {r : Nat} {σ : Nat → Prop} {R : RefS} {pv mv : Value} (h : RefAt w r σ R pv mv) (hb1 : R.ms.length ≤ 40000) (hb2 : R.ps.length ≤ 40000) (e : Edt) (hop : 7 < e.op) : Calls Try.prog 15 #[.pointer (some ⟨r, 0, none⟩), .agg e.cells] w (RPost r σ (if refE R e = 0 then refF R e else R) (.int .i64 (refE R e)) w) := by
  refine wp_start2 Try.func15 rfl rfl (n := 174) (by decide) fun a E => ?_
  have hT : Fr σ w w := Fr.refl _ _
  have hS : ∀ k, k < w.heap.size → σ k → σ k := fun _ _ h => h
  have hk0 : (e.op == 6) = false := by rw [beq_eq_false_iff_ne]; omega
  have hk1 : (e.op == 7) = false := by rw [beq_eq_false_iff_ne]; omega
  have hk2 : (e.op == 1) = false := by rw [beq_eq_false_iff_ne]; omega
  have hk3 : (e.op == 5) = false := by rw [beq_eq_false_iff_ne]; omega
  have hk4 : (e.op != 1) = true := by rw [bne_iff_ne]; omega
  have hk5 : (decide (e.op < 1)) = false := by exact decide_eq_false (by omega)
  have hk6 : (decide (7 < e.op)) = true := by exact decide_eq_true (by omega)
  refine wp_seq ?_
  refine wp_region_lit ?_
  refine env_box38 (d := 3) E rfl (by decide) rfl (wanted_none rfl _) rfl (E.get 1 rfl) fun a w1 b0 e0 hb f1 E => ?_
  have hnb : ¬ σ b0 := fun hh => by have := h.lt b0 hh; omega
  have h := h.fr f1 (fun _ _ h => h)
  have hT := hT.trans' f1 (fun _ _ h => h.elim)
  clear f1 e0
  obtain ⟨pa1, ca1, hva, _⟩ := h.msrc
  subst hva
  refine env_put (d := 4) (v := .int .i64 0) E rfl (by decide) rfl (wanted_none rfl _) (run_assign rfl rfl) fun a E => ?_
  refine wpList_nil ?_
  refine then_n ?_
  refine wp_seq ?_
  refine wp_region_lit ?_
  refine env_put (d := 9) (v := .pointer (some ⟨b0, 0, none⟩)) E rfl (by decide) rfl (wanted_none rfl _) (fa38_0 rfl (E.get 1 rfl)) fun a E => ?_
  refine env_put (d := 10) (v := .int .i64 e.op) E rfl (by decide) rfl (wanted_none rfl _) (run_ldi rfl (E.get 0 rfl) (bx hb 0 rfl)) fun a E => ?_
  refine env_put (d := 11) (v := .bool false) E rfl (by decide) rfl (wanted_none rfl _) ((run_ieql (E.get 0 rfl) rfl Try.underlying3 rfl).trans (by rw [hk0] <;> rfl)) fun a E => ?_
  refine env_put (d := 12) (v := .bool false) E rfl (by decide) rfl (wanted_none rfl _) (run_move rfl (E.get 0 rfl)) fun a E => ?_
  refine env_put (d := 13) (v := .pointer (some ⟨b0, 0, none⟩)) E rfl (by decide) rfl (w_yes (g := 3) (s := 12) E rfl rfl (by decide) (E.get 0 rfl)) (fa38_0 rfl (E.get 5 rfl)) fun a E => ?_
  refine env_put (d := 14) (v := .int .i64 e.op) E rfl (by decide) rfl (w_yes (g := 3) (s := 12) E rfl rfl (by decide) (E.get 1 rfl)) (run_ldi rfl (E.get 0 rfl) (bx hb 0 rfl)) fun a E => ?_
  refine env_put (d := 15) (v := .bool false) E rfl (by decide) rfl (w_yes (g := 3) (s := 12) E rfl rfl (by decide) (E.get 2 rfl)) ((run_ieql (E.get 0 rfl) rfl Try.underlying3 rfl).trans (by rw [hk1] <;> rfl)) fun a E => ?_
  refine env_put (d := 16) (v := .bool false) E rfl (by decide) rfl (wanted_none rfl _) (run_pick_f rfl (E.get 3 rfl) (E.get 0 rfl)) fun a E => ?_
  refine env_put (d := 5) (v := .bool false) E rfl (by decide) rfl (wanted_none rfl _) (run_assign rfl (E.get 0 rfl)) fun a E => ?_
  refine wpList_nil ?_
  refine then_n ?_
  refine wp_seq ?_
  refine wp_seq ?_
  refine wp_region_lit ?_
  refine env_put (d := 17) (v := .pointer (some ⟨r, 0, none⟩)) E rfl (by decide) rfl (wanted_none rfl _) (run_move rfl (E.get 11 rfl)) fun a E => ?_
  refine env_put (d := 18) (v := .bool false) E rfl (by decide) rfl (wanted_none rfl _) (run_pnil rfl (E.get 0 rfl) rfl) fun a E => ?_
  refine env_put (d := 19) (v := .bool false) E rfl (by decide) rfl (wanted_none rfl _) (run_move rfl (E.get 0 rfl)) fun a E => ?_
  refine env_put (d := 20) (v := .pointer (some ⟨b0, 0, none⟩)) E rfl (by decide) rfl (w_yes (g := 2) (s := 19) E rfl rfl (by decide) (E.get 0 rfl)) (fa38_0 rfl (E.get 13 rfl)) fun a E => ?_
  refine env_put (d := 21) (v := .int .i64 e.op) E rfl (by decide) rfl (w_yes (g := 2) (s := 19) E rfl rfl (by decide) (E.get 1 rfl)) (run_ldi rfl (E.get 0 rfl) (bx hb 0 rfl)) fun a E => ?_
  refine env_put (d := 22) (v := .bool false) E rfl (by decide) rfl (w_yes (g := 2) (s := 19) E rfl rfl (by decide) (E.get 2 rfl)) ((run_ilss (E.get 0 rfl) rfl Try.underlying3 rfl).trans (by rw [hk5] <;> rfl)) fun a E => ?_
  refine env_put (d := 23) (v := .bool false) E rfl (by decide) rfl (wanted_none rfl _) (run_pick_f rfl (E.get 3 rfl) (E.get 0 rfl)) fun a E => ?_
  refine env_put (d := 24) (v := .bool false) E rfl (by decide) rfl (wanted_none rfl _) (run_move rfl (E.get 0 rfl)) fun a E => ?_
  refine env_put (d := 25) (v := .pointer (some ⟨b0, 0, none⟩)) E rfl (by decide) rfl (w_yes (g := 7) (s := 24) E rfl rfl (by decide) (E.get 0 rfl)) (fa38_0 rfl (E.get 18 rfl)) fun a E => ?_
  refine env_put (d := 26) (v := .int .i64 e.op) E rfl (by decide) rfl (w_yes (g := 7) (s := 24) E rfl rfl (by decide) (E.get 1 rfl)) (run_ldi rfl (E.get 0 rfl) (bx hb 0 rfl)) fun a E => ?_
  refine env_put (d := 27) (v := .bool true) E rfl (by decide) rfl (w_yes (g := 7) (s := 24) E rfl rfl (by decide) (E.get 2 rfl)) ((run_igtr (E.get 0 rfl) rfl Try.underlying3 rfl).trans (by rw [hk6] <;> rfl)) fun a E => ?_
  refine env_put (d := 28) (v := .bool true) E rfl (by decide) rfl (wanted_none rfl _) (run_pick_f rfl (E.get 3 rfl) (E.get 0 rfl)) fun a E => ?_
  refine env_put (d := 29) (v := .bool true) E rfl (by decide) rfl (wanted_none rfl _) (run_move rfl (E.get 0 rfl)) fun a E => ?_
  refine env_skip (d := 30) (g := 12) (s := 29) E rfl (by decide) rfl rfl rfl (by decide) (E.get 0 rfl) fun a E => ?_
  refine env_skip (d := 31) (g := 12) (s := 29) E rfl (by decide) rfl rfl rfl (by decide) (E.get 1 rfl) fun a E => ?_
  refine env_skipu (d := 32) (g := 14) (s := 31) E rfl (by decide) rfl rfl rfl (by decide) (E.get 0 rfl) fun a E => ?_
  refine env_skipu (d := 33) (g := 14) (s := 31) E rfl (by decide) rfl rfl rfl (by decide) (E.get 1 rfl) fun a E => ?_
  refine env_skipu (d := 34) (g := 14) (s := 31) E rfl (by decide) rfl rfl rfl (by decide) (E.get 2 rfl) fun a E => ?_
  refine env_skipu (d := 35) (g := 14) (s := 31) E rfl (by decide) rfl rfl rfl (by decide) (E.get 3 rfl) fun a E => ?_
  refine env_skipu (d := 36) (g := 14) (s := 31) E rfl (by decide) rfl rfl rfl (by decide) (E.get 4 rfl) fun a E => ?_
  refine env_skip (d := 37) (g := 12) (s := 29) E rfl (by decide) rfl rfl rfl (by decide) (E.get 7 rfl) fun a E => ?_
  refine env_put (d := 38) (v := .bool true) E rfl (by decide) rfl (wanted_none rfl _) (run_pick_t rfl (E.get 8 rfl) rfl) fun a E => ?_
  refine wpList_nil ?_
  refine then_n ?_
  refine wp_cond_true (E.get 0 rfl) ?_
  refine wp_seq ?_
  refine wp_region_lit ?_
  refine env_set (d := 4) (v := .int .i64 1) E rfl (by decide) (wanted_none rfl _) (run_assign rfl rfl) fun a E => ?_
  refine wpList_nil ?_
  refine then_n ?_
  refine wp_ret ?_
  refine then_r ?_
  have hE : refE R e = 1 := by
    unfold refE followE; rw [if_pos (show e.bad from .inr (.inl hop))]
  have hR : (if refE R e = 0 then refF R e else R) = R := if_neg (by rw [hE]; decide)
  refine ret_tmp (t := 4) rfl E (E.get 0 rfl) ⟨by rw [hE], _, ?_, hT, hS⟩
  rw [hR]; exact ⟨_, _, h⟩
set_option maxRecDepth 100000 in
set_option maxHeartbeats 8000000 in
theorem rfol_1 {w : World} {r : Nat} {σ : Nat → Prop} {R : RefS} {pv mv : Value} (h : RefAt w r σ R pv mv) (hb1 : R.ms.length ≤ 40000) (hb2 : R.ps.length ≤ 40000) (e : Edt) (hop : e.op = 1) : Calls Try.prog 15 #[.pointer (some ⟨r, 0, none⟩), .agg e.cells] w (RPost r σ (if refE R e = 0 then refF R e else R) (.int .i64 (refE R e)) w) := by
  refine wp_start2 Try.func15 rfl rfl (n := 174) (by decide) fun a E => ?_
  have hT : Fr σ w w := Fr.refl _ _
  have hS : ∀ k, k < w.heap.size → σ k → σ k := fun _ _ h => h
  have hk0 : (e.op == 6) = false := by rw [beq_eq_false_iff_ne]; omega
  have hk1 : (e.op == 7) = false := by rw [beq_eq_false_iff_ne]; omega
  have hk2 : (e.op == 1) = true := by simp only [beq_iff_eq]; omega
  have hk3 : (e.op == 5) = false := by rw [beq_eq_false_iff_ne]; omega
  have hk4 : (e.op != 1) = false := by rw [hop]; rfl
  have hk5 : (decide (e.op < 1)) = false := by exact decide_eq_false (by omega)
  have hk6 : (decide (7 < e.op)) = false := by exact decide_eq_false (by omega)
  refine wp_seq ?_
  refine wp_region_lit ?_
  refine env_box38 (d := 3) E rfl (by decide) rfl (wanted_none rfl _) rfl (E.get 1 rfl) fun a w1 b0 e0 hb f1 E => ?_
  have hnb : ¬ σ b0 := fun hh => by have := h.lt b0 hh; omega
  have h := h.fr f1 (fun _ _ h => h)
  have hT := hT.trans' f1 (fun _ _ h => h.elim)
  clear f1 e0
  obtain ⟨pa1, ca1, hva, _⟩ := h.msrc
  subst hva
  refine env_put (d := 4) (v := .int .i64 0) E rfl (by decide) rfl (wanted_none rfl _) (run_assign rfl rfl) fun a E => ?_
  refine wpList_nil ?_
  refine then_n ?_
  refine wp_seq ?_
  refine wp_region_lit ?_
  refine env_put (d := 9) (v := .pointer (some ⟨b0, 0, none⟩)) E rfl (by decide) rfl (wanted_none rfl _) (fa38_0 rfl (E.get 1 rfl)) fun a E => ?_
  refine env_put (d := 10) (v := .int .i64 e.op) E rfl (by decide) rfl (wanted_none rfl _) (run_ldi rfl (E.get 0 rfl) (bx hb 0 rfl)) fun a E => ?_
  refine env_put (d := 11) (v := .bool false) E rfl (by decide) rfl (wanted_none rfl _) ((run_ieql (E.get 0 rfl) rfl Try.underlying3 rfl).trans (by rw [hk0] <;> rfl)) fun a E => ?_
  refine env_put (d := 12) (v := .bool false) E rfl (by decide) rfl (wanted_none rfl _) (run_move rfl (E.get 0 rfl)) fun a E => ?_
  refine env_put (d := 13) (v := .pointer (some ⟨b0, 0, none⟩)) E rfl (by decide) rfl (w_yes (g := 3) (s := 12) E rfl rfl (by decide) (E.get 0 rfl)) (fa38_0 rfl (E.get 5 rfl)) fun a E => ?_
  refine env_put (d := 14) (v := .int .i64 e.op) E rfl (by decide) rfl (w_yes (g := 3) (s := 12) E rfl rfl (by decide) (E.get 1 rfl)) (run_ldi rfl (E.get 0 rfl) (bx hb 0 rfl)) fun a E => ?_
  refine env_put (d := 15) (v := .bool false) E rfl (by decide) rfl (w_yes (g := 3) (s := 12) E rfl rfl (by decide) (E.get 2 rfl)) ((run_ieql (E.get 0 rfl) rfl Try.underlying3 rfl).trans (by rw [hk1] <;> rfl)) fun a E => ?_
  refine env_put (d := 16) (v := .bool false) E rfl (by decide) rfl (wanted_none rfl _) (run_pick_f rfl (E.get 3 rfl) (E.get 0 rfl)) fun a E => ?_
  refine env_put (d := 5) (v := .bool false) E rfl (by decide) rfl (wanted_none rfl _) (run_assign rfl (E.get 0 rfl)) fun a E => ?_
  refine wpList_nil ?_
  refine then_n ?_
  refine wp_seq ?_
  refine wp_seq ?_
  refine wp_region_lit ?_
  refine env_put (d := 17) (v := .pointer (some ⟨r, 0, none⟩)) E rfl (by decide) rfl (wanted_none rfl _) (run_move rfl (E.get 11 rfl)) fun a E => ?_
  refine env_put (d := 18) (v := .bool false) E rfl (by decide) rfl (wanted_none rfl _) (run_pnil rfl (E.get 0 rfl) rfl) fun a E => ?_
  refine env_put (d := 19) (v := .bool false) E rfl (by decide) rfl (wanted_none rfl _) (run_move rfl (E.get 0 rfl)) fun a E => ?_
  refine env_put (d := 20) (v := .pointer (some ⟨b0, 0, none⟩)) E rfl (by decide) rfl (w_yes (g := 2) (s := 19) E rfl rfl (by decide) (E.get 0 rfl)) (fa38_0 rfl (E.get 13 rfl)) fun a E => ?_
  refine env_put (d := 21) (v := .int .i64 e.op) E rfl (by decide) rfl (w_yes (g := 2) (s := 19) E rfl rfl (by decide) (E.get 1 rfl)) (run_ldi rfl (E.get 0 rfl) (bx hb 0 rfl)) fun a E => ?_
  refine env_put (d := 22) (v := .bool false) E rfl (by decide) rfl (w_yes (g := 2) (s := 19) E rfl rfl (by decide) (E.get 2 rfl)) ((run_ilss (E.get 0 rfl) rfl Try.underlying3 rfl).trans (by rw [hk5] <;> rfl)) fun a E => ?_
  refine env_put (d := 23) (v := .bool false) E rfl (by decide) rfl (wanted_none rfl _) (run_pick_f rfl (E.get 3 rfl) (E.get 0 rfl)) fun a E => ?_
  refine env_put (d := 24) (v := .bool false) E rfl (by decide) rfl (wanted_none rfl _) (run_move rfl (E.get 0 rfl)) fun a E => ?_
  refine env_put (d := 25) (v := .pointer (some ⟨b0, 0, none⟩)) E rfl (by decide) rfl (w_yes (g := 7) (s := 24) E rfl rfl (by decide) (E.get 0 rfl)) (fa38_0 rfl (E.get 18 rfl)) fun a E => ?_
  refine env_put (d := 26) (v := .int .i64 e.op) E rfl (by decide) rfl (w_yes (g := 7) (s := 24) E rfl rfl (by decide) (E.get 1 rfl)) (run_ldi rfl (E.get 0 rfl) (bx hb 0 rfl)) fun a E => ?_
  refine env_put (d := 27) (v := .bool false) E rfl (by decide) rfl (w_yes (g := 7) (s := 24) E rfl rfl (by decide) (E.get 2 rfl)) ((run_igtr (E.get 0 rfl) rfl Try.underlying3 rfl).trans (by rw [hk6] <;> rfl)) fun a E => ?_
  refine env_put (d := 28) (v := .bool false) E rfl (by decide) rfl (wanted_none rfl _) (run_pick_f rfl (E.get 3 rfl) (E.get 0 rfl)) fun a E => ?_
  refine env_put (d := 29) (v := .bool false) E rfl (by decide) rfl (wanted_none rfl _) (run_move rfl (E.get 0 rfl)) fun a E => ?_
  refine env_put (d := 30) (v := .bool false) E rfl (by decide) rfl (w_yes (g := 12) (s := 29) E rfl rfl (by decide) (E.get 0 rfl)) (run_move rfl (E.get 13 rfl)) fun a E => ?_
  refine env_put (d := 31) (v := .bool false) E rfl (by decide) rfl (w_yes (g := 12) (s := 29) E rfl rfl (by decide) (E.get 1 rfl)) (run_move rfl (E.get 0 rfl)) fun a E => ?_
  refine env_skip (d := 32) (g := 14) (s := 31) E rfl (by decide) rfl rfl rfl (by decide) (E.get 0 rfl) fun a E => ?_
  refine env_skip (d := 33) (g := 14) (s := 31) E rfl (by decide) rfl rfl rfl (by decide) (E.get 1 rfl) fun a E => ?_
  refine env_skip (d := 34) (g := 14) (s := 31) E rfl (by decide) rfl rfl rfl (by decide) (E.get 2 rfl) fun a E => ?_
  refine env_skip (d := 35) (g := 14) (s := 31) E rfl (by decide) rfl rfl rfl (by decide) (E.get 3 rfl) fun a E => ?_
  refine env_skip (d := 36) (g := 14) (s := 31) E rfl (by decide) rfl rfl rfl (by decide) (E.get 4 rfl) fun a E => ?_
  refine env_put (d := 37) (v := .bool false) E rfl (by decide) rfl (w_yes (g := 12) (s := 29) E rfl rfl (by decide) (E.get 7 rfl)) (run_pick_f rfl (E.get 5 rfl) rfl) fun a E => ?_
  refine env_put (d := 38) (v := .bool false) E rfl (by decide) rfl (wanted_none rfl _) (run_pick_f rfl (E.get 8 rfl) (E.get 0 rfl)) fun a E => ?_
  refine wpList_nil ?_
  refine then_n ?_
  refine wp_cond_false (E.get 0 rfl) ?_
  refine wp_skip ?_
  refine then_n ?_
  refine wp_seq ?_
  refine wp_seq ?_
  refine wp_region_lit ?_
  refine env_put (d := 39) (v := .pointer (some ⟨b0, 0, none⟩)) E rfl (by decide) rfl (wanted_none rfl _) (fa38_0 rfl (E.get 32 rfl)) fun a E => ?_
  refine env_put (d := 40) (v := .int .i64 e.op) E rfl (by decide) rfl (wanted_none rfl _) (run_ldi rfl (E.get 0 rfl) (bx hb 0 rfl)) fun a E => ?_
  refine env_put (d := 41) (v := .bool false) E rfl (by decide) rfl (wanted_none rfl _) ((run_ineq (E.get 0 rfl) rfl Try.underlying3 rfl).trans (by rw [hk4] <;> rfl)) fun a E => ?_
  refine env_put (d := 42) (v := .bool false) E rfl (by decide) rfl (wanted_none rfl _) (run_move rfl (E.get 0 rfl)) fun a E => ?_
  refine env_skip (d := 43) (g := 3) (s := 42) E rfl (by decide) rfl rfl rfl (by decide) (E.get 0 rfl) fun a E => ?_
  refine env_skip (d := 44) (g := 3) (s := 42) E rfl (by decide) rfl rfl rfl (by decide) (E.get 1 rfl) fun a E => ?_
  refine env_skip (d := 45) (g := 3) (s := 42) E rfl (by decide) rfl rfl rfl (by decide) (E.get 2 rfl) fun a E => ?_
  refine env_skip (d := 46) (g := 3) (s := 42) E rfl (by decide) rfl rfl rfl (by decide) (E.get 3 rfl) fun a E => ?_
  refine env_skip (d := 47) (g := 3) (s := 42) E rfl (by decide) rfl rfl rfl (by decide) (E.get 4 rfl) fun a E => ?_
  refine env_skip (d := 48) (g := 3) (s := 42) E rfl (by decide) rfl rfl rfl (by decide) (E.get 5 rfl) fun a E => ?_
  refine env_skip (d := 49) (g := 3) (s := 42) E rfl (by decide) rfl rfl rfl (by decide) (E.get 6 rfl) fun a E => ?_
  refine env_put (d := 50) (v := .bool false) E rfl (by decide) rfl (wanted_none rfl _) (run_pick_f rfl (E.get 7 rfl) rfl) fun a E => ?_
  refine env_put (d := 51) (v := .bool false) E rfl (by decide) rfl (wanted_none rfl _) (run_move rfl (E.get 0 rfl)) fun a E => ?_
  refine env_put (d := 52) (v := .pointer (some ⟨b0, 0, none⟩)) E rfl (by decide) rfl (w_yes (g := 12) (s := 51) E rfl rfl (by decide) (E.get 0 rfl)) (fa38_0 rfl (E.get 45 rfl)) fun a E => ?_
  refine env_put (d := 53) (v := .int .i64 e.op) E rfl (by decide) rfl (w_yes (g := 12) (s := 51) E rfl rfl (by decide) (E.get 1 rfl)) (run_ldi rfl (E.get 0 rfl) (bx hb 0 rfl)) fun a E => ?_
  refine env_put (d := 54) (v := .bool false) E rfl (by decide) rfl (w_yes (g := 12) (s := 51) E rfl rfl (by decide) (E.get 2 rfl)) ((run_ieql (E.get 0 rfl) rfl Try.underlying3 rfl).trans (by rw [hk1] <;> rfl)) fun a E => ?_
  refine env_put (d := 55) (v := .bool false) E rfl (by decide) rfl (w_yes (g := 12) (s := 51) E rfl rfl (by decide) (E.get 3 rfl)) (run_move rfl (E.get 0 rfl)) fun a E => ?_
  refine env_skip (d := 56) (g := 16) (s := 55) E rfl (by decide) rfl rfl rfl (by decide) (E.get 0 rfl) fun a E => ?_
  refine env_skip (d := 57) (g := 16) (s := 55) E rfl (by decide) rfl rfl rfl (by decide) (E.get 1 rfl) fun a E => ?_
  refine env_skip (d := 58) (g := 16) (s := 55) E rfl (by decide) rfl rfl rfl (by decide) (E.get 2 rfl) fun a E => ?_
  refine env_skip (d := 59) (g := 16) (s := 55) E rfl (by decide) rfl rfl rfl (by decide) (E.get 3 rfl) fun a E => ?_
  refine env_skip (d := 60) (g := 16) (s := 55) E rfl (by decide) rfl rfl rfl (by decide) (E.get 4 rfl) fun a E => ?_
  refine env_skip (d := 61) (g := 16) (s := 55) E rfl (by decide) rfl rfl rfl (by decide) (E.get 5 rfl) fun a E => ?_
  refine env_skip (d := 62) (g := 16) (s := 55) E rfl (by decide) rfl rfl rfl (by decide) (E.get 6 rfl) fun a E => ?_
  refine env_put (d := 63) (v := .bool false) E rfl (by decide) rfl (w_yes (g := 12) (s := 51) E rfl rfl (by decide) (E.get 11 rfl)) (run_pick_f rfl (E.get 7 rfl) rfl) fun a E => ?_
  refine env_put (d := 64) (v := .bool false) E rfl (by decide) rfl (wanted_none rfl _) (run_pick_f rfl (E.get 12 rfl) (E.get 0 rfl)) fun a E => ?_
  refine wpList_nil ?_
  refine then_n ?_
  refine wp_cond_false (E.get 0 rfl) ?_
  refine wp_skip ?_
  refine then_n ?_
  refine wp_seq ?_
  refine wp_seq ?_
  cases hq1 : (inB R.ms e.oid) with
  | false =>
    refine wp_region_invg (n := 174) (base := [(64, .bool false), (63, .bool false), (62, undef), (61, undef), (60, undef), (59, undef), (58, undef), (57, undef), (56, undef), (55, .bool false), (54, .bool false), (53, .int .i64 e.op), (52, .pointer (some ⟨b0, 0, none⟩)), (51, .bool false), (50, .bool false), (49, undef), (48, undef), (47, undef), (46, undef), (45, undef), (44, undef), (43, undef), (42, .bool false), (41, .bool false), (40, .int .i64 e.op), (39, .pointer (some ⟨b0, 0, none⟩)), (38, .bool false), (37, .bool false), (36, undef), (35, undef), (34, undef), (33, undef), (32, undef), (31, .bool false), (30, .bool false), (29, .bool false), (28, .bool false), (27, .bool false), (26, .int .i64 e.op), (25, .pointer (some ⟨b0, 0, none⟩)), (24, .bool false), (23, .bool false), (22, .bool false), (21, .int .i64 e.op), (20, .pointer (some ⟨b0, 0, none⟩)), (19, .bool false), (18, .bool false), (17, .pointer (some ⟨r, 0, none⟩)), (5, .bool false), (16, .bool false), (15, .bool false), (14, .int .i64 e.op), (13, .pointer (some ⟨b0, 0, none⟩)), (12, .bool false), (11, .bool false), (10, .int .i64 e.op), (9, .pointer (some ⟨b0, 0, none⟩)), (4, .int .i64 0), (3, .pointer (some ⟨b0, 0, none⟩)), (0, .pointer (some ⟨r, 0, none⟩)), (1, .agg e.cells)]) (T := [some (65, .pointer (some ⟨b0, 0, none⟩)), some (66, .int .i64 e.op), some (67, .bool true), some (68, .bool true), some (69, .pointer (some ⟨r, 0, none⟩)), some (70, .pointer (some ⟨r, 0, none⟩)), some (71, .pointer (some ⟨r, 1, none⟩)), some (72, .slice (pa1) R.ms.length ca1), some (73, .pointer (some ⟨b0, 9, none⟩)), some (74, .pointer (some ⟨b0, 9, none⟩)), some (75, .string e.oid), some (76, .bool false), some (77, .bool false), some (78, .bool false), some (79, .pointer (some ⟨b0, 0, none⟩)), some (80, .int .i64 e.op), some (81, .bool false), some (82, .bool false), some (83, undef), some (84, undef), some (85, undef), some (86, undef), some (87, undef), some (88, undef), some (89, undef), some (90, .bool false), some (91, .bool false)]) (M := fun _ wm => Fr (fun _ => False) w1 wm) (by kernel_rfl) (by kernel_rfl) (by kernel_rfl) (E.of ⟨E.get 0 rfl, E.get 1 rfl, E.get 2 rfl, E.get 3 rfl, E.get 4 rfl, E.get 5 rfl, E.get 6 rfl, E.get 7 rfl, E.get 8 rfl, E.get 9 rfl, E.get 10 rfl, E.get 11 rfl, E.get 12 rfl, E.get 13 rfl, E.get 14 rfl, E.get 15 rfl, E.get 16 rfl, E.get 17 rfl, E.get 18 rfl, E.get 19 rfl, E.get 20 rfl, E.get 21 rfl, E.get 22 rfl, E.get 23 rfl, E.get 24 rfl, E.get 25 rfl, E.get 26 rfl, E.get 27 rfl, E.get 28 rfl, E.get 29 rfl, E.get 30 rfl, E.get 31 rfl, E.get 32 rfl, E.get 33 rfl, E.get 34 rfl, E.get 35 rfl, E.get 36 rfl, E.get 37 rfl, E.get 38 rfl, E.get 39 rfl, E.get 40 rfl, E.get 41 rfl, E.get 42 rfl, E.get 43 rfl, E.get 44 rfl, E.get 45 rfl, E.get 46 rfl, E.get 47 rfl, E.get 48 rfl, E.get 49 rfl, E.get 50 rfl, E.get 51 rfl, E.get 52 rfl, E.get 53 rfl, E.get 54 rfl, E.get 55 rfl, E.get 56 rfl, E.get 57 rfl, E.get 58 rfl, E.get 59 rfl, E.get 60 rfl, trivial⟩) (Fr.refl _ _).drew ?_ ?_
    · intro j9 o9 t9 ls9 a w5 ho hT0 hl E D DL hM
      have h := RefAt.fr h hM (fun _ _ h => h)
      have hT := hT.trans' hM (fun _ _ h => h.elim)
      have hb := hM.obj hb id
      match j9, ho, hT0, hl, D, DL with
      | 0, ho, hT0, hl, D, DL =>
        obtain rfl := Option.some.inj ho
        obtain rfl := Option.some.inj hT0
        clear ho hT0
        exact ⟨fun _ => val_wp (fa38_0 rfl (E.get 58 rfl)) rfl hM, fun h => by rw [wanted_none rfl] at h; cases h⟩
      | 1, ho, hT0, hl, D, DL =>
        obtain rfl := Option.some.inj ho
        obtain rfl := Option.some.inj hT0
        clear ho hT0
        exact ⟨fun _ => val_wp (run_ldi rfl (D 0 _ rfl rfl) (bx hb 0 rfl)) rfl hM, fun h => by rw [wanted_none rfl] at h; cases h⟩
      | 2, ho, hT0, hl, D, DL =>
        obtain rfl := Option.some.inj ho
        obtain rfl := Option.some.inj hT0
        clear ho hT0
        exact ⟨fun _ => val_wp ((run_ieql (D 1 _ rfl rfl) rfl Try.underlying3 rfl).trans (by rw [hk2] <;> rfl)) rfl hM, fun h => by rw [wanted_none rfl] at h; cases h⟩
      | 3, ho, hT0, hl, D, DL =>
        obtain rfl := Option.some.inj ho
        obtain rfl := Option.some.inj hT0
        clear ho hT0
        exact ⟨fun _ => val_wp (run_move rfl (D 2 _ rfl rfl)) rfl hM, fun h => by rw [wanted_none rfl] at h; cases h⟩
      | 4, ho, hT0, hl, D, DL =>
        obtain rfl := Option.some.inj ho
        obtain rfl := Option.some.inj hT0
        clear ho hT0
        exact ⟨fun _ => val_wp (run_move rfl (E.get 59 rfl)) rfl hM, fun h => by rw [w_yes (g := 3) (s := 68) (b := true) E rfl rfl (by decide) (D 3 _ rfl rfl)] at h; cases h⟩
      | 5, ho, hT0, hl, D, DL =>
        obtain rfl := Option.some.inj ho
        obtain rfl := Option.some.inj hT0
        clear ho hT0
        exact ⟨fun _ => val_wp (run_nilchk rfl (D 4 _ rfl rfl)) rfl hM, fun h => by rw [w_yes (g := 3) (s := 68) (b := true) E rfl rfl (by decide) (D 3 _ rfl rfl)] at h; cases h⟩
      | 6, ho, hT0, hl, D, DL =>
        obtain rfl := Option.some.inj ho
        obtain rfl := Option.some.inj hT0
        clear ho hT0
        exact ⟨fun _ => val_wp (fa58_at (by decide) rfl (D 5 _ rfl rfl)) rfl hM, fun h => by rw [w_yes (g := 3) (s := 68) (b := true) E rfl rfl (by decide) (D 3 _ rfl rfl)] at h; cases h⟩
      | 7, ho, hT0, hl, D, DL =>
        obtain rfl := Option.some.inj ho
        obtain rfl := Option.some.inj hT0
        clear ho hT0
        exact ⟨fun _ => val_wp (run_ld33 rfl (D 6 _ rfl rfl) h.c1) rfl hM, fun h => by rw [w_yes (g := 3) (s := 68) (b := true) E rfl rfl (by decide) (D 3 _ rfl rfl)] at h; cases h⟩
      | 8, ho, hT0, hl, D, DL =>
        obtain rfl := Option.some.inj ho
        obtain rfl := Option.some.inj hT0
        clear ho hT0
        exact ⟨fun _ => val_wp (fa38_8 rfl (E.get 58 rfl)) rfl hM, fun h => by rw [w_yes (g := 3) (s := 68) (b := true) E rfl rfl (by decide) (D 3 _ rfl rfl)] at h; cases h⟩
      | 9, ho, hT0, hl, D, DL =>
        obtain rfl := Option.some.inj ho
        obtain rfl := Option.some.inj hT0
        clear ho hT0
        exact ⟨fun _ => val_wp (fa36_0 rfl (D 8 _ rfl rfl)) rfl hM, fun h => by rw [w_yes (g := 3) (s := 68) (b := true) E rfl rfl (by decide) (D 3 _ rfl rfl)] at h; cases h⟩
      | 10, ho, hT0, hl, D, DL =>
        obtain rfl := Option.some.inj ho
        obtain rfl := Option.some.inj hT0
        clear ho hT0
        exact ⟨fun _ => val_wp (run_lds rfl (D 9 _ rfl rfl) (bx hb 9 rfl)) rfl hM, fun h => by rw [w_yes (g := 3) (s := 68) (b := true) E rfl rfl (by decide) (D 3 _ rfl rfl)] at h; cases h⟩
      | 11, ho, hT0, hl, D, DL =>
        obtain rfl := Option.some.inj ho
        obtain rfl := Option.some.inj hT0
        clear ho hT0
        exact ⟨fun _ => call_wp (run_call2 (enters_of Try.func24 (by kernel_rfl) rfl) rfl rfl (D 7 _ rfl rfl) (D 10 _ rfl rfl)) (by have h := (h.inC e.oid); rw [hq1] at h; exact h) rfl fun w9 f1 => (hM.trans f1), fun h => by rw [w_yes (g := 3) (s := 68) (b := true) E rfl rfl (by decide) (D 3 _ rfl rfl)] at h; cases h⟩
      | 12, ho, hT0, hl, D, DL =>
        obtain rfl := Option.some.inj ho
        obtain rfl := Option.some.inj hT0
        clear ho hT0
        exact ⟨fun _ => val_wp (run_pick_t rfl (D 3 _ rfl rfl) (D 11 _ rfl rfl)) rfl hM, fun h => by rw [wanted_none rfl] at h; cases h⟩
      | 13, ho, hT0, hl, D, DL =>
        obtain rfl := Option.some.inj ho
        obtain rfl := Option.some.inj hT0
        clear ho hT0
        exact ⟨fun _ => val_wp (run_move rfl (D 12 _ rfl rfl)) rfl hM, fun h => by rw [wanted_none rfl] at h; cases h⟩
      | 14, ho, hT0, hl, D, DL =>
        obtain rfl := Option.some.inj ho
        obtain rfl := Option.some.inj hT0
        clear ho hT0
        exact ⟨fun _ => val_wp (fa38_0 rfl (E.get 58 rfl)) rfl hM, fun h => by rw [w_yes (g := 13) (s := 78) (b := false) E rfl rfl (by decide) (D 13 _ rfl rfl)] at h; cases h⟩
      | 15, ho, hT0, hl, D, DL =>
        obtain rfl := Option.some.inj ho
        obtain rfl := Option.some.inj hT0
        clear ho hT0
        exact ⟨fun _ => val_wp (run_ldi rfl (D 14 _ rfl rfl) (bx hb 0 rfl)) rfl hM, fun h => by rw [w_yes (g := 13) (s := 78) (b := false) E rfl rfl (by decide) (D 13 _ rfl rfl)] at h; cases h⟩
      | 16, ho, hT0, hl, D, DL =>
        obtain rfl := Option.some.inj ho
        obtain rfl := Option.some.inj hT0
        clear ho hT0
        exact ⟨fun _ => val_wp ((run_ieql (D 15 _ rfl rfl) rfl Try.underlying3 rfl).trans (by rw [hk0] <;> rfl)) rfl hM, fun h => by rw [w_yes (g := 13) (s := 78) (b := false) E rfl rfl (by decide) (D 13 _ rfl rfl)] at h; cases h⟩
      | 17, ho, hT0, hl, D, DL =>
        obtain rfl := Option.some.inj ho
        obtain rfl := Option.some.inj hT0
        clear ho hT0
        exact ⟨fun _ => val_wp (run_move rfl (D 16 _ rfl rfl)) rfl hM, fun h => by rw [w_yes (g := 13) (s := 78) (b := false) E rfl rfl (by decide) (D 13 _ rfl rfl)] at h; cases h⟩
      | 18, ho, hT0, hl, D, DL =>
        obtain rfl := Option.some.inj ho
        obtain rfl := Option.some.inj hT0
        clear ho hT0
        exact ⟨fun h => (by rw [w_no (g := 17) (s := 82) (b := true) E rfl rfl (by decide) (D 17 _ rfl rfl)] at h; cases h), fun _ => ⟨fun x hx => by cases hx; rfl, hM⟩⟩
      | 19, ho, hT0, hl, D, DL =>
        obtain rfl := Option.some.inj ho
        obtain rfl := Option.some.inj hT0
        clear ho hT0
        exact ⟨fun h => (by rw [w_no (g := 17) (s := 82) (b := true) E rfl rfl (by decide) (D 17 _ rfl rfl)] at h; cases h), fun _ => ⟨fun x hx => by cases hx; rfl, hM⟩⟩
      | 20, ho, hT0, hl, D, DL =>
        obtain rfl := Option.some.inj ho
        obtain rfl := Option.some.inj hT0
        clear ho hT0
        exact ⟨fun h => (by rw [w_no (g := 17) (s := 82) (b := true) E rfl rfl (by decide) (D 17 _ rfl rfl)] at h; cases h), fun _ => ⟨fun x hx => by cases hx; rfl, hM⟩⟩
      | 21, ho, hT0, hl, D, DL =>
        obtain rfl := Option.some.inj ho
        obtain rfl := Option.some.inj hT0
        clear ho hT0
        exact ⟨fun h => (by rw [w_no (g := 17) (s := 82) (b := true) E rfl rfl (by decide) (D 17 _ rfl rfl)] at h; cases h), fun _ => ⟨fun x hx => by cases hx; rfl, hM⟩⟩
      | 22, ho, hT0, hl, D, DL =>
        obtain rfl := Option.some.inj ho
        obtain rfl := Option.some.inj hT0
        clear ho hT0
        exact ⟨fun h => (by rw [w_no (g := 17) (s := 82) (b := true) E rfl rfl (by decide) (D 17 _ rfl rfl)] at h; cases h), fun _ => ⟨fun x hx => by cases hx; rfl, hM⟩⟩
      | 23, ho, hT0, hl, D, DL =>
        obtain rfl := Option.some.inj ho
        obtain rfl := Option.some.inj hT0
        clear ho hT0
        exact ⟨fun h => (by rw [w_no (g := 17) (s := 82) (b := true) E rfl rfl (by decide) (D 17 _ rfl rfl)] at h; cases h), fun _ => ⟨fun x hx => by cases hx; rfl, hM⟩⟩
      | 24, ho, hT0, hl, D, DL =>
        obtain rfl := Option.some.inj ho
        obtain rfl := Option.some.inj hT0
        clear ho hT0
        exact ⟨fun h => (by rw [w_no (g := 17) (s := 82) (b := true) E rfl rfl (by decide) (D 17 _ rfl rfl)] at h; cases h), fun _ => ⟨fun x hx => by cases hx; rfl, hM⟩⟩
      | 25, ho, hT0, hl, D, DL =>
        obtain rfl := Option.some.inj ho
        obtain rfl := Option.some.inj hT0
        clear ho hT0
        exact ⟨fun _ => val_wp (run_pick_f rfl (D 17 _ rfl rfl) rfl) rfl hM, fun h => by rw [w_yes (g := 13) (s := 78) (b := false) E rfl rfl (by decide) (D 13 _ rfl rfl)] at h; cases h⟩
      | 26, ho, hT0, hl, D, DL =>
        obtain rfl := Option.some.inj ho
        obtain rfl := Option.some.inj hT0
        clear ho hT0
        exact ⟨fun _ => val_wp (run_pick_f rfl (D 13 _ rfl rfl) (D 25 _ rfl rfl)) rfl hM, fun h => by rw [wanted_none rfl] at h; cases h⟩
      | j9 + 27, ho, hT0, hl, D, DL => exact absurd hT0 (by simp)
    · intro a w5 E V hM
      have E := E.add (V 26 _ rfl)
      clear V
      have h := RefAt.fr h hM (fun _ _ h => h)
      have hT := hT.trans' hM (fun _ _ h => h.elim)
      have hb := hM.obj hb id
      clear hM
      refine then_n ?_
      refine wp_cond_false (E.get 0 rfl) ?_
      refine wp_skip ?_
      refine then_n ?_
      refine wp_seq ?_
      refine wp_seq ?_
      refine wp_region_lit ?_
      refine env_put (d := 92) (v := .pointer (some ⟨b0, 0, none⟩)) E rfl (by decide) rfl (wanted_none rfl _) (fa38_0 rfl (E.get 59 rfl)) fun a E => ?_
      refine env_put (d := 93) (v := .int .i64 e.op) E rfl (by decide) rfl (wanted_none rfl _) (run_ldi rfl (E.get 0 rfl) (bx hb 0 rfl)) fun a E => ?_
      refine env_put (d := 94) (v := .bool true) E rfl (by decide) rfl (wanted_none rfl _) ((run_ieql (E.get 0 rfl) rfl Try.underlying3 rfl).trans (by rw [hk2] <;> rfl)) fun a E => ?_
      refine wpList_nil ?_
      refine then_n ?_
      refine wp_cond_true (E.get 0 rfl) ?_
      refine wp_seq ?_
      refine wp_region_lit ?_
      refine env_put (d := 95) (v := .pointer (some ⟨r, 0, none⟩)) E rfl (by decide) rfl (wanted_none rfl _) (run_move rfl (E.get 63 rfl)) fun a E => ?_
      refine env_put (d := 96) (v := .pointer (some ⟨b0, 9, none⟩)) E rfl (by decide) rfl (wanted_none rfl _) (fa38_8 rfl (E.get 63 rfl)) fun a E => ?_
      refine env_put (d := 97) (v := .pointer (some ⟨b0, 9, none⟩)) E rfl (by decide) rfl (wanted_none rfl _) (fa36_0 rfl (E.get 0 rfl)) fun a E => ?_
      refine env_put (d := 98) (v := .string e.oid) E rfl (by decide) rfl (wanted_none rfl _) (run_lds rfl (E.get 0 rfl) (bx hb 9 rfl)) fun a E => ?_
      refine env_call (d := 99) (v := .tuple #[]) E rfl (by decide) rfl (wanted_none rfl _) (run_call2 (enters_of Try.func33 (by kernel_rfl) rfl) rfl rfl (E.get 3 rfl) (E.get 0 rfl)) (rmen_calls h (by omega) (by omega) e.oid) fun a w1 f1 E => ?_
      obtain ⟨σ1, ⟨pv1, mv1, hn⟩, f2, hs⟩ := f1
      have hS' := fun k (hk : k < w.heap.size) h => hS k hk (hs k (Nat.lt_of_lt_of_le hk hT.size) h)
      have hT' := hT.trans' f2 (fun r hr h => hS r hr h)
      have hnb' : ¬ σ1 b0 := fun hh => hnb (hs b0 (lt_of_blk hb) hh)
      have hb' := f2.obj hb hnb
      clear f2 hs h hT hS hnb hb
      have h := hn
      have hT := hT'
      have hS := hS'
      have hnb := hnb'
      have hb := hb'
      clear hn hT' hS' hnb' hb'
      refine wpList_nil ?_
      refine then_n ?_
      refine wp_seq ?_
      refine wp_region_lit ?_
      refine env_set (d := 4) (v := .int .i64 0) E rfl (by decide) (wanted_none rfl _) (run_assign rfl rfl) fun a E => ?_
      refine wpList_nil ?_
      refine then_n ?_
      refine wp_ret ?_
      refine then_r ?_
      have hE : refE R e = 0 := by
        simp [refE, followE, Edt.bad, Edt.two, Edt.fresh, linR, hop, hq1]
      have hF : refF R e = menR R e.oid := by simp [refF, hop]
      have hR : (if refE R e = 0 then refF R e else R) = menR R e.oid := by rw [if_pos hE, hF]
      refine ret_tmp (t := 4) rfl E (E.get 0 rfl) ⟨by rw [hE], _, ?_, hT, hS⟩
      rw [hR]; exact ⟨_, _, h⟩
  | true =>
    refine wp_region_invg (n := 174) (base := [(64, .bool false), (63, .bool false), (62, undef), (61, undef), (60, undef), (59, undef), (58, undef), (57, undef), (56, undef), (55, .bool false), (54, .bool false), (53, .int .i64 e.op), (52, .pointer (some ⟨b0, 0, none⟩)), (51, .bool false), (50, .bool false), (49, undef), (48, undef), (47, undef), (46, undef), (45, undef), (44, undef), (43, undef), (42, .bool false), (41, .bool false), (40, .int .i64 e.op), (39, .pointer (some ⟨b0, 0, none⟩)), (38, .bool false), (37, .bool false), (36, undef), (35, undef), (34, undef), (33, undef), (32, undef), (31, .bool false), (30, .bool false), (29, .bool false), (28, .bool false), (27, .bool false), (26, .int .i64 e.op), (25, .pointer (some ⟨b0, 0, none⟩)), (24, .bool false), (23, .bool false), (22, .bool false), (21, .int .i64 e.op), (20, .pointer (some ⟨b0, 0, none⟩)), (19, .bool false), (18, .bool false), (17, .pointer (some ⟨r, 0, none⟩)), (5, .bool false), (16, .bool false), (15, .bool false), (14, .int .i64 e.op), (13, .pointer (some ⟨b0, 0, none⟩)), (12, .bool false), (11, .bool false), (10, .int .i64 e.op), (9, .pointer (some ⟨b0, 0, none⟩)), (4, .int .i64 0), (3, .pointer (some ⟨b0, 0, none⟩)), (0, .pointer (some ⟨r, 0, none⟩)), (1, .agg e.cells)]) (T := [some (65, .pointer (some ⟨b0, 0, none⟩)), some (66, .int .i64 e.op), some (67, .bool true), some (68, .bool true), some (69, .pointer (some ⟨r, 0, none⟩)), some (70, .pointer (some ⟨r, 0, none⟩)), some (71, .pointer (some ⟨r, 1, none⟩)), some (72, .slice (pa1) R.ms.length ca1), some (73, .pointer (some ⟨b0, 9, none⟩)), some (74, .pointer (some ⟨b0, 9, none⟩)), some (75, .string e.oid), some (76, .bool true), some (77, .bool true), some (78, .bool true), some (79, undef), some (80, undef), some (81, undef), some (82, undef), some (83, undef), some (84, undef), some (85, undef), some (86, undef), some (87, undef), some (88, undef), some (89, undef), some (90, undef), some (91, .bool true)]) (M := fun _ wm => Fr (fun _ => False) w1 wm) (by kernel_rfl) (by kernel_rfl) (by kernel_rfl) (E.of ⟨E.get 0 rfl, E.get 1 rfl, E.get 2 rfl, E.get 3 rfl, E.get 4 rfl, E.get 5 rfl, E.get 6 rfl, E.get 7 rfl, E.get 8 rfl, E.get 9 rfl, E.get 10 rfl, E.get 11 rfl, E.get 12 rfl, E.get 13 rfl, E.get 14 rfl, E.get 15 rfl, E.get 16 rfl, E.get 17 rfl, E.get 18 rfl, E.get 19 rfl, E.get 20 rfl, E.get 21 rfl, E.get 22 rfl, E.get 23 rfl, E.get 24 rfl, E.get 25 rfl, E.get 26 rfl, E.get 27 rfl, E.get 28 rfl, E.get 29 rfl, E.get 30 rfl, E.get 31 rfl, E.get 32 rfl, E.get 33 rfl, E.get 34 rfl, E.get 35 rfl, E.get 36 rfl, E.get 37 rfl, E.get 38 rfl, E.get 39 rfl, E.get 40 rfl, E.get 41 rfl, E.get 42 rfl, E.get 43 rfl, E.get 44 rfl, E.get 45 rfl, E.get 46 rfl, E.get 47 rfl, E.get 48 rfl, E.get 49 rfl, E.get 50 rfl, E.get 51 rfl, E.get 52 rfl, E.get 53 rfl, E.get 54 rfl, E.get 55 rfl, E.get 56 rfl, E.get 57 rfl, E.get 58 rfl, E.get 59 rfl, E.get 60 rfl, trivial⟩) (Fr.refl _ _).drew ?_ ?_
    · intro j9 o9 t9 ls9 a w5 ho hT0 hl E D DL hM
      have h := RefAt.fr h hM (fun _ _ h => h)
      have hT := hT.trans' hM (fun _ _ h => h.elim)
      have hb := hM.obj hb id
      match j9, ho, hT0, hl, D, DL with
      | 0, ho, hT0, hl, D, DL =>
        obtain rfl := Option.some.inj ho
        obtain rfl := Option.some.inj hT0
        clear ho hT0
        exact ⟨fun _ => val_wp (fa38_0 rfl (E.get 58 rfl)) rfl hM, fun h => by rw [wanted_none rfl] at h; cases h⟩
      | 1, ho, hT0, hl, D, DL =>
        obtain rfl := Option.some.inj ho
        obtain rfl := Option.some.inj hT0
        clear ho hT0
        exact ⟨fun _ => val_wp (run_ldi rfl (D 0 _ rfl rfl) (bx hb 0 rfl)) rfl hM, fun h => by rw [wanted_none rfl] at h; cases h⟩
      | 2, ho, hT0, hl, D, DL =>
        obtain rfl := Option.some.inj ho
        obtain rfl := Option.some.inj hT0
        clear ho hT0
        exact ⟨fun _ => val_wp ((run_ieql (D 1 _ rfl rfl) rfl Try.underlying3 rfl).trans (by rw [hk2] <;> rfl)) rfl hM, fun h => by rw [wanted_none rfl] at h; cases h⟩
      | 3, ho, hT0, hl, D, DL =>
        obtain rfl := Option.some.inj ho
        obtain rfl := Option.some.inj hT0
        clear ho hT0
        exact ⟨fun _ => val_wp (run_move rfl (D 2 _ rfl rfl)) rfl hM, fun h => by rw [wanted_none rfl] at h; cases h⟩
      | 4, ho, hT0, hl, D, DL =>
        obtain rfl := Option.some.inj ho
        obtain rfl := Option.some.inj hT0
        clear ho hT0
        exact ⟨fun _ => val_wp (run_move rfl (E.get 59 rfl)) rfl hM, fun h => by rw [w_yes (g := 3) (s := 68) (b := true) E rfl rfl (by decide) (D 3 _ rfl rfl)] at h; cases h⟩
      | 5, ho, hT0, hl, D, DL =>
        obtain rfl := Option.some.inj ho
        obtain rfl := Option.some.inj hT0
        clear ho hT0
        exact ⟨fun _ => val_wp (run_nilchk rfl (D 4 _ rfl rfl)) rfl hM, fun h => by rw [w_yes (g := 3) (s := 68) (b := true) E rfl rfl (by decide) (D 3 _ rfl rfl)] at h; cases h⟩
      | 6, ho, hT0, hl, D, DL =>
        obtain rfl := Option.some.inj ho
        obtain rfl := Option.some.inj hT0
        clear ho hT0
        exact ⟨fun _ => val_wp (fa58_at (by decide) rfl (D 5 _ rfl rfl)) rfl hM, fun h => by rw [w_yes (g := 3) (s := 68) (b := true) E rfl rfl (by decide) (D 3 _ rfl rfl)] at h; cases h⟩
      | 7, ho, hT0, hl, D, DL =>
        obtain rfl := Option.some.inj ho
        obtain rfl := Option.some.inj hT0
        clear ho hT0
        exact ⟨fun _ => val_wp (run_ld33 rfl (D 6 _ rfl rfl) h.c1) rfl hM, fun h => by rw [w_yes (g := 3) (s := 68) (b := true) E rfl rfl (by decide) (D 3 _ rfl rfl)] at h; cases h⟩
      | 8, ho, hT0, hl, D, DL =>
        obtain rfl := Option.some.inj ho
        obtain rfl := Option.some.inj hT0
        clear ho hT0
        exact ⟨fun _ => val_wp (fa38_8 rfl (E.get 58 rfl)) rfl hM, fun h => by rw [w_yes (g := 3) (s := 68) (b := true) E rfl rfl (by decide) (D 3 _ rfl rfl)] at h; cases h⟩
      | 9, ho, hT0, hl, D, DL =>
        obtain rfl := Option.some.inj ho
        obtain rfl := Option.some.inj hT0
        clear ho hT0
        exact ⟨fun _ => val_wp (fa36_0 rfl (D 8 _ rfl rfl)) rfl hM, fun h => by rw [w_yes (g := 3) (s := 68) (b := true) E rfl rfl (by decide) (D 3 _ rfl rfl)] at h; cases h⟩
      | 10, ho, hT0, hl, D, DL =>
        obtain rfl := Option.some.inj ho
        obtain rfl := Option.some.inj hT0
        clear ho hT0
        exact ⟨fun _ => val_wp (run_lds rfl (D 9 _ rfl rfl) (bx hb 9 rfl)) rfl hM, fun h => by rw [w_yes (g := 3) (s := 68) (b := true) E rfl rfl (by decide) (D 3 _ rfl rfl)] at h; cases h⟩
      | 11, ho, hT0, hl, D, DL =>
        obtain rfl := Option.some.inj ho
        obtain rfl := Option.some.inj hT0
        clear ho hT0
        exact ⟨fun _ => call_wp (run_call2 (enters_of Try.func24 (by kernel_rfl) rfl) rfl rfl (D 7 _ rfl rfl) (D 10 _ rfl rfl)) (by have h := (h.inC e.oid); rw [hq1] at h; exact h) rfl fun w9 f1 => (hM.trans f1), fun h => by rw [w_yes (g := 3) (s := 68) (b := true) E rfl rfl (by decide) (D 3 _ rfl rfl)] at h; cases h⟩
      | 12, ho, hT0, hl, D, DL =>
        obtain rfl := Option.some.inj ho
        obtain rfl := Option.some.inj hT0
        clear ho hT0
        exact ⟨fun _ => val_wp (run_pick_t rfl (D 3 _ rfl rfl) (D 11 _ rfl rfl)) rfl hM, fun h => by rw [wanted_none rfl] at h; cases h⟩
      | 13, ho, hT0, hl, D, DL =>
        obtain rfl := Option.some.inj ho
        obtain rfl := Option.some.inj hT0
        clear ho hT0
        exact ⟨fun _ => val_wp (run_move rfl (D 12 _ rfl rfl)) rfl hM, fun h => by rw [wanted_none rfl] at h; cases h⟩
      | 14, ho, hT0, hl, D, DL =>
        obtain rfl := Option.some.inj ho
        obtain rfl := Option.some.inj hT0
        clear ho hT0
        exact ⟨fun h => (by rw [w_no (g := 13) (s := 78) (b := false) E rfl rfl (by decide) (D 13 _ rfl rfl)] at h; cases h), fun _ => ⟨fun x hx => by cases hx; rfl, hM⟩⟩
      | 15, ho, hT0, hl, D, DL =>
        obtain rfl := Option.some.inj ho
        obtain rfl := Option.some.inj hT0
        clear ho hT0
        exact ⟨fun h => (by rw [w_no (g := 13) (s := 78) (b := false) E rfl rfl (by decide) (D 13 _ rfl rfl)] at h; cases h), fun _ => ⟨fun x hx => by cases hx; rfl, hM⟩⟩
      | 16, ho, hT0, hl, D, DL =>
        obtain rfl := Option.some.inj ho
        obtain rfl := Option.some.inj hT0
        clear ho hT0
        exact ⟨fun h => (by rw [w_no (g := 13) (s := 78) (b := false) E rfl rfl (by decide) (D 13 _ rfl rfl)] at h; cases h), fun _ => ⟨fun x hx => by cases hx; rfl, hM⟩⟩
      | 17, ho, hT0, hl, D, DL =>
        obtain rfl := Option.some.inj ho
        obtain rfl := Option.some.inj hT0
        clear ho hT0
        exact ⟨fun h => (by rw [w_no (g := 13) (s := 78) (b := false) E rfl rfl (by decide) (D 13 _ rfl rfl)] at h; cases h), fun _ => ⟨fun x hx => by cases hx; rfl, hM⟩⟩
      | 18, ho, hT0, hl, D, DL =>
        obtain rfl := Option.some.inj ho
        obtain rfl := Option.some.inj hT0
        clear ho hT0
        exact ⟨fun h => (by rw [w_nou (g := 17) (s := 82) (b := true) E rfl rfl (by decide) (D 17 _ rfl rfl)] at h; cases h), fun _ => ⟨fun x hx => by cases hx; rfl, hM⟩⟩
      | 19, ho, hT0, hl, D, DL =>
        obtain rfl := Option.some.inj ho
        obtain rfl := Option.some.inj hT0
        clear ho hT0
        exact ⟨fun h => (by rw [w_nou (g := 17) (s := 82) (b := true) E rfl rfl (by decide) (D 17 _ rfl rfl)] at h; cases h), fun _ => ⟨fun x hx => by cases hx; rfl, hM⟩⟩
      | 20, ho, hT0, hl, D, DL =>
        obtain rfl := Option.some.inj ho
        obtain rfl := Option.some.inj hT0
        clear ho hT0
        exact ⟨fun h => (by rw [w_nou (g := 17) (s := 82) (b := true) E rfl rfl (by decide) (D 17 _ rfl rfl)] at h; cases h), fun _ => ⟨fun x hx => by cases hx; rfl, hM⟩⟩
      | 21, ho, hT0, hl, D, DL =>
        obtain rfl := Option.some.inj ho
        obtain rfl := Option.some.inj hT0
        clear ho hT0
        exact ⟨fun h => (by rw [w_nou (g := 17) (s := 82) (b := true) E rfl rfl (by decide) (D 17 _ rfl rfl)] at h; cases h), fun _ => ⟨fun x hx => by cases hx; rfl, hM⟩⟩
      | 22, ho, hT0, hl, D, DL =>
        obtain rfl := Option.some.inj ho
        obtain rfl := Option.some.inj hT0
        clear ho hT0
        exact ⟨fun h => (by rw [w_nou (g := 17) (s := 82) (b := true) E rfl rfl (by decide) (D 17 _ rfl rfl)] at h; cases h), fun _ => ⟨fun x hx => by cases hx; rfl, hM⟩⟩
      | 23, ho, hT0, hl, D, DL =>
        obtain rfl := Option.some.inj ho
        obtain rfl := Option.some.inj hT0
        clear ho hT0
        exact ⟨fun h => (by rw [w_nou (g := 17) (s := 82) (b := true) E rfl rfl (by decide) (D 17 _ rfl rfl)] at h; cases h), fun _ => ⟨fun x hx => by cases hx; rfl, hM⟩⟩
      | 24, ho, hT0, hl, D, DL =>
        obtain rfl := Option.some.inj ho
        obtain rfl := Option.some.inj hT0
        clear ho hT0
        exact ⟨fun h => (by rw [w_nou (g := 17) (s := 82) (b := true) E rfl rfl (by decide) (D 17 _ rfl rfl)] at h; cases h), fun _ => ⟨fun x hx => by cases hx; rfl, hM⟩⟩
      | 25, ho, hT0, hl, D, DL =>
        obtain rfl := Option.some.inj ho
        obtain rfl := Option.some.inj hT0
        clear ho hT0
        exact ⟨fun h => (by rw [w_no (g := 13) (s := 78) (b := false) E rfl rfl (by decide) (D 13 _ rfl rfl)] at h; cases h), fun _ => ⟨fun x hx => by cases hx; rfl, hM⟩⟩
      | 26, ho, hT0, hl, D, DL =>
        obtain rfl := Option.some.inj ho
        obtain rfl := Option.some.inj hT0
        clear ho hT0
        exact ⟨fun _ => val_wp (run_pick_t rfl (D 13 _ rfl rfl) rfl) rfl hM, fun h => by rw [wanted_none rfl] at h; cases h⟩
      | j9 + 27, ho, hT0, hl, D, DL => exact absurd hT0 (by simp)
    · intro a w5 E V hM
      have E := E.add (V 26 _ rfl)
      clear V
      have h := RefAt.fr h hM (fun _ _ h => h)
      have hT := hT.trans' hM (fun _ _ h => h.elim)
      have hb := hM.obj hb id
      clear hM
      refine then_n ?_
      refine wp_cond_true (E.get 0 rfl) ?_
      refine wp_seq ?_
      refine wp_region_lit ?_
      refine env_set (d := 4) (v := .int .i64 9) E rfl (by decide) (wanted_none rfl _) (run_assign rfl rfl) fun a E => ?_
      refine wpList_nil ?_
      refine then_n ?_
      refine wp_ret ?_
      refine then_r ?_
      have hE : refE R e = 9 := by
        simp [refE, followE, Edt.bad, Edt.two, Edt.fresh, linR, hop, hq1]
      have hR : (if refE R e = 0 then refF R e else R) = R := if_neg (by rw [hE]; decide)
      refine ret_tmp (t := 4) rfl E (E.get 0 rfl) ⟨by rw [hE], _, ?_, hT, hS⟩
      rw [hR]; exact ⟨_, _, h⟩
set_option maxRecDepth 100000 in
set_option maxHeartbeats 8000000 in
theorem rfol_5 {w : World} {r : Nat} {σ : Nat → Prop} {R : RefS} {pv mv : Value} (h : RefAt w r σ R pv mv) (hb1 : R.ms.length ≤ 40000) (hb2 : R.ps.length ≤ 40000) (e : Edt) (hop : e.op = 5) : Calls Try.prog 15 #[.pointer (some ⟨r, 0, none⟩), .agg e.cells] w (RPost r σ (if refE R e = 0 then refF R e else R) (.int .i64 (refE R e)) w) := by
  refine wp_start2 Try.func15 rfl rfl (n := 174) (by decide) fun a E => ?_
  have hT : Fr σ w w := Fr.refl _ _
  have hS : ∀ k, k < w.heap.size → σ k → σ k := fun _ _ h => h
  have hk0 : (e.op == 6) = false := by rw [beq_eq_false_iff_ne]; omega
  have hk1 : (e.op == 7) = false := by rw [beq_eq_false_iff_ne]; omega
  have hk2 : (e.op == 1) = false := by rw [beq_eq_false_iff_ne]; omega
  have hk3 : (e.op == 5) = true := by simp only [beq_iff_eq]; omega
  have hk4 : (e.op != 1) = true := by rw [bne_iff_ne]; omega
  have hk5 : (decide (e.op < 1)) = false := by exact decide_eq_false (by omega)
  have hk6 : (decide (7 < e.op)) = false := by exact decide_eq_false (by omega)
  refine wp_seq ?_
  refine wp_region_lit ?_
  refine env_box38 (d := 3) E rfl (by decide) rfl (wanted_none rfl _) rfl (E.get 1 rfl) fun a w1 b0 e0 hb f1 E => ?_
  have hnb : ¬ σ b0 := fun hh => by have := h.lt b0 hh; omega
  have h := h.fr f1 (fun _ _ h => h)
  have hT := hT.trans' f1 (fun _ _ h => h.elim)
  clear f1 e0
  obtain ⟨pa1, ca1, hva, _⟩ := h.msrc
  subst hva
  refine env_put (d := 4) (v := .int .i64 0) E rfl (by decide) rfl (wanted_none rfl _) (run_assign rfl rfl) fun a E => ?_
  refine wpList_nil ?_
  refine then_n ?_
  refine wp_seq ?_
  refine wp_region_lit ?_
  refine env_put (d := 9) (v := .pointer (some ⟨b0, 0, none⟩)) E rfl (by decide) rfl (wanted_none rfl _) (fa38_0 rfl (E.get 1 rfl)) fun a E => ?_
  refine env_put (d := 10) (v := .int .i64 e.op) E rfl (by decide) rfl (wanted_none rfl _) (run_ldi rfl (E.get 0 rfl) (bx hb 0 rfl)) fun a E => ?_
  refine env_put (d := 11) (v := .bool false) E rfl (by decide) rfl (wanted_none rfl _) ((run_ieql (E.get 0 rfl) rfl Try.underlying3 rfl).trans (by rw [hk0] <;> rfl)) fun a E => ?_
  refine env_put (d := 12) (v := .bool false) E rfl (by decide) rfl (wanted_none rfl _) (run_move rfl (E.get 0 rfl)) fun a E => ?_
  refine env_put (d := 13) (v := .pointer (some ⟨b0, 0, none⟩)) E rfl (by decide) rfl (w_yes (g := 3) (s := 12) E rfl rfl (by decide) (E.get 0 rfl)) (fa38_0 rfl (E.get 5 rfl)) fun a E => ?_
  refine env_put (d := 14) (v := .int .i64 e.op) E rfl (by decide) rfl (w_yes (g := 3) (s := 12) E rfl rfl (by decide) (E.get 1 rfl)) (run_ldi rfl (E.get 0 rfl) (bx hb 0 rfl)) fun a E => ?_
  refine env_put (d := 15) (v := .bool false) E rfl (by decide) rfl (w_yes (g := 3) (s := 12) E rfl rfl (by decide) (E.get 2 rfl)) ((run_ieql (E.get 0 rfl) rfl Try.underlying3 rfl).trans (by rw [hk1] <;> rfl)) fun a E => ?_
  refine env_put (d := 16) (v := .bool false) E rfl (by decide) rfl (wanted_none rfl _) (run_pick_f rfl (E.get 3 rfl) (E.get 0 rfl)) fun a E => ?_
  refine env_put (d := 5) (v := .bool false) E rfl (by decide) rfl (wanted_none rfl _) (run_assign rfl (E.get 0 rfl)) fun a E => ?_
  refine wpList_nil ?_
  refine then_n ?_
  refine wp_seq ?_
  refine wp_seq ?_
  refine wp_region_lit ?_
  refine env_put (d := 17) (v := .pointer (some ⟨r, 0, none⟩)) E rfl (by decide) rfl (wanted_none rfl _) (run_move rfl (E.get 11 rfl)) fun a E => ?_
  refine env_put (d := 18) (v := .bool false) E rfl (by decide) rfl (wanted_none rfl _) (run_pnil rfl (E.get 0 rfl) rfl) fun a E => ?_
  refine env_put (d := 19) (v := .bool false) E rfl (by decide) rfl (wanted_none rfl _) (run_move rfl (E.get 0 rfl)) fun a E => ?_
  refine env_put (d := 20) (v := .pointer (some ⟨b0, 0, none⟩)) E rfl (by decide) rfl (w_yes (g := 2) (s := 19) E rfl rfl (by decide) (E.get 0 rfl)) (fa38_0 rfl (E.get 13 rfl)) fun a E => ?_
  refine env_put (d := 21) (v := .int .i64 e.op) E rfl (by decide) rfl (w_yes (g := 2) (s := 19) E rfl rfl (by decide) (E.get 1 rfl)) (run_ldi rfl (E.get 0 rfl) (bx hb 0 rfl)) fun a E => ?_
  refine env_put (d := 22) (v := .bool false) E rfl (by decide) rfl (w_yes (g := 2) (s := 19) E rfl rfl (by decide) (E.get 2 rfl)) ((run_ilss (E.get 0 rfl) rfl Try.underlying3 rfl).trans (by rw [hk5] <;> rfl)) fun a E => ?_
  refine env_put (d := 23) (v := .bool false) E rfl (by decide) rfl (wanted_none rfl _) (run_pick_f rfl (E.get 3 rfl) (E.get 0 rfl)) fun a E => ?_
  refine env_put (d := 24) (v := .bool false) E rfl (by decide) rfl (wanted_none rfl _) (run_move rfl (E.get 0 rfl)) fun a E => ?_
  refine env_put (d := 25) (v := .pointer (some ⟨b0, 0, none⟩)) E rfl (by decide) rfl (w_yes (g := 7) (s := 24) E rfl rfl (by decide) (E.get 0 rfl)) (fa38_0 rfl (E.get 18 rfl)) fun a E => ?_
  refine env_put (d := 26) (v := .int .i64 e.op) E rfl (by decide) rfl (w_yes (g := 7) (s := 24) E rfl rfl (by decide) (E.get 1 rfl)) (run_ldi rfl (E.get 0 rfl) (bx hb 0 rfl)) fun a E => ?_
  refine env_put (d := 27) (v := .bool false) E rfl (by decide) rfl (w_yes (g := 7) (s := 24) E rfl rfl (by decide) (E.get 2 rfl)) ((run_igtr (E.get 0 rfl) rfl Try.underlying3 rfl).trans (by rw [hk6] <;> rfl)) fun a E => ?_
  refine env_put (d := 28) (v := .bool false) E rfl (by decide) rfl (wanted_none rfl _) (run_pick_f rfl (E.get 3 rfl) (E.get 0 rfl)) fun a E => ?_
  refine env_put (d := 29) (v := .bool false) E rfl (by decide) rfl (wanted_none rfl _) (run_move rfl (E.get 0 rfl)) fun a E => ?_
  refine env_put (d := 30) (v := .bool false) E rfl (by decide) rfl (w_yes (g := 12) (s := 29) E rfl rfl (by decide) (E.get 0 rfl)) (run_move rfl (E.get 13 rfl)) fun a E => ?_
  refine env_put (d := 31) (v := .bool false) E rfl (by decide) rfl (w_yes (g := 12) (s := 29) E rfl rfl (by decide) (E.get 1 rfl)) (run_move rfl (E.get 0 rfl)) fun a E => ?_
  refine env_skip (d := 32) (g := 14) (s := 31) E rfl (by decide) rfl rfl rfl (by decide) (E.get 0 rfl) fun a E => ?_
  refine env_skip (d := 33) (g := 14) (s := 31) E rfl (by decide) rfl rfl rfl (by decide) (E.get 1 rfl) fun a E => ?_
  refine env_skip (d := 34) (g := 14) (s := 31) E rfl (by decide) rfl rfl rfl (by decide) (E.get 2 rfl) fun a E => ?_
  refine env_skip (d := 35) (g := 14) (s := 31) E rfl (by decide) rfl rfl rfl (by decide) (E.get 3 rfl) fun a E => ?_
  refine env_skip (d := 36) (g := 14) (s := 31) E rfl (by decide) rfl rfl rfl (by decide) (E.get 4 rfl) fun a E => ?_
  refine env_put (d := 37) (v := .bool false) E rfl (by decide) rfl (w_yes (g := 12) (s := 29) E rfl rfl (by decide) (E.get 7 rfl)) (run_pick_f rfl (E.get 5 rfl) rfl) fun a E => ?_
  refine env_put (d := 38) (v := .bool false) E rfl (by decide) rfl (wanted_none rfl _) (run_pick_f rfl (E.get 8 rfl) (E.get 0 rfl)) fun a E => ?_
  refine wpList_nil ?_
  refine then_n ?_
  refine wp_cond_false (E.get 0 rfl) ?_
  refine wp_skip ?_
  refine then_n ?_
  refine wp_seq ?_
  refine wp_seq ?_
  refine wp_region_lit ?_
  refine env_put (d := 39) (v := .pointer (some ⟨b0, 0, none⟩)) E rfl (by decide) rfl (wanted_none rfl _) (fa38_0 rfl (E.get 32 rfl)) fun a E => ?_
  refine env_put (d := 40) (v := .int .i64 e.op) E rfl (by decide) rfl (wanted_none rfl _) (run_ldi rfl (E.get 0 rfl) (bx hb 0 rfl)) fun a E => ?_
  refine env_put (d := 41) (v := .bool true) E rfl (by decide) rfl (wanted_none rfl _) ((run_ineq (E.get 0 rfl) rfl Try.underlying3 rfl).trans (by rw [hk4] <;> rfl)) fun a E => ?_
  refine env_put (d := 42) (v := .bool true) E rfl (by decide) rfl (wanted_none rfl _) (run_move rfl (E.get 0 rfl)) fun a E => ?_
  refine env_put (d := 43) (v := .pointer (some ⟨r, 0, none⟩)) E rfl (by decide) rfl (w_yes (g := 3) (s := 42) E rfl rfl (by decide) (E.get 0 rfl)) (run_move rfl (E.get 37 rfl)) fun a E => ?_
  refine env_put (d := 44) (v := .pointer (some ⟨b0, 1, none⟩)) E rfl (by decide) rfl (w_yes (g := 3) (s := 42) E rfl rfl (by decide) (E.get 1 rfl)) (fa38_1 rfl (E.get 37 rfl)) fun a E => ?_
  refine env_put (d := 45) (v := .string e.id) E rfl (by decide) rfl (w_yes (g := 3) (s := 42) E rfl rfl (by decide) (E.get 2 rfl)) (run_lds rfl (E.get 0 rfl) (bx hb 1 rfl)) fun a E => ?_
  refine env_put (d := 46) (v := .pointer (some ⟨b0, 1, none⟩)) E rfl (by decide) rfl (w_yes (g := 3) (s := 42) E rfl rfl (by decide) (E.get 3 rfl)) (fa38_1 rfl (E.get 39 rfl)) fun a E => ?_
  refine env_put (d := 47) (v := .string e.id) E rfl (by decide) rfl (w_yes (g := 3) (s := 42) E rfl rfl (by decide) (E.get 4 rfl)) (run_lds rfl (E.get 0 rfl) (bx hb 1 rfl)) fun a E => ?_
  refine env_call (d := 48) (v := .bool (pairB R e.id e.id)) E rfl (by decide) rfl (w_yes (g := 3) (s := 42) E rfl rfl (by decide) (E.get 5 rfl)) (run_call3 (enters_of Try.func32 (by kernel_rfl) rfl) rfl rfl (E.get 4 rfl) (E.get 2 rfl) (E.get 0 rfl)) (h.pairC e.id e.id) fun a w1 f1 E => ?_
  have h := RefAt.fr h f1 (fun _ _ h => h)
  have hT := hT.trans' f1 (fun _ _ h => h.elim)
  have hb := f1.obj hb id
  clear f1
  refine env_put (d := 49) (v := .bool (!(pairB R e.id e.id))) E rfl (by decide) rfl (w_yes (g := 3) (s := 42) E rfl rfl (by decide) (E.get 6 rfl)) (run_not rfl (E.get 0 rfl)) fun a E => ?_
  refine env_put (d := 50) (v := .bool (!(pairB R e.id e.id))) E rfl (by decide) rfl (wanted_none rfl _) (run_pick_t rfl (E.get 7 rfl) (E.get 0 rfl)) fun a E => ?_
  refine env_put (d := 51) (v := .bool (!(pairB R e.id e.id))) E rfl (by decide) rfl (wanted_none rfl _) (run_move rfl (E.get 0 rfl)) fun a E => ?_
  cases hq4 : (pairB R e.id e.id) with
  | false =>
    rw [hq4] at E
    refine env_skip (d := 52) (g := 12) (s := 51) E rfl (by decide) rfl rfl rfl (by decide) (E.get 0 rfl) fun a E => ?_
    refine env_skip (d := 53) (g := 12) (s := 51) E rfl (by decide) rfl rfl rfl (by decide) (E.get 1 rfl) fun a E => ?_
    refine env_skip (d := 54) (g := 12) (s := 51) E rfl (by decide) rfl rfl rfl (by decide) (E.get 2 rfl) fun a E => ?_
    refine env_skip (d := 55) (g := 12) (s := 51) E rfl (by decide) rfl rfl rfl (by decide) (E.get 3 rfl) fun a E => ?_
    refine env_skipu (d := 56) (g := 16) (s := 55) E rfl (by decide) rfl rfl rfl (by decide) (E.get 0 rfl) fun a E => ?_
    refine env_skipu (d := 57) (g := 16) (s := 55) E rfl (by decide) rfl rfl rfl (by decide) (E.get 1 rfl) fun a E => ?_
    refine env_skipu (d := 58) (g := 16) (s := 55) E rfl (by decide) rfl rfl rfl (by decide) (E.get 2 rfl) fun a E => ?_
    refine env_skipu (d := 59) (g := 16) (s := 55) E rfl (by decide) rfl rfl rfl (by decide) (E.get 3 rfl) fun a E => ?_
    refine env_skipu (d := 60) (g := 16) (s := 55) E rfl (by decide) rfl rfl rfl (by decide) (E.get 4 rfl) fun a E => ?_
    refine env_skipu (d := 61) (g := 16) (s := 55) E rfl (by decide) rfl rfl rfl (by decide) (E.get 5 rfl) fun a E => ?_
    refine env_skipu (d := 62) (g := 16) (s := 55) E rfl (by decide) rfl rfl rfl (by decide) (E.get 6 rfl) fun a E => ?_
    refine env_skip (d := 63) (g := 12) (s := 51) E rfl (by decide) rfl rfl rfl (by decide) (E.get 11 rfl) fun a E => ?_
    refine env_put (d := 64) (v := .bool true) E rfl (by decide) rfl (wanted_none rfl _) (run_pick_t rfl (E.get 12 rfl) rfl) fun a E => ?_
    refine wpList_nil ?_
    refine then_n ?_
    refine wp_cond_true (E.get 0 rfl) ?_
    refine wp_seq ?_
    refine wp_region_lit ?_
    refine env_set (d := 4) (v := .int .i64 11) E rfl (by decide) (wanted_none rfl _) (run_assign rfl rfl) fun a E => ?_
    refine wpList_nil ?_
    refine then_n ?_
    refine wp_ret ?_
    refine then_r ?_
    have hE : refE R e = 11 := by
      simp [refE, followE, Edt.bad, Edt.two, Edt.fresh, linR, hop, hq4]
    have hR : (if refE R e = 0 then refF R e else R) = R := if_neg (by rw [hE]; decide)
    refine ret_tmp (t := 4) rfl E (E.get 0 rfl) ⟨by rw [hE], _, ?_, hT, hS⟩
    rw [hR]; exact ⟨_, _, h⟩
  | true =>
    rw [hq4] at E
    refine env_put (d := 52) (v := .pointer (some ⟨b0, 0, none⟩)) E rfl (by decide) rfl (w_yes (g := 12) (s := 51) E rfl rfl (by decide) (E.get 0 rfl)) (fa38_0 rfl (E.get 45 rfl)) fun a E => ?_
    refine env_put (d := 53) (v := .int .i64 e.op) E rfl (by decide) rfl (w_yes (g := 12) (s := 51) E rfl rfl (by decide) (E.get 1 rfl)) (run_ldi rfl (E.get 0 rfl) (bx hb 0 rfl)) fun a E => ?_
    refine env_put (d := 54) (v := .bool false) E rfl (by decide) rfl (w_yes (g := 12) (s := 51) E rfl rfl (by decide) (E.get 2 rfl)) ((run_ieql (E.get 0 rfl) rfl Try.underlying3 rfl).trans (by rw [hk1] <;> rfl)) fun a E => ?_
    refine env_put (d := 55) (v := .bool false) E rfl (by decide) rfl (w_yes (g := 12) (s := 51) E rfl rfl (by decide) (E.get 3 rfl)) (run_move rfl (E.get 0 rfl)) fun a E => ?_
    refine env_skip (d := 56) (g := 16) (s := 55) E rfl (by decide) rfl rfl rfl (by decide) (E.get 0 rfl) fun a E => ?_
    refine env_skip (d := 57) (g := 16) (s := 55) E rfl (by decide) rfl rfl rfl (by decide) (E.get 1 rfl) fun a E => ?_
    refine env_skip (d := 58) (g := 16) (s := 55) E rfl (by decide) rfl rfl rfl (by decide) (E.get 2 rfl) fun a E => ?_
    refine env_skip (d := 59) (g := 16) (s := 55) E rfl (by decide) rfl rfl rfl (by decide) (E.get 3 rfl) fun a E => ?_
    refine env_skip (d := 60) (g := 16) (s := 55) E rfl (by decide) rfl rfl rfl (by decide) (E.get 4 rfl) fun a E => ?_
    refine env_skip (d := 61) (g := 16) (s := 55) E rfl (by decide) rfl rfl rfl (by decide) (E.get 5 rfl) fun a E => ?_
    refine env_skip (d := 62) (g := 16) (s := 55) E rfl (by decide) rfl rfl rfl (by decide) (E.get 6 rfl) fun a E => ?_
    refine env_put (d := 63) (v := .bool false) E rfl (by decide) rfl (w_yes (g := 12) (s := 51) E rfl rfl (by decide) (E.get 11 rfl)) (run_pick_f rfl (E.get 7 rfl) rfl) fun a E => ?_
    refine env_put (d := 64) (v := .bool false) E rfl (by decide) rfl (wanted_none rfl _) (run_pick_f rfl (E.get 12 rfl) (E.get 0 rfl)) fun a E => ?_
    refine wpList_nil ?_
    refine then_n ?_
    refine wp_cond_false (E.get 0 rfl) ?_
    refine wp_skip ?_
    refine then_n ?_
    refine wp_seq ?_
    refine wp_seq ?_
    refine wp_region_invg (n := 174) (base := [(64, .bool false), (63, .bool false), (62, undef), (61, undef), (60, undef), (59, undef), (58, undef), (57, undef), (56, undef), (55, .bool false), (54, .bool false), (53, .int .i64 e.op), (52, .pointer (some ⟨b0, 0, none⟩)), (51, .bool false), (50, .bool false), (49, .bool false), (48, .bool true), (47, .string e.id), (46, .pointer (some ⟨b0, 1, none⟩)), (45, .string e.id), (44, .pointer (some ⟨b0, 1, none⟩)), (43, .pointer (some ⟨r, 0, none⟩)), (42, .bool true), (41, .bool true), (40, .int .i64 e.op), (39, .pointer (some ⟨b0, 0, none⟩)), (38, .bool false), (37, .bool false), (36, undef), (35, undef), (34, undef), (33, undef), (32, undef), (31, .bool false), (30, .bool false), (29, .bool false), (28, .bool false), (27, .bool false), (26, .int .i64 e.op), (25, .pointer (some ⟨b0, 0, none⟩)), (24, .bool false), (23, .bool false), (22, .bool false), (21, .int .i64 e.op), (20, .pointer (some ⟨b0, 0, none⟩)), (19, .bool false), (18, .bool false), (17, .pointer (some ⟨r, 0, none⟩)), (5, .bool false), (16, .bool false), (15, .bool false), (14, .int .i64 e.op), (13, .pointer (some ⟨b0, 0, none⟩)), (12, .bool false), (11, .bool false), (10, .int .i64 e.op), (9, .pointer (some ⟨b0, 0, none⟩)), (4, .int .i64 0), (3, .pointer (some ⟨b0, 0, none⟩)), (0, .pointer (some ⟨r, 0, none⟩)), (1, .agg e.cells)]) (T := [some (65, .pointer (some ⟨b0, 0, none⟩)), some (66, .int .i64 e.op), some (67, .bool false), some (68, .bool false), some (69, undef), some (70, undef), some (71, undef), some (72, undef), some (73, undef), some (74, undef), some (75, undef), some (76, undef), some (77, .bool false), some (78, .bool false), some (79, .pointer (some ⟨b0, 0, none⟩)), some (80, .int .i64 e.op), some (81, .bool false), some (82, .bool false), some (83, undef), some (84, undef), some (85, undef), some (86, undef), some (87, undef), some (88, undef), some (89, undef), some (90, .bool false), some (91, .bool false)]) (M := fun _ wm => Fr (fun _ => False) w1 wm) (by kernel_rfl) (by kernel_rfl) (by kernel_rfl) (E.of ⟨E.get 0 rfl, E.get 1 rfl, E.get 2 rfl, E.get 3 rfl, E.get 4 rfl, E.get 5 rfl, E.get 6 rfl, E.get 7 rfl, E.get 8 rfl, E.get 9 rfl, E.get 10 rfl, E.get 11 rfl, E.get 12 rfl, E.get 13 rfl, E.get 14 rfl, E.get 15 rfl, E.get 16 rfl, E.get 17 rfl, E.get 18 rfl, E.get 19 rfl, E.get 20 rfl, E.get 21 rfl, E.get 22 rfl, E.get 23 rfl, E.get 24 rfl, E.get 25 rfl, E.get 26 rfl, E.get 27 rfl, E.get 28 rfl, E.get 29 rfl, E.get 30 rfl, E.get 31 rfl, E.get 32 rfl, E.get 33 rfl, E.get 34 rfl, E.get 35 rfl, E.get 36 rfl, E.get 37 rfl, E.get 38 rfl, E.get 39 rfl, E.get 40 rfl, E.get 41 rfl, E.get 42 rfl, E.get 43 rfl, E.get 44 rfl, E.get 45 rfl, E.get 46 rfl, E.get 47 rfl, E.get 48 rfl, E.get 49 rfl, E.get 50 rfl, E.get 51 rfl, E.get 52 rfl, E.get 53 rfl, E.get 54 rfl, E.get 55 rfl, E.get 56 rfl, E.get 57 rfl, E.get 58 rfl, E.get 59 rfl, E.get 60 rfl, trivial⟩) (Fr.refl _ _).drew ?_ ?_
    · intro j9 o9 t9 ls9 a w5 ho hT0 hl E D DL hM
      have h := RefAt.fr h hM (fun _ _ h => h)
      have hT := hT.trans' hM (fun _ _ h => h.elim)
      have hb := hM.obj hb id
      match j9, ho, hT0, hl, D, DL with
      | 0, ho, hT0, hl, D, DL =>
        obtain rfl := Option.some.inj ho
        obtain rfl := Option.some.inj hT0
        clear ho hT0
        exact ⟨fun _ => val_wp (fa38_0 rfl (E.get 58 rfl)) rfl hM, fun h => by rw [wanted_none rfl] at h; cases h⟩
      | 1, ho, hT0, hl, D, DL =>
        obtain rfl := Option.some.inj ho
        obtain rfl := Option.some.inj hT0
        clear ho hT0
        exact ⟨fun _ => val_wp (run_ldi rfl (D 0 _ rfl rfl) (bx hb 0 rfl)) rfl hM, fun h => by rw [wanted_none rfl] at h; cases h⟩
      | 2, ho, hT0, hl, D, DL =>
        obtain rfl := Option.some.inj ho
        obtain rfl := Option.some.inj hT0
        clear ho hT0
        exact ⟨fun _ => val_wp ((run_ieql (D 1 _ rfl rfl) rfl Try.underlying3 rfl).trans (by rw [hk2] <;> rfl)) rfl hM, fun h => by rw [wanted_none rfl] at h; cases h⟩
      | 3, ho, hT0, hl, D, DL =>
        obtain rfl := Option.some.inj ho
        obtain rfl := Option.some.inj hT0
        clear ho hT0
        exact ⟨fun _ => val_wp (run_move rfl (D 2 _ rfl rfl)) rfl hM, fun h => by rw [wanted_none rfl] at h; cases h⟩
      | 4, ho, hT0, hl, D, DL =>
        obtain rfl := Option.some.inj ho
        obtain rfl := Option.some.inj hT0
        clear ho hT0
        exact ⟨fun h => (by rw [w_no (g := 3) (s := 68) (b := true) E rfl rfl (by decide) (D 3 _ rfl rfl)] at h; cases h), fun _ => ⟨fun x hx => by cases hx; rfl, hM⟩⟩
      | 5, ho, hT0, hl, D, DL =>
        obtain rfl := Option.some.inj ho
        obtain rfl := Option.some.inj hT0
        clear ho hT0
        exact ⟨fun h => (by rw [w_no (g := 3) (s := 68) (b := true) E rfl rfl (by decide) (D 3 _ rfl rfl)] at h; cases h), fun _ => ⟨fun x hx => by cases hx; rfl, hM⟩⟩
      | 6, ho, hT0, hl, D, DL =>
        obtain rfl := Option.some.inj ho
        obtain rfl := Option.some.inj hT0
        clear ho hT0
        exact ⟨fun h => (by rw [w_no (g := 3) (s := 68) (b := true) E rfl rfl (by decide) (D 3 _ rfl rfl)] at h; cases h), fun _ => ⟨fun x hx => by cases hx; rfl, hM⟩⟩
      | 7, ho, hT0, hl, D, DL =>
        obtain rfl := Option.some.inj ho
        obtain rfl := Option.some.inj hT0
        clear ho hT0
        exact ⟨fun h => (by rw [w_no (g := 3) (s := 68) (b := true) E rfl rfl (by decide) (D 3 _ rfl rfl)] at h; cases h), fun _ => ⟨fun x hx => by cases hx; rfl, hM⟩⟩
      | 8, ho, hT0, hl, D, DL =>
        obtain rfl := Option.some.inj ho
        obtain rfl := Option.some.inj hT0
        clear ho hT0
        exact ⟨fun h => (by rw [w_no (g := 3) (s := 68) (b := true) E rfl rfl (by decide) (D 3 _ rfl rfl)] at h; cases h), fun _ => ⟨fun x hx => by cases hx; rfl, hM⟩⟩
      | 9, ho, hT0, hl, D, DL =>
        obtain rfl := Option.some.inj ho
        obtain rfl := Option.some.inj hT0
        clear ho hT0
        exact ⟨fun h => (by rw [w_no (g := 3) (s := 68) (b := true) E rfl rfl (by decide) (D 3 _ rfl rfl)] at h; cases h), fun _ => ⟨fun x hx => by cases hx; rfl, hM⟩⟩
      | 10, ho, hT0, hl, D, DL =>
        obtain rfl := Option.some.inj ho
        obtain rfl := Option.some.inj hT0
        clear ho hT0
        exact ⟨fun h => (by rw [w_no (g := 3) (s := 68) (b := true) E rfl rfl (by decide) (D 3 _ rfl rfl)] at h; cases h), fun _ => ⟨fun x hx => by cases hx; rfl, hM⟩⟩
      | 11, ho, hT0, hl, D, DL =>
        obtain rfl := Option.some.inj ho
        obtain rfl := Option.some.inj hT0
        clear ho hT0
        exact ⟨fun h => (by rw [w_no (g := 3) (s := 68) (b := true) E rfl rfl (by decide) (D 3 _ rfl rfl)] at h; cases h), fun _ => ⟨fun x hx => by cases hx; rfl, hM⟩⟩
      | 12, ho, hT0, hl, D, DL =>
        obtain rfl := Option.some.inj ho
        obtain rfl := Option.some.inj hT0
        clear ho hT0
        exact ⟨fun _ => val_wp (run_pick_f rfl (D 3 _ rfl rfl) rfl) rfl hM, fun h => by rw [wanted_none rfl] at h; cases h⟩
      | 13, ho, hT0, hl, D, DL =>
        obtain rfl := Option.some.inj ho
        obtain rfl := Option.some.inj hT0
        clear ho hT0
        exact ⟨fun _ => val_wp (run_move rfl (D 12 _ rfl rfl)) rfl hM, fun h => by rw [wanted_none rfl] at h; cases h⟩
      | 14, ho, hT0, hl, D, DL =>
        obtain rfl := Option.some.inj ho
        obtain rfl := Option.some.inj hT0
        clear ho hT0
        exact ⟨fun _ => val_wp (fa38_0 rfl (E.get 58 rfl)) rfl hM, fun h => by rw [w_yes (g := 13) (s := 78) (b := false) E rfl rfl (by decide) (D 13 _ rfl rfl)] at h; cases h⟩
      | 15, ho, hT0, hl, D, DL =>
        obtain rfl := Option.some.inj ho
        obtain rfl := Option.some.inj hT0
        clear ho hT0
        exact ⟨fun _ => val_wp (run_ldi rfl (D 14 _ rfl rfl) (bx hb 0 rfl)) rfl hM, fun h => by rw [w_yes (g := 13) (s := 78) (b := false) E rfl rfl (by decide) (D 13 _ rfl rfl)] at h; cases h⟩
      | 16, ho, hT0, hl, D, DL =>
        obtain rfl := Option.some.inj ho
        obtain rfl := Option.some.inj hT0
        clear ho hT0
        exact ⟨fun _ => val_wp ((run_ieql (D 15 _ rfl rfl) rfl Try.underlying3 rfl).trans (by rw [hk0] <;> rfl)) rfl hM, fun h => by rw [w_yes (g := 13) (s := 78) (b := false) E rfl rfl (by decide) (D 13 _ rfl rfl)] at h; cases h⟩
      | 17, ho, hT0, hl, D, DL =>
        obtain rfl := Option.some.inj ho
        obtain rfl := Option.some.inj hT0
        clear ho hT0
        exact ⟨fun _ => val_wp (run_move rfl (D 16 _ rfl rfl)) rfl hM, fun h => by rw [w_yes (g := 13) (s := 78) (b := false) E rfl rfl (by decide) (D 13 _ rfl rfl)] at h; cases h⟩
      | 18, ho, hT0, hl, D, DL =>
        obtain rfl := Option.some.inj ho
        obtain rfl := Option.some.inj hT0
        clear ho hT0
        exact ⟨fun h => (by rw [w_no (g := 17) (s := 82) (b := true) E rfl rfl (by decide) (D 17 _ rfl rfl)] at h; cases h), fun _ => ⟨fun x hx => by cases hx; rfl, hM⟩⟩
      | 19, ho, hT0, hl, D, DL =>
        obtain rfl := Option.some.inj ho
        obtain rfl := Option.some.inj hT0
        clear ho hT0
        exact ⟨fun h => (by rw [w_no (g := 17) (s := 82) (b := true) E rfl rfl (by decide) (D 17 _ rfl rfl)] at h; cases h), fun _ => ⟨fun x hx => by cases hx; rfl, hM⟩⟩
      | 20, ho, hT0, hl, D, DL =>
        obtain rfl := Option.some.inj ho
        obtain rfl := Option.some.inj hT0
        clear ho hT0
        exact ⟨fun h => (by rw [w_no (g := 17) (s := 82) (b := true) E rfl rfl (by decide) (D 17 _ rfl rfl)] at h; cases h), fun _ => ⟨fun x hx => by cases hx; rfl, hM⟩⟩
      | 21, ho, hT0, hl, D, DL =>
        obtain rfl := Option.some.inj ho
        obtain rfl := Option.some.inj hT0
        clear ho hT0
        exact ⟨fun h => (by rw [w_no (g := 17) (s := 82) (b := true) E rfl rfl (by decide) (D 17 _ rfl rfl)] at h; cases h), fun _ => ⟨fun x hx => by cases hx; rfl, hM⟩⟩
      | 22, ho, hT0, hl, D, DL =>
        obtain rfl := Option.some.inj ho
        obtain rfl := Option.some.inj hT0
        clear ho hT0
        exact ⟨fun h => (by rw [w_no (g := 17) (s := 82) (b := true) E rfl rfl (by decide) (D 17 _ rfl rfl)] at h; cases h), fun _ => ⟨fun x hx => by cases hx; rfl, hM⟩⟩
      | 23, ho, hT0, hl, D, DL =>
        obtain rfl := Option.some.inj ho
        obtain rfl := Option.some.inj hT0
        clear ho hT0
        exact ⟨fun h => (by rw [w_no (g := 17) (s := 82) (b := true) E rfl rfl (by decide) (D 17 _ rfl rfl)] at h; cases h), fun _ => ⟨fun x hx => by cases hx; rfl, hM⟩⟩
      | 24, ho, hT0, hl, D, DL =>
        obtain rfl := Option.some.inj ho
        obtain rfl := Option.some.inj hT0
        clear ho hT0
        exact ⟨fun h => (by rw [w_no (g := 17) (s := 82) (b := true) E rfl rfl (by decide) (D 17 _ rfl rfl)] at h; cases h), fun _ => ⟨fun x hx => by cases hx; rfl, hM⟩⟩
      | 25, ho, hT0, hl, D, DL =>
        obtain rfl := Option.some.inj ho
        obtain rfl := Option.some.inj hT0
        clear ho hT0
        exact ⟨fun _ => val_wp (run_pick_f rfl (D 17 _ rfl rfl) rfl) rfl hM, fun h => by rw [w_yes (g := 13) (s := 78) (b := false) E rfl rfl (by decide) (D 13 _ rfl rfl)] at h; cases h⟩
      | 26, ho, hT0, hl, D, DL =>
        obtain rfl := Option.some.inj ho
        obtain rfl := Option.some.inj hT0
        clear ho hT0
        exact ⟨fun _ => val_wp (run_pick_f rfl (D 13 _ rfl rfl) (D 25 _ rfl rfl)) rfl hM, fun h => by rw [wanted_none rfl] at h; cases h⟩
      | j9 + 27, ho, hT0, hl, D, DL => exact absurd hT0 (by simp)
    · intro a w5 E V hM
      have E := E.add (V 26 _ rfl)
      clear V
      have h := RefAt.fr h hM (fun _ _ h => h)
      have hT := hT.trans' hM (fun _ _ h => h.elim)
      have hb := hM.obj hb id
      clear hM
      refine then_n ?_
      refine wp_cond_false (E.get 0 rfl) ?_
      refine wp_skip ?_
      refine then_n ?_
      refine wp_seq ?_
      refine wp_seq ?_
      refine wp_region_lit ?_
      refine env_put (d := 92) (v := .pointer (some ⟨b0, 0, none⟩)) E rfl (by decide) rfl (wanted_none rfl _) (fa38_0 rfl (E.get 59 rfl)) fun a E => ?_
      refine env_put (d := 93) (v := .int .i64 e.op) E rfl (by decide) rfl (wanted_none rfl _) (run_ldi rfl (E.get 0 rfl) (bx hb 0 rfl)) fun a E => ?_
      refine env_put (d := 94) (v := .bool false) E rfl (by decide) rfl (wanted_none rfl _) ((run_ieql (E.get 0 rfl) rfl Try.underlying3 rfl).trans (by rw [hk2] <;> rfl)) fun a E => ?_
      refine wpList_nil ?_
      refine then_n ?_
      refine wp_cond_false (E.get 0 rfl) ?_
      refine wp_skip ?_
      refine then_n ?_
      refine wp_seq ?_
      refine wp_region_lit ?_
      refine env_put (d := 100) (v := .pointer (some ⟨r, 0, none⟩)) E rfl (by decide) rfl (wanted_none rfl _) (run_move rfl (E.get 63 rfl)) fun a E => ?_
      refine env_put (d := 101) (v := .pointer (some ⟨b0, 1, none⟩)) E rfl (by decide) rfl (wanted_none rfl _) (fa38_1 rfl (E.get 63 rfl)) fun a E => ?_
      refine env_put (d := 102) (v := .string e.id) E rfl (by decide) rfl (wanted_none rfl _) (run_lds rfl (E.get 0 rfl) (bx hb 1 rfl)) fun a E => ?_
      refine env_call (d := 103) (v := .tuple #[]) E rfl (by decide) rfl (wanted_none rfl _) (run_call2 (enters_of Try.func33 (by kernel_rfl) rfl) rfl rfl (E.get 2 rfl) (E.get 0 rfl)) (rmen_calls h (by omega) (by omega) e.id) fun a w1 f1 E => ?_
      obtain ⟨σ1, ⟨pv1, mv1, hn⟩, f2, hs⟩ := f1
      have hS' := fun k (hk : k < w.heap.size) h => hS k hk (hs k (Nat.lt_of_lt_of_le hk hT.size) h)
      have hT' := hT.trans' f2 (fun r hr h => hS r hr h)
      have hnb' : ¬ σ1 b0 := fun hh => hnb (hs b0 (lt_of_blk hb) hh)
      have hb' := f2.obj hb hnb
      clear f2 hs h hT hS hnb hb
      have h := hn
      have hT := hT'
      have hS := hS'
      have hnb := hnb'
      have hb := hb'
      clear hn hT' hS' hnb' hb'
      refine wpList_nil ?_
      refine then_n ?_
      refine wp_seq ?_
      refine wp_seq ?_
      refine wp_region_lit ?_
      refine env_put (d := 104) (v := .bool false) E rfl (by decide) rfl (wanted_none rfl _) (run_move rfl (E.get 56 rfl)) fun a E => ?_
      refine wpList_nil ?_
      refine then_n ?_
      refine wp_cond_false (E.get 0 rfl) ?_
      refine wp_skip ?_
      refine then_n ?_
      refine wp_seq ?_
      obtain ⟨pa2, ca2, hva, _⟩ := h.msrc
      subst hva
      refine wp_region_lit ?_
      refine env_put (d := 109) (v := .pointer (some ⟨r, 0, none⟩)) E rfl (by decide) rfl (wanted_none rfl _) (run_move rfl (E.get 68 rfl)) fun a E => ?_
      refine env_put (d := 110) (v := .pointer (some ⟨r, 0, none⟩)) E rfl (by decide) rfl (wanted_none rfl _) (run_nilchk rfl (E.get 0 rfl)) fun a E => ?_
      refine env_put (d := 111) (v := .pointer (some ⟨r, 1, none⟩)) E rfl (by decide) rfl (wanted_none rfl _) (fa58_at (by decide) rfl (E.get 0 rfl)) fun a E => ?_
      refine env_put (d := 112) (v := .slice (pa2) (menR R e.id).ms.length ca2) E rfl (by decide) rfl (wanted_none rfl _) (run_ld33 rfl (E.get 0 rfl) h.c1) fun a E => ?_
      refine env_put (d := 6) (v := .slice (pa2) (menR R e.id).ms.length ca2) E rfl (by decide) rfl (wanted_none rfl _) (run_assign rfl (E.get 0 rfl)) fun a E => ?_
      refine wpList_nil ?_
      refine then_n ?_
      refine wp_seq ?_
      refine wp_seq ?_
      refine wp_region_lit ?_
      refine env_put (d := 113) (v := .pointer (some ⟨b0, 0, none⟩)) E rfl (by decide) rfl (wanted_none rfl _) (fa38_0 rfl (E.get 72 rfl)) fun a E => ?_
      refine env_put (d := 114) (v := .int .i64 e.op) E rfl (by decide) rfl (wanted_none rfl _) (run_ldi rfl (E.get 0 rfl) (bx hb 0 rfl)) fun a E => ?_
      refine env_put (d := 115) (v := .bool false) E rfl (by decide) rfl (wanted_none rfl _) ((run_ieql (E.get 0 rfl) rfl Try.underlying3 rfl).trans (by rw [hk0] <;> rfl)) fun a E => ?_
      refine wpList_nil ?_
      refine then_n ?_
      refine wp_cond_false (E.get 0 rfl) ?_
      refine wp_skip ?_
      refine then_n ?_
      refine wp_seq ?_
      refine wp_seq ?_
      refine wp_region_lit ?_
      refine env_put (d := 138) (v := .pointer (some ⟨b0, 0, none⟩)) E rfl (by decide) rfl (wanted_none rfl _) (fa38_0 rfl (E.get 75 rfl)) fun a E => ?_
      refine env_put (d := 139) (v := .int .i64 e.op) E rfl (by decide) rfl (wanted_none rfl _) (run_ldi rfl (E.get 0 rfl) (bx hb 0 rfl)) fun a E => ?_
      refine env_put (d := 140) (v := .bool false) E rfl (by decide) rfl (wanted_none rfl _) ((run_ieql (E.get 0 rfl) rfl Try.underlying3 rfl).trans (by rw [hk1] <;> rfl)) fun a E => ?_
      refine wpList_nil ?_
      refine then_n ?_
      refine wp_cond_false (E.get 0 rfl) ?_
      refine wp_skip ?_
      refine then_n ?_
      refine wp_seq ?_
      refine wp_seq ?_
      refine wp_region_lit ?_
      refine env_put (d := 167) (v := .pointer (some ⟨b0, 0, none⟩)) E rfl (by decide) rfl (wanted_none rfl _) (fa38_0 rfl (E.get 78 rfl)) fun a E => ?_
      refine env_put (d := 168) (v := .int .i64 e.op) E rfl (by decide) rfl (wanted_none rfl _) (run_ldi rfl (E.get 0 rfl) (bx hb 0 rfl)) fun a E => ?_
      refine env_put (d := 169) (v := .bool true) E rfl (by decide) rfl (wanted_none rfl _) ((run_ieql (E.get 0 rfl) rfl Try.underlying3 rfl).trans (by rw [hk3] <;> rfl)) fun a E => ?_
      refine wpList_nil ?_
      refine then_n ?_
      refine wp_cond_true (E.get 0 rfl) ?_
      refine wp_region_lit ?_
      refine env_put (d := 170) (v := .pointer (some ⟨r, 0, none⟩)) E rfl (by decide) rfl (wanted_none rfl _) (run_move rfl (E.get 82 rfl)) fun a E => ?_
      refine env_put (d := 171) (v := .pointer (some ⟨b0, 1, none⟩)) E rfl (by decide) rfl (wanted_none rfl _) (fa38_1 rfl (E.get 82 rfl)) fun a E => ?_
      refine env_put (d := 172) (v := .string e.id) E rfl (by decide) rfl (wanted_none rfl _) (run_lds rfl (E.get 0 rfl) (bx hb 1 rfl)) fun a E => ?_
      refine env_call (d := 173) (v := .tuple #[]) E rfl (by decide) rfl (wanted_none rfl _) (run_call2 (enters_of Try.func35 (by kernel_rfl) rfl) rfl rfl (E.get 2 rfl) (E.get 0 rfl)) (rdrop_calls h (by have := menR_ps R e.id; omega) e.id) fun a w1 f1 E => ?_
      obtain ⟨σ2, ⟨pv2, mv2, hn⟩, f2, hs⟩ := f1
      have hS' := fun k (hk : k < w.heap.size) h => hS k hk (hs k (Nat.lt_of_lt_of_le hk hT.size) h)
      have hT' := hT.trans' f2 (fun r hr h => hS r hr h)
      have hnb' : ¬ σ2 b0 := fun hh => hnb (hs b0 (lt_of_blk hb) hh)
      have hb' := f2.obj hb hnb
      clear f2 hs h hT hS hnb hb
      have h := hn
      have hT := hT'
      have hS := hS'
      have hnb := hnb'
      have hb := hb'
      clear hn hT' hS' hnb' hb'
      refine wpList_nil ?_
      refine then_n ?_
      refine wp_seq ?_
      refine wp_region_lit ?_
      refine env_set (d := 4) (v := .int .i64 0) E rfl (by decide) (wanted_none rfl _) (run_assign rfl rfl) fun a E => ?_
      refine wpList_nil ?_
      refine then_n ?_
      refine wp_ret ?_
      have hE : refE R e = 0 := by
        simp [refE, followE, Edt.bad, Edt.two, Edt.fresh, linR, hop, hq4]
      have hF : refF R e = dropR (menR R e.id) e.id := by simp [refF, hop]
      have hR : (if refE R e = 0 then refF R e else R) = dropR (menR R e.id) e.id := by rw [if_pos hE, hF]
      refine ret_tmp (t := 4) rfl E (E.get 0 rfl) ⟨by rw [hE], _, ?_, hT, hS⟩
      rw [hR]; exact ⟨_, _, h⟩
set_option maxRecDepth 100000 in
set_option maxHeartbeats 8000000 in
theorem rfol_m {w : World} {r : Nat} {σ : Nat → Prop} {R : RefS} {pv mv : Value} (h : RefAt w r σ R pv mv) (hb1 : R.ms.length ≤ 40000) (hb2 : R.ps.length ≤ 40000) (e : Edt) (hop : 2 ≤ e.op ∧ e.op ≤ 4) : Calls Try.prog 15 #[.pointer (some ⟨r, 0, none⟩), .agg e.cells] w (RPost r σ (if refE R e = 0 then refF R e else R) (.int .i64 (refE R e)) w) := by
  refine wp_start2 Try.func15 rfl rfl (n := 174) (by decide) fun a E => ?_
  have hT : Fr σ w w := Fr.refl _ _
  have hS : ∀ k, k < w.heap.size → σ k → σ k := fun _ _ h => h
  have hk0 : (e.op == 6) = false := by rw [beq_eq_false_iff_ne]; omega
  have hk1 : (e.op == 7) = false := by rw [beq_eq_false_iff_ne]; omega
  have hk2 : (e.op == 1) = false := by rw [beq_eq_false_iff_ne]; omega
  have hk3 : (e.op == 5) = false := by rw [beq_eq_false_iff_ne]; omega
  have hk4 : (e.op != 1) = true := by rw [bne_iff_ne]; omega
  have hk5 : (decide (e.op < 1)) = false := by exact decide_eq_false (by omega)
  have hk6 : (decide (7 < e.op)) = false := by exact decide_eq_false (by omega)
  refine wp_seq ?_
  refine wp_region_lit ?_
  refine env_box38 (d := 3) E rfl (by decide) rfl (wanted_none rfl _) rfl (E.get 1 rfl) fun a w1 b0 e0 hb f1 E => ?_
  have hnb : ¬ σ b0 := fun hh => by have := h.lt b0 hh; omega
  have h := h.fr f1 (fun _ _ h => h)
  have hT := hT.trans' f1 (fun _ _ h => h.elim)
  clear f1 e0
  obtain ⟨pa1, ca1, hva, _⟩ := h.msrc
  subst hva
  refine env_put (d := 4) (v := .int .i64 0) E rfl (by decide) rfl (wanted_none rfl _) (run_assign rfl rfl) fun a E => ?_
  refine wpList_nil ?_
  refine then_n ?_
  refine wp_seq ?_
  refine wp_region_lit ?_
  refine env_put (d := 9) (v := .pointer (some ⟨b0, 0, none⟩)) E rfl (by decide) rfl (wanted_none rfl _) (fa38_0 rfl (E.get 1 rfl)) fun a E => ?_
  refine env_put (d := 10) (v := .int .i64 e.op) E rfl (by decide) rfl (wanted_none rfl _) (run_ldi rfl (E.get 0 rfl) (bx hb 0 rfl)) fun a E => ?_
  refine env_put (d := 11) (v := .bool false) E rfl (by decide) rfl (wanted_none rfl _) ((run_ieql (E.get 0 rfl) rfl Try.underlying3 rfl).trans (by rw [hk0] <;> rfl)) fun a E => ?_
  refine env_put (d := 12) (v := .bool false) E rfl (by decide) rfl (wanted_none rfl _) (run_move rfl (E.get 0 rfl)) fun a E => ?_
  refine env_put (d := 13) (v := .pointer (some ⟨b0, 0, none⟩)) E rfl (by decide) rfl (w_yes (g := 3) (s := 12) E rfl rfl (by decide) (E.get 0 rfl)) (fa38_0 rfl (E.get 5 rfl)) fun a E => ?_
  refine env_put (d := 14) (v := .int .i64 e.op) E rfl (by decide) rfl (w_yes (g := 3) (s := 12) E rfl rfl (by decide) (E.get 1 rfl)) (run_ldi rfl (E.get 0 rfl) (bx hb 0 rfl)) fun a E => ?_
  refine env_put (d := 15) (v := .bool false) E rfl (by decide) rfl (w_yes (g := 3) (s := 12) E rfl rfl (by decide) (E.get 2 rfl)) ((run_ieql (E.get 0 rfl) rfl Try.underlying3 rfl).trans (by rw [hk1] <;> rfl)) fun a E => ?_
  refine env_put (d := 16) (v := .bool false) E rfl (by decide) rfl (wanted_none rfl _) (run_pick_f rfl (E.get 3 rfl) (E.get 0 rfl)) fun a E => ?_
  refine env_put (d := 5) (v := .bool false) E rfl (by decide) rfl (wanted_none rfl _) (run_assign rfl (E.get 0 rfl)) fun a E => ?_
  refine wpList_nil ?_
  refine then_n ?_
  refine wp_seq ?_
  refine wp_seq ?_
  refine wp_region_lit ?_
  refine env_put (d := 17) (v := .pointer (some ⟨r, 0, none⟩)) E rfl (by decide) rfl (wanted_none rfl _) (run_move rfl (E.get 11 rfl)) fun a E => ?_
  refine env_put (d := 18) (v := .bool false) E rfl (by decide) rfl (wanted_none rfl _) (run_pnil rfl (E.get 0 rfl) rfl) fun a E => ?_
  refine env_put (d := 19) (v := .bool false) E rfl (by decide) rfl (wanted_none rfl _) (run_move rfl (E.get 0 rfl)) fun a E => ?_
  refine env_put (d := 20) (v := .pointer (some ⟨b0, 0, none⟩)) E rfl (by decide) rfl (w_yes (g := 2) (s := 19) E rfl rfl (by decide) (E.get 0 rfl)) (fa38_0 rfl (E.get 13 rfl)) fun a E => ?_
  refine env_put (d := 21) (v := .int .i64 e.op) E rfl (by decide) rfl (w_yes (g := 2) (s := 19) E rfl rfl (by decide) (E.get 1 rfl)) (run_ldi rfl (E.get 0 rfl) (bx hb 0 rfl)) fun a E => ?_
  refine env_put (d := 22) (v := .bool false) E rfl (by decide) rfl (w_yes (g := 2) (s := 19) E rfl rfl (by decide) (E.get 2 rfl)) ((run_ilss (E.get 0 rfl) rfl Try.underlying3 rfl).trans (by rw [hk5] <;> rfl)) fun a E => ?_
  refine env_put (d := 23) (v := .bool false) E rfl (by decide) rfl (wanted_none rfl _) (run_pick_f rfl (E.get 3 rfl) (E.get 0 rfl)) fun a E => ?_
  refine env_put (d := 24) (v := .bool false) E rfl (by decide) rfl (wanted_none rfl _) (run_move rfl (E.get 0 rfl)) fun a E => ?_
  refine env_put (d := 25) (v := .pointer (some ⟨b0, 0, none⟩)) E rfl (by decide) rfl (w_yes (g := 7) (s := 24) E rfl rfl (by decide) (E.get 0 rfl)) (fa38_0 rfl (E.get 18 rfl)) fun a E => ?_
  refine env_put (d := 26) (v := .int .i64 e.op) E rfl (by decide) rfl (w_yes (g := 7) (s := 24) E rfl rfl (by decide) (E.get 1 rfl)) (run_ldi rfl (E.get 0 rfl) (bx hb 0 rfl)) fun a E => ?_
  refine env_put (d := 27) (v := .bool false) E rfl (by decide) rfl (w_yes (g := 7) (s := 24) E rfl rfl (by decide) (E.get 2 rfl)) ((run_igtr (E.get 0 rfl) rfl Try.underlying3 rfl).trans (by rw [hk6] <;> rfl)) fun a E => ?_
  refine env_put (d := 28) (v := .bool false) E rfl (by decide) rfl (wanted_none rfl _) (run_pick_f rfl (E.get 3 rfl) (E.get 0 rfl)) fun a E => ?_
  refine env_put (d := 29) (v := .bool false) E rfl (by decide) rfl (wanted_none rfl _) (run_move rfl (E.get 0 rfl)) fun a E => ?_
  refine env_put (d := 30) (v := .bool false) E rfl (by decide) rfl (w_yes (g := 12) (s := 29) E rfl rfl (by decide) (E.get 0 rfl)) (run_move rfl (E.get 13 rfl)) fun a E => ?_
  refine env_put (d := 31) (v := .bool false) E rfl (by decide) rfl (w_yes (g := 12) (s := 29) E rfl rfl (by decide) (E.get 1 rfl)) (run_move rfl (E.get 0 rfl)) fun a E => ?_
  refine env_skip (d := 32) (g := 14) (s := 31) E rfl (by decide) rfl rfl rfl (by decide) (E.get 0 rfl) fun a E => ?_
  refine env_skip (d := 33) (g := 14) (s := 31) E rfl (by decide) rfl rfl rfl (by decide) (E.get 1 rfl) fun a E => ?_
  refine env_skip (d := 34) (g := 14) (s := 31) E rfl (by decide) rfl rfl rfl (by decide) (E.get 2 rfl) fun a E => ?_
  refine env_skip (d := 35) (g := 14) (s := 31) E rfl (by decide) rfl rfl rfl (by decide) (E.get 3 rfl) fun a E => ?_
  refine env_skip (d := 36) (g := 14) (s := 31) E rfl (by decide) rfl rfl rfl (by decide) (E.get 4 rfl) fun a E => ?_
  refine env_put (d := 37) (v := .bool false) E rfl (by decide) rfl (w_yes (g := 12) (s := 29) E rfl rfl (by decide) (E.get 7 rfl)) (run_pick_f rfl (E.get 5 rfl) rfl) fun a E => ?_
  refine env_put (d := 38) (v := .bool false) E rfl (by decide) rfl (wanted_none rfl _) (run_pick_f rfl (E.get 8 rfl) (E.get 0 rfl)) fun a E => ?_
  refine wpList_nil ?_
  refine then_n ?_
  refine wp_cond_false (E.get 0 rfl) ?_
  refine wp_skip ?_
  refine then_n ?_
  refine wp_seq ?_
  refine wp_seq ?_
  refine wp_region_lit ?_
  refine env_put (d := 39) (v := .pointer (some ⟨b0, 0, none⟩)) E rfl (by decide) rfl (wanted_none rfl _) (fa38_0 rfl (E.get 32 rfl)) fun a E => ?_
  refine env_put (d := 40) (v := .int .i64 e.op) E rfl (by decide) rfl (wanted_none rfl _) (run_ldi rfl (E.get 0 rfl) (bx hb 0 rfl)) fun a E => ?_
  refine env_put (d := 41) (v := .bool true) E rfl (by decide) rfl (wanted_none rfl _) ((run_ineq (E.get 0 rfl) rfl Try.underlying3 rfl).trans (by rw [hk4] <;> rfl)) fun a E => ?_
  refine env_put (d := 42) (v := .bool true) E rfl (by decide) rfl (wanted_none rfl _) (run_move rfl (E.get 0 rfl)) fun a E => ?_
  refine env_put (d := 43) (v := .pointer (some ⟨r, 0, none⟩)) E rfl (by decide) rfl (w_yes (g := 3) (s := 42) E rfl rfl (by decide) (E.get 0 rfl)) (run_move rfl (E.get 37 rfl)) fun a E => ?_
  refine env_put (d := 44) (v := .pointer (some ⟨b0, 1, none⟩)) E rfl (by decide) rfl (w_yes (g := 3) (s := 42) E rfl rfl (by decide) (E.get 1 rfl)) (fa38_1 rfl (E.get 37 rfl)) fun a E => ?_
  refine env_put (d := 45) (v := .string e.id) E rfl (by decide) rfl (w_yes (g := 3) (s := 42) E rfl rfl (by decide) (E.get 2 rfl)) (run_lds rfl (E.get 0 rfl) (bx hb 1 rfl)) fun a E => ?_
  refine env_put (d := 46) (v := .pointer (some ⟨b0, 1, none⟩)) E rfl (by decide) rfl (w_yes (g := 3) (s := 42) E rfl rfl (by decide) (E.get 3 rfl)) (fa38_1 rfl (E.get 39 rfl)) fun a E => ?_
  refine env_put (d := 47) (v := .string e.id) E rfl (by decide) rfl (w_yes (g := 3) (s := 42) E rfl rfl (by decide) (E.get 4 rfl)) (run_lds rfl (E.get 0 rfl) (bx hb 1 rfl)) fun a E => ?_
  refine env_call (d := 48) (v := .bool (pairB R e.id e.id)) E rfl (by decide) rfl (w_yes (g := 3) (s := 42) E rfl rfl (by decide) (E.get 5 rfl)) (run_call3 (enters_of Try.func32 (by kernel_rfl) rfl) rfl rfl (E.get 4 rfl) (E.get 2 rfl) (E.get 0 rfl)) (h.pairC e.id e.id) fun a w1 f1 E => ?_
  have h := RefAt.fr h f1 (fun _ _ h => h)
  have hT := hT.trans' f1 (fun _ _ h => h.elim)
  have hb := f1.obj hb id
  clear f1
  refine env_put (d := 49) (v := .bool (!(pairB R e.id e.id))) E rfl (by decide) rfl (w_yes (g := 3) (s := 42) E rfl rfl (by decide) (E.get 6 rfl)) (run_not rfl (E.get 0 rfl)) fun a E => ?_
  refine env_put (d := 50) (v := .bool (!(pairB R e.id e.id))) E rfl (by decide) rfl (wanted_none rfl _) (run_pick_t rfl (E.get 7 rfl) (E.get 0 rfl)) fun a E => ?_
  refine env_put (d := 51) (v := .bool (!(pairB R e.id e.id))) E rfl (by decide) rfl (wanted_none rfl _) (run_move rfl (E.get 0 rfl)) fun a E => ?_
  cases hq6 : (pairB R e.id e.id) with
  | false =>
    rw [hq6] at E
    refine env_skip (d := 52) (g := 12) (s := 51) E rfl (by decide) rfl rfl rfl (by decide) (E.get 0 rfl) fun a E => ?_
    refine env_skip (d := 53) (g := 12) (s := 51) E rfl (by decide) rfl rfl rfl (by decide) (E.get 1 rfl) fun a E => ?_
    refine env_skip (d := 54) (g := 12) (s := 51) E rfl (by decide) rfl rfl rfl (by decide) (E.get 2 rfl) fun a E => ?_
    refine env_skip (d := 55) (g := 12) (s := 51) E rfl (by decide) rfl rfl rfl (by decide) (E.get 3 rfl) fun a E => ?_
    refine env_skipu (d := 56) (g := 16) (s := 55) E rfl (by decide) rfl rfl rfl (by decide) (E.get 0 rfl) fun a E => ?_
    refine env_skipu (d := 57) (g := 16) (s := 55) E rfl (by decide) rfl rfl rfl (by decide) (E.get 1 rfl) fun a E => ?_
    refine env_skipu (d := 58) (g := 16) (s := 55) E rfl (by decide) rfl rfl rfl (by decide) (E.get 2 rfl) fun a E => ?_
    refine env_skipu (d := 59) (g := 16) (s := 55) E rfl (by decide) rfl rfl rfl (by decide) (E.get 3 rfl) fun a E => ?_
    refine env_skipu (d := 60) (g := 16) (s := 55) E rfl (by decide) rfl rfl rfl (by decide) (E.get 4 rfl) fun a E => ?_
    refine env_skipu (d := 61) (g := 16) (s := 55) E rfl (by decide) rfl rfl rfl (by decide) (E.get 5 rfl) fun a E => ?_
    refine env_skipu (d := 62) (g := 16) (s := 55) E rfl (by decide) rfl rfl rfl (by decide) (E.get 6 rfl) fun a E => ?_
    refine env_skip (d := 63) (g := 12) (s := 51) E rfl (by decide) rfl rfl rfl (by decide) (E.get 11 rfl) fun a E => ?_
    refine env_put (d := 64) (v := .bool true) E rfl (by decide) rfl (wanted_none rfl _) (run_pick_t rfl (E.get 12 rfl) rfl) fun a E => ?_
    refine wpList_nil ?_
    refine then_n ?_
    refine wp_cond_true (E.get 0 rfl) ?_
    refine wp_seq ?_
    refine wp_region_lit ?_
    refine env_set (d := 4) (v := .int .i64 11) E rfl (by decide) (wanted_none rfl _) (run_assign rfl rfl) fun a E => ?_
    refine wpList_nil ?_
    refine then_n ?_
    refine wp_ret ?_
    refine then_r ?_
    have hE : refE R e = 11 := by
      have n1 : ¬ e.op = 1 := by omega
      have n6 : ¬ e.op = 6 := by omega
      have n7 : ¬ e.op = 7 := by omega
      have n8 : ¬ e.op < 1 := by omega
      have n9 : ¬ 7 < e.op := by omega
      simp [refE, followE, Edt.bad, Edt.two, Edt.fresh, linR, n1, n6, n7, n8, n9, hq6]
    have hR : (if refE R e = 0 then refF R e else R) = R := if_neg (by rw [hE]; decide)
    refine ret_tmp (t := 4) rfl E (E.get 0 rfl) ⟨by rw [hE], _, ?_, hT, hS⟩
    rw [hR]; exact ⟨_, _, h⟩
  | true =>
    rw [hq6] at E
    refine env_put (d := 52) (v := .pointer (some ⟨b0, 0, none⟩)) E rfl (by decide) rfl (w_yes (g := 12) (s := 51) E rfl rfl (by decide) (E.get 0 rfl)) (fa38_0 rfl (E.get 45 rfl)) fun a E => ?_
    refine env_put (d := 53) (v := .int .i64 e.op) E rfl (by decide) rfl (w_yes (g := 12) (s := 51) E rfl rfl (by decide) (E.get 1 rfl)) (run_ldi rfl (E.get 0 rfl) (bx hb 0 rfl)) fun a E => ?_
    refine env_put (d := 54) (v := .bool false) E rfl (by decide) rfl (w_yes (g := 12) (s := 51) E rfl rfl (by decide) (E.get 2 rfl)) ((run_ieql (E.get 0 rfl) rfl Try.underlying3 rfl).trans (by rw [hk1] <;> rfl)) fun a E => ?_
    refine env_put (d := 55) (v := .bool false) E rfl (by decide) rfl (w_yes (g := 12) (s := 51) E rfl rfl (by decide) (E.get 3 rfl)) (run_move rfl (E.get 0 rfl)) fun a E => ?_
    refine env_skip (d := 56) (g := 16) (s := 55) E rfl (by decide) rfl rfl rfl (by decide) (E.get 0 rfl) fun a E => ?_
    refine env_skip (d := 57) (g := 16) (s := 55) E rfl (by decide) rfl rfl rfl (by decide) (E.get 1 rfl) fun a E => ?_
    refine env_skip (d := 58) (g := 16) (s := 55) E rfl (by decide) rfl rfl rfl (by decide) (E.get 2 rfl) fun a E => ?_
    refine env_skip (d := 59) (g := 16) (s := 55) E rfl (by decide) rfl rfl rfl (by decide) (E.get 3 rfl) fun a E => ?_
    refine env_skip (d := 60) (g := 16) (s := 55) E rfl (by decide) rfl rfl rfl (by decide) (E.get 4 rfl) fun a E => ?_
    refine env_skip (d := 61) (g := 16) (s := 55) E rfl (by decide) rfl rfl rfl (by decide) (E.get 5 rfl) fun a E => ?_
    refine env_skip (d := 62) (g := 16) (s := 55) E rfl (by decide) rfl rfl rfl (by decide) (E.get 6 rfl) fun a E => ?_
    refine env_put (d := 63) (v := .bool false) E rfl (by decide) rfl (w_yes (g := 12) (s := 51) E rfl rfl (by decide) (E.get 11 rfl)) (run_pick_f rfl (E.get 7 rfl) rfl) fun a E => ?_
    refine env_put (d := 64) (v := .bool false) E rfl (by decide) rfl (wanted_none rfl _) (run_pick_f rfl (E.get 12 rfl) (E.get 0 rfl)) fun a E => ?_
    refine wpList_nil ?_
    refine then_n ?_
    refine wp_cond_false (E.get 0 rfl) ?_
    refine wp_skip ?_
    refine then_n ?_
    refine wp_seq ?_
    refine wp_seq ?_
    refine wp_region_invg (n := 174) (base := [(64, .bool false), (63, .bool false), (62, undef), (61, undef), (60, undef), (59, undef), (58, undef), (57, undef), (56, undef), (55, .bool false), (54, .bool false), (53, .int .i64 e.op), (52, .pointer (some ⟨b0, 0, none⟩)), (51, .bool false), (50, .bool false), (49, .bool false), (48, .bool true), (47, .string e.id), (46, .pointer (some ⟨b0, 1, none⟩)), (45, .string e.id), (44, .pointer (some ⟨b0, 1, none⟩)), (43, .pointer (some ⟨r, 0, none⟩)), (42, .bool true), (41, .bool true), (40, .int .i64 e.op), (39, .pointer (some ⟨b0, 0, none⟩)), (38, .bool false), (37, .bool false), (36, undef), (35, undef), (34, undef), (33, undef), (32, undef), (31, .bool false), (30, .bool false), (29, .bool false), (28, .bool false), (27, .bool false), (26, .int .i64 e.op), (25, .pointer (some ⟨b0, 0, none⟩)), (24, .bool false), (23, .bool false), (22, .bool false), (21, .int .i64 e.op), (20, .pointer (some ⟨b0, 0, none⟩)), (19, .bool false), (18, .bool false), (17, .pointer (some ⟨r, 0, none⟩)), (5, .bool false), (16, .bool false), (15, .bool false), (14, .int .i64 e.op), (13, .pointer (some ⟨b0, 0, none⟩)), (12, .bool false), (11, .bool false), (10, .int .i64 e.op), (9, .pointer (some ⟨b0, 0, none⟩)), (4, .int .i64 0), (3, .pointer (some ⟨b0, 0, none⟩)), (0, .pointer (some ⟨r, 0, none⟩)), (1, .agg e.cells)]) (T := [some (65, .pointer (some ⟨b0, 0, none⟩)), some (66, .int .i64 e.op), some (67, .bool false), some (68, .bool false), some (69, undef), some (70, undef), some (71, undef), some (72, undef), some (73, undef), some (74, undef), some (75, undef), some (76, undef), some (77, .bool false), some (78, .bool false), some (79, .pointer (some ⟨b0, 0, none⟩)), some (80, .int .i64 e.op), some (81, .bool false), some (82, .bool false), some (83, undef), some (84, undef), some (85, undef), some (86, undef), some (87, undef), some (88, undef), some (89, undef), some (90, .bool false), some (91, .bool false)]) (M := fun _ wm => Fr (fun _ => False) w1 wm) (by kernel_rfl) (by kernel_rfl) (by kernel_rfl) (E.of ⟨E.get 0 rfl, E.get 1 rfl, E.get 2 rfl, E.get 3 rfl, E.get 4 rfl, E.get 5 rfl, E.get 6 rfl, E.get 7 rfl, E.get 8 rfl, E.get 9 rfl, E.get 10 rfl, E.get 11 rfl, E.get 12 rfl, E.get 13 rfl, E.get 14 rfl, E.get 15 rfl, E.get 16 rfl, E.get 17 rfl, E.get 18 rfl, E.get 19 rfl, E.get 20 rfl, E.get 21 rfl, E.get 22 rfl, E.get 23 rfl, E.get 24 rfl, E.get 25 rfl, E.get 26 rfl, E.get 27 rfl, E.get 28 rfl, E.get 29 rfl, E.get 30 rfl, E.get 31 rfl, E.get 32 rfl, E.get 33 rfl, E.get 34 rfl, E.get 35 rfl, E.get 36 rfl, E.get 37 rfl, E.get 38 rfl, E.get 39 rfl, E.get 40 rfl, E.get 41 rfl, E.get 42 rfl, E.get 43 rfl, E.get 44 rfl, E.get 45 rfl, E.get 46 rfl, E.get 47 rfl, E.get 48 rfl, E.get 49 rfl, E.get 50 rfl, E.get 51 rfl, E.get 52 rfl, E.get 53 rfl, E.get 54 rfl, E.get 55 rfl, E.get 56 rfl, E.get 57 rfl, E.get 58 rfl, E.get 59 rfl, E.get 60 rfl, trivial⟩) (Fr.refl _ _).drew ?_ ?_
    · intro j9 o9 t9 ls9 a w5 ho hT0 hl E D DL hM
      have h := RefAt.fr h hM (fun _ _ h => h)
      have hT := hT.trans' hM (fun _ _ h => h.elim)
      have hb := hM.obj hb id
      match j9, ho, hT0, hl, D, DL with
      | 0, ho, hT0, hl, D, DL =>
        obtain rfl := Option.some.inj ho
        obtain rfl := Option.some.inj hT0
        clear ho hT0
        exact ⟨fun _ => val_wp (fa38_0 rfl (E.get 58 rfl)) rfl hM, fun h => by rw [wanted_none rfl] at h; cases h⟩
      | 1, ho, hT0, hl, D, DL =>
        obtain rfl := Option.some.inj ho
        obtain rfl := Option.some.inj hT0
        clear ho hT0
        exact ⟨fun _ => val_wp (run_ldi rfl (D 0 _ rfl rfl) (bx hb 0 rfl)) rfl hM, fun h => by rw [wanted_none rfl] at h; cases h⟩
      | 2, ho, hT0, hl, D, DL =>
        obtain rfl := Option.some.inj ho
        obtain rfl := Option.some.inj hT0
        clear ho hT0
        exact ⟨fun _ => val_wp ((run_ieql (D 1 _ rfl rfl) rfl Try.underlying3 rfl).trans (by rw [hk2] <;> rfl)) rfl hM, fun h => by rw [wanted_none rfl] at h; cases h⟩
      | 3, ho, hT0, hl, D, DL =>
        obtain rfl := Option.some.inj ho
        obtain rfl := Option.some.inj hT0
        clear ho hT0
        exact ⟨fun _ => val_wp (run_move rfl (D 2 _ rfl rfl)) rfl hM, fun h => by rw [wanted_none rfl] at h; cases h⟩
      | 4, ho, hT0, hl, D, DL =>
        obtain rfl := Option.some.inj ho
        obtain rfl := Option.some.inj hT0
        clear ho hT0
        exact ⟨fun h => (by rw [w_no (g := 3) (s := 68) (b := true) E rfl rfl (by decide) (D 3 _ rfl rfl)] at h; cases h), fun _ => ⟨fun x hx => by cases hx; rfl, hM⟩⟩
      | 5, ho, hT0, hl, D, DL =>
        obtain rfl := Option.some.inj ho
        obtain rfl := Option.some.inj hT0
        clear ho hT0
        exact ⟨fun h => (by rw [w_no (g := 3) (s := 68) (b := true) E rfl rfl (by decide) (D 3 _ rfl rfl)] at h; cases h), fun _ => ⟨fun x hx => by cases hx; rfl, hM⟩⟩
      | 6, ho, hT0, hl, D, DL =>
        obtain rfl := Option.some.inj ho
        obtain rfl := Option.some.inj hT0
        clear ho hT0
        exact ⟨fun h => (by rw [w_no (g := 3) (s := 68) (b := true) E rfl rfl (by decide) (D 3 _ rfl rfl)] at h; cases h), fun _ => ⟨fun x hx => by cases hx; rfl, hM⟩⟩
      | 7, ho, hT0, hl, D, DL =>
        obtain rfl := Option.some.inj ho
        obtain rfl := Option.some.inj hT0
        clear ho hT0
        exact ⟨fun h => (by rw [w_no (g := 3) (s := 68) (b := true) E rfl rfl (by decide) (D 3 _ rfl rfl)] at h; cases h), fun _ => ⟨fun x hx => by cases hx; rfl, hM⟩⟩
      | 8, ho, hT0, hl, D, DL =>
        obtain rfl := Option.some.inj ho
        obtain rfl := Option.some.inj hT0
        clear ho hT0
        exact ⟨fun h => (by rw [w_no (g := 3) (s := 68) (b := true) E rfl rfl (by decide) (D 3 _ rfl rfl)] at h; cases h), fun _ => ⟨fun x hx => by cases hx; rfl, hM⟩⟩
      | 9, ho, hT0, hl, D, DL =>
        obtain rfl := Option.some.inj ho
        obtain rfl := Option.some.inj hT0
        clear ho hT0
        exact ⟨fun h => (by rw [w_no (g := 3) (s := 68) (b := true) E rfl rfl (by decide) (D 3 _ rfl rfl)] at h; cases h), fun _ => ⟨fun x hx => by cases hx; rfl, hM⟩⟩
      | 10, ho, hT0, hl, D, DL =>
        obtain rfl := Option.some.inj ho
        obtain rfl := Option.some.inj hT0
        clear ho hT0
        exact ⟨fun h => (by rw [w_no (g := 3) (s := 68) (b := true) E rfl rfl (by decide) (D 3 _ rfl rfl)] at h; cases h), fun _ => ⟨fun x hx => by cases hx; rfl, hM⟩⟩
      | 11, ho, hT0, hl, D, DL =>
        obtain rfl := Option.some.inj ho
        obtain rfl := Option.some.inj hT0
        clear ho hT0
        exact ⟨fun h => (by rw [w_no (g := 3) (s := 68) (b := true) E rfl rfl (by decide) (D 3 _ rfl rfl)] at h; cases h), fun _ => ⟨fun x hx => by cases hx; rfl, hM⟩⟩
      | 12, ho, hT0, hl, D, DL =>
        obtain rfl := Option.some.inj ho
        obtain rfl := Option.some.inj hT0
        clear ho hT0
        exact ⟨fun _ => val_wp (run_pick_f rfl (D 3 _ rfl rfl) rfl) rfl hM, fun h => by rw [wanted_none rfl] at h; cases h⟩
      | 13, ho, hT0, hl, D, DL =>
        obtain rfl := Option.some.inj ho
        obtain rfl := Option.some.inj hT0
        clear ho hT0
        exact ⟨fun _ => val_wp (run_move rfl (D 12 _ rfl rfl)) rfl hM, fun h => by rw [wanted_none rfl] at h; cases h⟩
      | 14, ho, hT0, hl, D, DL =>
        obtain rfl := Option.some.inj ho
        obtain rfl := Option.some.inj hT0
        clear ho hT0
        exact ⟨fun _ => val_wp (fa38_0 rfl (E.get 58 rfl)) rfl hM, fun h => by rw [w_yes (g := 13) (s := 78) (b := false) E rfl rfl (by decide) (D 13 _ rfl rfl)] at h; cases h⟩
      | 15, ho, hT0, hl, D, DL =>
        obtain rfl := Option.some.inj ho
        obtain rfl := Option.some.inj hT0
        clear ho hT0
        exact ⟨fun _ => val_wp (run_ldi rfl (D 14 _ rfl rfl) (bx hb 0 rfl)) rfl hM, fun h => by rw [w_yes (g := 13) (s := 78) (b := false) E rfl rfl (by decide) (D 13 _ rfl rfl)] at h; cases h⟩
      | 16, ho, hT0, hl, D, DL =>
        obtain rfl := Option.some.inj ho
        obtain rfl := Option.some.inj hT0
        clear ho hT0
        exact ⟨fun _ => val_wp ((run_ieql (D 15 _ rfl rfl) rfl Try.underlying3 rfl).trans (by rw [hk0] <;> rfl)) rfl hM, fun h => by rw [w_yes (g := 13) (s := 78) (b := false) E rfl rfl (by decide) (D 13 _ rfl rfl)] at h; cases h⟩
      | 17, ho, hT0, hl, D, DL =>
        obtain rfl := Option.some.inj ho
        obtain rfl := Option.some.inj hT0
        clear ho hT0
        exact ⟨fun _ => val_wp (run_move rfl (D 16 _ rfl rfl)) rfl hM, fun h => by rw [w_yes (g := 13) (s := 78) (b := false) E rfl rfl (by decide) (D 13 _ rfl rfl)] at h; cases h⟩
      | 18, ho, hT0, hl, D, DL =>
        obtain rfl := Option.some.inj ho
        obtain rfl := Option.some.inj hT0
        clear ho hT0
        exact ⟨fun h => (by rw [w_no (g := 17) (s := 82) (b := true) E rfl rfl (by decide) (D 17 _ rfl rfl)] at h; cases h), fun _ => ⟨fun x hx => by cases hx; rfl, hM⟩⟩
      | 19, ho, hT0, hl, D, DL =>
        obtain rfl := Option.some.inj ho
        obtain rfl := Option.some.inj hT0
        clear ho hT0
        exact ⟨fun h => (by rw [w_no (g := 17) (s := 82) (b := true) E rfl rfl (by decide) (D 17 _ rfl rfl)] at h; cases h), fun _ => ⟨fun x hx => by cases hx; rfl, hM⟩⟩
      | 20, ho, hT0, hl, D, DL =>
        obtain rfl := Option.some.inj ho
        obtain rfl := Option.some.inj hT0
        clear ho hT0
        exact ⟨fun h => (by rw [w_no (g := 17) (s := 82) (b := true) E rfl rfl (by decide) (D 17 _ rfl rfl)] at h; cases h), fun _ => ⟨fun x hx => by cases hx; rfl, hM⟩⟩
      | 21, ho, hT0, hl, D, DL =>
        obtain rfl := Option.some.inj ho
        obtain rfl := Option.some.inj hT0
        clear ho hT0
        exact ⟨fun h => (by rw [w_no (g := 17) (s := 82) (b := true) E rfl rfl (by decide) (D 17 _ rfl rfl)] at h; cases h), fun _ => ⟨fun x hx => by cases hx; rfl, hM⟩⟩
      | 22, ho, hT0, hl, D, DL =>
        obtain rfl := Option.some.inj ho
        obtain rfl := Option.some.inj hT0
        clear ho hT0
        exact ⟨fun h => (by rw [w_no (g := 17) (s := 82) (b := true) E rfl rfl (by decide) (D 17 _ rfl rfl)] at h; cases h), fun _ => ⟨fun x hx => by cases hx; rfl, hM⟩⟩
      | 23, ho, hT0, hl, D, DL =>
        obtain rfl := Option.some.inj ho
        obtain rfl := Option.some.inj hT0
        clear ho hT0
        exact ⟨fun h => (by rw [w_no (g := 17) (s := 82) (b := true) E rfl rfl (by decide) (D 17 _ rfl rfl)] at h; cases h), fun _ => ⟨fun x hx => by cases hx; rfl, hM⟩⟩
      | 24, ho, hT0, hl, D, DL =>
        obtain rfl := Option.some.inj ho
        obtain rfl := Option.some.inj hT0
        clear ho hT0
        exact ⟨fun h => (by rw [w_no (g := 17) (s := 82) (b := true) E rfl rfl (by decide) (D 17 _ rfl rfl)] at h; cases h), fun _ => ⟨fun x hx => by cases hx; rfl, hM⟩⟩
      | 25, ho, hT0, hl, D, DL =>
        obtain rfl := Option.some.inj ho
        obtain rfl := Option.some.inj hT0
        clear ho hT0
        exact ⟨fun _ => val_wp (run_pick_f rfl (D 17 _ rfl rfl) rfl) rfl hM, fun h => by rw [w_yes (g := 13) (s := 78) (b := false) E rfl rfl (by decide) (D 13 _ rfl rfl)] at h; cases h⟩
      | 26, ho, hT0, hl, D, DL =>
        obtain rfl := Option.some.inj ho
        obtain rfl := Option.some.inj hT0
        clear ho hT0
        exact ⟨fun _ => val_wp (run_pick_f rfl (D 13 _ rfl rfl) (D 25 _ rfl rfl)) rfl hM, fun h => by rw [wanted_none rfl] at h; cases h⟩
      | j9 + 27, ho, hT0, hl, D, DL => exact absurd hT0 (by simp)
    · intro a w5 E V hM
      have E := E.add (V 26 _ rfl)
      clear V
      have h := RefAt.fr h hM (fun _ _ h => h)
      have hT := hT.trans' hM (fun _ _ h => h.elim)
      have hb := hM.obj hb id
      clear hM
      refine then_n ?_
      refine wp_cond_false (E.get 0 rfl) ?_
      refine wp_skip ?_
      refine then_n ?_
      refine wp_seq ?_
      refine wp_seq ?_
      refine wp_region_lit ?_
      refine env_put (d := 92) (v := .pointer (some ⟨b0, 0, none⟩)) E rfl (by decide) rfl (wanted_none rfl _) (fa38_0 rfl (E.get 59 rfl)) fun a E => ?_
      refine env_put (d := 93) (v := .int .i64 e.op) E rfl (by decide) rfl (wanted_none rfl _) (run_ldi rfl (E.get 0 rfl) (bx hb 0 rfl)) fun a E => ?_
      refine env_put (d := 94) (v := .bool false) E rfl (by decide) rfl (wanted_none rfl _) ((run_ieql (E.get 0 rfl) rfl Try.underlying3 rfl).trans (by rw [hk2] <;> rfl)) fun a E => ?_
      refine wpList_nil ?_
      refine then_n ?_
      refine wp_cond_false (E.get 0 rfl) ?_
      refine wp_skip ?_
      refine then_n ?_
      refine wp_seq ?_
      refine wp_region_lit ?_
      refine env_put (d := 100) (v := .pointer (some ⟨r, 0, none⟩)) E rfl (by decide) rfl (wanted_none rfl _) (run_move rfl (E.get 63 rfl)) fun a E => ?_
      refine env_put (d := 101) (v := .pointer (some ⟨b0, 1, none⟩)) E rfl (by decide) rfl (wanted_none rfl _) (fa38_1 rfl (E.get 63 rfl)) fun a E => ?_
      refine env_put (d := 102) (v := .string e.id) E rfl (by decide) rfl (wanted_none rfl _) (run_lds rfl (E.get 0 rfl) (bx hb 1 rfl)) fun a E => ?_
      refine env_call (d := 103) (v := .tuple #[]) E rfl (by decide) rfl (wanted_none rfl _) (run_call2 (enters_of Try.func33 (by kernel_rfl) rfl) rfl rfl (E.get 2 rfl) (E.get 0 rfl)) (rmen_calls h (by omega) (by omega) e.id) fun a w1 f1 E => ?_
      obtain ⟨σ1, ⟨pv1, mv1, hn⟩, f2, hs⟩ := f1
      have hS' := fun k (hk : k < w.heap.size) h => hS k hk (hs k (Nat.lt_of_lt_of_le hk hT.size) h)
      have hT' := hT.trans' f2 (fun r hr h => hS r hr h)
      have hnb' : ¬ σ1 b0 := fun hh => hnb (hs b0 (lt_of_blk hb) hh)
      have hb' := f2.obj hb hnb
      clear f2 hs h hT hS hnb hb
      have h := hn
      have hT := hT'
      have hS := hS'
      have hnb := hnb'
      have hb := hb'
      clear hn hT' hS' hnb' hb'
      refine wpList_nil ?_
      refine then_n ?_
      refine wp_seq ?_
      refine wp_seq ?_
      refine wp_region_lit ?_
      refine env_put (d := 104) (v := .bool false) E rfl (by decide) rfl (wanted_none rfl _) (run_move rfl (E.get 56 rfl)) fun a E => ?_
      refine wpList_nil ?_
      refine then_n ?_
      refine wp_cond_false (E.get 0 rfl) ?_
      refine wp_skip ?_
      refine then_n ?_
      refine wp_seq ?_
      obtain ⟨pa2, ca2, hva, _⟩ := h.msrc
      subst hva
      refine wp_region_lit ?_
      refine env_put (d := 109) (v := .pointer (some ⟨r, 0, none⟩)) E rfl (by decide) rfl (wanted_none rfl _) (run_move rfl (E.get 68 rfl)) fun a E => ?_
      refine env_put (d := 110) (v := .pointer (some ⟨r, 0, none⟩)) E rfl (by decide) rfl (wanted_none rfl _) (run_nilchk rfl (E.get 0 rfl)) fun a E => ?_
      refine env_put (d := 111) (v := .pointer (some ⟨r, 1, none⟩)) E rfl (by decide) rfl (wanted_none rfl _) (fa58_at (by decide) rfl (E.get 0 rfl)) fun a E => ?_
      refine env_put (d := 112) (v := .slice (pa2) (menR R e.id).ms.length ca2) E rfl (by decide) rfl (wanted_none rfl _) (run_ld33 rfl (E.get 0 rfl) h.c1) fun a E => ?_
      refine env_put (d := 6) (v := .slice (pa2) (menR R e.id).ms.length ca2) E rfl (by decide) rfl (wanted_none rfl _) (run_assign rfl (E.get 0 rfl)) fun a E => ?_
      refine wpList_nil ?_
      refine then_n ?_
      refine wp_seq ?_
      refine wp_seq ?_
      refine wp_region_lit ?_
      refine env_put (d := 113) (v := .pointer (some ⟨b0, 0, none⟩)) E rfl (by decide) rfl (wanted_none rfl _) (fa38_0 rfl (E.get 72 rfl)) fun a E => ?_
      refine env_put (d := 114) (v := .int .i64 e.op) E rfl (by decide) rfl (wanted_none rfl _) (run_ldi rfl (E.get 0 rfl) (bx hb 0 rfl)) fun a E => ?_
      refine env_put (d := 115) (v := .bool false) E rfl (by decide) rfl (wanted_none rfl _) ((run_ieql (E.get 0 rfl) rfl Try.underlying3 rfl).trans (by rw [hk0] <;> rfl)) fun a E => ?_
      refine wpList_nil ?_
      refine then_n ?_
      refine wp_cond_false (E.get 0 rfl) ?_
      refine wp_skip ?_
      refine then_n ?_
      refine wp_seq ?_
      refine wp_seq ?_
      refine wp_region_lit ?_
      refine env_put (d := 138) (v := .pointer (some ⟨b0, 0, none⟩)) E rfl (by decide) rfl (wanted_none rfl _) (fa38_0 rfl (E.get 75 rfl)) fun a E => ?_
      refine env_put (d := 139) (v := .int .i64 e.op) E rfl (by decide) rfl (wanted_none rfl _) (run_ldi rfl (E.get 0 rfl) (bx hb 0 rfl)) fun a E => ?_
      refine env_put (d := 140) (v := .bool false) E rfl (by decide) rfl (wanted_none rfl _) ((run_ieql (E.get 0 rfl) rfl Try.underlying3 rfl).trans (by rw [hk1] <;> rfl)) fun a E => ?_
      refine wpList_nil ?_
      refine then_n ?_
      refine wp_cond_false (E.get 0 rfl) ?_
      refine wp_skip ?_
      refine then_n ?_
      refine wp_seq ?_
      refine wp_seq ?_
      refine wp_region_lit ?_
      refine env_put (d := 167) (v := .pointer (some ⟨b0, 0, none⟩)) E rfl (by decide) rfl (wanted_none rfl _) (fa38_0 rfl (E.get 78 rfl)) fun a E => ?_
      refine env_put (d := 168) (v := .int .i64 e.op) E rfl (by decide) rfl (wanted_none rfl _) (run_ldi rfl (E.get 0 rfl) (bx hb 0 rfl)) fun a E => ?_
      refine env_put (d := 169) (v := .bool false) E rfl (by decide) rfl (wanted_none rfl _) ((run_ieql (E.get 0 rfl) rfl Try.underlying3 rfl).trans (by rw [hk3] <;> rfl)) fun a E => ?_
      refine wpList_nil ?_
      refine then_n ?_
      refine wp_cond_false (E.get 0 rfl) ?_
      refine wp_skip ?_
      refine then_n ?_
      refine wp_seq ?_
      refine wp_region_lit ?_
      refine env_set (d := 4) (v := .int .i64 0) E rfl (by decide) (wanted_none rfl _) (run_assign rfl rfl) fun a E => ?_
      refine wpList_nil ?_
      refine then_n ?_
      refine wp_ret ?_
      have hE : refE R e = 0 := by
        have n1 : ¬ e.op = 1 := by omega
        have n6 : ¬ e.op = 6 := by omega
        have n7 : ¬ e.op = 7 := by omega
        have n8 : ¬ e.op < 1 := by omega
        have n9 : ¬ 7 < e.op := by omega
        simp [refE, followE, Edt.bad, Edt.two, Edt.fresh, linR, n1, n6, n7, n8, n9, hq6]
      have hF : refF R e = menR R e.id := by unfold refF; rw [if_neg (by omega), if_neg (by omega), if_neg (by omega), if_neg (by omega)]
      have hR : (if refE R e = 0 then refF R e else R) = menR R e.id := by rw [if_pos hE, hF]
      refine ret_tmp (t := 4) rfl E (E.get 0 rfl) ⟨by rw [hE], _, ?_, hT, hS⟩
      rw [hR]; exact ⟨_, _, h⟩
end Go.Proofs.Ytcolfgnjmnapkaa
