/- The reference lineage: mention, add, drop. -/
import Derived.Test.YtcolfgnjmnapkaaRg
set_option linter.unusedVariables false
set_option linter.unusedSimpArgs false
namespace Go.Proofs.Ytcolfgnjmnapkaa
open Go.RowKit Go.Pl

set_option maxRecDepth 100000 in
set_option maxHeartbeats 4000000 in
theorem rmen_calls {w : World} {r : Nat} {σ : Nat → Prop} {R : RefS} {pv mv : Value} (h : RefAt w r σ R pv mv) (hb : R.ms.length ≤ 100000) (hb2 : R.ps.length ≤ 100000) (a0 : ByteArray) : Calls Try.prog 33 #[.pointer (some ⟨r, 0, none⟩), .string a0] w (RPost r σ (menR R a0) (.tuple #[]) w) := by
  refine wp_start2 Try.func33 rfl rfl (n := 37) (by decide) fun a E => ?_
  have hT : Fr σ w w := Fr.refl _ _
  have hS : ∀ k, k < w.heap.size → σ k → σ k := fun _ _ h => h
  obtain ⟨p1, cp1, hv1, hle1, hcap1, hs1, hz1⟩ := h.msrc
  subst hv1
  obtain ⟨p0, cp0, hv0, hle0, hcap0, hs0, hz0⟩ := h.psrc
  subst hv0
  refine wp_seq ?_
  refine wp_region_lit ?_
  refine env_put (d := 4) (v := .pointer (some ⟨r, 0, none⟩)) E rfl (by decide) rfl (wanted_none rfl _) (run_move rfl (E.get 0 rfl)) fun a E => ?_
  refine env_put (d := 5) (v := .pointer (some ⟨r, 0, none⟩)) E rfl (by decide) rfl (wanted_none rfl _) (run_nilchk rfl (E.get 0 rfl)) fun a E => ?_
  refine env_put (d := 6) (v := .pointer (some ⟨r, 1, none⟩)) E rfl (by decide) rfl (wanted_none rfl _) (fa58_at (by decide) rfl (E.get 0 rfl)) fun a E => ?_
  refine env_put (d := 7) (v := .slice (p1) R.ms.length cp1) E rfl (by decide) rfl (wanted_none rfl _) (run_ld33 rfl (E.get 0 rfl) h.c1) fun a E => ?_
  refine env_put (d := 8) (v := .string a0) E rfl (by decide) rfl (wanted_none rfl _) (run_move rfl (E.get 5 rfl)) fun a E => ?_
  refine env_call (d := 9) (v := .bool (inB R.ms a0)) E rfl (by decide) rfl (wanted_none rfl _) (run_call2 (enters_of Try.func24 (by kernel_rfl) rfl) rfl rfl (E.get 1 rfl) (E.get 0 rfl)) (h.inC _) fun a w1 f1 E => ?_
  have h := RefAt.fr h f1 (fun _ _ h => h)
  have hT := hT.trans' f1 (fun _ _ h => h.elim)
  have hs1 := hs1.fr f1 (fun _ _ h => h)
  have hs0 := hs0.fr f1 (fun _ _ h => h)
  clear f1
  refine env_put (d := 10) (v := .bool (!(inB R.ms a0))) E rfl (by decide) rfl (wanted_none rfl _) (run_not rfl (E.get 0 rfl)) fun a E => ?_
  refine wpList_nil ?_
  refine then_n ?_
  cases hq1 : (inB R.ms a0) with
  | false =>
    rw [hq1] at E
    refine wp_cond_true (E.get 0 rfl) ?_
    refine wp_seq ?_
    obtain ⟨B, hB⟩ : ∃ B, B = w1.heap.size := ⟨_, rfl⟩
    have hBs : B ≤ w1.heap.size := by omega
    have hg := Fr.refl (fun _ => False) w1
    have hs1 := hs1.mono (G' := B) (by have := hT.size; omega)
    clear hs0
    refine wp_region_lit ?_
    refine env_put (d := 11) (v := .pointer (some ⟨r, 0, none⟩)) E rfl (by decide) rfl (wanted_none rfl _) (run_move rfl (E.get 7 rfl)) fun a E => ?_
    refine env_emp33 (B := B) (d := 12) E rfl (by decide) rfl (wanted_none rfl _) rfl hBs fun a w1 b2 eb2 hO f1 E => ?_
    have hg := hg.trans f1
    have hBs := Nat.le_trans hBs f1.size
    have hs1 := hs1.fr f1 (fun _ _ h => h)
    clear f1
    refine env_put (d := 13) (v := .pointer (some ⟨r, 0, none⟩)) E rfl (by decide) rfl (wanted_none rfl _) (run_move rfl (E.get 9 rfl)) fun a E => ?_
    refine env_put (d := 14) (v := .pointer (some ⟨r, 0, none⟩)) E rfl (by decide) rfl (wanted_none rfl _) (run_nilchk rfl (E.get 0 rfl)) fun a E => ?_
    refine env_put (d := 15) (v := .pointer (some ⟨r, 1, none⟩)) E rfl (by decide) rfl (wanted_none rfl _) (fa58_at (by decide) rfl (E.get 0 rfl)) fun a E => ?_
    refine env_put (d := 16) (v := .slice (p1) R.ms.length cp1) E rfl (by decide) rfl (wanted_none rfl _) (run_ld33 rfl (E.get 0 rfl) (hg.cell h.c1 id)) fun a E => ?_
    refine env_app33 (d := 17) E rfl (by decide) rfl rfl rfl (E.get 4 rfl) hO (E.get 0 rfl) hs1 hz1 (by simp; omega) hBs fun a w1 ov3 hO2 f1 hloc E => ?_
    have hg := hg.trans' f1 (fun r hr e => by have := (hO.lt e).1; omega)
    have hBs := Nat.le_trans hBs f1.size
    have hs1 := hs1.fr f1 (fun r hr e => by have := (hO.lt e).1; omega)
    clear f1
    replace hO := hO2
    clear hloc
    refine env_put (d := 18) (v := .string a0) E rfl (by decide) rfl (wanted_none rfl _) (run_move rfl (E.get 15 rfl)) fun a E => ?_
    refine env_one33 (d := 19) E rfl (by decide) rfl (wanted_none rfl _) rfl (E.get 0 rfl) fun a w1 b4 eb4 hb4 f1 E => ?_
    have hg := hg.trans f1
    have hBs := Nat.le_trans hBs f1.size
    have hs1 := hs1.fr f1 (fun _ _ h => h)
    have hO := ow.fr hO f1 (fun _ _ h => h)
    clear f1
    refine env_app33 (d := 20) E rfl (by decide) rfl rfl rfl (E.get 2 rfl) hO (E.get 0 rfl) (src_one (f := strC) (G := w1.heap.size) hb4 (lt_of_blk hb4)) (fun h => by cases h) (by simp; omega) hBs fun a w1 ov5 hO2 f1 hloc E => ?_
    have hg := hg.trans' f1 (fun r hr e => by have := (hO.lt e).1; omega)
    have hBs := Nat.le_trans hBs f1.size
    have hs1 := hs1.fr f1 (fun r hr e => by have := (hO.lt e).1; omega)
    clear f1
    replace hO := hO2
    clear hloc
    refine env_put (d := 21) (v := .pointer (some ⟨r, 0, none⟩)) E rfl (by decide) rfl (wanted_none rfl _) (run_nilchk rfl (E.get 9 rfl)) fun a E => ?_
    refine env_put (d := 22) (v := .pointer (some ⟨r, 1, none⟩)) E rfl (by decide) rfl (wanted_none rfl _) (fa58_at (by decide) rfl (E.get 0 rfl)) fun a E => ?_
    obtain ⟨⟨pn, nn, cn, hvv⟩, ⟨d1, d2⟩, σ1, hR1, f2, hs2⟩ := h.setM2 hg hO (by omega)
    refine env_store E rfl (wanted_none rfl _) (run_st33 hvv rfl (E.get 0 rfl) (E.get 2 rfl) d1 d2) fun E => ?_
    generalize World.setCell _ _ ov5 = wS6 at hR1 f2 ⊢
    have hS' := fun k (hk : k < w.heap.size) h => hS k hk (hs2 k (Nat.lt_of_lt_of_le hk hT.size) h)
    have hT' := hT.trans' f2 (fun r hr h => hS r hr h)
    clear hS d1 d2 hs2 f2 hg hvv hO hBs hs1
    have h := hR1
    have hT := hT'
    have hS := hS'
    clear hR1 hS' hT'
    refine wpList_nil ?_
    refine then_n ?_
    obtain ⟨p0, cp0, hv0, hle0, hcap0, hs0, hz0⟩ := h.psrc
    rw [hv0] at h
    obtain ⟨B, hB⟩ : ∃ B, B = wS6.heap.size := ⟨_, rfl⟩
    have hBs : B ≤ wS6.heap.size := by omega
    have hg := Fr.refl (fun _ => False) wS6
    have hs0 := hs0.mono (G' := B) (by have := hT.size; omega)
    refine wp_region_lit ?_
    refine env_put (d := 23) (v := .pointer (some ⟨r, 0, none⟩)) E rfl (by decide) rfl (wanted_none rfl _) (run_move rfl (E.get 19 rfl)) fun a E => ?_
    refine env_emp56 (B := B) (d := 24) E rfl (by decide) rfl (wanted_none rfl _) rfl hBs fun a w1 b7 eb7 hO f1 E => ?_
    have hg := hg.trans f1
    have hBs := Nat.le_trans hBs f1.size
    have hs0 := hs0.fr f1 (fun _ _ h => h)
    clear f1
    refine env_put (d := 25) (v := .pointer (some ⟨r, 0, none⟩)) E rfl (by decide) rfl (wanted_none rfl _) (run_move rfl (E.get 21 rfl)) fun a E => ?_
    refine env_put (d := 26) (v := .pointer (some ⟨r, 0, none⟩)) E rfl (by decide) rfl (wanted_none rfl _) (run_nilchk rfl (E.get 0 rfl)) fun a E => ?_
    refine env_put (d := 27) (v := .pointer (some ⟨r, 0, none⟩)) E rfl (by decide) rfl (wanted_none rfl _) (fa58_at (by decide) rfl (E.get 0 rfl)) fun a E => ?_
    refine env_put (d := 28) (v := .slice (p0) R.ps.length cp0) E rfl (by decide) rfl (wanted_none rfl _) (run_ld56 rfl (E.get 0 rfl) (hg.cell h.c0 id)) fun a E => ?_
    refine env_app56 (d := 29) E rfl (by decide) rfl rfl rfl (E.get 4 rfl) hO (E.get 0 rfl) hs0 hz0 (by simp; omega) hBs fun a w1 ov8 hO2 f1 hloc E => ?_
    have hg := hg.trans' f1 (fun r hr e => by have := (hO.lt e).1; omega)
    have hBs := Nat.le_trans hBs f1.size
    have hs0 := hs0.fr f1 (fun r hr e => by have := (hO.lt e).1; omega)
    clear f1
    replace hO := hO2
    clear hloc
    refine env_put (d := 30) (v := .string a0) E rfl (by decide) rfl (wanted_none rfl _) (run_move rfl (E.get 27 rfl)) fun a E => ?_
    refine env_put (d := 31) (v := .string a0) E rfl (by decide) rfl (wanted_none rfl _) (run_move rfl (E.get 28 rfl)) fun a E => ?_
    refine env_put (d := 32) (v := .agg #[.string a0, .string a0]) E rfl (by decide) rfl (wanted_none rfl _) (run_of70 rfl (E.get 1 rfl) (E.get 0 rfl)) fun a E => ?_
    refine env_one56 (d := 33) E rfl (by decide) rfl (wanted_none rfl _) rfl (E.get 0 rfl) fun a w1 b9 eb9 hb9 f1 E => ?_
    have hg := hg.trans f1
    have hBs := Nat.le_trans hBs f1.size
    have hs0 := hs0.fr f1 (fun _ _ h => h)
    have hO := ow.fr hO f1 (fun _ _ h => h)
    clear f1
    refine env_app56 (d := 34) E rfl (by decide) rfl rfl rfl (E.get 4 rfl) hO (E.get 0 rfl) (src_one (f := scells) (G := w1.heap.size) hb9 (lt_of_blk hb9)) (fun h => by cases h) (by simp; omega) hBs fun a w1 ov10 hO2 f1 hloc E => ?_
    have hg := hg.trans' f1 (fun r hr e => by have := (hO.lt e).1; omega)
    have hBs := Nat.le_trans hBs f1.size
    have hs0 := hs0.fr f1 (fun r hr e => by have := (hO.lt e).1; omega)
    clear f1
    replace hO := hO2
    clear hloc
    refine env_put (d := 35) (v := .pointer (some ⟨r, 0, none⟩)) E rfl (by decide) rfl (wanted_none rfl _) (run_nilchk rfl (E.get 11 rfl)) fun a E => ?_
    refine env_put (d := 36) (v := .pointer (some ⟨r, 0, none⟩)) E rfl (by decide) rfl (wanted_none rfl _) (fa58_at (by decide) rfl (E.get 0 rfl)) fun a E => ?_
    obtain ⟨⟨pn, nn, cn, hvv⟩, ⟨d1, d2⟩, σ1, hR1, f2, hs2⟩ := h.setP2 hg hO (by omega)
    refine env_store E rfl (wanted_none rfl _) (run_st56 hvv rfl (E.get 0 rfl) (E.get 2 rfl) d1 d2) fun E => ?_
    generalize World.setCell _ _ ov10 = wS11 at hR1 f2 ⊢
    have hS' := fun k (hk : k < w.heap.size) h => hS k hk (hs2 k (Nat.lt_of_lt_of_le hk hT.size) h)
    have hT' := hT.trans' f2 (fun r hr h => hS r hr h)
    clear hS d1 d2 hs2 f2 hg hvv hO hBs hs0
    have h := hR1
    have hT := hT'
    have hS := hS'
    clear hR1 hS' hT'
    refine wpList_nil ?_
    refine (ret_nil rfl E ⟨rfl, _, ?_, hT, hS⟩).1
    rw [show menR R a0 = ⟨R.ps ++ [(a0, a0)], R.ms ++ [a0]⟩ by unfold menR; rw [if_neg (by rw [hq1]; simp)]]
    simp only [List.nil_append] at h
    exact ⟨_, _, h⟩
  | true =>
    rw [hq1] at E
    refine wp_cond_false (E.get 0 rfl) ?_
    refine wp_skip ?_
    refine (ret_nil rfl E ⟨rfl, _, ?_, hT, hS⟩).1
    rw [show menR R a0 = R by unfold menR; rw [if_pos hq1]]
    exact ⟨_, _, h⟩
set_option maxRecDepth 100000 in
set_option maxHeartbeats 4000000 in
theorem radd_calls {w : World} {r : Nat} {σ : Nat → Prop} {R : RefS} {pv mv : Value} (h : RefAt w r σ R pv mv) (hb2 : R.ps.length ≤ 100000) (a0 b0 : ByteArray) : Calls Try.prog 34 #[.pointer (some ⟨r, 0, none⟩), .string a0, .string b0] w (RPostM r σ (addR R a0 b0) (.tuple #[]) mv w) := by
  refine wp_start3 Try.func34 rfl rfl (n := 25) (by decide) fun a E => ?_
  have hT : Fr σ w w := Fr.refl _ _
  have hS : ∀ k, k < w.heap.size → σ k → σ k := fun _ _ h => h
  obtain ⟨p0, cp0, hv0, hle0, hcap0, hs0, hz0⟩ := h.psrc
  subst hv0
  refine wp_seq ?_
  refine wp_region_lit ?_
  refine env_put (d := 6) (v := .pointer (some ⟨r, 0, none⟩)) E rfl (by decide) rfl (wanted_none rfl _) (run_move rfl (E.get 0 rfl)) fun a E => ?_
  refine env_put (d := 7) (v := .string a0) E rfl (by decide) rfl (wanted_none rfl _) (run_move rfl (E.get 2 rfl)) fun a E => ?_
  refine env_put (d := 8) (v := .string b0) E rfl (by decide) rfl (wanted_none rfl _) (run_move rfl (E.get 4 rfl)) fun a E => ?_
  refine env_call (d := 9) (v := .bool (pairB R a0 b0)) E rfl (by decide) rfl (wanted_none rfl _) (run_call3 (enters_of Try.func32 (by kernel_rfl) rfl) rfl rfl (E.get 2 rfl) (E.get 1 rfl) (E.get 0 rfl)) (h.pairC _ _) fun a w1 f1 E => ?_
  have h := RefAt.fr h f1 (fun _ _ h => h)
  have hT := hT.trans' f1 (fun _ _ h => h.elim)
  have hs0 := hs0.fr f1 (fun _ _ h => h)
  clear f1
  refine env_put (d := 10) (v := .bool (!(pairB R a0 b0))) E rfl (by decide) rfl (wanted_none rfl _) (run_not rfl (E.get 0 rfl)) fun a E => ?_
  refine wpList_nil ?_
  refine then_n ?_
  cases hq12 : (pairB R a0 b0) with
  | false =>
    rw [hq12] at E
    refine wp_cond_true (E.get 0 rfl) ?_
    obtain ⟨B, hB⟩ : ∃ B, B = w1.heap.size := ⟨_, rfl⟩
    have hBs : B ≤ w1.heap.size := by omega
    have hg := Fr.refl (fun _ => False) w1
    have hs0 := hs0.mono (G' := B) (by have := hT.size; omega)
    refine wp_region_lit ?_
    refine env_put (d := 11) (v := .pointer (some ⟨r, 0, none⟩)) E rfl (by decide) rfl (wanted_none rfl _) (run_move rfl (E.get 5 rfl)) fun a E => ?_
    refine env_emp56 (B := B) (d := 12) E rfl (by decide) rfl (wanted_none rfl _) rfl hBs fun a w1 b13 eb13 hO f1 E => ?_
    have hg := hg.trans f1
    have hBs := Nat.le_trans hBs f1.size
    have hs0 := hs0.fr f1 (fun _ _ h => h)
    clear f1
    refine env_put (d := 13) (v := .pointer (some ⟨r, 0, none⟩)) E rfl (by decide) rfl (wanted_none rfl _) (run_move rfl (E.get 7 rfl)) fun a E => ?_
    refine env_put (d := 14) (v := .pointer (some ⟨r, 0, none⟩)) E rfl (by decide) rfl (wanted_none rfl _) (run_nilchk rfl (E.get 0 rfl)) fun a E => ?_
    refine env_put (d := 15) (v := .pointer (some ⟨r, 0, none⟩)) E rfl (by decide) rfl (wanted_none rfl _) (fa58_at (by decide) rfl (E.get 0 rfl)) fun a E => ?_
    refine env_put (d := 16) (v := .slice (p0) R.ps.length cp0) E rfl (by decide) rfl (wanted_none rfl _) (run_ld56 rfl (E.get 0 rfl) (hg.cell h.c0 id)) fun a E => ?_
    refine env_app56 (d := 17) E rfl (by decide) rfl rfl rfl (E.get 4 rfl) hO (E.get 0 rfl) hs0 hz0 (by simp; omega) hBs fun a w1 ov14 hO2 f1 hloc E => ?_
    have hg := hg.trans' f1 (fun r hr e => by have := (hO.lt e).1; omega)
    have hBs := Nat.le_trans hBs f1.size
    have hs0 := hs0.fr f1 (fun r hr e => by have := (hO.lt e).1; omega)
    clear f1
    replace hO := hO2
    clear hloc
    refine env_put (d := 18) (v := .string a0) E rfl (by decide) rfl (wanted_none rfl _) (run_move rfl (E.get 13 rfl)) fun a E => ?_
    refine env_put (d := 19) (v := .string b0) E rfl (by decide) rfl (wanted_none rfl _) (run_move rfl (E.get 15 rfl)) fun a E => ?_
    refine env_put (d := 20) (v := .agg #[.string a0, .string b0]) E rfl (by decide) rfl (wanted_none rfl _) (run_of70 rfl (E.get 1 rfl) (E.get 0 rfl)) fun a E => ?_
    refine env_one56 (d := 21) E rfl (by decide) rfl (wanted_none rfl _) rfl (E.get 0 rfl) fun a w1 b15 eb15 hb15 f1 E => ?_
    have hg := hg.trans f1
    have hBs := Nat.le_trans hBs f1.size
    have hs0 := hs0.fr f1 (fun _ _ h => h)
    have hO := ow.fr hO f1 (fun _ _ h => h)
    clear f1
    refine env_app56 (d := 22) E rfl (by decide) rfl rfl rfl (E.get 4 rfl) hO (E.get 0 rfl) (src_one (f := scells) (G := w1.heap.size) hb15 (lt_of_blk hb15)) (fun h => by cases h) (by simp; omega) hBs fun a w1 ov16 hO2 f1 hloc E => ?_
    have hg := hg.trans' f1 (fun r hr e => by have := (hO.lt e).1; omega)
    have hBs := Nat.le_trans hBs f1.size
    have hs0 := hs0.fr f1 (fun r hr e => by have := (hO.lt e).1; omega)
    clear f1
    replace hO := hO2
    clear hloc
    refine env_put (d := 23) (v := .pointer (some ⟨r, 0, none⟩)) E rfl (by decide) rfl (wanted_none rfl _) (run_nilchk rfl (E.get 11 rfl)) fun a E => ?_
    refine env_put (d := 24) (v := .pointer (some ⟨r, 0, none⟩)) E rfl (by decide) rfl (wanted_none rfl _) (fa58_at (by decide) rfl (E.get 0 rfl)) fun a E => ?_
    obtain ⟨⟨pn, nn, cn, hvv⟩, ⟨d1, d2⟩, σ1, hR1, f2, hs2⟩ := h.setP2 hg hO (by omega)
    refine env_store E rfl (wanted_none rfl _) (run_st56 hvv rfl (E.get 0 rfl) (E.get 2 rfl) d1 d2) fun E => ?_
    generalize World.setCell _ _ ov16 = wS17 at hR1 f2 ⊢
    have hS' := fun k (hk : k < w.heap.size) h => hS k hk (hs2 k (Nat.lt_of_lt_of_le hk hT.size) h)
    have hT' := hT.trans' f2 (fun r hr h => hS r hr h)
    clear hS d1 d2 hs2 f2 hg hvv hO hBs hs0
    have h := hR1
    have hT := hT'
    have hS := hS'
    clear hR1 hS' hT'
    refine wpList_nil ?_
    refine (ret_nil rfl E ⟨rfl, _, ?_, hT, hS⟩).1
    rw [show addR R a0 b0 = ⟨R.ps ++ [(a0, b0)], R.ms⟩ by unfold addR; rw [if_neg (by rw [hq12]; simp)]]
    simp only [List.nil_append] at h
    exact ⟨_, h⟩
  | true =>
    rw [hq12] at E
    refine wp_cond_false (E.get 0 rfl) ?_
    refine wp_skip ?_
    refine (ret_nil rfl E ⟨rfl, _, ?_, hT, hS⟩).1
    rw [show addR R a0 b0 = R by unfold addR; rw [if_pos hq12]]
    exact ⟨_, h⟩
set_option maxRecDepth 100000 in
set_option maxHeartbeats 4000000 in
theorem rdrop_calls {w : World} {r : Nat} {σ : Nat → Prop} {R : RefS} {pv mv : Value} (h : RefAt w r σ R pv mv) (hb2 : R.ps.length ≤ 100000) (a0 : ByteArray) : Calls Try.prog 35 #[.pointer (some ⟨r, 0, none⟩), .string a0] w (RPost r σ (dropR R a0) (.tuple #[]) w) := by
  refine wp_start2 Try.func35 rfl rfl (n := 39) (by decide) fun a E => ?_
  have hT : Fr σ w w := Fr.refl _ _
  have hS : ∀ k, k < w.heap.size → σ k → σ k := fun _ _ h => h
  obtain ⟨p0, cp0, hv0, hle0, hcap0, hs0, hz0⟩ := h.psrc
  subst hv0
  refine wp_seq ?_
  refine wp_region_lit ?_
  refine env_put (d := 4) (v := .slice none 0 0) E rfl (by decide) rfl (wanted_none rfl _) (run_assign rfl rfl) fun a E => ?_
  refine wpList_nil ?_
  refine then_n ?_
  refine wp_seq ?_
  refine wp_seq ?_
  obtain ⟨B, hB⟩ : ∃ B, B = w.heap.size := ⟨_, rfl⟩
  have hBs : B ≤ w.heap.size := by omega
  have hg := Fr.refl (fun _ => False) w
  have hs0 := hs0.mono (G' := B) (by have := hT.size; omega)
  have hO : oPr w B (.slice none 0 0) [] := ow_nil _
  refine wp_region_lit ?_
  refine env_put (d := 5) (v := .int .i64 0) E rfl (by decide) rfl (wanted_none rfl _) (run_assign rfl rfl) fun a E => ?_
  refine wpList_nil ?_
  refine then_n ?_
  refine wp_block ?_
  refine wp_loop (fun a w2 => ∃ (i : Nat) (dv : Value), Env 39 [(5, .int .i64 (i : Int)), (4, dv), (1, .string a0), (0, .pointer (some ⟨r, 0, none⟩))] a ∧ i ≤ R.ps.length ∧ oPr w2 B dv ((R.ps.take i).filter (fun x => !decide (x.2 = a0))) ∧ Fr (fun _ => False) w w2 ∧ srcAt scells 2 w2 B p0 R.ps ∧ B ≤ w2.heap.size) (fun a _ => R.ps.length - (intOf (a.eval (.tmp 5))).toNat) ?_ ?_
  · exact ⟨0, .slice none 0 0, E.of ⟨E.get 0 rfl, E.get 1 rfl, E.get 3 rfl, E.get 2 rfl, trivial⟩, Nat.zero_le _, hO, hg, hs0, hBs⟩
  clear E
  rintro a w2 ⟨i, dv, E, hi, hO, hg, hs0, hBs⟩
  have hmu : R.ps.length - (intOf (a.eval (.tmp 5))).toNat = R.ps.length - i := by rw [E.get 0 rfl]; first | (simp [intOf]; done) | (simp only [intOf]; omega)
  rw [hmu]
  clear hmu
  refine wp_seq ?_
  refine wp_seq ?_
  refine wp_region_lit ?_
  refine env_put (d := 6) (v := .int .i64 (i : Int)) E rfl (by decide) rfl (wanted_none rfl _) (run_move rfl (E.get 0 rfl)) fun a E => ?_
  refine env_put (d := 7) (v := .pointer (some ⟨r, 0, none⟩)) E rfl (by decide) rfl (wanted_none rfl _) (run_move rfl (E.get 4 rfl)) fun a E => ?_
  refine env_put (d := 8) (v := .pointer (some ⟨r, 0, none⟩)) E rfl (by decide) rfl (wanted_none rfl _) (run_nilchk rfl (E.get 0 rfl)) fun a E => ?_
  refine env_put (d := 9) (v := .pointer (some ⟨r, 0, none⟩)) E rfl (by decide) rfl (wanted_none rfl _) (fa58_at (by decide) rfl (E.get 0 rfl)) fun a E => ?_
  refine env_put (d := 10) (v := .slice (p0) R.ps.length cp0) E rfl (by decide) rfl (wanted_none rfl _) (run_ld56 rfl (E.get 0 rfl) (hg.cell h.c0 id)) fun a E => ?_
  refine env_put (d := 11) (v := .int .i64 (R.ps.length : Int)) E rfl (by decide) rfl (wanted_none rfl _) (run_len56 rfl (E.get 0 rfl)) fun a E => ?_
  refine env_put (d := 12) (v := .bool (decide ((i : Int) < (R.ps.length : Int)))) E rfl (by decide) rfl (wanted_none rfl _) (run_ilss (E.get 5 rfl) (E.get 0 rfl) Try.underlying3 rfl) fun a E => ?_
  refine wpList_nil ?_
  refine then_n ?_
  cases hq19 : (decide ((i : Int) < (R.ps.length : Int))) with
  | false =>
    rw [hq19] at E
    have hie : i = R.ps.length := by have := of_decide_eq_false hq19; omega
    rw [hie, List.take_length] at hO
    refine wp_cond_false (E.get 0 rfl) ?_
    refine wp_exit ?_
    refine then_e ?_
    refine then_e ?_
    refine blk_e ?_
    refine then_n ?_
    refine wp_region_lit ?_
    refine env_put (d := 35) (v := .pointer (some ⟨r, 0, none⟩)) E rfl (by decide) rfl (wanted_none rfl _) (run_move rfl (E.get 10 rfl)) fun a E => ?_
    refine env_put (d := 36) (v := dv) E rfl (by decide) rfl (wanted_none rfl _) (run_move rfl (E.get 9 rfl)) fun a E => ?_
    refine env_put (d := 37) (v := .pointer (some ⟨r, 0, none⟩)) E rfl (by decide) rfl (wanted_none rfl _) (run_nilchk rfl (E.get 1 rfl)) fun a E => ?_
    refine env_put (d := 38) (v := .pointer (some ⟨r, 0, none⟩)) E rfl (by decide) rfl (wanted_none rfl _) (fa58_at (by decide) rfl (E.get 0 rfl)) fun a E => ?_
    obtain ⟨⟨pn, nn, cn, hvv⟩, ⟨d1, d2⟩, σ1, hR1, f2, hs2⟩ := h.setP2 hg hO (by omega)
    refine env_store E rfl (wanted_none rfl _) (run_st56 hvv rfl (E.get 0 rfl) (E.get 2 rfl) d1 d2) fun E => ?_
    generalize World.setCell _ _ dv = wS20 at hR1 f2 ⊢
    have hS' := fun k (hk : k < w.heap.size) h => hS k hk (hs2 k (Nat.lt_of_lt_of_le hk hT.size) h)
    have hT' := hT.trans' f2 (fun r hr h => hS r hr h)
    clear hS d1 d2 hs2 f2 hg hvv hO hBs hs0
    have h := hR1
    have hT := hT'
    have hS := hS'
    clear hR1 hS' hT'
    refine wpList_nil ?_
    exact (ret_nil rfl E ⟨rfl, _, ⟨_, _, h⟩, hT, hS⟩).1
  | true =>
    rw [hq19] at E
    have hlt : i < R.ps.length := by have := of_decide_eq_true hq19; omega
    obtain ⟨y, hy⟩ : ∃ y, R.ps[i]? = some y := ⟨_, List.getElem?_eq_getElem hlt⟩
    obtain ⟨g, off, hpe, hgl, hrow⟩ := hs0.at hlt
    replace hrow := hrow i y hy
    have hfl : ((R.ps.take i).filter (fun x => !decide (x.2 = a0))).length ≤ 100000 := by have h1 := List.length_filter_le (fun x : ByteArray × ByteArray => !decide (x.2 = a0)) (R.ps.take i); rw [List.length_take] at h1; omega
    refine wp_cond_true (E.get 0 rfl) ?_
    refine wp_skip ?_
    refine then_n ?_
    refine wp_seq ?_
    refine wp_block ?_
    refine wp_seq ?_
    refine wp_region_lit ?_
    refine env_put (d := 15) (v := .pointer (some ⟨r, 0, none⟩)) E rfl (by decide) rfl (wanted_none rfl _) (run_move rfl (E.get 10 rfl)) fun a E => ?_
    refine env_put (d := 16) (v := .pointer (some ⟨r, 0, none⟩)) E rfl (by decide) rfl (wanted_none rfl _) (run_nilchk rfl (E.get 0 rfl)) fun a E => ?_
    refine env_put (d := 17) (v := .pointer (some ⟨r, 0, none⟩)) E rfl (by decide) rfl (wanted_none rfl _) (fa58_at (by decide) rfl (E.get 0 rfl)) fun a E => ?_
    refine env_put (d := 18) (v := .slice (p0) R.ps.length cp0) E rfl (by decide) rfl (wanted_none rfl _) (run_ld56 rfl (E.get 0 rfl) (hg.cell h.c0 id)) fun a E => ?_
    refine env_put (d := 19) (v := .int .i64 (i : Int)) E rfl (by decide) rfl (wanted_none rfl _) (run_move rfl (E.get 11 rfl)) fun a E => ?_
    refine env_put (d := 20) (v := .pointer (some ⟨g, (off + i * 2), none⟩)) E rfl (by decide) rfl (wanted_none rfl _) (run_index56 (i := i) rfl ((E.get 1 rfl).trans (by rw [hpe])) (E.get 0 rfl) hlt) fun a E => ?_
    refine env_put (d := 21) (v := .pointer (some ⟨g, ((off + i * 2) + 1), none⟩)) E rfl (by decide) rfl (wanted_none rfl _) (run_index70 (i := 1) rfl (E.get 0 rfl) rfl (by decide)) fun a E => ?_
    refine env_put (d := 22) (v := .string y.2) E rfl (by decide) rfl (wanted_none rfl _) (run_lds rfl (E.get 0 rfl) (hrow 1 _ rfl)) fun a E => ?_
    refine env_put (d := 23) (v := .string a0) E rfl (by decide) rfl (wanted_none rfl _) (run_move rfl (E.get 17 rfl)) fun a E => ?_
    refine env_put (d := 24) (v := .bool (!(decide (y.2 = a0)))) E rfl (by decide) rfl (wanted_none rfl _) (run_sneq (E.get 1 rfl) (E.get 0 rfl) rfl) fun a E => ?_
    refine wpList_nil ?_
    refine then_n ?_
    cases hq21 : (decide (y.2 = a0)) with
    | false =>
      rw [hq21] at E
      refine wp_cond_true (E.get 0 rfl) ?_
      refine wp_region_lit ?_
      refine env_put (d := 25) (v := dv) E rfl (by decide) rfl (wanted_none rfl _) (run_move rfl (E.get 18 rfl)) fun a E => ?_
      refine env_put (d := 26) (v := .pointer (some ⟨r, 0, none⟩)) E rfl (by decide) rfl (wanted_none rfl _) (run_move rfl (E.get 21 rfl)) fun a E => ?_
      refine env_put (d := 27) (v := .pointer (some ⟨r, 0, none⟩)) E rfl (by decide) rfl (wanted_none rfl _) (run_nilchk rfl (E.get 0 rfl)) fun a E => ?_
      refine env_put (d := 28) (v := .pointer (some ⟨r, 0, none⟩)) E rfl (by decide) rfl (wanted_none rfl _) (fa58_at (by decide) rfl (E.get 0 rfl)) fun a E => ?_
      refine env_put (d := 29) (v := .slice (p0) R.ps.length cp0) E rfl (by decide) rfl (wanted_none rfl _) (run_ld56 rfl (E.get 0 rfl) (hg.cell h.c0 id)) fun a E => ?_
      refine env_put (d := 30) (v := .int .i64 (i : Int)) E rfl (by decide) rfl (wanted_none rfl _) (run_move rfl (E.get 22 rfl)) fun a E => ?_
      refine env_put (d := 31) (v := .pointer (some ⟨g, (off + i * 2), none⟩)) E rfl (by decide) rfl (wanted_none rfl _) (run_index56 (i := i) rfl ((E.get 1 rfl).trans (by rw [hpe])) (E.get 0 rfl) hlt) fun a E => ?_
      refine env_put (d := 32) (v := .agg #[.string y.1, .string y.2]) E rfl (by decide) rfl (wanted_none rfl _) (run_ld70 rfl (E.get 0 rfl) (hrow 0 _ rfl) (hrow 1 _ rfl)) fun a E => ?_
      refine env_one56 (d := 33) E rfl (by decide) rfl (wanted_none rfl _) rfl (E.get 0 rfl) fun a w1 b22 eb22 hb22 f1 E => ?_
      have hg := hg.trans f1
      have hBs := Nat.le_trans hBs f1.size
      have hs0 := hs0.fr f1 (fun _ _ h => h)
      have hO := ow.fr hO f1 (fun _ _ h => h)
      have hrow := fun j u hu => f1.cell (hrow j u hu) id
      clear f1
      refine env_app56 (d := 34) E rfl (by decide) rfl rfl rfl (E.get 8 rfl) hO (E.get 0 rfl) (src_one (f := scells) (G := w1.heap.size) hb22 (lt_of_blk hb22)) (fun h => by cases h) (by simp only [List.length_cons, List.length_nil]; omega) hBs fun a w1 ov23 hO2 f1 hloc E => ?_
      have hg := hg.trans' f1 (fun r hr e => by have := (hO.lt e).1; omega)
      have hBs := Nat.le_trans hBs f1.size
      have hs0 := hs0.fr f1 (fun r hr e => by have := (hO.lt e).1; omega)
      clear f1
      replace hO := hO2
      clear hloc
      refine env_set (d := 4) (v := ov23) E rfl (by decide) (wanted_none rfl _) (run_assign rfl (E.get 0 rfl)) fun a E => ?_
      refine wpList_nil ?_
      refine blk_n ?_
      refine then_n ?_
      refine wp_region_lit ?_
      refine env_put (d := 13) (v := .int .i64 (i : Int)) E rfl (by decide) rfl (wanted_none rfl _) (run_move rfl (E.get 28 rfl)) fun a E => ?_
      refine env_put (d := 14) (v := .int .i64 ((i : Int) + 1)) E rfl (by decide) rfl (wanted_none rfl _) (run_iadd (E.get 0 rfl) rfl (by omega) (by omega) rfl) fun a E => ?_
      refine env_set (d := 5) (v := .int .i64 ((i : Int) + 1)) E rfl (by decide) (wanted_none rfl _) (run_assign rfl (E.get 0 rfl)) fun a E => ?_
      refine wpList_nil ?_
      refine then_n ?_
      refine ⟨⟨i + 1, ov23, E.of ⟨E.get 0 rfl, E.get 3 rfl, E.get 31 rfl, E.get 32 rfl, trivial⟩, hlt, ?_, hg, hs0, hBs⟩, ?_⟩
      · rw [List.take_add_one, hy, List.filter_append]
        simp only [Option.toList_some, List.filter_cons, hq21, Bool.not_false, if_true, List.filter_nil]
        exact hO
      · rw [E.get 0 rfl]; simp only [intOf]; omega
    | true =>
      rw [hq21] at E
      refine wp_cond_false (E.get 0 rfl) ?_
      refine wp_skip ?_
      refine blk_n ?_
      refine then_n ?_
      refine wp_region_lit ?_
      refine env_put (d := 13) (v := .int .i64 (i : Int)) E rfl (by decide) rfl (wanted_none rfl _) (run_move rfl (E.get 17 rfl)) fun a E => ?_
      refine env_put (d := 14) (v := .int .i64 ((i : Int) + 1)) E rfl (by decide) rfl (wanted_none rfl _) (run_iadd (E.get 0 rfl) rfl (by omega) (by omega) rfl) fun a E => ?_
      refine env_set (d := 5) (v := .int .i64 ((i : Int) + 1)) E rfl (by decide) (wanted_none rfl _) (run_assign rfl (E.get 0 rfl)) fun a E => ?_
      refine wpList_nil ?_
      refine then_n ?_
      refine ⟨⟨i + 1, dv, E.of ⟨E.get 0 rfl, E.get 20 rfl, E.get 21 rfl, E.get 22 rfl, trivial⟩, hlt, ?_, hg, hs0, hBs⟩, ?_⟩
      · rw [List.take_add_one, hy, List.filter_append]
        simp only [Option.toList_some, List.filter_cons, hq21, Bool.not_true, Bool.false_eq_true, if_false, List.filter_nil, List.append_nil]
        exact hO
      · rw [E.get 0 rfl]; simp only [intOf]; omega
end Go.Proofs.Ytcolfgnjmnapkaa
