/- The reference index: Near. -/
import Derived.Test.YtcafnanbdmapgaaI9
set_option linter.unusedVariables false
set_option linter.unusedSimpArgs false
namespace Go.Proofs.Ytcafnanbdmapgaa
open Go.RowKit Go.Pl

set_option maxRecDepth 100000 in
set_option maxHeartbeats 4000000 in
theorem rnear_calls {w : World} {r : Nat} {σ : Nat → Prop} {I : List ByteArray} {J : List Bx} {iv bv : Value} (h : RIAt w r σ I J iv bv) (hIJ : I.length = J.length) (hI : I.length ≤ 100000) (hJo : ∀ b ∈ J, okB b) (q : Pt) (n : Int) : Calls Try.prog 22 #[.pointer (some ⟨r, 0, none⟩), .agg (ptC q), .int .i64 n] w fun e w' => ∃ v, e = .returned v ∧ oStr w' w.heap.size v (if isP q then rnearL I J q n else []) ∧ Fr (fun _ => False) w w' := by
  refine wp_start3 Try.func22 rfl rfl (n := 94) (by decide) fun a E => ?_
  have hf : Fr (fun _ => False) w w := Fr.refl _ _
  obtain ⟨p0, cp0, hv0, hle0, hcap0, hs0, hz0⟩ := h.isrc
  rw [hv0] at h
  obtain ⟨p1, cp1, hv1, hle1, hcap1, hs1, hz1⟩ := h.jsrc
  rw [hv1] at h
  clear hs0 hs1
  have hσ : ∀ k, σ k → k < w.heap.size := h.lt
  refine wp_seq ?_
  refine wp_region_lit ?_
  refine env_box24 (d := 4) E rfl (by decide) rfl (wanted_none rfl _) rfl (E.get 1 rfl) fun a w1 b22 eb22 hb22 f1 E => ?_
  have h := RIAt.fr h f1 (fun _ _ h => h)
  have hf := hf.trans f1
  clear f1
  refine env_put (d := 6) (v := .slice none 0 0) E rfl (by decide) rfl (wanted_none rfl _) (run_assign rfl rfl) fun a E => ?_
  refine wpList_nil ?_
  refine then_n ?_
  refine wp_seq ?_
  refine wp_region_lit ?_
  refine env_put (d := 7) (v := .slice none 0 0) E rfl (by decide) rfl (wanted_none rfl _) (run_assign rfl rfl) fun a E => ?_
  refine wpList_nil ?_
  refine then_n ?_
  refine wp_seq ?_
  refine wp_seq ?_
  refine wp_region_lit ?_
  refine env_put (d := 12) (v := .pointer (some ⟨r, 0, none⟩)) E rfl (by decide) rfl (wanted_none rfl _) (run_move rfl (E.get 3 rfl)) fun a E => ?_
  refine env_put (d := 13) (v := .bool false) E rfl (by decide) rfl (wanted_none rfl _) (run_pnil31 rfl (E.get 0 rfl) rfl) fun a E => ?_
  refine env_put (d := 14) (v := .bool false) E rfl (by decide) rfl (wanted_none rfl _) (run_move rfl (E.get 0 rfl)) fun a E => ?_
  refine env_put (d := 15) (v := .agg (ptC q)) E rfl (by decide) rfl (w_yes (g := 2) (s := 14) E rfl rfl (by decide) (E.get 0 rfl)) (run_ld24 rfl (E.get 5 rfl) (rng2 (p := q) hb22 0 rfl rfl)) fun a E => ?_
  refine env_call (d := 16) (v := .bool (decide (isP q))) E rfl (by decide) rfl (w_yes (g := 2) (s := 14) E rfl rfl (by decide) (E.get 1 rfl)) (run_call1 (enters_of Try.func27 (by kernel_rfl) rfl) rfl rfl (E.get 0 rfl)) (point_calls _ _) fun a w1 f1 E => ?_
  have h := RIAt.fr h f1 (fun _ _ h => h)
  have hb22 := f1.obj hb22 id
  have hf := hf.trans f1
  clear f1
  refine env_put (d := 17) (v := .bool (!(decide (isP q)))) E rfl (by decide) rfl (w_yes (g := 2) (s := 14) E rfl rfl (by decide) (E.get 2 rfl)) (run_not rfl (E.get 0 rfl)) fun a E => ?_
  refine env_put (d := 18) (v := .bool (!(decide (isP q)))) E rfl (by decide) rfl (wanted_none rfl _) (run_pick_f rfl (E.get 3 rfl) (E.get 0 rfl)) fun a E => ?_
  refine wpList_nil ?_
  refine then_n ?_
  cases hq23 : (decide (isP q)) with
  | false =>
    rw [hq23] at E
    refine wp_cond_true (E.get 0 rfl) ?_
    refine wp_seq ?_
    refine wp_region_lit ?_
    refine env_put (d := 19) (v := .slice none 0 0) E rfl (by decide) rfl (wanted_none rfl _) (run_move rfl (E.get 7 rfl)) fun a E => ?_
    refine env_set (d := 6) (v := .slice none 0 0) E rfl (by decide) (wanted_none rfl _) (run_assign rfl (E.get 0 rfl)) fun a E => ?_
    refine wpList_nil ?_
    refine then_n ?_
    refine wp_ret ?_
    refine then_r ?_
    refine ret_tmp (t := 6) rfl E (E.get 0 rfl) ⟨_, rfl, ?_, hf⟩
    rw [if_neg (of_decide_eq_false hq23)]
    exact ow_nil _
  | true =>
    rw [hq23] at E
    have hpq := of_decide_eq_true hq23
    refine wp_cond_false (E.get 0 rfl) ?_
    refine wp_skip ?_
    refine then_n ?_
    refine wp_seq ?_
    refine wp_region_lit ?_
    refine env_put (d := 20) (v := .pointer (some ⟨r, 0, none⟩)) E rfl (by decide) rfl (wanted_none rfl _) (run_move rfl (E.get 10 rfl)) fun a E => ?_
    refine env_put (d := 21) (v := .pointer (some ⟨r, 0, none⟩)) E rfl (by decide) rfl (wanted_none rfl _) (run_nilchk rfl (E.get 0 rfl)) fun a E => ?_
    refine env_put (d := 22) (v := .pointer (some ⟨r, 0, none⟩)) E rfl (by decide) rfl (wanted_none rfl _) (fa64_0 rfl (E.get 0 rfl)) fun a E => ?_
    refine env_put (d := 23) (v := .slice (p0) I.length cp0) E rfl (by decide) rfl (wanted_none rfl _) (run_ld42 rfl (E.get 0 rfl) h.c0) fun a E => ?_
    refine env_put (d := 24) (v := .int .i64 (I.length : Int)) E rfl (by decide) rfl (wanted_none rfl _) (run_len42 rfl (E.get 0 rfl)) fun a E => ?_
    refine env_make85 (d := 25) E rfl (by decide) rfl (wanted_none rfl _) rfl (E.get 0 rfl) (by omega) fun a w1 tb etb ht f1 E => ?_
    have htw : w.heap.size ≤ tb := by have := hf.size; omega
    have hbt : b22 < tb := by have := lt_of_blk hb22; omega
    have h := RIAt.fr h f1 (fun _ _ h => h)
    have hb22 := f1.obj hb22 id
    have hf := hf.trans f1
    clear f1
    clear etb
    refine env_put (d := 8) (v := .slice (some ⟨tb, 0, none⟩) I.length I.length) E rfl (by decide) rfl (wanted_none rfl _) (run_assign rfl (E.get 0 rfl)) fun a E => ?_
    refine wpList_nil ?_
    refine then_n ?_
    refine wp_seq ?_
    refine wp_seq ?_
    refine wp_region_lit ?_
    refine env_put (d := 9) (v := .int .i64 0) E rfl (by decide) rfl (wanted_none rfl _) (run_assign rfl rfl) fun a E => ?_
    refine wpList_nil ?_
    refine then_n ?_
    refine wp_block ?_
    obtain ⟨B, hB⟩ : ∃ B, B = w1.heap.size := ⟨_, rfl⟩
    have hBs : B ≤ w1.heap.size := by omega
    have htB : tb < B := by have := ht.lt; omega
    have hwB : w.heap.size ≤ B := by omega
    clear hB
    have hO : oStr w1 B (.slice none 0 0) [] := ow_nil _
    refine wp_loop (fun a w2 => ∃ (k : Nat) (dv : Value), Env 94 [(9, .int .i64 (k : Int)), (7, dv), (8, .slice (some ⟨tb, 0, none⟩) I.length I.length), (0, .pointer (some ⟨r, 0, none⟩)), (4, .pointer (some ⟨b22, 0, none⟩)), (2, .int .i64 n)] a ∧ k ≤ I.length ∧ k ≤ n.toNat ∧ oStr w2 B dv ((List.range k).map (nrId I J q)) ∧ RIAt w2 r σ I J (.slice p0 I.length cp0) (.slice p1 J.length cp1) ∧ w2.heap[b22]? = some (.cells (ptC q) 24 (0, 0)) ∧ tkB w2 tb I.length (tks (dsJ J q) I.length k) ∧ Fr (fun _ => False) w w2 ∧ B ≤ w2.heap.size) (fun a _ => I.length - (intOf (a.eval (.tmp 9))).toNat) ?_ ?_
    · exact ⟨0, .slice none 0 0, E.of ⟨E.get 0 rfl, E.get 15 rfl, E.get 1 rfl, E.get 18 rfl, E.get 17 rfl, E.get 20 rfl, trivial⟩, Nat.zero_le _, Nat.zero_le _, hO, h, hb22, ht, hf, hBs⟩
    clear E
    rintro a w2 ⟨k, dv, E, hk, hkn, hO, h, hb22, ht, hf, hBs⟩
    have hmu : I.length - (intOf (a.eval (.tmp 9))).toNat = I.length - k := by rw [E.get 0 rfl]; first | (simp [intOf]; done) | (simp only [intOf]; omega)
    rw [hmu]
    clear hmu
    refine wp_seq ?_
    refine wp_seq ?_
    refine wp_region_lit ?_
    refine env_put (d := 26) (v := .int .i64 (k : Int)) E rfl (by decide) rfl (wanted_none rfl _) (run_move rfl (E.get 0 rfl)) fun a E => ?_
    refine env_put (d := 27) (v := .int .i64 n) E rfl (by decide) rfl (wanted_none rfl _) (run_move rfl (E.get 6 rfl)) fun a E => ?_
    refine env_put (d := 28) (v := .bool (decide ((k : Int) < n))) E rfl (by decide) rfl (wanted_none rfl _) (run_ilss (E.get 1 rfl) (E.get 0 rfl) Try.underlying3 rfl) fun a E => ?_
    refine env_put (d := 29) (v := .bool (decide ((k : Int) < n))) E rfl (by decide) rfl (wanted_none rfl _) (run_move rfl (E.get 0 rfl)) fun a E => ?_
    cases hq25 : (decide ((k : Int) < n)) with
    | false =>
      rw [hq25] at E
      have hend : k = min n.toNat I.length := by have := of_decide_eq_false hq25; omega
      refine env_skip (d := 30) (g := 3) (s := 29) E rfl (by decide) rfl rfl rfl (by decide) (E.get 0 rfl) fun a E => ?_
      refine env_skip (d := 31) (g := 3) (s := 29) E rfl (by decide) rfl rfl rfl (by decide) (E.get 1 rfl) fun a E => ?_
      refine env_skip (d := 32) (g := 3) (s := 29) E rfl (by decide) rfl rfl rfl (by decide) (E.get 2 rfl) fun a E => ?_
      refine env_skip (d := 33) (g := 3) (s := 29) E rfl (by decide) rfl rfl rfl (by decide) (E.get 3 rfl) fun a E => ?_
      refine env_skip (d := 34) (g := 3) (s := 29) E rfl (by decide) rfl rfl rfl (by decide) (E.get 4 rfl) fun a E => ?_
      refine env_skip (d := 35) (g := 3) (s := 29) E rfl (by decide) rfl rfl rfl (by decide) (E.get 5 rfl) fun a E => ?_
      refine env_skip (d := 36) (g := 3) (s := 29) E rfl (by decide) rfl rfl rfl (by decide) (E.get 6 rfl) fun a E => ?_
      refine env_put (d := 37) (v := .bool false) E rfl (by decide) rfl (wanted_none rfl _) (run_pick_f rfl (E.get 7 rfl) rfl) fun a E => ?_
      refine wpList_nil ?_
      refine then_n ?_
      refine wp_cond_false (E.get 0 rfl) ?_
      refine wp_exit ?_
      refine then_e ?_
      refine then_e ?_
      refine blk_e ?_
      refine then_n ?_
      refine wp_seq ?_
      refine wp_region_lit ?_
      refine env_put (d := 93) (v := dv) E rfl (by decide) rfl (wanted_none rfl _) (run_move rfl (E.get 13 rfl)) fun a E => ?_
      refine env_put (d := 6) (v := dv) E rfl (by decide) rfl (wanted_none rfl _) (run_assign rfl (E.get 0 rfl)) fun a E => ?_
      refine wpList_nil ?_
      refine then_n ?_
      refine wp_ret ?_
      refine ret_tmp (t := 6) rfl E (E.get 0 rfl) ⟨_, rfl, ?_, hf⟩
      rw [if_pos hpq]
      rw [hend] at hO
      exact hO.base hwB
    | true =>
      rw [hq25] at E
      have hkn1 : (k : Int) < n := of_decide_eq_true hq25
      refine env_put (d := 30) (v := .int .i64 (k : Int)) E rfl (by decide) rfl (w_yes (g := 3) (s := 29) E rfl rfl (by decide) (E.get 0 rfl)) (run_move rfl (E.get 4 rfl)) fun a E => ?_
      refine env_put (d := 31) (v := .pointer (some ⟨r, 0, none⟩)) E rfl (by decide) rfl (w_yes (g := 3) (s := 29) E rfl rfl (by decide) (E.get 1 rfl)) (run_move rfl (E.get 8 rfl)) fun a E => ?_
      refine env_put (d := 32) (v := .pointer (some ⟨r, 0, none⟩)) E rfl (by decide) rfl (w_yes (g := 3) (s := 29) E rfl rfl (by decide) (E.get 2 rfl)) (run_nilchk rfl (E.get 0 rfl)) fun a E => ?_
      refine env_put (d := 33) (v := .pointer (some ⟨r, 0, none⟩)) E rfl (by decide) rfl (w_yes (g := 3) (s := 29) E rfl rfl (by decide) (E.get 3 rfl)) (fa64_0 rfl (E.get 0 rfl)) fun a E => ?_
      refine env_put (d := 34) (v := .slice (p0) I.length cp0) E rfl (by decide) rfl (w_yes (g := 3) (s := 29) E rfl rfl (by decide) (E.get 4 rfl)) (run_ld42 rfl (E.get 0 rfl) h.c0) fun a E => ?_
      refine env_put (d := 35) (v := .int .i64 (I.length : Int)) E rfl (by decide) rfl (w_yes (g := 3) (s := 29) E rfl rfl (by decide) (E.get 5 rfl)) (run_len42 rfl (E.get 0 rfl)) fun a E => ?_
      refine env_put (d := 36) (v := .bool (decide ((k : Int) < (I.length : Int)))) E rfl (by decide) rfl (w_yes (g := 3) (s := 29) E rfl rfl (by decide) (E.get 6 rfl)) (run_ilss (E.get 5 rfl) (E.get 0 rfl) Try.underlying3 rfl) fun a E => ?_
      refine env_put (d := 37) (v := .bool (decide ((k : Int) < (I.length : Int)))) E rfl (by decide) rfl (wanted_none rfl _) (run_pick_t rfl (E.get 7 rfl) (E.get 0 rfl)) fun a E => ?_
      refine wpList_nil ?_
      refine then_n ?_
      cases hq26 : (decide ((k : Int) < (I.length : Int))) with
      | false =>
        rw [hq26] at E
        have hend : k = min n.toNat I.length := by have := of_decide_eq_false hq26; omega
        refine wp_cond_false (E.get 0 rfl) ?_
        refine wp_exit ?_
        refine then_e ?_
        refine then_e ?_
        refine blk_e ?_
        refine then_n ?_
        refine wp_seq ?_
        refine wp_region_lit ?_
        refine env_put (d := 93) (v := dv) E rfl (by decide) rfl (wanted_none rfl _) (run_move rfl (E.get 13 rfl)) fun a E => ?_
        refine env_put (d := 6) (v := dv) E rfl (by decide) rfl (wanted_none rfl _) (run_assign rfl (E.get 0 rfl)) fun a E => ?_
        refine wpList_nil ?_
        refine then_n ?_
        refine wp_ret ?_
        refine ret_tmp (t := 6) rfl E (E.get 0 rfl) ⟨_, rfl, ?_, hf⟩
        rw [if_pos hpq]
        rw [hend] at hO
        exact hO.base hwB
      | true =>
        rw [hq26] at E
        have hkI : k < I.length := by have := of_decide_eq_true hq26; omega
        refine wp_cond_true (E.get 0 rfl) ?_
        refine wp_skip ?_
        refine then_n ?_
        refine wp_seq ?_
        refine wp_block ?_
        refine wp_seq ?_
        refine wp_region_lit ?_
        refine env_put (d := 10) (v := .int .i64 (-1)) E rfl (by decide) rfl (wanted_none rfl _) (run_assign rfl rfl) fun a E => ?_
        refine wpList_nil ?_
        refine then_n ?_
        refine wp_seq ?_
        refine wp_seq ?_
        refine wp_region_lit ?_
        refine env_put (d := 11) (v := .int .i64 0) E rfl (by decide) rfl (wanted_none rfl _) (run_assign rfl rfl) fun a E => ?_
        refine wpList_nil ?_
        refine then_n ?_
        refine wp_block ?_
        refine wp_loop (fun a w2 => ∃ (i : Nat) (bv : Int), Env 94 [(11, .int .i64 (i : Int)), (10, .int .i64 bv), (9, .int .i64 (k : Int)), (7, dv), (8, .slice (some ⟨tb, 0, none⟩) I.length I.length), (0, .pointer (some ⟨r, 0, none⟩)), (4, .pointer (some ⟨b22, 0, none⟩)), (2, .int .i64 n)] a ∧ i ≤ I.length ∧ bv = bst (dsJ J q) (tks (dsJ J q) I.length k) i ∧ oStr w2 B dv ((List.range k).map (nrId I J q)) ∧ RIAt w2 r σ I J (.slice p0 I.length cp0) (.slice p1 J.length cp1) ∧ w2.heap[b22]? = some (.cells (ptC q) 24 (0, 0)) ∧ tkB w2 tb I.length (tks (dsJ J q) I.length k) ∧ Fr (fun _ => False) w w2 ∧ B ≤ w2.heap.size) (fun a _ => I.length - (intOf (a.eval (.tmp 11))).toNat) ?_ ?_
        · exact ⟨0, (-1), E.of ⟨E.get 0 rfl, E.get 1 rfl, E.get 14 rfl, E.get 15 rfl, E.get 16 rfl, E.get 17 rfl, E.get 18 rfl, E.get 19 rfl, trivial⟩, Nat.zero_le _, rfl, hO, h, hb22, ht, hf, hBs⟩
        clear E
        rintro a w2 ⟨i, bv, E, hi, hbi, hO, h, hb22, ht, hf, hBs⟩
        have hmu : I.length - (intOf (a.eval (.tmp 11))).toNat = I.length - i := by rw [E.get 0 rfl]; first | (simp [intOf]; done) | (simp only [intOf]; omega)
        rw [hmu]
        clear hmu
        refine wp_seq ?_
        refine wp_seq ?_
        refine wp_region_lit ?_
        refine env_put (d := 40) (v := .int .i64 (i : Int)) E rfl (by decide) rfl (wanted_none rfl _) (run_move rfl (E.get 0 rfl)) fun a E => ?_
        refine env_put (d := 41) (v := .pointer (some ⟨r, 0, none⟩)) E rfl (by decide) rfl (wanted_none rfl _) (run_move rfl (E.get 6 rfl)) fun a E => ?_
        refine env_put (d := 42) (v := .pointer (some ⟨r, 0, none⟩)) E rfl (by decide) rfl (wanted_none rfl _) (run_nilchk rfl (E.get 0 rfl)) fun a E => ?_
        refine env_put (d := 43) (v := .pointer (some ⟨r, 0, none⟩)) E rfl (by decide) rfl (wanted_none rfl _) (fa64_0 rfl (E.get 0 rfl)) fun a E => ?_
        refine env_put (d := 44) (v := .slice (p0) I.length cp0) E rfl (by decide) rfl (wanted_none rfl _) (run_ld42 rfl (E.get 0 rfl) h.c0) fun a E => ?_
        refine env_put (d := 45) (v := .int .i64 (I.length : Int)) E rfl (by decide) rfl (wanted_none rfl _) (run_len42 rfl (E.get 0 rfl)) fun a E => ?_
        refine env_put (d := 46) (v := .bool (decide ((i : Int) < (I.length : Int)))) E rfl (by decide) rfl (wanted_none rfl _) (run_ilss (E.get 5 rfl) (E.get 0 rfl) Try.underlying3 rfl) fun a E => ?_
        refine wpList_nil ?_
        refine then_n ?_
        cases hq28 : (decide ((i : Int) < (I.length : Int))) with
        | false =>
          rw [hq28] at E
          have hie : i = I.length := by have := of_decide_eq_false hq28; omega
          subst hie
          have h0b : 0 ≤ bv := by rw [hbi]; exact (tks_count (dsJ J q) I.length (k + 1) hkI).2 k (by omega)
          obtain ⟨m, hm⟩ : ∃ m : Nat, bv = (m : Int) := ⟨bv.toNat, by omega⟩
          have hmI : m < I.length := by have := (bst_lt (dsJ J q) (tks (dsJ J q) I.length k) I.length).2; omega
          obtain ⟨y, hy⟩ : ∃ y, I[m]? = some y := ⟨_, List.getElem?_eq_getElem hmI⟩
          have hid : nrId I J q k = y := by unfold nrId; rw [← hbi, hm, Int.toNat_natCast, hy]; rfl
          rw [hm] at E
          refine wp_cond_false (E.get 0 rfl) ?_
          refine wp_exit ?_
          refine then_e ?_
          refine then_e ?_
          refine blk_e ?_
          refine then_n ?_
          refine wp_seq ?_
          refine wp_region_lit ?_
          refine env_put (d := 80) (v := .slice (some ⟨tb, 0, none⟩) I.length I.length) E rfl (by decide) rfl (wanted_none rfl _) (run_move rfl (E.get 11 rfl)) fun a E => ?_
          refine env_put (d := 81) (v := .int .i64 (m : Int)) E rfl (by decide) rfl (wanted_none rfl _) (run_move rfl (E.get 9 rfl)) fun a E => ?_
          refine env_put (d := 82) (v := .pointer (some ⟨tb, (0 + m), none⟩)) E rfl (by decide) rfl (wanted_none rfl _) (run_index85 (i := m) rfl (E.get 1 rfl) (E.get 0 rfl) hmI) fun a E => ?_
          obtain ⟨⟨d1, d2⟩, d3, f1⟩ := ht.set (k := m) hmI
          refine env_store E rfl (wanted_none rfl _) (run_st4 rfl (E.get 0 rfl) rfl d1 d2) fun E => ?_
          generalize World.setCell _ _ _ = wS29 at d3 f1 ⊢
          have ht := d3
          have h := RIAt.fr h f1 (fun k hk e => by have := hσ k hk; omega)
          have hO := ow.fr hO f1 (fun k hk e => by have := (hO.lt hk).1; omega)
          have hb22 := f1.obj hb22 (by omega)
          have hBs := Nat.le_trans hBs f1.size
          have hf := hf.trans' f1 (fun r hr e => by omega)
          clear d1 d2 d3 f1
          refine wpList_nil ?_
          refine then_n ?_
          have ht9 : tkB wS29 tb I.length (tks (dsJ J q) I.length (k + 1)) := by
            have e : (bst (dsJ J q) (tks (dsJ J q) I.length k) I.length).toNat = m := by rw [← hbi, hm]; rfl
            unfold tks; rw [e]; exact ht
          clear ht
          obtain ⟨p0q, cp0q, hv0q, hle0q, hcap0q, hs0, hz0q⟩ := h.isrc
          cases hv0q
          obtain ⟨g, off, hpe, hgl, hrow⟩ := hs0.at hmI
          replace hrow := hrow _ y hy
          clear hs0
          refine wp_region_lit ?_
          refine env_put (d := 83) (v := dv) E rfl (by decide) rfl (wanted_none rfl _) (run_move rfl (E.get 13 rfl)) fun a E => ?_
          refine env_put (d := 84) (v := .pointer (some ⟨r, 0, none⟩)) E rfl (by decide) rfl (wanted_none rfl _) (run_move rfl (E.get 16 rfl)) fun a E => ?_
          refine env_put (d := 85) (v := .pointer (some ⟨r, 0, none⟩)) E rfl (by decide) rfl (wanted_none rfl _) (run_nilchk rfl (E.get 0 rfl)) fun a E => ?_
          refine env_put (d := 86) (v := .pointer (some ⟨r, 0, none⟩)) E rfl (by decide) rfl (wanted_none rfl _) (fa64_0 rfl (E.get 0 rfl)) fun a E => ?_
          refine env_put (d := 87) (v := .slice (p0) I.length cp0) E rfl (by decide) rfl (wanted_none rfl _) (run_ld42 rfl (E.get 0 rfl) h.c0) fun a E => ?_
          refine env_put (d := 88) (v := .int .i64 (m : Int)) E rfl (by decide) rfl (wanted_none rfl _) (run_move rfl (E.get 16 rfl)) fun a E => ?_
          refine env_put (d := 89) (v := .pointer (some ⟨g, (off + m), none⟩)) E rfl (by decide) rfl (wanted_none rfl _) (run_index42 (i := m) rfl ((E.get 1 rfl).trans (by rw [hpe])) (E.get 0 rfl) hmI) fun a E => ?_
          refine env_put (d := 90) (v := .string y) E rfl (by decide) rfl (wanted_none rfl _) (run_lds rfl (E.get 0 rfl) (str_at hrow)) fun a E => ?_
          refine env_one42 (B := B) (d := 91) E rfl (by decide) rfl (wanted_none rfl _) rfl (E.get 0 rfl) hBs fun a w1 b30 eb30 h1b30 f1 E => ?_
          have h := RIAt.fr h f1 (fun _ _ h => h)
          have hb22 := f1.obj hb22 id
          have hBs := Nat.le_trans hBs f1.size
          have hO := ow.fr hO f1 (fun _ _ h => h)
          have ht9 := tkB.fr ht9 f1 id
          have hrow := fun j u hu => f1.cell (hrow j u hu) id
          have hf := hf.trans f1
          clear f1
          have hSb30 := ow_srcp strC_len h1b30
          clear h1b30 eb30
          refine env_app42 (d := 92) E rfl (by decide) rfl rfl rfl (E.get 8 rfl) hO (E.get 0 rfl) hSb30.1 hSb30.2 (by simp only [List.length_cons, List.length_nil, List.length_map, List.length_range]; omega) hBs fun a w1 ov31 hO2 f1 hloc E => ?_
          have h := RIAt.fr h f1 (fun k hk e => by have := (hO.lt e).1; have := hσ k hk; omega)
          have hb22 := f1.obj hb22 (fun e => by have := (hO.lt e).1; omega)
          have hBs := Nat.le_trans hBs f1.size
          have ht9 := tkB.fr ht9 f1 (fun e => by have := (hO.lt e).1; omega)
          have hf := hf.trans' f1 (fun r hr e => by have := (hO.lt e).1; omega)
          clear f1
          replace hO := hO2
          clear hloc
          refine env_set (d := 7) (v := ov31) E rfl (by decide) (wanted_none rfl _) (run_assign rfl (E.get 0 rfl)) fun a E => ?_
          refine wpList_nil ?_
          refine blk_n ?_
          refine then_n ?_
          refine wp_region_lit ?_
          refine env_put (d := 38) (v := .int .i64 (k : Int)) E rfl (by decide) rfl (wanted_none rfl _) (run_move rfl (E.get 23 rfl)) fun a E => ?_
          refine env_put (d := 39) (v := .int .i64 ((k : Int) + 1)) E rfl (by decide) rfl (wanted_none rfl _) (run_iadd Try.underlying3 (E.get 0 rfl) rfl (by omega) (by omega) rfl) fun a E => ?_
          refine env_set (d := 9) (v := .int .i64 ((k : Int) + 1)) E rfl (by decide) (wanted_none rfl _) (run_assign rfl (E.get 0 rfl)) fun a E => ?_
          refine wpList_nil ?_
          refine then_n ?_
          refine ⟨⟨k + 1, ov31, E.of ⟨E.get 0 rfl, E.get 3 rfl, E.get 26 rfl, E.get 27 rfl, E.get 28 rfl, E.get 29 rfl, trivial⟩, hkI, by omega, ?_, h, hb22, ht9, hf, hBs⟩, ?_⟩
          · rw [List.range_succ, List.map_append, List.map_singleton, hid]
            exact hO
          · rw [E.get 0 rfl]; simp only [intOf]; omega
        | true =>
          rw [hq28] at E
          have hlt : i < I.length := by have := of_decide_eq_true hq28; omega
          obtain ⟨z, hz9⟩ : ∃ z, J[i]? = some z := ⟨_, List.getElem?_eq_getElem (by omega : i < J.length)⟩
          have hokz := hJo _ (List.mem_of_getElem? hz9)
          obtain ⟨p1q, cp1q, hv1q, hle1q, hcap1q, hs1, hz1q⟩ := h.jsrc
          cases hv1q
          obtain ⟨g2, off2, hpe2, hgl2, hrow2⟩ := hs1.at (i := i) (by omega)
          replace hrow2 := hrow2 _ z hz9
          clear hs1 hz1q hcap1q hle1q
          refine wp_cond_true (E.get 0 rfl) ?_
          refine wp_skip ?_
          refine then_n ?_
          refine wp_seq ?_
          refine wp_block ?_
          refine wp_seq ?_
          cases hq32 : ((tks (dsJ J q) I.length k) i) with
          | false =>
            cases hq33 : (decide (bv < 0)) with
            | false =>
              obtain ⟨m, hm⟩ : ∃ m : Nat, bv = (m : Int) := ⟨bv.toNat, by have := of_decide_eq_false hq33; omega⟩
              have hmi : m < i := by have := (bst_lt (dsJ J q) (tks (dsJ J q) I.length k) i).2; omega
              rw [hm] at E
              obtain ⟨z2, hz29⟩ : ∃ z2, J[m]? = some z2 := ⟨_, List.getElem?_eq_getElem (by omega : m < J.length)⟩
              have hokz2 := hJo _ (List.mem_of_getElem? hz29)
              obtain ⟨p1q, cp1q, hv1q, hle1q, hcap1q, hs1, hz1q⟩ := h.jsrc
              cases hv1q
              obtain ⟨g3, off3, hpe3, hgl3, hrow3⟩ := hs1.at (i := m) (by omega)
              replace hrow3 := hrow3 _ z2 hz29
              clear hs1 hz1q hcap1q hle1q
              have hm0 : (decide ((m : Int) < 0)) = false := by rw [← hm]; exact hq33
              refine wp_region_invg (n := 94) (base := [(46, .bool true), (45, .int .i64 (I.length : Int)), (44, .slice (p0) I.length cp0), (43, .pointer (some ⟨r, 0, none⟩)), (42, .pointer (some ⟨r, 0, none⟩)), (41, .pointer (some ⟨r, 0, none⟩)), (40, .int .i64 (i : Int)), (11, .int .i64 (i : Int)), (10, .int .i64 (m : Int)), (9, .int .i64 (k : Int)), (7, dv), (8, .slice (some ⟨tb, 0, none⟩) I.length I.length), (0, .pointer (some ⟨r, 0, none⟩)), (4, .pointer (some ⟨b22, 0, none⟩)), (2, .int .i64 n)]) (T := [some (49, .slice (some ⟨tb, 0, none⟩) I.length I.length), some (50, .int .i64 (i : Int)), some (51, .pointer (some ⟨tb, (0 + i), none⟩)), some (52, .bool false), some (53, .bool true), some (54, .bool true), some (55, .int .i64 (m : Int)), some (56, .bool false), some (57, .bool false), some (58, .pointer (some ⟨r, 0, none⟩)), some (59, .pointer (some ⟨r, 0, none⟩)), some (60, .pointer (some ⟨r, 1, none⟩)), some (61, .slice (p1) J.length cp1), some (62, .int .i64 (i : Int)), some (63, .pointer (some ⟨g2, (off2 + i * 4), none⟩)), some (64, .agg (bxC z)), some (65, .agg (ptC q)), some (66, .int .i64 (dsB z q)), some (67, .pointer (some ⟨r, 0, none⟩)), some (68, .pointer (some ⟨r, 0, none⟩)), some (69, .pointer (some ⟨r, 1, none⟩)), some (70, .slice (p1) J.length cp1), some (71, .int .i64 (m : Int)), some (72, .pointer (some ⟨g3, (off3 + m * 4), none⟩)), some (73, .agg (bxC z2)), some (74, .agg (ptC q)), some (75, .int .i64 (dsB z2 q)), some (76, .bool (decide ((dsB z q) < (dsB z2 q)))), some (77, .bool (decide ((dsB z q) < (dsB z2 q)))), some (78, .bool (decide ((dsB z q) < (dsB z2 q))))]) (M := fun _ wm => Fr (fun _ => False) w2 wm) (by kernel_rfl) (by kernel_rfl) (by kernel_rfl) (E.of ⟨E.get 0 rfl, E.get 1 rfl, E.get 2 rfl, E.get 3 rfl, E.get 4 rfl, E.get 5 rfl, E.get 6 rfl, E.get 7 rfl, E.get 8 rfl, E.get 9 rfl, E.get 10 rfl, E.get 11 rfl, E.get 12 rfl, E.get 13 rfl, E.get 14 rfl, trivial⟩) (Fr.refl _ _).drew ?_ ?_
              · intro j9 o9 t9 ls9 a w5 ho hT0 hl E D DL hM
                have h := RIAt.fr h hM (fun _ _ h => h)
                have hb22 := hM.obj hb22 id
                have ht := tkB.fr ht hM id
                have hBs := Nat.le_trans hBs hM.size
                have hO := ow.fr hO hM (fun _ _ h => h)
                have hrow2 := fun j u hu => hM.cell (hrow2 j u hu) id
                have hrow3 := fun j u hu => hM.cell (hrow3 j u hu) id
                match j9, ho, hT0, hl, D, DL with
                | 0, ho, hT0, hl, D, DL =>
                  obtain rfl := Option.some.inj ho
                  obtain rfl := Option.some.inj hT0
                  clear ho hT0
                  exact ⟨fun _ => val_wp (run_move rfl (E.get 11 rfl)) rfl hM, fun h => by rw [wanted_none rfl] at h; cases h⟩
                | 1, ho, hT0, hl, D, DL =>
                  obtain rfl := Option.some.inj ho
                  obtain rfl := Option.some.inj hT0
                  clear ho hT0
                  exact ⟨fun _ => val_wp (run_move rfl (E.get 7 rfl)) rfl hM, fun h => by rw [wanted_none rfl] at h; cases h⟩
                | 2, ho, hT0, hl, D, DL =>
                  obtain rfl := Option.some.inj ho
                  obtain rfl := Option.some.inj hT0
                  clear ho hT0
                  exact ⟨fun _ => val_wp (run_index85 (i := i) rfl (D 0 _ rfl rfl) (D 1 _ rfl rfl) hlt) rfl hM, fun h => by rw [wanted_none rfl] at h; cases h⟩
                | 3, ho, hT0, hl, D, DL =>
                  obtain rfl := Option.some.inj ho
                  obtain rfl := Option.some.inj hT0
                  clear ho hT0
                  exact ⟨fun _ => val_wp ((run_ldb rfl (D 2 _ rfl rfl) (ht.at hlt)).trans (by rw [hq32] <;> rfl)) rfl hM, fun h => by rw [wanted_none rfl] at h; cases h⟩
                | 4, ho, hT0, hl, D, DL =>
                  obtain rfl := Option.some.inj ho
                  obtain rfl := Option.some.inj hT0
                  clear ho hT0
                  exact ⟨fun _ => val_wp (run_not rfl (D 3 _ rfl rfl)) rfl hM, fun h => by rw [wanted_none rfl] at h; cases h⟩
                | 5, ho, hT0, hl, D, DL =>
                  obtain rfl := Option.some.inj ho
                  obtain rfl := Option.some.inj hT0
                  clear ho hT0
                  exact ⟨fun _ => val_wp (run_move rfl (D 4 _ rfl rfl)) rfl hM, fun h => by rw [wanted_none rfl] at h; cases h⟩
                | 6, ho, hT0, hl, D, DL =>
                  obtain rfl := Option.some.inj ho
                  obtain rfl := Option.some.inj hT0
                  clear ho hT0
                  exact ⟨fun _ => val_wp (run_move rfl (E.get 8 rfl)) rfl hM, fun h => by rw [w_yes (g := 5) (s := 54) (b := true) E rfl rfl (by decide) (D 5 _ rfl rfl)] at h; cases h⟩
                | 7, ho, hT0, hl, D, DL =>
                  obtain rfl := Option.some.inj ho
                  obtain rfl := Option.some.inj hT0
                  clear ho hT0
                  exact ⟨fun _ => val_wp ((run_ilss (D 6 _ rfl rfl) rfl Try.underlying3 rfl).trans (by rw [hm0] <;> rfl)) rfl hM, fun h => by rw [w_yes (g := 5) (s := 54) (b := true) E rfl rfl (by decide) (D 5 _ rfl rfl)] at h; cases h⟩
                | 8, ho, hT0, hl, D, DL =>
                  obtain rfl := Option.some.inj ho
                  obtain rfl := Option.some.inj hT0
                  clear ho hT0
                  exact ⟨fun _ => val_wp (run_move rfl (D 7 _ rfl rfl)) rfl hM, fun h => by rw [w_yes (g := 5) (s := 54) (b := true) E rfl rfl (by decide) (D 5 _ rfl rfl)] at h; cases h⟩
                | 9, ho, hT0, hl, D, DL =>
                  obtain rfl := Option.some.inj ho
                  obtain rfl := Option.some.inj hT0
                  clear ho hT0
                  exact ⟨fun _ => val_wp (run_move rfl (E.get 12 rfl)) rfl hM, fun h => by rw [w_yes (g := 8) (s := 57) (b := false) E rfl rfl (by decide) (D 8 _ rfl rfl)] at h; cases h⟩
                | 10, ho, hT0, hl, D, DL =>
                  obtain rfl := Option.some.inj ho
                  obtain rfl := Option.some.inj hT0
                  clear ho hT0
                  exact ⟨fun _ => val_wp (run_nilchk rfl (D 9 _ rfl rfl)) rfl hM, fun h => by rw [w_yes (g := 8) (s := 57) (b := false) E rfl rfl (by decide) (D 8 _ rfl rfl)] at h; cases h⟩
                | 11, ho, hT0, hl, D, DL =>
                  obtain rfl := Option.some.inj ho
                  obtain rfl := Option.some.inj hT0
                  clear ho hT0
                  exact ⟨fun _ => val_wp (fa64_1 rfl (D 10 _ rfl rfl)) rfl hM, fun h => by rw [w_yes (g := 8) (s := 57) (b := false) E rfl rfl (by decide) (D 8 _ rfl rfl)] at h; cases h⟩
                | 12, ho, hT0, hl, D, DL =>
                  obtain rfl := Option.some.inj ho
                  obtain rfl := Option.some.inj hT0
                  clear ho hT0
                  exact ⟨fun _ => val_wp (run_ld62 rfl (D 11 _ rfl rfl) h.c1) rfl hM, fun h => by rw [w_yes (g := 8) (s := 57) (b := false) E rfl rfl (by decide) (D 8 _ rfl rfl)] at h; cases h⟩
                | 13, ho, hT0, hl, D, DL =>
                  obtain rfl := Option.some.inj ho
                  obtain rfl := Option.some.inj hT0
                  clear ho hT0
                  exact ⟨fun _ => val_wp (run_move rfl (E.get 7 rfl)) rfl hM, fun h => by rw [w_yes (g := 8) (s := 57) (b := false) E rfl rfl (by decide) (D 8 _ rfl rfl)] at h; cases h⟩
                | 14, ho, hT0, hl, D, DL =>
                  obtain rfl := Option.some.inj ho
                  obtain rfl := Option.some.inj hT0
                  clear ho hT0
                  exact ⟨fun _ => val_wp (run_index62 (i := i) rfl ((D 12 _ rfl rfl).trans (by rw [hpe2])) (D 13 _ rfl rfl) (by omega)) rfl hM, fun h => by rw [w_yes (g := 8) (s := 57) (b := false) E rfl rfl (by decide) (D 8 _ rfl rfl)] at h; cases h⟩
                | 15, ho, hT0, hl, D, DL =>
                  obtain rfl := Option.some.inj ho
                  obtain rfl := Option.some.inj hT0
                  clear ho hT0
                  exact ⟨fun _ => val_wp (run_ld26 rfl (D 14 _ rfl rfl) hrow2) rfl hM, fun h => by rw [w_yes (g := 8) (s := 57) (b := false) E rfl rfl (by decide) (D 8 _ rfl rfl)] at h; cases h⟩
                | 16, ho, hT0, hl, D, DL =>
                  obtain rfl := Option.some.inj ho
                  obtain rfl := Option.some.inj hT0
                  clear ho hT0
                  exact ⟨fun _ => val_wp (run_ld24 rfl (E.get 13 rfl) (rng2 (p := q) hb22 0 rfl rfl)) rfl hM, fun h => by rw [w_yes (g := 8) (s := 57) (b := false) E rfl rfl (by decide) (D 8 _ rfl rfl)] at h; cases h⟩
                | 17, ho, hT0, hl, D, DL =>
                  obtain rfl := Option.some.inj ho
                  obtain rfl := Option.some.inj hT0
                  clear ho hT0
                  exact ⟨fun _ => call_wp (run_call2 (enters_of Try.func28 (by kernel_rfl) rfl) rfl rfl (D 15 _ rfl rfl) (D 16 _ rfl rfl)) (rdist_calls _ _ _ hokz hpq) rfl fun w9 f1 => (hM.trans f1), fun h => by rw [w_yes (g := 8) (s := 57) (b := false) E rfl rfl (by decide) (D 8 _ rfl rfl)] at h; cases h⟩
                | 18, ho, hT0, hl, D, DL =>
                  obtain rfl := Option.some.inj ho
                  obtain rfl := Option.some.inj hT0
                  clear ho hT0
                  exact ⟨fun _ => val_wp (run_move rfl (E.get 12 rfl)) rfl hM, fun h => by rw [w_yes (g := 8) (s := 57) (b := false) E rfl rfl (by decide) (D 8 _ rfl rfl)] at h; cases h⟩
                | 19, ho, hT0, hl, D, DL =>
                  obtain rfl := Option.some.inj ho
                  obtain rfl := Option.some.inj hT0
                  clear ho hT0
                  exact ⟨fun _ => val_wp (run_nilchk rfl (D 18 _ rfl rfl)) rfl hM, fun h => by rw [w_yes (g := 8) (s := 57) (b := false) E rfl rfl (by decide) (D 8 _ rfl rfl)] at h; cases h⟩
                | 20, ho, hT0, hl, D, DL =>
                  obtain rfl := Option.some.inj ho
                  obtain rfl := Option.some.inj hT0
                  clear ho hT0
                  exact ⟨fun _ => val_wp (fa64_1 rfl (D 19 _ rfl rfl)) rfl hM, fun h => by rw [w_yes (g := 8) (s := 57) (b := false) E rfl rfl (by decide) (D 8 _ rfl rfl)] at h; cases h⟩
                | 21, ho, hT0, hl, D, DL =>
                  obtain rfl := Option.some.inj ho
                  obtain rfl := Option.some.inj hT0
                  clear ho hT0
                  exact ⟨fun _ => val_wp (run_ld62 rfl (D 20 _ rfl rfl) h.c1) rfl hM, fun h => by rw [w_yes (g := 8) (s := 57) (b := false) E rfl rfl (by decide) (D 8 _ rfl rfl)] at h; cases h⟩
                | 22, ho, hT0, hl, D, DL =>
                  obtain rfl := Option.some.inj ho
                  obtain rfl := Option.some.inj hT0
                  clear ho hT0
                  exact ⟨fun _ => val_wp (run_move rfl (E.get 8 rfl)) rfl hM, fun h => by rw [w_yes (g := 8) (s := 57) (b := false) E rfl rfl (by decide) (D 8 _ rfl rfl)] at h; cases h⟩
                | 23, ho, hT0, hl, D, DL =>
                  obtain rfl := Option.some.inj ho
                  obtain rfl := Option.some.inj hT0
                  clear ho hT0
                  exact ⟨fun _ => val_wp (run_index62 (i := m) rfl ((D 21 _ rfl rfl).trans (by rw [hpe3])) (D 22 _ rfl rfl) (by omega)) rfl hM, fun h => by rw [w_yes (g := 8) (s := 57) (b := false) E rfl rfl (by decide) (D 8 _ rfl rfl)] at h; cases h⟩
                | 24, ho, hT0, hl, D, DL =>
                  obtain rfl := Option.some.inj ho
                  obtain rfl := Option.some.inj hT0
                  clear ho hT0
                  exact ⟨fun _ => val_wp (run_ld26 rfl (D 23 _ rfl rfl) hrow3) rfl hM, fun h => by rw [w_yes (g := 8) (s := 57) (b := false) E rfl rfl (by decide) (D 8 _ rfl rfl)] at h; cases h⟩
                | 25, ho, hT0, hl, D, DL =>
                  obtain rfl := Option.some.inj ho
                  obtain rfl := Option.some.inj hT0
                  clear ho hT0
                  exact ⟨fun _ => val_wp (run_ld24 rfl (E.get 13 rfl) (rng2 (p := q) hb22 0 rfl rfl)) rfl hM, fun h => by rw [w_yes (g := 8) (s := 57) (b := false) E rfl rfl (by decide) (D 8 _ rfl rfl)] at h; cases h⟩
                | 26, ho, hT0, hl, D, DL =>
                  obtain rfl := Option.some.inj ho
                  obtain rfl := Option.some.inj hT0
                  clear ho hT0
                  exact ⟨fun _ => call_wp (run_call2 (enters_of Try.func28 (by kernel_rfl) rfl) rfl rfl (D 24 _ rfl rfl) (D 25 _ rfl rfl)) (rdist_calls _ _ _ hokz2 hpq) rfl fun w9 f1 => (hM.trans f1), fun h => by rw [w_yes (g := 8) (s := 57) (b := false) E rfl rfl (by decide) (D 8 _ rfl rfl)] at h; cases h⟩
                | 27, ho, hT0, hl, D, DL =>
                  obtain rfl := Option.some.inj ho
                  obtain rfl := Option.some.inj hT0
                  clear ho hT0
                  exact ⟨fun _ => val_wp (run_ilss (D 17 _ rfl rfl) (D 26 _ rfl rfl) Try.underlying3 rfl) rfl hM, fun h => by rw [w_yes (g := 8) (s := 57) (b := false) E rfl rfl (by decide) (D 8 _ rfl rfl)] at h; cases h⟩
                | 28, ho, hT0, hl, D, DL =>
                  obtain rfl := Option.some.inj ho
                  obtain rfl := Option.some.inj hT0
                  clear ho hT0
                  exact ⟨fun _ => val_wp (run_pick_f rfl (D 8 _ rfl rfl) (D 27 _ rfl rfl)) rfl hM, fun h => by rw [w_yes (g := 5) (s := 54) (b := true) E rfl rfl (by decide) (D 5 _ rfl rfl)] at h; cases h⟩
                | 29, ho, hT0, hl, D, DL =>
                  obtain rfl := Option.some.inj ho
                  obtain rfl := Option.some.inj hT0
                  clear ho hT0
                  exact ⟨fun _ => val_wp (run_pick_t rfl (D 5 _ rfl rfl) (D 28 _ rfl rfl)) rfl hM, fun h => by rw [wanted_none rfl] at h; cases h⟩
                | j9 + 30, ho, hT0, hl, D, DL => exact absurd hT0 (by simp)
              · intro a w5 E V hM
                have E := E.add (V 29 _ rfl)
                clear V
                have h := RIAt.fr h hM (fun _ _ h => h)
                have hb22 := hM.obj hb22 id
                have ht := tkB.fr ht hM id
                have hBs := Nat.le_trans hBs hM.size
                have hO := ow.fr hO hM (fun _ _ h => h)
                have hrow2 := fun j u hu => hM.cell (hrow2 j u hu) id
                have hrow3 := fun j u hu => hM.cell (hrow3 j u hu) id
                have hf := hf.trans hM
                clear hM
                refine then_n ?_
                cases hq35 : (decide ((dsB z q) < (dsB z2 q))) with
                | false =>
                  rw [hq35] at E
                  refine wp_cond_false (E.get 0 rfl) ?_
                  refine wp_skip ?_
                  refine blk_n ?_
                  refine then_n ?_
                  refine wp_region_lit ?_
                  refine env_put (d := 47) (v := .int .i64 (i : Int)) E rfl (by decide) rfl (wanted_none rfl _) (run_move rfl (E.get 8 rfl)) fun a E => ?_
                  refine env_put (d := 48) (v := .int .i64 ((i : Int) + 1)) E rfl (by decide) rfl (wanted_none rfl _) (run_iadd Try.underlying3 (E.get 0 rfl) rfl (by omega) (by omega) rfl) fun a E => ?_
                  refine env_set (d := 11) (v := .int .i64 ((i : Int) + 1)) E rfl (by decide) (wanted_none rfl _) (run_assign rfl (E.get 0 rfl)) fun a E => ?_
                  refine wpList_nil ?_
                  refine then_n ?_
                  refine ⟨⟨i + 1, (m : Int), E.of ⟨E.get 0 rfl, E.get 11 rfl, E.get 12 rfl, E.get 13 rfl, E.get 14 rfl, E.get 15 rfl, E.get 16 rfl, E.get 17 rfl, trivial⟩, hlt, ?_, hO, h, hb22, ht, hf, hBs⟩, ?_⟩
                  · unfold bst
                    simp only [← hbi, dsJ_of hz9, dsJ_of hz29, hm, hm0, Int.toNat_natCast, hq32, hq33, hq35, Bool.not_true, Bool.not_false, Bool.true_and, Bool.false_and, Bool.true_or, Bool.false_or, Bool.or_true, Bool.or_false, if_true, Bool.false_eq_true, if_false]
                  · rw [E.get 0 rfl]; simp only [intOf]; omega
                | true =>
                  rw [hq35] at E
                  refine wp_cond_true (E.get 0 rfl) ?_
                  refine wp_region_lit ?_
                  refine env_put (d := 79) (v := .int .i64 (i : Int)) E rfl (by decide) rfl (wanted_none rfl _) (run_move rfl (E.get 8 rfl)) fun a E => ?_
                  refine env_set (d := 10) (v := .int .i64 (i : Int)) E rfl (by decide) (wanted_none rfl _) (run_assign rfl (E.get 0 rfl)) fun a E => ?_
                  refine wpList_nil ?_
                  refine blk_n ?_
                  refine then_n ?_
                  refine wp_region_lit ?_
                  refine env_put (d := 47) (v := .int .i64 (i : Int)) E rfl (by decide) rfl (wanted_none rfl _) (run_move rfl (E.get 10 rfl)) fun a E => ?_
                  refine env_put (d := 48) (v := .int .i64 ((i : Int) + 1)) E rfl (by decide) rfl (wanted_none rfl _) (run_iadd Try.underlying3 (E.get 0 rfl) rfl (by omega) (by omega) rfl) fun a E => ?_
                  refine env_set (d := 11) (v := .int .i64 ((i : Int) + 1)) E rfl (by decide) (wanted_none rfl _) (run_assign rfl (E.get 0 rfl)) fun a E => ?_
                  refine wpList_nil ?_
                  refine then_n ?_
                  refine ⟨⟨i + 1, (i : Int), E.of ⟨E.get 0 rfl, E.get 3 rfl, E.get 13 rfl, E.get 14 rfl, E.get 15 rfl, E.get 16 rfl, E.get 17 rfl, E.get 18 rfl, trivial⟩, hlt, ?_, hO, h, hb22, ht, hf, hBs⟩, ?_⟩
                  · unfold bst
                    simp only [← hbi, dsJ_of hz9, dsJ_of hz29, hm, hm0, Int.toNat_natCast, hq32, hq33, hq35, Bool.not_true, Bool.not_false, Bool.true_and, Bool.false_and, Bool.true_or, Bool.false_or, Bool.or_true, Bool.or_false, if_true, Bool.false_eq_true, if_false]
                  · rw [E.get 0 rfl]; simp only [intOf]; omega
            | true =>
              refine wp_region_invg (n := 94) (base := [(46, .bool true), (45, .int .i64 (I.length : Int)), (44, .slice (p0) I.length cp0), (43, .pointer (some ⟨r, 0, none⟩)), (42, .pointer (some ⟨r, 0, none⟩)), (41, .pointer (some ⟨r, 0, none⟩)), (40, .int .i64 (i : Int)), (11, .int .i64 (i : Int)), (10, .int .i64 bv), (9, .int .i64 (k : Int)), (7, dv), (8, .slice (some ⟨tb, 0, none⟩) I.length I.length), (0, .pointer (some ⟨r, 0, none⟩)), (4, .pointer (some ⟨b22, 0, none⟩)), (2, .int .i64 n)]) (T := [some (49, .slice (some ⟨tb, 0, none⟩) I.length I.length), some (50, .int .i64 (i : Int)), some (51, .pointer (some ⟨tb, (0 + i), none⟩)), some (52, .bool false), some (53, .bool true), some (54, .bool true), some (55, .int .i64 bv), some (56, .bool true), some (57, .bool true), some (58, undef), some (59, undef), some (60, undef), some (61, undef), some (62, undef), some (63, undef), some (64, undef), some (65, undef), some (66, undef), some (67, undef), some (68, undef), some (69, undef), some (70, undef), some (71, undef), some (72, undef), some (73, undef), some (74, undef), some (75, undef), some (76, undef), some (77, .bool true), some (78, .bool true)]) (M := fun _ wm => Fr (fun _ => False) w2 wm) (by kernel_rfl) (by kernel_rfl) (by kernel_rfl) (E.of ⟨E.get 0 rfl, E.get 1 rfl, E.get 2 rfl, E.get 3 rfl, E.get 4 rfl, E.get 5 rfl, E.get 6 rfl, E.get 7 rfl, E.get 8 rfl, E.get 9 rfl, E.get 10 rfl, E.get 11 rfl, E.get 12 rfl, E.get 13 rfl, E.get 14 rfl, trivial⟩) (Fr.refl _ _).drew ?_ ?_
              · intro j9 o9 t9 ls9 a w5 ho hT0 hl E D DL hM
                have h := RIAt.fr h hM (fun _ _ h => h)
                have hb22 := hM.obj hb22 id
                have ht := tkB.fr ht hM id
                have hBs := Nat.le_trans hBs hM.size
                have hO := ow.fr hO hM (fun _ _ h => h)
                have hrow2 := fun j u hu => hM.cell (hrow2 j u hu) id
                match j9, ho, hT0, hl, D, DL with
                | 0, ho, hT0, hl, D, DL =>
                  obtain rfl := Option.some.inj ho
                  obtain rfl := Option.some.inj hT0
                  clear ho hT0
                  exact ⟨fun _ => val_wp (run_move rfl (E.get 11 rfl)) rfl hM, fun h => by rw [wanted_none rfl] at h; cases h⟩
                | 1, ho, hT0, hl, D, DL =>
                  obtain rfl := Option.some.inj ho
                  obtain rfl := Option.some.inj hT0
                  clear ho hT0
                  exact ⟨fun _ => val_wp (run_move rfl (E.get 7 rfl)) rfl hM, fun h => by rw [wanted_none rfl] at h; cases h⟩
                | 2, ho, hT0, hl, D, DL =>
                  obtain rfl := Option.some.inj ho
                  obtain rfl := Option.some.inj hT0
                  clear ho hT0
                  exact ⟨fun _ => val_wp (run_index85 (i := i) rfl (D 0 _ rfl rfl) (D 1 _ rfl rfl) hlt) rfl hM, fun h => by rw [wanted_none rfl] at h; cases h⟩
                | 3, ho, hT0, hl, D, DL =>
                  obtain rfl := Option.some.inj ho
                  obtain rfl := Option.some.inj hT0
                  clear ho hT0
                  exact ⟨fun _ => val_wp ((run_ldb rfl (D 2 _ rfl rfl) (ht.at hlt)).trans (by rw [hq32] <;> rfl)) rfl hM, fun h => by rw [wanted_none rfl] at h; cases h⟩
                | 4, ho, hT0, hl, D, DL =>
                  obtain rfl := Option.some.inj ho
                  obtain rfl := Option.some.inj hT0
                  clear ho hT0
                  exact ⟨fun _ => val_wp (run_not rfl (D 3 _ rfl rfl)) rfl hM, fun h => by rw [wanted_none rfl] at h; cases h⟩
                | 5, ho, hT0, hl, D, DL =>
                  obtain rfl := Option.some.inj ho
                  obtain rfl := Option.some.inj hT0
                  clear ho hT0
                  exact ⟨fun _ => val_wp (run_move rfl (D 4 _ rfl rfl)) rfl hM, fun h => by rw [wanted_none rfl] at h; cases h⟩
                | 6, ho, hT0, hl, D, DL =>
                  obtain rfl := Option.some.inj ho
                  obtain rfl := Option.some.inj hT0
                  clear ho hT0
                  exact ⟨fun _ => val_wp (run_move rfl (E.get 8 rfl)) rfl hM, fun h => by rw [w_yes (g := 5) (s := 54) (b := true) E rfl rfl (by decide) (D 5 _ rfl rfl)] at h; cases h⟩
                | 7, ho, hT0, hl, D, DL =>
                  obtain rfl := Option.some.inj ho
                  obtain rfl := Option.some.inj hT0
                  clear ho hT0
                  exact ⟨fun _ => val_wp ((run_ilss (D 6 _ rfl rfl) rfl Try.underlying3 rfl).trans (by rw [hq33] <;> rfl)) rfl hM, fun h => by rw [w_yes (g := 5) (s := 54) (b := true) E rfl rfl (by decide) (D 5 _ rfl rfl)] at h; cases h⟩
                | 8, ho, hT0, hl, D, DL =>
                  obtain rfl := Option.some.inj ho
                  obtain rfl := Option.some.inj hT0
                  clear ho hT0
                  exact ⟨fun _ => val_wp (run_move rfl (D 7 _ rfl rfl)) rfl hM, fun h => by rw [w_yes (g := 5) (s := 54) (b := true) E rfl rfl (by decide) (D 5 _ rfl rfl)] at h; cases h⟩
                | 9, ho, hT0, hl, D, DL =>
                  obtain rfl := Option.some.inj ho
                  obtain rfl := Option.some.inj hT0
                  clear ho hT0
                  exact ⟨fun h => (by rw [w_no (g := 8) (s := 57) (b := false) E rfl rfl (by decide) (D 8 _ rfl rfl)] at h; cases h), fun _ => ⟨fun x hx => by cases hx; rfl, hM⟩⟩
                | 10, ho, hT0, hl, D, DL =>
                  obtain rfl := Option.some.inj ho
                  obtain rfl := Option.some.inj hT0
                  clear ho hT0
                  exact ⟨fun h => (by rw [w_no (g := 8) (s := 57) (b := false) E rfl rfl (by decide) (D 8 _ rfl rfl)] at h; cases h), fun _ => ⟨fun x hx => by cases hx; rfl, hM⟩⟩
                | 11, ho, hT0, hl, D, DL =>
                  obtain rfl := Option.some.inj ho
                  obtain rfl := Option.some.inj hT0
                  clear ho hT0
                  exact ⟨fun h => (by rw [w_no (g := 8) (s := 57) (b := false) E rfl rfl (by decide) (D 8 _ rfl rfl)] at h; cases h), fun _ => ⟨fun x hx => by cases hx; rfl, hM⟩⟩
                | 12, ho, hT0, hl, D, DL =>
                  obtain rfl := Option.some.inj ho
                  obtain rfl := Option.some.inj hT0
                  clear ho hT0
                  exact ⟨fun h => (by rw [w_no (g := 8) (s := 57) (b := false) E rfl rfl (by decide) (D 8 _ rfl rfl)] at h; cases h), fun _ => ⟨fun x hx => by cases hx; rfl, hM⟩⟩
                | 13, ho, hT0, hl, D, DL =>
                  obtain rfl := Option.some.inj ho
                  obtain rfl := Option.some.inj hT0
                  clear ho hT0
                  exact ⟨fun h => (by rw [w_no (g := 8) (s := 57) (b := false) E rfl rfl (by decide) (D 8 _ rfl rfl)] at h; cases h), fun _ => ⟨fun x hx => by cases hx; rfl, hM⟩⟩
                | 14, ho, hT0, hl, D, DL =>
                  obtain rfl := Option.some.inj ho
                  obtain rfl := Option.some.inj hT0
                  clear ho hT0
                  exact ⟨fun h => (by rw [w_no (g := 8) (s := 57) (b := false) E rfl rfl (by decide) (D 8 _ rfl rfl)] at h; cases h), fun _ => ⟨fun x hx => by cases hx; rfl, hM⟩⟩
                | 15, ho, hT0, hl, D, DL =>
                  obtain rfl := Option.some.inj ho
                  obtain rfl := Option.some.inj hT0
                  clear ho hT0
                  exact ⟨fun h => (by rw [w_no (g := 8) (s := 57) (b := false) E rfl rfl (by decide) (D 8 _ rfl rfl)] at h; cases h), fun _ => ⟨fun x hx => by cases hx; rfl, hM⟩⟩
                | 16, ho, hT0, hl, D, DL =>
                  obtain rfl := Option.some.inj ho
                  obtain rfl := Option.some.inj hT0
                  clear ho hT0
                  exact ⟨fun h => (by rw [w_no (g := 8) (s := 57) (b := false) E rfl rfl (by decide) (D 8 _ rfl rfl)] at h; cases h), fun _ => ⟨fun x hx => by cases hx; rfl, hM⟩⟩
                | 17, ho, hT0, hl, D, DL =>
                  obtain rfl := Option.some.inj ho
                  obtain rfl := Option.some.inj hT0
                  clear ho hT0
                  exact ⟨fun h => (by rw [w_no (g := 8) (s := 57) (b := false) E rfl rfl (by decide) (D 8 _ rfl rfl)] at h; cases h), fun _ => ⟨fun x hx => by cases hx; rfl, hM⟩⟩
                | 18, ho, hT0, hl, D, DL =>
                  obtain rfl := Option.some.inj ho
                  obtain rfl := Option.some.inj hT0
                  clear ho hT0
                  exact ⟨fun h => (by rw [w_no (g := 8) (s := 57) (b := false) E rfl rfl (by decide) (D 8 _ rfl rfl)] at h; cases h), fun _ => ⟨fun x hx => by cases hx; rfl, hM⟩⟩
                | 19, ho, hT0, hl, D, DL =>
                  obtain rfl := Option.some.inj ho
                  obtain rfl := Option.some.inj hT0
                  clear ho hT0
                  exact ⟨fun h => (by rw [w_no (g := 8) (s := 57) (b := false) E rfl rfl (by decide) (D 8 _ rfl rfl)] at h; cases h), fun _ => ⟨fun x hx => by cases hx; rfl, hM⟩⟩
                | 20, ho, hT0, hl, D, DL =>
                  obtain rfl := Option.some.inj ho
                  obtain rfl := Option.some.inj hT0
                  clear ho hT0
                  exact ⟨fun h => (by rw [w_no (g := 8) (s := 57) (b := false) E rfl rfl (by decide) (D 8 _ rfl rfl)] at h; cases h), fun _ => ⟨fun x hx => by cases hx; rfl, hM⟩⟩
                | 21, ho, hT0, hl, D, DL =>
                  obtain rfl := Option.some.inj ho
                  obtain rfl := Option.some.inj hT0
                  clear ho hT0
                  exact ⟨fun h => (by rw [w_no (g := 8) (s := 57) (b := false) E rfl rfl (by decide) (D 8 _ rfl rfl)] at h; cases h), fun _ => ⟨fun x hx => by cases hx; rfl, hM⟩⟩
                | 22, ho, hT0, hl, D, DL =>
                  obtain rfl := Option.some.inj ho
                  obtain rfl := Option.some.inj hT0
                  clear ho hT0
                  exact ⟨fun h => (by rw [w_no (g := 8) (s := 57) (b := false) E rfl rfl (by decide) (D 8 _ rfl rfl)] at h; cases h), fun _ => ⟨fun x hx => by cases hx; rfl, hM⟩⟩
                | 23, ho, hT0, hl, D, DL =>
                  obtain rfl := Option.some.inj ho
                  obtain rfl := Option.some.inj hT0
                  clear ho hT0
                  exact ⟨fun h => (by rw [w_no (g := 8) (s := 57) (b := false) E rfl rfl (by decide) (D 8 _ rfl rfl)] at h; cases h), fun _ => ⟨fun x hx => by cases hx; rfl, hM⟩⟩
                | 24, ho, hT0, hl, D, DL =>
                  obtain rfl := Option.some.inj ho
                  obtain rfl := Option.some.inj hT0
                  clear ho hT0
                  exact ⟨fun h => (by rw [w_no (g := 8) (s := 57) (b := false) E rfl rfl (by decide) (D 8 _ rfl rfl)] at h; cases h), fun _ => ⟨fun x hx => by cases hx; rfl, hM⟩⟩
                | 25, ho, hT0, hl, D, DL =>
                  obtain rfl := Option.some.inj ho
                  obtain rfl := Option.some.inj hT0
                  clear ho hT0
                  exact ⟨fun h => (by rw [w_no (g := 8) (s := 57) (b := false) E rfl rfl (by decide) (D 8 _ rfl rfl)] at h; cases h), fun _ => ⟨fun x hx => by cases hx; rfl, hM⟩⟩
                | 26, ho, hT0, hl, D, DL =>
                  obtain rfl := Option.some.inj ho
                  obtain rfl := Option.some.inj hT0
                  clear ho hT0
                  exact ⟨fun h => (by rw [w_no (g := 8) (s := 57) (b := false) E rfl rfl (by decide) (D 8 _ rfl rfl)] at h; cases h), fun _ => ⟨fun x hx => by cases hx; rfl, hM⟩⟩
                | 27, ho, hT0, hl, D, DL =>
                  obtain rfl := Option.some.inj ho
                  obtain rfl := Option.some.inj hT0
                  clear ho hT0
                  exact ⟨fun h => (by rw [w_no (g := 8) (s := 57) (b := false) E rfl rfl (by decide) (D 8 _ rfl rfl)] at h; cases h), fun _ => ⟨fun x hx => by cases hx; rfl, hM⟩⟩
                | 28, ho, hT0, hl, D, DL =>
                  obtain rfl := Option.some.inj ho
                  obtain rfl := Option.some.inj hT0
                  clear ho hT0
                  exact ⟨fun _ => val_wp (run_pick_t rfl (D 8 _ rfl rfl) rfl) rfl hM, fun h => by rw [w_yes (g := 5) (s := 54) (b := true) E rfl rfl (by decide) (D 5 _ rfl rfl)] at h; cases h⟩
                | 29, ho, hT0, hl, D, DL =>
                  obtain rfl := Option.some.inj ho
                  obtain rfl := Option.some.inj hT0
                  clear ho hT0
                  exact ⟨fun _ => val_wp (run_pick_t rfl (D 5 _ rfl rfl) (D 28 _ rfl rfl)) rfl hM, fun h => by rw [wanted_none rfl] at h; cases h⟩
                | j9 + 30, ho, hT0, hl, D, DL => exact absurd hT0 (by simp)
              · intro a w5 E V hM
                have E := E.add (V 29 _ rfl)
                clear V
                have h := RIAt.fr h hM (fun _ _ h => h)
                have hb22 := hM.obj hb22 id
                have ht := tkB.fr ht hM id
                have hBs := Nat.le_trans hBs hM.size
                have hO := ow.fr hO hM (fun _ _ h => h)
                have hrow2 := fun j u hu => hM.cell (hrow2 j u hu) id
                have hf := hf.trans hM
                clear hM
                refine then_n ?_
                refine wp_cond_true (E.get 0 rfl) ?_
                refine wp_region_lit ?_
                refine env_put (d := 79) (v := .int .i64 (i : Int)) E rfl (by decide) rfl (wanted_none rfl _) (run_move rfl (E.get 8 rfl)) fun a E => ?_
                refine env_set (d := 10) (v := .int .i64 (i : Int)) E rfl (by decide) (wanted_none rfl _) (run_assign rfl (E.get 0 rfl)) fun a E => ?_
                refine wpList_nil ?_
                refine blk_n ?_
                refine then_n ?_
                refine wp_region_lit ?_
                refine env_put (d := 47) (v := .int .i64 (i : Int)) E rfl (by decide) rfl (wanted_none rfl _) (run_move rfl (E.get 10 rfl)) fun a E => ?_
                refine env_put (d := 48) (v := .int .i64 ((i : Int) + 1)) E rfl (by decide) rfl (wanted_none rfl _) (run_iadd Try.underlying3 (E.get 0 rfl) rfl (by omega) (by omega) rfl) fun a E => ?_
                refine env_set (d := 11) (v := .int .i64 ((i : Int) + 1)) E rfl (by decide) (wanted_none rfl _) (run_assign rfl (E.get 0 rfl)) fun a E => ?_
                refine wpList_nil ?_
                refine then_n ?_
                refine ⟨⟨i + 1, (i : Int), E.of ⟨E.get 0 rfl, E.get 3 rfl, E.get 13 rfl, E.get 14 rfl, E.get 15 rfl, E.get 16 rfl, E.get 17 rfl, E.get 18 rfl, trivial⟩, hlt, ?_, hO, h, hb22, ht, hf, hBs⟩, ?_⟩
                · unfold bst
                  simp only [← hbi, Int.toNat_natCast, hq32, hq33, Bool.not_true, Bool.not_false, Bool.true_and, Bool.false_and, Bool.true_or, Bool.false_or, Bool.or_true, Bool.or_false, if_true, Bool.false_eq_true, if_false]
                · rw [E.get 0 rfl]; simp only [intOf]; omega
          | true =>
            refine wp_region_invg (n := 94) (base := [(46, .bool true), (45, .int .i64 (I.length : Int)), (44, .slice (p0) I.length cp0), (43, .pointer (some ⟨r, 0, none⟩)), (42, .pointer (some ⟨r, 0, none⟩)), (41, .pointer (some ⟨r, 0, none⟩)), (40, .int .i64 (i : Int)), (11, .int .i64 (i : Int)), (10, .int .i64 bv), (9, .int .i64 (k : Int)), (7, dv), (8, .slice (some ⟨tb, 0, none⟩) I.length I.length), (0, .pointer (some ⟨r, 0, none⟩)), (4, .pointer (some ⟨b22, 0, none⟩)), (2, .int .i64 n)]) (T := [some (49, .slice (some ⟨tb, 0, none⟩) I.length I.length), some (50, .int .i64 (i : Int)), some (51, .pointer (some ⟨tb, (0 + i), none⟩)), some (52, .bool true), some (53, .bool false), some (54, .bool false), some (55, undef), some (56, undef), some (57, undef), some (58, undef), some (59, undef), some (60, undef), some (61, undef), some (62, undef), some (63, undef), some (64, undef), some (65, undef), some (66, undef), some (67, undef), some (68, undef), some (69, undef), some (70, undef), some (71, undef), some (72, undef), some (73, undef), some (74, undef), some (75, undef), some (76, undef), some (77, undef), some (78, .bool false)]) (M := fun _ wm => Fr (fun _ => False) w2 wm) (by kernel_rfl) (by kernel_rfl) (by kernel_rfl) (E.of ⟨E.get 0 rfl, E.get 1 rfl, E.get 2 rfl, E.get 3 rfl, E.get 4 rfl, E.get 5 rfl, E.get 6 rfl, E.get 7 rfl, E.get 8 rfl, E.get 9 rfl, E.get 10 rfl, E.get 11 rfl, E.get 12 rfl, E.get 13 rfl, E.get 14 rfl, trivial⟩) (Fr.refl _ _).drew ?_ ?_
            · intro j9 o9 t9 ls9 a w5 ho hT0 hl E D DL hM
              have h := RIAt.fr h hM (fun _ _ h => h)
              have hb22 := hM.obj hb22 id
              have ht := tkB.fr ht hM id
              have hBs := Nat.le_trans hBs hM.size
              have hO := ow.fr hO hM (fun _ _ h => h)
              have hrow2 := fun j u hu => hM.cell (hrow2 j u hu) id
              match j9, ho, hT0, hl, D, DL with
              | 0, ho, hT0, hl, D, DL =>
                obtain rfl := Option.some.inj ho
                obtain rfl := Option.some.inj hT0
                clear ho hT0
                exact ⟨fun _ => val_wp (run_move rfl (E.get 11 rfl)) rfl hM, fun h => by rw [wanted_none rfl] at h; cases h⟩
              | 1, ho, hT0, hl, D, DL =>
                obtain rfl := Option.some.inj ho
                obtain rfl := Option.some.inj hT0
                clear ho hT0
                exact ⟨fun _ => val_wp (run_move rfl (E.get 7 rfl)) rfl hM, fun h => by rw [wanted_none rfl] at h; cases h⟩
              | 2, ho, hT0, hl, D, DL =>
                obtain rfl := Option.some.inj ho
                obtain rfl := Option.some.inj hT0
                clear ho hT0
                exact ⟨fun _ => val_wp (run_index85 (i := i) rfl (D 0 _ rfl rfl) (D 1 _ rfl rfl) hlt) rfl hM, fun h => by rw [wanted_none rfl] at h; cases h⟩
              | 3, ho, hT0, hl, D, DL =>
                obtain rfl := Option.some.inj ho
                obtain rfl := Option.some.inj hT0
                clear ho hT0
                exact ⟨fun _ => val_wp ((run_ldb rfl (D 2 _ rfl rfl) (ht.at hlt)).trans (by rw [hq32] <;> rfl)) rfl hM, fun h => by rw [wanted_none rfl] at h; cases h⟩
              | 4, ho, hT0, hl, D, DL =>
                obtain rfl := Option.some.inj ho
                obtain rfl := Option.some.inj hT0
                clear ho hT0
                exact ⟨fun _ => val_wp (run_not rfl (D 3 _ rfl rfl)) rfl hM, fun h => by rw [wanted_none rfl] at h; cases h⟩
              | 5, ho, hT0, hl, D, DL =>
                obtain rfl := Option.some.inj ho
                obtain rfl := Option.some.inj hT0
                clear ho hT0
                exact ⟨fun _ => val_wp (run_move rfl (D 4 _ rfl rfl)) rfl hM, fun h => by rw [wanted_none rfl] at h; cases h⟩
              | 6, ho, hT0, hl, D, DL =>
                obtain rfl := Option.some.inj ho
                obtain rfl := Option.some.inj hT0
                clear ho hT0
                exact ⟨fun h => (by rw [w_no (g := 5) (s := 54) (b := true) E rfl rfl (by decide) (D 5 _ rfl rfl)] at h; cases h), fun _ => ⟨fun x hx => by cases hx; rfl, hM⟩⟩
              | 7, ho, hT0, hl, D, DL =>
                obtain rfl := Option.some.inj ho
                obtain rfl := Option.some.inj hT0
                clear ho hT0
                exact ⟨fun h => (by rw [w_no (g := 5) (s := 54) (b := true) E rfl rfl (by decide) (D 5 _ rfl rfl)] at h; cases h), fun _ => ⟨fun x hx => by cases hx; rfl, hM⟩⟩
              | 8, ho, hT0, hl, D, DL =>
                obtain rfl := Option.some.inj ho
                obtain rfl := Option.some.inj hT0
                clear ho hT0
                exact ⟨fun h => (by rw [w_no (g := 5) (s := 54) (b := true) E rfl rfl (by decide) (D 5 _ rfl rfl)] at h; cases h), fun _ => ⟨fun x hx => by cases hx; rfl, hM⟩⟩
              | 9, ho, hT0, hl, D, DL =>
                obtain rfl := Option.some.inj ho
                obtain rfl := Option.some.inj hT0
                clear ho hT0
                exact ⟨fun h => (by rw [w_nou (g := 8) (s := 57) (b := false) E rfl rfl (by decide) (D 8 _ rfl rfl)] at h; cases h), fun _ => ⟨fun x hx => by cases hx; rfl, hM⟩⟩
              | 10, ho, hT0, hl, D, DL =>
                obtain rfl := Option.some.inj ho
                obtain rfl := Option.some.inj hT0
                clear ho hT0
                exact ⟨fun h => (by rw [w_nou (g := 8) (s := 57) (b := false) E rfl rfl (by decide) (D 8 _ rfl rfl)] at h; cases h), fun _ => ⟨fun x hx => by cases hx; rfl, hM⟩⟩
              | 11, ho, hT0, hl, D, DL =>
                obtain rfl := Option.some.inj ho
                obtain rfl := Option.some.inj hT0
                clear ho hT0
                exact ⟨fun h => (by rw [w_nou (g := 8) (s := 57) (b := false) E rfl rfl (by decide) (D 8 _ rfl rfl)] at h; cases h), fun _ => ⟨fun x hx => by cases hx; rfl, hM⟩⟩
              | 12, ho, hT0, hl, D, DL =>
                obtain rfl := Option.some.inj ho
                obtain rfl := Option.some.inj hT0
                clear ho hT0
                exact ⟨fun h => (by rw [w_nou (g := 8) (s := 57) (b := false) E rfl rfl (by decide) (D 8 _ rfl rfl)] at h; cases h), fun _ => ⟨fun x hx => by cases hx; rfl, hM⟩⟩
              | 13, ho, hT0, hl, D, DL =>
                obtain rfl := Option.some.inj ho
                obtain rfl := Option.some.inj hT0
                clear ho hT0
                exact ⟨fun h => (by rw [w_nou (g := 8) (s := 57) (b := false) E rfl rfl (by decide) (D 8 _ rfl rfl)] at h; cases h), fun _ => ⟨fun x hx => by cases hx; rfl, hM⟩⟩
              | 14, ho, hT0, hl, D, DL =>
                obtain rfl := Option.some.inj ho
                obtain rfl := Option.some.inj hT0
                clear ho hT0
                exact ⟨fun h => (by rw [w_nou (g := 8) (s := 57) (b := false) E rfl rfl (by decide) (D 8 _ rfl rfl)] at h; cases h), fun _ => ⟨fun x hx => by cases hx; rfl, hM⟩⟩
              | 15, ho, hT0, hl, D, DL =>
                obtain rfl := Option.some.inj ho
                obtain rfl := Option.some.inj hT0
                clear ho hT0
                exact ⟨fun h => (by rw [w_nou (g := 8) (s := 57) (b := false) E rfl rfl (by decide) (D 8 _ rfl rfl)] at h; cases h), fun _ => ⟨fun x hx => by cases hx; rfl, hM⟩⟩
              | 16, ho, hT0, hl, D, DL =>
                obtain rfl := Option.some.inj ho
                obtain rfl := Option.some.inj hT0
                clear ho hT0
                exact ⟨fun h => (by rw [w_nou (g := 8) (s := 57) (b := false) E rfl rfl (by decide) (D 8 _ rfl rfl)] at h; cases h), fun _ => ⟨fun x hx => by cases hx; rfl, hM⟩⟩
              | 17, ho, hT0, hl, D, DL =>
                obtain rfl := Option.some.inj ho
                obtain rfl := Option.some.inj hT0
                clear ho hT0
                exact ⟨fun h => (by rw [w_nou (g := 8) (s := 57) (b := false) E rfl rfl (by decide) (D 8 _ rfl rfl)] at h; cases h), fun _ => ⟨fun x hx => by cases hx; rfl, hM⟩⟩
              | 18, ho, hT0, hl, D, DL =>
                obtain rfl := Option.some.inj ho
                obtain rfl := Option.some.inj hT0
                clear ho hT0
                exact ⟨fun h => (by rw [w_nou (g := 8) (s := 57) (b := false) E rfl rfl (by decide) (D 8 _ rfl rfl)] at h; cases h), fun _ => ⟨fun x hx => by cases hx; rfl, hM⟩⟩
              | 19, ho, hT0, hl, D, DL =>
                obtain rfl := Option.some.inj ho
                obtain rfl := Option.some.inj hT0
                clear ho hT0
                exact ⟨fun h => (by rw [w_nou (g := 8) (s := 57) (b := false) E rfl rfl (by decide) (D 8 _ rfl rfl)] at h; cases h), fun _ => ⟨fun x hx => by cases hx; rfl, hM⟩⟩
              | 20, ho, hT0, hl, D, DL =>
                obtain rfl := Option.some.inj ho
                obtain rfl := Option.some.inj hT0
                clear ho hT0
                exact ⟨fun h => (by rw [w_nou (g := 8) (s := 57) (b := false) E rfl rfl (by decide) (D 8 _ rfl rfl)] at h; cases h), fun _ => ⟨fun x hx => by cases hx; rfl, hM⟩⟩
              | 21, ho, hT0, hl, D, DL =>
                obtain rfl := Option.some.inj ho
                obtain rfl := Option.some.inj hT0
                clear ho hT0
                exact ⟨fun h => (by rw [w_nou (g := 8) (s := 57) (b := false) E rfl rfl (by decide) (D 8 _ rfl rfl)] at h; cases h), fun _ => ⟨fun x hx => by cases hx; rfl, hM⟩⟩
              | 22, ho, hT0, hl, D, DL =>
                obtain rfl := Option.some.inj ho
                obtain rfl := Option.some.inj hT0
                clear ho hT0
                exact ⟨fun h => (by rw [w_nou (g := 8) (s := 57) (b := false) E rfl rfl (by decide) (D 8 _ rfl rfl)] at h; cases h), fun _ => ⟨fun x hx => by cases hx; rfl, hM⟩⟩
              | 23, ho, hT0, hl, D, DL =>
                obtain rfl := Option.some.inj ho
                obtain rfl := Option.some.inj hT0
                clear ho hT0
                exact ⟨fun h => (by rw [w_nou (g := 8) (s := 57) (b := false) E rfl rfl (by decide) (D 8 _ rfl rfl)] at h; cases h), fun _ => ⟨fun x hx => by cases hx; rfl, hM⟩⟩
              | 24, ho, hT0, hl, D, DL =>
                obtain rfl := Option.some.inj ho
                obtain rfl := Option.some.inj hT0
                clear ho hT0
                exact ⟨fun h => (by rw [w_nou (g := 8) (s := 57) (b := false) E rfl rfl (by decide) (D 8 _ rfl rfl)] at h; cases h), fun _ => ⟨fun x hx => by cases hx; rfl, hM⟩⟩
              | 25, ho, hT0, hl, D, DL =>
                obtain rfl := Option.some.inj ho
                obtain rfl := Option.some.inj hT0
                clear ho hT0
                exact ⟨fun h => (by rw [w_nou (g := 8) (s := 57) (b := false) E rfl rfl (by decide) (D 8 _ rfl rfl)] at h; cases h), fun _ => ⟨fun x hx => by cases hx; rfl, hM⟩⟩
              | 26, ho, hT0, hl, D, DL =>
                obtain rfl := Option.some.inj ho
                obtain rfl := Option.some.inj hT0
                clear ho hT0
                exact ⟨fun h => (by rw [w_nou (g := 8) (s := 57) (b := false) E rfl rfl (by decide) (D 8 _ rfl rfl)] at h; cases h), fun _ => ⟨fun x hx => by cases hx; rfl, hM⟩⟩
              | 27, ho, hT0, hl, D, DL =>
                obtain rfl := Option.some.inj ho
                obtain rfl := Option.some.inj hT0
                clear ho hT0
                exact ⟨fun h => (by rw [w_nou (g := 8) (s := 57) (b := false) E rfl rfl (by decide) (D 8 _ rfl rfl)] at h; cases h), fun _ => ⟨fun x hx => by cases hx; rfl, hM⟩⟩
              | 28, ho, hT0, hl, D, DL =>
                obtain rfl := Option.some.inj ho
                obtain rfl := Option.some.inj hT0
                clear ho hT0
                exact ⟨fun h => (by rw [w_no (g := 5) (s := 54) (b := true) E rfl rfl (by decide) (D 5 _ rfl rfl)] at h; cases h), fun _ => ⟨fun x hx => by cases hx; rfl, hM⟩⟩
              | 29, ho, hT0, hl, D, DL =>
                obtain rfl := Option.some.inj ho
                obtain rfl := Option.some.inj hT0
                clear ho hT0
                exact ⟨fun _ => val_wp (run_pick_f rfl (D 5 _ rfl rfl) rfl) rfl hM, fun h => by rw [wanted_none rfl] at h; cases h⟩
              | j9 + 30, ho, hT0, hl, D, DL => exact absurd hT0 (by simp)
            · intro a w5 E V hM
              have E := E.add (V 29 _ rfl)
              clear V
              have h := RIAt.fr h hM (fun _ _ h => h)
              have hb22 := hM.obj hb22 id
              have ht := tkB.fr ht hM id
              have hBs := Nat.le_trans hBs hM.size
              have hO := ow.fr hO hM (fun _ _ h => h)
              have hrow2 := fun j u hu => hM.cell (hrow2 j u hu) id
              have hf := hf.trans hM
              clear hM
              refine then_n ?_
              refine wp_cond_false (E.get 0 rfl) ?_
              refine wp_skip ?_
              refine blk_n ?_
              refine then_n ?_
              refine wp_region_lit ?_
              refine env_put (d := 47) (v := .int .i64 (i : Int)) E rfl (by decide) rfl (wanted_none rfl _) (run_move rfl (E.get 8 rfl)) fun a E => ?_
              refine env_put (d := 48) (v := .int .i64 ((i : Int) + 1)) E rfl (by decide) rfl (wanted_none rfl _) (run_iadd Try.underlying3 (E.get 0 rfl) rfl (by omega) (by omega) rfl) fun a E => ?_
              refine env_set (d := 11) (v := .int .i64 ((i : Int) + 1)) E rfl (by decide) (wanted_none rfl _) (run_assign rfl (E.get 0 rfl)) fun a E => ?_
              refine wpList_nil ?_
              refine then_n ?_
              refine ⟨⟨i + 1, bv, E.of ⟨E.get 0 rfl, E.get 11 rfl, E.get 12 rfl, E.get 13 rfl, E.get 14 rfl, E.get 15 rfl, E.get 16 rfl, E.get 17 rfl, trivial⟩, hlt, ?_, hO, h, hb22, ht, hf, hBs⟩, ?_⟩
              · unfold bst
                simp only [← hbi, Int.toNat_natCast, hq32, Bool.not_true, Bool.not_false, Bool.true_and, Bool.false_and, Bool.true_or, Bool.false_or, Bool.or_true, Bool.or_false, if_true, Bool.false_eq_true, if_false]
              · rw [E.get 0 rfl]; simp only [intOf]; omega
end Go.Proofs.Ytcafnanbdmapgaa
