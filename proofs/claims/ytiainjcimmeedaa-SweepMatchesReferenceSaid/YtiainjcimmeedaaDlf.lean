/- slices.DeleteFunc at the items, with sweep's own closure. -/
import Derived.Test.YtiainjcimmeedaaIxf
set_option linter.unusedVariables false
set_option linter.unusedSimpArgs false
namespace Go.Proofs.Ytiainjcimmeedaa
open Go.RowKit Go.Pl Go.Geo

/-- What DeleteFunc leaves. -/
def keepL (a0 : It) (L : List It) : List It := L.filter fun x => !decide (x.xh < a0.xl)
theorem keep_all {a0 : It} : ∀ {L : List It}, idxOf a0 L = -1 → keepL a0 L = L
  | [], _ => rfl
  | x :: l, h => by
    unfold idxOf at h
    by_cases hx : x.xh < a0.xl
    · rw [if_pos hx] at h; omega
    · rw [if_neg hx] at h
      by_cases hl : idxOf a0 l = -1
      · unfold keepL; rw [List.filter_cons_of_pos (by simpa using hx)]; exact congrArg _ (keep_all hl)
      · rw [if_neg hl] at h; have := idx_ge a0 l; omega
theorem keep_first {a0 : It} {L : List It} (h : ¬ idxOf a0 L = -1) : ∃ i : Nat, idxOf a0 L = i ∧ i < L.length ∧ Hid (L.take i = keepL a0 (L.take (i + 1))) := by
  induction L with
  | nil => exact absurd rfl h
  | cons x l ih =>
    unfold idxOf at h ⊢
    by_cases hx : x.xh < a0.xl
    · rw [if_pos hx]
      exact ⟨0, rfl, by simp, by unfold keepL; rw [Hid, List.take_succ_cons, List.take_zero, List.take_zero, List.filter_cons_of_neg (by simpa using hx)]; rfl⟩
    · rw [if_neg hx] at h ⊢
      by_cases hl : idxOf a0 l = -1
      · rw [if_pos hl] at h; exact absurd rfl h
      · obtain ⟨i, h1, h2, h3⟩ := ih hl
        rw [if_neg hl]
        refine ⟨i + 1, by rw [h1]; omega, by simp; omega, ?_⟩
        unfold keepL at h3 ⊢
        rw [Hid, List.take_succ_cons, List.take_succ_cons, List.filter_cons_of_pos (by simpa using hx), ← h3.out]
theorem keep_step {a0 x : It} {R L : List It} {i j : Nat} (h : R.take i = keepL a0 (L.take j)) (hx : L[j]? = some x) (hk : ¬ x.xh < a0.xl) (hi : i < R.length) : Hid ((R.set i x).take (i + 1) = keepL a0 (L.take (j + 1))) := by
  unfold keepL at *
  rw [Hid, List.take_add_one, List.take_add_one (l := L), hx, List.filter_append, ← h, List.getElem?_set, if_pos rfl, if_pos hi, List.take_set_of_le (Nat.le_refl _)]
  simp [hk]
theorem keep_drop {a0 x : It} {R L : List It} {i j : Nat} (h : R.take i = keepL a0 (L.take j)) (hx : L[j]? = some x) (hk : x.xh < a0.xl) : Hid (R.take i = keepL a0 (L.take (j + 1))) := by
  unfold keepL at *
  rw [Hid, List.take_add_one (l := L), hx, List.filter_append, ← h]
  simp [hk]
theorem rowB.thereN {w : World} {g cap : Nat} {R : List It} (h : rowB w g cap R) {i n : Nat} (hn : n ≤ cap) : w.there g (i * 9) ((n - i) * 9) := by
  obtain ⟨cur, h1, h2, _⟩ := h
  intro j hj
  refine ⟨?_, free_of_blk h1 _⟩
  rw [cell_of_blk h1, Array.getElem?_eq_getElem (by rw [h2]; omega)]; rfl
theorem env_none {O : Array Oper} {Q : Exit → Act → World → Prop} {rest : List Oper} {o : Oper} {a : Act} {w w' : World} {n : Nat} {L : List (Nat × Value)} {v : Value} (E : Env n L a) (hd : o.dst = none) (hw : Region.wanted o (yielded O a.tmps) = true) (hr : (execOp a.eval o).run Try.prog w = .ok (.value v) w') (k : Env n L a → wpList Try.prog O Q rest a w') : wpList Try.prog O Q (o :: rest) a w := by
  refine st_runw hw hr ?_
  rw [hd]
  exact k E

set_option maxRecDepth 100000 in
set_option maxHeartbeats 4000000 in
theorem delete_calls (a0 : It) (ga g cap : Nat) (L : List It) (w : World) (hA : itB w ga a0) (hR : rowB w g cap L) (hga : ga ≠ g) :
    Calls Try.prog 23 #[.slice (some ⟨g, 0, none⟩) L.length cap, .func (.func 24) #[] #[.pointer (some ⟨ga, 0, none⟩)]] w fun e w' => e = .returned (.slice (some ⟨g, 0, none⟩) (keepL a0 L).length cap) ∧ rowB w' g cap (keepL a0 L) ∧ Fr (fun k => k = g) w w' := by
  have hle := hR.le
  have hmx : cap ≤ maxLen := by obtain ⟨_, _, _, _, h, _⟩ := hR; exact h
  unfold maxLen at hmx
  obtain ⟨n, hn⟩ : ∃ n, n = L.length := ⟨_, rfl⟩
  have hN := Lib.hid hn
  rw [← hn] at hle ⊢
  clear hn
  have hA0 := Lib.hid hA
  obtain ⟨F, hF⟩ : ∃ F : Value, F = .func (.func 24) #[] #[.pointer (some ⟨ga, 0, none⟩)] := ⟨_, rfl⟩
  refine wp_start2 Try.func23 rfl rfl (n := 42) (by decide) fun a E => ?_
  rw [← hF] at E
  refine wp_seq ?_
  refine wp_region_lit ?_
  refine env_put (d := 4) (v := .slice none 0 0) E rfl (by decide) rfl (wanted_none rfl _) (run_assign rfl rfl) fun a E => ?_
  refine wpList_nil ?_
  refine then_n ?_
  refine wp_seq ?_
  refine wp_region_lit ?_
  refine env_put (d := 8) (v := .slice (some ⟨g, 0, none⟩) n cap) E rfl (by decide) rfl (wanted_none rfl _) (run_move rfl (E.get 1 rfl)) fun a E => ?_
  refine env_put (d := 9) (v := F) E rfl (by decide) rfl (wanted_none rfl _) (run_move rfl (E.get 3 rfl)) fun a E => ?_
  refine env_call (d := 10) (v := .int .i64 (idxOf a0 L)) E rfl (by decide) rfl (wanted_none rfl _) (run_call2 (enters_of Try.func36 (by kernel_rfl) rfl) rfl rfl (E.get 1 rfl) ((E.get 0 rfl).trans hF)) (by have := index_calls a0 ga g cap L w hA hR; rw [← hN.out] at this; exact this) fun a w1 f1 E => ?_
  have hf : Fr (fun k => k = g) w w1 := f1.mono fun _ _ h => h.elim
  have hA := hA.fr f1 id
  have hR := hR.fr f1 id
  clear f1
  refine env_put (d := 5) (v := .int .i64 (idxOf a0 L)) E rfl (by decide) rfl (wanted_none rfl _) (run_assign rfl (E.get 0 rfl)) fun a E => ?_
  refine wpList_nil ?_
  refine then_n ?_
  refine wp_seq ?_
  refine wp_seq ?_
  refine wp_region_lit ?_
  refine env_put (d := 11) (v := .int .i64 (idxOf a0 L)) E rfl (by decide) rfl (wanted_none rfl _) (run_move rfl (E.get 0 rfl)) fun a E => ?_
  refine env_put (d := 12) (v := .bool ((idxOf a0 L) == (-1))) E rfl (by decide) rfl (wanted_none rfl _) (run_ieql (E.get 0 rfl) rfl Try.underlying3 rfl) fun a E => ?_
  refine wpList_nil ?_
  refine then_n ?_
  cases hq1 : ((idxOf a0 L) == (-1)) with
  | false =>
    rw [hq1] at E
    refine wp_cond_false (E.get 0 rfl) ?_
    refine wp_skip ?_
    refine then_n ?_
    obtain ⟨i0, hi0, hlt0, hst⟩ := keep_first (L := L) (a0 := a0) (by simpa using hq1)
    have hlt0 : i0 < n := by rw [hN.out]; exact hlt0
    rw [hi0] at E
    refine wp_seq ?_
    refine wp_seq ?_
    refine wp_region_lit ?_
    refine env_put (d := 14) (v := .int .i64 (i0 : Int)) E rfl (by decide) rfl (wanted_none rfl _) (run_move rfl (E.get 2 rfl)) fun a E => ?_
    refine env_put (d := 15) (v := .int .i64 (i0 + 1 : Int)) E rfl (by decide) rfl (wanted_none rfl _) (run_iadd (E.get 0 rfl) rfl (by omega) (by omega) rfl) fun a E => ?_
    refine env_put (d := 6) (v := .int .i64 (i0 + 1 : Int)) E rfl (by decide) rfl (wanted_none rfl _) (run_assign rfl (E.get 0 rfl)) fun a E => ?_
    refine wpList_nil ?_
    refine then_n ?_
    refine wp_block ?_
    refine wp_loop (fun a w2 => ∃ (i j : Nat) (R : List It), i < j ∧ j ≤ n ∧ Hid (R.length = n) ∧ Env 42 [(6, .int .i64 (j : Int)), (5, .int .i64 (i : Int)), (1, F), (0, .slice (some ⟨g, 0, none⟩) n cap)] a ∧ rowB w2 g cap R ∧ Hid (R.take i = keepL a0 (L.take j)) ∧ Hid (∀ t, j ≤ t → R[t]? = L[t]?) ∧ Fr (fun k => k = g) w w2) (fun a _ => n - (intOf (a.eval (.tmp 6))).toNat) ?_ ?_
    · exact ⟨i0, i0 + 1, L, by omega, by omega, hN.out.symm, E.of ⟨E.get 0 (by simp), E.get 5 rfl, E.get 11 rfl, E.get 10 rfl, trivial⟩, hR, hst, fun _ _ => rfl, hf⟩
    rintro a w2 ⟨i, j, R, hij, hj, hRn, E, hR, hpre, hsuf, hf⟩
    have hmu : n - (intOf (a.eval (.tmp 6))).toNat = n - j := by rw [E.get 0 rfl]; simp [intOf]
    rw [hmu]
    clear hmu
    have hA := hA0.out.fr hf (fun e => hga e)
    refine wp_seq ?_
    refine wp_seq ?_
    refine wp_region_lit ?_
    refine env_put (d := 16) (v := .int .i64 (j : Int)) E rfl (by decide) rfl (wanted_none rfl _) (run_move rfl (E.get 0 rfl)) fun a E => ?_
    refine env_put (d := 17) (v := .slice (some ⟨g, 0, none⟩) n cap) E rfl (by decide) rfl (wanted_none rfl _) (run_move rfl (E.get 4 rfl)) fun a E => ?_
    refine env_put (d := 18) (v := .int .i64 (n : Int)) E rfl (by decide) rfl (wanted_none rfl _) (run_len44 rfl (E.get 0 rfl)) fun a E => ?_
    refine env_put (d := 19) (v := .bool (decide ((j : Int) < (n : Int)))) E rfl (by decide) rfl (wanted_none rfl _) (run_ilss (E.get 2 rfl) (E.get 0 rfl) Try.underlying3 rfl) fun a E => ?_
    refine wpList_nil ?_
    refine then_n ?_
    cases hq2 : (decide ((j : Int) < (n : Int))) with
    | false =>
      rw [hq2] at E
      refine wp_cond_false (E.get 0 rfl) ?_
      refine wp_exit ?_
      refine then_e ?_
      refine then_e ?_
      refine blk_e ?_
      refine then_n ?_
      refine wp_seq ?_
      refine wp_region_lit ?_
      refine env_put (d := 36) (v := .slice (some ⟨g, 0, none⟩) n cap) E rfl (by decide) rfl (wanted_none rfl _) (run_move rfl (E.get 7 rfl)) fun a E => ?_
      refine env_put (d := 37) (v := .int .i64 (i : Int)) E rfl (by decide) rfl (wanted_none rfl _) (run_move rfl (E.get 6 rfl)) fun a E => ?_
      refine env_put (d := 38) (v := .slice (some ⟨g, i * 9, none⟩) (n - i) (cap - i)) E rfl (by decide) rfl (wanted_none rfl _) (run_slo rfl (E.get 1 rfl) (E.get 0 rfl) (by omega) hle) fun a E => ?_
      have hth : World.there _ g (i * 9) ((n - i) * 9) := rowB.thereN hR (by omega)
      obtain ⟨zs, hz, hrun⟩ := run_clear44 (o := ⟨none, _, _, _, _, _⟩) (ρ := a.eval) rfl (E.get 0 rfl) (by omega) hth
      refine env_none E rfl (wanted_none rfl _) hrun fun E => ?_
      have hR := hR.tail (i := i) zs (by rw [hz]; omega)
      have hf := hf.trans (Fr.setCells (F := fun k => k = g) (fun _ => rfl) zs (i * 9) _ (Fr.refl _ _))
      refine wpList_nil ?_
      refine then_n ?_
      refine wp_seq ?_
      refine wp_region_lit ?_
      refine env_put (d := 39) (v := .slice (some ⟨g, 0, none⟩) n cap) E rfl (by decide) rfl (wanted_none rfl _) (run_move rfl (E.get 10 rfl)) fun a E => ?_
      refine env_put (d := 40) (v := .int .i64 (i : Int)) E rfl (by decide) rfl (wanted_none rfl _) (run_move rfl (E.get 9 rfl)) fun a E => ?_
      refine env_put (d := 41) (v := .slice (some ⟨g, 0, none⟩) i cap) E rfl (by decide) rfl (wanted_none rfl _) (run_shi rfl (E.get 1 rfl) (E.get 0 rfl) (by omega)) fun a E => ?_
      refine env_put (d := 4) (v := .slice (some ⟨g, 0, none⟩) i cap) E rfl (by decide) rfl (wanted_none rfl _) (run_assign rfl (E.get 0 rfl)) fun a E => ?_
      refine wpList_nil ?_
      refine then_n ?_
      refine wp_ret ?_
      have hjn : ¬ (j : Int) < (n : Int) := of_decide_eq_false hq2
      rw [hpre.out, List.take_of_length_le (by have := hN.out; omega)] at hR
      have hlen : i = (keepL a0 L).length := by have h := congrArg List.length hpre.out; rw [List.take_of_length_le (l := L) (by have := hN.out; omega), List.length_take, hRn.out] at h; omega
      exact ret_tmp (t := 4) rfl E (E.get 0 rfl) ⟨by rw [← hlen], hR, hf⟩
    | true =>
      rw [hq2] at E
      refine wp_cond_true (E.get 0 rfl) ?_
      refine wp_skip ?_
      refine then_n ?_
      refine wp_seq ?_
      refine wp_block ?_
      refine wp_seq ?_
      have hlt : j < n := by have := of_decide_eq_true hq2; omega
      have hlR : R.length = n := hRn.out
      obtain ⟨x, hx⟩ : ∃ x, R[j]? = some x := ⟨_, List.getElem?_eq_getElem (by omega)⟩
      have hxL : Hid (L[j]? = some x) := by rw [← hsuf.out j (Nat.le_refl _)]; exact hx
      have hin : i < n := by omega
      refine wp_region_lit ?_
      refine env_put (d := 22) (v := .slice (some ⟨g, 0, none⟩) n cap) E rfl (by decide) rfl (wanted_none rfl _) (run_move rfl (E.get 7 rfl)) fun a E => ?_
      refine env_put (d := 23) (v := .int .i64 (j : Int)) E rfl (by decide) rfl (wanted_none rfl _) (run_move rfl (E.get 5 rfl)) fun a E => ?_
      refine env_put (d := 24) (v := .pointer (some ⟨g, (j * 9), none⟩)) E rfl (by decide) rfl (wanted_none rfl _) (run_index44 rfl (E.get 1 rfl) (E.get 0 rfl) hlt) fun a E => ?_
      refine env_put (d := 25) (v := .agg (itC x).toArray) E rfl (by decide) rfl (wanted_none rfl _) (run_ld49 rfl (E.get 0 rfl) (hR.range hx)) fun a E => ?_
      refine env_alloc49 (d := 7) E rfl (by decide) rfl (wanted_none rfl _) rfl fun a w1 b e1 hb f1 E => ?_
      have lb : w.heap.size ≤ b := by have := hf.size; omega
      have nbg : g ≠ b := by have := hR.lt; omega
      have nba : ga ≠ b := by have := lt_of_blk hA; omega
      have hA := hA.fr f1 id
      have hR := hR.fr f1 id
      have hf := hf.trans' f1 fun _ _ h => h.elim
      clear e1 f1
      refine env_st49 E rfl (wanted_none rfl _) rfl (E.get 0 rfl) (E.get 1 rfl) hb fun w1 hb f1 E => ?_
      have hA := hA.fr f1 nba
      have hR := hR.fr f1 nbg
      have hf := hf.trans' f1 fun r hr e => by have : r = b := e; omega
      clear f1
      refine wpList_nil ?_
      refine then_n ?_
      refine wp_seq ?_
      refine wp_region_lit ?_
      refine env_put (d := 26) (v := F) E rfl (by decide) rfl (wanted_none rfl _) (run_move rfl (E.get 11 rfl)) fun a E => ?_
      refine env_put (d := 27) (v := .agg (itC x).toArray) E rfl (by decide) rfl (wanted_none rfl _) (run_ld49 rfl (E.get 1 rfl) (itB.range hb)) fun a E => ?_
      refine env_call (d := 28) (v := .bool (decide (x.xh < a0.xl))) E rfl (by decide) rfl (wanted_none rfl _) (run_callv (enters_of Try.func24 (by kernel_rfl) rfl) rfl ((E.get 1 rfl).trans hF) (E.get 0 rfl)) (del_calls x a0 ga _ hA) fun a w1 f1 E => ?_
      have hA := hA.fr f1 id
      have hR := hR.fr f1 id
      have hb := itB.fr hb f1 id
      have hf := hf.trans' f1 fun _ _ h => h.elim
      clear f1
      refine env_put (d := 29) (v := .bool (!(decide (x.xh < a0.xl)))) E rfl (by decide) rfl (wanted_none rfl _) (run_not rfl (E.get 0 rfl)) fun a E => ?_
      refine wpList_nil ?_
      refine then_n ?_
      cases hq3 : (decide (x.xh < a0.xl)) with
      | false =>
        rw [hq3] at E
        refine wp_cond_true (E.get 0 rfl) ?_
        refine wp_seq ?_
        refine wp_region_lit ?_
        refine env_put (d := 30) (v := .slice (some ⟨g, 0, none⟩) n cap) E rfl (by decide) rfl (wanted_none rfl _) (run_move rfl (E.get 16 rfl)) fun a E => ?_
        refine env_put (d := 31) (v := .int .i64 (i : Int)) E rfl (by decide) rfl (wanted_none rfl _) (run_move rfl (E.get 15 rfl)) fun a E => ?_
        refine env_put (d := 32) (v := .agg (itC x).toArray) E rfl (by decide) rfl (wanted_none rfl _) (run_ld49 rfl (E.get 6 rfl) (itB.range hb)) fun a E => ?_
        refine env_put (d := 33) (v := .pointer (some ⟨g, (i * 9), none⟩)) E rfl (by decide) rfl (wanted_none rfl _) (run_index44 rfl (E.get 2 rfl) (E.get 1 rfl) hin) fun a E => ?_
        refine env_strow (i := i) E rfl (wanted_none rfl _) rfl (E.get 0 rfl) (E.get 1 rfl) hR (by omega) fun w1 hR f1 E => ?_
        have hA := hA.fr f1 hga
        have hf := hf.trans f1
        clear f1
        refine wpList_nil ?_
        refine then_n ?_
        refine wp_region_lit ?_
        refine env_put (d := 34) (v := .int .i64 (i : Int)) E rfl (by decide) rfl (wanted_none rfl _) (run_move rfl (E.get 18 rfl)) fun a E => ?_
        refine env_put (d := 35) (v := .int .i64 (i + 1 : Int)) E rfl (by decide) rfl (wanted_none rfl _) (run_iadd (E.get 0 rfl) rfl (by omega) (by omega) rfl) fun a E => ?_
        refine env_set (d := 5) (v := .int .i64 (i + 1 : Int)) E rfl (by decide) (wanted_none rfl _) (run_assign rfl (E.get 0 rfl)) fun a E => ?_
        refine wpList_nil ?_
        refine blk_n ?_
        refine then_n ?_
        refine wp_region_lit ?_
        refine env_put (d := 20) (v := .int .i64 (j : Int)) E rfl (by decide) rfl (wanted_none rfl _) (run_move rfl (E.get 20 rfl)) fun a E => ?_
        refine env_put (d := 21) (v := .int .i64 (j + 1 : Int)) E rfl (by decide) rfl (wanted_none rfl _) (run_iadd (E.get 0 rfl) rfl (by omega) (by omega) rfl) fun a E => ?_
        refine env_set (d := 6) (v := .int .i64 (j + 1 : Int)) E rfl (by decide) (wanted_none rfl _) (run_assign rfl (E.get 0 rfl)) fun a E => ?_
        refine wpList_nil ?_
        refine then_n ?_
        have hk : ¬ x.xh < a0.xl := of_decide_eq_false hq3
        refine ⟨⟨i + 1, j + 1, R.set i x, by omega, by omega, by rw [Hid, List.length_set]; exact hRn.out, E.of ⟨(E.get 0 rfl).trans (by simp), (E.get 3 rfl).trans (by simp), E.get 23 rfl, E.get 24 rfl, trivial⟩, hR, keep_step hpre.out hxL.out hk (by omega), fun t ht => ?_, hf⟩, ?_⟩
        · rw [List.getElem?_set, if_neg (by omega)]; exact hsuf.out t (by omega)
        · simp only [E.get 0 rfl, intOf]; omega
      | true =>
        rw [hq3] at E
        refine wp_cond_false (E.get 0 rfl) ?_
        refine wp_skip ?_
        refine blk_n ?_
        refine then_n ?_
        refine wp_region_lit ?_
        refine env_put (d := 20) (v := .int .i64 (j : Int)) E rfl (by decide) rfl (wanted_none rfl _) (run_move rfl (E.get 13 rfl)) fun a E => ?_
        refine env_put (d := 21) (v := .int .i64 (j + 1 : Int)) E rfl (by decide) rfl (wanted_none rfl _) (run_iadd (E.get 0 rfl) rfl (by omega) (by omega) rfl) fun a E => ?_
        refine env_set (d := 6) (v := .int .i64 (j + 1 : Int)) E rfl (by decide) (wanted_none rfl _) (run_assign rfl (E.get 0 rfl)) fun a E => ?_
        refine wpList_nil ?_
        refine then_n ?_
        have hk : x.xh < a0.xl := of_decide_eq_true hq3
        refine ⟨⟨i, j + 1, R, by omega, by omega, hRn, E.of ⟨(E.get 0 rfl).trans (by simp), E.get 16 rfl, E.get 17 rfl, E.get 18 rfl, trivial⟩, hR, keep_drop hpre.out hxL.out hk, fun t ht => hsuf.out t (by omega), hf⟩, ?_⟩
        · simp only [E.get 0 rfl, intOf]; omega
  | true =>
    rw [hq1] at E
    refine wp_cond_true (E.get 0 rfl) ?_
    refine wp_seq ?_
    refine wp_region_lit ?_
    refine env_put (d := 13) (v := .slice (some ⟨g, 0, none⟩) n cap) E rfl (by decide) rfl (wanted_none rfl _) (run_move rfl (E.get 7 rfl)) fun a E => ?_
    refine env_set (d := 4) (v := .slice (some ⟨g, 0, none⟩) n cap) E rfl (by decide) (wanted_none rfl _) (run_assign rfl (E.get 0 rfl)) fun a E => ?_
    refine wpList_nil ?_
    refine then_n ?_
    refine wp_ret ?_
    refine then_r ?_
    have hi := by simpa using hq1
    have hall := keep_all hi
    exact ret_tmp (t := 4) rfl E (E.get 0 rfl) ⟨by rw [hall, hN.out], by rw [hall]; exact hR, hf⟩
end Go.Proofs.Ytiainjcimmeedaa
