/- slices.IndexFunc at the items, with sweep's own closure. -/
import Derived.Test.YtiainjcimmeedaaRw
set_option linter.unusedVariables false
set_option linter.unusedSimpArgs false
namespace Go.Proofs.Ytiainjcimmeedaa
open Go.RowKit Go.Pl Go.Geo

/-- The first item that ends ahead of a0, or -1. -/
def idxOf (a0 : It) : List It → Int
  | [] => -1
  | x :: l => if x.xh < a0.xl then 0 else if idxOf a0 l = -1 then -1 else idxOf a0 l + 1
theorem idx_none {a0 : It} : ∀ {L : List It}, (∀ (t : Nat) (x : It), L[t]? = some x → ¬ x.xh < a0.xl) → idxOf a0 L = -1
  | [], _ => rfl
  | x :: l, h => by
    unfold idxOf
    rw [if_neg (h 0 x rfl), idx_none (fun t y hy => h (t + 1) y (by simpa using hy)), if_pos rfl]
theorem idx_ge (a0 : It) : ∀ L : List It, -1 ≤ idxOf a0 L
  | [] => by unfold idxOf; omega
  | x :: l => by
    have := idx_ge a0 l
    unfold idxOf; split; omega; split <;> omega
theorem idx_some {a0 : It} : ∀ {L : List It} {k : Nat} {x : It}, L[k]? = some x → x.xh < a0.xl → (∀ (t : Nat) (y : It), t < k → L[t]? = some y → ¬ y.xh < a0.xl) → idxOf a0 L = k
  | [], k, x, h, _, _ => by simp at h
  | y :: l, 0, x, h, hx, _ => by simp at h; subst h; unfold idxOf; rw [if_pos hx]; rfl
  | y :: l, k + 1, x, h, hx, hn => by
    have ih := idx_some (L := l) (k := k) (by simpa using h) hx (fun t z ht hz => hn (t + 1) z (by omega) (by simpa using hz))
    unfold idxOf
    rw [if_neg (hn 0 y (by omega) rfl), ih, if_neg (by omega)]
    omega

set_option maxRecDepth 100000 in
set_option maxHeartbeats 2000000 in
theorem index_calls (a0 : It) (ga g cap : Nat) (L : List It) (w : World) (hA : itB w ga a0) (hR : rowB w g cap L) :
    Calls Try.prog 36 #[.slice (some ⟨g, 0, none⟩) L.length cap, .func (.func 24) #[] #[.pointer (some ⟨ga, 0, none⟩)]] w fun e w' => e = .returned (.int .i64 (idxOf a0 L)) ∧ Fr (fun _ => False) w w' := by
  have hle := hR.le
  have hmx : cap ≤ maxLen := by obtain ⟨_, _, _, _, h, _⟩ := hR; exact h
  unfold maxLen at hmx
  obtain ⟨n, hn⟩ : ∃ n, n = L.length := ⟨_, rfl⟩
  have hN := Lib.hid hn
  rw [← hn] at hle ⊢
  clear hn
  have hA0 := Lib.hid hA
  have hR0 := Lib.hid hR
  obtain ⟨F, hF⟩ : ∃ F : Value, F = .func (.func 24) #[] #[.pointer (some ⟨ga, 0, none⟩)] := ⟨_, rfl⟩
  refine wp_start2 Try.func36 rfl rfl (n := 19) (by decide) fun a E => ?_
  rw [← hF] at E
  have hf := Fr.refl (fun _ => False) w
  refine wp_seq ?_
  refine wp_region_lit ?_
  refine env_put (d := 4) (v := .int .i64 0) E rfl (by decide) rfl (wanted_none rfl _) (run_assign rfl rfl) fun a E => ?_
  refine wpList_nil ?_
  refine then_n ?_
  refine wp_seq ?_
  refine wp_seq ?_
  refine wp_region_lit ?_
  refine env_put (d := 6) (v := .slice (some ⟨g, 0, none⟩) n cap) E rfl (by decide) rfl (wanted_none rfl _) (run_move rfl (E.get 1 rfl)) fun a E => ?_
  refine env_put (d := 7) (v := .int .i64 (n : Int)) E rfl (by decide) rfl (wanted_none rfl _) (run_len44 rfl (E.get 0 rfl)) fun a E => ?_
  refine env_put (d := 8) (v := .int .i64 0) E rfl (by decide) rfl (wanted_none rfl _) (run_move rfl rfl) fun a E => ?_
  refine wpList_nil ?_
  refine then_n ?_
  refine wp_block ?_
  refine wp_loop (fun a w2 => ∃ k : Nat, k ≤ n ∧ Env 19 [(8, .int .i64 (k : Int)), (7, .int .i64 (n : Int)), (6, .slice (some ⟨g, 0, none⟩) n cap), (4, .int .i64 0), (1, F), (0, .slice (some ⟨g, 0, none⟩) n cap)] a ∧ Hid (∀ t x, t < k → L[t]? = some x → ¬ x.xh < a0.xl) ∧ Fr (fun _ => False) w w2) (fun a _ => n - (intOf (a.eval (.tmp 8))).toNat) ⟨0, Nat.zero_le _, E.of ⟨E.get 0 rfl, E.get 1 rfl, E.get 2 rfl, E.get 3 rfl, E.get 5 rfl, E.get 4 rfl, trivial⟩, fun t x h => by omega, hf⟩ ?_
  rintro a w2 ⟨k, hk, E, hno, hf⟩
  have hmu : n - (intOf (a.eval (.tmp 8))).toNat = n - k := by rw [E.get 0 rfl]; simp [intOf]
  rw [hmu]
  clear hmu
  have hA := hA0.out.fr hf id
  have hR := hR0.out.fr hf id
  refine wp_seq ?_
  refine wp_region_lit ?_
  refine env_put (d := 9) (v := .bool (decide ((k : Int) < (n : Int)))) E rfl (by decide) rfl (wanted_none rfl _) (run_ilss (E.get 0 rfl) (E.get 1 rfl) Try.underlying3 rfl) fun a E => ?_
  refine wpList_nil ?_
  refine then_n ?_
  refine wp_seq ?_
  cases hq1 : (decide ((k : Int) < (n : Int))) with
  | false =>
    rw [hq1] at E
    refine wp_cond_false (E.get 0 rfl) ?_
    refine wp_exit ?_
    refine then_e ?_
    refine then_e ?_
    refine blk_e ?_
    refine then_n ?_
    refine wp_seq ?_
    refine wp_region_lit ?_
    refine env_set (d := 4) (v := .int .i64 (-1)) E rfl (by decide) (wanted_none rfl _) (run_assign rfl rfl) fun a E => ?_
    refine wpList_nil ?_
    refine then_n ?_
    refine wp_ret ?_
    refine ret_tmp (t := 4) (v := .int .i64 (-1)) rfl E (E.get 0 rfl) ⟨?_, hf⟩
    exact ret_int (by rw [idx_none (fun t x hx => hno.out t x (by have := of_decide_eq_false hq1; have := (List.getElem?_eq_some_iff.1 hx).1; have := hN.out; omega) hx)])
  | true =>
    rw [hq1] at E
    refine wp_cond_true (E.get 0 rfl) ?_
    refine wp_skip ?_
    refine then_n ?_
    refine wp_seq ?_
    refine wp_block ?_
    refine wp_seq ?_
    have hlt : k < n := by have := of_decide_eq_true hq1; omega
    obtain ⟨x, hx⟩ : ∃ x, L[k]? = some x := ⟨_, List.getElem?_eq_getElem (by rw [hN.out] at hlt; exact hlt)⟩
    refine wp_region_lit ?_
    refine env_put (d := 10) (v := .int .i64 (k : Int)) E rfl (by decide) rfl (wanted_none rfl _) (run_move rfl (E.get 1 rfl)) fun a E => ?_
    refine env_put (d := 5) (v := .int .i64 (k : Int)) E rfl (by decide) rfl (wanted_none rfl _) (run_assign rfl (E.get 0 rfl)) fun a E => ?_
    refine wpList_nil ?_
    refine then_n ?_
    refine wp_seq ?_
    refine wp_region_lit ?_
    refine env_put (d := 11) (v := F) E rfl (by decide) rfl (wanted_none rfl _) (run_move rfl (E.get 7 rfl)) fun a E => ?_
    refine env_put (d := 12) (v := .slice (some ⟨g, 0, none⟩) n cap) E rfl (by decide) rfl (wanted_none rfl _) (run_move rfl (E.get 9 rfl)) fun a E => ?_
    refine env_put (d := 13) (v := .int .i64 (k : Int)) E rfl (by decide) rfl (wanted_none rfl _) (run_move rfl (E.get 2 rfl)) fun a E => ?_
    refine env_put (d := 14) (v := .pointer (some ⟨g, (k * 9), none⟩)) E rfl (by decide) rfl (wanted_none rfl _) (run_index44 rfl (E.get 1 rfl) (E.get 0 rfl) hlt) fun a E => ?_
    refine env_put (d := 15) (v := .agg (itC x).toArray) E rfl (by decide) rfl (wanted_none rfl _) (run_ld49 rfl (E.get 0 rfl) (hR.range hx)) fun a E => ?_
    refine env_call (d := 16) (v := .bool (decide (x.xh < a0.xl))) E rfl (by decide) rfl (wanted_none rfl _) (run_callv (enters_of Try.func24 (by kernel_rfl) rfl) rfl ((E.get 4 rfl).trans hF) (E.get 0 rfl)) (del_calls x a0 ga _ hA) fun a w1 f1 E => ?_
    have hf := hf.trans f1
    clear f1
    refine wpList_nil ?_
    refine then_n ?_
    cases hq2 : (decide (x.xh < a0.xl)) with
    | false =>
      rw [hq2] at E
      refine wp_cond_false (E.get 0 rfl) ?_
      refine wp_skip ?_
      refine blk_n ?_
      refine then_n ?_
      refine wp_region_lit ?_
      refine env_put (d := 18) (v := .int .i64 (k + 1 : Int)) E rfl (by decide) rfl (wanted_none rfl _) (run_iadd (E.get 9 rfl) rfl (by omega) (by omega) rfl) fun a E => ?_
      refine env_set (d := 8) (v := .int .i64 (k + 1 : Int)) E rfl (by decide) (wanted_none rfl _) (run_move rfl (E.get 0 rfl)) fun a E => ?_
      refine wpList_nil ?_
      refine then_n ?_
      refine ⟨⟨k + 1, by omega, E.of ⟨E.get 0 (by simp), E.get 11 rfl, E.get 12 rfl, E.get 13 rfl, E.get 14 rfl, E.get 15 rfl, trivial⟩, ?_, hf⟩, ?_⟩
      · intro t y ht hy; by_cases e : t = k
        · subst e; rw [hx] at hy; cases hy; exact of_decide_eq_false hq2
        · exact hno.out t y (by omega) hy
      · simp only [E.get 0 rfl, intOf]; omega
    | true =>
      rw [hq2] at E
      refine wp_cond_true (E.get 0 rfl) ?_
      refine wp_seq ?_
      refine wp_region_lit ?_
      refine env_put (d := 17) (v := .int .i64 (k : Int)) E rfl (by decide) rfl (wanted_none rfl _) (run_move rfl (E.get 6 rfl)) fun a E => ?_
      refine env_set (d := 4) (v := .int .i64 (k : Int)) E rfl (by decide) (wanted_none rfl _) (run_assign rfl (E.get 0 rfl)) fun a E => ?_
      refine wpList_nil ?_
      refine then_n ?_
      refine wp_ret ?_
      refine blk_r ?_
      refine then_r ?_
      refine then_r ?_
      refine blk_r ?_
      refine then_r ?_
      refine ret_tmp (t := 4) (v := .int .i64 (k : Int)) rfl E (E.get 0 rfl) ⟨?_, hf⟩
      exact ret_int (by rw [idx_some hx (of_decide_eq_true hq2) hno.out])
end Go.Proofs.Ytiainjcimmeedaa
