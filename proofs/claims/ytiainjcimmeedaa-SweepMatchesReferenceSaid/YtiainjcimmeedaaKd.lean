/- planisphereref05.Kind. -/
import Derived.Test.YtiainjcimmeedaaLw
set_option linter.unusedVariables false
set_option linter.unusedSimpArgs false
namespace Go.Proofs.Ytiainjcimmeedaa
open Go.RowKit Go.Pl Go.Geo

def hasK (m : Mt) (x y : Int) : Bool := ((m.a.val : Int) == min x y) && ((m.b.val : Int) == max x y)
def kindL (L : List Mt) (x y : Int) : Int := ((L.find? fun m => hasK m x y).map (·.k)).getD 0
theorem kindL_hit {L : List Mt} {x y : Int} {i : Nat} {m : Mt} (hm : L[i]? = some m) (h : (L.take i).find? (fun m => hasK m x y) = none) (hk : hasK m x y = true) : kindL L x y = m.k := by
  unfold kindL
  have e : L = L.take i ++ (m :: L.drop (i + 1)) := by
    obtain ⟨hi, hg⟩ := List.getElem?_eq_some_iff.1 hm
    rw [← hg, ← List.drop_eq_getElem_cons hi, List.take_append_drop]
  rw [e, List.find?_append, h]; simp [hk]
theorem kindL_miss {L : List Mt} {x y : Int} {i : Nat} {m : Mt} (hm : L[i]? = some m) (h : (L.take i).find? (fun m => hasK m x y) = none) (hk : hasK m x y = false) : Hid ((L.take (i + 1)).find? (fun m => hasK m x y) = none) := by
  rw [Hid, List.take_add_one, hm, List.find?_append, h]; simp [hk]
set_option maxRecDepth 100000 in
set_option maxHeartbeats 4000000 in
theorem kind_calls (v : Value) (L : List Mt) (x y : Int) (w : World) (h : mtR w v L) (hb : L.length < 4611686018427387904) : Calls Try.prog 14 #[v, .int .i64 x, .int .i64 y] w fun e w' => e = .returned (.int .i64 (kindL L x y)) ∧ Fr (fun _ => False) w w' := by
  obtain ⟨p, cap, rfl⟩ := h.1
  refine wp_start3 Try.func14 rfl rfl (n := 39) (by decide) fun a E => ?_
  have hf : Fr (fun _ => False) w w := Fr.refl _ _
  refine wp_seq ?_
  refine wp_region_lit ?_
  refine env_put (d := 6) (v := .int .i64 0) E rfl (by decide) rfl (wanted_none rfl _) (run_assign rfl rfl) fun a E => ?_
  refine wpList_nil ?_
  refine then_n ?_
  refine wp_seq ?_
  refine wp_seq ?_
  refine wp_region_lit ?_
  refine env_put (d := 7) (v := .int .i64 0) E rfl (by decide) rfl (wanted_none rfl _) (run_assign rfl rfl) fun a E => ?_
  refine wpList_nil ?_
  refine then_n ?_
  refine wp_block ?_
  refine wp_loop (fun a w2 => ∃ (i : Nat), Env 39 [(7, .int .i64 (i : Int)), (0, .slice (p) L.length cap), (1, .int .i64 x), (2, .int .i64 y)] a ∧ i ≤ L.length ∧ Hid ((L.take i).find? (fun m => hasK m x y) = none) ∧ Fr (fun _ => False) w w2) (fun a _ => L.length - (intOf (a.eval (.tmp 7))).toNat) ?_ ?_
  · exact ⟨0, E.of ⟨E.get 0 (by simp), E.get 2 rfl, E.get 3 rfl, E.get 4 rfl, trivial⟩, Nat.zero_le _, rfl, hf⟩
  clear E
  rintro a w2 ⟨i, E, hi, hpre, hf⟩
  have hmu : L.length - (intOf (a.eval (.tmp 7))).toNat = L.length - i := by rw [E.get 0 rfl]; simp [intOf]
  rw [hmu]
  clear hmu
  refine wp_seq ?_
  refine wp_seq ?_
  refine wp_region_lit ?_
  refine env_put (d := 8) (v := .int .i64 (i : Int)) E rfl (by decide) rfl (wanted_none rfl _) (run_move rfl (E.get 0 rfl)) fun a E => ?_
  refine env_put (d := 9) (v := .slice (p) L.length cap) E rfl (by decide) rfl (wanted_none rfl _) (run_move rfl (E.get 2 rfl)) fun a E => ?_
  refine env_put (d := 10) (v := .int .i64 (L.length : Int)) E rfl (by decide) rfl (wanted_none rfl _) (run_len24 rfl (E.get 0 rfl)) fun a E => ?_
  refine env_put (d := 11) (v := .bool (decide ((i : Int) < (L.length : Int)))) E rfl (by decide) rfl (wanted_none rfl _) (run_ilss (E.get 2 rfl) (E.get 0 rfl) Try.underlying3 rfl) fun a E => ?_
  refine wpList_nil ?_
  refine then_n ?_
  cases hq2 : (decide ((i : Int) < (L.length : Int))) with
  | false =>
    rw [hq2] at E
    refine wp_cond_false (E.get 0 rfl) ?_
    refine wp_exit ?_
    refine then_e ?_
    refine then_e ?_
    refine blk_e ?_
    refine then_n ?_
    refine wp_seq ?_
    refine wp_region_lit ?_
    refine env_put (d := 6) (v := .int .i64 0) E rfl (by decide) rfl (wanted_none rfl _) (run_assign rfl rfl) fun a E => ?_
    refine wpList_nil ?_
    refine then_n ?_
    refine wp_ret ?_
    have hge : L.length ≤ i := by have := of_decide_eq_false hq2; omega
    rw [Hid, List.take_of_length_le hge] at hpre
    refine ret_tmp (t := 6) rfl E (E.get 0 rfl) ⟨?_, hf⟩
    unfold kindL; rw [hpre]; rfl
  | true =>
    rw [hq2] at E
    have hlt : i < L.length := by have := of_decide_eq_true hq2; omega
    obtain ⟨m, hm⟩ : ∃ m, L[i]? = some m := ⟨_, List.getElem?_eq_getElem hlt⟩
    obtain ⟨g, cap2, hpe, hgl, hrow⟩ := h.2.resolve_left (by rintro rfl; exact absurd hlt (Nat.not_lt_zero _))
    replace hrow := fun j u hu => hf.cell (hrow i m hm j u hu) id
    refine wp_cond_true (E.get 0 rfl) ?_
    refine wp_skip ?_
    refine then_n ?_
    refine wp_seq ?_
    refine wp_block ?_
    refine wp_seq ?_
    refine wp_region_lit ?_
    refine env_put (d := 14) (v := .slice (p) L.length cap) E rfl (by decide) rfl (wanted_none rfl _) (run_move rfl (E.get 5 rfl)) fun a E => ?_
    refine env_put (d := 15) (v := .int .i64 (i : Int)) E rfl (by decide) rfl (wanted_none rfl _) (run_move rfl (E.get 5 rfl)) fun a E => ?_
    refine env_put (d := 16) (v := .pointer (some ⟨g, (i * 3), none⟩)) E rfl (by decide) rfl (wanted_none rfl _) (run_index24 rfl ((E.get 1 rfl).trans (by rw [hpe])) (E.get 0 rfl) hlt) fun a E => ?_
    refine env_put (d := 17) (v := .pointer (some ⟨g, ((i * 3) + 0), none⟩)) E rfl (by decide) rfl (wanted_none rfl _) (fa36_at (by decide) rfl (E.get 0 rfl)) fun a E => ?_
    refine env_put (d := 18) (v := .int .i64 (m.a.val : Int)) E rfl (by decide) rfl (wanted_none rfl _) (ld3_at rfl (E.get 0 rfl) hrow rfl) fun a E => ?_
    refine env_put (d := 19) (v := .int .i64 x) E rfl (by decide) rfl (wanted_none rfl _) (run_move rfl (E.get 11 rfl)) fun a E => ?_
    refine env_put (d := 20) (v := .int .i64 y) E rfl (by decide) rfl (wanted_none rfl _) (run_move rfl (E.get 13 rfl)) fun a E => ?_
    refine env_put (d := 21) (v := .int .i64 (min x y)) E rfl (by decide) rfl (wanted_none rfl _) (run_min rfl (E.get 1 rfl) (E.get 0 rfl)) fun a E => ?_
    refine env_put (d := 22) (v := .bool ((m.a.val : Int) == (min x y))) E rfl (by decide) rfl (wanted_none rfl _) (run_ieql (E.get 3 rfl) (E.get 0 rfl) Try.underlying3 rfl) fun a E => ?_
    refine env_put (d := 23) (v := .bool ((m.a.val : Int) == (min x y))) E rfl (by decide) rfl (wanted_none rfl _) (run_move rfl (E.get 0 rfl)) fun a E => ?_
    cases hq3 : ((m.a.val : Int) == (min x y)) with
    | false =>
      rw [hq3] at E
      refine env_skip (d := 24) (g := 9) (s := 23) E rfl (by decide) rfl rfl rfl (by decide) (E.get 0 rfl) fun a E => ?_
      refine env_skip (d := 25) (g := 9) (s := 23) E rfl (by decide) rfl rfl rfl (by decide) (E.get 1 rfl) fun a E => ?_
      refine env_skip (d := 26) (g := 9) (s := 23) E rfl (by decide) rfl rfl rfl (by decide) (E.get 2 rfl) fun a E => ?_
      refine env_skip (d := 27) (g := 9) (s := 23) E rfl (by decide) rfl rfl rfl (by decide) (E.get 3 rfl) fun a E => ?_
      refine env_skip (d := 28) (g := 9) (s := 23) E rfl (by decide) rfl rfl rfl (by decide) (E.get 4 rfl) fun a E => ?_
      refine env_skip (d := 29) (g := 9) (s := 23) E rfl (by decide) rfl rfl rfl (by decide) (E.get 5 rfl) fun a E => ?_
      refine env_skip (d := 30) (g := 9) (s := 23) E rfl (by decide) rfl rfl rfl (by decide) (E.get 6 rfl) fun a E => ?_
      refine env_skip (d := 31) (g := 9) (s := 23) E rfl (by decide) rfl rfl rfl (by decide) (E.get 7 rfl) fun a E => ?_
      refine env_skip (d := 32) (g := 9) (s := 23) E rfl (by decide) rfl rfl rfl (by decide) (E.get 8 rfl) fun a E => ?_
      refine env_put (d := 33) (v := .bool false) E rfl (by decide) rfl (wanted_none rfl _) (run_pick_f rfl (E.get 9 rfl) rfl) fun a E => ?_
      refine wpList_nil ?_
      refine then_n ?_
      refine wp_cond_false (E.get 0 rfl) ?_
      refine wp_skip ?_
      refine blk_n ?_
      refine then_n ?_
      refine wp_region_lit ?_
      refine env_put (d := 12) (v := .int .i64 (i : Int)) E rfl (by decide) rfl (wanted_none rfl _) (run_move rfl (E.get 24 rfl)) fun a E => ?_
      refine env_put (d := 13) (v := .int .i64 ((i : Int) + 1)) E rfl (by decide) rfl (wanted_none rfl _) (run_iadd (E.get 0 rfl) rfl (by omega) (by omega) rfl) fun a E => ?_
      refine env_set (d := 7) (v := .int .i64 ((i : Int) + 1)) E rfl (by decide) (wanted_none rfl _) (run_assign rfl (E.get 0 rfl)) fun a E => ?_
      refine wpList_nil ?_
      refine then_n ?_
      refine ⟨⟨i + 1, E.of ⟨E.get 0 rfl, E.get 27 rfl, E.get 28 rfl, E.get 29 rfl, trivial⟩, hlt, ?_, hf⟩, ?_⟩
      · exact kindL_miss hm hpre.out (by unfold hasK; simp [hq3])
      · rw [E.get 0 rfl]; simp only [intOf]; omega
    | true =>
      rw [hq3] at E
      refine env_put (d := 24) (v := .slice (p) L.length cap) E rfl (by decide) rfl (w_yes (g := 9) (s := 23) E rfl rfl (by decide) (E.get 0 rfl)) (run_move rfl (E.get 15 rfl)) fun a E => ?_
      refine env_put (d := 25) (v := .int .i64 (i : Int)) E rfl (by decide) rfl (w_yes (g := 9) (s := 23) E rfl rfl (by decide) (E.get 1 rfl)) (run_move rfl (E.get 15 rfl)) fun a E => ?_
      refine env_put (d := 26) (v := .pointer (some ⟨g, (i * 3), none⟩)) E rfl (by decide) rfl (w_yes (g := 9) (s := 23) E rfl rfl (by decide) (E.get 2 rfl)) (run_index24 rfl ((E.get 1 rfl).trans (by rw [hpe])) (E.get 0 rfl) hlt) fun a E => ?_
      refine env_put (d := 27) (v := .pointer (some ⟨g, ((i * 3) + 1), none⟩)) E rfl (by decide) rfl (w_yes (g := 9) (s := 23) E rfl rfl (by decide) (E.get 3 rfl)) (fa36_at (by decide) rfl (E.get 0 rfl)) fun a E => ?_
      refine env_put (d := 28) (v := .int .i64 (m.b.val : Int)) E rfl (by decide) rfl (w_yes (g := 9) (s := 23) E rfl rfl (by decide) (E.get 4 rfl)) (ld3_at rfl (E.get 0 rfl) hrow rfl) fun a E => ?_
      refine env_put (d := 29) (v := .int .i64 x) E rfl (by decide) rfl (w_yes (g := 9) (s := 23) E rfl rfl (by decide) (E.get 5 rfl)) (run_move rfl (E.get 21 rfl)) fun a E => ?_
      refine env_put (d := 30) (v := .int .i64 y) E rfl (by decide) rfl (w_yes (g := 9) (s := 23) E rfl rfl (by decide) (E.get 6 rfl)) (run_move rfl (E.get 23 rfl)) fun a E => ?_
      refine env_put (d := 31) (v := .int .i64 (max x y)) E rfl (by decide) rfl (w_yes (g := 9) (s := 23) E rfl rfl (by decide) (E.get 7 rfl)) (run_max rfl (E.get 1 rfl) (E.get 0 rfl)) fun a E => ?_
      refine env_put (d := 32) (v := .bool ((m.b.val : Int) == (max x y))) E rfl (by decide) rfl (w_yes (g := 9) (s := 23) E rfl rfl (by decide) (E.get 8 rfl)) (run_ieql (E.get 3 rfl) (E.get 0 rfl) Try.underlying3 rfl) fun a E => ?_
      refine env_put (d := 33) (v := .bool ((m.b.val : Int) == (max x y))) E rfl (by decide) rfl (wanted_none rfl _) (run_pick_t rfl (E.get 9 rfl) (E.get 0 rfl)) fun a E => ?_
      refine wpList_nil ?_
      refine then_n ?_
      cases hq4 : ((m.b.val : Int) == (max x y)) with
      | false =>
        rw [hq4] at E
        refine wp_cond_false (E.get 0 rfl) ?_
        refine wp_skip ?_
        refine blk_n ?_
        refine then_n ?_
        refine wp_region_lit ?_
        refine env_put (d := 12) (v := .int .i64 (i : Int)) E rfl (by decide) rfl (wanted_none rfl _) (run_move rfl (E.get 24 rfl)) fun a E => ?_
        refine env_put (d := 13) (v := .int .i64 ((i : Int) + 1)) E rfl (by decide) rfl (wanted_none rfl _) (run_iadd (E.get 0 rfl) rfl (by omega) (by omega) rfl) fun a E => ?_
        refine env_set (d := 7) (v := .int .i64 ((i : Int) + 1)) E rfl (by decide) (wanted_none rfl _) (run_assign rfl (E.get 0 rfl)) fun a E => ?_
        refine wpList_nil ?_
        refine then_n ?_
        refine ⟨⟨i + 1, E.of ⟨E.get 0 rfl, E.get 27 rfl, E.get 28 rfl, E.get 29 rfl, trivial⟩, hlt, ?_, hf⟩, ?_⟩
        · exact kindL_miss hm hpre.out (by unfold hasK; simp [hq4])
        · rw [E.get 0 rfl]; simp only [intOf]; omega
      | true =>
        rw [hq4] at E
        refine wp_cond_true (E.get 0 rfl) ?_
        refine wp_seq ?_
        refine wp_region_lit ?_
        refine env_put (d := 34) (v := .slice (p) L.length cap) E rfl (by decide) rfl (wanted_none rfl _) (run_move rfl (E.get 25 rfl)) fun a E => ?_
        refine env_put (d := 35) (v := .int .i64 (i : Int)) E rfl (by decide) rfl (wanted_none rfl _) (run_move rfl (E.get 25 rfl)) fun a E => ?_
        refine env_put (d := 36) (v := .pointer (some ⟨g, (i * 3), none⟩)) E rfl (by decide) rfl (wanted_none rfl _) (run_index24 rfl ((E.get 1 rfl).trans (by rw [hpe])) (E.get 0 rfl) hlt) fun a E => ?_
        refine env_put (d := 37) (v := .pointer (some ⟨g, ((i * 3) + 2), none⟩)) E rfl (by decide) rfl (wanted_none rfl _) (fa36_at (by decide) rfl (E.get 0 rfl)) fun a E => ?_
        refine env_put (d := 38) (v := .int .i64 m.k) E rfl (by decide) rfl (wanted_none rfl _) (ld3_at rfl (E.get 0 rfl) hrow rfl) fun a E => ?_
        refine env_put (d := 6) (v := .int .i64 m.k) E rfl (by decide) rfl (wanted_none rfl _) (run_assign rfl (E.get 0 rfl)) fun a E => ?_
        refine wpList_nil ?_
        refine then_n ?_
        refine wp_ret ?_
        refine blk_r ?_
        refine then_r ?_
        refine then_r ?_
        refine blk_r ?_
        refine then_r ?_
        refine ret_tmp (t := 6) rfl E (E.get 0 rfl) ⟨?_, hf⟩
        rw [kindL_hit hm hpre.out (by unfold hasK; rw [hq3, hq4]; rfl)]
end Go.Proofs.Ytiainjcimmeedaa
