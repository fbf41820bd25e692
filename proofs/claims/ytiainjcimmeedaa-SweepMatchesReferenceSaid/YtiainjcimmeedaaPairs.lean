/- SweepPairs: the walk. -/
import Derived.Test.YtiainjcimmeedaaKd
set_option linter.unusedVariables false
set_option linter.unusedSimpArgs false
namespace Go.Proofs.Ytiainjcimmeedaa
open Go.RowKit Go.Pl Go.Geo

theorem preS_succ_not {n : Nat} {K : Fin n → Fin n → Int} {i j : Nat} (hi : i < n) (hj : j < n) (hk : K ⟨i, hi⟩ ⟨j, hj⟩ = 0) : Swp.preS K i (j + 1) = Swp.preS K i j := by
  rw [Swp.preS_succ, Swp.hitS_not hi hj hk, List.append_nil]
set_option maxRecDepth 100000 in
set_option maxHeartbeats 4000000 in
theorem pairs_calls (l : List Sg) (p : Option Addr) (cap : Nat) (w : World) (hp : SegAt w p l) : Calls Try.prog 4 #[.slice p l.length cap] w fun e w' => e = .returned (.bool true) ∧ Fr (fun _ => False) w w' := by
  refine wp_start1 Try.func4 rfl rfl (n := 71) (by decide) fun a E => ?_
  have hf : Fr (fun _ => False) w w := Fr.refl _ _
  refine wp_seq ?_
  refine wp_region_lit ?_
  refine env_put (d := 2) (v := .bool false) E rfl (by decide) rfl (wanted_none rfl _) (run_assign rfl rfl) fun a E => ?_
  refine wpList_nil ?_
  refine then_n ?_
  refine wp_seq ?_
  refine wp_region_lit ?_
  refine env_call (d := 10) (v := .bool true) E rfl (by decide) rfl (wanted_none rfl _) (run_call0 (enters_of Try.func9 (by kernel_rfl) rfl) rfl rfl) (head_calls _) fun a w1 f1 E => ?_
  have hp := hp.fr f1
  have hf := hf.trans f1
  clear f1
  refine env_put (d := 3) (v := .bool true) E rfl (by decide) rfl (wanted_none rfl _) (run_assign rfl (E.get 0 rfl)) fun a E => ?_
  refine wpList_nil ?_
  refine then_n ?_
  refine wp_seq ?_
  refine wp_seq ?_
  refine wp_region_lit ?_
  refine env_put (d := 11) (v := .slice (p) l.length cap) E rfl (by decide) rfl (wanted_none rfl _) (run_move rfl (E.get 3 rfl)) fun a E => ?_
  refine env_put (d := 12) (v := .int .i64 (l.length : Int)) E rfl (by decide) rfl (wanted_none rfl _) (run_len22 rfl (E.get 0 rfl)) fun a E => ?_
  refine env_put (d := 13) (v := .bool (decide (40 < (l.length : Int)))) E rfl (by decide) rfl (wanted_none rfl _) (run_igtr (E.get 0 rfl) rfl Try.underlying3 rfl) fun a E => ?_
  refine wpList_nil ?_
  refine then_n ?_
  cases hq1 : (decide (40 < (l.length : Int))) with
  | false =>
    rw [hq1] at E
    have hn40 : l.length ≤ 40 := by have := of_decide_eq_false hq1; omega
    have hn : l.length ≤ 20000 := by omega
    refine wp_cond_false (E.get 0 rfl) ?_
    refine wp_skip ?_
    refine then_n ?_
    refine wp_seq ?_
    refine wp_region_lit ?_
    refine env_put (d := 16) (v := .slice (p) l.length cap) E rfl (by decide) rfl (wanted_none rfl _) (run_move rfl (E.get 6 rfl)) fun a E => ?_
    refine env_all (d := 17) (l := l) E rfl (by decide) rfl (wanted_none rfl _) rfl (E.get 0 rfl) hn hp fun a w1 r1 hr1 f1 E => ?_
    replace hr1 := hr1.mtR
    obtain ⟨p1, c1, hve⟩ := hr1.1
    subst hve
    have hp := hp.fr f1
    have hf := hf.trans f1
    clear f1
    refine env_put (d := 15) (v := .tuple #[.slice (p1) (outL l).length c1, .int .i64 0]) E rfl (by decide) rfl (wanted_none rfl _) (run_move rfl (E.get 0 rfl)) fun a E => ?_
    refine env_put (d := 18) (v := .slice (p1) (outL l).length c1) E rfl (by decide) rfl (wanted_none rfl _) (run_ext0 rfl (E.get 0 rfl)) fun a E => ?_
    refine env_put (d := 19) (v := .int .i64 0) E rfl (by decide) rfl (wanted_none rfl _) (run_ext1 rfl (E.get 1 rfl)) fun a E => ?_
    refine env_put (d := 4) (v := .slice (p1) (outL l).length c1) E rfl (by decide) rfl (wanted_none rfl _) (run_assign rfl (E.get 1 rfl)) fun a E => ?_
    refine env_put (d := 5) (v := .int .i64 0) E rfl (by decide) rfl (wanted_none rfl _) (run_assign rfl (E.get 1 rfl)) fun a E => ?_
    refine wpList_nil ?_
    refine then_n ?_
    refine wp_seq ?_
    refine wp_seq ?_
    refine wp_region_lit ?_
    refine env_put (d := 20) (v := .int .i64 0) E rfl (by decide) rfl (wanted_none rfl _) (run_move rfl (E.get 0 rfl)) fun a E => ?_
    refine env_put (d := 21) (v := .bool false) E rfl (by decide) rfl (wanted_none rfl _) (run_ineq (m := 0) (n := 0) (E.get 0 rfl) rfl Try.underlying25 rfl) fun a E => ?_
    refine wpList_nil ?_
    refine then_n ?_
    refine wp_cond_false (E.get 0 rfl) ?_
    refine wp_skip ?_
    refine then_n ?_
    refine wp_seq ?_
    refine wp_region_lit ?_
    refine env_put (d := 6) (v := .int .i64 0) E rfl (by decide) rfl (wanted_none rfl _) (run_assign rfl rfl) fun a E => ?_
    refine wpList_nil ?_
    refine then_n ?_
    refine wp_seq ?_
    refine wp_seq ?_
    refine wp_region_lit ?_
    refine env_put (d := 7) (v := .int .i64 0) E rfl (by decide) rfl (wanted_none rfl _) (run_assign rfl rfl) fun a E => ?_
    refine wpList_nil ?_
    refine then_n ?_
    refine wp_block ?_
    refine wp_loop (fun a w2 => ∃ (i : Nat) (k : Nat), Env 71 [(7, .int .i64 (i : Int)), (6, .int .i64 (k : Int)), (4, .slice (p1) (outL l).length c1), (3, .bool true), (0, .slice (p) l.length cap)] a ∧ i ≤ l.length ∧ Hid (k = (Swp.preS (kAt l) i 0).length) ∧ SegAt w2 p l ∧ mtR w2 (.slice p1 (outL l).length c1) (outL l) ∧ Fr (fun _ => False) w w2) (fun a _ => l.length - (intOf (a.eval (.tmp 7))).toNat) ?_ ?_
    · exact ⟨0, 0, E.of ⟨E.get 0 rfl, E.get 1 rfl, E.get 5 rfl, E.get 14 rfl, E.get 17 rfl, trivial⟩, Nat.zero_le _, rfl, hp, hr1, hf⟩
    clear E
    rintro a w2 ⟨i, k, E, hi, hk, hp, hr1, hf⟩
    have hmu : l.length - (intOf (a.eval (.tmp 7))).toNat = l.length - i := by rw [E.get 0 rfl]; simp [intOf]
    rw [hmu]
    clear hmu
    refine wp_seq ?_
    refine wp_seq ?_
    refine wp_region_lit ?_
    refine env_put (d := 22) (v := .int .i64 (i : Int)) E rfl (by decide) rfl (wanted_none rfl _) (run_move rfl (E.get 0 rfl)) fun a E => ?_
    refine env_put (d := 23) (v := .slice (p) l.length cap) E rfl (by decide) rfl (wanted_none rfl _) (run_move rfl (E.get 5 rfl)) fun a E => ?_
    refine env_put (d := 24) (v := .int .i64 (l.length : Int)) E rfl (by decide) rfl (wanted_none rfl _) (run_len22 rfl (E.get 0 rfl)) fun a E => ?_
    refine env_put (d := 25) (v := .bool (decide ((i : Int) < (l.length : Int)))) E rfl (by decide) rfl (wanted_none rfl _) (run_ilss (E.get 2 rfl) (E.get 0 rfl) Try.underlying3 rfl) fun a E => ?_
    refine wpList_nil ?_
    refine then_n ?_
    cases hq3 : (decide ((i : Int) < (l.length : Int))) with
    | false =>
      rw [hq3] at E
      have hie : i = l.length := by have := of_decide_eq_false hq3; omega
      have hkl : ((k : Int) == ((outL l).length : Int)) = true := by
        have e : (outL l).length = (Swp.preS (kAt l) l.length 0).length := by unfold outL; rw [List.length_map, Swp.spec_pre]
        rw [e, hk.out, hie]; simp
      refine wp_cond_false (E.get 0 rfl) ?_
      refine wp_exit ?_
      refine then_e ?_
      refine then_e ?_
      refine blk_e ?_
      refine then_n ?_
      refine wp_seq ?_
      refine wp_region_lit ?_
      refine env_put (d := 64) (v := .bool true) E rfl (by decide) rfl (wanted_none rfl _) (run_move rfl (E.get 7 rfl)) fun a E => ?_
      refine env_put (d := 65) (v := .bool true) E rfl (by decide) rfl (wanted_none rfl _) (run_move rfl (E.get 0 rfl)) fun a E => ?_
      refine env_put (d := 66) (v := .int .i64 (k : Int)) E rfl (by decide) rfl (w_yes (g := 1) (s := 65) E rfl rfl (by decide) (E.get 0 rfl)) (run_move rfl (E.get 7 rfl)) fun a E => ?_
      refine env_put (d := 67) (v := .slice (p1) (outL l).length c1) E rfl (by decide) rfl (w_yes (g := 1) (s := 65) E rfl rfl (by decide) (E.get 1 rfl)) (run_move rfl (E.get 9 rfl)) fun a E => ?_
      refine env_put (d := 68) (v := .int .i64 ((outL l).length : Int)) E rfl (by decide) rfl (w_yes (g := 1) (s := 65) E rfl rfl (by decide) (E.get 2 rfl)) (run_len24 rfl (E.get 0 rfl)) fun a E => ?_
      refine env_put (d := 69) (v := .bool true) E rfl (by decide) rfl (w_yes (g := 1) (s := 65) E rfl rfl (by decide) (E.get 3 rfl)) ((run_ieql (E.get 2 rfl) (E.get 0 rfl) Try.underlying3 rfl).trans (by rw [hkl] <;> rfl)) fun a E => ?_
      refine env_put (d := 70) (v := .bool true) E rfl (by decide) rfl (wanted_none rfl _) (run_pick_t rfl (E.get 4 rfl) (E.get 0 rfl)) fun a E => ?_
      refine env_put (d := 2) (v := .bool true) E rfl (by decide) rfl (wanted_none rfl _) (run_assign rfl (E.get 0 rfl)) fun a E => ?_
      refine wpList_nil ?_
      refine then_n ?_
      refine wp_ret ?_
      exact ret_tmp (t := 2) rfl E (E.get 0 rfl) ⟨rfl, hf⟩
    | true =>
      rw [hq3] at E
      have hit : i < l.length := by have := of_decide_eq_true hq3; omega
      refine wp_cond_true (E.get 0 rfl) ?_
      refine wp_skip ?_
      refine then_n ?_
      refine wp_seq ?_
      refine wp_block ?_
      refine wp_seq ?_
      refine wp_region_lit ?_
      refine env_put (d := 28) (v := .int .i64 (i : Int)) E rfl (by decide) rfl (wanted_none rfl _) (run_move rfl (E.get 4 rfl)) fun a E => ?_
      refine env_put (d := 29) (v := .int .i64 ((i : Int) + 1)) E rfl (by decide) rfl (wanted_none rfl _) (run_iadd (E.get 0 rfl) rfl (by omega) (by omega) rfl) fun a E => ?_
      refine env_put (d := 8) (v := .int .i64 ((i : Int) + 1)) E rfl (by decide) rfl (wanted_none rfl _) (run_assign rfl (E.get 0 rfl)) fun a E => ?_
      refine wpList_nil ?_
      refine then_n ?_
      refine wp_block ?_
      refine wp_loop (fun a w2 => ∃ (j : Nat) (k : Nat), Env 71 [(8, .int .i64 (j : Int)), (7, .int .i64 (i : Int)), (6, .int .i64 (k : Int)), (4, .slice (p1) (outL l).length c1), (3, .bool true), (0, .slice (p) l.length cap)] a ∧ i < j ∧ j ≤ l.length ∧ Hid (k = (Swp.preS (kAt l) i j).length) ∧ SegAt w2 p l ∧ mtR w2 (.slice p1 (outL l).length c1) (outL l) ∧ Fr (fun _ => False) w w2) (fun a _ => l.length - (intOf (a.eval (.tmp 8))).toNat) ?_ ?_
      · exact ⟨i + 1, k, E.of ⟨E.get 0 rfl, E.get 7 rfl, E.get 8 rfl, E.get 9 rfl, E.get 10 rfl, E.get 11 rfl, trivial⟩, Nat.lt_succ_self _, hit, by rw [Hid, Swp.preS_start]; exact hk, hp, hr1, hf⟩
      clear E
      rintro a w2 ⟨j, k, E, hji, hj, hk, hp, hr1, hf⟩
      have hmu : l.length - (intOf (a.eval (.tmp 8))).toNat = l.length - j := by rw [E.get 0 rfl]; simp [intOf]
      rw [hmu]
      clear hmu
      refine wp_seq ?_
      refine wp_seq ?_
      refine wp_region_lit ?_
      refine env_put (d := 30) (v := .int .i64 (j : Int)) E rfl (by decide) rfl (wanted_none rfl _) (run_move rfl (E.get 0 rfl)) fun a E => ?_
      refine env_put (d := 31) (v := .slice (p) l.length cap) E rfl (by decide) rfl (wanted_none rfl _) (run_move rfl (E.get 6 rfl)) fun a E => ?_
      refine env_put (d := 32) (v := .int .i64 (l.length : Int)) E rfl (by decide) rfl (wanted_none rfl _) (run_len22 rfl (E.get 0 rfl)) fun a E => ?_
      refine env_put (d := 33) (v := .bool (decide ((j : Int) < (l.length : Int)))) E rfl (by decide) rfl (wanted_none rfl _) (run_ilss (E.get 2 rfl) (E.get 0 rfl) Try.underlying3 rfl) fun a E => ?_
      refine wpList_nil ?_
      refine then_n ?_
      cases hq5 : (decide ((j : Int) < (l.length : Int))) with
      | false =>
        rw [hq5] at E
        refine wp_cond_false (E.get 0 rfl) ?_
        refine wp_exit ?_
        refine then_e ?_
        refine then_e ?_
        refine blk_e ?_
        refine blk_n ?_
        refine then_n ?_
        refine wp_region_lit ?_
        refine env_put (d := 26) (v := .int .i64 (i : Int)) E rfl (by decide) rfl (wanted_none rfl _) (run_move rfl (E.get 5 rfl)) fun a E => ?_
        refine env_put (d := 27) (v := .int .i64 ((i : Int) + 1)) E rfl (by decide) rfl (wanted_none rfl _) (run_iadd (E.get 0 rfl) rfl (by omega) (by omega) rfl) fun a E => ?_
        refine env_set (d := 7) (v := .int .i64 ((i : Int) + 1)) E rfl (by decide) (wanted_none rfl _) (run_assign rfl (E.get 0 rfl)) fun a E => ?_
        refine wpList_nil ?_
        refine then_n ?_
        refine ⟨⟨i + 1, k, E.of ⟨E.get 0 rfl, E.get 8 rfl, E.get 9 rfl, E.get 10 rfl, E.get 11 rfl, trivial⟩, hit, ?_, hp, hr1, hf⟩, ?_⟩
        · rw [Hid, Swp.preS_next]
          have e : j = l.length := by have := of_decide_eq_false hq5; omega
          rw [e] at hk; exact hk
        · rw [E.get 0 rfl]; simp only [intOf]; omega
      | true =>
        rw [hq5] at E
        have hjt : j < l.length := by have := of_decide_eq_true hq5; omega
        obtain ⟨s, hs⟩ : ∃ s, l[i]? = some s := ⟨_, List.getElem?_eq_getElem hit⟩
        obtain ⟨t, ht⟩ : ∃ t, l[j]? = some t := ⟨_, List.getElem?_eq_getElem hjt⟩
        obtain ⟨g, off, hpe, hgl, hseg⟩ := hp.at hit
        have hK : kAt l ⟨i, hit⟩ ⟨j, hjt⟩ = meetsN s t := kAt_eq hit hjt hs ht
        refine wp_cond_true (E.get 0 rfl) ?_
        refine wp_skip ?_
        refine then_n ?_
        refine wp_seq ?_
        refine wp_block ?_
        refine wp_seq ?_
        refine wp_region_inv (n := 71) (base := [(33, .bool true), (32, .int .i64 (l.length : Int)), (31, .slice (p) l.length cap), (30, .int .i64 (j : Int)), (8, .int .i64 (j : Int)), (7, .int .i64 (i : Int)), (6, .int .i64 (k : Int)), (4, .slice (p1) (outL l).length c1), (3, .bool true), (0, .slice (p) l.length cap)]) (T := [some (36, .slice (p) l.length cap), some (37, .int .i64 (i : Int)), some (38, .pointer (some ⟨g, (off + i * 4), none⟩)), some (39, .agg (sgC s)), some (40, .slice (p) l.length cap), some (41, .int .i64 (j : Int)), some (42, .pointer (some ⟨g, (off + j * 4), none⟩)), some (43, .agg (sgC t)), some (44, .int .i64 (meetsN s t)), some (9, .int .i64 (meetsN s t))]) (M := fun _ w5 => Fr (fun _ => False) w2 w5) (by kernel_rfl) (by kernel_rfl) (by kernel_rfl) (E.of ⟨E.get 0 rfl, E.get 1 rfl, E.get 2 rfl, E.get 3 rfl, E.get 4 rfl, E.get 5 rfl, E.get 6 rfl, E.get 7 rfl, E.get 8 rfl, E.get 9 rfl, trivial⟩) (Fr.refl _ _).drew ?_ ?_
        · intro j9 o9 t9 ls9 a w5 ho hT0 hl E D DL hM
          have hp := hp.fr hM
          have hr1 := hr1.fr hM
          have hseg := hseg.fr hM id
          match j9, ho, hT0, hl, D, DL with
          | 0, ho, hT0, hl, D, DL =>
            obtain rfl := Option.some.inj ho
            obtain rfl := Option.some.inj hT0
            clear ho hT0
            exact val_wp (run_move rfl (E.get 9 rfl)) rfl hM
          | 1, ho, hT0, hl, D, DL =>
            obtain rfl := Option.some.inj ho
            obtain rfl := Option.some.inj hT0
            clear ho hT0
            exact val_wp (run_move rfl (E.get 5 rfl)) rfl hM
          | 2, ho, hT0, hl, D, DL =>
            obtain rfl := Option.some.inj ho
            obtain rfl := Option.some.inj hT0
            clear ho hT0
            exact val_wp (run_index22 rfl ((D 0 _ rfl rfl).trans (by rw [hpe])) (D 1 _ rfl rfl) hit) rfl hM
          | 3, ho, hT0, hl, D, DL =>
            obtain rfl := Option.some.inj ho
            obtain rfl := Option.some.inj hT0
            clear ho hT0
            exact val_wp (run_ld34 rfl (D 2 _ rfl rfl) (hseg i _ hs)) rfl hM
          | 4, ho, hT0, hl, D, DL =>
            obtain rfl := Option.some.inj ho
            obtain rfl := Option.some.inj hT0
            clear ho hT0
            exact val_wp (run_move rfl (E.get 9 rfl)) rfl hM
          | 5, ho, hT0, hl, D, DL =>
            obtain rfl := Option.some.inj ho
            obtain rfl := Option.some.inj hT0
            clear ho hT0
            exact val_wp (run_move rfl (E.get 4 rfl)) rfl hM
          | 6, ho, hT0, hl, D, DL =>
            obtain rfl := Option.some.inj ho
            obtain rfl := Option.some.inj hT0
            clear ho hT0
            exact val_wp (run_index22 rfl ((D 4 _ rfl rfl).trans (by rw [hpe])) (D 5 _ rfl rfl) hjt) rfl hM
          | 7, ho, hT0, hl, D, DL =>
            obtain rfl := Option.some.inj ho
            obtain rfl := Option.some.inj hT0
            clear ho hT0
            exact val_wp (run_ld34 rfl (D 6 _ rfl rfl) (hseg j _ ht)) rfl hM
          | 8, ho, hT0, hl, D, DL =>
            obtain rfl := Option.some.inj ho
            obtain rfl := Option.some.inj hT0
            clear ho hT0
            exact call_wp (run_call2 (enters_of Try.func13 (by kernel_rfl) rfl) rfl rfl (D 3 _ rfl rfl) (D 7 _ rfl rfl)) (meets_calls _ _ _) rfl fun w9 f1 => (hM.trans f1)
          | 9, ho, hT0, hl, D, DL =>
            obtain rfl := Option.some.inj ho
            obtain rfl := Option.some.inj hT0
            clear ho hT0
            exact val_wp (run_assign rfl (D 8 _ rfl rfl)) rfl hM
          | j9 + 10, ho, hT0, hl, D, DL => exact absurd hT0 (by simp)
        · intro a w5 E V hM
          have E := E.add (V 9 _ rfl)
          clear V
          have hp := hp.fr hM
          have hr1 := hr1.fr hM
          have hseg := hseg.fr hM id
          have hf := hf.trans hM
          clear hM
          refine then_n ?_
          refine wp_seq ?_
          refine wp_seq ?_
          refine wp_region_lit ?_
          refine env_put (d := 45) (v := .int .i64 (meetsN s t)) E rfl (by decide) rfl (wanted_none rfl _) (run_move rfl (E.get 0 rfl)) fun a E => ?_
          refine env_put (d := 46) (v := .bool ((meetsN s t) == 0)) E rfl (by decide) rfl (wanted_none rfl _) (run_ieql (E.get 0 rfl) rfl Try.underlying3 rfl) fun a E => ?_
          refine wpList_nil ?_
          refine then_n ?_
          cases hq7 : ((meetsN s t) == 0) with
          | false =>
            rw [hq7] at E
            have hK0 : kAt l ⟨i, hit⟩ ⟨j, hjt⟩ ≠ 0 := by rw [hK]; exact fun e => by rw [e] at hq7; cases hq7
            obtain ⟨m, hm⟩ : ∃ m, m = mtAt l (⟨i, hit⟩, ⟨j, hjt⟩) := ⟨_, rfl⟩
            have hmo : (outL l)[k]? = some m := by unfold outL; rw [List.getElem?_map, hk.out, Swp.spec_at hit hjt hji hK0, hm]; rfl
            have hko : k < (outL l).length := (List.getElem?_eq_some_iff.1 hmo).1
            have hma : (m.a.val : Int) = i := by rw [hm, mtAt_a hn]
            have hmb : (m.b.val : Int) = j := by rw [hm, mtAt_b hn]
            have hmk : m.k = meetsN s t := by rw [hm, ← hK]; rfl
            obtain ⟨g3, c3, hpe3, hgl3, hrow⟩ := hr1.2.resolve_left (fun e => by rw [e] at hko; exact absurd hko (Nat.not_lt_zero _))
            have hkb : k ≤ 3000 := by have h1 := Swp.pre_len_le (K := kAt l) i j; have h2 : i * l.length ≤ 40 * 40 := Nat.mul_le_mul (by omega) hn40; have := hk.out; omega
            have hmm : decide (m = m) = true := decide_eq_true rfl
            have hge : decide (((outL l).length : Int) ≤ (k : Int)) = false := decide_eq_false (by omega)
            refine wp_cond_false (E.get 0 rfl) ?_
            refine wp_skip ?_
            refine then_n ?_
            refine wp_seq ?_
            refine wp_seq ?_
            refine wp_region_lit ?_
            refine env_put (d := 47) (v := .int .i64 (k : Int)) E rfl (by decide) rfl (wanted_none rfl _) (run_move rfl (E.get 9 rfl)) fun a E => ?_
            refine env_put (d := 48) (v := .slice (p1) (outL l).length c1) E rfl (by decide) rfl (wanted_none rfl _) (run_move rfl (E.get 11 rfl)) fun a E => ?_
            refine env_put (d := 49) (v := .int .i64 ((outL l).length : Int)) E rfl (by decide) rfl (wanted_none rfl _) (run_len24 rfl (E.get 0 rfl)) fun a E => ?_
            refine env_put (d := 50) (v := .bool false) E rfl (by decide) rfl (wanted_none rfl _) ((run_igeq (E.get 2 rfl) (E.get 0 rfl) Try.underlying3 rfl).trans (by rw [hge] <;> rfl)) fun a E => ?_
            refine env_put (d := 51) (v := .bool false) E rfl (by decide) rfl (wanted_none rfl _) (run_move rfl (E.get 0 rfl)) fun a E => ?_
            refine env_put (d := 52) (v := .slice (p1) (outL l).length c1) E rfl (by decide) rfl (w_yes (g := 4) (s := 51) E rfl rfl (by decide) (E.get 0 rfl)) (run_move rfl (E.get 15 rfl)) fun a E => ?_
            refine env_put (d := 53) (v := .int .i64 (k : Int)) E rfl (by decide) rfl (w_yes (g := 4) (s := 51) E rfl rfl (by decide) (E.get 1 rfl)) (run_move rfl (E.get 15 rfl)) fun a E => ?_
            refine env_put (d := 54) (v := .pointer (some ⟨g3, (k * 3), none⟩)) E rfl (by decide) rfl (w_yes (g := 4) (s := 51) E rfl rfl (by decide) (E.get 2 rfl)) (run_index24 rfl ((E.get 1 rfl).trans (by rw [hpe3])) (E.get 0 rfl) hko) fun a E => ?_
            refine env_put (d := 55) (v := .agg (mtC m).toArray) E rfl (by decide) rfl (w_yes (g := 4) (s := 51) E rfl rfl (by decide) (E.get 3 rfl)) (run_ld36 rfl (E.get 0 rfl) (hrow k _ hmo)) fun a E => ?_
            refine env_put (d := 56) (v := .int .i64 (i : Int)) E rfl (by decide) rfl (w_yes (g := 4) (s := 51) E rfl rfl (by decide) (E.get 4 rfl)) (run_move rfl (E.get 17 rfl)) fun a E => ?_
            refine env_put (d := 57) (v := .int .i64 (j : Int)) E rfl (by decide) rfl (w_yes (g := 4) (s := 51) E rfl rfl (by decide) (E.get 5 rfl)) (run_move rfl (E.get 17 rfl)) fun a E => ?_
            refine env_put (d := 58) (v := .int .i64 (meetsN s t)) E rfl (by decide) rfl (w_yes (g := 4) (s := 51) E rfl rfl (by decide) (E.get 6 rfl)) (run_move rfl (E.get 13 rfl)) fun a E => ?_
            refine env_put (d := 59) (v := .agg (mtC m).toArray) E rfl (by decide) rfl (w_yes (g := 4) (s := 51) E rfl rfl (by decide) (E.get 7 rfl)) (run_of36 (a := m) rfl ((E.get 2 rfl).trans (by rw [hma])) ((E.get 1 rfl).trans (by rw [hmb])) ((E.get 0 rfl).trans (by rw [hmk]))) fun a E => ?_
            refine env_put (d := 60) (v := .bool false) E rfl (by decide) rfl (w_yes (g := 4) (s := 51) E rfl rfl (by decide) (E.get 8 rfl)) ((run_neq36 rfl (E.get 4 rfl) (E.get 0 rfl)).trans (by rw [hmm] <;> rfl)) fun a E => ?_
            refine env_put (d := 61) (v := .bool false) E rfl (by decide) rfl (wanted_none rfl _) (run_pick_f rfl (E.get 9 rfl) (E.get 0 rfl)) fun a E => ?_
            refine wpList_nil ?_
            refine then_n ?_
            refine wp_cond_false (E.get 0 rfl) ?_
            refine wp_skip ?_
            refine then_n ?_
            refine wp_region_lit ?_
            refine env_put (d := 62) (v := .int .i64 (k : Int)) E rfl (by decide) rfl (wanted_none rfl _) (run_move rfl (E.get 24 rfl)) fun a E => ?_
            refine env_put (d := 63) (v := .int .i64 ((k : Int) + 1)) E rfl (by decide) rfl (wanted_none rfl _) (run_iadd (E.get 0 rfl) rfl (by omega) (by omega) rfl) fun a E => ?_
            refine env_set (d := 6) (v := .int .i64 ((k : Int) + 1)) E rfl (by decide) (wanted_none rfl _) (run_assign rfl (E.get 0 rfl)) fun a E => ?_
            refine wpList_nil ?_
            refine blk_n ?_
            refine then_n ?_
            refine wp_region_lit ?_
            refine env_put (d := 34) (v := .int .i64 (j : Int)) E rfl (by decide) rfl (wanted_none rfl _) (run_move rfl (E.get 25 rfl)) fun a E => ?_
            refine env_put (d := 35) (v := .int .i64 ((j : Int) + 1)) E rfl (by decide) rfl (wanted_none rfl _) (run_iadd (E.get 0 rfl) rfl (by omega) (by omega) rfl) fun a E => ?_
            refine env_set (d := 8) (v := .int .i64 ((j : Int) + 1)) E rfl (by decide) (wanted_none rfl _) (run_assign rfl (E.get 0 rfl)) fun a E => ?_
            refine wpList_nil ?_
            refine then_n ?_
            refine ⟨⟨j + 1, k + 1, E.of ⟨E.get 0 rfl, E.get 28 rfl, E.get 3 rfl, E.get 29 rfl, E.get 30 rfl, E.get 31 rfl, trivial⟩, by omega, hjt, ?_, hp, hr1, hf⟩, ?_⟩
            · rw [Hid, Swp.preS_succ, Swp.hitS_of hit hjt hji hK0, List.length_append, hk.out]; rfl
            · rw [E.get 0 rfl]; simp only [intOf]; omega
          | true =>
            rw [hq7] at E
            refine wp_cond_true (E.get 0 rfl) ?_
            refine wp_exit ?_
            refine then_e ?_
            refine blk_e ?_
            refine then_n ?_
            refine wp_region_lit ?_
            refine env_put (d := 34) (v := .int .i64 (j : Int)) E rfl (by decide) rfl (wanted_none rfl _) (run_move rfl (E.get 7 rfl)) fun a E => ?_
            refine env_put (d := 35) (v := .int .i64 ((j : Int) + 1)) E rfl (by decide) rfl (wanted_none rfl _) (run_iadd (E.get 0 rfl) rfl (by omega) (by omega) rfl) fun a E => ?_
            refine env_set (d := 8) (v := .int .i64 ((j : Int) + 1)) E rfl (by decide) (wanted_none rfl _) (run_assign rfl (E.get 0 rfl)) fun a E => ?_
            refine wpList_nil ?_
            refine then_n ?_
            refine ⟨⟨j + 1, k, E.of ⟨E.get 0 rfl, E.get 10 rfl, E.get 11 rfl, E.get 12 rfl, E.get 13 rfl, E.get 14 rfl, trivial⟩, by omega, hjt, ?_, hp, hr1, hf⟩, ?_⟩
            · rw [Hid, preS_succ_not hit hjt (by rw [hK]; exact eq_of_beq hq7)]; exact hk
            · rw [E.get 0 rfl]; simp only [intOf]; omega
  | true =>
    rw [hq1] at E
    refine wp_cond_true (E.get 0 rfl) ?_
    refine wp_seq ?_
    refine wp_region_lit ?_
    refine env_put (d := 14) (v := .bool true) E rfl (by decide) rfl (wanted_none rfl _) (run_move rfl (E.get 3 rfl)) fun a E => ?_
    refine env_set (d := 2) (v := .bool true) E rfl (by decide) (wanted_none rfl _) (run_assign rfl (E.get 0 rfl)) fun a E => ?_
    refine wpList_nil ?_
    refine then_n ?_
    refine wp_ret ?_
    refine then_r ?_
    exact ret_tmp (t := 2) rfl E (E.get 0 rfl) ⟨rfl, hf⟩
end Go.Proofs.Ytiainjcimmeedaa
