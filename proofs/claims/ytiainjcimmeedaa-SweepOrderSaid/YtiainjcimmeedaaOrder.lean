/- SweepOrder: the walk. -/
import Derived.Test.YtiainjcimmeedaaParts
set_option linter.unusedVariables false
set_option linter.unusedSimpArgs false
namespace Go.Proofs.Ytiainjcimmeedaa
open Go.RowKit Go.Pl Go.Geo

set_option maxRecDepth 100000 in
set_option maxHeartbeats 4000000 in
theorem order_calls (l : List Sg) (p : Option Addr) (cap : Nat) (w : World) (hp : SegAt w p l) : Calls Try.prog 5 #[.slice p l.length cap] w fun e w' => e = .returned (.bool true) ∧ Fr (fun _ => False) w w' := by
  refine wp_start1 Try.func5 rfl rfl (n := 93) (by decide) fun a E => ?_
  have hf : Fr (fun _ => False) w w := Fr.refl _ _
  refine wp_seq ?_
  refine wp_region_lit ?_
  refine env_put (d := 2) (v := .bool false) E rfl (by decide) rfl (wanted_none rfl _) (run_assign rfl rfl) fun a E => ?_
  refine wpList_nil ?_
  refine then_n ?_
  refine wp_seq ?_
  refine wp_region_lit ?_
  refine env_call (d := 12) (v := .bool true) E rfl (by decide) rfl (wanted_none rfl _) (run_call0 (enters_of Try.func9 (by kernel_rfl) rfl) rfl rfl) (head_calls _) fun a w1 f1 E => ?_
  have hp := hp.fr f1
  have hf := hf.trans f1
  clear f1
  refine env_put (d := 3) (v := .bool true) E rfl (by decide) rfl (wanted_none rfl _) (run_assign rfl (E.get 0 rfl)) fun a E => ?_
  refine wpList_nil ?_
  refine then_n ?_
  refine wp_seq ?_
  refine wp_seq ?_
  refine wp_region_lit ?_
  refine env_put (d := 13) (v := .slice (p) l.length cap) E rfl (by decide) rfl (wanted_none rfl _) (run_move rfl (E.get 3 rfl)) fun a E => ?_
  refine env_put (d := 14) (v := .int .i64 (l.length : Int)) E rfl (by decide) rfl (wanted_none rfl _) (run_len22 rfl (E.get 0 rfl)) fun a E => ?_
  refine env_put (d := 15) (v := .bool (decide (30 < (l.length : Int)))) E rfl (by decide) rfl (wanted_none rfl _) (run_igtr (E.get 0 rfl) rfl Try.underlying3 rfl) fun a E => ?_
  refine wpList_nil ?_
  refine then_n ?_
  cases hq1 : (decide (30 < (l.length : Int))) with
  | false =>
    rw [hq1] at E
    have hn30 : l.length ≤ 30 := by have := of_decide_eq_false hq1; omega
    have hn : l.length ≤ 20000 := by omega
    refine wp_cond_false (E.get 0 rfl) ?_
    refine wp_skip ?_
    refine then_n ?_
    refine wp_seq ?_
    refine wp_region_lit ?_
    refine env_put (d := 4) (v := .slice none 0 0) E rfl (by decide) rfl (wanted_none rfl _) (run_assign rfl rfl) fun a E => ?_
    refine wpList_nil ?_
    refine then_n ?_
    refine wp_seq ?_
    refine wp_region_lit ?_
    refine env_put (d := 17) (v := .slice (p) l.length cap) E rfl (by decide) rfl (wanted_none rfl _) (run_move rfl (E.get 7 rfl)) fun a E => ?_
    refine env_put (d := 18) (v := .int .i64 (l.length : Int)) E rfl (by decide) rfl (wanted_none rfl _) (run_len22 rfl (E.get 0 rfl)) fun a E => ?_
    refine env_put (d := 5) (v := .int .i64 (l.length : Int)) E rfl (by decide) rfl (wanted_none rfl _) (run_assign rfl (E.get 0 rfl)) fun a E => ?_
    refine wpList_nil ?_
    refine then_n ?_
    refine wp_seq ?_
    refine wp_seq ?_
    obtain ⟨B, hB⟩ : ∃ B, B = w1.heap.size := ⟨_, rfl⟩
    have hBw : w.heap.size ≤ B := by have := hf.size; omega
    replace hp : SegAt2 w1 B p l := by rw [hB]; exact hp
    have hBs : B ≤ w1.heap.size := by omega
    have hO : oS w1 B (.slice none 0 0) [] := World.ownsRow_nil _ _ _ _
    refine wp_region_lit ?_
    refine env_put (d := 19) (v := .int .i64 (l.length : Int)) E rfl (by decide) rfl (wanted_none rfl _) (run_move rfl (E.get 0 rfl)) fun a E => ?_
    refine env_put (d := 20) (v := .int .i64 ((l.length : Int) - 1)) E rfl (by decide) rfl (wanted_none rfl _) (run_isub (E.get 0 rfl) rfl (by omega) (by omega) rfl) fun a E => ?_
    refine env_put (d := 6) (v := .int .i64 ((l.length : Int) - 1)) E rfl (by decide) rfl (wanted_none rfl _) (run_assign rfl (E.get 0 rfl)) fun a E => ?_
    refine wpList_nil ?_
    refine then_n ?_
    refine wp_block ?_
    refine wp_loop (fun a w2 => ∃ (i : Nat) (bv : Value), Env 93 [(6, .int .i64 ((l.length : Int) - 1 - (i : Int))), (5, .int .i64 (l.length : Int)), (4, bv), (3, .bool true), (0, .slice (p) l.length cap)] a ∧ i ≤ l.length ∧ oS w2 B bv ((turn l).take i) ∧ SegAt2 w2 B p l ∧ B ≤ w2.heap.size ∧ Fr (fun _ => False) w w2) (fun a _ => ((intOf (a.eval (.tmp 6))) + 1).toNat) ?_ ?_
    · exact ⟨0, .slice none 0 0, E.of ⟨(E.get 0 rfl).trans (by simp), E.get 3 rfl, E.get 6 rfl, E.get 10 rfl, E.get 13 rfl, trivial⟩, Nat.zero_le _, hO, hp, hBs, hf⟩
    clear E
    rintro a w2 ⟨i, bv, E, hi, hO, hp, hBs, hf⟩
    have hmu : ((intOf (a.eval (.tmp 6))) + 1).toNat = l.length - i := by rw [E.get 0 rfl]; first | (simp [intOf]; done) | (simp only [intOf]; omega)
    rw [hmu]
    clear hmu
    refine wp_seq ?_
    refine wp_seq ?_
    refine wp_region_lit ?_
    refine env_put (d := 21) (v := .int .i64 ((l.length : Int) - 1 - (i : Int))) E rfl (by decide) rfl (wanted_none rfl _) (run_move rfl (E.get 0 rfl)) fun a E => ?_
    refine env_put (d := 22) (v := .bool (decide (0 ≤ ((l.length : Int) - 1 - (i : Int))))) E rfl (by decide) rfl (wanted_none rfl _) (run_igeq (E.get 0 rfl) rfl Try.underlying3 rfl) fun a E => ?_
    refine wpList_nil ?_
    refine then_n ?_
    cases hq3 : (decide (0 ≤ ((l.length : Int) - 1 - (i : Int)))) with
    | false =>
      rw [hq3] at E
      have hi2 : i = l.length := by have := of_decide_eq_false hq3; omega
      rw [hi2, List.take_of_length_le (by rw [turn_len]; exact Nat.le_refl _)] at hO
      obtain ⟨pb, cb, hve, hp2⟩ := hO.segAt
      subst hve
      replace hp := hp.segAt hBs
      have hl2 : (turn l).length ≤ 20000 := by rw [turn_len]; exact hn
      refine wp_cond_false (E.get 0 rfl) ?_
      refine wp_exit ?_
      refine then_e ?_
      refine then_e ?_
      refine blk_e ?_
      refine then_n ?_
      refine wp_seq ?_
      refine wp_region_lit ?_
      refine env_put (d := 40) (v := .slice (p) l.length cap) E rfl (by decide) rfl (wanted_none rfl _) (run_move rfl (E.get 6 rfl)) fun a E => ?_
      refine env_all (d := 41) (l := l) E rfl (by decide) rfl (wanted_none rfl _) rfl (E.get 0 rfl) hn hp fun a w1 r1 hr1 f1 E => ?_
      replace hr1 := hr1.mtR
      obtain ⟨p1, c1, hve⟩ := hr1.1
      subst hve
      have hp := hp.fr f1
      have hp2 := hp2.fr f1
      have hf := hf.trans f1
      clear f1
      refine env_put (d := 39) (v := .tuple #[.slice (p1) (outL l).length c1, .int .i64 0]) E rfl (by decide) rfl (wanted_none rfl _) (run_move rfl (E.get 0 rfl)) fun a E => ?_
      refine env_put (d := 42) (v := .slice (p1) (outL l).length c1) E rfl (by decide) rfl (wanted_none rfl _) (run_ext0 rfl (E.get 0 rfl)) fun a E => ?_
      refine env_put (d := 43) (v := .int .i64 0) E rfl (by decide) rfl (wanted_none rfl _) (run_ext1 rfl (E.get 1 rfl)) fun a E => ?_
      refine env_put (d := 7) (v := .slice (p1) (outL l).length c1) E rfl (by decide) rfl (wanted_none rfl _) (run_assign rfl (E.get 1 rfl)) fun a E => ?_
      refine env_put (d := 8) (v := .int .i64 0) E rfl (by decide) rfl (wanted_none rfl _) (run_assign rfl (E.get 1 rfl)) fun a E => ?_
      refine wpList_nil ?_
      refine then_n ?_
      refine wp_seq ?_
      refine wp_region_lit ?_
      refine env_put (d := 45) (v := .slice (pb) (turn l).length cb) E rfl (by decide) rfl (wanted_none rfl _) (run_move rfl (E.get 11 rfl)) fun a E => ?_
      refine env_all (d := 46) (l := (turn l)) E rfl (by decide) rfl (wanted_none rfl _) rfl (E.get 0 rfl) hl2 hp2 fun a w1 r2 hr2 f1 E => ?_
      replace hr2 := hr2.mtR
      obtain ⟨p2, c2, hve⟩ := hr2.1
      subst hve
      have hp := hp.fr f1
      have hp2 := hp2.fr f1
      have hr1 := hr1.fr f1
      have hf := hf.trans f1
      clear f1
      refine env_put (d := 44) (v := .tuple #[.slice (p2) (outL (turn l)).length c2, .int .i64 0]) E rfl (by decide) rfl (wanted_none rfl _) (run_move rfl (E.get 0 rfl)) fun a E => ?_
      refine env_put (d := 47) (v := .slice (p2) (outL (turn l)).length c2) E rfl (by decide) rfl (wanted_none rfl _) (run_ext0 rfl (E.get 0 rfl)) fun a E => ?_
      refine env_put (d := 48) (v := .int .i64 0) E rfl (by decide) rfl (wanted_none rfl _) (run_ext1 rfl (E.get 1 rfl)) fun a E => ?_
      refine env_put (d := 9) (v := .slice (p2) (outL (turn l)).length c2) E rfl (by decide) rfl (wanted_none rfl _) (run_assign rfl (E.get 1 rfl)) fun a E => ?_
      refine env_put (d := 10) (v := .int .i64 0) E rfl (by decide) rfl (wanted_none rfl _) (run_assign rfl (E.get 1 rfl)) fun a E => ?_
      refine wpList_nil ?_
      refine then_n ?_
      refine wp_seq ?_
      refine wp_seq ?_
      have hlen : ((outL l).length : Int) = (outL (turn l)).length := by rw [turn_out_len hn]
      have hle : (((outL l).length : Int) != ((outL (turn l)).length : Int)) = false := by rw [hlen]; simp
      refine wp_region_lit ?_
      refine env_put (d := 49) (v := .int .i64 0) E rfl (by decide) rfl (wanted_none rfl _) (run_move rfl (E.get 7 rfl)) fun a E => ?_
      refine env_put (d := 50) (v := .bool false) E rfl (by decide) rfl (wanted_none rfl _) (run_ineq (m := 0) (n := 0) (E.get 0 rfl) rfl Try.underlying25 rfl) fun a E => ?_
      refine env_put (d := 51) (v := .bool false) E rfl (by decide) rfl (wanted_none rfl _) (run_move rfl (E.get 0 rfl)) fun a E => ?_
      refine env_put (d := 52) (v := .int .i64 0) E rfl (by decide) rfl (w_yes (g := 2) (s := 51) E rfl rfl (by decide) (E.get 0 rfl)) (run_move rfl (E.get 3 rfl)) fun a E => ?_
      refine env_put (d := 53) (v := .bool false) E rfl (by decide) rfl (w_yes (g := 2) (s := 51) E rfl rfl (by decide) (E.get 1 rfl)) (run_ineq (m := 0) (n := 0) (E.get 0 rfl) rfl Try.underlying25 rfl) fun a E => ?_
      refine env_put (d := 54) (v := .bool false) E rfl (by decide) rfl (wanted_none rfl _) (run_pick_f rfl (E.get 2 rfl) (E.get 0 rfl)) fun a E => ?_
      refine env_put (d := 55) (v := .bool false) E rfl (by decide) rfl (wanted_none rfl _) (run_move rfl (E.get 0 rfl)) fun a E => ?_
      refine env_put (d := 56) (v := .slice (p1) (outL l).length c1) E rfl (by decide) rfl (w_yes (g := 6) (s := 55) E rfl rfl (by decide) (E.get 0 rfl)) (run_move rfl (E.get 15 rfl)) fun a E => ?_
      refine env_put (d := 57) (v := .int .i64 ((outL l).length : Int)) E rfl (by decide) rfl (w_yes (g := 6) (s := 55) E rfl rfl (by decide) (E.get 1 rfl)) (run_len24 rfl (E.get 0 rfl)) fun a E => ?_
      refine env_put (d := 58) (v := .slice (p2) (outL (turn l)).length c2) E rfl (by decide) rfl (w_yes (g := 6) (s := 55) E rfl rfl (by decide) (E.get 2 rfl)) (run_move rfl (E.get 10 rfl)) fun a E => ?_
      refine env_put (d := 59) (v := .int .i64 ((outL (turn l)).length : Int)) E rfl (by decide) rfl (w_yes (g := 6) (s := 55) E rfl rfl (by decide) (E.get 3 rfl)) (run_len24 rfl (E.get 0 rfl)) fun a E => ?_
      refine env_put (d := 60) (v := .bool false) E rfl (by decide) rfl (w_yes (g := 6) (s := 55) E rfl rfl (by decide) (E.get 4 rfl)) ((run_ineq (E.get 2 rfl) (E.get 0 rfl) Try.underlying3 rfl).trans (by rw [hle] <;> rfl)) fun a E => ?_
      refine env_put (d := 61) (v := .bool false) E rfl (by decide) rfl (wanted_none rfl _) (run_pick_f rfl (E.get 5 rfl) (E.get 0 rfl)) fun a E => ?_
      refine wpList_nil ?_
      refine then_n ?_
      refine wp_cond_false (E.get 0 rfl) ?_
      refine wp_skip ?_
      refine then_n ?_
      refine wp_seq ?_
      refine wp_seq ?_
      refine wp_region_lit ?_
      refine env_put (d := 11) (v := .int .i64 0) E rfl (by decide) rfl (wanted_none rfl _) (run_assign rfl rfl) fun a E => ?_
      refine wpList_nil ?_
      refine then_n ?_
      refine wp_block ?_
      refine wp_loop (fun a w2 => ∃ (i : Nat), Env 93 [(11, .int .i64 (i : Int)), (9, .slice (p2) (outL (turn l)).length c2), (7, .slice (p1) (outL l).length c1), (5, .int .i64 (l.length : Int)), (3, .bool true)] a ∧ i ≤ (outL l).length ∧ mtR w2 (.slice p1 (outL l).length c1) (outL l) ∧ mtR w2 (.slice p2 (outL (turn l)).length c2) (outL (turn l)) ∧ Fr (fun _ => False) w w2) (fun a _ => (outL l).length - (intOf (a.eval (.tmp 11))).toNat) ?_ ?_
      · exact ⟨0, E.of ⟨E.get 0 rfl, E.get 15 rfl, E.get 22 rfl, E.get 31 rfl, E.get 33 rfl, trivial⟩, Nat.zero_le _, hr1, hr2, hf⟩
      clear E
      rintro a w2 ⟨i, E, hi, hr1, hr2, hf⟩
      have hmu : (outL l).length - (intOf (a.eval (.tmp 11))).toNat = (outL l).length - i := by rw [E.get 0 rfl]; first | (simp [intOf]; done) | (simp only [intOf]; omega)
      rw [hmu]
      clear hmu
      refine wp_seq ?_
      refine wp_seq ?_
      refine wp_region_lit ?_
      refine env_put (d := 62) (v := .int .i64 (i : Int)) E rfl (by decide) rfl (wanted_none rfl _) (run_move rfl (E.get 0 rfl)) fun a E => ?_
      refine env_put (d := 63) (v := .slice (p1) (outL l).length c1) E rfl (by decide) rfl (wanted_none rfl _) (run_move rfl (E.get 3 rfl)) fun a E => ?_
      refine env_put (d := 64) (v := .int .i64 ((outL l).length : Int)) E rfl (by decide) rfl (wanted_none rfl _) (run_len24 rfl (E.get 0 rfl)) fun a E => ?_
      refine env_put (d := 65) (v := .bool (decide ((i : Int) < ((outL l).length : Int)))) E rfl (by decide) rfl (wanted_none rfl _) (run_ilss (E.get 2 rfl) (E.get 0 rfl) Try.underlying3 rfl) fun a E => ?_
      refine wpList_nil ?_
      refine then_n ?_
      cases hq5 : (decide ((i : Int) < ((outL l).length : Int))) with
      | false =>
        rw [hq5] at E
        refine wp_cond_false (E.get 0 rfl) ?_
        refine wp_exit ?_
        refine then_e ?_
        refine then_e ?_
        refine blk_e ?_
        refine then_n ?_
        refine wp_seq ?_
        refine wp_region_lit ?_
        refine env_put (d := 92) (v := .bool true) E rfl (by decide) rfl (wanted_none rfl _) (run_move rfl (E.get 8 rfl)) fun a E => ?_
        refine env_put (d := 2) (v := .bool true) E rfl (by decide) rfl (wanted_none rfl _) (run_assign rfl (E.get 0 rfl)) fun a E => ?_
        refine wpList_nil ?_
        refine then_n ?_
        refine wp_ret ?_
        exact ret_tmp (t := 2) rfl E (E.get 0 rfl) ⟨rfl, hf⟩
      | true =>
        rw [hq5] at E
        have hlt : i < (outL l).length := by have := of_decide_eq_true hq5; omega
        obtain ⟨m, hm⟩ : ∃ m, (outL l)[i]? = some m := ⟨_, List.getElem?_eq_getElem hlt⟩
        obtain ⟨g3, c3, hpe3, hgl3, hrow⟩ := hr1.2.resolve_left (fun e => by rw [e] at hlt; exact absurd hlt (Nat.not_lt_zero _))
        replace hrow := hrow i m hm
        have hmem := List.mem_of_getElem? hm
        have hml := out_lt hn hmem
        have hkt := kind_turn hn hmem
        have hne : (m.k != m.k) = false := by simp
        have hil : (outL l).length ≤ 2000 := out_len40 (by omega)
        have hil2 : (outL (turn l)).length ≤ 2000 := out_len40 (by rw [turn_len]; omega)
        refine wp_cond_true (E.get 0 rfl) ?_
        refine wp_skip ?_
        refine then_n ?_
        refine wp_seq ?_
        refine wp_block ?_
        refine wp_seq ?_
        refine wp_region_inv (n := 93) (base := [(65, .bool true), (64, .int .i64 ((outL l).length : Int)), (63, .slice (p1) (outL l).length c1), (62, .int .i64 (i : Int)), (11, .int .i64 (i : Int)), (9, .slice (p2) (outL (turn l)).length c2), (7, .slice (p1) (outL l).length c1), (5, .int .i64 (l.length : Int)), (3, .bool true)]) (T := [some (68, .slice (p2) (outL (turn l)).length c2), some (69, .int .i64 (l.length : Int)), some (70, .int .i64 ((l.length : Int) - 1)), some (71, .slice (p1) (outL l).length c1), some (72, .int .i64 (i : Int)), some (73, .pointer (some ⟨g3, (i * 3), none⟩)), some (74, .pointer (some ⟨g3, ((i * 3) + 0), none⟩)), some (75, .int .i64 (m.a.val : Int)), some (76, .int .i64 (((l.length : Int) - 1) - (m.a.val : Int))), some (77, .int .i64 (l.length : Int)), some (78, .int .i64 ((l.length : Int) - 1)), some (79, .slice (p1) (outL l).length c1), some (80, .int .i64 (i : Int)), some (81, .pointer (some ⟨g3, (i * 3), none⟩)), some (82, .pointer (some ⟨g3, ((i * 3) + 1), none⟩)), some (83, .int .i64 (m.b.val : Int)), some (84, .int .i64 (((l.length : Int) - 1) - (m.b.val : Int))), some (85, .int .i64 m.k), some (86, .slice (p1) (outL l).length c1), some (87, .int .i64 (i : Int)), some (88, .pointer (some ⟨g3, (i * 3), none⟩)), some (89, .pointer (some ⟨g3, ((i * 3) + 2), none⟩)), some (90, .int .i64 m.k), some (91, .bool false)]) (M := fun _ w5 => Fr (fun _ => False) w2 w5) (by kernel_rfl) (by kernel_rfl) (by kernel_rfl) (E.of ⟨E.get 0 rfl, E.get 1 rfl, E.get 2 rfl, E.get 3 rfl, E.get 4 rfl, E.get 5 rfl, E.get 6 rfl, E.get 7 rfl, E.get 8 rfl, trivial⟩) (Fr.refl _ _).drew ?_ ?_
        · intro j9 o9 t9 ls9 a w5 ho hT0 hl E D DL hM
          have hr1 := hr1.fr hM
          have hr2 := hr2.fr hM
          have hrow := World.rangeAt_fr hrow hM id
          match j9, ho, hT0, hl, D, DL with
          | 0, ho, hT0, hl, D, DL =>
            obtain rfl := Option.some.inj ho
            obtain rfl := Option.some.inj hT0
            clear ho hT0
            exact val_wp (run_move rfl (E.get 5 rfl)) rfl hM
          | 1, ho, hT0, hl, D, DL =>
            obtain rfl := Option.some.inj ho
            obtain rfl := Option.some.inj hT0
            clear ho hT0
            exact val_wp (run_move rfl (E.get 7 rfl)) rfl hM
          | 2, ho, hT0, hl, D, DL =>
            obtain rfl := Option.some.inj ho
            obtain rfl := Option.some.inj hT0
            clear ho hT0
            exact val_wp (run_isub (D 1 _ rfl rfl) rfl (by omega) (by omega) rfl) rfl hM
          | 3, ho, hT0, hl, D, DL =>
            obtain rfl := Option.some.inj ho
            obtain rfl := Option.some.inj hT0
            clear ho hT0
            exact val_wp (run_move rfl (E.get 6 rfl)) rfl hM
          | 4, ho, hT0, hl, D, DL =>
            obtain rfl := Option.some.inj ho
            obtain rfl := Option.some.inj hT0
            clear ho hT0
            exact val_wp (run_move rfl (E.get 4 rfl)) rfl hM
          | 5, ho, hT0, hl, D, DL =>
            obtain rfl := Option.some.inj ho
            obtain rfl := Option.some.inj hT0
            clear ho hT0
            exact val_wp (run_index24 rfl ((D 3 _ rfl rfl).trans (by rw [hpe3])) (D 4 _ rfl rfl) hlt) rfl hM
          | 6, ho, hT0, hl, D, DL =>
            obtain rfl := Option.some.inj ho
            obtain rfl := Option.some.inj hT0
            clear ho hT0
            exact val_wp (fa36_at (by decide) rfl (D 5 _ rfl rfl)) rfl hM
          | 7, ho, hT0, hl, D, DL =>
            obtain rfl := Option.some.inj ho
            obtain rfl := Option.some.inj hT0
            clear ho hT0
            exact val_wp (ld3_at rfl (D 6 _ rfl rfl) hrow rfl) rfl hM
          | 8, ho, hT0, hl, D, DL =>
            obtain rfl := Option.some.inj ho
            obtain rfl := Option.some.inj hT0
            clear ho hT0
            exact val_wp (run_isub (D 2 _ rfl rfl) (D 7 _ rfl rfl) (by omega) (by omega) rfl) rfl hM
          | 9, ho, hT0, hl, D, DL =>
            obtain rfl := Option.some.inj ho
            obtain rfl := Option.some.inj hT0
            clear ho hT0
            exact val_wp (run_move rfl (E.get 7 rfl)) rfl hM
          | 10, ho, hT0, hl, D, DL =>
            obtain rfl := Option.some.inj ho
            obtain rfl := Option.some.inj hT0
            clear ho hT0
            exact val_wp (run_isub (D 9 _ rfl rfl) rfl (by omega) (by omega) rfl) rfl hM
          | 11, ho, hT0, hl, D, DL =>
            obtain rfl := Option.some.inj ho
            obtain rfl := Option.some.inj hT0
            clear ho hT0
            exact val_wp (run_move rfl (E.get 6 rfl)) rfl hM
          | 12, ho, hT0, hl, D, DL =>
            obtain rfl := Option.some.inj ho
            obtain rfl := Option.some.inj hT0
            clear ho hT0
            exact val_wp (run_move rfl (E.get 4 rfl)) rfl hM
          | 13, ho, hT0, hl, D, DL =>
            obtain rfl := Option.some.inj ho
            obtain rfl := Option.some.inj hT0
            clear ho hT0
            exact val_wp (run_index24 rfl ((D 11 _ rfl rfl).trans (by rw [hpe3])) (D 12 _ rfl rfl) hlt) rfl hM
          | 14, ho, hT0, hl, D, DL =>
            obtain rfl := Option.some.inj ho
            obtain rfl := Option.some.inj hT0
            clear ho hT0
            exact val_wp (fa36_at (by decide) rfl (D 13 _ rfl rfl)) rfl hM
          | 15, ho, hT0, hl, D, DL =>
            obtain rfl := Option.some.inj ho
            obtain rfl := Option.some.inj hT0
            clear ho hT0
            exact val_wp (ld3_at rfl (D 14 _ rfl rfl) hrow rfl) rfl hM
          | 16, ho, hT0, hl, D, DL =>
            obtain rfl := Option.some.inj ho
            obtain rfl := Option.some.inj hT0
            clear ho hT0
            exact val_wp (run_isub (D 10 _ rfl rfl) (D 15 _ rfl rfl) (by omega) (by omega) rfl) rfl hM
          | 17, ho, hT0, hl, D, DL =>
            obtain rfl := Option.some.inj ho
            obtain rfl := Option.some.inj hT0
            clear ho hT0
            exact call_wp (run_call3 (enters_of Try.func14 (by kernel_rfl) rfl) rfl rfl (D 0 _ rfl rfl) (D 8 _ rfl rfl) (D 16 _ rfl rfl)) (by have h := kind_calls _ (outL (turn l)) ((l.length : Int) - 1 - m.a.val) ((l.length : Int) - 1 - m.b.val) w5 hr2 (by omega); rw [hkt] at h; exact h) rfl fun w9 f1 => (hM.trans f1)
          | 18, ho, hT0, hl, D, DL =>
            obtain rfl := Option.some.inj ho
            obtain rfl := Option.some.inj hT0
            clear ho hT0
            exact val_wp (run_move rfl (E.get 6 rfl)) rfl hM
          | 19, ho, hT0, hl, D, DL =>
            obtain rfl := Option.some.inj ho
            obtain rfl := Option.some.inj hT0
            clear ho hT0
            exact val_wp (run_move rfl (E.get 4 rfl)) rfl hM
          | 20, ho, hT0, hl, D, DL =>
            obtain rfl := Option.some.inj ho
            obtain rfl := Option.some.inj hT0
            clear ho hT0
            exact val_wp (run_index24 rfl ((D 18 _ rfl rfl).trans (by rw [hpe3])) (D 19 _ rfl rfl) hlt) rfl hM
          | 21, ho, hT0, hl, D, DL =>
            obtain rfl := Option.some.inj ho
            obtain rfl := Option.some.inj hT0
            clear ho hT0
            exact val_wp (fa36_at (by decide) rfl (D 20 _ rfl rfl)) rfl hM
          | 22, ho, hT0, hl, D, DL =>
            obtain rfl := Option.some.inj ho
            obtain rfl := Option.some.inj hT0
            clear ho hT0
            exact val_wp (ld3_at rfl (D 21 _ rfl rfl) hrow rfl) rfl hM
          | 23, ho, hT0, hl, D, DL =>
            obtain rfl := Option.some.inj ho
            obtain rfl := Option.some.inj hT0
            clear ho hT0
            exact val_wp ((run_ineq (D 17 _ rfl rfl) (D 22 _ rfl rfl) Try.underlying3 rfl).trans (by rw [hne] <;> rfl)) rfl hM
          | j9 + 24, ho, hT0, hl, D, DL => exact absurd hT0 (by simp)
        · intro a w5 E V hM
          have E := E.add (V 23 _ rfl)
          clear V
          have hr1 := hr1.fr hM
          have hr2 := hr2.fr hM
          have hrow := World.rangeAt_fr hrow hM id
          have hf := hf.trans hM
          clear hM
          refine then_n ?_
          refine wp_cond_false (E.get 0 rfl) ?_
          refine wp_skip ?_
          refine blk_n ?_
          refine then_n ?_
          refine wp_region_lit ?_
          refine env_put (d := 66) (v := .int .i64 (i : Int)) E rfl (by decide) rfl (wanted_none rfl _) (run_move rfl (E.get 5 rfl)) fun a E => ?_
          refine env_put (d := 67) (v := .int .i64 ((i : Int) + 1)) E rfl (by decide) rfl (wanted_none rfl _) (run_iadd (E.get 0 rfl) rfl (by omega) (by omega) rfl) fun a E => ?_
          refine env_set (d := 11) (v := .int .i64 ((i : Int) + 1)) E rfl (by decide) (wanted_none rfl _) (run_assign rfl (E.get 0 rfl)) fun a E => ?_
          refine wpList_nil ?_
          refine then_n ?_
          refine ⟨⟨i + 1, E.of ⟨E.get 0 rfl, E.get 8 rfl, E.get 9 rfl, E.get 10 rfl, E.get 11 rfl, trivial⟩, hlt, hr1, hr2, hf⟩, ?_⟩
          rw [E.get 0 rfl]; simp only [intOf]; omega
    | true =>
      rw [hq3] at E
      have hlt : i < l.length := by have := of_decide_eq_true hq3; omega
      obtain ⟨s, hs⟩ : ∃ s, l[l.length - 1 - i]? = some s := ⟨_, List.getElem?_eq_getElem (by omega)⟩
      have hkk : l.length - 1 - i < l.length := by omega
      obtain ⟨g, off, hpe, hgl, hseg⟩ := hp.at hlt
      have hti : (turn l)[i]? = some (s.2, s.1) := by have := turn_at hs; rwa [show l.length - 1 - (l.length - 1 - i) = i by omega] at this
      have hki : ((l.length : Int) - 1 - (i : Int)) = ((l.length - 1 - i : Nat) : Int) := by omega
      have hfl : ((turn l).take i).length ≤ 400000000 := by rw [List.length_take, turn_len]; omega
      have hOlt : ∀ k, bv.ownBlock = some k → k < w2.heap.size := fun k h => (own_lt hO h).2
      rw [hki] at E
      refine wp_cond_true (E.get 0 rfl) ?_
      refine wp_skip ?_
      refine then_n ?_
      refine wp_seq ?_
      refine wp_block ?_
      refine wp_region_invx (G := Nat × Value) (0, bv) (n := 93) (base := [(22, .bool true), (21, .int .i64 ((l.length - 1 - i : Nat) : Int)), (6, .int .i64 ((l.length - 1 - i : Nat) : Int)), (5, .int .i64 (l.length : Int)), (3, .bool true), (0, .slice (p) l.length cap)]) (U := [(4, bv, 14)]) (T := fun γ => [some (25, bv), some (26, .slice (p) l.length cap), some (27, .int .i64 ((l.length - 1 - i : Nat) : Int)), some (28, .pointer (some ⟨g, (off + (l.length - 1 - i) * 4), none⟩)), some (29, .pointer (some ⟨g, ((off + (l.length - 1 - i) * 4) + 2), none⟩)), some (30, .agg (ptC s.2)), some (31, .slice (p) l.length cap), some (32, .int .i64 ((l.length - 1 - i : Nat) : Int)), some (33, .pointer (some ⟨g, (off + (l.length - 1 - i) * 4), none⟩)), some (34, .pointer (some ⟨g, ((off + (l.length - 1 - i) * 4) + 0), none⟩)), some (35, .agg (ptC s.1)), some (36, .agg (sgC (s.2, s.1))), some (37, .slice (some ⟨γ.1, 0, none⟩) 1 1), some (38, γ.2), some (4, γ.2)]) (M := fun γ ls9 w5 => Fr (fun k => B ≤ k) w2 w5 ∧ (ls9 12 = true → w2.heap.size ≤ γ.1 ∧ sgB w5 γ.1 ((s.2, s.1))) ∧ (ls9 13 = false → oS w5 B (bv) (((turn l).take i))) ∧ (ls9 13 = true → oS w5 B γ.2 (((turn l).take i) ++ [(s.2, s.1)]))) (by kernel_rfl) (by kernel_rfl) (fun _ => by kernel_rfl) (E.of ⟨E.get 0 rfl, E.get 1 rfl, E.get 2 rfl, E.get 3 rfl, E.get 5 rfl, E.get 6 rfl, trivial⟩) (fun x hx => by simp only [List.mem_cons, List.not_mem_nil, or_false] at hx; subst hx; exact E.get 4 rfl) ⟨(Fr.refl _ _).drew, fun h => absurd h Bool.false_ne_true, fun _ => own_fr hO ((Fr.refl (fun _ => False) _).drew) (fun _ _ h => h), fun h => absurd h Bool.false_ne_true⟩ ?_ ?_
      · intro j9 o9 γ ls9 a w5 ho hl E D DL DL2 hB hM
        have hp := hp.fr hM.1 (fun r hr e => by have h9 : B ≤ r := e; omega)
        have hseg := segR.fr hseg hM.1 (fun e => by have h9 : B ≤ g := e; omega)
        match j9, ho, hl, D, DL, hB with
        | 0, ho, hl, D, DL, hB =>
          obtain rfl := Option.some.inj ho
          clear ho
          exact ⟨fun _ => valx rfl (run_move rfl (hB (4, bv, 14) (by simp) rfl)) rfl hM, fun h => by rw [wanted_none rfl] at h; cases h⟩
        | 1, ho, hl, D, DL, hB =>
          obtain rfl := Option.some.inj ho
          clear ho
          exact ⟨fun _ => valx rfl (run_move rfl (E.get 5 rfl)) rfl hM, fun h => by rw [wanted_none rfl] at h; cases h⟩
        | 2, ho, hl, D, DL, hB =>
          obtain rfl := Option.some.inj ho
          clear ho
          exact ⟨fun _ => valx rfl (run_move rfl (E.get 2 rfl)) rfl hM, fun h => by rw [wanted_none rfl] at h; cases h⟩
        | 3, ho, hl, D, DL, hB =>
          obtain rfl := Option.some.inj ho
          clear ho
          exact ⟨fun _ => valx rfl (run_index22 rfl ((D 1 _ rfl rfl).trans (by rw [hpe])) (D 2 _ rfl rfl) hkk) rfl hM, fun h => by rw [wanted_none rfl] at h; cases h⟩
        | 4, ho, hl, D, DL, hB =>
          obtain rfl := Option.some.inj ho
          clear ho
          exact ⟨fun _ => valx rfl (fa34_at1 rfl (D 3 _ rfl rfl)) rfl hM, fun h => by rw [wanted_none rfl] at h; cases h⟩
        | 5, ho, hl, D, DL, hB =>
          obtain rfl := Option.some.inj ho
          clear ho
          exact ⟨fun _ => valx rfl (ld32_at2 rfl (D 4 _ rfl rfl) (hseg _ _ hs)) rfl hM, fun h => by rw [wanted_none rfl] at h; cases h⟩
        | 6, ho, hl, D, DL, hB =>
          obtain rfl := Option.some.inj ho
          clear ho
          exact ⟨fun _ => valx rfl (run_move rfl (E.get 5 rfl)) rfl hM, fun h => by rw [wanted_none rfl] at h; cases h⟩
        | 7, ho, hl, D, DL, hB =>
          obtain rfl := Option.some.inj ho
          clear ho
          exact ⟨fun _ => valx rfl (run_move rfl (E.get 2 rfl)) rfl hM, fun h => by rw [wanted_none rfl] at h; cases h⟩
        | 8, ho, hl, D, DL, hB =>
          obtain rfl := Option.some.inj ho
          clear ho
          exact ⟨fun _ => valx rfl (run_index22 rfl ((D 6 _ rfl rfl).trans (by rw [hpe])) (D 7 _ rfl rfl) hkk) rfl hM, fun h => by rw [wanted_none rfl] at h; cases h⟩
        | 9, ho, hl, D, DL, hB =>
          obtain rfl := Option.some.inj ho
          clear ho
          exact ⟨fun _ => valx rfl (fa34_at0 rfl (D 8 _ rfl rfl)) rfl hM, fun h => by rw [wanted_none rfl] at h; cases h⟩
        | 10, ho, hl, D, DL, hB =>
          obtain rfl := Option.some.inj ho
          clear ho
          exact ⟨fun _ => valx rfl (ld32_at0 rfl (D 9 _ rfl rfl) (hseg _ _ hs)) rfl hM, fun h => by rw [wanted_none rfl] at h; cases h⟩
        | 11, ho, hl, D, DL, hB =>
          obtain rfl := Option.some.inj ho
          clear ho
          exact ⟨fun _ => valx rfl (run_of34 rfl (D 5 _ rfl rfl) (D 10 _ rfl rfl)) rfl hM, fun h => by rw [wanted_none rfl] at h; cases h⟩
        | 12, ho, hl, D, DL, hB =>
          obtain rfl := Option.some.inj ho
          clear ho
          exact ⟨fun _ => valxw (w5.heap.size, γ.2) rfl (run_one34 rfl (D 11 _ rfl rfl)) rfl (fun j hj => match j, hj with | 0, _ => rfl | 1, _ => rfl | 2, _ => rfl | 3, _ => rfl | 4, _ => rfl | 5, _ => rfl | 6, _ => rfl | 7, _ => rfl | 8, _ => rfl | 9, _ => rfl | 10, _ => rfl | 11, _ => rfl | 12, hj => absurd (hl.symm.trans hj) (by decide) | 13, _ => rfl | 14, _ => rfl | e9 + 15, _ => rfl) ⟨hM.1.trans' ((Fr.refl (fun _ => False) w5).alloc _) (fun _ _ h => h.elim), fun _ => ⟨hM.1.size, blk_alloc_new _ _⟩, fun h => own_fr (hM.2.2.1 h) ((Fr.refl (fun _ => False) w5).alloc _) (fun _ _ h => h), fun h => own_fr (hM.2.2.2 h) ((Fr.refl (fun _ => False) w5).alloc _) (fun _ _ h => h)⟩, fun h => by rw [wanted_none rfl] at h; cases h⟩
        | 13, ho, hl, D, DL, hB =>
          obtain ⟨v9, w9, c0, c1, c2, c3⟩ := appx34 (o := o9) (ρ := a.eval) (congrArg Oper.op (Option.some.inj ho)).symm (D 0 _ rfl rfl) (D 12 _ rfl rfl) (hM.2.2.1 hl) ((hM.2.1 (DL 12 rfl)).2) hfl (Nat.le_trans hBs hM.1.size)
          obtain rfl := Option.some.inj ho
          exact ⟨fun _ => valxw (γ.1, v9) rfl c0 rfl (fun j hj => match j, hj with | 0, _ => rfl | 1, _ => rfl | 2, _ => rfl | 3, _ => rfl | 4, _ => rfl | 5, _ => rfl | 6, _ => rfl | 7, _ => rfl | 8, _ => rfl | 9, _ => rfl | 10, _ => rfl | 11, _ => rfl | 12, _ => rfl | 13, hj => absurd (hl.symm.trans hj) (by decide) | 14, hj => absurd (hl.symm.trans (DL2 14 13 rfl hj)) (by decide) | e9 + 15, _ => rfl) ⟨hM.1.trans' c2 (fun r _ e => (own_lt (hM.2.2.1 hl) e).1), fun h => ⟨(hM.2.1 h).1, (hM.2.1 h).2.fr c2 (fun e => by have h8 := (hM.2.1 h).1; have h9 := hOlt _ e; omega)⟩, fun h => by simp at h, fun _ => c1⟩, fun h => by rw [wanted_none rfl] at h; cases h⟩
        | 14, ho, hl, D, DL, hB =>
          obtain rfl := Option.some.inj ho
          clear ho
          exact ⟨fun _ => valx rfl (run_assign rfl (D 13 _ rfl rfl)) rfl hM, fun h => by rw [wanted_none rfl] at h; cases h⟩
        | j9 + 15, ho, hl, D, DL, hB => exact absurd ho (by simp)
      · rintro ⟨γ7a, γ7b⟩ a w5 E V hM
        have E := E.add (v := γ7b) (V 14 _ rfl)
        clear V
        have hBs := Nat.le_trans hBs hM.1.size
        replace hO := hM.2.2.2 rfl
        have hp := hp.fr hM.1 (fun r hr e => by have h9 : B ≤ r := e; omega)
        have hseg := segR.fr hseg hM.1 (fun e => by have h9 : B ≤ g := e; omega)
        have hf := hf.trans' hM.1 fun r hr e => by have h9 : B ≤ r := e; omega
        clear hM
        refine blk_n ?_
        refine then_n ?_
        refine wp_region_lit ?_
        refine env_put (d := 23) (v := .int .i64 ((l.length - 1 - i : Nat) : Int)) E rfl (by decide) rfl (wanted_none rfl _) (run_move rfl (E.get 3 rfl)) fun a E => ?_
        refine env_put (d := 24) (v := .int .i64 (((l.length - 1 - i : Nat) : Int) - 1)) E rfl (by decide) rfl (wanted_none rfl _) (run_isub (E.get 0 rfl) rfl (by omega) (by omega) rfl) fun a E => ?_
        refine env_set (d := 6) (v := .int .i64 (((l.length - 1 - i : Nat) : Int) - 1)) E rfl (by decide) (wanted_none rfl _) (run_assign rfl (E.get 0 rfl)) fun a E => ?_
        refine wpList_nil ?_
        refine then_n ?_
        refine ⟨⟨i + 1, γ7b, E.of ⟨(E.get 0 rfl).trans (by congr 1; omega), E.get 6 rfl, E.get 3 rfl, E.get 7 rfl, E.get 8 rfl, trivial⟩, hlt, ?_, hp, hBs, hf⟩, ?_⟩
        · rw [List.take_add_one, hti]; exact hO
        · rw [E.get 0 rfl]; simp only [intOf]; omega
  | true =>
    rw [hq1] at E
    refine wp_cond_true (E.get 0 rfl) ?_
    refine wp_seq ?_
    refine wp_region_lit ?_
    refine env_put (d := 16) (v := .bool true) E rfl (by decide) rfl (wanted_none rfl _) (run_move rfl (E.get 3 rfl)) fun a E => ?_
    refine env_set (d := 2) (v := .bool true) E rfl (by decide) (wanted_none rfl _) (run_assign rfl (E.get 0 rfl)) fun a E => ?_
    refine wpList_nil ?_
    refine then_n ?_
    refine wp_ret ?_
    refine then_r ?_
    exact ret_tmp (t := 2) rfl E (E.get 0 rfl) ⟨rfl, hf⟩
end Go.Proofs.Ytiainjcimmeedaa
