/- SweepMoved: the walk. -/
import Derived.Test.YtiainjcimmeedaaLy
set_option linter.unusedVariables false
set_option linter.unusedSimpArgs false
namespace Go.Proofs.Ytiainjcimmeedaa
open Go.RowKit Go.Pl Go.Geo

theorem own_frG {B e s n : Nat} {v : Value} {xs : List Value} {w w' : World} {G : Nat} (h : w.ownsRow B e s v n xs) (hf : Fr (fun k => G ≤ k) w w') (hlt : ∀ k, v.ownBlock = some k → k < G) : w'.ownsRow B e s v n xs := own_fr h hf fun k hk e => by have h1 := hlt k hk; have h2 : G ≤ k := e; omega
set_option maxRecDepth 100000 in
set_option maxHeartbeats 4000000 in
theorem moved_calls (l : List Sg) (p : Option Addr) (cap : Nat) (v : Pt) (w : World) (hp : SegAt w p l) : Calls Try.prog 7 #[.slice p l.length cap, .agg (ptC v)] w fun e w' => e = .returned (.bool true) ∧ Fr (fun _ => False) w w' := by
  refine wp_start2 Try.func7 rfl rfl (n := 105) (by decide) fun a E => ?_
  have hf : Fr (fun _ => False) w w := Fr.refl _ _
  refine wp_seq ?_
  refine wp_region_lit ?_
  refine env_box32 (d := 3) E rfl (by decide) rfl (wanted_none rfl _) rfl (E.get 1 rfl) fun a w1 bv _ hbv f1 E => ?_
  have hp := hp.fr f1
  have hf := hf.trans f1
  clear f1
  refine env_put (d := 4) (v := .bool false) E rfl (by decide) rfl (wanted_none rfl _) (run_assign rfl rfl) fun a E => ?_
  refine wpList_nil ?_
  refine then_n ?_
  refine wp_seq ?_
  refine wp_region_lit ?_
  refine env_call (d := 13) (v := .bool true) E rfl (by decide) rfl (wanted_none rfl _) (run_call0 (enters_of Try.func9 (by kernel_rfl) rfl) rfl rfl) (head_calls _) fun a w1 f1 E => ?_
  have hp := hp.fr f1
  have hbv := ptB.fr hbv f1 id
  have hf := hf.trans f1
  clear f1
  refine env_put (d := 5) (v := .bool true) E rfl (by decide) rfl (wanted_none rfl _) (run_assign rfl (E.get 0 rfl)) fun a E => ?_
  refine wpList_nil ?_
  refine then_n ?_
  refine wp_seq ?_
  refine wp_seq ?_
  refine wp_region_lit ?_
  refine env_put (d := 14) (v := .slice (p) l.length cap) E rfl (by decide) rfl (wanted_none rfl _) (run_move rfl (E.get 4 rfl)) fun a E => ?_
  refine env_put (d := 15) (v := .int .i64 (l.length : Int)) E rfl (by decide) rfl (wanted_none rfl _) (run_len22 rfl (E.get 0 rfl)) fun a E => ?_
  refine env_put (d := 16) (v := .bool (decide (40 < (l.length : Int)))) E rfl (by decide) rfl (wanted_none rfl _) (run_igtr (E.get 0 rfl) rfl Try.underlying3 rfl) fun a E => ?_
  refine env_put (d := 17) (v := .bool (decide (40 < (l.length : Int)))) E rfl (by decide) rfl (wanted_none rfl _) (run_move rfl (E.get 0 rfl)) fun a E => ?_
  cases hq1 : (decide (40 < (l.length : Int))) with
  | false =>
    rw [hq1] at E
    have hn40 : l.length ≤ 40 := by have := of_decide_eq_false hq1; omega
    have hn : l.length ≤ 20000 := by omega
    refine env_put (d := 18) (v := .agg (ptC v)) E rfl (by decide) rfl (w_yes (g := 3) (s := 17) E rfl rfl (by decide) (E.get 0 rfl)) (ld_pt rfl (E.get 7 rfl) hbv) fun a E => ?_
    refine env_call (d := 19) (v := .bool (decide (nearP v))) E rfl (by decide) rfl (w_yes (g := 3) (s := 17) E rfl rfl (by decide) (E.get 1 rfl)) (run_call1 (enters_of Try.func15 (by kernel_rfl) rfl) rfl rfl (E.get 0 rfl)) (is_calls _ _) fun a w1 f1 E => ?_
    have hp := hp.fr f1
    have hbv := ptB.fr hbv f1 id
    have hf := hf.trans f1
    clear f1
    refine env_put (d := 20) (v := .bool (!(decide (nearP v)))) E rfl (by decide) rfl (w_yes (g := 3) (s := 17) E rfl rfl (by decide) (E.get 2 rfl)) (run_not rfl (E.get 0 rfl)) fun a E => ?_
    refine env_put (d := 21) (v := .bool (!(decide (nearP v)))) E rfl (by decide) rfl (wanted_none rfl _) (run_pick_f rfl (E.get 3 rfl) (E.get 0 rfl)) fun a E => ?_
    refine wpList_nil ?_
    refine then_n ?_
    cases hq2 : (decide (nearP v)) with
    | false =>
      rw [hq2] at E
      refine wp_cond_true (E.get 0 rfl) ?_
      refine wp_seq ?_
      refine wp_region_lit ?_
      refine env_put (d := 22) (v := .bool true) E rfl (by decide) rfl (wanted_none rfl _) (run_move rfl (E.get 8 rfl)) fun a E => ?_
      refine env_set (d := 4) (v := .bool true) E rfl (by decide) (wanted_none rfl _) (run_assign rfl (E.get 0 rfl)) fun a E => ?_
      refine wpList_nil ?_
      refine then_n ?_
      refine wp_ret ?_
      refine then_r ?_
      exact ret_tmp (t := 4) rfl E (E.get 0 rfl) ⟨rfl, hf⟩
    | true =>
      rw [hq2] at E
      have hv : nearP v := of_decide_eq_true hq2
      have hvb : (-2097152 ≤ v.1 ∧ v.1 ≤ 2097152) ∧ (-2097152 ≤ v.2 ∧ v.2 ≤ 2097152) := hv
      refine wp_cond_false (E.get 0 rfl) ?_
      refine wp_skip ?_
      refine then_n ?_
      refine wp_seq ?_
      obtain ⟨B, hB⟩ : ∃ B, B = w1.heap.size := ⟨_, rfl⟩
      have hBw : w.heap.size ≤ B := by have := hf.size; omega
      have hbB : bv < B := by rw [hB]; exact lt_of_blk hbv
      replace hp : SegAt2 w1 B p l := by rw [hB]; exact hp
      have hBs : B ≤ w1.heap.size := by omega
      have hO : oS w1 B (.slice none 0 0) [] := World.ownsRow_nil _ _ _ _
      refine wp_region_lit ?_
      refine env_put (d := 6) (v := .slice none 0 0) E rfl (by decide) rfl (wanted_none rfl _) (run_assign rfl rfl) fun a E => ?_
      refine wpList_nil ?_
      refine then_n ?_
      refine wp_seq ?_
      refine wp_seq ?_
      refine wp_region_lit ?_
      refine env_put (d := 7) (v := .int .i64 0) E rfl (by decide) rfl (wanted_none rfl _) (run_assign rfl rfl) fun a E => ?_
      refine wpList_nil ?_
      refine then_n ?_
      refine wp_block ?_
      refine wp_loop (fun a w2 => ∃ (i : Nat) (mv1 : Value), Env 105 [(7, .int .i64 (i : Int)), (6, mv1), (5, .bool true), (3, .pointer (some ⟨bv, 0, none⟩)), (0, .slice (p) l.length cap)] a ∧ i ≤ l.length ∧ oS w2 B mv1 ((l.take i).map (mvS v)) ∧ SegAt2 w2 B p l ∧ ptB w2 bv v ∧ bv < B ∧ B ≤ w2.heap.size ∧ Hid (∀ (t : Nat) (s : Sg), t < i → l[t]? = some s → nearS s ∧ nearS (mvS v s)) ∧ Fr (fun _ => False) w w2) (fun a _ => l.length - (intOf (a.eval (.tmp 7))).toNat) ?_ ?_
      · exact ⟨0, .slice none 0 0, E.of ⟨E.get 0 rfl, E.get 1 rfl, E.get 10 rfl, E.get 13 rfl, E.get 14 rfl, trivial⟩, Nat.zero_le _, hO, hp, hbv, hbB, hBs, fun t s h => absurd h (Nat.not_lt_zero _), hf⟩
      clear E
      rintro a w2 ⟨i, mv1, E, hi, hO, hp, hbv, hbB, hBs, hnr, hf⟩
      have hmu : l.length - (intOf (a.eval (.tmp 7))).toNat = l.length - i := by rw [E.get 0 rfl]; first | (simp [intOf]; done) | (simp only [intOf]; omega)
      rw [hmu]
      clear hmu
      refine wp_seq ?_
      refine wp_seq ?_
      refine wp_region_lit ?_
      refine env_put (d := 23) (v := .int .i64 (i : Int)) E rfl (by decide) rfl (wanted_none rfl _) (run_move rfl (E.get 0 rfl)) fun a E => ?_
      refine env_put (d := 24) (v := .slice (p) l.length cap) E rfl (by decide) rfl (wanted_none rfl _) (run_move rfl (E.get 5 rfl)) fun a E => ?_
      refine env_put (d := 25) (v := .int .i64 (l.length : Int)) E rfl (by decide) rfl (wanted_none rfl _) (run_len22 rfl (E.get 0 rfl)) fun a E => ?_
      refine env_put (d := 26) (v := .bool (decide ((i : Int) < (l.length : Int)))) E rfl (by decide) rfl (wanted_none rfl _) (run_ilss (E.get 2 rfl) (E.get 0 rfl) Try.underlying3 rfl) fun a E => ?_
      refine wpList_nil ?_
      refine then_n ?_
      cases hq4 : (decide ((i : Int) < (l.length : Int))) with
      | false =>
        rw [hq4] at E
        obtain rfl : i = l.length := by have := of_decide_eq_false hq4; omega
        rw [List.take_length] at hO
        obtain ⟨pb, cb, hve, hp2⟩ := hO.segAt
        subst hve
        replace hp := hp.segAt hBs
        have hl2 : (l.map (mvS v)).length ≤ 20000 := by rw [List.length_map]; exact hn
        have hom : outL (l.map (mvS v)) = outL l := out_moved (fun t s hs => hnr.out t s (List.getElem?_eq_some_iff.1 hs).1 hs)
        refine wp_cond_false (E.get 0 rfl) ?_
        refine wp_exit ?_
        refine then_e ?_
        refine then_e ?_
        refine blk_e ?_
        refine then_n ?_
        refine wp_seq ?_
        refine wp_region_lit ?_
        refine env_put (d := 82) (v := .slice (p) l.length cap) E rfl (by decide) rfl (wanted_none rfl _) (run_move rfl (E.get 8 rfl)) fun a E => ?_
        refine env_all (d := 83) (l := l) E rfl (by decide) rfl (wanted_none rfl _) rfl (E.get 0 rfl) hn hp fun a w1 r1 hr1 f1 E => ?_
        replace hr1 := hr1.mtR
        obtain ⟨p1, c1, hve⟩ := hr1.1
        subst hve
        have hp := hp.fr f1
        have hp2 := hp2.fr f1
        have hf := hf.trans f1
        clear f1
        refine env_put (d := 81) (v := .tuple #[.slice (p1) (outL l).length c1, .int .i64 0]) E rfl (by decide) rfl (wanted_none rfl _) (run_move rfl (E.get 0 rfl)) fun a E => ?_
        refine env_put (d := 84) (v := .slice (p1) (outL l).length c1) E rfl (by decide) rfl (wanted_none rfl _) (run_ext0 rfl (E.get 0 rfl)) fun a E => ?_
        refine env_put (d := 85) (v := .int .i64 0) E rfl (by decide) rfl (wanted_none rfl _) (run_ext1 rfl (E.get 1 rfl)) fun a E => ?_
        refine env_put (d := 9) (v := .slice (p1) (outL l).length c1) E rfl (by decide) rfl (wanted_none rfl _) (run_assign rfl (E.get 1 rfl)) fun a E => ?_
        refine env_put (d := 10) (v := .int .i64 0) E rfl (by decide) rfl (wanted_none rfl _) (run_assign rfl (E.get 1 rfl)) fun a E => ?_
        refine wpList_nil ?_
        refine then_n ?_
        refine wp_seq ?_
        refine wp_region_lit ?_
        refine env_put (d := 87) (v := .slice (pb) (l.map (mvS v)).length cb) E rfl (by decide) rfl (wanted_none rfl _) (run_move rfl (E.get 12 rfl)) fun a E => ?_
        refine env_all (d := 88) (l := (l.map (mvS v))) E rfl (by decide) rfl (wanted_none rfl _) rfl (E.get 0 rfl) hl2 hp2 fun a w1 r2 hr2 f1 E => ?_
        replace hr2 := hr2.mtR
        obtain ⟨p2, c2, hve⟩ := hr2.1
        subst hve
        have hp := hp.fr f1
        have hp2 := hp2.fr f1
        have hr1 := hr1.fr f1
        have hf := hf.trans f1
        clear f1
        refine env_put (d := 86) (v := .tuple #[.slice (p2) (outL (l.map (mvS v))).length c2, .int .i64 0]) E rfl (by decide) rfl (wanted_none rfl _) (run_move rfl (E.get 0 rfl)) fun a E => ?_
        refine env_put (d := 89) (v := .slice (p2) (outL (l.map (mvS v))).length c2) E rfl (by decide) rfl (wanted_none rfl _) (run_ext0 rfl (E.get 0 rfl)) fun a E => ?_
        refine env_put (d := 90) (v := .int .i64 0) E rfl (by decide) rfl (wanted_none rfl _) (run_ext1 rfl (E.get 1 rfl)) fun a E => ?_
        refine env_put (d := 11) (v := .slice (p2) (outL (l.map (mvS v))).length c2) E rfl (by decide) rfl (wanted_none rfl _) (run_assign rfl (E.get 1 rfl)) fun a E => ?_
        refine env_put (d := 12) (v := .int .i64 0) E rfl (by decide) rfl (wanted_none rfl _) (run_assign rfl (E.get 1 rfl)) fun a E => ?_
        refine wpList_nil ?_
        refine then_n ?_
        refine wp_seq ?_
        refine wp_region_lit ?_
        refine env_put (d := 91) (v := .bool true) E rfl (by decide) rfl (wanted_none rfl _) (run_move rfl (E.get 20 rfl)) fun a E => ?_
        refine env_put (d := 92) (v := .bool true) E rfl (by decide) rfl (wanted_none rfl _) (run_move rfl (E.get 0 rfl)) fun a E => ?_
        refine env_put (d := 93) (v := .int .i64 0) E rfl (by decide) rfl (w_yes (g := 1) (s := 92) E rfl rfl (by decide) (E.get 0 rfl)) (run_move rfl (E.get 9 rfl)) fun a E => ?_
        refine env_put (d := 94) (v := .bool true) E rfl (by decide) rfl (w_yes (g := 1) (s := 92) E rfl rfl (by decide) (E.get 1 rfl)) (run_ieql (m := 0) (n := 0) (E.get 0 rfl) rfl Try.underlying25 rfl) fun a E => ?_
        refine env_put (d := 95) (v := .bool true) E rfl (by decide) rfl (wanted_none rfl _) (run_pick_t rfl (E.get 2 rfl) (E.get 0 rfl)) fun a E => ?_
        refine env_put (d := 96) (v := .bool true) E rfl (by decide) rfl (wanted_none rfl _) (run_move rfl (E.get 0 rfl)) fun a E => ?_
        refine env_put (d := 97) (v := .int .i64 0) E rfl (by decide) rfl (w_yes (g := 5) (s := 96) E rfl rfl (by decide) (E.get 0 rfl)) (run_move rfl (E.get 6 rfl)) fun a E => ?_
        refine env_put (d := 98) (v := .bool true) E rfl (by decide) rfl (w_yes (g := 5) (s := 96) E rfl rfl (by decide) (E.get 1 rfl)) (run_ieql (m := 0) (n := 0) (E.get 0 rfl) rfl Try.underlying25 rfl) fun a E => ?_
        refine env_put (d := 99) (v := .bool true) E rfl (by decide) rfl (wanted_none rfl _) (run_pick_t rfl (E.get 2 rfl) (E.get 0 rfl)) fun a E => ?_
        refine env_put (d := 100) (v := .bool true) E rfl (by decide) rfl (wanted_none rfl _) (run_move rfl (E.get 0 rfl)) fun a E => ?_
        refine env_put (d := 101) (v := .slice (p1) (outL l).length c1) E rfl (by decide) rfl (w_yes (g := 9) (s := 100) E rfl rfl (by decide) (E.get 0 rfl)) (run_move rfl (E.get 18 rfl)) fun a E => ?_
        refine env_put (d := 102) (v := .slice (p2) (outL (l.map (mvS v))).length c2) E rfl (by decide) rfl (w_yes (g := 9) (s := 100) E rfl rfl (by decide) (E.get 1 rfl)) (run_move rfl (E.get 12 rfl)) fun a E => ?_
        refine env_call (d := 103) (v := .bool true) E rfl (by decide) rfl (w_yes (g := 9) (s := 100) E rfl rfl (by decide) (E.get 2 rfl)) (run_call2 (enters_of Try.func12 (by kernel_rfl) rfl) rfl rfl (E.get 1 rfl) (E.get 0 rfl)) (by have h := same_calls _ _ (outL l) (outL (l.map (mvS v))) _ hr1 hr2 (by have := out_len40 hn40; omega); rw [decide_eq_true hom.symm] at h; exact h) fun a w1 f1 E => ?_
        have hp := hp.fr f1
        have hp2 := hp2.fr f1
        have hr1 := hr1.fr f1
        have hr2 := hr2.fr f1
        have hf := hf.trans f1
        clear f1
        refine env_put (d := 104) (v := .bool true) E rfl (by decide) rfl (wanted_none rfl _) (run_pick_t rfl (E.get 3 rfl) (E.get 0 rfl)) fun a E => ?_
        refine env_put (d := 4) (v := .bool true) E rfl (by decide) rfl (wanted_none rfl _) (run_assign rfl (E.get 0 rfl)) fun a E => ?_
        refine wpList_nil ?_
        refine then_n ?_
        refine wp_ret ?_
        exact ret_tmp (t := 4) rfl E (E.get 0 rfl) ⟨rfl, hf⟩
      | true =>
        rw [hq4] at E
        have hlt : i < l.length := by have := of_decide_eq_true hq4; omega
        obtain ⟨s, hs⟩ : ∃ s, l[i]? = some s := ⟨_, List.getElem?_eq_getElem hlt⟩
        obtain ⟨g, off, hpe, hgl, hseg⟩ := hp.at hlt
        have hfl : ((l.take i).map (mvS v)).length ≤ 400000000 := by rw [List.length_map, List.length_take]; omega
        refine wp_cond_true (E.get 0 rfl) ?_
        refine wp_skip ?_
        refine then_n ?_
        refine wp_seq ?_
        refine wp_block ?_
        refine wp_seq ?_
        refine wp_seq ?_
        refine wp_region_lit ?_
        refine env_put (d := 29) (v := .slice (p) l.length cap) E rfl (by decide) rfl (wanted_none rfl _) (run_move rfl (E.get 8 rfl)) fun a E => ?_
        refine env_put (d := 30) (v := .int .i64 (i : Int)) E rfl (by decide) rfl (wanted_none rfl _) (run_move rfl (E.get 5 rfl)) fun a E => ?_
        refine env_put (d := 31) (v := .pointer (some ⟨g, (off + i * 4), none⟩)) E rfl (by decide) rfl (wanted_none rfl _) (run_index22 rfl ((E.get 1 rfl).trans (by rw [hpe])) (E.get 0 rfl) hlt) fun a E => ?_
        refine env_put (d := 32) (v := .agg (sgC s)) E rfl (by decide) rfl (wanted_none rfl _) (run_ld34 rfl (E.get 0 rfl) (hseg _ _ hs)) fun a E => ?_
        refine env_call (d := 33) (v := .bool (decide (nearS s))) E rfl (by decide) rfl (wanted_none rfl _) (run_call1 (enters_of Try.func16 (by kernel_rfl) rfl) rfl rfl (E.get 0 rfl)) (seg_calls _ _) fun a w1 f1 E => ?_
        have hp := hp.fr f1 (fun _ _ h => h)
        have hbv := ptB.fr hbv f1 id
        have hO := own_fr hO f1 (fun _ _ h => h)
        have hBs := Nat.le_trans hBs f1.size
        have hseg := hseg.fr f1 id
        have hf := hf.trans f1
        clear f1
        refine env_put (d := 34) (v := .bool (!(decide (nearS s)))) E rfl (by decide) rfl (wanted_none rfl _) (run_not rfl (E.get 0 rfl)) fun a E => ?_
        refine wpList_nil ?_
        refine then_n ?_
        cases hq5 : (decide (nearS s)) with
        | false =>
          rw [hq5] at E
          refine wp_cond_true (E.get 0 rfl) ?_
          refine wp_seq ?_
          refine wp_region_lit ?_
          refine env_put (d := 35) (v := .bool true) E rfl (by decide) rfl (wanted_none rfl _) (run_move rfl (E.get 12 rfl)) fun a E => ?_
          refine env_put (d := 4) (v := .bool true) E rfl (by decide) rfl (wanted_none rfl _) (run_assign rfl (E.get 0 rfl)) fun a E => ?_
          refine wpList_nil ?_
          refine then_n ?_
          refine wp_ret ?_
          refine then_r ?_
          refine blk_r ?_
          refine then_r ?_
          refine then_r ?_
          refine blk_r ?_
          refine then_r ?_
          exact ret_tmp (t := 4) rfl E (E.get 0 rfl) ⟨rfl, hf⟩
        | true =>
          rw [hq5] at E
          have hns : nearS s := of_decide_eq_true hq5
          have hsb : ((-2097152 ≤ s.1.1 ∧ s.1.1 ≤ 2097152) ∧ (-2097152 ≤ s.1.2 ∧ s.1.2 ≤ 2097152)) ∧ ((-2097152 ≤ s.2.1 ∧ s.2.1 ≤ 2097152) ∧ (-2097152 ≤ s.2.2 ∧ s.2.2 ≤ 2097152)) := hns
          have hOlt : ∀ k, mv1.ownBlock = some k → k < w1.heap.size := fun k h => (own_lt hO h).2
          have hO0 := hO
          refine wp_cond_false (E.get 0 rfl) ?_
          refine wp_skip ?_
          refine then_n ?_
          refine wp_seq ?_
          refine wp_region_invx (G := Nat) 0 (n := 105) (base := [(34, .bool false), (33, .bool true), (32, .agg (sgC s)), (31, .pointer (some ⟨g, (off + i * 4), none⟩)), (30, .int .i64 (i : Int)), (29, .slice (p) l.length cap), (26, .bool true), (25, .int .i64 (l.length : Int)), (24, .slice (p) l.length cap), (23, .int .i64 (i : Int)), (7, .int .i64 (i : Int)), (6, mv1), (5, .bool true), (3, .pointer (some ⟨bv, 0, none⟩)), (0, .slice (p) l.length cap)]) (U := []) (T := fun γ => [some (36, .slice (p) l.length cap), some (37, .int .i64 (i : Int)), some (38, .pointer (some ⟨g, (off + i * 4), none⟩)), some (39, .pointer (some ⟨g, ((off + i * 4) + 0), none⟩)), some (40, .pointer (some ⟨g, (((off + i * 4) + 0) + 0), none⟩)), some (41, .int .i64 s.1.1), some (42, .pointer (some ⟨bv, (0 + 0), none⟩)), some (43, .int .i64 v.1), some (44, .int .i64 (s.1.1 + v.1)), some (45, .slice (p) l.length cap), some (46, .int .i64 (i : Int)), some (47, .pointer (some ⟨g, (off + i * 4), none⟩)), some (48, .pointer (some ⟨g, ((off + i * 4) + 0), none⟩)), some (49, .pointer (some ⟨g, (((off + i * 4) + 0) + 1), none⟩)), some (50, .int .i64 s.1.2), some (51, .pointer (some ⟨bv, (0 + 1), none⟩)), some (52, .int .i64 v.2), some (53, .int .i64 (s.1.2 + v.2)), some (54, .slice (p) l.length cap), some (55, .int .i64 (i : Int)), some (56, .pointer (some ⟨g, (off + i * 4), none⟩)), some (57, .pointer (some ⟨g, ((off + i * 4) + 2), none⟩)), some (58, .pointer (some ⟨g, (((off + i * 4) + 2) + 0), none⟩)), some (59, .int .i64 s.2.1), some (60, .pointer (some ⟨bv, (0 + 0), none⟩)), some (61, .int .i64 v.1), some (62, .int .i64 (s.2.1 + v.1)), some (63, .slice (p) l.length cap), some (64, .int .i64 (i : Int)), some (65, .pointer (some ⟨g, (off + i * 4), none⟩)), some (66, .pointer (some ⟨g, ((off + i * 4) + 2), none⟩)), some (67, .pointer (some ⟨g, (((off + i * 4) + 2) + 1), none⟩)), some (68, .int .i64 s.2.2), some (69, .pointer (some ⟨bv, (0 + 1), none⟩)), some (70, .int .i64 v.2), some (71, .int .i64 (s.2.2 + v.2)), some (72, .agg (sgC (((s.1.1 + v.1), (s.1.2 + v.2)), ((s.2.1 + v.1), (s.2.2 + v.2))))), some (8, .pointer (some ⟨γ, 0, none⟩)), none]) (M := fun γ ls9 w5 => Fr (fun k => w1.heap.size ≤ k) w1 w5 ∧ (ls9 37 = true → w1.heap.size ≤ γ ∧ sgB w5 γ (bif ls9 38 then (((s.1.1 + v.1), (s.1.2 + v.2)), ((s.2.1 + v.1), (s.2.2 + v.2))) else ((0, 0), (0, 0))))) (by kernel_rfl) (by kernel_rfl) (fun _ => by kernel_rfl) (E.of ⟨E.get 0 rfl, E.get 1 rfl, E.get 2 rfl, E.get 3 rfl, E.get 4 rfl, E.get 5 rfl, E.get 6 rfl, E.get 7 rfl, E.get 8 rfl, E.get 9 rfl, E.get 10 rfl, E.get 11 rfl, E.get 12 rfl, E.get 13 rfl, E.get 14 rfl, trivial⟩) (fun x hx => by cases hx) ⟨(Fr.refl _ _).drew, fun h => absurd h Bool.false_ne_true⟩ ?_ ?_
          · intro j9 o9 γ ls9 a w5 ho hl E D DL DL2 hB hM
            have hp := hp.fr hM.1 (fun r hr e => by have h9 : w1.heap.size ≤ r := e; omega)
            have hbv := ptB.fr hbv hM.1 (fun e => by have h9 : w1.heap.size ≤ bv := e; omega)
            have hBs := Nat.le_trans hBs hM.1.size
            have hseg := segR.fr hseg hM.1 (fun e => by have h9 : w1.heap.size ≤ g := e; omega)
            match j9, ho, hl, D, DL, hB with
            | 0, ho, hl, D, DL, hB =>
              obtain rfl := Option.some.inj ho
              clear ho
              exact ⟨fun _ => valx rfl (run_move rfl (E.get 14 rfl)) rfl hM, fun h => by rw [wanted_none rfl] at h; cases h⟩
            | 1, ho, hl, D, DL, hB =>
              obtain rfl := Option.some.inj ho
              clear ho
              exact ⟨fun _ => valx rfl (run_move rfl (E.get 10 rfl)) rfl hM, fun h => by rw [wanted_none rfl] at h; cases h⟩
            | 2, ho, hl, D, DL, hB =>
              obtain rfl := Option.some.inj ho
              clear ho
              exact ⟨fun _ => valx rfl (run_index22 rfl ((D 0 _ rfl rfl).trans (by rw [hpe])) (D 1 _ rfl rfl) hlt) rfl hM, fun h => by rw [wanted_none rfl] at h; cases h⟩
            | 3, ho, hl, D, DL, hB =>
              obtain rfl := Option.some.inj ho
              clear ho
              exact ⟨fun _ => valx rfl (fa34_at0 rfl (D 2 _ rfl rfl)) rfl hM, fun h => by rw [wanted_none rfl] at h; cases h⟩
            | 4, ho, hl, D, DL, hB =>
              obtain rfl := Option.some.inj ho
              clear ho
              exact ⟨fun _ => valx rfl (fa32_at (by decide) rfl (D 3 _ rfl rfl)) rfl hM, fun h => by rw [wanted_none rfl] at h; cases h⟩
            | 5, ho, hl, D, DL, hB =>
              obtain rfl := Option.some.inj ho
              clear ho
              exact ⟨fun _ => valx rfl (ld3_at (k := 0) rfl ((D 4 _ rfl rfl).trans (by rw [Nat.add_assoc])) (hseg _ _ hs) rfl) rfl hM, fun h => by rw [wanted_none rfl] at h; cases h⟩
            | 6, ho, hl, D, DL, hB =>
              obtain rfl := Option.some.inj ho
              clear ho
              exact ⟨fun _ => valx rfl (fa32_at (by decide) rfl (E.get 13 rfl)) rfl hM, fun h => by rw [wanted_none rfl] at h; cases h⟩
            | 7, ho, hl, D, DL, hB =>
              obtain rfl := Option.some.inj ho
              clear ho
              exact ⟨fun _ => valx rfl (ld3_at rfl (D 6 _ rfl rfl) (ptB.rng hbv) rfl) rfl hM, fun h => by rw [wanted_none rfl] at h; cases h⟩
            | 8, ho, hl, D, DL, hB =>
              obtain rfl := Option.some.inj ho
              clear ho
              exact ⟨fun _ => valx rfl (run_iadd (D 5 _ rfl rfl) (D 7 _ rfl rfl) (by omega) (by omega) rfl) rfl hM, fun h => by rw [wanted_none rfl] at h; cases h⟩
            | 9, ho, hl, D, DL, hB =>
              obtain rfl := Option.some.inj ho
              clear ho
              exact ⟨fun _ => valx rfl (run_move rfl (E.get 14 rfl)) rfl hM, fun h => by rw [wanted_none rfl] at h; cases h⟩
            | 10, ho, hl, D, DL, hB =>
              obtain rfl := Option.some.inj ho
              clear ho
              exact ⟨fun _ => valx rfl (run_move rfl (E.get 10 rfl)) rfl hM, fun h => by rw [wanted_none rfl] at h; cases h⟩
            | 11, ho, hl, D, DL, hB =>
              obtain rfl := Option.some.inj ho
              clear ho
              exact ⟨fun _ => valx rfl (run_index22 rfl ((D 9 _ rfl rfl).trans (by rw [hpe])) (D 10 _ rfl rfl) hlt) rfl hM, fun h => by rw [wanted_none rfl] at h; cases h⟩
            | 12, ho, hl, D, DL, hB =>
              obtain rfl := Option.some.inj ho
              clear ho
              exact ⟨fun _ => valx rfl (fa34_at0 rfl (D 11 _ rfl rfl)) rfl hM, fun h => by rw [wanted_none rfl] at h; cases h⟩
            | 13, ho, hl, D, DL, hB =>
              obtain rfl := Option.some.inj ho
              clear ho
              exact ⟨fun _ => valx rfl (fa32_at (by decide) rfl (D 12 _ rfl rfl)) rfl hM, fun h => by rw [wanted_none rfl] at h; cases h⟩
            | 14, ho, hl, D, DL, hB =>
              obtain rfl := Option.some.inj ho
              clear ho
              exact ⟨fun _ => valx rfl (ld3_at (k := 1) rfl ((D 13 _ rfl rfl).trans (by rw [Nat.add_assoc])) (hseg _ _ hs) rfl) rfl hM, fun h => by rw [wanted_none rfl] at h; cases h⟩
            | 15, ho, hl, D, DL, hB =>
              obtain rfl := Option.some.inj ho
              clear ho
              exact ⟨fun _ => valx rfl (fa32_at (by decide) rfl (E.get 13 rfl)) rfl hM, fun h => by rw [wanted_none rfl] at h; cases h⟩
            | 16, ho, hl, D, DL, hB =>
              obtain rfl := Option.some.inj ho
              clear ho
              exact ⟨fun _ => valx rfl (ld3_at rfl (D 15 _ rfl rfl) (ptB.rng hbv) rfl) rfl hM, fun h => by rw [wanted_none rfl] at h; cases h⟩
            | 17, ho, hl, D, DL, hB =>
              obtain rfl := Option.some.inj ho
              clear ho
              exact ⟨fun _ => valx rfl (run_iadd (D 14 _ rfl rfl) (D 16 _ rfl rfl) (by omega) (by omega) rfl) rfl hM, fun h => by rw [wanted_none rfl] at h; cases h⟩
            | 18, ho, hl, D, DL, hB =>
              obtain rfl := Option.some.inj ho
              clear ho
              exact ⟨fun _ => valx rfl (run_move rfl (E.get 14 rfl)) rfl hM, fun h => by rw [wanted_none rfl] at h; cases h⟩
            | 19, ho, hl, D, DL, hB =>
              obtain rfl := Option.some.inj ho
              clear ho
              exact ⟨fun _ => valx rfl (run_move rfl (E.get 10 rfl)) rfl hM, fun h => by rw [wanted_none rfl] at h; cases h⟩
            | 20, ho, hl, D, DL, hB =>
              obtain rfl := Option.some.inj ho
              clear ho
              exact ⟨fun _ => valx rfl (run_index22 rfl ((D 18 _ rfl rfl).trans (by rw [hpe])) (D 19 _ rfl rfl) hlt) rfl hM, fun h => by rw [wanted_none rfl] at h; cases h⟩
            | 21, ho, hl, D, DL, hB =>
              obtain rfl := Option.some.inj ho
              clear ho
              exact ⟨fun _ => valx rfl (fa34_at1 rfl (D 20 _ rfl rfl)) rfl hM, fun h => by rw [wanted_none rfl] at h; cases h⟩
            | 22, ho, hl, D, DL, hB =>
              obtain rfl := Option.some.inj ho
              clear ho
              exact ⟨fun _ => valx rfl (fa32_at (by decide) rfl (D 21 _ rfl rfl)) rfl hM, fun h => by rw [wanted_none rfl] at h; cases h⟩
            | 23, ho, hl, D, DL, hB =>
              obtain rfl := Option.some.inj ho
              clear ho
              exact ⟨fun _ => valx rfl (ld3_at (k := 2) rfl ((D 22 _ rfl rfl).trans (by rw [Nat.add_assoc])) (hseg _ _ hs) rfl) rfl hM, fun h => by rw [wanted_none rfl] at h; cases h⟩
            | 24, ho, hl, D, DL, hB =>
              obtain rfl := Option.some.inj ho
              clear ho
              exact ⟨fun _ => valx rfl (fa32_at (by decide) rfl (E.get 13 rfl)) rfl hM, fun h => by rw [wanted_none rfl] at h; cases h⟩
            | 25, ho, hl, D, DL, hB =>
              obtain rfl := Option.some.inj ho
              clear ho
              exact ⟨fun _ => valx rfl (ld3_at rfl (D 24 _ rfl rfl) (ptB.rng hbv) rfl) rfl hM, fun h => by rw [wanted_none rfl] at h; cases h⟩
            | 26, ho, hl, D, DL, hB =>
              obtain rfl := Option.some.inj ho
              clear ho
              exact ⟨fun _ => valx rfl (run_iadd (D 23 _ rfl rfl) (D 25 _ rfl rfl) (by omega) (by omega) rfl) rfl hM, fun h => by rw [wanted_none rfl] at h; cases h⟩
            | 27, ho, hl, D, DL, hB =>
              obtain rfl := Option.some.inj ho
              clear ho
              exact ⟨fun _ => valx rfl (run_move rfl (E.get 14 rfl)) rfl hM, fun h => by rw [wanted_none rfl] at h; cases h⟩
            | 28, ho, hl, D, DL, hB =>
              obtain rfl := Option.some.inj ho
              clear ho
              exact ⟨fun _ => valx rfl (run_move rfl (E.get 10 rfl)) rfl hM, fun h => by rw [wanted_none rfl] at h; cases h⟩
            | 29, ho, hl, D, DL, hB =>
              obtain rfl := Option.some.inj ho
              clear ho
              exact ⟨fun _ => valx rfl (run_index22 rfl ((D 27 _ rfl rfl).trans (by rw [hpe])) (D 28 _ rfl rfl) hlt) rfl hM, fun h => by rw [wanted_none rfl] at h; cases h⟩
            | 30, ho, hl, D, DL, hB =>
              obtain rfl := Option.some.inj ho
              clear ho
              exact ⟨fun _ => valx rfl (fa34_at1 rfl (D 29 _ rfl rfl)) rfl hM, fun h => by rw [wanted_none rfl] at h; cases h⟩
            | 31, ho, hl, D, DL, hB =>
              obtain rfl := Option.some.inj ho
              clear ho
              exact ⟨fun _ => valx rfl (fa32_at (by decide) rfl (D 30 _ rfl rfl)) rfl hM, fun h => by rw [wanted_none rfl] at h; cases h⟩
            | 32, ho, hl, D, DL, hB =>
              obtain rfl := Option.some.inj ho
              clear ho
              exact ⟨fun _ => valx rfl (ld3_at (k := 3) rfl ((D 31 _ rfl rfl).trans (by rw [Nat.add_assoc])) (hseg _ _ hs) rfl) rfl hM, fun h => by rw [wanted_none rfl] at h; cases h⟩
            | 33, ho, hl, D, DL, hB =>
              obtain rfl := Option.some.inj ho
              clear ho
              exact ⟨fun _ => valx rfl (fa32_at (by decide) rfl (E.get 13 rfl)) rfl hM, fun h => by rw [wanted_none rfl] at h; cases h⟩
            | 34, ho, hl, D, DL, hB =>
              obtain rfl := Option.some.inj ho
              clear ho
              exact ⟨fun _ => valx rfl (ld3_at rfl (D 33 _ rfl rfl) (ptB.rng hbv) rfl) rfl hM, fun h => by rw [wanted_none rfl] at h; cases h⟩
            | 35, ho, hl, D, DL, hB =>
              obtain rfl := Option.some.inj ho
              clear ho
              exact ⟨fun _ => valx rfl (run_iadd (D 32 _ rfl rfl) (D 34 _ rfl rfl) (by omega) (by omega) rfl) rfl hM, fun h => by rw [wanted_none rfl] at h; cases h⟩
            | 36, ho, hl, D, DL, hB =>
              obtain rfl := Option.some.inj ho
              clear ho
              exact ⟨fun _ => callx rfl (run_call4 (enters_of Try.func17 (by kernel_rfl) rfl) rfl rfl (D 8 _ rfl rfl) (D 17 _ rfl rfl) (D 26 _ rfl rfl) (D 35 _ rfl rfl)) (side_calls _ _ _ _ _) rfl fun w9 f1 => ⟨hM.1.trans' f1 (fun _ _ h => h.elim), fun h => ⟨(hM.2 h).1, sgB.fr (hM.2 h).2 f1 id⟩⟩, fun h => by rw [wanted_none rfl] at h; cases h⟩
            | 37, ho, hl, D, DL, hB =>
              have h0 : ls9 38 = false := by
                cases hs9 : ls9 38 with
                | false => rfl
                | true => exact absurd (hl.symm.trans (DL2 38 37 rfl hs9)) (by decide)
              obtain rfl := Option.some.inj ho
              exact ⟨fun _ => valxw w5.heap.size rfl (run_alloc34 rfl) rfl (fun j hj => match j, hj with | 0, _ => rfl | 1, _ => rfl | 2, _ => rfl | 3, _ => rfl | 4, _ => rfl | 5, _ => rfl | 6, _ => rfl | 7, _ => rfl | 8, _ => rfl | 9, _ => rfl | 10, _ => rfl | 11, _ => rfl | 12, _ => rfl | 13, _ => rfl | 14, _ => rfl | 15, _ => rfl | 16, _ => rfl | 17, _ => rfl | 18, _ => rfl | 19, _ => rfl | 20, _ => rfl | 21, _ => rfl | 22, _ => rfl | 23, _ => rfl | 24, _ => rfl | 25, _ => rfl | 26, _ => rfl | 27, _ => rfl | 28, _ => rfl | 29, _ => rfl | 30, _ => rfl | 31, _ => rfl | 32, _ => rfl | 33, _ => rfl | 34, _ => rfl | 35, _ => rfl | 36, _ => rfl | 37, hj => absurd (hl.symm.trans hj) (by decide) | 38, _ => rfl | e9 + 39, _ => rfl) ⟨hM.1.trans' ((Fr.refl (fun _ => False) w5).alloc _) (fun _ _ h => h.elim), fun _ => ⟨hM.1.size, (show sgB _ _ (bif ls9 38 then _ else _) from by rw [h0]; exact blk_alloc_new _ _)⟩⟩, fun h => by rw [wanted_none rfl] at h; cases h⟩
            | 38, ho, hl, D, DL, hB =>
              have hs9 := (hM.2 (DL 37 rfl)).2
              obtain rfl := Option.some.inj ho
              exact ⟨fun _ => storex rfl (run_st34 rfl (D 37 _ rfl rfl) (D 36 _ rfl rfl) hs9) rfl ⟨hM.1.trans' (Fr.one4 _ _ _ _ _ _) (fun r hr e => by have h8 := (hM.2 (DL 37 rfl)).1; have h9 : r = _ := e; omega), fun _ => ⟨(hM.2 (DL 37 rfl)).1, hs9.set _⟩⟩, fun h => by rw [wanted_none rfl] at h; cases h⟩
            | j9 + 39, ho, hl, D, DL, hB => exact absurd ho (by simp)
          · rintro γ6a a w5 E V hM
            have E := E.add (v := .pointer (some ⟨γ6a, 0, none⟩)) (V 37 _ rfl)
            clear V
            have hsg : sgB w5 γ6a (mvS v s) := (hM.2 rfl).2
            have hgw := (hM.2 rfl).1
            have hp := hp.fr hM.1 (fun r hr e => by have h9 : w1.heap.size ≤ r := e; omega)
            have hbv := ptB.fr hbv hM.1 (fun e => by have h9 : w1.heap.size ≤ bv := e; omega)
            have hO := own_frG hO hM.1 hOlt
            have hBs := Nat.le_trans hBs hM.1.size
            have hseg := segR.fr hseg hM.1 (fun e => by have h9 : w1.heap.size ≤ g := e; omega)
            have hf := hf.trans' hM.1 fun r hr e => by have h9 := hf.size; have h8 : w1.heap.size ≤ r := e; omega
            clear hM
            refine then_n ?_
            refine wp_seq ?_
            refine wp_seq ?_
            refine wp_region_lit ?_
            refine env_put (d := 73) (v := .agg (sgC (mvS v s))) E rfl (by decide) rfl (wanted_none rfl _) (ld_sg rfl (E.get 0 rfl) hsg) fun a E => ?_
            refine env_call (d := 74) (v := .bool (decide (nearS (mvS v s)))) E rfl (by decide) rfl (wanted_none rfl _) (run_call1 (enters_of Try.func16 (by kernel_rfl) rfl) rfl rfl (E.get 0 rfl)) (seg_calls _ _) fun a w1 f1 E => ?_
            have hp := hp.fr f1 (fun _ _ h => h)
            have hbv := ptB.fr hbv f1 id
            have hO := own_fr hO f1 (fun _ _ h => h)
            have hBs := Nat.le_trans hBs f1.size
            have hseg := hseg.fr f1 id
            have hsg := sgB.fr hsg f1 id
            have hf := hf.trans f1
            clear f1
            refine env_put (d := 75) (v := .bool (!(decide (nearS (mvS v s))))) E rfl (by decide) rfl (wanted_none rfl _) (run_not rfl (E.get 0 rfl)) fun a E => ?_
            refine wpList_nil ?_
            refine then_n ?_
            cases hq7 : (decide (nearS (mvS v s))) with
            | false =>
              rw [hq7] at E
              refine wp_cond_true (E.get 0 rfl) ?_
              refine wp_seq ?_
              refine wp_region_lit ?_
              refine env_put (d := 76) (v := .bool true) E rfl (by decide) rfl (wanted_none rfl _) (run_move rfl (E.get 16 rfl)) fun a E => ?_
              refine env_put (d := 4) (v := .bool true) E rfl (by decide) rfl (wanted_none rfl _) (run_assign rfl (E.get 0 rfl)) fun a E => ?_
              refine wpList_nil ?_
              refine then_n ?_
              refine wp_ret ?_
              refine then_r ?_
              refine blk_r ?_
              refine then_r ?_
              refine then_r ?_
              refine blk_r ?_
              refine then_r ?_
              exact ret_tmp (t := 4) rfl E (E.get 0 rfl) ⟨rfl, hf⟩
            | true =>
              rw [hq7] at E
              have hns2 : nearS (mvS v s) := of_decide_eq_true hq7
              refine wp_cond_false (E.get 0 rfl) ?_
              refine wp_skip ?_
              refine then_n ?_
              refine wp_region_lit ?_
              refine env_put (d := 77) (v := mv1) E rfl (by decide) rfl (wanted_none rfl _) (run_move rfl (E.get 15 rfl)) fun a E => ?_
              refine env_put (d := 78) (v := .agg (sgC (mvS v s))) E rfl (by decide) rfl (wanted_none rfl _) (ld_sg rfl (E.get 4 rfl) hsg) fun a E => ?_
              refine env_one34 (d := 79) E rfl (by decide) rfl (wanted_none rfl _) rfl (E.get 0 rfl) fun a w1 b8 _ hb8 f1 E => ?_
              have hp := hp.fr f1 (fun _ _ h => h)
              have hbv := ptB.fr hbv f1 id
              have hO := own_fr hO f1 (fun _ _ h => h)
              have hBs := Nat.le_trans hBs f1.size
              have hseg := hseg.fr f1 id
              have hsg := sgB.fr hsg f1 id
              have hf := hf.trans f1
              clear f1
              refine env_app34 (d := 80) E rfl (by decide) rfl rfl rfl (E.get 2 rfl) hO (E.get 0 rfl) hb8 hfl (by omega) fun a w1 ov9 hO2 f1 hloc E => ?_
              have hp := hp.fr f1 (fun r hr h => by have := (own_lt hO h).1; omega)
              have hbv := ptB.fr hbv f1 (fun h => by have := (own_lt hO h).1; omega)
              have hBs := Nat.le_trans hBs f1.size
              have hseg := hseg.fr f1 (fun h => by have := (own_lt hO h).1; omega)
              have hf := hf.trans' f1 fun r hr h => by have := (own_lt hO h).1; omega
              clear f1
              replace hO := hO2
              clear hloc
              refine env_set (d := 6) (v := ov9) E rfl (by decide) (wanted_none rfl _) (run_assign rfl (E.get 0 rfl)) fun a E => ?_
              refine wpList_nil ?_
              refine blk_n ?_
              refine then_n ?_
              refine wp_region_lit ?_
              refine env_put (d := 27) (v := .int .i64 (i : Int)) E rfl (by decide) rfl (wanted_none rfl _) (run_move rfl (E.get 19 rfl)) fun a E => ?_
              refine env_put (d := 28) (v := .int .i64 ((i : Int) + 1)) E rfl (by decide) rfl (wanted_none rfl _) (run_iadd (E.get 0 rfl) rfl (by omega) (by omega) rfl) fun a E => ?_
              refine env_set (d := 7) (v := .int .i64 ((i : Int) + 1)) E rfl (by decide) (wanted_none rfl _) (run_assign rfl (E.get 0 rfl)) fun a E => ?_
              refine wpList_nil ?_
              refine then_n ?_
              refine ⟨⟨i + 1, ov9, E.of ⟨E.get 0 rfl, E.get 3 rfl, E.get 22 rfl, E.get 23 rfl, E.get 24 rfl, trivial⟩, hlt, ?_, hp, hbv, hbB, hBs, fun t s2 ht hs2 => ?_, hf⟩, ?_⟩
              · rw [List.take_add_one, hs, List.map_append]; exact hO
              · by_cases hti : t < i
                · exact hnr.out t s2 hti hs2
                · obtain rfl : t = i := by omega
                  rw [hs] at hs2
                  obtain rfl := Option.some.inj hs2
                  exact ⟨hns, hns2⟩
              · rw [E.get 0 rfl]; simp only [intOf]; omega
  | true =>
    rw [hq1] at E
    refine env_skip (d := 18) (g := 3) (s := 17) E rfl (by decide) rfl rfl rfl (by decide) (E.get 0 rfl) fun a E => ?_
    refine env_skip (d := 19) (g := 3) (s := 17) E rfl (by decide) rfl rfl rfl (by decide) (E.get 1 rfl) fun a E => ?_
    refine env_skip (d := 20) (g := 3) (s := 17) E rfl (by decide) rfl rfl rfl (by decide) (E.get 2 rfl) fun a E => ?_
    refine env_put (d := 21) (v := .bool true) E rfl (by decide) rfl (wanted_none rfl _) (run_pick_t rfl (E.get 3 rfl) rfl) fun a E => ?_
    refine wpList_nil ?_
    refine then_n ?_
    refine wp_cond_true (E.get 0 rfl) ?_
    refine wp_seq ?_
    refine wp_region_lit ?_
    refine env_put (d := 22) (v := .bool true) E rfl (by decide) rfl (wanted_none rfl _) (run_move rfl (E.get 8 rfl)) fun a E => ?_
    refine env_set (d := 4) (v := .bool true) E rfl (by decide) (wanted_none rfl _) (run_assign rfl (E.get 0 rfl)) fun a E => ?_
    refine wpList_nil ?_
    refine then_n ?_
    refine wp_ret ?_
    refine then_r ?_
    exact ret_tmp (t := 4) rfl E (E.get 0 rfl) ⟨rfl, hf⟩
end Go.Proofs.Ytiainjcimmeedaa
