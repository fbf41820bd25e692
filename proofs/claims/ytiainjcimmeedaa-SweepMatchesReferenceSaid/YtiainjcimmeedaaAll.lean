/- sweep.All. -/
import Derived.Test.YtiainjcimmeedaaSt
set_option linter.unusedVariables false
set_option linter.unusedSimpArgs false
namespace Go.Proofs.Ytiainjcimmeedaa
open Go.RowKit Go.Pl Go.Geo

set_option maxRecDepth 100000 in
set_option maxHeartbeats 8000000 in
theorem all_calls (l : List Sg) (p : Option Addr) (cap : Nat) (w : World) (hn : l.length ≤ 20000) (hp : l = [] ∨ ∃ g off, p = some ⟨g, off, none⟩ ∧ g < w.heap.size ∧ segR w g off l) :
    Calls Try.prog 10 #[.slice p l.length cap] w fun e w' => ∃ v, e = .returned (.tuple #[v, .int .i64 0]) ∧ oM w' w.heap.size v (outL l) ∧ Fr (fun _ => False) w w' := by
  refine wp_start1 Try.func10 rfl rfl (n := 102) (by decide) fun a E => ?_
  refine wp_seq ?_
  refine wp_region_lit ?_
  refine env_put (d := 2) (v := .slice none 0 0) E rfl (by decide) rfl (wanted_none rfl _) (run_assign rfl rfl) fun a E => ?_
  refine env_put (d := 3) (v := .int .i64 0) E rfl (by decide) rfl (wanted_none rfl _) (run_assign rfl rfl) fun a E => ?_
  refine wpList_nil ?_
  refine then_n ?_
  refine wp_seq ?_
  refine wp_seq ?_
  refine wp_region_lit ?_
  refine env_put (d := 14) (v := .slice p l.length cap) E rfl (by decide) rfl (wanted_none rfl _) (run_move rfl (E.get 2 rfl)) fun a E => ?_
  refine env_put (d := 15) (v := .int .i64 (l.length : Int)) E rfl (by decide) rfl (wanted_none rfl _) (run_len22 rfl (E.get 0 rfl)) fun a E => ?_
  refine env_put (d := 16) (v := .bool (decide ((20000 : Int) < (l.length : Int)))) E rfl (by decide) rfl (wanted_none rfl _) (run_igtr (E.get 0 rfl) rfl Try.underlying3 rfl) fun a E => ?_
  refine wpList_nil ?_
  refine then_n ?_
  rw [decide_eq_false (by omega : ¬ (20000 : Int) < (l.length : Int))] at E
  refine wp_cond_false (E.get 0 rfl) ?_
  refine wp_skip ?_
  refine then_n ?_
  refine wp_seq ?_
  refine wp_region_lit ?_
  refine env_put (d := 17) (v := .slice p l.length cap) E rfl (by decide) rfl (wanted_none rfl _) (run_move rfl (E.get 5 rfl)) fun a E => ?_
  refine env_put (d := 18) (v := .int .i64 (l.length : Int)) E rfl (by decide) rfl (wanted_none rfl _) (run_len22 rfl (E.get 0 rfl)) fun a E => ?_
  refine env_make44 (d := 19) E rfl (by decide) rfl (wanted_none rfl _) rfl (E.get 0 rfl) hn fun a w1 G hG hR hf E => ?_
  refine env_put (d := 4) (v := .slice (some ⟨G, 0, none⟩) l.length l.length) E rfl (by decide) rfl (wanted_none rfl _) (run_assign rfl (E.get 0 rfl)) fun a E => ?_
  refine wpList_nil ?_
  refine then_n ?_
  refine wp_seq_cut (fun a w2 => Env 102 [(4, .slice (some ⟨G, 0, none⟩) l.length l.length)] a ∧ rowB w2 G l.length ((List.finRange l.length).map (itAt l)) ∧ Fr (fun _ => False) w w2) ?_ fun a w2 H => ?_
  ·
    refine wp_seq ?_
    refine wp_region_lit ?_
    refine env_put (d := 20) (v := .slice p l.length cap) E rfl (by decide) rfl (wanted_none rfl _) (run_move rfl (E.get 9 rfl)) fun a E => ?_
    refine env_put (d := 21) (v := .int .i64 (l.length : Int)) E rfl (by decide) rfl (wanted_none rfl _) (run_len22 rfl (E.get 0 rfl)) fun a E => ?_
    refine env_put (d := 22) (v := .int .i64 0) E rfl (by decide) rfl (wanted_none rfl _) (run_move rfl rfl) fun a E => ?_
    refine wpList_nil ?_
    refine then_n ?_
    refine wp_block ?_
    refine wp_loop (fun a w2 => ∃ (i : Nat) (R : List It), i ≤ l.length ∧ Hid (R.length = l.length) ∧ Env 102 [(22, .int .i64 (i : Int)), (21, .int .i64 (l.length : Int)), (20, .slice p l.length cap), (4, .slice (some ⟨G, 0, none⟩) l.length l.length)] a ∧ rowB w2 G l.length R ∧ Hid (∀ t (ht : t < l.length), t < i → R[t]? = some (itAt l ⟨t, ht⟩)) ∧ Fr (fun _ => False) w w2) (fun a _ => l.length - (intOf (a.eval (.tmp 22))).toNat) ?_ ?_
    · exact ⟨0, _, Nat.zero_le _, List.length_replicate, E.of ⟨E.get 0 (by simp), E.get 1 rfl, E.get 2 rfl, E.get 3 rfl, trivial⟩, hR, fun t ht h => absurd h (Nat.not_lt_zero _), hf⟩
    clear hR hf
    rintro a w2 ⟨i, R, hi, hRl, E, hR, hpre, hf⟩
    have hmu : l.length - (intOf (a.eval (.tmp 22))).toNat = l.length - i := by rw [E.get 0 rfl]; simp [intOf]
    rw [hmu]
    clear hmu
    refine wp_seq ?_
    refine wp_region_lit ?_
    refine env_put (d := 23) (v := .bool (decide ((i : Int) < (l.length : Int)))) E rfl (by decide) rfl (wanted_none rfl _) (run_ilss (E.get 0 rfl) (E.get 1 rfl) Try.underlying3 rfl) fun a E => ?_
    refine wpList_nil ?_
    refine then_n ?_
    refine wp_seq ?_
    cases hq : decide ((i : Int) < (l.length : Int)) with
    | false =>
      rw [hq] at E
      refine wp_cond_false (E.get 0 rfl) ?_
      refine wp_exit ?_
      refine then_e ?_
      refine then_e ?_
      refine blk_e ?_
      refine then_n ?_
      have hi2 : i = l.length := by have := of_decide_eq_false hq; omega
      have hRe : R = (List.finRange l.length).map (itAt l) := by
        apply List.ext_getElem?
        intro t
        by_cases ht : t < l.length
        · rw [hpre.out t ht (by omega)]; simp [ht]
        · rw [List.getElem?_eq_none (by rw [hRl.out]; omega), List.getElem?_eq_none (by simp; omega)]
      rw [hRe] at hR
      exact ⟨E.of ⟨E.get 4 rfl, trivial⟩, hR, hf⟩
    | true =>
      rw [hq] at E
      refine wp_cond_true (E.get 0 rfl) ?_
      refine wp_skip ?_
      refine then_n ?_
      have hlt : i < l.length := by have := of_decide_eq_true hq; omega
      obtain ⟨gs, off, hpe, hgs, hseg⟩ := hp.resolve_left (by rintro rfl; exact absurd hlt (Nat.not_lt_zero _))
      obtain ⟨A, hA⟩ : ∃ A, A = itAt l ⟨i, hlt⟩ := ⟨_, rfl⟩
      have hAs : l[i]? = some A.s := by rw [hA, List.getElem?_eq_getElem hlt]; rfl
      have hAn : (i : Int) = A.n := by rw [hA, itAt_n hn]
      have hrl : i < R.length := by rw [hRl.out]; exact hlt
      refine wp_seq ?_
      refine wp_block ?_
      refine wp_seq ?_
      refine wp_region_lit ?_
      refine env_put (d := 24) (v := .int .i64 (i : Int)) E rfl (by decide) rfl (wanted_none rfl _) (run_move rfl (E.get 1 rfl)) fun a E => ?_
      refine env_put (d := 25) (v := .pointer (some ⟨gs, off + i * 4, none⟩)) E rfl (by decide) rfl (wanted_none rfl _) (run_index22 rfl ((E.get 4 rfl).trans (by rw [hpe])) (E.get 2 rfl) hlt) fun a E => ?_
      refine env_put (d := 26) (v := .agg (sgC A.s)) E rfl (by decide) rfl (wanted_none rfl _) (run_ld34 rfl (E.get 0 rfl) (hseg.fr hf id i _ hAs)) fun a E => ?_
      refine env_alloc34 (d := 6) E rfl (by decide) rfl (wanted_none rfl _) rfl fun a w3 b e1 hB f1 E => ?_
      have hbG : b ≠ G := by have := hR.lt; omega
      have hbw : w.heap.size ≤ b := by have := hf.size; omega
      have hR := hR.fr f1 id
      have hf := hf.trans f1
      clear e1 f1
      refine env_put (d := 5) (v := .int .i64 (i : Int)) E rfl (by decide) rfl (wanted_none rfl _) (run_assign rfl (E.get 3 rfl)) fun a E => ?_
      refine env_st34 E rfl (wanted_none rfl _) rfl (E.get 1 rfl) (E.get 2 rfl) hB fun w4 hB f1 E => ?_
      have hR := hR.fr f1 (fun e => hbG e.symm)
      have hf := hf.trans' f1 fun r hr e => by have : r = b := e; omega
      clear f1
      refine wpList_nil ?_
      refine then_n ?_
      refine wp_region_inv (n := 102) (base := [(4, .slice (some ⟨G, 0, none⟩) l.length l.length), (5, .int .i64 (i : Int)), (6, .pointer (some ⟨b, 0, none⟩)), (20, .slice p l.length cap), (21, .int .i64 (l.length : Int)), (22, .int .i64 (i : Int))]) (T := [some (27, .slice (some ⟨G, 0, none⟩) l.length l.length), some (28, .int .i64 (i : Int)), some (29, .int .i64 (i : Int)), some (30, .agg (sgC A.s)), some (31, .pointer (some ⟨b, 0, none⟩)), some (32, .pointer (some ⟨b, 0, none⟩)), some (33, .int .i64 A.s.1.1), some (34, .pointer (some ⟨b, 2, none⟩)), some (35, .pointer (some ⟨b, 2, none⟩)), some (36, .int .i64 A.s.2.1), some (37, .agg #[.int .i64 A.xl, .int .i64 A.xh]), some (38, .pointer (some ⟨b, 0, none⟩)), some (39, .pointer (some ⟨b, 1, none⟩)), some (40, .int .i64 A.s.1.2), some (41, .pointer (some ⟨b, 2, none⟩)), some (42, .pointer (some ⟨b, 3, none⟩)), some (43, .int .i64 A.s.2.2), some (44, .agg #[.int .i64 A.yl, .int .i64 A.yh]), some (45, .agg (itC A).toArray), some (46, .pointer (some ⟨G, i * 9, none⟩)), none]) (M := fun lst w5 => Fr (fun k => k = G) w4 w5 ∧ sgB w5 b A.s ∧ (lst 20 = false → rowB w5 G l.length R) ∧ (lst 20 = true → rowB w5 G l.length (R.set i A))) (by kernel_rfl) (by kernel_rfl) (by kernel_rfl) (E.of ⟨E.get 9 rfl, E.get 0 rfl, E.get 1 rfl, E.get 8 rfl, E.get 7 rfl, E.get 6 rfl, trivial⟩) ⟨(Fr.refl _ w4).drew, hB, fun _ => hR, fun h => by cases h⟩ ?_ ?_
      · intro j o tt lst a w5 ho hT0 hl E D DL hM
        match j, ho, hT0, hl, D, DL with
        | 0, ho, hT0, hl, D, DL =>
          obtain rfl := Option.some.inj ho
          obtain rfl := Option.some.inj hT0
          clear ho hT0
          exact val_wp (run_move rfl (E.get 0 rfl)) rfl hM
        | 1, ho, hT0, hl, D, DL =>
          obtain rfl := Option.some.inj ho
          obtain rfl := Option.some.inj hT0
          clear ho hT0
          exact val_wp (run_move rfl (E.get 1 rfl)) rfl hM
        | 2, ho, hT0, hl, D, DL =>
          obtain rfl := Option.some.inj ho
          obtain rfl := Option.some.inj hT0
          clear ho hT0
          exact val_wp (run_move rfl (E.get 1 rfl)) rfl hM
        | 3, ho, hT0, hl, D, DL =>
          obtain rfl := Option.some.inj ho
          obtain rfl := Option.some.inj hT0
          clear ho hT0
          exact val_wp (ld_sg rfl (E.get 2 rfl) hM.2.1) rfl hM
        | 4, ho, hT0, hl, D, DL =>
          obtain rfl := Option.some.inj ho
          obtain rfl := Option.some.inj hT0
          clear ho hT0
          exact val_wp (fa34_0 rfl (E.get 2 rfl)) rfl hM
        | 5, ho, hT0, hl, D, DL =>
          obtain rfl := Option.some.inj ho
          obtain rfl := Option.some.inj hT0
          clear ho hT0
          exact val_wp (fa32_0 rfl (D 4 _ rfl rfl)) rfl hM
        | 6, ho, hT0, hl, D, DL =>
          obtain rfl := Option.some.inj ho
          obtain rfl := Option.some.inj hT0
          clear ho hT0
          exact val_wp (ld_int rfl (D 5 _ rfl rfl) hM.2.1 rfl) rfl hM
        | 7, ho, hT0, hl, D, DL =>
          obtain rfl := Option.some.inj ho
          obtain rfl := Option.some.inj hT0
          clear ho hT0
          exact val_wp (fa34_1 rfl (E.get 2 rfl)) rfl hM
        | 8, ho, hT0, hl, D, DL =>
          obtain rfl := Option.some.inj ho
          obtain rfl := Option.some.inj hT0
          clear ho hT0
          exact val_wp (fa32_0 rfl (D 7 _ rfl rfl)) rfl hM
        | 9, ho, hT0, hl, D, DL =>
          obtain rfl := Option.some.inj ho
          obtain rfl := Option.some.inj hT0
          clear ho hT0
          exact val_wp (ld_int rfl (D 8 _ rfl rfl) hM.2.1 rfl) rfl hM
        | 10, ho, hT0, hl, D, DL =>
          obtain rfl := Option.some.inj ho
          obtain rfl := Option.some.inj hT0
          clear ho hT0
          exact call_wp (run_call2 (enters_of Try.func18 (by kernel_rfl) rfl) rfl rfl (D 6 _ rfl rfl) (D 9 _ rfl rfl)) (of_calls _ _ _) rfl fun w6 f => ⟨hM.1.trans' f fun _ _ h => h.elim, hM.2.1.fr f id, fun h => (hM.2.2.1 h).fr f id, fun h => (hM.2.2.2 h).fr f id⟩
        | 11, ho, hT0, hl, D, DL =>
          obtain rfl := Option.some.inj ho
          obtain rfl := Option.some.inj hT0
          clear ho hT0
          exact val_wp (fa34_0 rfl (E.get 2 rfl)) rfl hM
        | 12, ho, hT0, hl, D, DL =>
          obtain rfl := Option.some.inj ho
          obtain rfl := Option.some.inj hT0
          clear ho hT0
          exact val_wp (fa32_1 rfl (D 11 _ rfl rfl)) rfl hM
        | 13, ho, hT0, hl, D, DL =>
          obtain rfl := Option.some.inj ho
          obtain rfl := Option.some.inj hT0
          clear ho hT0
          exact val_wp (ld_int rfl (D 12 _ rfl rfl) hM.2.1 rfl) rfl hM
        | 14, ho, hT0, hl, D, DL =>
          obtain rfl := Option.some.inj ho
          obtain rfl := Option.some.inj hT0
          clear ho hT0
          exact val_wp (fa34_1 rfl (E.get 2 rfl)) rfl hM
        | 15, ho, hT0, hl, D, DL =>
          obtain rfl := Option.some.inj ho
          obtain rfl := Option.some.inj hT0
          clear ho hT0
          exact val_wp (fa32_1 rfl (D 14 _ rfl rfl)) rfl hM
        | 16, ho, hT0, hl, D, DL =>
          obtain rfl := Option.some.inj ho
          obtain rfl := Option.some.inj hT0
          clear ho hT0
          exact val_wp (ld_int rfl (D 15 _ rfl rfl) hM.2.1 rfl) rfl hM
        | 17, ho, hT0, hl, D, DL =>
          obtain rfl := Option.some.inj ho
          obtain rfl := Option.some.inj hT0
          clear ho hT0
          exact call_wp (run_call2 (enters_of Try.func18 (by kernel_rfl) rfl) rfl rfl (D 13 _ rfl rfl) (D 16 _ rfl rfl)) (of_calls _ _ _) rfl fun w6 f => ⟨hM.1.trans' f fun _ _ h => h.elim, hM.2.1.fr f id, fun h => (hM.2.2.1 h).fr f id, fun h => (hM.2.2.2 h).fr f id⟩
        | 18, ho, hT0, hl, D, DL =>
          obtain rfl := Option.some.inj ho
          obtain rfl := Option.some.inj hT0
          clear ho hT0
          exact val_wp (run_of49 rfl ((D 2 _ rfl rfl).trans (by rw [hAn])) (D 3 _ rfl rfl) (D 10 _ rfl rfl) (D 17 _ rfl rfl)) rfl hM
        | 19, ho, hT0, hl, D, DL =>
          obtain rfl := Option.some.inj ho
          obtain rfl := Option.some.inj hT0
          clear ho hT0
          exact val_wp (run_index44 rfl (D 0 _ rfl rfl) (D 1 _ rfl rfl) hlt) rfl hM
        | 20, ho, hT0, hl, D, DL =>
          obtain rfl := Option.some.inj ho
          obtain rfl := Option.some.inj hT0
          clear ho hT0
          exact store_wp (run_st49 rfl (D 19 _ rfl rfl) (D 18 _ rfl rfl) ((hM.2.2.1 hl).there hlt)) rfl ⟨Fr.setCells (F := fun k => k = G) (fun _ => rfl) _ _ _ hM.1, hM.2.1.fr (Fr.setCells (F := fun k => k = G) (fun _ => rfl) _ _ _ (Fr.refl _ _)) hbG, fun h => (by simp at h), fun _ => (hM.2.2.1 hl).set hrl A⟩
        | j + 21, ho, hT0, hl, D, DL => exact absurd hT0 (by simp)
      intro a w5 E V hM
      have hR := hM.2.2.2 rfl
      have hf := hf.trans' hM.1 fun r hr e => by have : r = G := e; omega
      clear V hM
      refine blk_n ?_
      refine then_n ?_
      refine wp_region_lit ?_
      refine env_put (d := 47) (v := .int .i64 (i + 1 : Int)) E rfl (by decide) rfl (wanted_none rfl _) (run_iadd (E.get 5 rfl) rfl (by omega) (by omega) rfl) fun a E => ?_
      refine env_set (d := 22) (v := .int .i64 (i + 1 : Int)) E rfl (by decide) (wanted_none rfl _) (run_move rfl (E.get 0 rfl)) fun a E => ?_
      refine wpList_nil ?_
      refine then_n ?_
      refine ⟨⟨i + 1, R.set i A, hlt, by rw [Hid, List.length_set]; exact hRl.out, E.of ⟨E.get 0 (by simp), E.get 6 rfl, E.get 5 rfl, E.get 2 rfl, trivial⟩, hR, fun t ht h => ?_, hf⟩, ?_⟩
      · rw [List.getElem?_set]
        by_cases hte : i = t
        · subst hte; rw [if_pos rfl, if_pos hrl, hA]
        · rw [if_neg hte]; exact hpre.out t ht (by omega)
      · rw [E.get 0 rfl]; simp [intOf]; omega
  obtain ⟨E, hR, hf⟩ := H
  refine wp_seq ?_
  refine wp_region_lit ?_
  refine env_put (d := 48) (v := .slice (some ⟨G, 0, none⟩) l.length l.length) E rfl (by decide) rfl (wanted_none rfl _) (run_move rfl (E.get 0 rfl)) fun a E => ?_
  refine env_call (d := 49) (v := .tuple #[]) E rfl (by decide) rfl (wanted_none rfl _) (run_call2 (enters_of Try.func19 (by kernel_rfl) rfl) rfl rfl (E.get 0 rfl) rfl) (sortI_row hn hR) fun a w3 f1 E => ?_
  clear hR
  obtain ⟨I, hI, hs, hR, f2⟩ := f1
  have hf := hf.trans' f2 fun r hr e => by have : r = G := e; omega
  clear f2
  have hIl : I.length = l.length := by rw [hI.length_eq]; simp
  refine wpList_nil ?_
  refine then_n ?_
  refine wp_seq ?_
  refine wp_region_lit ?_
  refine env_put (d := 7) (v := .slice none 0 0) E rfl (by decide) rfl (wanted_none rfl _) (run_assign rfl rfl) fun a E => ?_
  refine wpList_nil ?_
  refine then_n ?_
  refine wp_seq ?_
  refine wp_region_lit ?_
  refine env_put (d := 8) (v := .slice none 0 0) E rfl (by decide) rfl (wanted_none rfl _) (run_assign rfl rfl) fun a E => ?_
  refine wpList_nil ?_
  refine then_n ?_
  refine wp_seq_cut (fun a w2 => ∃ ov, Env 102 [(7, ov)] a ∧ oM w2 (G + 1) ov ((runL l I).2.map (mtAt l)) ∧ Fr (fun _ => False) w w2) ?_ fun a w2 H => ?_
  ·
    refine wp_seq ?_
    refine wp_region_lit ?_
    refine env_put (d := 50) (v := .slice (some ⟨G, 0, none⟩) l.length l.length) E rfl (by decide) rfl (wanted_none rfl _) (run_move rfl (E.get 4 rfl)) fun a E => ?_
    refine env_put (d := 51) (v := .int .i64 (l.length : Int)) E rfl (by decide) rfl (wanted_none rfl _) (run_len44 rfl (E.get 0 rfl)) fun a E => ?_
    refine env_put (d := 52) (v := .int .i64 0) E rfl (by decide) rfl (wanted_none rfl _) (run_move rfl rfl) fun a E => ?_
    refine wpList_nil ?_
    refine then_n ?_
    refine wp_block ?_
    refine wp_loop (fun a w2 => ∃ (k : Nat) (av ov : Value), k ≤ l.length ∧ Env 102 [(52, .int .i64 (k : Int)), (51, .int .i64 (l.length : Int)), (50, .slice (some ⟨G, 0, none⟩) l.length l.length), (8, av), (7, ov)] a ∧ rowB w2 G l.length (I.map (itAt l)) ∧ oI w2 (G + 1) av ((runL l (I.take k)).1.map (itAt l)) ∧ oM w2 (G + 1) ov ((runL l (I.take k)).2.map (mtAt l)) ∧ (∀ k, av.ownBlock = some k → ov.ownBlock ≠ some k) ∧ Fr (fun _ => False) w w2) (fun a _ => l.length - (intOf (a.eval (.tmp 52))).toNat) ?_ ?_
    · exact ⟨0, .slice none 0 0, .slice none 0 0, Nat.zero_le _, E.of ⟨E.get 0 (by simp), E.get 1 rfl, E.get 2 rfl, E.get 3 rfl, E.get 4 rfl, trivial⟩, hR, World.ownsRow_nil _ _ _ _, World.ownsRow_nil _ _ _ _, (fun k h => by cases h), hf⟩
    clear hR hf E
    rintro a w2 ⟨k, av, ov, hk, E, hR, hA, hO, hd, hf⟩
    have hmu : l.length - (intOf (a.eval (.tmp 52))).toNat = l.length - k := by rw [E.get 0 rfl]; simp [intOf]
    rw [hmu]
    clear hmu
    refine wp_seq ?_
    refine wp_region_lit ?_
    refine env_put (d := 53) (v := .bool (decide ((k : Int) < (l.length : Int)))) E rfl (by decide) rfl (wanted_none rfl _) (run_ilss (E.get 0 rfl) (E.get 1 rfl) Try.underlying3 rfl) fun a E => ?_
    refine wpList_nil ?_
    refine then_n ?_
    refine wp_seq ?_
    cases hq : decide ((k : Int) < (l.length : Int)) with
    | false =>
      rw [hq] at E
      refine wp_cond_false (E.get 0 rfl) ?_
      refine wp_exit ?_
      refine then_e ?_
      refine then_e ?_
      refine blk_e ?_
      refine then_n ?_
      have hk2 : I.take k = I := List.take_of_length_le (by have := of_decide_eq_false hq; omega)
      rw [hk2] at hO
      exact ⟨ov, E.of ⟨E.get 5 rfl, trivial⟩, hO, hf⟩
    | true =>
      rw [hq] at E
      refine wp_cond_true (E.get 0 rfl) ?_
      refine wp_skip ?_
      refine then_n ?_
      have hlt : k < l.length := by have := of_decide_eq_true hq; omega
      clear hq
      obtain ⟨x, hx⟩ : ∃ x, I[k]? = some x := ⟨_, List.getElem?_eq_getElem (by omega)⟩
      have hrl := run_len l (I.take k)
      have hst : Hid (runL l (I.take (k + 1)) = (stayL l (runL l (I.take k)).1 x ++ [x], (runL l (I.take k)).2 ++ (stayL l (runL l (I.take k)).1 x).filterMap (hitL l x))) := by
        rw [Hid, List.take_add_one, hx]; exact Swp.runS_snoc _ _ _ _ _ _
      generalize (runL l (I.take k)).1 = A at *
      generalize (runL l (I.take k)).2 = OO at *
      obtain ⟨S, hS⟩ : ∃ S, S = stayL l A x := ⟨_, rfl⟩
      have hSl : S.length ≤ A.length := by rw [hS]; exact List.length_filter_le _ _
      rw [← hS] at hst
      have hkk : k * k ≤ 19999 * 19999 := Nat.mul_le_mul (by omega) (by omega)
      have htk : (I.take k).length ≤ k := by simp; omega
      have hob : Hid (∀ j, ((OO ++ (S.take j).filterMap (hitL l x)).map (mtAt l)).length ≤ 400000000) := by
        intro j
        have h1 := List.length_filterMap_le (hitL l x) (S.take j)
        have h2 : (S.take j).length ≤ S.length := by simp; omega
        have h3 := Nat.mul_le_mul htk htk
        rw [List.length_map, List.length_append]
        omega
      have hSb : (S.map (itAt l)).length ≤ 20000 := by rw [List.length_map]; omega
      clear hkk htk hrl
      refine wp_seq ?_
      refine wp_block ?_
      refine wp_seq ?_
      refine wp_region_lit ?_
      refine env_put (d := 54) (v := .pointer (some ⟨G, k * 9, none⟩)) E rfl (by decide) rfl (wanted_none rfl _) (run_index44 rfl (E.get 3 rfl) (E.get 1 rfl) hlt) fun a E => ?_
      refine env_put (d := 55) (v := .agg (itC (itAt l x)).toArray) E rfl (by decide) rfl (wanted_none rfl _) (run_ld49 rfl (E.get 0 rfl) (hR.range (by rw [List.getElem?_map, hx]; rfl))) fun a E => ?_
      refine env_alloc49 (d := 10) E rfl (by decide) rfl (wanted_none rfl _) rfl fun a w3 b e1 hb f1 E => ?_
      have hbG : G ≠ b := by have := hR.lt; omega
      have hbw : w.heap.size ≤ b := by have := hf.size; omega
      have hba : av.ownBlock ≠ some b := fun h => by have := (own_lt hA h).2; omega
      have hbo : ov.ownBlock ≠ some b := fun h => by have := (own_lt hO h).2; omega
      have hR := hR.fr f1 id
      have hA : oI _ (G + 1) _ _ := own_fr hA f1 fun _ _ h => h
      have hO : oM _ (G + 1) ov _ := own_fr hO f1 fun _ _ h => h
      have hf := hf.trans f1
      clear e1 f1
      refine env_st49 E rfl (wanted_none rfl _) rfl (E.get 0 rfl) (E.get 1 rfl) hb fun w4 hb f1 E => ?_
      have hR := hR.fr f1 hbG
      have hA : oI _ (G + 1) _ _ := own_fr hA f1 fun q h e => hba (by rw [h]; exact congrArg some e)
      have hO : oM _ (G + 1) ov _ := own_fr hO f1 fun q h e => hbo (by rw [h]; exact congrArg some e)
      have hf := hf.trans' f1 fun r hr e => by have : r = b := e; omega
      clear f1
      refine wpList_nil ?_
      refine then_n ?_
      refine wp_seq ?_
      refine wp_region_lit ?_
      refine env_put (d := 56) (v := av) E rfl (by decide) rfl (wanted_none rfl _) (run_move rfl (E.get 7 rfl)) fun a E => ?_
      refine env_put (d := 57) (v := .func (.func 24) #[] #[.pointer (some ⟨b, 0, none⟩)]) E rfl (by decide) rfl (wanted_none rfl _) (run_fn24 rfl (E.get 1 rfl)) fun a E => ?_
      refine env_call (d := 58) (v := delV (keepL (itAt l x) (A.map (itAt l))).length av) E rfl (by decide) rfl (wanted_none rfl _) (run_call2 (enters_of Try.func23 (by kernel_rfl) rfl) rfl rfl (E.get 1 rfl) (E.get 0 rfl)) (delete_own hb hA hba) fun a w5 f1 E => ?_
      obtain ⟨hA2, f2⟩ := f1
      rw [keep_stay, show Swp.stay (fun i => (itAt l i).xl) (fun i => (itAt l i).xh) A x = S from hS.symm] at E hA2
      have hbk : (delV (S.map (itAt l)).length av).ownBlock = av.ownBlock := delV_block hA
      generalize delV (S.map (itAt l)).length av = av2 at *
      have hR := hR.fr f2 fun h => by have := (own_lt hA h).1; omega
      have hO : oM _ (G + 1) ov _ := own_fr hO f2 fun q h h2 => hd q h2 h
      have hb := itB.fr hb f2 hba
      have hf := hf.trans' f2 fun r hr h => by have := (own_lt hA h).1; omega
      rw [← hbk] at hba hd
      clear f2 hbk hA
      have hA : oI w5 (G + 1) av2 (S.map (itAt l)) := hA2
      clear hA2
      refine env_set (d := 8) (v := av2) E rfl (by decide) (wanted_none rfl _) (run_assign rfl (E.get 0 rfl)) fun a E => ?_
      refine wpList_nil ?_
      refine then_n ?_
      refine wp_seq_cut (fun a w6 => ∃ ov, Env 102 [(10, .pointer (some ⟨b, 0, none⟩)), (8, av2), (52, .int .i64 (k : Int)), (51, .int .i64 (l.length : Int)), (50, .slice (some ⟨G, 0, none⟩) l.length l.length), (7, ov)] a ∧ rowB w6 G l.length (I.map (itAt l)) ∧ itB w6 b (itAt l x) ∧ oI w6 (G + 1) av2 (S.map (itAt l)) ∧ oM w6 (G + 1) ov ((OO ++ S.filterMap (hitL l x)).map (mtAt l)) ∧ (∀ k, av2.ownBlock = some k → ov.ownBlock ≠ some k) ∧ ov.ownBlock ≠ some b ∧ Fr (fun _ => False) w w6) ?_ fun a w6 H => ?_
      ·
        obtain ⟨p2, c2, hpc⟩ := own_slice hA
        refine wp_seq ?_
        refine wp_region_lit ?_
        refine env_put (d := 59) (v := av2) E rfl (by decide) rfl (wanted_none rfl _) (run_move rfl (E.get 0 rfl)) fun a E => ?_
        refine env_put (d := 60) (v := .int .i64 ((S.map (itAt l)).length : Int)) E rfl (by decide) rfl (wanted_none rfl _) (run_len44 rfl ((E.get 0 rfl).trans hpc)) fun a E => ?_
        refine env_put (d := 61) (v := .int .i64 0) E rfl (by decide) rfl (wanted_none rfl _) (run_move rfl rfl) fun a E => ?_
        refine wpList_nil ?_
        refine then_n ?_
        refine wp_block ?_
        refine wp_loop (fun a w6 => ∃ (j : Nat) (ov : Value), j ≤ (S.map (itAt l)).length ∧ Env 102 [(61, .int .i64 (j : Int)), (60, .int .i64 ((S.map (itAt l)).length : Int)), (59, av2), (10, .pointer (some ⟨b, 0, none⟩)), (8, av2), (52, .int .i64 (k : Int)), (51, .int .i64 (l.length : Int)), (50, .slice (some ⟨G, 0, none⟩) l.length l.length), (7, ov)] a ∧ rowB w6 G l.length (I.map (itAt l)) ∧ itB w6 b (itAt l x) ∧ oI w6 (G + 1) av2 (S.map (itAt l)) ∧ oM w6 (G + 1) ov ((OO ++ (S.take j).filterMap (hitL l x)).map (mtAt l)) ∧ (∀ k, av2.ownBlock = some k → ov.ownBlock ≠ some k) ∧ ov.ownBlock ≠ some b ∧ Fr (fun _ => False) w w6) (fun a _ => (S.map (itAt l)).length - (intOf (a.eval (.tmp 61))).toNat) ?_ ?_
        · exact ⟨0, ov, Nat.zero_le _, E.of ⟨E.get 0 (by simp), E.get 1 rfl, E.get 2 rfl, E.get 7 rfl, E.get 3 rfl, E.get 11 rfl, E.get 12 rfl, E.get 13 rfl, E.get 14 rfl, trivial⟩, hR, hb, hA, by simpa using hO, hd, hbo, hf⟩
        clear hR hf E hb hA hO hd hbo hpc
        rintro a w6 ⟨j, ov, hj, E, hR, hb, hA, hO, hd, hbo, hf⟩
        have hmu : (S.map (itAt l)).length - (intOf (a.eval (.tmp 61))).toNat = (S.map (itAt l)).length - j := by rw [E.get 0 rfl]; simp [intOf]
        rw [hmu]
        clear hmu
        refine wp_seq ?_
        refine wp_region_lit ?_
        refine env_put (d := 62) (v := .bool (decide ((j : Int) < ((S.map (itAt l)).length : Int)))) E rfl (by decide) rfl (wanted_none rfl _) (run_ilss (E.get 0 rfl) (E.get 1 rfl) Try.underlying3 rfl) fun a E => ?_
        refine wpList_nil ?_
        refine then_n ?_
        refine wp_seq ?_
        cases hq : decide ((j : Int) < ((S.map (itAt l)).length : Int)) with
        | false =>
          rw [hq] at E
          refine wp_cond_false (E.get 0 rfl) ?_
          refine wp_exit ?_
          refine then_e ?_
          refine then_e ?_
          refine blk_e ?_
          refine then_n ?_
          have hj2 : S.take j = S := List.take_of_length_le (by have := of_decide_eq_false hq; rw [List.length_map] at this; omega)
          rw [hj2] at hO
          exact ⟨ov, E.of ⟨E.get 4 rfl, E.get 5 rfl, E.get 6 rfl, E.get 7 rfl, E.get 8 rfl, E.get 9 rfl, trivial⟩, hR, hb, hA, hO, hd, hbo, hf⟩
        | true =>
          rw [hq] at E
          refine wp_cond_true (E.get 0 rfl) ?_
          refine wp_skip ?_
          refine then_n ?_
          have hltj : j < (S.map (itAt l)).length := by have := of_decide_eq_true hq; omega
          clear hq
          obtain ⟨y, hy⟩ : ∃ y, S[j]? = some y := ⟨_, List.getElem?_eq_getElem (by simpa using hltj)⟩
          obtain ⟨g2, cp2, hv2, hR2⟩ : ∃ g2 cp2, av2 = .slice (some ⟨g2, 0, none⟩) (S.map (itAt l)).length cp2 ∧ rowB w6 g2 cp2 (S.map (itAt l)) := by
            rcases rowB_of hA with ⟨_, h⟩ | ⟨g2, cp2, h1, _, h2⟩
            · rw [h] at hltj; exact absurd hltj (Nat.not_lt_zero _)
            · exact ⟨g2, cp2, h1, h2⟩
          refine wp_seq ?_
          refine wp_block ?_
          refine wp_seq ?_
          refine wp_region_lit ?_
          refine env_put (d := 63) (v := .pointer (some ⟨g2, j * 9, none⟩)) E rfl (by decide) rfl (wanted_none rfl _) (run_index44 rfl ((E.get 3 rfl).trans hv2) (E.get 1 rfl) hltj) fun a E => ?_
          refine env_put (d := 64) (v := .agg (itC (itAt l y)).toArray) E rfl (by decide) rfl (wanted_none rfl _) (run_ld49 rfl (E.get 0 rfl) (hR2.range (by rw [List.getElem?_map, hy]; rfl))) fun a E => ?_
          clear hR2 hv2
          refine env_alloc49 (d := 12) E rfl (by decide) rfl (wanted_none rfl _) rfl fun a w7 b2 e1 hb2 f1 E => ?_
          have hb2G : G ≠ b2 := by have := hR.lt; omega
          have hb2b : b ≠ b2 := by have := lt_of_blk hb; omega
          have hb2w : w.heap.size ≤ b2 := by have := hf.size; omega
          have hb2a : av2.ownBlock ≠ some b2 := fun h => by have := (own_lt hA h).2; omega
          have hb2o : ov.ownBlock ≠ some b2 := fun h => by have := (own_lt hO h).2; omega
          have hR := hR.fr f1 id
          have hb := itB.fr hb f1 id
          have hA : oI _ (G + 1) av2 (S.map (itAt l)) := own_fr hA f1 fun _ _ h => h
          have hO : oM _ (G + 1) ov _ := own_fr hO f1 fun _ _ h => h
          have hf := hf.trans' f1 fun _ _ h => h.elim
          clear f1
          clear e1
          refine env_st49 E rfl (wanted_none rfl _) rfl (E.get 0 rfl) (E.get 1 rfl) hb2 fun w8 hb2 f1 E => ?_
          have hR := hR.fr f1 hb2G
          have hb := itB.fr hb f1 hb2b
          have hA : oI _ (G + 1) av2 (S.map (itAt l)) := own_fr hA f1 fun q h e => hb2a (by rw [h]; exact congrArg some e)
          have hO : oM _ (G + 1) ov _ := own_fr hO f1 fun q h e => hb2o (by rw [h]; exact congrArg some e)
          have hf := hf.trans' f1 fun r hr e => by have : r = b2 := e; omega
          clear f1
          refine wpList_nil ?_
          refine then_n ?_
          refine wp_seq ?_
          refine wp_seq ?_
          refine wp_region_lit ?_
          refine env_put (d := 65) (v := .pointer (some ⟨b, 7, none⟩)) E rfl (by decide) rfl (wanted_none rfl _) (fa49_3 rfl (E.get 7 rfl)) fun a E => ?_
          refine env_put (d := 66) (v := .agg (ptC ((itAt l x).yl, (itAt l x).yh))) E rfl (by decide) rfl (wanted_none rfl _) (run_ld46 rfl (E.get 0 rfl) hb.bd) fun a E => ?_
          refine env_put (d := 67) (v := .pointer (some ⟨b2, 7, none⟩)) E rfl (by decide) rfl (wanted_none rfl _) (fa49_3 rfl (E.get 2 rfl)) fun a E => ?_
          refine env_put (d := 68) (v := .agg (ptC ((itAt l y).yl, (itAt l y).yh))) E rfl (by decide) rfl (wanted_none rfl _) (run_ld46 rfl (E.get 0 rfl) hb2.bd) fun a E => ?_
          refine env_call (d := 69) (v := .bool (yAt l x y)) E rfl (by decide) rfl (wanted_none rfl _) (run_call2 (enters_of Try.func25 (by kernel_rfl) rfl) rfl rfl (E.get 2 rfl) (E.get 0 rfl)) (bmeets_calls _ _ _) fun a w9 f1 E => ?_
          have hR := hR.fr f1 id
          have hb := itB.fr hb f1 id
          have hb2 := itB.fr hb2 f1 id
          have hA : oI _ (G + 1) av2 (S.map (itAt l)) := own_fr hA f1 fun _ _ h => h
          have hO : oM _ (G + 1) ov _ := own_fr hO f1 fun _ _ h => h
          have hf := hf.trans' f1 fun _ _ h => h.elim
          clear f1
          refine env_put (d := 70) (v := .bool (!(yAt l x y))) E rfl (by decide) rfl (wanted_none rfl _) (run_not rfl (E.get 0 rfl)) fun a E => ?_
          refine wpList_nil ?_
          refine then_n ?_
          cases hY : yAt l x y with
          | false =>
            rw [hY] at E
            refine wp_cond_true (E.get 0 rfl) ?_
            refine wp_exit ?_
            refine then_e ?_
            refine blk_e ?_
            refine then_n ?_
            have hhit : hitL l x y = none := by unfold hitL Swp.hit; rw [if_neg (fun h => by rw [hY] at h; exact absurd h.1 (by decide))]
            refine wp_region_lit ?_
            refine env_put (d := 93) (v := .int .i64 (j + 1 : Int)) E rfl (by decide) rfl (wanted_none rfl _) (run_iadd (E.get 10 rfl) rfl (by omega) (by omega) rfl) fun a E => ?_
            refine env_set (d := 61) (v := .int .i64 (j + 1 : Int)) E rfl (by decide) (wanted_none rfl _) (run_move rfl (E.get 0 rfl)) fun a E => ?_
            refine wpList_nil ?_
            refine then_n ?_
            refine ⟨⟨j + 1, ov, hltj, E.of ⟨E.get 0 (by simp), E.get 12 rfl, E.get 13 rfl, E.get 14 rfl, E.get 15 rfl, E.get 16 rfl, E.get 17 rfl, E.get 18 rfl, E.get 19 rfl, trivial⟩, hR, hb, hA, ?_, hd, hbo, hf⟩, ?_⟩
            · rw [List.take_add_one, hy, List.filterMap_append]
              simpa [hhit] using hO
            · rw [E.get 0 rfl]; simp only [intOf]; omega
          | true =>
            rw [hY] at E
            refine wp_cond_false (E.get 0 rfl) ?_
            refine wp_skip ?_
            refine then_n ?_
            refine wp_seq ?_
            refine wp_region_lit ?_
            refine env_put (d := 71) (v := .pointer (some ⟨b, 1, none⟩)) E rfl (by decide) rfl (wanted_none rfl _) (fa49_1 rfl (E.get 13 rfl)) fun a E => ?_
            refine env_put (d := 72) (v := .agg (sgC (itAt l x).s)) E rfl (by decide) rfl (wanted_none rfl _) (run_ld34 rfl (E.get 0 rfl) hb.sg) fun a E => ?_
            refine env_put (d := 73) (v := .pointer (some ⟨b2, 1, none⟩)) E rfl (by decide) rfl (wanted_none rfl _) (fa49_1 rfl (E.get 8 rfl)) fun a E => ?_
            refine env_put (d := 74) (v := .agg (sgC (itAt l y).s)) E rfl (by decide) rfl (wanted_none rfl _) (run_ld34 rfl (E.get 0 rfl) hb2.sg) fun a E => ?_
            refine env_call (d := 75) (v := .int .i64 (kAt l x y)) E rfl (by decide) rfl (wanted_none rfl _) (run_call2 (enters_of Try.func13 (by kernel_rfl) rfl) rfl rfl (E.get 2 rfl) (E.get 0 rfl)) (meets_calls _ _ _) fun a w10 f1 E => ?_
            have hR := hR.fr f1 id
            have hb := itB.fr hb f1 id
            have hb2 := itB.fr hb2 f1 id
            have hA : oI _ (G + 1) av2 (S.map (itAt l)) := own_fr hA f1 fun _ _ h => h
            have hO : oM _ (G + 1) ov _ := own_fr hO f1 fun _ _ h => h
            have hf := hf.trans' f1 fun _ _ h => h.elim
            clear f1
            refine env_put (d := 13) (v := .int .i64 (kAt l x y)) E rfl (by decide) rfl (wanted_none rfl _) (run_assign rfl (E.get 0 rfl)) fun a E => ?_
            refine wpList_nil ?_
            refine then_n ?_
            refine wp_seq ?_
            refine wp_region_lit ?_
            refine env_put (d := 76) (v := .int .i64 (kAt l x y)) E rfl (by decide) rfl (wanted_none rfl _) (run_move rfl (E.get 0 rfl)) fun a E => ?_
            refine env_put (d := 77) (v := .bool (kAt l x y != 0)) E rfl (by decide) rfl (wanted_none rfl _) (run_ineq (E.get 0 rfl) rfl Try.underlying3 rfl) fun a E => ?_
            refine wpList_nil ?_
            refine then_n ?_
            cases hK : kAt l x y != 0 with
            | false =>
              rw [hK] at E
              refine wp_cond_false (E.get 0 rfl) ?_
              refine wp_skip ?_
              refine blk_n ?_
              refine then_n ?_
              have hhit : hitL l x y = none := by unfold hitL Swp.hit; rw [if_neg (fun h => h.2 (by simpa using hK))]
              refine wp_region_lit ?_
              refine env_put (d := 93) (v := .int .i64 (j + 1 : Int)) E rfl (by decide) rfl (wanted_none rfl _) (run_iadd (E.get 18 rfl) rfl (by omega) (by omega) rfl) fun a E => ?_
              refine env_set (d := 61) (v := .int .i64 (j + 1 : Int)) E rfl (by decide) (wanted_none rfl _) (run_move rfl (E.get 0 rfl)) fun a E => ?_
              refine wpList_nil ?_
              refine then_n ?_
              refine ⟨⟨j + 1, ov, hltj, E.of ⟨E.get 0 (by simp), E.get 20 rfl, E.get 21 rfl, E.get 22 rfl, E.get 23 rfl, E.get 24 rfl, E.get 25 rfl, E.get 26 rfl, E.get 27 rfl, trivial⟩, hR, hb, hA, ?_, hd, hbo, hf⟩, ?_⟩
              · rw [List.take_add_one, hy, List.filterMap_append]
                simpa [hhit] using hO
              · rw [E.get 0 rfl]; simp only [intOf]; omega
            | true =>
              rw [hK] at E
              refine wp_cond_true (E.get 0 rfl) ?_
              have hhit : hitL l x y = some (Swp.pairOf x y) := by unfold hitL Swp.hit; rw [if_pos ⟨hY, by simpa using hK⟩]
              obtain ⟨q1, q2, q3⟩ := pair_min l hn x y
              refine wp_region_lit ?_
              refine env_put (d := 78) (v := ov) E rfl (by decide) rfl (wanted_none rfl _) (run_move rfl (E.get 26 rfl)) fun a E => ?_
              refine env_put (d := 79) (v := .pointer (some ⟨b, 0, none⟩)) E rfl (by decide) rfl (wanted_none rfl _) (fa49_0 rfl (E.get 22 rfl)) fun a E => ?_
              refine env_put (d := 80) (v := .int .i64 (itAt l x).n) E rfl (by decide) rfl (wanted_none rfl _) (ld_int rfl (E.get 0 rfl) hb rfl) fun a E => ?_
              refine env_put (d := 81) (v := .pointer (some ⟨b2, 0, none⟩)) E rfl (by decide) rfl (wanted_none rfl _) (fa49_0 rfl (E.get 17 rfl)) fun a E => ?_
              refine env_put (d := 82) (v := .int .i64 (itAt l y).n) E rfl (by decide) rfl (wanted_none rfl _) (ld_int rfl (E.get 0 rfl) hb2 rfl) fun a E => ?_
              refine env_put (d := 83) (v := .int .i64 (min (itAt l x).n (itAt l y).n)) E rfl (by decide) rfl (wanted_none rfl _) (run_min rfl (E.get 2 rfl) (E.get 0 rfl)) fun a E => ?_
              refine env_put (d := 84) (v := .pointer (some ⟨b, 0, none⟩)) E rfl (by decide) rfl (wanted_none rfl _) (fa49_0 rfl (E.get 27 rfl)) fun a E => ?_
              refine env_put (d := 85) (v := .int .i64 (itAt l x).n) E rfl (by decide) rfl (wanted_none rfl _) (ld_int rfl (E.get 0 rfl) hb rfl) fun a E => ?_
              refine env_put (d := 86) (v := .pointer (some ⟨b2, 0, none⟩)) E rfl (by decide) rfl (wanted_none rfl _) (fa49_0 rfl (E.get 22 rfl)) fun a E => ?_
              refine env_put (d := 87) (v := .int .i64 (itAt l y).n) E rfl (by decide) rfl (wanted_none rfl _) (ld_int rfl (E.get 0 rfl) hb2 rfl) fun a E => ?_
              refine env_put (d := 88) (v := .int .i64 (max (itAt l x).n (itAt l y).n)) E rfl (by decide) rfl (wanted_none rfl _) (run_max rfl (E.get 2 rfl) (E.get 0 rfl)) fun a E => ?_
              refine env_put (d := 89) (v := .int .i64 (kAt l x y)) E rfl (by decide) rfl (wanted_none rfl _) (run_move rfl (E.get 13 rfl)) fun a E => ?_
              refine env_put (d := 90) (v := .agg (mtC (mtAt l (Swp.pairOf x y))).toArray) E rfl (by decide) rfl (wanted_none rfl _) (run_of36 rfl ((E.get 6 rfl).trans (by rw [q1])) ((E.get 1 rfl).trans (by rw [q2])) ((E.get 0 rfl).trans (by rw [q3]))) fun a E => ?_
              refine env_one36 (d := 91) E rfl (by decide) rfl (wanted_none rfl _) rfl (E.get 0 rfl) fun a w11 b3 _ hb3 f1 E => ?_
              have hR := hR.fr f1 id
              have hb := itB.fr hb f1 id
              have hb2 := itB.fr hb2 f1 id
              have hA : oI _ (G + 1) av2 (S.map (itAt l)) := own_fr hA f1 fun _ _ h => h
              have hO : oM _ (G + 1) ov _ := own_fr hO f1 fun _ _ h => h
              have hf := hf.trans' f1 fun _ _ h => h.elim
              clear f1
              refine env_app36 (d := 92) E rfl (by decide) rfl rfl rfl (E.get 13 rfl) hO (E.get 0 rfl) hb3 (hob.out j) (by have := hR.lt; omega) fun a w12 ov2 hO2 f1 hloc E => ?_
              have hd2 : ∀ k, av2.ownBlock = some k → ov2.ownBlock ≠ some k := by
                intro q h h2
                rcases hloc with h3 | h3
                · exact hd q h (h3.symm.trans h2)
                · have := (own_lt hA h).2; rw [h3] at h2; have := Option.some.inj h2; omega
              have hbo2 : ov2.ownBlock ≠ some b := by
                intro h2
                rcases hloc with h3 | h3
                · exact hbo (h3.symm.trans h2)
                · have := lt_of_blk hb; rw [h3] at h2; have := Option.some.inj h2; omega
              have hR := hR.fr f1 fun h => by have := (own_lt hO h).1; omega
              have hb := itB.fr hb f1 hbo
              have hA : oI _ (G + 1) av2 (S.map (itAt l)) := own_fr hA f1 fun q h h2 => hd q h h2
              have hf := hf.trans' f1 fun r hr h => by have := (own_lt hO h).1; omega
              clear f1 hloc hO hd hbo
              have hO := hO2
              have hd := hd2
              have hbo := hbo2
              clear hO2 hd2 hbo2
              refine env_set (d := 7) (v := ov2) E rfl (by decide) (wanted_none rfl _) (run_assign rfl (E.get 0 rfl)) fun a E => ?_
              refine wpList_nil ?_
              refine blk_n ?_
              refine then_n ?_
              refine wp_region_lit ?_
              refine env_put (d := 93) (v := .int .i64 (j + 1 : Int)) E rfl (by decide) rfl (wanted_none rfl _) (run_iadd (E.get 34 rfl) rfl (by omega) (by omega) rfl) fun a E => ?_
              refine env_set (d := 61) (v := .int .i64 (j + 1 : Int)) E rfl (by decide) (wanted_none rfl _) (run_move rfl (E.get 0 rfl)) fun a E => ?_
              refine wpList_nil ?_
              refine then_n ?_
              refine ⟨⟨j + 1, ov2, hltj, E.of ⟨E.get 0 (by simp), E.get 36 rfl, E.get 37 rfl, E.get 38 rfl, E.get 39 rfl, E.get 40 rfl, E.get 41 rfl, E.get 42 rfl, E.get 2 rfl, trivial⟩, hR, hb, hA, ?_, hd, hbo, hf⟩, ?_⟩
              · rw [List.take_add_one, hy, List.filterMap_append]
                simpa [hhit] using hO
              · rw [E.get 0 rfl]; simp only [intOf]; omega
      clear E hR hb hA hO hd hbo hf
      obtain ⟨ov, E, hR, hb, hA, hO, hd, hbo, hf⟩ := H
      refine wp_region_lit ?_
      refine env_put (d := 94) (v := av2) E rfl (by decide) rfl (wanted_none rfl _) (run_move rfl (E.get 1 rfl)) fun a E => ?_
      refine env_put (d := 95) (v := .agg (itC (itAt l x)).toArray) E rfl (by decide) rfl (wanted_none rfl _) (run_ld49 rfl (E.get 1 rfl) hb.range) fun a E => ?_
      refine env_one49 (d := 96) E rfl (by decide) rfl (wanted_none rfl _) rfl (E.get 0 rfl) fun a w7 b3 _ hb3 f1 E => ?_
      have hR := hR.fr f1 id
      have hA : oI _ (G + 1) _ _ := own_fr hA f1 fun _ _ h => h
      have hO : oM _ (G + 1) ov _ := own_fr hO f1 fun _ _ h => h
      have hf := hf.trans' f1 fun _ _ h => h.elim
      clear f1
      refine env_app49 (d := 97) E rfl (by decide) rfl rfl rfl (E.get 2 rfl) hA (E.get 0 rfl) hb3 (by omega) (by have := hR.lt; omega) fun a w8 av3 hA2 f1 hloc E => ?_
      have hd2 : ∀ k, av3.ownBlock = some k → ov.ownBlock ≠ some k := by
        intro q h h2
        rcases hloc with h3 | h3
        · exact hd q (h3.symm.trans h) h2
        · have := (own_lt hO h2).2; rw [h3] at h; have := Option.some.inj h; omega
      have hR := hR.fr f1 fun h => by have := (own_lt hA h).1; omega
      have hO : oM _ (G + 1) ov _ := own_fr hO f1 fun q h h2 => hd q h2 h
      have hf := hf.trans' f1 fun r hr h => by have := (own_lt hA h).1; omega
      clear f1 hloc
      refine env_set (d := 8) (v := av3) E rfl (by decide) (wanted_none rfl _) (run_assign rfl (E.get 0 rfl)) fun a E => ?_
      refine wpList_nil ?_
      refine blk_n ?_
      refine then_n ?_
      refine wp_region_lit ?_
      refine env_put (d := 98) (v := .int .i64 (k + 1 : Int)) E rfl (by decide) rfl (wanted_none rfl _) (run_iadd (E.get 6 rfl) rfl (by omega) (by omega) rfl) fun a E => ?_
      refine env_set (d := 52) (v := .int .i64 (k + 1 : Int)) E rfl (by decide) (wanted_none rfl _) (run_move rfl (E.get 0 rfl)) fun a E => ?_
      refine wpList_nil ?_
      refine then_n ?_
      refine ⟨⟨k + 1, av3, ov, hlt, E.of ⟨E.get 0 (by simp), E.get 8 rfl, E.get 9 rfl, E.get 2 rfl, E.get 10 rfl, trivial⟩, hR, ?_, ?_, hd2, hf⟩, ?_⟩
      · rw [hst.out]; simpa using hA2
      · rw [hst.out]; exact hO
      · rw [E.get 0 rfl]; simp only [intOf]; omega
  clear hR hf E
  obtain ⟨ov, E, hO, hf⟩ := H
  have hol := (run_len l I).2
  have hol2 : I.length * I.length ≤ 20000 * 20000 := Nat.mul_le_mul (by omega) (by omega)
  refine wp_seq ?_
  refine wp_region_lit ?_
  refine env_put (d := 99) (v := ov) E rfl (by decide) rfl (wanted_none rfl _) (run_move rfl (E.get 0 rfl)) fun a E => ?_
  refine env_call (d := 100) (v := .tuple #[]) E rfl (by decide) rfl (wanted_none rfl _) (run_call2 (enters_of Try.func26 (by kernel_rfl) rfl) rfl rfl (E.get 0 rfl) rfl) (sortM_row (f := mtAt l) (L := (runL l I).2) (by omega) (by unfold oM at hO; rw [List.length_map] at hO; exact hO)) fun a w3 f1 E => ?_
  obtain ⟨O2, c1, c2, c3, f2⟩ := f1
  have hf := hf.trans' f2 fun r hr h => by have h : G + 1 ≤ r := h; omega
  refine wpList_nil ?_
  refine then_n ?_
  refine wp_seq ?_
  refine wp_region_lit ?_
  refine env_put (d := 101) (v := ov) E rfl (by decide) rfl (wanted_none rfl _) (run_move rfl (E.get 2 rfl)) fun a E => ?_
  refine env_put (d := 2) (v := ov) E rfl (by decide) rfl (wanted_none rfl _) (run_assign rfl (E.get 0 rfl)) fun a E => ?_
  refine env_put (d := 3) (v := .int .i64 0) E rfl (by decide) rfl (wanted_none rfl _) (run_assign rfl rfl) fun a E => ?_
  refine wpList_nil ?_
  refine then_n ?_
  refine wp_ret ?_
  have hout := out_spec l hn hI hs c1 c2
  refine ret_two (t := 2) (u := 3) rfl E (E.get 1 rfl) (E.get 0 rfl) ⟨ov, rfl, ?_, hf⟩
  unfold oM
  rw [← hout, List.length_map]
  exact own_base c3 (by omega)
end Go.Proofs.Ytiainjcimmeedaa
