/- planisphereref05.All. -/
import Derived.Test.YtiainjcimmeedaaRm
import Derived.Test.YtiainjcimmeedaaLx
import Derived.Test.YtiainjcimmeedaaPairs
set_option linter.unusedVariables false
set_option linter.unusedSimpArgs false
namespace Go.Proofs.Ytiainjcimmeedaa
open Go.RowKit Go.Pl Go.Geo

set_option maxRecDepth 100000 in
set_option maxHeartbeats 4000000 in
theorem rall_calls (l : List Sg) (p : Option Addr) (cap : Nat) (w : World) (hn60 : l.length ≤ 60) (hp : SegAt w p l) : Calls Try.prog 11 #[.slice p l.length cap] w fun e w' => ∃ v, e = .returned (.tuple #[v, .int .i64 0]) ∧ oM w' w.heap.size v (outL l) ∧ Fr (fun _ => False) w w' := by
  refine wp_start1 Try.func11 rfl rfl (n := 44) (by decide) fun a E => ?_
  have hf : Fr (fun _ => False) w w := Fr.refl _ _
  obtain ⟨B, hB⟩ : ∃ B, B = w.heap.size := ⟨_, rfl⟩
  have hBw : w.heap.size ≤ B := by omega
  have hBs : B ≤ w.heap.size := by omega
  replace hp : SegAt2 w B p l := by rw [hB]; exact hp
  have hO : oM w B (.slice none 0 0) [] := World.ownsRow_nil _ _ _ _
  have hn : l.length ≤ 20000 := by omega
  refine wp_seq ?_
  refine wp_region_lit ?_
  refine env_put (d := 2) (v := .slice none 0 0) E rfl (by decide) rfl (wanted_none rfl _) (run_assign rfl rfl) fun a E => ?_
  refine env_put (d := 3) (v := .int .i64 0) E rfl (by decide) rfl (wanted_none rfl _) (run_assign rfl rfl) fun a E => ?_
  refine wpList_nil ?_
  refine then_n ?_
  refine wp_seq ?_
  refine wp_seq ?_
  refine wp_region_lit ?_
  refine env_put (d := 8) (v := .slice (p) l.length cap) E rfl (by decide) rfl (wanted_none rfl _) (run_move rfl (E.get 2 rfl)) fun a E => ?_
  refine env_put (d := 9) (v := .int .i64 (l.length : Int)) E rfl (by decide) rfl (wanted_none rfl _) (run_len22 rfl (E.get 0 rfl)) fun a E => ?_
  refine env_put (d := 10) (v := .bool (decide (20000 < (l.length : Int)))) E rfl (by decide) rfl (wanted_none rfl _) (run_igtr (E.get 0 rfl) rfl Try.underlying3 rfl) fun a E => ?_
  refine wpList_nil ?_
  refine then_n ?_
  cases hq1 : (decide (20000 < (l.length : Int))) with
  | false =>
    rw [hq1] at E
    refine wp_cond_false (E.get 0 rfl) ?_
    refine wp_skip ?_
    refine then_n ?_
    refine wp_seq ?_
    refine wp_region_lit ?_
    refine env_put (d := 4) (v := .slice none 0 0) E rfl (by decide) rfl (wanted_none rfl _) (run_assign rfl rfl) fun a E => ?_
    refine wpList_nil ?_
    refine then_n ?_
    refine wp_seq ?_
    refine wp_seq ?_
    refine wp_region_lit ?_
    refine env_put (d := 5) (v := .int .i64 0) E rfl (by decide) rfl (wanted_none rfl _) (run_assign rfl rfl) fun a E => ?_
    refine wpList_nil ?_
    refine then_n ?_
    refine wp_block ?_
    refine wp_loop (fun a w2 => ∃ (i : Nat) (ov : Value), Env 44 [(5, .int .i64 (i : Int)), (4, ov), (0, .slice (p) l.length cap)] a ∧ i ≤ l.length ∧ oM w2 B ov ((Swp.preS (kAt l) i 0).map (mtAt l)) ∧ SegAt2 w2 B p l ∧ B ≤ w2.heap.size ∧ Fr (fun _ => False) w w2) (fun a _ => l.length - (intOf (a.eval (.tmp 5))).toNat) ?_ ?_
    · exact ⟨0, .slice none 0 0, E.of ⟨E.get 0 rfl, E.get 1 rfl, E.get 7 rfl, trivial⟩, Nat.zero_le _, hO, hp, hBs, hf⟩
    clear E
    rintro a w2 ⟨i, ov, E, hi, hO, hp, hBs, hf⟩
    have hmu : l.length - (intOf (a.eval (.tmp 5))).toNat = l.length - i := by rw [E.get 0 rfl]; first | (simp [intOf]; done) | (simp only [intOf]; omega)
    rw [hmu]
    clear hmu
    refine wp_seq ?_
    refine wp_seq ?_
    refine wp_region_lit ?_
    refine env_put (d := 11) (v := .int .i64 (i : Int)) E rfl (by decide) rfl (wanted_none rfl _) (run_move rfl (E.get 0 rfl)) fun a E => ?_
    refine env_put (d := 12) (v := .slice (p) l.length cap) E rfl (by decide) rfl (wanted_none rfl _) (run_move rfl (E.get 3 rfl)) fun a E => ?_
    refine env_put (d := 13) (v := .int .i64 (l.length : Int)) E rfl (by decide) rfl (wanted_none rfl _) (run_len22 rfl (E.get 0 rfl)) fun a E => ?_
    refine env_put (d := 14) (v := .bool (decide ((i : Int) < (l.length : Int)))) E rfl (by decide) rfl (wanted_none rfl _) (run_ilss (E.get 2 rfl) (E.get 0 rfl) Try.underlying3 rfl) fun a E => ?_
    refine wpList_nil ?_
    refine then_n ?_
    cases hq3 : (decide ((i : Int) < (l.length : Int))) with
    | false =>
      rw [hq3] at E
      have hie : i = l.length := by have := of_decide_eq_false hq3; omega
      refine wp_cond_false (E.get 0 rfl) ?_
      refine wp_exit ?_
      refine then_e ?_
      refine then_e ?_
      refine blk_e ?_
      refine then_n ?_
      refine wp_seq ?_
      refine wp_region_lit ?_
      refine env_put (d := 43) (v := ov) E rfl (by decide) rfl (wanted_none rfl _) (run_move rfl (E.get 5 rfl)) fun a E => ?_
      refine env_put (d := 2) (v := ov) E rfl (by decide) rfl (wanted_none rfl _) (run_assign rfl (E.get 0 rfl)) fun a E => ?_
      refine env_put (d := 3) (v := .int .i64 0) E rfl (by decide) rfl (wanted_none rfl _) (run_assign rfl rfl) fun a E => ?_
      refine wpList_nil ?_
      refine then_n ?_
      refine wp_ret ?_
      rw [hie] at hO
      have ho : oM w2 B ov (outL l) := by unfold outL; rw [Swp.spec_pre]; exact hO
      rw [hB] at ho
      exact ret_two (t := 2) (u := 3) rfl E (E.get 1 rfl) (E.get 0 rfl) ⟨_, rfl, ho, hf⟩
    | true =>
      rw [hq3] at E
      have hit : i < l.length := by have := of_decide_eq_true hq3; omega
      refine wp_cond_true (E.get 0 rfl) ?_
      refine wp_skip ?_
      refine then_n ?_
      refine wp_seq ?_
      refine wp_block ?_
      refine wp_seq ?_
      refine wp_region_lit ?_
      refine env_put (d := 17) (v := .int .i64 (i : Int)) E rfl (by decide) rfl (wanted_none rfl _) (run_move rfl (E.get 4 rfl)) fun a E => ?_
      refine env_put (d := 18) (v := .int .i64 ((i : Int) + 1)) E rfl (by decide) rfl (wanted_none rfl _) (run_iadd (E.get 0 rfl) rfl (by omega) (by omega) rfl) fun a E => ?_
      refine env_put (d := 6) (v := .int .i64 ((i : Int) + 1)) E rfl (by decide) rfl (wanted_none rfl _) (run_assign rfl (E.get 0 rfl)) fun a E => ?_
      refine wpList_nil ?_
      refine then_n ?_
      refine wp_block ?_
      refine wp_loop (fun a w2 => ∃ (j : Nat) (ov : Value), Env 44 [(6, .int .i64 (j : Int)), (5, .int .i64 (i : Int)), (4, ov), (0, .slice (p) l.length cap)] a ∧ i < j ∧ j ≤ l.length ∧ oM w2 B ov ((Swp.preS (kAt l) i j).map (mtAt l)) ∧ SegAt2 w2 B p l ∧ B ≤ w2.heap.size ∧ Fr (fun _ => False) w w2) (fun a _ => l.length - (intOf (a.eval (.tmp 6))).toNat) ?_ ?_
      · exact ⟨i + 1, ov, E.of ⟨E.get 0 rfl, E.get 7 rfl, E.get 8 rfl, E.get 9 rfl, trivial⟩, Nat.lt_succ_self _, hit, by rw [Swp.preS_start]; exact hO, hp, hBs, hf⟩
      clear E
      rintro a w2 ⟨j, ov, E, hji, hj, hO, hp, hBs, hf⟩
      have hmu : l.length - (intOf (a.eval (.tmp 6))).toNat = l.length - j := by rw [E.get 0 rfl]; first | (simp [intOf]; done) | (simp only [intOf]; omega)
      rw [hmu]
      clear hmu
      refine wp_seq ?_
      refine wp_seq ?_
      refine wp_region_lit ?_
      refine env_put (d := 19) (v := .int .i64 (j : Int)) E rfl (by decide) rfl (wanted_none rfl _) (run_move rfl (E.get 0 rfl)) fun a E => ?_
      refine env_put (d := 20) (v := .slice (p) l.length cap) E rfl (by decide) rfl (wanted_none rfl _) (run_move rfl (E.get 4 rfl)) fun a E => ?_
      refine env_put (d := 21) (v := .int .i64 (l.length : Int)) E rfl (by decide) rfl (wanted_none rfl _) (run_len22 rfl (E.get 0 rfl)) fun a E => ?_
      refine env_put (d := 22) (v := .bool (decide ((j : Int) < (l.length : Int)))) E rfl (by decide) rfl (wanted_none rfl _) (run_ilss (E.get 2 rfl) (E.get 0 rfl) Try.underlying3 rfl) fun a E => ?_
      refine wpList_nil ?_
      refine then_n ?_
      cases hq5 : (decide ((j : Int) < (l.length : Int))) with
      | false =>
        rw [hq5] at E
        refine wp_cond_false (E.get 0 rfl) ?_
        refine wp_exit ?_
        refine then_e ?_
        refine then_e ?_
        refine blk_e ?_
        refine blk_n ?_
        refine then_n ?_
        refine wp_region_lit ?_
        refine env_put (d := 15) (v := .int .i64 (i : Int)) E rfl (by decide) rfl (wanted_none rfl _) (run_move rfl (E.get 5 rfl)) fun a E => ?_
        refine env_put (d := 16) (v := .int .i64 ((i : Int) + 1)) E rfl (by decide) rfl (wanted_none rfl _) (run_iadd (E.get 0 rfl) rfl (by omega) (by omega) rfl) fun a E => ?_
        refine env_set (d := 5) (v := .int .i64 ((i : Int) + 1)) E rfl (by decide) (wanted_none rfl _) (run_assign rfl (E.get 0 rfl)) fun a E => ?_
        refine wpList_nil ?_
        refine then_n ?_
        refine ⟨⟨i + 1, ov, E.of ⟨E.get 0 rfl, E.get 8 rfl, E.get 9 rfl, trivial⟩, hit, ?_, hp, hBs, hf⟩, ?_⟩
        · rw [Swp.preS_next]
          have e : j = l.length := by have := of_decide_eq_false hq5; omega
          rw [e] at hO; exact hO
        · rw [E.get 0 rfl]; simp only [intOf]; omega
      | true =>
        rw [hq5] at E
        have hjt : j < l.length := by have := of_decide_eq_true hq5; omega
        obtain ⟨s, hs⟩ : ∃ s, l[i]? = some s := ⟨_, List.getElem?_eq_getElem hit⟩
        obtain ⟨t, ht⟩ : ∃ t, l[j]? = some t := ⟨_, List.getElem?_eq_getElem hjt⟩
        obtain ⟨g, off, hpe, hgl, hseg⟩ := hp.at hit
        have hK : kAt l ⟨i, hit⟩ ⟨j, hjt⟩ = meetsN s t := kAt_eq hit hjt hs ht
        refine wp_cond_true (E.get 0 rfl) ?_
        refine wp_skip ?_
        refine then_n ?_
        refine wp_seq ?_
        refine wp_block ?_
        refine wp_seq ?_
        refine wp_region_inv (n := 44) (base := [(22, .bool true), (21, .int .i64 (l.length : Int)), (20, .slice (p) l.length cap), (19, .int .i64 (j : Int)), (6, .int .i64 (j : Int)), (5, .int .i64 (i : Int)), (4, ov), (0, .slice (p) l.length cap)]) (T := [some (25, .slice (p) l.length cap), some (26, .int .i64 (i : Int)), some (27, .pointer (some ⟨g, (off + i * 4), none⟩)), some (28, .agg (sgC s)), some (29, .slice (p) l.length cap), some (30, .int .i64 (j : Int)), some (31, .pointer (some ⟨g, (off + j * 4), none⟩)), some (32, .agg (sgC t)), some (33, .int .i64 (meetsN s t)), some (7, .int .i64 (meetsN s t))]) (M := fun _ w5 => Fr (fun _ => False) w2 w5) (by kernel_rfl) (by kernel_rfl) (by kernel_rfl) (E.of ⟨E.get 0 rfl, E.get 1 rfl, E.get 2 rfl, E.get 3 rfl, E.get 4 rfl, E.get 5 rfl, E.get 6 rfl, E.get 7 rfl, trivial⟩) (Fr.refl _ _).drew ?_ ?_
        · intro j9 o9 t9 ls9 a w5 ho hT0 hl E D DL hM
          have hp := hp.fr hM (fun _ _ h => h)
          have hO := own_fr hO hM (fun _ _ h => h)
          have hBs := Nat.le_trans hBs hM.size
          have hseg := hseg.fr hM id
          match j9, ho, hT0, hl, D, DL with
          | 0, ho, hT0, hl, D, DL =>
            obtain rfl := Option.some.inj ho
            obtain rfl := Option.some.inj hT0
            clear ho hT0
            exact val_wp (run_move rfl (E.get 7 rfl)) rfl hM
          | 1, ho, hT0, hl, D, DL =>
            obtain rfl := Option.some.inj ho
            obtain rfl := Option.some.inj hT0
            clear ho hT0
            exact val_wp (run_move rfl (E.get 5 rfl)) rfl hM
          | 2, ho, hT0, hl, D, DL =>
            obtain rfl := Option.some.inj ho
            obtain rfl := Option.some.inj hT0
            clear ho hT0
            exact val_wp (run_index22 rfl ((D 0 _ rfl rfl).trans (by rw [hpe])) (D 1 _ rfl rfl) hit) rfl hM
          | 3, ho, hT0, hl, D, DL =>
            obtain rfl := Option.some.inj ho
            obtain rfl := Option.some.inj hT0
            clear ho hT0
            exact val_wp (run_ld34 rfl (D 2 _ rfl rfl) (hseg i _ hs)) rfl hM
          | 4, ho, hT0, hl, D, DL =>
            obtain rfl := Option.some.inj ho
            obtain rfl := Option.some.inj hT0
            clear ho hT0
            exact val_wp (run_move rfl (E.get 7 rfl)) rfl hM
          | 5, ho, hT0, hl, D, DL =>
            obtain rfl := Option.some.inj ho
            obtain rfl := Option.some.inj hT0
            clear ho hT0
            exact val_wp (run_move rfl (E.get 4 rfl)) rfl hM
          | 6, ho, hT0, hl, D, DL =>
            obtain rfl := Option.some.inj ho
            obtain rfl := Option.some.inj hT0
            clear ho hT0
            exact val_wp (run_index22 rfl ((D 4 _ rfl rfl).trans (by rw [hpe])) (D 5 _ rfl rfl) hjt) rfl hM
          | 7, ho, hT0, hl, D, DL =>
            obtain rfl := Option.some.inj ho
            obtain rfl := Option.some.inj hT0
            clear ho hT0
            exact val_wp (run_ld34 rfl (D 6 _ rfl rfl) (hseg j _ ht)) rfl hM
          | 8, ho, hT0, hl, D, DL =>
            obtain rfl := Option.some.inj ho
            obtain rfl := Option.some.inj hT0
            clear ho hT0
            exact call_wp (run_call2 (enters_of Try.func28 (by kernel_rfl) rfl) rfl rfl (D 3 _ rfl rfl) (D 7 _ rfl rfl)) (rmeets_calls _ _ _) rfl fun w9 f1 => (hM.trans f1)
          | 9, ho, hT0, hl, D, DL =>
            obtain rfl := Option.some.inj ho
            obtain rfl := Option.some.inj hT0
            clear ho hT0
            exact val_wp (run_assign rfl (D 8 _ rfl rfl)) rfl hM
          | j9 + 10, ho, hT0, hl, D, DL => exact absurd hT0 (by simp)
        · intro a w5 E V hM
          have E := E.add (V 9 _ rfl)
          clear V
          have hp := hp.fr hM (fun _ _ h => h)
          have hO := own_fr hO hM (fun _ _ h => h)
          have hBs := Nat.le_trans hBs hM.size
          have hseg := hseg.fr hM id
          have hf := hf.trans hM
          clear hM
          refine then_n ?_
          refine wp_seq ?_
          refine wp_region_lit ?_
          refine env_put (d := 34) (v := .int .i64 (meetsN s t)) E rfl (by decide) rfl (wanted_none rfl _) (run_move rfl (E.get 0 rfl)) fun a E => ?_
          refine env_put (d := 35) (v := .bool ((meetsN s t) != 0)) E rfl (by decide) rfl (wanted_none rfl _) (run_ineq (E.get 0 rfl) rfl Try.underlying3 rfl) fun a E => ?_
          refine wpList_nil ?_
          refine then_n ?_
          cases hq7 : ((meetsN s t) != 0) with
          | false =>
            rw [hq7] at E
            refine wp_cond_false (E.get 0 rfl) ?_
            refine wp_skip ?_
            refine blk_n ?_
            refine then_n ?_
            refine wp_region_lit ?_
            refine env_put (d := 23) (v := .int .i64 (j : Int)) E rfl (by decide) rfl (wanted_none rfl _) (run_move rfl (E.get 7 rfl)) fun a E => ?_
            refine env_put (d := 24) (v := .int .i64 ((j : Int) + 1)) E rfl (by decide) rfl (wanted_none rfl _) (run_iadd (E.get 0 rfl) rfl (by omega) (by omega) rfl) fun a E => ?_
            refine env_set (d := 6) (v := .int .i64 ((j : Int) + 1)) E rfl (by decide) (wanted_none rfl _) (run_assign rfl (E.get 0 rfl)) fun a E => ?_
            refine wpList_nil ?_
            refine then_n ?_
            refine ⟨⟨j + 1, ov, E.of ⟨E.get 0 rfl, E.get 10 rfl, E.get 11 rfl, E.get 12 rfl, trivial⟩, by omega, hjt, ?_, hp, hBs, hf⟩, ?_⟩
            · rw [preS_succ_not hit hjt (by rw [hK]; simpa using hq7)]; exact hO
            · rw [E.get 0 rfl]; simp only [intOf]; omega
          | true =>
            rw [hq7] at E
            have hK0 : kAt l ⟨i, hit⟩ ⟨j, hjt⟩ ≠ 0 := by rw [hK]; simpa using hq7
            obtain ⟨m, hm⟩ : ∃ m, m = mtAt l (⟨i, hit⟩, ⟨j, hjt⟩) := ⟨_, rfl⟩
            have hma : (m.a.val : Int) = i := by rw [hm, mtAt_a hn]
            have hmb : (m.b.val : Int) = j := by rw [hm, mtAt_b hn]
            have hmk : m.k = meetsN s t := by rw [hm, ← hK]; rfl
            have hkb : ((Swp.preS (kAt l) i j).map (mtAt l)).length ≤ 400000000 := by rw [List.length_map]; have h1 := Swp.pre_len_le (K := kAt l) i j; have h2 : i * l.length ≤ 60 * 60 := Nat.mul_le_mul (by omega) hn60; omega
            refine wp_cond_true (E.get 0 rfl) ?_
            refine wp_region_lit ?_
            refine env_put (d := 36) (v := ov) E rfl (by decide) rfl (wanted_none rfl _) (run_move rfl (E.get 9 rfl)) fun a E => ?_
            refine env_put (d := 37) (v := .int .i64 (i : Int)) E rfl (by decide) rfl (wanted_none rfl _) (run_move rfl (E.get 9 rfl)) fun a E => ?_
            refine env_put (d := 38) (v := .int .i64 (j : Int)) E rfl (by decide) rfl (wanted_none rfl _) (run_move rfl (E.get 9 rfl)) fun a E => ?_
            refine env_put (d := 39) (v := .int .i64 (meetsN s t)) E rfl (by decide) rfl (wanted_none rfl _) (run_move rfl (E.get 5 rfl)) fun a E => ?_
            refine env_put (d := 40) (v := .agg (mtC m).toArray) E rfl (by decide) rfl (wanted_none rfl _) (run_of36 (a := m) rfl ((E.get 2 rfl).trans (by rw [hma])) ((E.get 1 rfl).trans (by rw [hmb])) ((E.get 0 rfl).trans (by rw [hmk]))) fun a E => ?_
            refine env_one36 (d := 41) E rfl (by decide) rfl (wanted_none rfl _) rfl (E.get 0 rfl) fun a w1 b8 _ hb8 f1 E => ?_
            have hp := hp.fr f1 (fun _ _ h => h)
            have hO := own_fr hO f1 (fun _ _ h => h)
            have hBs := Nat.le_trans hBs f1.size
            have hseg := hseg.fr f1 id
            have hf := hf.trans f1
            clear f1
            refine env_app36 (d := 42) E rfl (by decide) rfl rfl rfl (E.get 5 rfl) hO (E.get 0 rfl) hb8 hkb (by omega) fun a w1 ov9 hO2 f1 hloc E => ?_
            have hp := hp.fr f1 (fun r hr h => by have := (own_lt hO h).1; omega)
            have hBs := Nat.le_trans hBs f1.size
            have hf := hf.trans' f1 fun r hr h => by have := (own_lt hO h).1; omega
            clear f1
            replace hO := hO2
            clear hloc
            refine env_set (d := 4) (v := ov9) E rfl (by decide) (wanted_none rfl _) (run_assign rfl (E.get 0 rfl)) fun a E => ?_
            refine wpList_nil ?_
            refine blk_n ?_
            refine then_n ?_
            refine wp_region_lit ?_
            refine env_put (d := 23) (v := .int .i64 (j : Int)) E rfl (by decide) rfl (wanted_none rfl _) (run_move rfl (E.get 15 rfl)) fun a E => ?_
            refine env_put (d := 24) (v := .int .i64 ((j : Int) + 1)) E rfl (by decide) rfl (wanted_none rfl _) (run_iadd (E.get 0 rfl) rfl (by omega) (by omega) rfl) fun a E => ?_
            refine env_set (d := 6) (v := .int .i64 ((j : Int) + 1)) E rfl (by decide) (wanted_none rfl _) (run_assign rfl (E.get 0 rfl)) fun a E => ?_
            refine wpList_nil ?_
            refine then_n ?_
            refine ⟨⟨j + 1, ov9, E.of ⟨E.get 0 rfl, E.get 18 rfl, E.get 3 rfl, E.get 19 rfl, trivial⟩, by omega, hjt, ?_, hp, hBs, hf⟩, ?_⟩
            · rw [Swp.preS_succ, Swp.hitS_of hit hjt hji hK0, List.map_append]; rw [hm] at hO; exact hO
            · rw [E.get 0 rfl]; simp only [intOf]; omega
  | true =>
    rw [hq1] at E
    exfalso; have := of_decide_eq_true hq1; omega
end Go.Proofs.Ytiainjcimmeedaa
