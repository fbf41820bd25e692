/- The program's geometry: Meets. -/
import Derived.Test.YtiainjcimmeedaaOnl
import Derived.Test.YtiainjcimmeedaaDrw
set_option linter.unusedVariables false
set_option linter.unusedSimpArgs false
namespace Go.Proofs.Ytiainjcimmeedaa
open Go.RowKit Go.Pl Go.Geo

/-- Meets, at points of which one may be far. -/
def meetsN (s t : Sg) : Int := if ∀ p ∈ [s.1, s.2, t.1, t.2], nearP p then meetsF s t else 0
theorem ori_at {a b c : Pt} (h1 : nearP a) (h2 : nearP b) (h3 : nearP c) (w : World) : Calls Try.prog 31 #[.agg (ptC a), .agg (ptC b), .agg (ptC c)] w fun e w' => e = .returned (.int .i64 (ori a b c)) ∧ Fr (fun _ => False) w w' := by
  have := orient_calls a b c w
  rwa [oriN_near h1 h2 h3] at this
theorem ori_bd (a b c : Pt) : -1 ≤ ori a b c ∧ ori a b c ≤ 1 := by unfold ori cmpI; split <;> (try split) <;> omega
theorem run_imul {o : Oper} {w : World} {ρ : Operand → Value} {x y : Operand} {m n : Int} (hx : ρ x = .int .i64 m) (hy : ρ y = .int .i64 n) (h1 : -9223372036854775808 ≤ m * n) (h2 : m * n ≤ 9223372036854775807) (ho : o.op = .binOp .mul 3 x y 3) : (execOp ρ o).run Try.prog w = .ok (.value (.int .i64 (m * n))) w := by
  simp [execOp, ho, hx, hy, go_sem, IntWalk.i64_in _ ⟨h1, h2⟩]
theorem ori_mul (a b c d e f : Pt) : -9223372036854775808 ≤ ori a b c * ori d e f ∧ ori a b c * ori d e f ≤ 9223372036854775807 := by
  have h1 := ori_bd a b c
  have h2 := ori_bd d e f
  have : ori a b c = -1 ∨ ori a b c = 0 ∨ ori a b c = 1 := by omega
  rcases this with h | h | h <;> rw [h] <;> omega
def Reg3 (w : World) (s t : Sg) (b0 b1 : Nat) (a' : Act) (w' : World) : Prop := Env 125 [(3, .pointer (some ⟨b1, 0, none⟩)), (2, .pointer (some ⟨b0, 0, none⟩)), (4, .int .i64 0)] a' ∧ sgB w' b0 (srt s) ∧ sgB w' b1 (srt t) ∧ Fr (fun _ => False) w w'

set_option maxRecDepth 100000 in
set_option maxHeartbeats 8000000 in
theorem meets_calls (s t : Sg) (w : World) : Calls Try.prog 13 #[.agg (sgC s), .agg (sgC t)] w fun e w' => e = .returned (.int .i64 (meetsN s t)) ∧ Fr (fun _ => False) w w' := by
  refine wp_start2 Try.func13 rfl rfl (n := 125) (by decide) fun a E => ?_
  have hf := Fr.refl (fun _ => False) w
  refine wp_seq ?_
  refine wp_region_lit ?_
  refine env_box34 (d := 2) E rfl (by decide) rfl (wanted_none rfl _) rfl (E.get 0 rfl) fun a w1 b0 e1 hb0 f1 E => ?_
  have l_b0 : w.heap.size ≤ b0 := by have := hf.size; omega
  have hf := hf.trans f1
  clear e1 f1
  refine env_box34 (d := 3) E rfl (by decide) rfl (wanted_none rfl _) rfl (E.get 2 rfl) fun a w1 b1 e1 hb1 f1 E => ?_
  have l_b1 : w.heap.size ≤ b1 := by have := hf.size; omega
  have n_b0_b1 : b0 ≠ b1 := by have := lt_of_blk hb0; omega
  have hb0 := hb0.fr f1 (fun h => h)
  have hf := hf.trans f1
  clear e1 f1
  refine env_put (d := 4) (v := .int .i64 0) E rfl (by decide) rfl (wanted_none rfl _) (run_assign rfl rfl) fun a E => ?_
  refine wpList_nil ?_
  refine then_n ?_
  refine wp_seq ?_
  refine wp_seq ?_
  refine wp_region_lit ?_
  refine env_put (d := 9) (v := .pointer (some ⟨b0, 0, none⟩)) E rfl (by decide) rfl (wanted_none rfl _) (fa34_0 rfl (E.get 2 rfl)) fun a E => ?_
  refine env_put (d := 10) (v := .agg (ptC (s.1))) E rfl (by decide) rfl (wanted_none rfl _) (ld_sg1 rfl (E.get 0 rfl) hb0) fun a E => ?_
  refine env_put (d := 11) (v := .pointer (some ⟨b0, 2, none⟩)) E rfl (by decide) rfl (wanted_none rfl _) (fa34_1 rfl (E.get 4 rfl)) fun a E => ?_
  refine env_put (d := 12) (v := .agg (ptC (s.2))) E rfl (by decide) rfl (wanted_none rfl _) (ld_sg2 rfl (E.get 0 rfl) hb0) fun a E => ?_
  refine env_put (d := 13) (v := .pointer (some ⟨b1, 0, none⟩)) E rfl (by decide) rfl (wanted_none rfl _) (fa34_0 rfl (E.get 5 rfl)) fun a E => ?_
  refine env_put (d := 14) (v := .agg (ptC (t.1))) E rfl (by decide) rfl (wanted_none rfl _) (ld_sg1 rfl (E.get 0 rfl) hb1) fun a E => ?_
  refine env_put (d := 15) (v := .pointer (some ⟨b1, 2, none⟩)) E rfl (by decide) rfl (wanted_none rfl _) (fa34_1 rfl (E.get 7 rfl)) fun a E => ?_
  refine env_put (d := 16) (v := .agg (ptC (t.2))) E rfl (by decide) rfl (wanted_none rfl _) (ld_sg2 rfl (E.get 0 rfl) hb1) fun a E => ?_
  refine env_pts4 (d := 17) E rfl (by decide) rfl (wanted_none rfl _) rfl (E.get 6 rfl) (E.get 4 rfl) (E.get 2 rfl) (E.get 0 rfl) fun a w1 bs hcall f1 E => ?_
  have hb0 := hb0.fr f1 (fun h => h)
  have hb1 := hb1.fr f1 (fun h => h)
  have hf := hf.trans f1
  clear f1
  refine env_call (d := 18) (v := .bool (decide (∀ p ∈ [s.1, s.2, t.1, t.2], nearP p))) E rfl (by decide) rfl (wanted_none rfl _) (run_call1 (enters_of Try.func29 (by kernel_rfl) rfl) rfl rfl (E.get 0 rfl)) hcall fun a w1 f1 E => ?_
  have hb0 := hb0.fr f1 (fun h => h)
  have hb1 := hb1.fr f1 (fun h => h)
  have hf := hf.trans f1
  clear f1
  refine env_put (d := 19) (v := .bool (!(decide (∀ p ∈ [s.1, s.2, t.1, t.2], nearP p)))) E rfl (by decide) rfl (wanted_none rfl _) (run_not rfl (E.get 0 rfl)) fun a E => ?_
  refine wpList_nil ?_
  refine then_n ?_
  cases hq1 : (decide (∀ p ∈ [s.1, s.2, t.1, t.2], nearP p)) with
  | false =>
    rw [hq1] at E
    refine wp_cond_true (E.get 0 rfl) ?_
    refine wp_seq ?_
    refine wp_region_lit ?_
    refine env_set (d := 4) (v := .int .i64 0) E rfl (by decide) (wanted_none rfl _) (run_assign rfl rfl) fun a E => ?_
    refine wpList_nil ?_
    refine then_n ?_
    refine wp_ret ?_
    refine then_r ?_
    refine ret_tmp (t := 4) (v := .int .i64 0) rfl E (E.get 0 rfl) ⟨?_, hf⟩
    exact ret_int (by unfold meetsN; rw [if_neg (by simpa using hq1)])
  | true =>
    rw [hq1] at E
    refine wp_cond_false (E.get 0 rfl) ?_
    refine wp_skip ?_
    refine then_n ?_
    have hnr := of_decide_eq_true hq1
    have hO : Hid (meetsN s t = meetsS (srt s) (srt t)) := by unfold meetsN; rw [Hid, if_pos hnr]; rfl
    have hs : Hid (nearS (srt s)) := srt_near (hnr _ (by simp)) (hnr _ (by simp))
    have ht : Hid (nearS (srt t)) := srt_near (hnr _ (by simp)) (hnr _ (by simp))
    clear hnr hq1
    refine wp_seq_cut (Reg3 w s t b0 b1) ?_ ?_
    · refine wp_region_inv (n := 125) (base := [(3, .pointer (some ⟨b1, 0, none⟩)), (2, .pointer (some ⟨b0, 0, none⟩)), (4, .int .i64 0)]) (T := [some (20, .agg (sgC s)), some (21, .agg (sgC (srt s))), some (22, .agg (sgC t)), some (23, .agg (sgC (srt t))), none, none]) (M := fun lst w' => sgB w' b0 (bif lst 4 then srt s else s) ∧ sgB w' b1 (bif lst 5 then srt t else t) ∧ Fr (fun _ => False) w w' ∧ (lst 1 = true → lst 0 = true) ∧ (lst 4 = true → lst 1 = true) ∧ (lst 3 = true → lst 2 = true) ∧ (lst 5 = true → lst 3 = true)) (by kernel_rfl) (by kernel_rfl) (by kernel_rfl) (E.of ⟨E.get 12 rfl, E.get 13 rfl, E.get 11 rfl, trivial⟩) ⟨hb0.fr (Fr.refl (fun _ => False) _).drew id, hb1.fr (Fr.refl (fun _ => False) _).drew id, hf.drew, fun h => h, fun h => h, fun h => h, fun h => h⟩ ?_ ?_
      · intro i o tt lst a w2 ho hT0 hl E D DL hM
        match i, ho, hT0, hl, D, DL with
        | 0, ho, hT0, hl, D, DL =>
          obtain rfl := Option.some.inj ho
          obtain rfl := Option.some.inj hT0
          clear ho hT0
          obtain ⟨m0, m1, m2, c1, c2, c3, c4⟩ := hM
          have hst : lst 4 = false := by
            cases h : lst 4 with
            | false => rfl
            | true => have := c1 (c2 h); rw [hl] at this; cases this
          have k := m0
          rw [hst] at k
          exact val_wp (ld_sg rfl (E.get 1 rfl) k) rfl ⟨m0, m1, m2, by simp_all, by simp_all, by simp_all, by simp_all⟩
        | 1, ho, hT0, hl, D, DL =>
          obtain rfl := Option.some.inj ho
          obtain rfl := Option.some.inj hT0
          clear ho hT0
          obtain ⟨m0, m1, m2, c1, c2, c3, c4⟩ := hM
          have hd := DL 0 rfl
          exact call_wp (run_call1 (enters_of Try.func30 (by kernel_rfl) rfl) rfl rfl (D 0 _ rfl rfl)) (sorted_calls s _) rfl fun w2 f => ⟨m0.fr f id, m1.fr f id, m2.trans f, by simp_all, by simp_all, by simp_all, by simp_all⟩
        | 2, ho, hT0, hl, D, DL =>
          obtain rfl := Option.some.inj ho
          obtain rfl := Option.some.inj hT0
          clear ho hT0
          obtain ⟨m0, m1, m2, c1, c2, c3, c4⟩ := hM
          have hst : lst 5 = false := by
            cases h : lst 5 with
            | false => rfl
            | true => have := c3 (c4 h); rw [hl] at this; cases this
          have k := m1
          rw [hst] at k
          exact val_wp (ld_sg rfl (E.get 0 rfl) k) rfl ⟨m0, m1, m2, by simp_all, by simp_all, by simp_all, by simp_all⟩
        | 3, ho, hT0, hl, D, DL =>
          obtain rfl := Option.some.inj ho
          obtain rfl := Option.some.inj hT0
          clear ho hT0
          obtain ⟨m0, m1, m2, c1, c2, c3, c4⟩ := hM
          have hd := DL 2 rfl
          exact call_wp (run_call1 (enters_of Try.func30 (by kernel_rfl) rfl) rfl rfl (D 2 _ rfl rfl)) (sorted_calls t _) rfl fun w2 f => ⟨m0.fr f id, m1.fr f id, m2.trans f, by simp_all, by simp_all, by simp_all, by simp_all⟩
        | 4, ho, hT0, hl, D, DL =>
          obtain rfl := Option.some.inj ho
          obtain rfl := Option.some.inj hT0
          clear ho hT0
          obtain ⟨m0, m1, m2, c1, c2, c3, c4⟩ := hM
          have hd := DL 1 rfl
          exact store_wp (run_st34 (t := srt s) rfl (E.get 1 rfl) (D 1 _ rfl rfl) m0) rfl ⟨((m0.set (srt s)) : _), (m1.fr (Fr.one4 b0 _ _ _ _ _) n_b0_b1.symm), m2.trans' (Fr.one4 b0 _ _ _ _ _) (fun r hr e => by have : r = b0 := e; omega), by simp_all, by simp_all, by simp_all, by simp_all⟩
        | 5, ho, hT0, hl, D, DL =>
          obtain rfl := Option.some.inj ho
          obtain rfl := Option.some.inj hT0
          clear ho hT0
          obtain ⟨m0, m1, m2, c1, c2, c3, c4⟩ := hM
          have hd := DL 3 rfl
          exact store_wp (run_st34 (t := srt t) rfl (E.get 0 rfl) (D 3 _ rfl rfl) m1) rfl ⟨(m0.fr (Fr.one4 b1 _ _ _ _ _) n_b0_b1), ((m1.set (srt t)) : _), m2.trans' (Fr.one4 b1 _ _ _ _ _) (fun r hr e => by have : r = b1 := e; omega), by simp_all, by simp_all, by simp_all, by simp_all⟩
        | i + 6, ho, hT0, hl, D, DL => exact absurd hT0 (by simp)
      · intro a w2 E V hM
        exact ⟨E, hM.1, hM.2.1, hM.2.2.1⟩
    · rintro a w1 ⟨E, hb0, hb1, hf⟩
      generalize srt s = u at *
      generalize srt t = v at *
      refine wp_seq_cut (fun a' w' => Env 125 [(3, .pointer (some ⟨b1, 0, none⟩)), (2, .pointer (some ⟨b0, 0, none⟩)), (4, .int .i64 0)] a' ∧ sgB w' b0 u ∧ sgB w' b1 v ∧ Fr (fun _ => False) w w' ∧ Hid (u ≠ v ∧ ¬ flat u v)) ?_ ?_
      · refine wp_block ?_
        refine wp_seq ?_
        refine wp_region_lit ?_
        refine env_put (d := 25) (v := .agg (sgC u)) E rfl (by decide) rfl (wanted_none rfl _) (ld_sg rfl (E.get 1 rfl) hb0) fun a E => ?_
        refine env_put (d := 26) (v := .agg (sgC v)) E rfl (by decide) rfl (wanted_none rfl _) (ld_sg rfl (E.get 1 rfl) hb1) fun a E => ?_
        refine env_put (d := 27) (v := .bool (decide (u = v))) E rfl (by decide) rfl (wanted_none rfl _) (eql34 rfl (E.get 1 rfl) (E.get 0 rfl)) fun a E => ?_
        refine env_put (d := 24) (v := .bool (decide (u = v))) E rfl (by decide) rfl (wanted_none rfl _) (run_assign rfl (E.get 0 rfl)) fun a E => ?_
        refine wpList_nil ?_
        refine then_n ?_
        cases hq2 : (decide (u = v)) with
        | false =>
          rw [hq2] at E
          refine wp_cond_false (E.get 0 rfl) ?_
          refine wp_seq ?_
          refine wp_region_lit ?_
          refine env_put (d := 29) (v := .pointer (some ⟨b0, 0, none⟩)) E rfl (by decide) rfl (wanted_none rfl _) (fa34_0 rfl (E.get 5 rfl)) fun a E => ?_
          refine env_put (d := 30) (v := .agg (ptC (u.1))) E rfl (by decide) rfl (wanted_none rfl _) (ld_sg1 rfl (E.get 0 rfl) hb0) fun a E => ?_
          refine env_put (d := 31) (v := .pointer (some ⟨b0, 2, none⟩)) E rfl (by decide) rfl (wanted_none rfl _) (fa34_1 rfl (E.get 7 rfl)) fun a E => ?_
          refine env_put (d := 32) (v := .agg (ptC (u.2))) E rfl (by decide) rfl (wanted_none rfl _) (ld_sg2 rfl (E.get 0 rfl) hb0) fun a E => ?_
          refine env_put (d := 33) (v := .bool (decide ((u.1) = (u.2)))) E rfl (by decide) rfl (wanted_none rfl _) (eql32 rfl (E.get 2 rfl) (E.get 0 rfl)) fun a E => ?_
          refine env_put (d := 34) (v := .bool (decide ((u.1) = (u.2)))) E rfl (by decide) rfl (wanted_none rfl _) (run_move rfl (E.get 0 rfl)) fun a E => ?_
          cases hq3 : (decide ((u.1) = (u.2))) with
          | false =>
            rw [hq3] at E
            refine env_put (d := 35) (v := .pointer (some ⟨b1, 0, none⟩)) E rfl (by decide) rfl (w_yes (g := 5) (s := 34) E rfl rfl (by decide) (E.get 0 rfl)) (fa34_0 rfl (E.get 10 rfl)) fun a E => ?_
            refine env_put (d := 36) (v := .agg (ptC (v.1))) E rfl (by decide) rfl (w_yes (g := 5) (s := 34) E rfl rfl (by decide) (E.get 1 rfl)) (ld_sg1 rfl (E.get 0 rfl) hb1) fun a E => ?_
            refine env_put (d := 37) (v := .pointer (some ⟨b1, 2, none⟩)) E rfl (by decide) rfl (w_yes (g := 5) (s := 34) E rfl rfl (by decide) (E.get 2 rfl)) (fa34_1 rfl (E.get 12 rfl)) fun a E => ?_
            refine env_put (d := 38) (v := .agg (ptC (v.2))) E rfl (by decide) rfl (w_yes (g := 5) (s := 34) E rfl rfl (by decide) (E.get 3 rfl)) (ld_sg2 rfl (E.get 0 rfl) hb1) fun a E => ?_
            refine env_put (d := 39) (v := .bool (decide ((v.1) = (v.2)))) E rfl (by decide) rfl (w_yes (g := 5) (s := 34) E rfl rfl (by decide) (E.get 4 rfl)) (eql32 rfl (E.get 2 rfl) (E.get 0 rfl)) fun a E => ?_
            refine env_put (d := 40) (v := .bool (decide ((v.1) = (v.2)))) E rfl (by decide) rfl (wanted_none rfl _) (run_pick_f rfl (E.get 5 rfl) (E.get 0 rfl)) fun a E => ?_
            refine env_put (d := 41) (v := .bool (decide ((v.1) = (v.2)))) E rfl (by decide) rfl (wanted_none rfl _) (run_move rfl (E.get 0 rfl)) fun a E => ?_
            cases hq4 : (decide ((v.1) = (v.2))) with
            | false =>
              rw [hq4] at E
              refine env_put (d := 42) (v := .pointer (some ⟨b0, 0, none⟩)) E rfl (by decide) rfl (w_yes (g := 12) (s := 41) E rfl rfl (by decide) (E.get 0 rfl)) (fa34_0 rfl (E.get 18 rfl)) fun a E => ?_
              refine env_put (d := 43) (v := .agg (ptC (u.1))) E rfl (by decide) rfl (w_yes (g := 12) (s := 41) E rfl rfl (by decide) (E.get 1 rfl)) (ld_sg1 rfl (E.get 0 rfl) hb0) fun a E => ?_
              refine env_put (d := 44) (v := .pointer (some ⟨b0, 2, none⟩)) E rfl (by decide) rfl (w_yes (g := 12) (s := 41) E rfl rfl (by decide) (E.get 2 rfl)) (fa34_1 rfl (E.get 20 rfl)) fun a E => ?_
              refine env_put (d := 45) (v := .agg (ptC (u.2))) E rfl (by decide) rfl (w_yes (g := 12) (s := 41) E rfl rfl (by decide) (E.get 3 rfl)) (ld_sg2 rfl (E.get 0 rfl) hb0) fun a E => ?_
              refine env_put (d := 46) (v := .pointer (some ⟨b1, 0, none⟩)) E rfl (by decide) rfl (w_yes (g := 12) (s := 41) E rfl rfl (by decide) (E.get 4 rfl)) (fa34_0 rfl (E.get 21 rfl)) fun a E => ?_
              refine env_put (d := 47) (v := .agg (ptC (v.1))) E rfl (by decide) rfl (w_yes (g := 12) (s := 41) E rfl rfl (by decide) (E.get 5 rfl)) (ld_sg1 rfl (E.get 0 rfl) hb1) fun a E => ?_
              refine env_call (d := 48) (v := .int .i64 (ori (u.1) (u.2) (v.1))) E rfl (by decide) rfl (w_yes (g := 12) (s := 41) E rfl rfl (by decide) (E.get 6 rfl)) (run_call3 (enters_of Try.func31 (by kernel_rfl) rfl) rfl rfl (E.get 4 rfl) (E.get 2 rfl) (E.get 0 rfl)) (ori_at (hs.out.1) (hs.out.2) (ht.out.1) _) fun a w1 f1 E => ?_
              have hb0 := hb0.fr f1 (fun h => h)
              have hb1 := hb1.fr f1 (fun h => h)
              have hf := hf.trans f1
              clear f1
              refine env_put (d := 49) (v := .bool ((ori (u.1) (u.2) (v.1)) == 0)) E rfl (by decide) rfl (w_yes (g := 12) (s := 41) E rfl rfl (by decide) (E.get 7 rfl)) (run_ieql (E.get 0 rfl) rfl Try.underlying3 rfl) fun a E => ?_
              refine env_put (d := 50) (v := .bool ((ori (u.1) (u.2) (v.1)) == 0)) E rfl (by decide) rfl (w_yes (g := 12) (s := 41) E rfl rfl (by decide) (E.get 8 rfl)) (run_move rfl (E.get 0 rfl)) fun a E => ?_
              cases hq5 : ((ori (u.1) (u.2) (v.1)) == 0) with
              | false =>
                rw [hq5] at E
                refine env_skip (d := 51) (g := 21) (s := 50) E rfl (by decide) rfl rfl rfl (by decide) (E.get 0 rfl) fun a E => ?_
                refine env_skip (d := 52) (g := 21) (s := 50) E rfl (by decide) rfl rfl rfl (by decide) (E.get 1 rfl) fun a E => ?_
                refine env_skip (d := 53) (g := 21) (s := 50) E rfl (by decide) rfl rfl rfl (by decide) (E.get 2 rfl) fun a E => ?_
                refine env_skip (d := 54) (g := 21) (s := 50) E rfl (by decide) rfl rfl rfl (by decide) (E.get 3 rfl) fun a E => ?_
                refine env_skip (d := 55) (g := 21) (s := 50) E rfl (by decide) rfl rfl rfl (by decide) (E.get 4 rfl) fun a E => ?_
                refine env_skip (d := 56) (g := 21) (s := 50) E rfl (by decide) rfl rfl rfl (by decide) (E.get 5 rfl) fun a E => ?_
                refine env_skip (d := 57) (g := 21) (s := 50) E rfl (by decide) rfl rfl rfl (by decide) (E.get 6 rfl) fun a E => ?_
                refine env_skip (d := 58) (g := 21) (s := 50) E rfl (by decide) rfl rfl rfl (by decide) (E.get 7 rfl) fun a E => ?_
                refine env_put (d := 59) (v := .bool false) E rfl (by decide) rfl (w_yes (g := 12) (s := 41) E rfl rfl (by decide) (E.get 17 rfl)) (run_pick_f rfl (E.get 8 rfl) rfl) fun a E => ?_
                refine env_put (d := 60) (v := .bool false) E rfl (by decide) rfl (wanted_none rfl _) (run_pick_f rfl (E.get 18 rfl) (E.get 0 rfl)) fun a E => ?_
                refine env_put (d := 28) (v := .bool false) E rfl (by decide) rfl (wanted_none rfl _) (run_assign rfl (E.get 0 rfl)) fun a E => ?_
                refine wpList_nil ?_
                refine then_n ?_
                refine wp_cond_false (E.get 0 rfl) ?_
                refine wp_skip ?_
                refine blk_n ?_
                refine then_n ?_
                simp only [decide_eq_true_eq, decide_eq_false_iff_not, beq_iff_eq, beq_eq_false_iff_ne, ne_eq] at hq2 hq3 hq4 hq5
                exact ⟨E.of ⟨E.get 37 rfl, E.get 38 rfl, E.get 39 rfl, trivial⟩, hb0, hb1, hf, hq2, (by unfold flat; simp [hq3, hq4, hq5])⟩
              | true =>
                rw [hq5] at E
                refine env_put (d := 51) (v := .pointer (some ⟨b0, 0, none⟩)) E rfl (by decide) rfl (w_yes (g := 21) (s := 50) E rfl rfl (by decide) (E.get 0 rfl)) (fa34_0 rfl (E.get 27 rfl)) fun a E => ?_
                refine env_put (d := 52) (v := .agg (ptC (u.1))) E rfl (by decide) rfl (w_yes (g := 21) (s := 50) E rfl rfl (by decide) (E.get 1 rfl)) (ld_sg1 rfl (E.get 0 rfl) hb0) fun a E => ?_
                refine env_put (d := 53) (v := .pointer (some ⟨b0, 2, none⟩)) E rfl (by decide) rfl (w_yes (g := 21) (s := 50) E rfl rfl (by decide) (E.get 2 rfl)) (fa34_1 rfl (E.get 29 rfl)) fun a E => ?_
                refine env_put (d := 54) (v := .agg (ptC (u.2))) E rfl (by decide) rfl (w_yes (g := 21) (s := 50) E rfl rfl (by decide) (E.get 3 rfl)) (ld_sg2 rfl (E.get 0 rfl) hb0) fun a E => ?_
                refine env_put (d := 55) (v := .pointer (some ⟨b1, 2, none⟩)) E rfl (by decide) rfl (w_yes (g := 21) (s := 50) E rfl rfl (by decide) (E.get 4 rfl)) (fa34_1 rfl (E.get 30 rfl)) fun a E => ?_
                refine env_put (d := 56) (v := .agg (ptC (v.2))) E rfl (by decide) rfl (w_yes (g := 21) (s := 50) E rfl rfl (by decide) (E.get 5 rfl)) (ld_sg2 rfl (E.get 0 rfl) hb1) fun a E => ?_
                refine env_call (d := 57) (v := .int .i64 (ori (u.1) (u.2) (v.2))) E rfl (by decide) rfl (w_yes (g := 21) (s := 50) E rfl rfl (by decide) (E.get 6 rfl)) (run_call3 (enters_of Try.func31 (by kernel_rfl) rfl) rfl rfl (E.get 4 rfl) (E.get 2 rfl) (E.get 0 rfl)) (ori_at (hs.out.1) (hs.out.2) (ht.out.2) _) fun a w1 f1 E => ?_
                have hb0 := hb0.fr f1 (fun h => h)
                have hb1 := hb1.fr f1 (fun h => h)
                have hf := hf.trans f1
                clear f1
                refine env_put (d := 58) (v := .bool ((ori (u.1) (u.2) (v.2)) == 0)) E rfl (by decide) rfl (w_yes (g := 21) (s := 50) E rfl rfl (by decide) (E.get 7 rfl)) (run_ieql (E.get 0 rfl) rfl Try.underlying3 rfl) fun a E => ?_
                refine env_put (d := 59) (v := .bool ((ori (u.1) (u.2) (v.2)) == 0)) E rfl (by decide) rfl (w_yes (g := 12) (s := 41) E rfl rfl (by decide) (E.get 17 rfl)) (run_pick_t rfl (E.get 8 rfl) (E.get 0 rfl)) fun a E => ?_
                refine env_put (d := 60) (v := .bool ((ori (u.1) (u.2) (v.2)) == 0)) E rfl (by decide) rfl (wanted_none rfl _) (run_pick_f rfl (E.get 18 rfl) (E.get 0 rfl)) fun a E => ?_
                refine env_put (d := 28) (v := .bool ((ori (u.1) (u.2) (v.2)) == 0)) E rfl (by decide) rfl (wanted_none rfl _) (run_assign rfl (E.get 0 rfl)) fun a E => ?_
                refine wpList_nil ?_
                refine then_n ?_
                cases hq6 : ((ori (u.1) (u.2) (v.2)) == 0) with
                | false =>
                  rw [hq6] at E
                  refine wp_cond_false (E.get 0 rfl) ?_
                  refine wp_skip ?_
                  refine blk_n ?_
                  refine then_n ?_
                  simp only [decide_eq_true_eq, decide_eq_false_iff_not, beq_iff_eq, beq_eq_false_iff_ne, ne_eq] at hq2 hq3 hq4 hq5 hq6
                  exact ⟨E.of ⟨E.get 37 rfl, E.get 38 rfl, E.get 39 rfl, trivial⟩, hb0, hb1, hf, hq2, (by unfold flat; simp [hq3, hq4, hq5, hq6])⟩
                | true =>
                  rw [hq6] at E
                  refine wp_cond_true (E.get 0 rfl) ?_
                  refine wp_seq ?_
                  refine wp_region_lit ?_
                  refine env_put (d := 61) (v := .agg (sgC u)) E rfl (by decide) rfl (wanted_none rfl _) (ld_sg rfl (E.get 38 rfl) hb0) fun a E => ?_
                  refine env_put (d := 62) (v := .agg (sgC v)) E rfl (by decide) rfl (wanted_none rfl _) (ld_sg rfl (E.get 38 rfl) hb1) fun a E => ?_
                  refine env_call (d := 63) (v := .int .i64 (online u v)) E rfl (by decide) rfl (wanted_none rfl _) (run_call2 (enters_of Try.func32 (by kernel_rfl) rfl) rfl rfl (E.get 1 rfl) (E.get 0 rfl)) (online_calls u v hs.out ht.out _) fun a w1 f1 E => ?_
                  have hb0 := hb0.fr f1 (fun h => h)
                  have hb1 := hb1.fr f1 (fun h => h)
                  have hf := hf.trans f1
                  clear f1
                  refine env_set (d := 4) (v := .int .i64 (online u v)) E rfl (by decide) (wanted_none rfl _) (run_assign rfl (E.get 0 rfl)) fun a E => ?_
                  refine wpList_nil ?_
                  refine then_n ?_
                  refine wp_ret ?_
                  refine blk_r ?_
                  refine then_r ?_
                  refine ret_tmp (t := 4) (v := .int .i64 (online u v)) rfl E (E.get 0 rfl) ⟨?_, hf⟩
                  exact ret_int (by simp only [decide_eq_true_eq, decide_eq_false_iff_not, beq_iff_eq, beq_eq_false_iff_ne, ne_eq] at hq2 hq3 hq4 hq5 hq6; rw [hO.out]; unfold meetsS flat; simp [hq2, hq3, hq4, hq5, hq6])
            | true =>
              rw [hq4] at E
              refine env_skip (d := 42) (g := 12) (s := 41) E rfl (by decide) rfl rfl rfl (by decide) (E.get 0 rfl) fun a E => ?_
              refine env_skip (d := 43) (g := 12) (s := 41) E rfl (by decide) rfl rfl rfl (by decide) (E.get 1 rfl) fun a E => ?_
              refine env_skip (d := 44) (g := 12) (s := 41) E rfl (by decide) rfl rfl rfl (by decide) (E.get 2 rfl) fun a E => ?_
              refine env_skip (d := 45) (g := 12) (s := 41) E rfl (by decide) rfl rfl rfl (by decide) (E.get 3 rfl) fun a E => ?_
              refine env_skip (d := 46) (g := 12) (s := 41) E rfl (by decide) rfl rfl rfl (by decide) (E.get 4 rfl) fun a E => ?_
              refine env_skip (d := 47) (g := 12) (s := 41) E rfl (by decide) rfl rfl rfl (by decide) (E.get 5 rfl) fun a E => ?_
              refine env_skip (d := 48) (g := 12) (s := 41) E rfl (by decide) rfl rfl rfl (by decide) (E.get 6 rfl) fun a E => ?_
              refine env_skip (d := 49) (g := 12) (s := 41) E rfl (by decide) rfl rfl rfl (by decide) (E.get 7 rfl) fun a E => ?_
              refine env_skip (d := 50) (g := 12) (s := 41) E rfl (by decide) rfl rfl rfl (by decide) (E.get 8 rfl) fun a E => ?_
              refine env_skipu (d := 51) (g := 21) (s := 50) E rfl (by decide) rfl rfl rfl (by decide) (E.get 0 rfl) fun a E => ?_
              refine env_skipu (d := 52) (g := 21) (s := 50) E rfl (by decide) rfl rfl rfl (by decide) (E.get 1 rfl) fun a E => ?_
              refine env_skipu (d := 53) (g := 21) (s := 50) E rfl (by decide) rfl rfl rfl (by decide) (E.get 2 rfl) fun a E => ?_
              refine env_skipu (d := 54) (g := 21) (s := 50) E rfl (by decide) rfl rfl rfl (by decide) (E.get 3 rfl) fun a E => ?_
              refine env_skipu (d := 55) (g := 21) (s := 50) E rfl (by decide) rfl rfl rfl (by decide) (E.get 4 rfl) fun a E => ?_
              refine env_skipu (d := 56) (g := 21) (s := 50) E rfl (by decide) rfl rfl rfl (by decide) (E.get 5 rfl) fun a E => ?_
              refine env_skipu (d := 57) (g := 21) (s := 50) E rfl (by decide) rfl rfl rfl (by decide) (E.get 6 rfl) fun a E => ?_
              refine env_skipu (d := 58) (g := 21) (s := 50) E rfl (by decide) rfl rfl rfl (by decide) (E.get 7 rfl) fun a E => ?_
              refine env_skip (d := 59) (g := 12) (s := 41) E rfl (by decide) rfl rfl rfl (by decide) (E.get 17 rfl) fun a E => ?_
              refine env_put (d := 60) (v := .bool true) E rfl (by decide) rfl (wanted_none rfl _) (run_pick_t rfl (E.get 18 rfl) rfl) fun a E => ?_
              refine env_put (d := 28) (v := .bool true) E rfl (by decide) rfl (wanted_none rfl _) (run_assign rfl (E.get 0 rfl)) fun a E => ?_
              refine wpList_nil ?_
              refine then_n ?_
              refine wp_cond_true (E.get 0 rfl) ?_
              refine wp_seq ?_
              refine wp_region_lit ?_
              refine env_put (d := 61) (v := .agg (sgC u)) E rfl (by decide) rfl (wanted_none rfl _) (ld_sg rfl (E.get 38 rfl) hb0) fun a E => ?_
              refine env_put (d := 62) (v := .agg (sgC v)) E rfl (by decide) rfl (wanted_none rfl _) (ld_sg rfl (E.get 38 rfl) hb1) fun a E => ?_
              refine env_call (d := 63) (v := .int .i64 (online u v)) E rfl (by decide) rfl (wanted_none rfl _) (run_call2 (enters_of Try.func32 (by kernel_rfl) rfl) rfl rfl (E.get 1 rfl) (E.get 0 rfl)) (online_calls u v hs.out ht.out _) fun a w1 f1 E => ?_
              have hb0 := hb0.fr f1 (fun h => h)
              have hb1 := hb1.fr f1 (fun h => h)
              have hf := hf.trans f1
              clear f1
              refine env_set (d := 4) (v := .int .i64 (online u v)) E rfl (by decide) (wanted_none rfl _) (run_assign rfl (E.get 0 rfl)) fun a E => ?_
              refine wpList_nil ?_
              refine then_n ?_
              refine wp_ret ?_
              refine blk_r ?_
              refine then_r ?_
              refine ret_tmp (t := 4) (v := .int .i64 (online u v)) rfl E (E.get 0 rfl) ⟨?_, hf⟩
              exact ret_int (by simp only [decide_eq_true_eq, decide_eq_false_iff_not, beq_iff_eq, beq_eq_false_iff_ne, ne_eq] at hq2 hq3 hq4; rw [hO.out]; unfold meetsS flat; simp [hq2, hq3, hq4])
          | true =>
            rw [hq3] at E
            refine env_skip (d := 35) (g := 5) (s := 34) E rfl (by decide) rfl rfl rfl (by decide) (E.get 0 rfl) fun a E => ?_
            refine env_skip (d := 36) (g := 5) (s := 34) E rfl (by decide) rfl rfl rfl (by decide) (E.get 1 rfl) fun a E => ?_
            refine env_skip (d := 37) (g := 5) (s := 34) E rfl (by decide) rfl rfl rfl (by decide) (E.get 2 rfl) fun a E => ?_
            refine env_skip (d := 38) (g := 5) (s := 34) E rfl (by decide) rfl rfl rfl (by decide) (E.get 3 rfl) fun a E => ?_
            refine env_skip (d := 39) (g := 5) (s := 34) E rfl (by decide) rfl rfl rfl (by decide) (E.get 4 rfl) fun a E => ?_
            refine env_put (d := 40) (v := .bool true) E rfl (by decide) rfl (wanted_none rfl _) (run_pick_t rfl (E.get 5 rfl) rfl) fun a E => ?_
            refine env_put (d := 41) (v := .bool true) E rfl (by decide) rfl (wanted_none rfl _) (run_move rfl (E.get 0 rfl)) fun a E => ?_
            refine env_skip (d := 42) (g := 12) (s := 41) E rfl (by decide) rfl rfl rfl (by decide) (E.get 0 rfl) fun a E => ?_
            refine env_skip (d := 43) (g := 12) (s := 41) E rfl (by decide) rfl rfl rfl (by decide) (E.get 1 rfl) fun a E => ?_
            refine env_skip (d := 44) (g := 12) (s := 41) E rfl (by decide) rfl rfl rfl (by decide) (E.get 2 rfl) fun a E => ?_
            refine env_skip (d := 45) (g := 12) (s := 41) E rfl (by decide) rfl rfl rfl (by decide) (E.get 3 rfl) fun a E => ?_
            refine env_skip (d := 46) (g := 12) (s := 41) E rfl (by decide) rfl rfl rfl (by decide) (E.get 4 rfl) fun a E => ?_
            refine env_skip (d := 47) (g := 12) (s := 41) E rfl (by decide) rfl rfl rfl (by decide) (E.get 5 rfl) fun a E => ?_
            refine env_skip (d := 48) (g := 12) (s := 41) E rfl (by decide) rfl rfl rfl (by decide) (E.get 6 rfl) fun a E => ?_
            refine env_skip (d := 49) (g := 12) (s := 41) E rfl (by decide) rfl rfl rfl (by decide) (E.get 7 rfl) fun a E => ?_
            refine env_skip (d := 50) (g := 12) (s := 41) E rfl (by decide) rfl rfl rfl (by decide) (E.get 8 rfl) fun a E => ?_
            refine env_skipu (d := 51) (g := 21) (s := 50) E rfl (by decide) rfl rfl rfl (by decide) (E.get 0 rfl) fun a E => ?_
            refine env_skipu (d := 52) (g := 21) (s := 50) E rfl (by decide) rfl rfl rfl (by decide) (E.get 1 rfl) fun a E => ?_
            refine env_skipu (d := 53) (g := 21) (s := 50) E rfl (by decide) rfl rfl rfl (by decide) (E.get 2 rfl) fun a E => ?_
            refine env_skipu (d := 54) (g := 21) (s := 50) E rfl (by decide) rfl rfl rfl (by decide) (E.get 3 rfl) fun a E => ?_
            refine env_skipu (d := 55) (g := 21) (s := 50) E rfl (by decide) rfl rfl rfl (by decide) (E.get 4 rfl) fun a E => ?_
            refine env_skipu (d := 56) (g := 21) (s := 50) E rfl (by decide) rfl rfl rfl (by decide) (E.get 5 rfl) fun a E => ?_
            refine env_skipu (d := 57) (g := 21) (s := 50) E rfl (by decide) rfl rfl rfl (by decide) (E.get 6 rfl) fun a E => ?_
            refine env_skipu (d := 58) (g := 21) (s := 50) E rfl (by decide) rfl rfl rfl (by decide) (E.get 7 rfl) fun a E => ?_
            refine env_skip (d := 59) (g := 12) (s := 41) E rfl (by decide) rfl rfl rfl (by decide) (E.get 17 rfl) fun a E => ?_
            refine env_put (d := 60) (v := .bool true) E rfl (by decide) rfl (wanted_none rfl _) (run_pick_t rfl (E.get 18 rfl) rfl) fun a E => ?_
            refine env_put (d := 28) (v := .bool true) E rfl (by decide) rfl (wanted_none rfl _) (run_assign rfl (E.get 0 rfl)) fun a E => ?_
            refine wpList_nil ?_
            refine then_n ?_
            refine wp_cond_true (E.get 0 rfl) ?_
            refine wp_seq ?_
            refine wp_region_lit ?_
            refine env_put (d := 61) (v := .agg (sgC u)) E rfl (by decide) rfl (wanted_none rfl _) (ld_sg rfl (E.get 38 rfl) hb0) fun a E => ?_
            refine env_put (d := 62) (v := .agg (sgC v)) E rfl (by decide) rfl (wanted_none rfl _) (ld_sg rfl (E.get 38 rfl) hb1) fun a E => ?_
            refine env_call (d := 63) (v := .int .i64 (online u v)) E rfl (by decide) rfl (wanted_none rfl _) (run_call2 (enters_of Try.func32 (by kernel_rfl) rfl) rfl rfl (E.get 1 rfl) (E.get 0 rfl)) (online_calls u v hs.out ht.out _) fun a w1 f1 E => ?_
            have hb0 := hb0.fr f1 (fun h => h)
            have hb1 := hb1.fr f1 (fun h => h)
            have hf := hf.trans f1
            clear f1
            refine env_set (d := 4) (v := .int .i64 (online u v)) E rfl (by decide) (wanted_none rfl _) (run_assign rfl (E.get 0 rfl)) fun a E => ?_
            refine wpList_nil ?_
            refine then_n ?_
            refine wp_ret ?_
            refine blk_r ?_
            refine then_r ?_
            refine ret_tmp (t := 4) (v := .int .i64 (online u v)) rfl E (E.get 0 rfl) ⟨?_, hf⟩
            exact ret_int (by simp only [decide_eq_true_eq, decide_eq_false_iff_not, beq_iff_eq, beq_eq_false_iff_ne, ne_eq] at hq2 hq3; rw [hO.out]; unfold meetsS flat; simp [hq2, hq3])
        | true =>
          rw [hq2] at E
          refine wp_cond_true (E.get 0 rfl) ?_
          refine wp_seq ?_
          refine wp_region_lit ?_
          refine env_set (d := 4) (v := .int .i64 4) E rfl (by decide) (wanted_none rfl _) (run_assign rfl rfl) fun a E => ?_
          refine wpList_nil ?_
          refine then_n ?_
          refine wp_ret ?_
          refine blk_r ?_
          refine then_r ?_
          refine ret_tmp (t := 4) (v := .int .i64 4) rfl E (E.get 0 rfl) ⟨?_, hf⟩
          exact ret_int (by simp only [decide_eq_true_eq, decide_eq_false_iff_not, beq_iff_eq, beq_eq_false_iff_ne, ne_eq] at hq2; rw [hO.out]; unfold meetsS flat; simp [hq2])
      · rintro a w1 ⟨E, hb0, hb1, hf, hnf⟩
        refine wp_seq_cut (fun a' w' => Env 125 [(6, .int .i64 (ori u.1 u.2 v.2)), (5, .int .i64 (ori u.1 u.2 v.1)), (3, .pointer (some ⟨b1, 0, none⟩)), (2, .pointer (some ⟨b0, 0, none⟩)), (4, .int .i64 0)] a' ∧ sgB w' b0 u ∧ sgB w' b1 v ∧ Fr (fun _ => False) w w') ?_ ?_
        · refine wp_region_inv (n := 125) (base := [(3, .pointer (some ⟨b1, 0, none⟩)), (2, .pointer (some ⟨b0, 0, none⟩)), (4, .int .i64 0)]) (T := [some (64, .pointer (some ⟨b0, 0, none⟩)), some (65, .agg (ptC (u.1))), some (66, .pointer (some ⟨b0, 2, none⟩)), some (67, .agg (ptC (u.2))), some (68, .pointer (some ⟨b1, 0, none⟩)), some (69, .agg (ptC (v.1))), some (70, .int .i64 (ori (u.1) (u.2) (v.1))), some (71, .pointer (some ⟨b0, 0, none⟩)), some (72, .agg (ptC (u.1))), some (73, .pointer (some ⟨b0, 2, none⟩)), some (74, .agg (ptC (u.2))), some (75, .pointer (some ⟨b1, 2, none⟩)), some (76, .agg (ptC (v.2))), some (77, .int .i64 (ori (u.1) (u.2) (v.2))), some (5, .int .i64 (ori (u.1) (u.2) (v.1))), some (6, .int .i64 (ori (u.1) (u.2) (v.2)))]) (M := fun _ w' => sgB w' b0 u ∧ sgB w' b1 v ∧ Fr (fun _ => False) w w') (by kernel_rfl) (by kernel_rfl) (by kernel_rfl) (E.of ⟨E.get 0 rfl, E.get 1 rfl, E.get 2 rfl, trivial⟩) ⟨hb0.fr (Fr.refl (fun _ => False) _).drew id, hb1.fr (Fr.refl (fun _ => False) _).drew id, hf.drew⟩ ?_ ?_
          · intro i o tt lst a w2 ho hT0 hl E D DL hM
            match i, ho, hT0, hl, D, DL with
            | 0, ho, hT0, hl, D, DL =>
              obtain rfl := Option.some.inj ho
              obtain rfl := Option.some.inj hT0
              clear ho hT0
              exact val_wp (fa34_0 rfl (E.get 1 rfl)) rfl hM
            | 1, ho, hT0, hl, D, DL =>
              obtain rfl := Option.some.inj ho
              obtain rfl := Option.some.inj hT0
              clear ho hT0
              exact val_wp (ld_sg1 rfl (D 0 _ rfl rfl) hM.1) rfl hM
            | 2, ho, hT0, hl, D, DL =>
              obtain rfl := Option.some.inj ho
              obtain rfl := Option.some.inj hT0
              clear ho hT0
              exact val_wp (fa34_1 rfl (E.get 1 rfl)) rfl hM
            | 3, ho, hT0, hl, D, DL =>
              obtain rfl := Option.some.inj ho
              obtain rfl := Option.some.inj hT0
              clear ho hT0
              exact val_wp (ld_sg2 rfl (D 2 _ rfl rfl) hM.1) rfl hM
            | 4, ho, hT0, hl, D, DL =>
              obtain rfl := Option.some.inj ho
              obtain rfl := Option.some.inj hT0
              clear ho hT0
              exact val_wp (fa34_0 rfl (E.get 0 rfl)) rfl hM
            | 5, ho, hT0, hl, D, DL =>
              obtain rfl := Option.some.inj ho
              obtain rfl := Option.some.inj hT0
              clear ho hT0
              exact val_wp (ld_sg1 rfl (D 4 _ rfl rfl) hM.2.1) rfl hM
            | 6, ho, hT0, hl, D, DL =>
              obtain rfl := Option.some.inj ho
              obtain rfl := Option.some.inj hT0
              clear ho hT0
              exact call_wp (run_call3 (enters_of Try.func31 (by kernel_rfl) rfl) rfl rfl (D 1 _ rfl rfl) (D 3 _ rfl rfl) (D 5 _ rfl rfl)) (ori_at (hs.out.1) (hs.out.2) (ht.out.1) _) rfl fun w2 f => ⟨hM.1.fr f id, hM.2.1.fr f id, hM.2.2.trans f⟩
            | 7, ho, hT0, hl, D, DL =>
              obtain rfl := Option.some.inj ho
              obtain rfl := Option.some.inj hT0
              clear ho hT0
              exact val_wp (fa34_0 rfl (E.get 1 rfl)) rfl hM
            | 8, ho, hT0, hl, D, DL =>
              obtain rfl := Option.some.inj ho
              obtain rfl := Option.some.inj hT0
              clear ho hT0
              exact val_wp (ld_sg1 rfl (D 7 _ rfl rfl) hM.1) rfl hM
            | 9, ho, hT0, hl, D, DL =>
              obtain rfl := Option.some.inj ho
              obtain rfl := Option.some.inj hT0
              clear ho hT0
              exact val_wp (fa34_1 rfl (E.get 1 rfl)) rfl hM
            | 10, ho, hT0, hl, D, DL =>
              obtain rfl := Option.some.inj ho
              obtain rfl := Option.some.inj hT0
              clear ho hT0
              exact val_wp (ld_sg2 rfl (D 9 _ rfl rfl) hM.1) rfl hM
            | 11, ho, hT0, hl, D, DL =>
              obtain rfl := Option.some.inj ho
              obtain rfl := Option.some.inj hT0
              clear ho hT0
              exact val_wp (fa34_1 rfl (E.get 0 rfl)) rfl hM
            | 12, ho, hT0, hl, D, DL =>
              obtain rfl := Option.some.inj ho
              obtain rfl := Option.some.inj hT0
              clear ho hT0
              exact val_wp (ld_sg2 rfl (D 11 _ rfl rfl) hM.2.1) rfl hM
            | 13, ho, hT0, hl, D, DL =>
              obtain rfl := Option.some.inj ho
              obtain rfl := Option.some.inj hT0
              clear ho hT0
              exact call_wp (run_call3 (enters_of Try.func31 (by kernel_rfl) rfl) rfl rfl (D 8 _ rfl rfl) (D 10 _ rfl rfl) (D 12 _ rfl rfl)) (ori_at (hs.out.1) (hs.out.2) (ht.out.2) _) rfl fun w2 f => ⟨hM.1.fr f id, hM.2.1.fr f id, hM.2.2.trans f⟩
            | 14, ho, hT0, hl, D, DL =>
              obtain rfl := Option.some.inj ho
              obtain rfl := Option.some.inj hT0
              clear ho hT0
              exact val_wp (run_assign rfl (D 6 _ rfl rfl)) rfl hM
            | 15, ho, hT0, hl, D, DL =>
              obtain rfl := Option.some.inj ho
              obtain rfl := Option.some.inj hT0
              clear ho hT0
              exact val_wp (run_assign rfl (D 13 _ rfl rfl)) rfl hM
            | i + 16, ho, hT0, hl, D, DL => exact absurd hT0 (by simp)
          · intro a w2 E V hM
            exact ⟨E.of ⟨V 15 _ rfl, V 14 _ rfl, E.get 0 rfl, E.get 1 rfl, E.get 2 rfl, trivial⟩, hM⟩
        · rintro a w1 ⟨E, hb0, hb1, hf⟩
          obtain ⟨oa, hoa⟩ : ∃ x, x = ori u.1 u.2 v.1 := ⟨_, rfl⟩
          obtain ⟨ob, hob⟩ : ∃ x, x = ori u.1 u.2 v.2 := ⟨_, rfl⟩
          rw [← hoa, ← hob] at E
          have m_oa_ob : -9223372036854775808 ≤ oa * ob ∧ oa * ob ≤ 9223372036854775807 := by rw [hoa, hob]; exact ori_mul _ _ _ _ _ _
          have hoa := Lib.hid hoa
          have hob := Lib.hid hob
          refine wp_seq_cut (fun a' w' => Env 125 [(8, .int .i64 (ori v.1 v.2 u.2)), (7, .int .i64 (ori v.1 v.2 u.1)), (6, .int .i64 ob), (5, .int .i64 oa), (3, .pointer (some ⟨b1, 0, none⟩)), (2, .pointer (some ⟨b0, 0, none⟩)), (4, .int .i64 0)] a' ∧ sgB w' b0 u ∧ sgB w' b1 v ∧ Fr (fun _ => False) w w') ?_ ?_
          · refine wp_region_inv (n := 125) (base := [(6, .int .i64 ob), (5, .int .i64 oa), (3, .pointer (some ⟨b1, 0, none⟩)), (2, .pointer (some ⟨b0, 0, none⟩)), (4, .int .i64 0)]) (T := [some (78, .pointer (some ⟨b1, 0, none⟩)), some (79, .agg (ptC (v.1))), some (80, .pointer (some ⟨b1, 2, none⟩)), some (81, .agg (ptC (v.2))), some (82, .pointer (some ⟨b0, 0, none⟩)), some (83, .agg (ptC (u.1))), some (84, .int .i64 (ori (v.1) (v.2) (u.1))), some (85, .pointer (some ⟨b1, 0, none⟩)), some (86, .agg (ptC (v.1))), some (87, .pointer (some ⟨b1, 2, none⟩)), some (88, .agg (ptC (v.2))), some (89, .pointer (some ⟨b0, 2, none⟩)), some (90, .agg (ptC (u.2))), some (91, .int .i64 (ori (v.1) (v.2) (u.2))), some (7, .int .i64 (ori (v.1) (v.2) (u.1))), some (8, .int .i64 (ori (v.1) (v.2) (u.2)))]) (M := fun _ w' => sgB w' b0 u ∧ sgB w' b1 v ∧ Fr (fun _ => False) w w') (by kernel_rfl) (by kernel_rfl) (by kernel_rfl) (E.of ⟨E.get 0 rfl, E.get 1 rfl, E.get 2 rfl, E.get 3 rfl, E.get 4 rfl, trivial⟩) ⟨hb0.fr (Fr.refl (fun _ => False) _).drew id, hb1.fr (Fr.refl (fun _ => False) _).drew id, hf.drew⟩ ?_ ?_
            · intro i o tt lst a w2 ho hT0 hl E D DL hM
              match i, ho, hT0, hl, D, DL with
              | 0, ho, hT0, hl, D, DL =>
                obtain rfl := Option.some.inj ho
                obtain rfl := Option.some.inj hT0
                clear ho hT0
                exact val_wp (fa34_0 rfl (E.get 2 rfl)) rfl hM
              | 1, ho, hT0, hl, D, DL =>
                obtain rfl := Option.some.inj ho
                obtain rfl := Option.some.inj hT0
                clear ho hT0
                exact val_wp (ld_sg1 rfl (D 0 _ rfl rfl) hM.2.1) rfl hM
              | 2, ho, hT0, hl, D, DL =>
                obtain rfl := Option.some.inj ho
                obtain rfl := Option.some.inj hT0
                clear ho hT0
                exact val_wp (fa34_1 rfl (E.get 2 rfl)) rfl hM
              | 3, ho, hT0, hl, D, DL =>
                obtain rfl := Option.some.inj ho
                obtain rfl := Option.some.inj hT0
                clear ho hT0
                exact val_wp (ld_sg2 rfl (D 2 _ rfl rfl) hM.2.1) rfl hM
              | 4, ho, hT0, hl, D, DL =>
                obtain rfl := Option.some.inj ho
                obtain rfl := Option.some.inj hT0
                clear ho hT0
                exact val_wp (fa34_0 rfl (E.get 3 rfl)) rfl hM
              | 5, ho, hT0, hl, D, DL =>
                obtain rfl := Option.some.inj ho
                obtain rfl := Option.some.inj hT0
                clear ho hT0
                exact val_wp (ld_sg1 rfl (D 4 _ rfl rfl) hM.1) rfl hM
              | 6, ho, hT0, hl, D, DL =>
                obtain rfl := Option.some.inj ho
                obtain rfl := Option.some.inj hT0
                clear ho hT0
                exact call_wp (run_call3 (enters_of Try.func31 (by kernel_rfl) rfl) rfl rfl (D 1 _ rfl rfl) (D 3 _ rfl rfl) (D 5 _ rfl rfl)) (ori_at (ht.out.1) (ht.out.2) (hs.out.1) _) rfl fun w2 f => ⟨hM.1.fr f id, hM.2.1.fr f id, hM.2.2.trans f⟩
              | 7, ho, hT0, hl, D, DL =>
                obtain rfl := Option.some.inj ho
                obtain rfl := Option.some.inj hT0
                clear ho hT0
                exact val_wp (fa34_0 rfl (E.get 2 rfl)) rfl hM
              | 8, ho, hT0, hl, D, DL =>
                obtain rfl := Option.some.inj ho
                obtain rfl := Option.some.inj hT0
                clear ho hT0
                exact val_wp (ld_sg1 rfl (D 7 _ rfl rfl) hM.2.1) rfl hM
              | 9, ho, hT0, hl, D, DL =>
                obtain rfl := Option.some.inj ho
                obtain rfl := Option.some.inj hT0
                clear ho hT0
                exact val_wp (fa34_1 rfl (E.get 2 rfl)) rfl hM
              | 10, ho, hT0, hl, D, DL =>
                obtain rfl := Option.some.inj ho
                obtain rfl := Option.some.inj hT0
                clear ho hT0
                exact val_wp (ld_sg2 rfl (D 9 _ rfl rfl) hM.2.1) rfl hM
              | 11, ho, hT0, hl, D, DL =>
                obtain rfl := Option.some.inj ho
                obtain rfl := Option.some.inj hT0
                clear ho hT0
                exact val_wp (fa34_1 rfl (E.get 3 rfl)) rfl hM
              | 12, ho, hT0, hl, D, DL =>
                obtain rfl := Option.some.inj ho
                obtain rfl := Option.some.inj hT0
                clear ho hT0
                exact val_wp (ld_sg2 rfl (D 11 _ rfl rfl) hM.1) rfl hM
              | 13, ho, hT0, hl, D, DL =>
                obtain rfl := Option.some.inj ho
                obtain rfl := Option.some.inj hT0
                clear ho hT0
                exact call_wp (run_call3 (enters_of Try.func31 (by kernel_rfl) rfl) rfl rfl (D 8 _ rfl rfl) (D 10 _ rfl rfl) (D 12 _ rfl rfl)) (ori_at (ht.out.1) (ht.out.2) (hs.out.2) _) rfl fun w2 f => ⟨hM.1.fr f id, hM.2.1.fr f id, hM.2.2.trans f⟩
              | 14, ho, hT0, hl, D, DL =>
                obtain rfl := Option.some.inj ho
                obtain rfl := Option.some.inj hT0
                clear ho hT0
                exact val_wp (run_assign rfl (D 6 _ rfl rfl)) rfl hM
              | 15, ho, hT0, hl, D, DL =>
                obtain rfl := Option.some.inj ho
                obtain rfl := Option.some.inj hT0
                clear ho hT0
                exact val_wp (run_assign rfl (D 13 _ rfl rfl)) rfl hM
              | i + 16, ho, hT0, hl, D, DL => exact absurd hT0 (by simp)
            · intro a w2 E V hM
              exact ⟨E.of ⟨V 15 _ rfl, V 14 _ rfl, E.get 0 rfl, E.get 1 rfl, E.get 2 rfl, E.get 3 rfl, E.get 4 rfl, trivial⟩, hM⟩
          · rintro a w1 ⟨E, hb0, hb1, hf⟩
            obtain ⟨oc, hoc⟩ : ∃ x, x = ori v.1 v.2 u.1 := ⟨_, rfl⟩
            obtain ⟨od, hod⟩ : ∃ x, x = ori v.1 v.2 u.2 := ⟨_, rfl⟩
            rw [← hoc, ← hod] at E
            have m_oc_od : -9223372036854775808 ≤ oc * od ∧ oc * od ≤ 9223372036854775807 := by rw [hoc, hod]; exact ori_mul _ _ _ _ _ _
            have hoc := Lib.hid hoc
            have hod := Lib.hid hod
            refine wp_seq ?_
            refine wp_block ?_
            refine wp_seq ?_
            refine wp_region_lit ?_
            refine env_put (d := 93) (v := .int .i64 oa) E rfl (by decide) rfl (wanted_none rfl _) (run_move rfl (E.get 3 rfl)) fun a E => ?_
            refine env_put (d := 94) (v := .int .i64 ob) E rfl (by decide) rfl (wanted_none rfl _) (run_move rfl (E.get 3 rfl)) fun a E => ?_
            refine env_put (d := 95) (v := .int .i64 (oa * ob)) E rfl (by decide) rfl (wanted_none rfl _) (run_imul (E.get 1 rfl) (E.get 0 rfl) m_oa_ob.1 m_oa_ob.2 rfl) fun a E => ?_
            refine env_put (d := 96) (v := .bool (decide (0 < (oa * ob)))) E rfl (by decide) rfl (wanted_none rfl _) (run_igtr (E.get 0 rfl) rfl Try.underlying3 rfl) fun a E => ?_
            refine env_put (d := 97) (v := .bool (decide (0 < (oa * ob)))) E rfl (by decide) rfl (wanted_none rfl _) (run_move rfl (E.get 0 rfl)) fun a E => ?_
            cases hq7 : (decide (0 < (oa * ob))) with
            | false =>
              rw [hq7] at E
              refine env_put (d := 98) (v := .int .i64 oc) E rfl (by decide) rfl (w_yes (g := 4) (s := 97) E rfl rfl (by decide) (E.get 0 rfl)) (run_move rfl (E.get 6 rfl)) fun a E => ?_
              refine env_put (d := 99) (v := .int .i64 od) E rfl (by decide) rfl (w_yes (g := 4) (s := 97) E rfl rfl (by decide) (E.get 1 rfl)) (run_move rfl (E.get 6 rfl)) fun a E => ?_
              refine env_put (d := 100) (v := .int .i64 (oc * od)) E rfl (by decide) rfl (w_yes (g := 4) (s := 97) E rfl rfl (by decide) (E.get 2 rfl)) (run_imul (E.get 1 rfl) (E.get 0 rfl) m_oc_od.1 m_oc_od.2 rfl) fun a E => ?_
              refine env_put (d := 101) (v := .bool (decide (0 < (oc * od)))) E rfl (by decide) rfl (w_yes (g := 4) (s := 97) E rfl rfl (by decide) (E.get 3 rfl)) (run_igtr (E.get 0 rfl) rfl Try.underlying3 rfl) fun a E => ?_
              refine env_put (d := 102) (v := .bool (decide (0 < (oc * od)))) E rfl (by decide) rfl (wanted_none rfl _) (run_pick_f rfl (E.get 4 rfl) (E.get 0 rfl)) fun a E => ?_
              refine env_put (d := 92) (v := .bool (decide (0 < (oc * od)))) E rfl (by decide) rfl (wanted_none rfl _) (run_assign rfl (E.get 0 rfl)) fun a E => ?_
              refine wpList_nil ?_
              refine then_n ?_
              cases hq8 : (decide (0 < (oc * od))) with
              | false =>
                rw [hq8] at E
                refine wp_cond_false (E.get 0 rfl) ?_
                refine wp_seq ?_
                refine wp_region_lit ?_
                refine env_put (d := 104) (v := .int .i64 oa) E rfl (by decide) rfl (wanted_none rfl _) (run_move rfl (E.get 14 rfl)) fun a E => ?_
                refine env_put (d := 105) (v := .int .i64 ob) E rfl (by decide) rfl (wanted_none rfl _) (run_move rfl (E.get 14 rfl)) fun a E => ?_
                refine env_put (d := 106) (v := .int .i64 (oa * ob)) E rfl (by decide) rfl (wanted_none rfl _) (run_imul (E.get 1 rfl) (E.get 0 rfl) m_oa_ob.1 m_oa_ob.2 rfl) fun a E => ?_
                refine env_put (d := 107) (v := .bool (decide ((oa * ob) < 0))) E rfl (by decide) rfl (wanted_none rfl _) (run_ilss (E.get 0 rfl) rfl Try.underlying3 rfl) fun a E => ?_
                refine env_put (d := 108) (v := .bool (decide ((oa * ob) < 0))) E rfl (by decide) rfl (wanted_none rfl _) (run_move rfl (E.get 0 rfl)) fun a E => ?_
                cases hq9 : (decide ((oa * ob) < 0)) with
                | false =>
                  rw [hq9] at E
                  refine env_skip (d := 109) (g := 4) (s := 108) E rfl (by decide) rfl rfl rfl (by decide) (E.get 0 rfl) fun a E => ?_
                  refine env_skip (d := 110) (g := 4) (s := 108) E rfl (by decide) rfl rfl rfl (by decide) (E.get 1 rfl) fun a E => ?_
                  refine env_skip (d := 111) (g := 4) (s := 108) E rfl (by decide) rfl rfl rfl (by decide) (E.get 2 rfl) fun a E => ?_
                  refine env_skip (d := 112) (g := 4) (s := 108) E rfl (by decide) rfl rfl rfl (by decide) (E.get 3 rfl) fun a E => ?_
                  refine env_put (d := 113) (v := .bool false) E rfl (by decide) rfl (wanted_none rfl _) (run_pick_f rfl (E.get 4 rfl) rfl) fun a E => ?_
                  refine env_put (d := 103) (v := .bool false) E rfl (by decide) rfl (wanted_none rfl _) (run_assign rfl (E.get 0 rfl)) fun a E => ?_
                  refine wpList_nil ?_
                  refine then_n ?_
                  refine wp_cond_false (E.get 0 rfl) ?_
                  refine wp_seq ?_
                  refine wp_region_lit ?_
                  refine env_put (d := 115) (v := .int .i64 oa) E rfl (by decide) rfl (wanted_none rfl _) (run_move rfl (E.get 25 rfl)) fun a E => ?_
                  refine env_put (d := 116) (v := .int .i64 ob) E rfl (by decide) rfl (wanted_none rfl _) (run_move rfl (E.get 25 rfl)) fun a E => ?_
                  refine env_put (d := 117) (v := .int .i64 (oa * ob)) E rfl (by decide) rfl (wanted_none rfl _) (run_imul (E.get 1 rfl) (E.get 0 rfl) m_oa_ob.1 m_oa_ob.2 rfl) fun a E => ?_
                  refine env_put (d := 118) (v := .bool ((oa * ob) == 0)) E rfl (by decide) rfl (wanted_none rfl _) (run_ieql (E.get 0 rfl) rfl Try.underlying3 rfl) fun a E => ?_
                  refine env_put (d := 119) (v := .bool ((oa * ob) == 0)) E rfl (by decide) rfl (wanted_none rfl _) (run_move rfl (E.get 0 rfl)) fun a E => ?_
                  cases hq10 : ((oa * ob) == 0) with
                  | false =>
                    rw [hq10] at E
                    refine env_skip (d := 120) (g := 4) (s := 119) E rfl (by decide) rfl rfl rfl (by decide) (E.get 0 rfl) fun a E => ?_
                    refine env_skip (d := 121) (g := 4) (s := 119) E rfl (by decide) rfl rfl rfl (by decide) (E.get 1 rfl) fun a E => ?_
                    refine env_skip (d := 122) (g := 4) (s := 119) E rfl (by decide) rfl rfl rfl (by decide) (E.get 2 rfl) fun a E => ?_
                    refine env_skip (d := 123) (g := 4) (s := 119) E rfl (by decide) rfl rfl rfl (by decide) (E.get 3 rfl) fun a E => ?_
                    refine env_put (d := 124) (v := .bool false) E rfl (by decide) rfl (wanted_none rfl _) (run_pick_f rfl (E.get 4 rfl) rfl) fun a E => ?_
                    refine env_put (d := 114) (v := .bool false) E rfl (by decide) rfl (wanted_none rfl _) (run_assign rfl (E.get 0 rfl)) fun a E => ?_
                    refine wpList_nil ?_
                    refine then_n ?_
                    refine wp_cond_false (E.get 0 rfl) ?_
                    refine wp_skip ?_
                    refine blk_n ?_
                    refine then_n ?_
                    refine wp_seq ?_
                    refine wp_region_lit ?_
                    refine env_set (d := 4) (v := .int .i64 2) E rfl (by decide) (wanted_none rfl _) (run_assign rfl rfl) fun a E => ?_
                    refine wpList_nil ?_
                    refine then_n ?_
                    refine wp_ret ?_
                    refine ret_tmp (t := 4) (v := .int .i64 2) rfl E (E.get 0 rfl) ⟨?_, hf⟩
                    exact ret_int (by simp only [decide_eq_true_eq, decide_eq_false_iff_not, beq_iff_eq, beq_eq_false_iff_ne, ne_eq] at hq7 hq8 hq9 hq10; rw [hO.out, meetsS, if_neg hnf.out.1, if_neg hnf.out.2, ← hoa.out, ← hob.out, ← hoc.out, ← hod.out]; simp [hq7, hq8, hq9, hq10])
                  | true =>
                    rw [hq10] at E
                    refine env_put (d := 120) (v := .int .i64 oc) E rfl (by decide) rfl (w_yes (g := 4) (s := 119) E rfl rfl (by decide) (E.get 0 rfl)) (run_move rfl (E.get 28 rfl)) fun a E => ?_
                    refine env_put (d := 121) (v := .int .i64 od) E rfl (by decide) rfl (w_yes (g := 4) (s := 119) E rfl rfl (by decide) (E.get 1 rfl)) (run_move rfl (E.get 28 rfl)) fun a E => ?_
                    refine env_put (d := 122) (v := .int .i64 (oc * od)) E rfl (by decide) rfl (w_yes (g := 4) (s := 119) E rfl rfl (by decide) (E.get 2 rfl)) (run_imul (E.get 1 rfl) (E.get 0 rfl) m_oc_od.1 m_oc_od.2 rfl) fun a E => ?_
                    refine env_put (d := 123) (v := .bool ((oc * od) == 0)) E rfl (by decide) rfl (w_yes (g := 4) (s := 119) E rfl rfl (by decide) (E.get 3 rfl)) (run_ieql (E.get 0 rfl) rfl Try.underlying3 rfl) fun a E => ?_
                    refine env_put (d := 124) (v := .bool ((oc * od) == 0)) E rfl (by decide) rfl (wanted_none rfl _) (run_pick_t rfl (E.get 4 rfl) (E.get 0 rfl)) fun a E => ?_
                    refine env_put (d := 114) (v := .bool ((oc * od) == 0)) E rfl (by decide) rfl (wanted_none rfl _) (run_assign rfl (E.get 0 rfl)) fun a E => ?_
                    refine wpList_nil ?_
                    refine then_n ?_
                    cases hq11 : ((oc * od) == 0) with
                    | false =>
                      rw [hq11] at E
                      refine wp_cond_false (E.get 0 rfl) ?_
                      refine wp_skip ?_
                      refine blk_n ?_
                      refine then_n ?_
                      refine wp_seq ?_
                      refine wp_region_lit ?_
                      refine env_set (d := 4) (v := .int .i64 2) E rfl (by decide) (wanted_none rfl _) (run_assign rfl rfl) fun a E => ?_
                      refine wpList_nil ?_
                      refine then_n ?_
                      refine wp_ret ?_
                      refine ret_tmp (t := 4) (v := .int .i64 2) rfl E (E.get 0 rfl) ⟨?_, hf⟩
                      exact ret_int (by simp only [decide_eq_true_eq, decide_eq_false_iff_not, beq_iff_eq, beq_eq_false_iff_ne, ne_eq] at hq7 hq8 hq9 hq10 hq11; rw [hO.out, meetsS, if_neg hnf.out.1, if_neg hnf.out.2, ← hoa.out, ← hob.out, ← hoc.out, ← hod.out]; simp [hq7, hq8, hq9, hq10, hq11])
                    | true =>
                      rw [hq11] at E
                      refine wp_cond_true (E.get 0 rfl) ?_
                      refine wp_seq ?_
                      refine wp_region_lit ?_
                      refine env_set (d := 4) (v := .int .i64 1) E rfl (by decide) (wanted_none rfl _) (run_assign rfl rfl) fun a E => ?_
                      refine wpList_nil ?_
                      refine then_n ?_
                      refine wp_ret ?_
                      refine blk_r ?_
                      refine then_r ?_
                      refine ret_tmp (t := 4) (v := .int .i64 1) rfl E (E.get 0 rfl) ⟨?_, hf⟩
                      exact ret_int (by simp only [decide_eq_true_eq, decide_eq_false_iff_not, beq_iff_eq, beq_eq_false_iff_ne, ne_eq] at hq7 hq8 hq9 hq10 hq11; rw [hO.out, meetsS, if_neg hnf.out.1, if_neg hnf.out.2, ← hoa.out, ← hob.out, ← hoc.out, ← hod.out]; simp [hq7, hq8, hq9, hq10, hq11])
                | true =>
                  rw [hq9] at E
                  refine env_put (d := 109) (v := .int .i64 oc) E rfl (by decide) rfl (w_yes (g := 4) (s := 108) E rfl rfl (by decide) (E.get 0 rfl)) (run_move rfl (E.get 17 rfl)) fun a E => ?_
                  refine env_put (d := 110) (v := .int .i64 od) E rfl (by decide) rfl (w_yes (g := 4) (s := 108) E rfl rfl (by decide) (E.get 1 rfl)) (run_move rfl (E.get 17 rfl)) fun a E => ?_
                  refine env_put (d := 111) (v := .int .i64 (oc * od)) E rfl (by decide) rfl (w_yes (g := 4) (s := 108) E rfl rfl (by decide) (E.get 2 rfl)) (run_imul (E.get 1 rfl) (E.get 0 rfl) m_oc_od.1 m_oc_od.2 rfl) fun a E => ?_
                  refine env_put (d := 112) (v := .bool (decide ((oc * od) < 0))) E rfl (by decide) rfl (w_yes (g := 4) (s := 108) E rfl rfl (by decide) (E.get 3 rfl)) (run_ilss (E.get 0 rfl) rfl Try.underlying3 rfl) fun a E => ?_
                  refine env_put (d := 113) (v := .bool (decide ((oc * od) < 0))) E rfl (by decide) rfl (wanted_none rfl _) (run_pick_t rfl (E.get 4 rfl) (E.get 0 rfl)) fun a E => ?_
                  refine env_put (d := 103) (v := .bool (decide ((oc * od) < 0))) E rfl (by decide) rfl (wanted_none rfl _) (run_assign rfl (E.get 0 rfl)) fun a E => ?_
                  refine wpList_nil ?_
                  refine then_n ?_
                  cases hq12 : (decide ((oc * od) < 0)) with
                  | false =>
                    rw [hq12] at E
                    refine wp_cond_false (E.get 0 rfl) ?_
                    refine wp_seq ?_
                    refine wp_region_lit ?_
                    refine env_put (d := 115) (v := .int .i64 oa) E rfl (by decide) rfl (wanted_none rfl _) (run_move rfl (E.get 25 rfl)) fun a E => ?_
                    refine env_put (d := 116) (v := .int .i64 ob) E rfl (by decide) rfl (wanted_none rfl _) (run_move rfl (E.get 25 rfl)) fun a E => ?_
                    refine env_put (d := 117) (v := .int .i64 (oa * ob)) E rfl (by decide) rfl (wanted_none rfl _) (run_imul (E.get 1 rfl) (E.get 0 rfl) m_oa_ob.1 m_oa_ob.2 rfl) fun a E => ?_
                    refine env_put (d := 118) (v := .bool ((oa * ob) == 0)) E rfl (by decide) rfl (wanted_none rfl _) (run_ieql (E.get 0 rfl) rfl Try.underlying3 rfl) fun a E => ?_
                    refine env_put (d := 119) (v := .bool ((oa * ob) == 0)) E rfl (by decide) rfl (wanted_none rfl _) (run_move rfl (E.get 0 rfl)) fun a E => ?_
                    cases hq13 : ((oa * ob) == 0) with
                    | false =>
                      rw [hq13] at E
                      refine env_skip (d := 120) (g := 4) (s := 119) E rfl (by decide) rfl rfl rfl (by decide) (E.get 0 rfl) fun a E => ?_
                      refine env_skip (d := 121) (g := 4) (s := 119) E rfl (by decide) rfl rfl rfl (by decide) (E.get 1 rfl) fun a E => ?_
                      refine env_skip (d := 122) (g := 4) (s := 119) E rfl (by decide) rfl rfl rfl (by decide) (E.get 2 rfl) fun a E => ?_
                      refine env_skip (d := 123) (g := 4) (s := 119) E rfl (by decide) rfl rfl rfl (by decide) (E.get 3 rfl) fun a E => ?_
                      refine env_put (d := 124) (v := .bool false) E rfl (by decide) rfl (wanted_none rfl _) (run_pick_f rfl (E.get 4 rfl) rfl) fun a E => ?_
                      refine env_put (d := 114) (v := .bool false) E rfl (by decide) rfl (wanted_none rfl _) (run_assign rfl (E.get 0 rfl)) fun a E => ?_
                      refine wpList_nil ?_
                      refine then_n ?_
                      refine wp_cond_false (E.get 0 rfl) ?_
                      refine wp_skip ?_
                      refine blk_n ?_
                      refine then_n ?_
                      refine wp_seq ?_
                      refine wp_region_lit ?_
                      refine env_set (d := 4) (v := .int .i64 2) E rfl (by decide) (wanted_none rfl _) (run_assign rfl rfl) fun a E => ?_
                      refine wpList_nil ?_
                      refine then_n ?_
                      refine wp_ret ?_
                      refine ret_tmp (t := 4) (v := .int .i64 2) rfl E (E.get 0 rfl) ⟨?_, hf⟩
                      exact ret_int (by simp only [decide_eq_true_eq, decide_eq_false_iff_not, beq_iff_eq, beq_eq_false_iff_ne, ne_eq] at hq7 hq8 hq9 hq12 hq13; rw [hO.out, meetsS, if_neg hnf.out.1, if_neg hnf.out.2, ← hoa.out, ← hob.out, ← hoc.out, ← hod.out]; simp [hq7, hq8, hq9, hq12, hq13])
                    | true =>
                      rw [hq13] at E
                      refine env_put (d := 120) (v := .int .i64 oc) E rfl (by decide) rfl (w_yes (g := 4) (s := 119) E rfl rfl (by decide) (E.get 0 rfl)) (run_move rfl (E.get 28 rfl)) fun a E => ?_
                      refine env_put (d := 121) (v := .int .i64 od) E rfl (by decide) rfl (w_yes (g := 4) (s := 119) E rfl rfl (by decide) (E.get 1 rfl)) (run_move rfl (E.get 28 rfl)) fun a E => ?_
                      refine env_put (d := 122) (v := .int .i64 (oc * od)) E rfl (by decide) rfl (w_yes (g := 4) (s := 119) E rfl rfl (by decide) (E.get 2 rfl)) (run_imul (E.get 1 rfl) (E.get 0 rfl) m_oc_od.1 m_oc_od.2 rfl) fun a E => ?_
                      refine env_put (d := 123) (v := .bool ((oc * od) == 0)) E rfl (by decide) rfl (w_yes (g := 4) (s := 119) E rfl rfl (by decide) (E.get 3 rfl)) (run_ieql (E.get 0 rfl) rfl Try.underlying3 rfl) fun a E => ?_
                      refine env_put (d := 124) (v := .bool ((oc * od) == 0)) E rfl (by decide) rfl (wanted_none rfl _) (run_pick_t rfl (E.get 4 rfl) (E.get 0 rfl)) fun a E => ?_
                      refine env_put (d := 114) (v := .bool ((oc * od) == 0)) E rfl (by decide) rfl (wanted_none rfl _) (run_assign rfl (E.get 0 rfl)) fun a E => ?_
                      refine wpList_nil ?_
                      refine then_n ?_
                      cases hq14 : ((oc * od) == 0) with
                      | false =>
                        rw [hq14] at E
                        refine wp_cond_false (E.get 0 rfl) ?_
                        refine wp_skip ?_
                        refine blk_n ?_
                        refine then_n ?_
                        refine wp_seq ?_
                        refine wp_region_lit ?_
                        refine env_set (d := 4) (v := .int .i64 2) E rfl (by decide) (wanted_none rfl _) (run_assign rfl rfl) fun a E => ?_
                        refine wpList_nil ?_
                        refine then_n ?_
                        refine wp_ret ?_
                        refine ret_tmp (t := 4) (v := .int .i64 2) rfl E (E.get 0 rfl) ⟨?_, hf⟩
                        exact ret_int (by simp only [decide_eq_true_eq, decide_eq_false_iff_not, beq_iff_eq, beq_eq_false_iff_ne, ne_eq] at hq7 hq8 hq9 hq12 hq13 hq14; rw [hO.out, meetsS, if_neg hnf.out.1, if_neg hnf.out.2, ← hoa.out, ← hob.out, ← hoc.out, ← hod.out]; simp [hq7, hq8, hq9, hq12, hq13, hq14])
                      | true =>
                        rw [hq14] at E
                        refine wp_cond_true (E.get 0 rfl) ?_
                        refine wp_seq ?_
                        refine wp_region_lit ?_
                        refine env_set (d := 4) (v := .int .i64 1) E rfl (by decide) (wanted_none rfl _) (run_assign rfl rfl) fun a E => ?_
                        refine wpList_nil ?_
                        refine then_n ?_
                        refine wp_ret ?_
                        refine blk_r ?_
                        refine then_r ?_
                        refine ret_tmp (t := 4) (v := .int .i64 1) rfl E (E.get 0 rfl) ⟨?_, hf⟩
                        exact ret_int (by simp only [decide_eq_true_eq, decide_eq_false_iff_not, beq_iff_eq, beq_eq_false_iff_ne, ne_eq] at hq7 hq8 hq9 hq12 hq13 hq14; rw [hO.out, meetsS, if_neg hnf.out.1, if_neg hnf.out.2, ← hoa.out, ← hob.out, ← hoc.out, ← hod.out]; simp [hq7, hq8, hq9, hq12, hq13, hq14])
                  | true =>
                    rw [hq12] at E
                    refine wp_cond_true (E.get 0 rfl) ?_
                    refine wp_seq ?_
                    refine wp_region_lit ?_
                    refine env_set (d := 4) (v := .int .i64 3) E rfl (by decide) (wanted_none rfl _) (run_assign rfl rfl) fun a E => ?_
                    refine wpList_nil ?_
                    refine then_n ?_
                    refine wp_ret ?_
                    refine blk_r ?_
                    refine then_r ?_
                    refine ret_tmp (t := 4) (v := .int .i64 3) rfl E (E.get 0 rfl) ⟨?_, hf⟩
                    exact ret_int (by simp only [decide_eq_true_eq, decide_eq_false_iff_not, beq_iff_eq, beq_eq_false_iff_ne, ne_eq] at hq7 hq8 hq9 hq12; rw [hO.out, meetsS, if_neg hnf.out.1, if_neg hnf.out.2, ← hoa.out, ← hob.out, ← hoc.out, ← hod.out]; simp [hq7, hq8, hq9, hq12])
              | true =>
                rw [hq8] at E
                refine wp_cond_true (E.get 0 rfl) ?_
                refine wp_seq ?_
                refine wp_region_lit ?_
                refine env_set (d := 4) (v := .int .i64 0) E rfl (by decide) (wanted_none rfl _) (run_assign rfl rfl) fun a E => ?_
                refine wpList_nil ?_
                refine then_n ?_
                refine wp_ret ?_
                refine blk_r ?_
                refine then_r ?_
                refine ret_tmp (t := 4) (v := .int .i64 0) rfl E (E.get 0 rfl) ⟨?_, hf⟩
                exact ret_int (by simp only [decide_eq_true_eq, decide_eq_false_iff_not, beq_iff_eq, beq_eq_false_iff_ne, ne_eq] at hq7 hq8; rw [hO.out, meetsS, if_neg hnf.out.1, if_neg hnf.out.2, ← hoa.out, ← hob.out, ← hoc.out, ← hod.out]; simp [hq7, hq8])
            | true =>
              rw [hq7] at E
              refine env_skip (d := 98) (g := 4) (s := 97) E rfl (by decide) rfl rfl rfl (by decide) (E.get 0 rfl) fun a E => ?_
              refine env_skip (d := 99) (g := 4) (s := 97) E rfl (by decide) rfl rfl rfl (by decide) (E.get 1 rfl) fun a E => ?_
              refine env_skip (d := 100) (g := 4) (s := 97) E rfl (by decide) rfl rfl rfl (by decide) (E.get 2 rfl) fun a E => ?_
              refine env_skip (d := 101) (g := 4) (s := 97) E rfl (by decide) rfl rfl rfl (by decide) (E.get 3 rfl) fun a E => ?_
              refine env_put (d := 102) (v := .bool true) E rfl (by decide) rfl (wanted_none rfl _) (run_pick_t rfl (E.get 4 rfl) rfl) fun a E => ?_
              refine env_put (d := 92) (v := .bool true) E rfl (by decide) rfl (wanted_none rfl _) (run_assign rfl (E.get 0 rfl)) fun a E => ?_
              refine wpList_nil ?_
              refine then_n ?_
              refine wp_cond_true (E.get 0 rfl) ?_
              refine wp_seq ?_
              refine wp_region_lit ?_
              refine env_set (d := 4) (v := .int .i64 0) E rfl (by decide) (wanted_none rfl _) (run_assign rfl rfl) fun a E => ?_
              refine wpList_nil ?_
              refine then_n ?_
              refine wp_ret ?_
              refine blk_r ?_
              refine then_r ?_
              refine ret_tmp (t := 4) (v := .int .i64 0) rfl E (E.get 0 rfl) ⟨?_, hf⟩
              exact ret_int (by simp only [decide_eq_true_eq, decide_eq_false_iff_not, beq_iff_eq, beq_eq_false_iff_ne, ne_eq] at hq7; rw [hO.out, meetsS, if_neg hnf.out.1, if_neg hnf.out.2, ← hoa.out, ← hob.out, ← hoc.out, ← hod.out]; simp [hq7])
end Go.Proofs.Ytiainjcimmeedaa
