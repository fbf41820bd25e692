/- SweepMatchesReference: the walk. -/
import Derived.Test.YtiainjcimmeedaaRal
set_option linter.unusedVariables false
set_option linter.unusedSimpArgs false
namespace Go.Proofs.Ytiainjcimmeedaa
open Go.RowKit Go.Pl Go.Geo

theorem out_len60 {l : List Sg} (h : l.length ≤ 60) : (outL l).length ≤ 60 * 60 + 0 := by
  unfold outL
  rw [List.length_map, Swp.spec_pre]
  have h1 := Swp.pre_len_le (K := kAt l) l.length 0
  have h2 : l.length * l.length ≤ 60 * 60 := Nat.mul_le_mul h h
  omega
theorem env_callv {P : Program} {O : Array Oper} {Q : Exit → Act → World → Prop} {rest : List Oper} {o : Oper} {a : Act} {w : World} {n d : Nat} {L : List (Nat × Value)} {f : FuncId} {args : Array Value} {R : Value → World → Prop} (E : Env n L a) (hd : o.dst = some d) (hn : d < n) (hf : (L.map (·.1)).contains d = false) (hw : Region.wanted o (yielded O a.tmps) = true) (hr : (execOp a.eval o).run P w = .ok (.enter f args) w)
    (hc : Calls P f args w fun e w' => ∃ v, e = .returned v ∧ R v w') (k : ∀ a' w' v, R v w' → Env n ((d, v) :: L) a' → wpList P O Q rest a' w') : wpList P O Q (o :: rest) a w := by
  refine st_call (R := R) hw hr hc ?_
  intro v w' hR
  rw [hd]
  exact k _ w' v hR (E.put hn hf)
set_option maxRecDepth 100000 in
set_option maxHeartbeats 4000000 in
theorem match_calls (l : List Sg) (p : Option Addr) (cap : Nat) (w : World) (hp : SegAt w p l) : Calls Try.prog 3 #[.slice p l.length cap] w fun e w' => e = .returned (.bool true) ∧ Fr (fun _ => False) w w' := by
  refine wp_start1 Try.func3 rfl rfl (n := 34) (by decide) fun a E => ?_
  have hf : Fr (fun _ => False) w w := Fr.refl _ _
  refine wp_seq ?_
  refine wp_region_lit ?_
  refine env_put (d := 2) (v := .bool false) E rfl (by decide) rfl (wanted_none rfl _) (run_assign rfl rfl) fun a E => ?_
  refine wpList_nil ?_
  refine then_n ?_
  refine wp_seq ?_
  refine wp_region_lit ?_
  refine env_call (d := 8) (v := .bool true) E rfl (by decide) rfl (wanted_none rfl _) (run_call0 (enters_of Try.func9 (by kernel_rfl) rfl) rfl rfl) (head_calls _) fun a w1 f1 E => ?_
  have hp := hp.fr f1
  have hf := hf.trans f1
  clear f1
  refine env_put (d := 3) (v := .bool true) E rfl (by decide) rfl (wanted_none rfl _) (run_assign rfl (E.get 0 rfl)) fun a E => ?_
  refine wpList_nil ?_
  refine then_n ?_
  refine wp_seq ?_
  refine wp_seq ?_
  refine wp_region_lit ?_
  refine env_put (d := 9) (v := .slice (p) l.length cap) E rfl (by decide) rfl (wanted_none rfl _) (run_move rfl (E.get 3 rfl)) fun a E => ?_
  refine env_put (d := 10) (v := .int .i64 (l.length : Int)) E rfl (by decide) rfl (wanted_none rfl _) (run_len22 rfl (E.get 0 rfl)) fun a E => ?_
  refine env_put (d := 11) (v := .bool (decide (60 < (l.length : Int)))) E rfl (by decide) rfl (wanted_none rfl _) (run_igtr (E.get 0 rfl) rfl Try.underlying3 rfl) fun a E => ?_
  refine wpList_nil ?_
  refine then_n ?_
  cases hq1 : (decide (60 < (l.length : Int))) with
  | false =>
    rw [hq1] at E
    have hn60 : l.length ≤ 60 := by have := of_decide_eq_false hq1; omega
    have hn : l.length ≤ 20000 := by omega
    refine wp_cond_false (E.get 0 rfl) ?_
    refine wp_skip ?_
    refine then_n ?_
    refine wp_seq ?_
    refine wp_region_lit ?_
    refine env_put (d := 14) (v := .slice (p) l.length cap) E rfl (by decide) rfl (wanted_none rfl _) (run_move rfl (E.get 6 rfl)) fun a E => ?_
    refine env_all (d := 15) (l := l) E rfl (by decide) rfl (wanted_none rfl _) rfl (E.get 0 rfl) hn hp fun a w1 r1 hr1 f1 E => ?_
    replace hr1 := hr1.mtR
    obtain ⟨p1, c1, hve⟩ := hr1.1
    subst hve
    have hp := hp.fr f1
    have hf := hf.trans f1
    clear f1
    refine env_put (d := 13) (v := .tuple #[.slice (p1) (outL l).length c1, .int .i64 0]) E rfl (by decide) rfl (wanted_none rfl _) (run_move rfl (E.get 0 rfl)) fun a E => ?_
    refine env_put (d := 16) (v := .slice (p1) (outL l).length c1) E rfl (by decide) rfl (wanted_none rfl _) (run_ext0 rfl (E.get 0 rfl)) fun a E => ?_
    refine env_put (d := 17) (v := .int .i64 0) E rfl (by decide) rfl (wanted_none rfl _) (run_ext1 rfl (E.get 1 rfl)) fun a E => ?_
    refine env_put (d := 4) (v := .slice (p1) (outL l).length c1) E rfl (by decide) rfl (wanted_none rfl _) (run_assign rfl (E.get 1 rfl)) fun a E => ?_
    refine env_put (d := 5) (v := .int .i64 0) E rfl (by decide) rfl (wanted_none rfl _) (run_assign rfl (E.get 1 rfl)) fun a E => ?_
    refine wpList_nil ?_
    refine then_n ?_
    refine wp_seq ?_
    refine wp_region_lit ?_
    refine env_put (d := 19) (v := .slice (p) l.length cap) E rfl (by decide) rfl (wanted_none rfl _) (run_move rfl (E.get 13 rfl)) fun a E => ?_
    refine env_callv (d := 20) (R := fun u w2 => ∃ r, u = .tuple #[r, .int .i64 0] ∧ oM w2 w1.heap.size r (outL l) ∧ Fr (fun _ => False) w1 w2) E rfl (by decide) rfl (wanted_none rfl _) (run_call1 (enters_of Try.func11 (by kernel_rfl) rfl) rfl rfl (E.get 0 rfl)) ((rall_calls l p cap _ hn60 hp).mono fun e w2 ⟨v, h1, h2⟩ => ⟨_, h1, v, rfl, h2⟩) fun a w1 v9 hR E => ?_
    obtain ⟨r2, rfl, hr2, f1⟩ := hR
    replace hr2 := hr2.mtR
    have hp := hp.fr f1
    have hr1 := hr1.fr f1
    have hf := hf.trans f1
    clear f1
    refine env_put (d := 18) (v := .tuple #[r2, .int .i64 0]) E rfl (by decide) rfl (wanted_none rfl _) (run_move rfl (E.get 0 rfl)) fun a E => ?_
    refine env_put (d := 21) (v := r2) E rfl (by decide) rfl (wanted_none rfl _) (run_ext0 rfl (E.get 0 rfl)) fun a E => ?_
    refine env_put (d := 22) (v := .int .i64 0) E rfl (by decide) rfl (wanted_none rfl _) (run_ext1 rfl (E.get 1 rfl)) fun a E => ?_
    refine env_put (d := 6) (v := r2) E rfl (by decide) rfl (wanted_none rfl _) (run_assign rfl (E.get 1 rfl)) fun a E => ?_
    refine env_put (d := 7) (v := .int .i64 0) E rfl (by decide) rfl (wanted_none rfl _) (run_assign rfl (E.get 1 rfl)) fun a E => ?_
    refine wpList_nil ?_
    refine then_n ?_
    refine wp_seq ?_
    refine wp_region_lit ?_
    refine env_put (d := 23) (v := .bool true) E rfl (by decide) rfl (wanted_none rfl _) (run_move rfl (E.get 17 rfl)) fun a E => ?_
    refine env_put (d := 24) (v := .bool true) E rfl (by decide) rfl (wanted_none rfl _) (run_move rfl (E.get 0 rfl)) fun a E => ?_
    refine env_put (d := 25) (v := .int .i64 0) E rfl (by decide) rfl (w_yes (g := 1) (s := 24) E rfl rfl (by decide) (E.get 0 rfl)) (run_move rfl (E.get 9 rfl)) fun a E => ?_
    refine env_put (d := 26) (v := .int .i64 0) E rfl (by decide) rfl (w_yes (g := 1) (s := 24) E rfl rfl (by decide) (E.get 1 rfl)) (run_move rfl (E.get 3 rfl)) fun a E => ?_
    refine env_put (d := 27) (v := .bool true) E rfl (by decide) rfl (w_yes (g := 1) (s := 24) E rfl rfl (by decide) (E.get 2 rfl)) (run_ieql (m := 0) (n := 0) (E.get 1 rfl) (E.get 0 rfl) Try.underlying25 rfl) fun a E => ?_
    refine env_put (d := 28) (v := .bool true) E rfl (by decide) rfl (wanted_none rfl _) (run_pick_t rfl (E.get 3 rfl) (E.get 0 rfl)) fun a E => ?_
    refine env_put (d := 29) (v := .bool true) E rfl (by decide) rfl (wanted_none rfl _) (run_move rfl (E.get 0 rfl)) fun a E => ?_
    refine env_put (d := 30) (v := .slice (p1) (outL l).length c1) E rfl (by decide) rfl (w_yes (g := 6) (s := 29) E rfl rfl (by decide) (E.get 0 rfl)) (run_move rfl (E.get 15 rfl)) fun a E => ?_
    refine env_put (d := 31) (v := r2) E rfl (by decide) rfl (w_yes (g := 6) (s := 29) E rfl rfl (by decide) (E.get 1 rfl)) (run_move rfl (E.get 9 rfl)) fun a E => ?_
    refine env_call (d := 32) (v := .bool true) E rfl (by decide) rfl (w_yes (g := 6) (s := 29) E rfl rfl (by decide) (E.get 2 rfl)) (run_call2 (enters_of Try.func12 (by kernel_rfl) rfl) rfl rfl (E.get 1 rfl) (E.get 0 rfl)) (by have h := same_calls _ r2 (outL l) (outL l) _ hr1 hr2 (by have h1 : (outL l).length ≤ 60 * 60 + 0 := out_len60 hn60; omega); rw [decide_eq_true rfl] at h; exact h) fun a w1 f1 E => ?_
    have hp := hp.fr f1
    have hr1 := hr1.fr f1
    have hr2 := hr2.fr f1
    have hf := hf.trans f1
    clear f1
    refine env_put (d := 33) (v := .bool true) E rfl (by decide) rfl (wanted_none rfl _) (run_pick_t rfl (E.get 3 rfl) (E.get 0 rfl)) fun a E => ?_
    refine env_set (d := 2) (v := .bool true) E rfl (by decide) (wanted_none rfl _) (run_assign rfl (E.get 0 rfl)) fun a E => ?_
    refine wpList_nil ?_
    refine then_n ?_
    refine wp_ret ?_
    exact ret_tmp (t := 2) rfl E (E.get 0 rfl) ⟨rfl, hf⟩
  | true =>
    rw [hq1] at E
    refine wp_cond_true (E.get 0 rfl) ?_
    refine wp_seq ?_
    refine wp_region_lit ?_
    refine env_put (d := 12) (v := .bool true) E rfl (by decide) rfl (wanted_none rfl _) (run_move rfl (E.get 3 rfl)) fun a E => ?_
    refine env_set (d := 2) (v := .bool true) E rfl (by decide) (wanted_none rfl _) (run_assign rfl (E.get 0 rfl)) fun a E => ?_
    refine wpList_nil ?_
    refine then_n ?_
    refine wp_ret ?_
    refine then_r ?_
    exact ret_tmp (t := 2) rfl E (E.get 0 rfl) ⟨rfl, hf⟩
end Go.Proofs.Ytiainjcimmeedaa
