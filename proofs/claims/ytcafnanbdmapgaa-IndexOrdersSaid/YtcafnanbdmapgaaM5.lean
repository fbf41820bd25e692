/- The heap: up, down. -/
import Derived.Test.YtcafnanbdmapgaaM3
set_option linter.unusedVariables false
set_option linter.unusedSimpArgs false
namespace Go.Proofs.Ytcafnanbdmapgaa
open Go.RowKit Go.Pl

theorem run_quo2 {o : Oper} {w : World} {ρ : Operand → Value} {x y : Operand} {j : Nat} {m : Int} (hm : m = (j : Int) - 1) (hj : j ≤ 1000000000) (hx : ρ x = .int .i64 m) (hy : ρ y = .int .i64 2) (ho : o.op = .binOp .quo 3 x y 3) : (execOp ρ o).run Try.prog w = .ok (.value (.int .i64 (((j - 1) / 2 : Nat) : Int))) w := by
  subst hm
  have e : Int.tdiv ((j : Int) - 1) 2 = (((j - 1) / 2 : Nat) : Int) := by
    cases j with
    | zero => rfl
    | succ k =>
      rw [show ((k + 1 : Nat) : Int) - 1 = (k : Int) by omega]
      rfl
  have hw : IntKind.i64.wrap (((j - 1 : Nat) : Int) / 2) = ((j - 1 : Nat) : Int) / 2 := IntWalk.i64_in _ ⟨by omega, by omega⟩
  simp [execOp, ho, hx, hy, go_sem, Try.underlying3, e, hw]
/-- How a sift ends. -/
def UpP (w : World) (q B : Nat) (v : Value) (S : Nat → Prop) (X : List Wt) (e : Ending) (w' : World) : Prop :=
  e = .returned (.tuple #[]) ∧ ∃ X', X'.Perm X ∧ Hp (fx X') X'.length ∧ HAt w' q B v S X' ∧ Fr (fun k => v.ownBlock = some k) w w'
def DnP (w : World) (q B n : Nat) (v : Value) (S : Nat → Prop) (X : List Wt) (e : Ending) (w' : World) : Prop :=
  (∃ b, e = .returned (.bool b)) ∧ ∃ X', X'.Perm X ∧ Hp (fx X') n ∧ (∀ k, n ≤ k → X'[k]? = X[k]?) ∧ HAt w' q B v S X' ∧ Fr (fun k => v.ownBlock = some k) w w'

set_option maxRecDepth 100000 in
set_option maxHeartbeats 4000000 in
theorem up_calls {w : World} {q B : Nat} {v : Value} {S : Nat → Prop} {X0 : List Wt} (hH : HAt w q B v S X0) (hS : ∀ k, S k → k < B ∧ k ≠ q) {j0 : Nat} (hj : j0 < X0.length) (hU : HpUp (fx X0) X0.length j0) (hln : X0.length ≤ 1000000) : Calls Try.prog 50 #[.iface 74 (.pointer (some ⟨q, 0, none⟩)), .int .i64 (j0 : Int)] w (UpP w q B v S X0) := by
  refine wp_start2 Try.func50 rfl rfl (n := 23) (by decide) fun a E => ?_
  refine wp_block ?_
  refine wp_loop (fun a w2 => ∃ (X : List Wt) (j : Nat), Env 23 [(0, .iface 74 (.pointer (some ⟨q, 0, none⟩))), (1, .int .i64 (j : Int))] a ∧ HAt w2 q B v S X ∧ j < X.length ∧ HpUp (fx X) X.length j ∧ X.Perm X0 ∧ X.length ≤ 1000000 ∧ Fr (fun k => v.ownBlock = some k) w w2) (fun a _ => (intOf (a.eval (.tmp 1))).toNat) ?_ ?_
  · exact ⟨X0, j0, E.of ⟨E.get 0 rfl, E.get 1 rfl, trivial⟩, hH, hj, hU, List.Perm.refl _, hln, Fr.refl _ _⟩
  clear E
  rintro a w2 ⟨X, j, E, hH, hj, hU, hpm, hln, hT⟩
  have hmu : (intOf (a.eval (.tmp 1))).toNat = j := by rw [E.get 1 rfl]; first | rfl | (simp [intOf]; done) | (simp only [intOf]; omega)
  rw [hmu]
  clear hmu
  refine wp_block ?_
  refine wp_seq ?_
  refine wp_region_lit ?_
  refine env_put (d := 5) (v := .int .i64 (j : Int)) E rfl (by decide) rfl (wanted_none rfl _) (run_move rfl (E.get 1 rfl)) fun a E => ?_
  refine env_put (d := 6) (v := .int .i64 ((j : Int) - 1)) E rfl (by decide) rfl (wanted_none rfl _) (run_isub Try.underlying3 (E.get 0 rfl) rfl (by omega) (by omega) rfl) fun a E => ?_
  refine env_put (d := 7) (v := .int .i64 (((j - 1) / 2 : Nat) : Int)) E rfl (by decide) rfl (wanted_none rfl _) (run_quo2 rfl (by omega) (E.get 0 rfl) rfl rfl) fun a E => ?_
  refine env_put (d := 4) (v := .int .i64 (((j - 1) / 2 : Nat) : Int)) E rfl (by decide) rfl (wanted_none rfl _) (run_assign rfl (E.get 0 rfl)) fun a E => ?_
  refine wpList_nil ?_
  refine then_n ?_
  refine wp_seq ?_
  refine wp_seq ?_
  refine wp_region_lit ?_
  refine env_put (d := 8) (v := .int .i64 (((j - 1) / 2 : Nat) : Int)) E rfl (by decide) rfl (wanted_none rfl _) (run_move rfl (E.get 0 rfl)) fun a E => ?_
  refine env_put (d := 9) (v := .int .i64 (j : Int)) E rfl (by decide) rfl (wanted_none rfl _) (run_move rfl (E.get 6 rfl)) fun a E => ?_
  refine env_put (d := 10) (v := .bool ((((j - 1) / 2 : Nat) : Int) == (j : Int))) E rfl (by decide) rfl (wanted_none rfl _) (run_ieql (E.get 1 rfl) (E.get 0 rfl) Try.underlying3 rfl) fun a E => ?_
  refine env_put (d := 11) (v := .bool ((((j - 1) / 2 : Nat) : Int) == (j : Int))) E rfl (by decide) rfl (wanted_none rfl _) (run_move rfl (E.get 0 rfl)) fun a E => ?_
  cases hq32 : ((((j - 1) / 2 : Nat) : Int) == (j : Int)) with
  | false =>
    rw [hq32] at E
    have hj1 : 1 ≤ j := by have h9 : ¬ ((((j - 1) / 2 : Nat) : Int) = (j : Int)) := fun e => by rw [e] at hq32; simp at hq32
                           omega
    obtain ⟨xj, hxj⟩ : ∃ xj, X[j]? = some xj := ⟨_, List.getElem?_eq_getElem hj⟩
    obtain ⟨xi, hxi⟩ : ∃ xi, X[(j - 1) / 2]? = some xi := ⟨_, List.getElem?_eq_getElem (by omega)⟩
    refine env_put (d := 12) (v := .iface 74 (.pointer (some ⟨q, 0, none⟩))) E rfl (by decide) rfl (w_yes (g := 3) (s := 11) E rfl rfl (by decide) (E.get 0 rfl)) (run_move rfl (E.get 8 rfl)) fun a E => ?_
    refine env_put (d := 13) (v := .int .i64 (j : Int)) E rfl (by decide) rfl (w_yes (g := 3) (s := 11) E rfl rfl (by decide) (E.get 1 rfl)) (run_move rfl (E.get 10 rfl)) fun a E => ?_
    refine env_put (d := 14) (v := .int .i64 (((j - 1) / 2 : Nat) : Int)) E rfl (by decide) rfl (w_yes (g := 3) (s := 11) E rfl rfl (by decide) (E.get 2 rfl)) (run_move rfl (E.get 6 rfl)) fun a E => ?_
    refine env_call (d := 15) (v := .bool (lsW xj xi)) E rfl (by decide) rfl (w_yes (g := 3) (s := 11) E rfl rfl (by decide) (E.get 3 rfl)) (run_inv2 (mt_less q _) (enters_of Try.func110 (by kernel_rfl) rfl) rfl (E.get 2 rfl) (E.get 1 rfl) (E.get 0 rfl)) (lessq_calls hH.1 hxj hxi (hH.2 _ (List.mem_of_getElem? hxj)) (hH.2 _ (List.mem_of_getElem? hxi))) fun a w3 f1 E => ?_
    have hH := hH.fr f1 id (fun _ _ h => h) (fun _ _ h => h)
    have hT := hT.trans' f1 (fun _ _ h => h.elim)
    clear f1
    refine env_put (d := 16) (v := .bool (!(lsW xj xi))) E rfl (by decide) rfl (w_yes (g := 3) (s := 11) E rfl rfl (by decide) (E.get 4 rfl)) (run_not rfl (E.get 0 rfl)) fun a E => ?_
    refine env_put (d := 17) (v := .bool (!(lsW xj xi))) E rfl (by decide) rfl (wanted_none rfl _) (run_pick_f rfl (E.get 5 rfl) (E.get 0 rfl)) fun a E => ?_
    refine wpList_nil ?_
    refine then_n ?_
    cases hq33 : (lsW xj xi) with
    | false =>
      rw [hq33] at E
      refine wp_cond_true (E.get 0 rfl) ?_
      refine wp_exit ?_
      refine then_e ?_
      refine blk_x (by decide) ?_
      refine then_e ?_
      refine blk_e ?_
      refine (ret_nil rfl E ⟨rfl, X, hpm, ?_, hH, hT⟩).1
      exact hU.stop (by rw [fx_of hxj, fx_of hxi]; exact fun h9 => by rw [(lsW_iff _ _).2 h9] at hq33; cases hq33)
    | true =>
      rw [hq33] at E
      refine wp_cond_false (E.get 0 rfl) ?_
      refine wp_skip ?_
      refine then_n ?_
      refine wp_seq ?_
      refine wp_region_lit ?_
      refine env_put (d := 18) (v := .iface 74 (.pointer (some ⟨q, 0, none⟩))) E rfl (by decide) rfl (wanted_none rfl _) (run_move rfl (E.get 14 rfl)) fun a E => ?_
      refine env_put (d := 19) (v := .int .i64 (((j - 1) / 2 : Nat) : Int)) E rfl (by decide) rfl (wanted_none rfl _) (run_move rfl (E.get 11 rfl)) fun a E => ?_
      refine env_put (d := 20) (v := .int .i64 (j : Int)) E rfl (by decide) rfl (wanted_none rfl _) (run_move rfl (E.get 17 rfl)) fun a E => ?_
      refine env_call (d := 21) (v := .tuple #[]) (F := fun w8 => QAt w8 q B v (swp X ((j - 1) / 2) j xi xj) ∧ Fr (fun k => v.ownBlock = some k) w3 w8) E rfl (by decide) rfl (wanted_none rfl _) (run_inv2 (mt_swap q _) (enters_of Try.func113 (by kernel_rfl) rfl) rfl (E.get 2 rfl) (E.get 1 rfl) (E.get 0 rfl)) (swapq_calls hH.1 hxi hxj) fun a w4 f1 E => ?_
      obtain ⟨hQ4, f1⟩ := f1
      have hH4 : HAt w4 q B v S (swp X ((j - 1) / 2) j xi xj) := ⟨hQ4, fun z hz => (hH.2 z ((swp_perm hxi hxj).mem_iff.1 hz)).fr f1 (fun k hk e => by have := hS k hk; have := (hH.1.2.lt e).1; omega)⟩
      have hT4 := hT.trans' f1 (fun _ _ h => h)
      have hp4 := (swp_perm hxi hxj).trans hpm
      clear f1
      refine wpList_nil ?_
      refine then_n ?_
      refine wp_region_lit ?_
      refine env_put (d := 22) (v := .int .i64 (((j - 1) / 2 : Nat) : Int)) E rfl (by decide) rfl (wanted_none rfl _) (run_move rfl (E.get 14 rfl)) fun a E => ?_
      refine env_set (d := 1) (v := .int .i64 (((j - 1) / 2 : Nat) : Int)) E rfl (by decide) (wanted_none rfl _) (run_assign rfl (E.get 0 rfl)) fun a E => ?_
      refine wpList_nil ?_
      refine blk_n ?_
      refine then_n ?_
      have hls := (lsW_iff _ _).1 hq33
      have hst : HpUp (sw (fx X) ((j - 1) / 2) j) X.length ((j - 1) / 2) := hU.step hj1 hj (by rw [fx_of hxj, fx_of hxi]; exact hls)
      rw [← fx_swp hxi hxj] at hst
      refine ⟨⟨swp X ((j - 1) / 2) j xi xj, (j - 1) / 2, E.of ⟨E.get 20 rfl, E.get 0 rfl, trivial⟩, hH4, by rw [swp_len]; omega, by rw [swp_len]; exact hst, hp4, by rw [swp_len]; exact hln, hT4⟩, ?_⟩
      rw [E.get 0 rfl]; simp only [intOf]; omega
  | true =>
    rw [hq32] at E
    have hj0 : j = 0 := by have := beq_iff_eq.1 hq32; omega
    refine env_skip (d := 12) (g := 3) (s := 11) E rfl (by decide) rfl rfl rfl (by decide) (E.get 0 rfl) fun a E => ?_
    refine env_skip (d := 13) (g := 3) (s := 11) E rfl (by decide) rfl rfl rfl (by decide) (E.get 1 rfl) fun a E => ?_
    refine env_skip (d := 14) (g := 3) (s := 11) E rfl (by decide) rfl rfl rfl (by decide) (E.get 2 rfl) fun a E => ?_
    refine env_skip (d := 15) (g := 3) (s := 11) E rfl (by decide) rfl rfl rfl (by decide) (E.get 3 rfl) fun a E => ?_
    refine env_skip (d := 16) (g := 3) (s := 11) E rfl (by decide) rfl rfl rfl (by decide) (E.get 4 rfl) fun a E => ?_
    refine env_put (d := 17) (v := .bool true) E rfl (by decide) rfl (wanted_none rfl _) (run_pick_t rfl (E.get 5 rfl) rfl) fun a E => ?_
    refine wpList_nil ?_
    refine then_n ?_
    refine wp_cond_true (E.get 0 rfl) ?_
    refine wp_exit ?_
    refine then_e ?_
    refine blk_x (by decide) ?_
    refine then_e ?_
    refine blk_e ?_
    refine (ret_nil rfl E ⟨rfl, X, hpm, ?_, hH, hT⟩).1
    subst hj0; exact hU.stop0
set_option maxRecDepth 100000 in
set_option maxHeartbeats 4000000 in
theorem down_calls {w : World} {q B : Nat} {v : Value} {S : Nat → Prop} {X0 : List Wt} (hH : HAt w q B v S X0) (hS : ∀ k, S k → k < B ∧ k ≠ q) {n : Nat} (hnl : n ≤ X0.length) (hD : HpDn (fx X0) n 0) (hln : X0.length ≤ 1000000) : Calls Try.prog 51 #[.iface 74 (.pointer (some ⟨q, 0, none⟩)), .int .i64 0, .int .i64 (n : Int)] w (DnP w q B n v S X0) := by
  refine wp_start3 Try.func51 rfl rfl (n := 48) (by decide) fun a E => ?_
  refine wp_seq ?_
  refine wp_region_lit ?_
  refine env_put (d := 6) (v := .bool false) E rfl (by decide) rfl (wanted_none rfl _) (run_assign rfl rfl) fun a E => ?_
  refine wpList_nil ?_
  refine then_n ?_
  refine wp_seq ?_
  refine wp_region_lit ?_
  refine env_put (d := 11) (v := .int .i64 0) E rfl (by decide) rfl (wanted_none rfl _) (run_move rfl (E.get 2 rfl)) fun a E => ?_
  refine env_put (d := 7) (v := .int .i64 0) E rfl (by decide) rfl (wanted_none rfl _) (run_assign rfl (E.get 0 rfl)) fun a E => ?_
  refine wpList_nil ?_
  refine then_n ?_
  refine wp_seq ?_
  refine wp_block ?_
  refine wp_loop (fun a w2 => ∃ (X : List Wt) (i : Nat), Env 48 [(0, .iface 74 (.pointer (some ⟨q, 0, none⟩))), (7, .int .i64 (i : Int)), (2, .int .i64 (n : Int)), (6, .bool false), (1, .int .i64 0)] a ∧ HAt w2 q B v S X ∧ n ≤ X.length ∧ i ≤ n ∧ HpDn (fx X) n i ∧ X.Perm X0 ∧ X.length ≤ 1000000 ∧ (∀ k, n ≤ k → X[k]? = X0[k]?) ∧ Fr (fun k => v.ownBlock = some k) w w2) (fun a _ => n - (intOf (a.eval (.tmp 7))).toNat) ?_ ?_
  · exact ⟨X0, 0, E.of ⟨E.get 3 rfl, E.get 0 rfl, E.get 5 rfl, E.get 2 rfl, E.get 4 rfl, trivial⟩, hH, hnl, Nat.zero_le _, hD, List.Perm.refl _, hln, fun _ _ => rfl, Fr.refl _ _⟩
  clear E
  rintro a w2 ⟨X, i, E, hH, hnl, hib, hD, hpm, hln, hk9, hT⟩
  have hmu : n - (intOf (a.eval (.tmp 7))).toNat = n - i := by rw [E.get 1 rfl]; first | rfl | (simp [intOf]; done) | (simp only [intOf]; omega)
  rw [hmu]
  clear hmu
  refine wp_block ?_
  refine wp_seq ?_
  refine wp_region_lit ?_
  refine env_put (d := 12) (v := .int .i64 (i : Int)) E rfl (by decide) rfl (wanted_none rfl _) (run_move rfl (E.get 1 rfl)) fun a E => ?_
  refine env_put (d := 13) (v := .int .i64 (2 * (i : Int))) E rfl (by decide) rfl (wanted_none rfl _) (run_imul Try.underlying3 rfl (E.get 0 rfl) (by omega) (by omega) rfl) fun a E => ?_
  refine env_put (d := 14) (v := .int .i64 ((2 * (i : Int)) + 1)) E rfl (by decide) rfl (wanted_none rfl _) (run_iadd Try.underlying3 (E.get 0 rfl) rfl (by omega) (by omega) rfl) fun a E => ?_
  refine env_put (d := 8) (v := .int .i64 ((2 * (i : Int)) + 1)) E rfl (by decide) rfl (wanted_none rfl _) (run_assign rfl (E.get 0 rfl)) fun a E => ?_
  refine wpList_nil ?_
  refine then_n ?_
  refine wp_seq ?_
  refine wp_seq ?_
  refine wp_region_lit ?_
  refine env_put (d := 15) (v := .int .i64 ((2 * (i : Int)) + 1)) E rfl (by decide) rfl (wanted_none rfl _) (run_move rfl (E.get 0 rfl)) fun a E => ?_
  refine env_put (d := 16) (v := .int .i64 (n : Int)) E rfl (by decide) rfl (wanted_none rfl _) (run_move rfl (E.get 7 rfl)) fun a E => ?_
  refine env_put (d := 17) (v := .bool (decide ((n : Int) ≤ ((2 * (i : Int)) + 1)))) E rfl (by decide) rfl (wanted_none rfl _) (run_igeq (E.get 1 rfl) (E.get 0 rfl) Try.underlying3 rfl) fun a E => ?_
  refine env_put (d := 18) (v := .bool (decide ((n : Int) ≤ ((2 * (i : Int)) + 1)))) E rfl (by decide) rfl (wanted_none rfl _) (run_move rfl (E.get 0 rfl)) fun a E => ?_
  cases hq35 : (decide ((n : Int) ≤ ((2 * (i : Int)) + 1))) with
  | false =>
    rw [hq35] at E
    have hlt : 2 * i + 1 < n := by have := of_decide_eq_false hq35; omega
    obtain ⟨x1, hx1⟩ : ∃ x1, X[2 * i + 1]? = some x1 := ⟨_, List.getElem?_eq_getElem (by omega)⟩
    obtain ⟨xi, hxi⟩ : ∃ xi, X[i]? = some xi := ⟨_, List.getElem?_eq_getElem (by omega)⟩
    have e1 : (2 * (i : Int)) + 1 = ((2 * i + 1 : Nat) : Int) := by omega
    refine env_put (d := 19) (v := .int .i64 ((2 * (i : Int)) + 1)) E rfl (by decide) rfl (w_yes (g := 3) (s := 18) E rfl rfl (by decide) (E.get 0 rfl)) (run_move rfl (E.get 4 rfl)) fun a E => ?_
    refine env_put (d := 20) (v := .bool (decide (((2 * (i : Int)) + 1) < 0))) E rfl (by decide) rfl (w_yes (g := 3) (s := 18) E rfl rfl (by decide) (E.get 1 rfl)) (run_ilss (E.get 0 rfl) rfl Try.underlying3 rfl) fun a E => ?_
    refine env_put (d := 21) (v := .bool (decide (((2 * (i : Int)) + 1) < 0))) E rfl (by decide) rfl (wanted_none rfl _) (run_pick_f rfl (E.get 2 rfl) (E.get 0 rfl)) fun a E => ?_
    refine wpList_nil ?_
    refine then_n ?_
    cases hq36 : (decide (((2 * (i : Int)) + 1) < 0)) with
    | false =>
      rw [hq36] at E
      rw [e1] at E
      refine wp_cond_false (E.get 0 rfl) ?_
      refine wp_skip ?_
      refine then_n ?_
      refine wp_seq ?_
      refine wp_region_lit ?_
      refine env_put (d := 22) (v := .int .i64 ((2 * i + 1 : Nat) : Int)) E rfl (by decide) rfl (wanted_none rfl _) (run_move rfl (E.get 7 rfl)) fun a E => ?_
      refine env_put (d := 9) (v := .int .i64 ((2 * i + 1 : Nat) : Int)) E rfl (by decide) rfl (wanted_none rfl _) (run_assign rfl (E.get 0 rfl)) fun a E => ?_
      refine wpList_nil ?_
      refine then_n ?_
      refine wp_seq ?_
      refine wp_seq ?_
      refine wp_region_lit ?_
      refine env_put (d := 23) (v := .int .i64 ((2 * i + 1 : Nat) : Int)) E rfl (by decide) rfl (wanted_none rfl _) (run_move rfl (E.get 9 rfl)) fun a E => ?_
      refine env_put (d := 24) (v := .int .i64 (((2 * i + 1 : Nat) : Int) + 1)) E rfl (by decide) rfl (wanted_none rfl _) (run_iadd Try.underlying3 (E.get 0 rfl) rfl (by omega) (by omega) rfl) fun a E => ?_
      refine env_put (d := 10) (v := .int .i64 (((2 * i + 1 : Nat) : Int) + 1)) E rfl (by decide) rfl (wanted_none rfl _) (run_assign rfl (E.get 0 rfl)) fun a E => ?_
      refine wpList_nil ?_
      refine then_n ?_
      refine wp_seq ?_
      refine wp_region_lit ?_
      refine env_put (d := 25) (v := .int .i64 (((2 * i + 1 : Nat) : Int) + 1)) E rfl (by decide) rfl (wanted_none rfl _) (run_move rfl (E.get 0 rfl)) fun a E => ?_
      refine env_put (d := 26) (v := .int .i64 (n : Int)) E rfl (by decide) rfl (wanted_none rfl _) (run_move rfl (E.get 19 rfl)) fun a E => ?_
      refine env_put (d := 27) (v := .bool (decide ((((2 * i + 1 : Nat) : Int) + 1) < (n : Int)))) E rfl (by decide) rfl (wanted_none rfl _) (run_ilss (E.get 1 rfl) (E.get 0 rfl) Try.underlying3 rfl) fun a E => ?_
      refine env_put (d := 28) (v := .bool (decide ((((2 * i + 1 : Nat) : Int) + 1) < (n : Int)))) E rfl (by decide) rfl (wanted_none rfl _) (run_move rfl (E.get 0 rfl)) fun a E => ?_
      cases hq37 : (decide ((((2 * i + 1 : Nat) : Int) + 1) < (n : Int))) with
      | false =>
        rw [hq37] at E
        have hge2 : n ≤ 2 * i + 2 := by have := of_decide_eq_false hq37; omega
        refine env_skip (d := 29) (g := 3) (s := 28) E rfl (by decide) rfl rfl rfl (by decide) (E.get 0 rfl) fun a E => ?_
        refine env_skip (d := 30) (g := 3) (s := 28) E rfl (by decide) rfl rfl rfl (by decide) (E.get 1 rfl) fun a E => ?_
        refine env_skip (d := 31) (g := 3) (s := 28) E rfl (by decide) rfl rfl rfl (by decide) (E.get 2 rfl) fun a E => ?_
        refine env_skip (d := 32) (g := 3) (s := 28) E rfl (by decide) rfl rfl rfl (by decide) (E.get 3 rfl) fun a E => ?_
        refine env_put (d := 33) (v := .bool false) E rfl (by decide) rfl (wanted_none rfl _) (run_pick_f rfl (E.get 4 rfl) rfl) fun a E => ?_
        refine wpList_nil ?_
        refine then_n ?_
        refine wp_cond_false (E.get 0 rfl) ?_
        refine wp_skip ?_
        refine then_n ?_
        refine wp_seq ?_
        refine wp_seq ?_
        refine wp_region_lit ?_
        refine env_put (d := 35) (v := .iface 74 (.pointer (some ⟨q, 0, none⟩))) E rfl (by decide) rfl (wanted_none rfl _) (run_move rfl (E.get 25 rfl)) fun a E => ?_
        refine env_put (d := 36) (v := .int .i64 ((2 * i + 1 : Nat) : Int)) E rfl (by decide) rfl (wanted_none rfl _) (run_move rfl (E.get 13 rfl)) fun a E => ?_
        refine env_put (d := 37) (v := .int .i64 (i : Int)) E rfl (by decide) rfl (wanted_none rfl _) (run_move rfl (E.get 28 rfl)) fun a E => ?_
        refine env_call (d := 38) (v := .bool (lsW x1 xi)) E rfl (by decide) rfl (wanted_none rfl _) (run_inv2 (mt_less q _) (enters_of Try.func110 (by kernel_rfl) rfl) rfl (E.get 2 rfl) (E.get 1 rfl) (E.get 0 rfl)) (lessq_calls hH.1 hx1 hxi (hH.2 _ (List.mem_of_getElem? hx1)) (hH.2 _ (List.mem_of_getElem? hxi))) fun a w3 f1 E => ?_
        have hH := hH.fr f1 id (fun _ _ h => h) (fun _ _ h => h)
        have hT := hT.trans' f1 (fun _ _ h => h.elim)
        clear f1
        refine env_put (d := 39) (v := .bool (!(lsW x1 xi))) E rfl (by decide) rfl (wanted_none rfl _) (run_not rfl (E.get 0 rfl)) fun a E => ?_
        refine wpList_nil ?_
        refine then_n ?_
        cases hq38 : (lsW x1 xi) with
        | false =>
          rw [hq38] at E
          refine wp_cond_true (E.get 0 rfl) ?_
          refine wp_exit ?_
          refine then_e ?_
          refine blk_x (by decide) ?_
          refine then_e ?_
          refine blk_e ?_
          refine then_n ?_
          refine wp_seq ?_
          refine wp_region_lit ?_
          refine env_put (d := 45) (v := .int .i64 (i : Int)) E rfl (by decide) rfl (wanted_none rfl _) (run_move rfl (E.get 31 rfl)) fun a E => ?_
          refine env_put (d := 46) (v := .int .i64 0) E rfl (by decide) rfl (wanted_none rfl _) (run_move rfl (E.get 35 rfl)) fun a E => ?_
          refine env_put (d := 47) (v := .bool (decide (0 < (i : Int)))) E rfl (by decide) rfl (wanted_none rfl _) (run_igtr (E.get 1 rfl) (E.get 0 rfl) Try.underlying3 rfl) fun a E => ?_
          refine env_set (d := 6) (v := .bool (decide (0 < (i : Int)))) E rfl (by decide) (wanted_none rfl _) (run_assign rfl (E.get 0 rfl)) fun a E => ?_
          refine wpList_nil ?_
          refine then_n ?_
          refine wp_ret ?_
          have hcc : ∀ c, 1 ≤ c → c < n → (c - 1) / 2 = i → ¬ LsW (fx X c) (fx X (2 * i + 1)) := by
            intro c h1 h2 h3
            have : c = 2 * i + 1 := by omega
            subst this
            exact LsW.irrefl _
          exact ret_tmp (t := 6) rfl E (E.get 0 rfl) ⟨⟨_, rfl⟩, X, hpm, hD.stop2 (j := (2 * i + 1)) hcc (by rw [fx_of hx1, fx_of hxi]; exact fun h9 => by rw [(lsW_iff _ _).2 h9] at hq38; cases hq38), hk9, hH, hT⟩
        | true =>
          rw [hq38] at E
          refine wp_cond_false (E.get 0 rfl) ?_
          refine wp_skip ?_
          refine then_n ?_
          refine wp_seq ?_
          refine wp_region_lit ?_
          refine env_put (d := 40) (v := .iface 74 (.pointer (some ⟨q, 0, none⟩))) E rfl (by decide) rfl (wanted_none rfl _) (run_move rfl (E.get 30 rfl)) fun a E => ?_
          refine env_put (d := 41) (v := .int .i64 (i : Int)) E rfl (by decide) rfl (wanted_none rfl _) (run_move rfl (E.get 32 rfl)) fun a E => ?_
          refine env_put (d := 42) (v := .int .i64 ((2 * i + 1 : Nat) : Int)) E rfl (by decide) rfl (wanted_none rfl _) (run_move rfl (E.get 19 rfl)) fun a E => ?_
          refine env_call (d := 43) (v := .tuple #[]) (F := fun w8 => QAt w8 q B v (swp X i (2 * i + 1) xi x1) ∧ Fr (fun k => v.ownBlock = some k) w3 w8) E rfl (by decide) rfl (wanted_none rfl _) (run_inv2 (mt_swap q _) (enters_of Try.func113 (by kernel_rfl) rfl) rfl (E.get 2 rfl) (E.get 1 rfl) (E.get 0 rfl)) (swapq_calls hH.1 hxi hx1) fun a w4 f1 E => ?_
          obtain ⟨hQ4, f1⟩ := f1
          have hH4 : HAt w4 q B v S (swp X i (2 * i + 1) xi x1) := ⟨hQ4, fun z hz => (hH.2 z ((swp_perm hxi hx1).mem_iff.1 hz)).fr f1 (fun k hk e => by have := hS k hk; have := (hH.1.2.lt e).1; omega)⟩
          have hT4 := hT.trans' f1 (fun _ _ h => h)
          have hp4 := (swp_perm hxi hx1).trans hpm
          clear f1
          refine wpList_nil ?_
          refine then_n ?_
          refine wp_region_lit ?_
          refine env_put (d := 44) (v := .int .i64 ((2 * i + 1 : Nat) : Int)) E rfl (by decide) rfl (wanted_none rfl _) (run_move rfl (E.get 21 rfl)) fun a E => ?_
          refine env_set (d := 7) (v := .int .i64 ((2 * i + 1 : Nat) : Int)) E rfl (by decide) (wanted_none rfl _) (run_assign rfl (E.get 0 rfl)) fun a E => ?_
          refine wpList_nil ?_
          refine blk_n ?_
          refine then_n ?_
          have hcc : ∀ c, 1 ≤ c → c < n → (c - 1) / 2 = i → ¬ LsW (fx X c) (fx X (2 * i + 1)) := by
            intro c h1 h2 h3
            have : c = 2 * i + 1 := by omega
            subst this
            exact LsW.irrefl _
          have hls := (lsW_iff _ _).1 hq38
          have hst : HpDn (sw (fx X) i (2 * i + 1)) n (2 * i + 1) := hD.step (by omega) (by omega) (by omega) hcc (by rw [fx_of hx1, fx_of hxi]; exact hls)
          rw [← fx_swp hxi hx1] at hst
          refine ⟨⟨swp X i (2 * i + 1) xi x1, (2 * i + 1), E.of ⟨E.get 36 rfl, E.get 0 rfl, E.get 37 rfl, E.get 38 rfl, E.get 39 rfl, trivial⟩, hH4, by rw [swp_len]; omega, by omega, hst, hp4, by rw [swp_len]; exact hln, (fun k hk => ?_), hT4⟩, ?_⟩
          · rw [List.getElem?_set, if_neg (by omega), List.getElem?_set, if_neg (by omega)]; exact hk9 k hk
          · rw [E.get 0 rfl]; simp only [intOf]; omega
      | true =>
        rw [hq37] at E
        have hlt2 : 2 * i + 2 < n := by have := of_decide_eq_true hq37; omega
        obtain ⟨x2, hx2⟩ : ∃ x2, X[2 * i + 2]? = some x2 := ⟨_, List.getElem?_eq_getElem (by omega)⟩
        have e2 : ((2 * i + 1 : Nat) : Int) + 1 = ((2 * i + 2 : Nat) : Int) := by omega
        rw [e2] at E
        refine env_put (d := 29) (v := .iface 74 (.pointer (some ⟨q, 0, none⟩))) E rfl (by decide) rfl (w_yes (g := 3) (s := 28) E rfl rfl (by decide) (E.get 0 rfl)) (run_move rfl (E.get 20 rfl)) fun a E => ?_
        refine env_put (d := 30) (v := .int .i64 ((2 * i + 2 : Nat) : Int)) E rfl (by decide) rfl (w_yes (g := 3) (s := 28) E rfl rfl (by decide) (E.get 1 rfl)) (run_move rfl (E.get 5 rfl)) fun a E => ?_
        refine env_put (d := 31) (v := .int .i64 ((2 * i + 1 : Nat) : Int)) E rfl (by decide) rfl (w_yes (g := 3) (s := 28) E rfl rfl (by decide) (E.get 2 rfl)) (run_move rfl (E.get 18 rfl)) fun a E => ?_
        refine env_call (d := 32) (v := .bool (lsW x2 x1)) E rfl (by decide) rfl (w_yes (g := 3) (s := 28) E rfl rfl (by decide) (E.get 3 rfl)) (run_inv2 (mt_less q _) (enters_of Try.func110 (by kernel_rfl) rfl) rfl (E.get 2 rfl) (E.get 1 rfl) (E.get 0 rfl)) (lessq_calls hH.1 hx2 hx1 (hH.2 _ (List.mem_of_getElem? hx2)) (hH.2 _ (List.mem_of_getElem? hx1))) fun a w3 f1 E => ?_
        have hH := hH.fr f1 id (fun _ _ h => h) (fun _ _ h => h)
        have hT := hT.trans' f1 (fun _ _ h => h.elim)
        clear f1
        refine env_put (d := 33) (v := .bool (lsW x2 x1)) E rfl (by decide) rfl (wanted_none rfl _) (run_pick_t rfl (E.get 4 rfl) (E.get 0 rfl)) fun a E => ?_
        refine wpList_nil ?_
        refine then_n ?_
        cases hq39 : (lsW x2 x1) with
        | false =>
          rw [hq39] at E
          refine wp_cond_false (E.get 0 rfl) ?_
          refine wp_skip ?_
          refine then_n ?_
          refine wp_seq ?_
          refine wp_seq ?_
          refine wp_region_lit ?_
          refine env_put (d := 35) (v := .iface 74 (.pointer (some ⟨q, 0, none⟩))) E rfl (by decide) rfl (wanted_none rfl _) (run_move rfl (E.get 25 rfl)) fun a E => ?_
          refine env_put (d := 36) (v := .int .i64 ((2 * i + 1 : Nat) : Int)) E rfl (by decide) rfl (wanted_none rfl _) (run_move rfl (E.get 13 rfl)) fun a E => ?_
          refine env_put (d := 37) (v := .int .i64 (i : Int)) E rfl (by decide) rfl (wanted_none rfl _) (run_move rfl (E.get 28 rfl)) fun a E => ?_
          refine env_call (d := 38) (v := .bool (lsW x1 xi)) E rfl (by decide) rfl (wanted_none rfl _) (run_inv2 (mt_less q _) (enters_of Try.func110 (by kernel_rfl) rfl) rfl (E.get 2 rfl) (E.get 1 rfl) (E.get 0 rfl)) (lessq_calls hH.1 hx1 hxi (hH.2 _ (List.mem_of_getElem? hx1)) (hH.2 _ (List.mem_of_getElem? hxi))) fun a w3 f1 E => ?_
          have hH := hH.fr f1 id (fun _ _ h => h) (fun _ _ h => h)
          have hT := hT.trans' f1 (fun _ _ h => h.elim)
          clear f1
          refine env_put (d := 39) (v := .bool (!(lsW x1 xi))) E rfl (by decide) rfl (wanted_none rfl _) (run_not rfl (E.get 0 rfl)) fun a E => ?_
          refine wpList_nil ?_
          refine then_n ?_
          cases hq40 : (lsW x1 xi) with
          | false =>
            rw [hq40] at E
            refine wp_cond_true (E.get 0 rfl) ?_
            refine wp_exit ?_
            refine then_e ?_
            refine blk_x (by decide) ?_
            refine then_e ?_
            refine blk_e ?_
            refine then_n ?_
            refine wp_seq ?_
            refine wp_region_lit ?_
            refine env_put (d := 45) (v := .int .i64 (i : Int)) E rfl (by decide) rfl (wanted_none rfl _) (run_move rfl (E.get 31 rfl)) fun a E => ?_
            refine env_put (d := 46) (v := .int .i64 0) E rfl (by decide) rfl (wanted_none rfl _) (run_move rfl (E.get 35 rfl)) fun a E => ?_
            refine env_put (d := 47) (v := .bool (decide (0 < (i : Int)))) E rfl (by decide) rfl (wanted_none rfl _) (run_igtr (E.get 1 rfl) (E.get 0 rfl) Try.underlying3 rfl) fun a E => ?_
            refine env_set (d := 6) (v := .bool (decide (0 < (i : Int)))) E rfl (by decide) (wanted_none rfl _) (run_assign rfl (E.get 0 rfl)) fun a E => ?_
            refine wpList_nil ?_
            refine then_n ?_
            refine wp_ret ?_
            have hcc : ∀ c, 1 ≤ c → c < n → (c - 1) / 2 = i → ¬ LsW (fx X c) (fx X (2 * i + 1)) := by
              intro c h1 h2 h3
              rcases (show c = 2 * i + 1 ∨ c = 2 * i + 2 by omega) with rfl | rfl
              · exact LsW.irrefl _
              · rw [fx_of hx1, fx_of hx2]; exact fun h9 => by rw [(lsW_iff _ _).2 h9] at hq39; cases hq39
            exact ret_tmp (t := 6) rfl E (E.get 0 rfl) ⟨⟨_, rfl⟩, X, hpm, hD.stop2 (j := (2 * i + 1)) hcc (by rw [fx_of hx1, fx_of hxi]; exact fun h9 => by rw [(lsW_iff _ _).2 h9] at hq40; cases hq40), hk9, hH, hT⟩
          | true =>
            rw [hq40] at E
            refine wp_cond_false (E.get 0 rfl) ?_
            refine wp_skip ?_
            refine then_n ?_
            refine wp_seq ?_
            refine wp_region_lit ?_
            refine env_put (d := 40) (v := .iface 74 (.pointer (some ⟨q, 0, none⟩))) E rfl (by decide) rfl (wanted_none rfl _) (run_move rfl (E.get 30 rfl)) fun a E => ?_
            refine env_put (d := 41) (v := .int .i64 (i : Int)) E rfl (by decide) rfl (wanted_none rfl _) (run_move rfl (E.get 32 rfl)) fun a E => ?_
            refine env_put (d := 42) (v := .int .i64 ((2 * i + 1 : Nat) : Int)) E rfl (by decide) rfl (wanted_none rfl _) (run_move rfl (E.get 19 rfl)) fun a E => ?_
            refine env_call (d := 43) (v := .tuple #[]) (F := fun w8 => QAt w8 q B v (swp X i (2 * i + 1) xi x1) ∧ Fr (fun k => v.ownBlock = some k) w3 w8) E rfl (by decide) rfl (wanted_none rfl _) (run_inv2 (mt_swap q _) (enters_of Try.func113 (by kernel_rfl) rfl) rfl (E.get 2 rfl) (E.get 1 rfl) (E.get 0 rfl)) (swapq_calls hH.1 hxi hx1) fun a w4 f1 E => ?_
            obtain ⟨hQ4, f1⟩ := f1
            have hH4 : HAt w4 q B v S (swp X i (2 * i + 1) xi x1) := ⟨hQ4, fun z hz => (hH.2 z ((swp_perm hxi hx1).mem_iff.1 hz)).fr f1 (fun k hk e => by have := hS k hk; have := (hH.1.2.lt e).1; omega)⟩
            have hT4 := hT.trans' f1 (fun _ _ h => h)
            have hp4 := (swp_perm hxi hx1).trans hpm
            clear f1
            refine wpList_nil ?_
            refine then_n ?_
            refine wp_region_lit ?_
            refine env_put (d := 44) (v := .int .i64 ((2 * i + 1 : Nat) : Int)) E rfl (by decide) rfl (wanted_none rfl _) (run_move rfl (E.get 21 rfl)) fun a E => ?_
            refine env_set (d := 7) (v := .int .i64 ((2 * i + 1 : Nat) : Int)) E rfl (by decide) (wanted_none rfl _) (run_assign rfl (E.get 0 rfl)) fun a E => ?_
            refine wpList_nil ?_
            refine blk_n ?_
            refine then_n ?_
            have hcc : ∀ c, 1 ≤ c → c < n → (c - 1) / 2 = i → ¬ LsW (fx X c) (fx X (2 * i + 1)) := by
              intro c h1 h2 h3
              rcases (show c = 2 * i + 1 ∨ c = 2 * i + 2 by omega) with rfl | rfl
              · exact LsW.irrefl _
              · rw [fx_of hx1, fx_of hx2]; exact fun h9 => by rw [(lsW_iff _ _).2 h9] at hq39; cases hq39
            have hls := (lsW_iff _ _).1 hq40
            have hst : HpDn (sw (fx X) i (2 * i + 1)) n (2 * i + 1) := hD.step (by omega) (by omega) (by omega) hcc (by rw [fx_of hx1, fx_of hxi]; exact hls)
            rw [← fx_swp hxi hx1] at hst
            refine ⟨⟨swp X i (2 * i + 1) xi x1, (2 * i + 1), E.of ⟨E.get 36 rfl, E.get 0 rfl, E.get 37 rfl, E.get 38 rfl, E.get 39 rfl, trivial⟩, hH4, by rw [swp_len]; omega, by omega, hst, hp4, by rw [swp_len]; exact hln, (fun k hk => ?_), hT4⟩, ?_⟩
            · rw [List.getElem?_set, if_neg (by omega), List.getElem?_set, if_neg (by omega)]; exact hk9 k hk
            · rw [E.get 0 rfl]; simp only [intOf]; omega
        | true =>
          rw [hq39] at E
          refine wp_cond_true (E.get 0 rfl) ?_
          refine wp_region_lit ?_
          refine env_put (d := 34) (v := .int .i64 ((2 * i + 2 : Nat) : Int)) E rfl (by decide) rfl (wanted_none rfl _) (run_move rfl (E.get 9 rfl)) fun a E => ?_
          refine env_set (d := 9) (v := .int .i64 ((2 * i + 2 : Nat) : Int)) E rfl (by decide) (wanted_none rfl _) (run_assign rfl (E.get 0 rfl)) fun a E => ?_
          refine wpList_nil ?_
          refine then_n ?_
          refine wp_seq ?_
          refine wp_seq ?_
          refine wp_region_lit ?_
          refine env_put (d := 35) (v := .iface 74 (.pointer (some ⟨q, 0, none⟩))) E rfl (by decide) rfl (wanted_none rfl _) (run_move rfl (E.get 26 rfl)) fun a E => ?_
          refine env_put (d := 36) (v := .int .i64 ((2 * i + 2 : Nat) : Int)) E rfl (by decide) rfl (wanted_none rfl _) (run_move rfl (E.get 1 rfl)) fun a E => ?_
          refine env_put (d := 37) (v := .int .i64 (i : Int)) E rfl (by decide) rfl (wanted_none rfl _) (run_move rfl (E.get 29 rfl)) fun a E => ?_
          refine env_call (d := 38) (v := .bool (lsW x2 xi)) E rfl (by decide) rfl (wanted_none rfl _) (run_inv2 (mt_less q _) (enters_of Try.func110 (by kernel_rfl) rfl) rfl (E.get 2 rfl) (E.get 1 rfl) (E.get 0 rfl)) (lessq_calls hH.1 hx2 hxi (hH.2 _ (List.mem_of_getElem? hx2)) (hH.2 _ (List.mem_of_getElem? hxi))) fun a w3 f1 E => ?_
          have hH := hH.fr f1 id (fun _ _ h => h) (fun _ _ h => h)
          have hT := hT.trans' f1 (fun _ _ h => h.elim)
          clear f1
          refine env_put (d := 39) (v := .bool (!(lsW x2 xi))) E rfl (by decide) rfl (wanted_none rfl _) (run_not rfl (E.get 0 rfl)) fun a E => ?_
          refine wpList_nil ?_
          refine then_n ?_
          cases hq41 : (lsW x2 xi) with
          | false =>
            rw [hq41] at E
            refine wp_cond_true (E.get 0 rfl) ?_
            refine wp_exit ?_
            refine then_e ?_
            refine blk_x (by decide) ?_
            refine then_e ?_
            refine blk_e ?_
            refine then_n ?_
            refine wp_seq ?_
            refine wp_region_lit ?_
            refine env_put (d := 45) (v := .int .i64 (i : Int)) E rfl (by decide) rfl (wanted_none rfl _) (run_move rfl (E.get 32 rfl)) fun a E => ?_
            refine env_put (d := 46) (v := .int .i64 0) E rfl (by decide) rfl (wanted_none rfl _) (run_move rfl (E.get 36 rfl)) fun a E => ?_
            refine env_put (d := 47) (v := .bool (decide (0 < (i : Int)))) E rfl (by decide) rfl (wanted_none rfl _) (run_igtr (E.get 1 rfl) (E.get 0 rfl) Try.underlying3 rfl) fun a E => ?_
            refine env_set (d := 6) (v := .bool (decide (0 < (i : Int)))) E rfl (by decide) (wanted_none rfl _) (run_assign rfl (E.get 0 rfl)) fun a E => ?_
            refine wpList_nil ?_
            refine then_n ?_
            refine wp_ret ?_
            have hcc : ∀ c, 1 ≤ c → c < n → (c - 1) / 2 = i → ¬ LsW (fx X c) (fx X (2 * i + 2)) := by
              intro c h1 h2 h3
              rcases (show c = 2 * i + 1 ∨ c = 2 * i + 2 by omega) with rfl | rfl
              · rw [fx_of hx1, fx_of hx2]; exact ((lsW_iff _ _).1 hq39).asymm
              · exact LsW.irrefl _
            exact ret_tmp (t := 6) rfl E (E.get 0 rfl) ⟨⟨_, rfl⟩, X, hpm, hD.stop2 (j := (2 * i + 2)) hcc (by rw [fx_of hx2, fx_of hxi]; exact fun h9 => by rw [(lsW_iff _ _).2 h9] at hq41; cases hq41), hk9, hH, hT⟩
          | true =>
            rw [hq41] at E
            refine wp_cond_false (E.get 0 rfl) ?_
            refine wp_skip ?_
            refine then_n ?_
            refine wp_seq ?_
            refine wp_region_lit ?_
            refine env_put (d := 40) (v := .iface 74 (.pointer (some ⟨q, 0, none⟩))) E rfl (by decide) rfl (wanted_none rfl _) (run_move rfl (E.get 31 rfl)) fun a E => ?_
            refine env_put (d := 41) (v := .int .i64 (i : Int)) E rfl (by decide) rfl (wanted_none rfl _) (run_move rfl (E.get 33 rfl)) fun a E => ?_
            refine env_put (d := 42) (v := .int .i64 ((2 * i + 2 : Nat) : Int)) E rfl (by decide) rfl (wanted_none rfl _) (run_move rfl (E.get 7 rfl)) fun a E => ?_
            refine env_call (d := 43) (v := .tuple #[]) (F := fun w8 => QAt w8 q B v (swp X i (2 * i + 2) xi x2) ∧ Fr (fun k => v.ownBlock = some k) w3 w8) E rfl (by decide) rfl (wanted_none rfl _) (run_inv2 (mt_swap q _) (enters_of Try.func113 (by kernel_rfl) rfl) rfl (E.get 2 rfl) (E.get 1 rfl) (E.get 0 rfl)) (swapq_calls hH.1 hxi hx2) fun a w4 f1 E => ?_
            obtain ⟨hQ4, f1⟩ := f1
            have hH4 : HAt w4 q B v S (swp X i (2 * i + 2) xi x2) := ⟨hQ4, fun z hz => (hH.2 z ((swp_perm hxi hx2).mem_iff.1 hz)).fr f1 (fun k hk e => by have := hS k hk; have := (hH.1.2.lt e).1; omega)⟩
            have hT4 := hT.trans' f1 (fun _ _ h => h)
            have hp4 := (swp_perm hxi hx2).trans hpm
            clear f1
            refine wpList_nil ?_
            refine then_n ?_
            refine wp_region_lit ?_
            refine env_put (d := 44) (v := .int .i64 ((2 * i + 2 : Nat) : Int)) E rfl (by decide) rfl (wanted_none rfl _) (run_move rfl (E.get 9 rfl)) fun a E => ?_
            refine env_set (d := 7) (v := .int .i64 ((2 * i + 2 : Nat) : Int)) E rfl (by decide) (wanted_none rfl _) (run_assign rfl (E.get 0 rfl)) fun a E => ?_
            refine wpList_nil ?_
            refine blk_n ?_
            refine then_n ?_
            have hcc : ∀ c, 1 ≤ c → c < n → (c - 1) / 2 = i → ¬ LsW (fx X c) (fx X (2 * i + 2)) := by
              intro c h1 h2 h3
              rcases (show c = 2 * i + 1 ∨ c = 2 * i + 2 by omega) with rfl | rfl
              · rw [fx_of hx1, fx_of hx2]; exact ((lsW_iff _ _).1 hq39).asymm
              · exact LsW.irrefl _
            have hls := (lsW_iff _ _).1 hq41
            have hst : HpDn (sw (fx X) i (2 * i + 2)) n (2 * i + 2) := hD.step (by omega) (by omega) (by omega) hcc (by rw [fx_of hx2, fx_of hxi]; exact hls)
            rw [← fx_swp hxi hx2] at hst
            refine ⟨⟨swp X i (2 * i + 2) xi x2, (2 * i + 2), E.of ⟨E.get 37 rfl, E.get 0 rfl, E.get 38 rfl, E.get 39 rfl, E.get 40 rfl, trivial⟩, hH4, by rw [swp_len]; omega, by omega, hst, hp4, by rw [swp_len]; exact hln, (fun k hk => ?_), hT4⟩, ?_⟩
            · rw [List.getElem?_set, if_neg (by omega), List.getElem?_set, if_neg (by omega)]; exact hk9 k hk
            · rw [E.get 0 rfl]; simp only [intOf]; omega
    | true =>
      rw [hq36] at E
      exact absurd (of_decide_eq_true hq36) (by omega)
  | true =>
    rw [hq35] at E
    have hge : n ≤ 2 * i + 1 := by have := of_decide_eq_true hq35; omega
    refine env_skip (d := 19) (g := 3) (s := 18) E rfl (by decide) rfl rfl rfl (by decide) (E.get 0 rfl) fun a E => ?_
    refine env_skip (d := 20) (g := 3) (s := 18) E rfl (by decide) rfl rfl rfl (by decide) (E.get 1 rfl) fun a E => ?_
    refine env_put (d := 21) (v := .bool true) E rfl (by decide) rfl (wanted_none rfl _) (run_pick_t rfl (E.get 2 rfl) rfl) fun a E => ?_
    refine wpList_nil ?_
    refine then_n ?_
    refine wp_cond_true (E.get 0 rfl) ?_
    refine wp_exit ?_
    refine then_e ?_
    refine blk_x (by decide) ?_
    refine then_e ?_
    refine blk_e ?_
    refine then_n ?_
    refine wp_seq ?_
    refine wp_region_lit ?_
    refine env_put (d := 45) (v := .int .i64 (i : Int)) E rfl (by decide) rfl (wanted_none rfl _) (run_move rfl (E.get 12 rfl)) fun a E => ?_
    refine env_put (d := 46) (v := .int .i64 0) E rfl (by decide) rfl (wanted_none rfl _) (run_move rfl (E.get 16 rfl)) fun a E => ?_
    refine env_put (d := 47) (v := .bool (decide (0 < (i : Int)))) E rfl (by decide) rfl (wanted_none rfl _) (run_igtr (E.get 1 rfl) (E.get 0 rfl) Try.underlying3 rfl) fun a E => ?_
    refine env_set (d := 6) (v := .bool (decide (0 < (i : Int)))) E rfl (by decide) (wanted_none rfl _) (run_assign rfl (E.get 0 rfl)) fun a E => ?_
    refine wpList_nil ?_
    refine then_n ?_
    refine wp_ret ?_
    exact ret_tmp (t := 6) rfl E (E.get 0 rfl) ⟨⟨_, rfl⟩, X, hpm, hD.stop hge, hk9, hH, hT⟩
end Go.Proofs.Ytcafnanbdmapgaa
