/- Coordinates that are allowed, through slices.ContainsFunc. -/
import Derived.Test.YtcafnanbdmapgaaJ1
set_option linter.unusedVariables false
set_option linter.unusedSimpArgs false
namespace Go.Proofs.Ytcafnanbdmapgaa
open Go.RowKit Go.Pl

theorem run_callf1 {P : Program} {o : Oper} {w : World} {ρ : Operand → Value} {f : FuncId} {ts : Array TypeId} {x y : Operand} {v : Value} (eg : ∀ args w, (callFunc f args).run P w = .ok (.enter f args) w) (ho : o.op = .call ⟨.value y, #[x], ts⟩) (hf : ρ y = .func (.func f) #[] #[]) (hx : ρ x = v) : (execOp ρ o).run P w = .ok (.enter f #[v]) w := by
  simp [execOp, ho, hf, hx, eg, resolve, Deferred.ofValue, invoke, go_sem]
/-- Where the first coordinate is that is not allowed. -/
def ixF (ns : List Int) : Int := if ns.all fun n => decide (isI n) then -1 else ((ns.takeWhile fun n => decide (isI n)).length : Int)
theorem ixF_none {ns : List Int} (h : ∀ (t : Nat) n, t < ns.length → ns[t]? = some n → isI n) : ixF ns = -1 := by
  unfold ixF
  rw [if_pos]
  rw [List.all_eq_true]
  intro n hn
  obtain ⟨t, ht⟩ := List.mem_iff_getElem?.1 hn
  exact decide_eq_true (h t n (List.getElem?_eq_some_iff.1 ht).1 ht)
theorem tw_ix {ns : List Int} {i : Nat} {m : Int} (h : ∀ (t : Nat) n, t < i → ns[t]? = some n → isI n) (hm : ns[i]? = some m) (h2 : ¬ isI m) : (ns.takeWhile fun n => decide (isI n)).length = i := by
  induction ns generalizing i with
  | nil => simp at hm
  | cons y ns ih =>
    cases i with
    | zero => simp at hm; subst hm; simp [h2]
    | succ i =>
      have hy := h 0 y (by omega) rfl
      rw [List.takeWhile_cons, if_pos (decide_eq_true hy), List.length_cons, ih (i := i) (fun t x ht hx => h (t + 1) x (by omega) (by simpa using hx)) (by simpa using hm)]
theorem ixF_some {ns : List Int} {i : Nat} {m : Int} (h : ∀ (t : Nat) n, t < i → ns[t]? = some n → isI n) (hm : ns[i]? = some m) (h2 : ¬ isI m) : ixF ns = i := by
  unfold ixF
  rw [if_neg, tw_ix h hm h2]
  rw [List.all_eq_true]
  intro h3
  exact h2 (of_decide_eq_true (h3 m (List.mem_of_getElem? hm)))
theorem ixF_ok (ns : List Int) : decide ((0 : Int) ≤ ixF ns) = !(ns.all fun n => decide (isI n)) := by
  unfold ixF
  cases h : ns.all fun n => decide (isI n) with
  | true => simp
  | false => simp

set_option maxRecDepth 100000 in
set_option maxHeartbeats 4000000 in
theorem bad_calls (n : Int) (w : World) : Calls Try.prog 46 #[.int .i64 n] w fun e w' => e = .returned (.bool (decide (¬ isI n))) ∧ Fr (fun _ => False) w w' := by
  refine wp_start1 Try.func46 rfl rfl (n := 9) (by decide) fun a E => ?_
  have hf : Fr (fun _ => False) w w := Fr.refl _ _
  refine wp_seq ?_
  refine wp_region_lit ?_
  refine env_put (d := 2) (v := .bool false) E rfl (by decide) rfl (wanted_none rfl _) (run_assign rfl rfl) fun a E => ?_
  refine wpList_nil ?_
  refine then_n ?_
  refine wp_seq ?_
  refine wp_region_lit ?_
  refine env_put (d := 3) (v := .int .i64 n) E rfl (by decide) rfl (wanted_none rfl _) (run_move rfl (E.get 1 rfl)) fun a E => ?_
  refine env_put (d := 4) (v := .bool (decide (n < (-2097152)))) E rfl (by decide) rfl (wanted_none rfl _) (run_ilss (E.get 0 rfl) rfl Try.underlying3 rfl) fun a E => ?_
  refine env_put (d := 5) (v := .bool (decide (n < (-2097152)))) E rfl (by decide) rfl (wanted_none rfl _) (run_move rfl (E.get 0 rfl)) fun a E => ?_
  cases hq31 : (decide (n < (-2097152))) with
  | false =>
    rw [hq31] at E
    refine env_put (d := 6) (v := .int .i64 n) E rfl (by decide) rfl (w_yes (g := 2) (s := 5) E rfl rfl (by decide) (E.get 0 rfl)) (run_move rfl (E.get 4 rfl)) fun a E => ?_
    refine env_put (d := 7) (v := .bool (decide (2097152 < n))) E rfl (by decide) rfl (w_yes (g := 2) (s := 5) E rfl rfl (by decide) (E.get 1 rfl)) (run_igtr (E.get 0 rfl) rfl Try.underlying3 rfl) fun a E => ?_
    refine env_put (d := 8) (v := .bool (decide (2097152 < n))) E rfl (by decide) rfl (wanted_none rfl _) (run_pick_f rfl (E.get 2 rfl) (E.get 0 rfl)) fun a E => ?_
    refine env_set (d := 2) (v := .bool (decide (2097152 < n))) E rfl (by decide) (wanted_none rfl _) (run_assign rfl (E.get 0 rfl)) fun a E => ?_
    refine wpList_nil ?_
    refine then_n ?_
    refine wp_ret ?_
    refine ret_tmp (t := 2) rfl E (E.get 0 rfl) ⟨?_, hf⟩
    have khq31 := of_decide_eq_false hq31
    congr 2
    exact decide_eq_decide.2 (by unfold isI; omega)
  | true =>
    rw [hq31] at E
    refine env_skip (d := 6) (g := 2) (s := 5) E rfl (by decide) rfl rfl rfl (by decide) (E.get 0 rfl) fun a E => ?_
    refine env_skip (d := 7) (g := 2) (s := 5) E rfl (by decide) rfl rfl rfl (by decide) (E.get 1 rfl) fun a E => ?_
    refine env_put (d := 8) (v := .bool true) E rfl (by decide) rfl (wanted_none rfl _) (run_pick_t rfl (E.get 2 rfl) rfl) fun a E => ?_
    refine env_set (d := 2) (v := .bool true) E rfl (by decide) (wanted_none rfl _) (run_assign rfl (E.get 0 rfl)) fun a E => ?_
    refine wpList_nil ?_
    refine then_n ?_
    refine wp_ret ?_
    refine ret_tmp (t := 2) rfl E (E.get 0 rfl) ⟨?_, hf⟩
    have khq31 := of_decide_eq_true hq31
    congr 2
    exact (decide_eq_true (by unfold isI; omega)).symm
set_option maxRecDepth 100000 in
set_option maxHeartbeats 4000000 in
theorem ixf_calls {w : World} {G cap : Nat} {p : Option Addr} {ns : List Int} (hs : srcAt inC 1 w G p ns) (hb : ns.length ≤ 100000) : Calls Try.prog 52 #[.slice p ns.length cap, .func (.func 46) #[] #[]] w fun e w' => e = .returned (.int .i64 (ixF ns)) ∧ Fr (fun _ => False) w w' := by
  refine wp_start2 Try.func52 rfl rfl (n := 19) (by decide) fun a E => ?_
  have hf : Fr (fun _ => False) w w := Fr.refl _ _
  refine wp_seq ?_
  refine wp_region_lit ?_
  refine env_put (d := 4) (v := .int .i64 0) E rfl (by decide) rfl (wanted_none rfl _) (run_assign rfl rfl) fun a E => ?_
  refine wpList_nil ?_
  refine then_n ?_
  refine wp_seq ?_
  refine wp_seq ?_
  refine wp_region_lit ?_
  refine env_put (d := 6) (v := .slice (p) ns.length cap) E rfl (by decide) rfl (wanted_none rfl _) (run_move rfl (E.get 1 rfl)) fun a E => ?_
  refine env_put (d := 7) (v := .int .i64 (ns.length : Int)) E rfl (by decide) rfl (wanted_none rfl _) (run_len87 rfl (E.get 0 rfl)) fun a E => ?_
  refine env_put (d := 8) (v := .int .i64 0) E rfl (by decide) rfl (wanted_none rfl _) (run_move rfl rfl) fun a E => ?_
  refine wpList_nil ?_
  refine then_n ?_
  refine wp_block ?_
  refine wp_loop (fun a w2 => ∃ (i : Nat), Env 19 [(8, .int .i64 (i : Int)), (7, .int .i64 (ns.length : Int)), (0, .slice (p) ns.length cap), (1, (.func (.func 46) #[] #[]))] a ∧ i ≤ ns.length ∧ Hid (∀ (t : Nat) (z : Int), t < i → ns[t]? = some z → isI z) ∧ srcAt inC 1 w2 G p ns ∧ Fr (fun _ => False) w w2) (fun a _ => ns.length - (intOf (a.eval (.tmp 8))).toNat) ?_ ?_
  · exact ⟨0, E.of ⟨E.get 0 rfl, E.get 1 rfl, E.get 4 rfl, E.get 5 rfl, trivial⟩, Nat.zero_le _, fun t z h => absurd h (Nat.not_lt_zero _), hs, hf⟩
  clear E
  rintro a w2 ⟨i, E, hi, hpre, hs, hf⟩
  have hmu : ns.length - (intOf (a.eval (.tmp 8))).toNat = ns.length - i := by rw [E.get 0 rfl]; first | (simp [intOf]; done) | (simp only [intOf]; omega)
  rw [hmu]
  clear hmu
  refine wp_seq ?_
  refine wp_region_lit ?_
  refine env_put (d := 9) (v := .bool (decide ((i : Int) < (ns.length : Int)))) E rfl (by decide) rfl (wanted_none rfl _) (run_ilss (E.get 0 rfl) (E.get 1 rfl) Try.underlying3 rfl) fun a E => ?_
  refine wpList_nil ?_
  refine then_n ?_
  refine wp_seq ?_
  cases hq33 : (decide ((i : Int) < (ns.length : Int))) with
  | false =>
    rw [hq33] at E
    refine wp_cond_false (E.get 0 rfl) ?_
    refine wp_exit ?_
    refine then_e ?_
    refine then_e ?_
    refine blk_e ?_
    refine then_n ?_
    refine wp_seq ?_
    refine wp_region_lit ?_
    refine env_put (d := 4) (v := .int .i64 (-1)) E rfl (by decide) rfl (wanted_none rfl _) (run_assign rfl rfl) fun a E => ?_
    refine wpList_nil ?_
    refine then_n ?_
    refine wp_ret ?_
    have hr := ixF_none (ns := ns) fun t n ht hn => hpre.out t n (by have := of_decide_eq_false hq33; omega) hn
    exact ret_tmp (t := 4) rfl E (E.get 0 rfl) ⟨by rw [hr], hf⟩
  | true =>
    rw [hq33] at E
    have hlt : i < ns.length := by have := of_decide_eq_true hq33; omega
    obtain ⟨y, hy⟩ : ∃ y, ns[i]? = some y := ⟨_, List.getElem?_eq_getElem hlt⟩
    obtain ⟨g, off, hpe, hgl, hrow⟩ := hs.at hlt
    replace hrow := hrow i y hy
    refine wp_cond_true (E.get 0 rfl) ?_
    refine wp_skip ?_
    refine then_n ?_
    refine wp_seq ?_
    refine wp_block ?_
    refine wp_seq ?_
    refine wp_region_lit ?_
    refine env_put (d := 10) (v := .int .i64 (i : Int)) E rfl (by decide) rfl (wanted_none rfl _) (run_move rfl (E.get 1 rfl)) fun a E => ?_
    refine env_put (d := 5) (v := .int .i64 (i : Int)) E rfl (by decide) rfl (wanted_none rfl _) (run_assign rfl (E.get 0 rfl)) fun a E => ?_
    refine wpList_nil ?_
    refine then_n ?_
    refine wp_seq ?_
    refine wp_region_lit ?_
    refine env_put (d := 11) (v := (.func (.func 46) #[] #[])) E rfl (by decide) rfl (wanted_none rfl _) (run_move rfl (E.get 6 rfl)) fun a E => ?_
    refine env_put (d := 12) (v := .slice (p) ns.length cap) E rfl (by decide) rfl (wanted_none rfl _) (run_move rfl (E.get 6 rfl)) fun a E => ?_
    refine env_put (d := 13) (v := .int .i64 (i : Int)) E rfl (by decide) rfl (wanted_none rfl _) (run_move rfl (E.get 2 rfl)) fun a E => ?_
    refine env_put (d := 14) (v := .pointer (some ⟨g, (off + i), none⟩)) E rfl (by decide) rfl (wanted_none rfl _) (run_index87 (i := i) rfl ((E.get 1 rfl).trans (by rw [hpe])) (E.get 0 rfl) hlt) fun a E => ?_
    refine env_put (d := 15) (v := .int .i64 y) E rfl (by decide) rfl (wanted_none rfl _) (run_ldi rfl (E.get 0 rfl) (int_at hrow)) fun a E => ?_
    refine env_call (d := 16) (v := .bool (decide (¬ isI y))) E rfl (by decide) rfl (wanted_none rfl _) (run_callf1 (enters_of Try.func46 (by kernel_rfl) rfl) rfl (E.get 4 rfl) (E.get 0 rfl)) (bad_calls _ _) fun a w1 f1 E => ?_
    have hs := hs.fr f1 (fun _ _ h => h)
    have hf := hf.trans f1
    clear f1
    refine wpList_nil ?_
    refine then_n ?_
    cases hq34 : (decide (¬ isI y)) with
    | false =>
      rw [hq34] at E
      refine wp_cond_false (E.get 0 rfl) ?_
      refine wp_skip ?_
      refine blk_n ?_
      refine then_n ?_
      refine wp_region_lit ?_
      refine env_put (d := 18) (v := .int .i64 ((i : Int) + 1)) E rfl (by decide) rfl (wanted_none rfl _) (run_iadd Try.underlying3 (E.get 9 rfl) rfl (by omega) (by omega) rfl) fun a E => ?_
      refine env_set (d := 8) (v := .int .i64 ((i : Int) + 1)) E rfl (by decide) (wanted_none rfl _) (run_move rfl (E.get 0 rfl)) fun a E => ?_
      refine wpList_nil ?_
      refine then_n ?_
      refine ⟨⟨i + 1, E.of ⟨E.get 0 rfl, E.get 11 rfl, E.get 12 rfl, E.get 13 rfl, trivial⟩, hlt, fun t z ht hz1 => ?_, hs, hf⟩, ?_⟩
      · by_cases hti : t < i
        · exact hpre.out t z hti hz1
        · obtain rfl : t = i := by omega
          rw [hy] at hz1; obtain rfl := Option.some.inj hz1
          exact Decidable.not_not.1 (of_decide_eq_false hq34)
      · rw [E.get 0 rfl]; simp only [intOf]; omega
    | true =>
      rw [hq34] at E
      refine wp_cond_true (E.get 0 rfl) ?_
      refine wp_seq ?_
      refine wp_region_lit ?_
      refine env_put (d := 17) (v := .int .i64 (i : Int)) E rfl (by decide) rfl (wanted_none rfl _) (run_move rfl (E.get 6 rfl)) fun a E => ?_
      refine env_put (d := 4) (v := .int .i64 (i : Int)) E rfl (by decide) rfl (wanted_none rfl _) (run_assign rfl (E.get 0 rfl)) fun a E => ?_
      refine wpList_nil ?_
      refine then_n ?_
      refine wp_ret ?_
      refine blk_r ?_
      refine then_r ?_
      refine then_r ?_
      refine blk_r ?_
      refine then_r ?_
      have hr := ixF_some (ns := ns) hpre.out hy (of_decide_eq_true hq34)
      exact ret_tmp (t := 4) rfl E (E.get 0 rfl) ⟨by rw [hr], hf⟩
set_option maxRecDepth 100000 in
set_option maxHeartbeats 4000000 in
theorem cf_calls {w : World} {G cap : Nat} {p : Option Addr} {ns : List Int} (hs : srcAt inC 1 w G p ns) (hb : ns.length ≤ 100000) : Calls Try.prog 45 #[.slice p ns.length cap, .func (.func 46) #[] #[]] w fun e w' => e = .returned (.bool (!(ns.all fun n => decide (isI n)))) ∧ Fr (fun _ => False) w w' := by
  refine wp_start2 Try.func45 rfl rfl (n := 9) (by decide) fun a E => ?_
  have hf : Fr (fun _ => False) w w := Fr.refl _ _
  refine wp_seq ?_
  refine wp_region_lit ?_
  refine env_put (d := 4) (v := .bool false) E rfl (by decide) rfl (wanted_none rfl _) (run_assign rfl rfl) fun a E => ?_
  refine wpList_nil ?_
  refine then_n ?_
  refine wp_seq ?_
  refine wp_region_lit ?_
  refine env_put (d := 5) (v := .slice (p) ns.length cap) E rfl (by decide) rfl (wanted_none rfl _) (run_move rfl (E.get 1 rfl)) fun a E => ?_
  refine env_put (d := 6) (v := (.func (.func 46) #[] #[])) E rfl (by decide) rfl (wanted_none rfl _) (run_move rfl (E.get 3 rfl)) fun a E => ?_
  refine env_call (d := 7) (v := .int .i64 (ixF ns)) E rfl (by decide) rfl (wanted_none rfl _) (run_call2 (enters_of Try.func52 (by kernel_rfl) rfl) rfl rfl (E.get 1 rfl) (E.get 0 rfl)) (ixf_calls hs hb) fun a w1 f1 E => ?_
  have hs := hs.fr f1 (fun _ _ h => h)
  have hf := hf.trans f1
  clear f1
  refine env_put (d := 8) (v := .bool (decide (0 ≤ (ixF ns)))) E rfl (by decide) rfl (wanted_none rfl _) (run_igeq (E.get 0 rfl) rfl Try.underlying3 rfl) fun a E => ?_
  refine env_set (d := 4) (v := .bool (decide (0 ≤ (ixF ns)))) E rfl (by decide) (wanted_none rfl _) (run_assign rfl (E.get 0 rfl)) fun a E => ?_
  refine wpList_nil ?_
  refine then_n ?_
  refine wp_ret ?_
  exact ret_tmp (t := 4) rfl E (E.get 0 rfl) ⟨by rw [ixF_ok], hf⟩
set_option maxRecDepth 100000 in
set_option maxHeartbeats 4000000 in
theorem val_calls {w : World} {G cap : Nat} {p : Option Addr} {ns : List Int} (hs : srcAt inC 1 w G p ns) (hb : ns.length ≤ 100000) : Calls Try.prog 34 #[.slice p ns.length cap] w fun e w' => e = .returned (.bool (ns.all fun n => decide (isI n))) ∧ Fr (fun _ => False) w w' := by
  refine wp_start1 Try.func34 rfl rfl (n := 6) (by decide) fun a E => ?_
  have hf : Fr (fun _ => False) w w := Fr.refl _ _
  refine wp_seq ?_
  refine wp_region_lit ?_
  refine env_put (d := 2) (v := .bool false) E rfl (by decide) rfl (wanted_none rfl _) (run_assign rfl rfl) fun a E => ?_
  refine wpList_nil ?_
  refine then_n ?_
  refine wp_seq ?_
  refine wp_region_lit ?_
  refine env_put (d := 3) (v := .slice (p) ns.length cap) E rfl (by decide) rfl (wanted_none rfl _) (run_move rfl (E.get 1 rfl)) fun a E => ?_
  refine env_call (d := 4) (v := .bool (!(ns.all fun n => decide (isI n)))) E rfl (by decide) rfl (wanted_none rfl _) (run_call2 (enters_of Try.func45 (by kernel_rfl) rfl) rfl rfl (E.get 0 rfl) rfl) (cf_calls hs hb) fun a w1 f1 E => ?_
  have hs := hs.fr f1 (fun _ _ h => h)
  have hf := hf.trans f1
  clear f1
  refine env_put (d := 5) (v := .bool (!(!(ns.all fun n => decide (isI n))))) E rfl (by decide) rfl (wanted_none rfl _) (run_not rfl (E.get 0 rfl)) fun a E => ?_
  refine env_set (d := 2) (v := .bool (!(!(ns.all fun n => decide (isI n))))) E rfl (by decide) (wanted_none rfl _) (run_assign rfl (E.get 0 rfl)) fun a E => ?_
  refine wpList_nil ?_
  refine then_n ?_
  refine wp_ret ?_
  exact ret_tmp (t := 2) rfl E (E.get 0 rfl) ⟨by rw [Bool.not_not], hf⟩
end Go.Proofs.Ytcafnanbdmapgaa
