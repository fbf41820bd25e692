/- The reference index: at, has. -/
import Derived.Test.YtcafnanbdmapgaaI3
set_option linter.unusedVariables false
set_option linter.unusedSimpArgs false
namespace Go.Proofs.Ytcafnanbdmapgaa
open Go.RowKit Go.Pl

/-- Where an Id is, or would be. -/
def atL (I : List ByteArray) (s : ByteArray) : Nat := (I.takeWhile fun x => Op.bytesLess x.toList s.toList).length
theorem atL_of {I : List ByteArray} {s : ByteArray} {i : Nat} (hi : i ≤ I.length) (h : ∀ (t : Nat) x, t < i → I[t]? = some x → Op.bytesLess x.toList s.toList = true) (h2 : I.length ≤ i ∨ ∃ x, I[i]? = some x ∧ Op.bytesLess x.toList s.toList = false) : atL I s = i := by
  unfold atL
  induction I generalizing i with
  | nil => simp at hi; subst hi; rfl
  | cons y I ih =>
    cases i with
    | zero =>
      rcases h2 with h2 | ⟨x, hx, hp⟩
      · simp at h2
      · simp at hx; subst hx; simp [hp]
    | succ i =>
      have hy := h 0 y (by omega) rfl
      rw [List.takeWhile_cons, if_pos hy, List.length_cons, ih (i := i) (by simpa using hi) (fun t x ht hx => h (t + 1) x (by omega) (by simpa using hx)) (by simpa using h2)]
theorem atL_le (I : List ByteArray) (s : ByteArray) : atL I s ≤ I.length := by unfold atL; exact (List.takeWhile_sublist _).length_le

set_option maxRecDepth 100000 in
set_option maxHeartbeats 4000000 in
theorem at_calls {w : World} {r : Nat} {σ : Nat → Prop} {I : List ByteArray} {J : List Bx} {iv bv : Value} (h : RIAt w r σ I J iv bv) (s0 : ByteArray) : Calls Try.prog 33 #[.pointer (some ⟨r, 0, none⟩), .string s0] w fun e w' => e = .returned (.int .i64 (atL I s0)) ∧ Fr (fun _ => False) w w' := by
  refine wp_start2 Try.func33 rfl rfl (n := 27) (by decide) fun a E => ?_
  have hf : Fr (fun _ => False) w w := Fr.refl _ _
  obtain ⟨p0, cp0, hv0, hle0, hcap0, hs0, hz0⟩ := h.isrc
  subst hv0
  refine wp_seq ?_
  refine wp_region_lit ?_
  refine env_put (d := 4) (v := .int .i64 0) E rfl (by decide) rfl (wanted_none rfl _) (run_assign rfl rfl) fun a E => ?_
  refine wpList_nil ?_
  refine then_n ?_
  refine wp_seq ?_
  refine wp_region_lit ?_
  refine env_put (d := 5) (v := .int .i64 0) E rfl (by decide) rfl (wanted_none rfl _) (run_assign rfl rfl) fun a E => ?_
  refine wpList_nil ?_
  refine then_n ?_
  refine wp_seq ?_
  refine wp_block ?_
  refine wp_loop (fun a w2 => ∃ (i : Nat), Env 27 [(5, .int .i64 (i : Int)), (0, .pointer (some ⟨r, 0, none⟩)), (1, .string s0)] a ∧ i ≤ I.length ∧ Hid (∀ (t : Nat) (z : ByteArray), t < i → I[t]? = some z → Op.bytesLess z.toList s0.toList = true) ∧ RIAt w2 r σ I J (.slice p0 I.length cp0) bv ∧ srcAt strC 1 w2 w.heap.size p0 I ∧ Fr (fun _ => False) w w2) (fun a _ => I.length - (intOf (a.eval (.tmp 5))).toNat) ?_ ?_
  · exact ⟨0, E.of ⟨E.get 0 rfl, E.get 2 rfl, E.get 3 rfl, trivial⟩, Nat.zero_le _, fun t z h => absurd h (Nat.not_lt_zero _), h, hs0, hf⟩
  clear E
  rintro a w2 ⟨i, E, hi, hpre, h, hs0, hf⟩
  have hmu : I.length - (intOf (a.eval (.tmp 5))).toNat = I.length - i := by rw [E.get 0 rfl]; first | (simp [intOf]; done) | (simp only [intOf]; omega)
  rw [hmu]
  clear hmu
  refine wp_seq ?_
  refine wp_seq ?_
  refine wp_region_lit ?_
  refine env_put (d := 6) (v := .int .i64 (i : Int)) E rfl (by decide) rfl (wanted_none rfl _) (run_move rfl (E.get 0 rfl)) fun a E => ?_
  refine env_put (d := 7) (v := .pointer (some ⟨r, 0, none⟩)) E rfl (by decide) rfl (wanted_none rfl _) (run_move rfl (E.get 2 rfl)) fun a E => ?_
  refine env_put (d := 8) (v := .pointer (some ⟨r, 0, none⟩)) E rfl (by decide) rfl (wanted_none rfl _) (run_nilchk rfl (E.get 0 rfl)) fun a E => ?_
  refine env_put (d := 9) (v := .pointer (some ⟨r, 0, none⟩)) E rfl (by decide) rfl (wanted_none rfl _) (fa64_0 rfl (E.get 0 rfl)) fun a E => ?_
  refine env_put (d := 10) (v := .slice (p0) I.length cp0) E rfl (by decide) rfl (wanted_none rfl _) (run_ld42 rfl (E.get 0 rfl) h.c0) fun a E => ?_
  refine env_put (d := 11) (v := .int .i64 (I.length : Int)) E rfl (by decide) rfl (wanted_none rfl _) (run_len42 rfl (E.get 0 rfl)) fun a E => ?_
  refine env_put (d := 12) (v := .bool (decide ((i : Int) < (I.length : Int)))) E rfl (by decide) rfl (wanted_none rfl _) (run_ilss (E.get 5 rfl) (E.get 0 rfl) Try.underlying3 rfl) fun a E => ?_
  refine env_put (d := 13) (v := .bool (decide ((i : Int) < (I.length : Int)))) E rfl (by decide) rfl (wanted_none rfl _) (run_move rfl (E.get 0 rfl)) fun a E => ?_
  cases hq2 : (decide ((i : Int) < (I.length : Int))) with
  | false =>
    rw [hq2] at E
    refine env_skip (d := 14) (g := 7) (s := 13) E rfl (by decide) rfl rfl rfl (by decide) (E.get 0 rfl) fun a E => ?_
    refine env_skip (d := 15) (g := 7) (s := 13) E rfl (by decide) rfl rfl rfl (by decide) (E.get 1 rfl) fun a E => ?_
    refine env_skip (d := 16) (g := 7) (s := 13) E rfl (by decide) rfl rfl rfl (by decide) (E.get 2 rfl) fun a E => ?_
    refine env_skip (d := 17) (g := 7) (s := 13) E rfl (by decide) rfl rfl rfl (by decide) (E.get 3 rfl) fun a E => ?_
    refine env_skip (d := 18) (g := 7) (s := 13) E rfl (by decide) rfl rfl rfl (by decide) (E.get 4 rfl) fun a E => ?_
    refine env_skip (d := 19) (g := 7) (s := 13) E rfl (by decide) rfl rfl rfl (by decide) (E.get 5 rfl) fun a E => ?_
    refine env_skip (d := 20) (g := 7) (s := 13) E rfl (by decide) rfl rfl rfl (by decide) (E.get 6 rfl) fun a E => ?_
    refine env_skip (d := 21) (g := 7) (s := 13) E rfl (by decide) rfl rfl rfl (by decide) (E.get 7 rfl) fun a E => ?_
    refine env_skip (d := 22) (g := 7) (s := 13) E rfl (by decide) rfl rfl rfl (by decide) (E.get 8 rfl) fun a E => ?_
    refine env_put (d := 23) (v := .bool false) E rfl (by decide) rfl (wanted_none rfl _) (run_pick_f rfl (E.get 9 rfl) rfl) fun a E => ?_
    refine wpList_nil ?_
    refine then_n ?_
    refine wp_cond_false (E.get 0 rfl) ?_
    refine wp_exit ?_
    refine then_e ?_
    refine then_e ?_
    refine blk_e ?_
    refine then_n ?_
    refine wp_seq ?_
    refine wp_region_lit ?_
    refine env_put (d := 26) (v := .int .i64 (i : Int)) E rfl (by decide) rfl (wanted_none rfl _) (run_move rfl (E.get 18 rfl)) fun a E => ?_
    refine env_put (d := 4) (v := .int .i64 (i : Int)) E rfl (by decide) rfl (wanted_none rfl _) (run_assign rfl (E.get 0 rfl)) fun a E => ?_
    refine wpList_nil ?_
    refine then_n ?_
    refine wp_ret ?_
    have hput := atL_of (s := s0) hi hpre.out (.inl (by have := of_decide_eq_false hq2; omega))
    exact ret_tmp (t := 4) rfl E (E.get 0 rfl) ⟨by rw [hput], hf⟩
  | true =>
    rw [hq2] at E
    have hlt : i < I.length := by have := of_decide_eq_true hq2; omega
    obtain ⟨y, hy⟩ : ∃ y, I[i]? = some y := ⟨_, List.getElem?_eq_getElem hlt⟩
    obtain ⟨g, off, hpe, hgl, hrow⟩ := hs0.at hlt
    replace hrow := hrow i y hy
    refine env_put (d := 14) (v := .pointer (some ⟨r, 0, none⟩)) E rfl (by decide) rfl (w_yes (g := 7) (s := 13) E rfl rfl (by decide) (E.get 0 rfl)) (run_move rfl (E.get 9 rfl)) fun a E => ?_
    refine env_put (d := 15) (v := .pointer (some ⟨r, 0, none⟩)) E rfl (by decide) rfl (w_yes (g := 7) (s := 13) E rfl rfl (by decide) (E.get 1 rfl)) (run_nilchk rfl (E.get 0 rfl)) fun a E => ?_
    refine env_put (d := 16) (v := .pointer (some ⟨r, 0, none⟩)) E rfl (by decide) rfl (w_yes (g := 7) (s := 13) E rfl rfl (by decide) (E.get 2 rfl)) (fa64_0 rfl (E.get 0 rfl)) fun a E => ?_
    refine env_put (d := 17) (v := .slice (p0) I.length cp0) E rfl (by decide) rfl (w_yes (g := 7) (s := 13) E rfl rfl (by decide) (E.get 3 rfl)) (run_ld42 rfl (E.get 0 rfl) h.c0) fun a E => ?_
    refine env_put (d := 18) (v := .int .i64 (i : Int)) E rfl (by decide) rfl (w_yes (g := 7) (s := 13) E rfl rfl (by decide) (E.get 4 rfl)) (run_move rfl (E.get 12 rfl)) fun a E => ?_
    refine env_put (d := 19) (v := .pointer (some ⟨g, (off + i), none⟩)) E rfl (by decide) rfl (w_yes (g := 7) (s := 13) E rfl rfl (by decide) (E.get 5 rfl)) (run_index42 (i := i) rfl ((E.get 1 rfl).trans (by rw [hpe])) (E.get 0 rfl) hlt) fun a E => ?_
    refine env_put (d := 20) (v := .string y) E rfl (by decide) rfl (w_yes (g := 7) (s := 13) E rfl rfl (by decide) (E.get 6 rfl)) (run_lds rfl (E.get 0 rfl) (str_at hrow)) fun a E => ?_
    refine env_put (d := 21) (v := .string s0) E rfl (by decide) rfl (w_yes (g := 7) (s := 13) E rfl rfl (by decide) (E.get 7 rfl)) (run_move rfl (E.get 17 rfl)) fun a E => ?_
    refine env_put (d := 22) (v := .bool (Op.bytesLess y.toList s0.toList)) E rfl (by decide) rfl (w_yes (g := 7) (s := 13) E rfl rfl (by decide) (E.get 8 rfl)) (run_slss (E.get 1 rfl) (E.get 0 rfl) rfl) fun a E => ?_
    refine env_put (d := 23) (v := .bool (Op.bytesLess y.toList s0.toList)) E rfl (by decide) rfl (wanted_none rfl _) (run_pick_t rfl (E.get 9 rfl) (E.get 0 rfl)) fun a E => ?_
    refine wpList_nil ?_
    refine then_n ?_
    cases hq3 : (Op.bytesLess y.toList s0.toList) with
    | false =>
      rw [hq3] at E
      refine wp_cond_false (E.get 0 rfl) ?_
      refine wp_exit ?_
      refine then_e ?_
      refine then_e ?_
      refine blk_e ?_
      refine then_n ?_
      refine wp_seq ?_
      refine wp_region_lit ?_
      refine env_put (d := 26) (v := .int .i64 (i : Int)) E rfl (by decide) rfl (wanted_none rfl _) (run_move rfl (E.get 18 rfl)) fun a E => ?_
      refine env_put (d := 4) (v := .int .i64 (i : Int)) E rfl (by decide) rfl (wanted_none rfl _) (run_assign rfl (E.get 0 rfl)) fun a E => ?_
      refine wpList_nil ?_
      refine then_n ?_
      refine wp_ret ?_
      have hput := atL_of (s := s0) hi hpre.out (.inr ⟨y, hy, hq3⟩)
      exact ret_tmp (t := 4) rfl E (E.get 0 rfl) ⟨by rw [hput], hf⟩
    | true =>
      rw [hq3] at E
      refine wp_cond_true (E.get 0 rfl) ?_
      refine wp_skip ?_
      refine then_n ?_
      refine wp_block ?_
      refine wp_region_lit ?_
      refine env_put (d := 24) (v := .int .i64 (i : Int)) E rfl (by decide) rfl (wanted_none rfl _) (run_move rfl (E.get 18 rfl)) fun a E => ?_
      refine env_put (d := 25) (v := .int .i64 ((i : Int) + 1)) E rfl (by decide) rfl (wanted_none rfl _) (run_iadd Try.underlying3 (E.get 0 rfl) rfl (by omega) (by omega) rfl) fun a E => ?_
      refine env_set (d := 5) (v := .int .i64 ((i : Int) + 1)) E rfl (by decide) (wanted_none rfl _) (run_assign rfl (E.get 0 rfl)) fun a E => ?_
      refine wpList_nil ?_
      refine blk_n ?_
      refine then_n ?_
      refine ⟨⟨i + 1, E.of ⟨E.get 0 rfl, E.get 21 rfl, E.get 22 rfl, trivial⟩, hlt, fun t z ht hz1 => ?_, h, hs0, hf⟩, ?_⟩
      · by_cases hti : t < i
        · exact hpre.out t z hti hz1
        · obtain rfl : t = i := by omega
          rw [hy] at hz1; obtain rfl := Option.some.inj hz1
          exact hq3
      · rw [E.get 0 rfl]; simp only [intOf]; omega
def hasL (I : List ByteArray) (s : ByteArray) : Bool := match I[atL I s]? with | some y => decide (y = s) | none => false
set_option maxRecDepth 100000 in
set_option maxHeartbeats 4000000 in
theorem hasx_calls {w : World} {r : Nat} {σ : Nat → Prop} {I : List ByteArray} {J : List Bx} {iv bv : Value} (h : RIAt w r σ I J iv bv) (s0 : ByteArray) : Calls Try.prog 32 #[.pointer (some ⟨r, 0, none⟩), .string s0] w fun e w' => e = .returned (.bool (hasL I s0)) ∧ Fr (fun _ => False) w w' := by
  refine wp_start2 Try.func32 rfl rfl (n := 27) (by decide) fun a E => ?_
  have hf : Fr (fun _ => False) w w := Fr.refl _ _
  obtain ⟨p0, cp0, hv0, hle0, hcap0, hs0, hz0⟩ := h.isrc
  subst hv0
  refine wp_seq ?_
  refine wp_region_lit ?_
  refine env_put (d := 4) (v := .bool false) E rfl (by decide) rfl (wanted_none rfl _) (run_assign rfl rfl) fun a E => ?_
  refine wpList_nil ?_
  refine then_n ?_
  refine wp_seq ?_
  refine wp_region_lit ?_
  refine env_put (d := 6) (v := .pointer (some ⟨r, 0, none⟩)) E rfl (by decide) rfl (wanted_none rfl _) (run_move rfl (E.get 1 rfl)) fun a E => ?_
  refine env_put (d := 7) (v := .string s0) E rfl (by decide) rfl (wanted_none rfl _) (run_move rfl (E.get 3 rfl)) fun a E => ?_
  refine env_call (d := 8) (v := .int .i64 (atL I s0 : Int)) E rfl (by decide) rfl (wanted_none rfl _) (run_call2 (enters_of Try.func33 (by kernel_rfl) rfl) rfl rfl (E.get 1 rfl) (E.get 0 rfl)) (at_calls h s0) fun a w1 f1 E => ?_
  have h := RIAt.fr h f1 (fun _ _ h => h)
  have hs0 := hs0.fr f1 (fun _ _ h => h)
  have hf := hf.trans f1
  clear f1
  refine env_put (d := 5) (v := .int .i64 (atL I s0 : Int)) E rfl (by decide) rfl (wanted_none rfl _) (run_assign rfl (E.get 0 rfl)) fun a E => ?_
  refine wpList_nil ?_
  refine then_n ?_
  refine wp_seq ?_
  refine wp_region_lit ?_
  refine env_put (d := 9) (v := .int .i64 (atL I s0 : Int)) E rfl (by decide) rfl (wanted_none rfl _) (run_move rfl (E.get 0 rfl)) fun a E => ?_
  refine env_put (d := 10) (v := .pointer (some ⟨r, 0, none⟩)) E rfl (by decide) rfl (wanted_none rfl _) (run_move rfl (E.get 6 rfl)) fun a E => ?_
  refine env_put (d := 11) (v := .pointer (some ⟨r, 0, none⟩)) E rfl (by decide) rfl (wanted_none rfl _) (run_nilchk rfl (E.get 0 rfl)) fun a E => ?_
  refine env_put (d := 12) (v := .pointer (some ⟨r, 0, none⟩)) E rfl (by decide) rfl (wanted_none rfl _) (fa64_0 rfl (E.get 0 rfl)) fun a E => ?_
  refine env_put (d := 13) (v := .slice (p0) I.length cp0) E rfl (by decide) rfl (wanted_none rfl _) (run_ld42 rfl (E.get 0 rfl) h.c0) fun a E => ?_
  refine env_put (d := 14) (v := .int .i64 (I.length : Int)) E rfl (by decide) rfl (wanted_none rfl _) (run_len42 rfl (E.get 0 rfl)) fun a E => ?_
  refine env_put (d := 15) (v := .bool (decide ((atL I s0 : Int) < (I.length : Int)))) E rfl (by decide) rfl (wanted_none rfl _) (run_ilss (E.get 5 rfl) (E.get 0 rfl) Try.underlying3 rfl) fun a E => ?_
  refine env_put (d := 16) (v := .bool (decide ((atL I s0 : Int) < (I.length : Int)))) E rfl (by decide) rfl (wanted_none rfl _) (run_move rfl (E.get 0 rfl)) fun a E => ?_
  cases hq4 : (decide ((atL I s0 : Int) < (I.length : Int))) with
  | false =>
    rw [hq4] at E
    refine env_skip (d := 17) (g := 7) (s := 16) E rfl (by decide) rfl rfl rfl (by decide) (E.get 0 rfl) fun a E => ?_
    refine env_skip (d := 18) (g := 7) (s := 16) E rfl (by decide) rfl rfl rfl (by decide) (E.get 1 rfl) fun a E => ?_
    refine env_skip (d := 19) (g := 7) (s := 16) E rfl (by decide) rfl rfl rfl (by decide) (E.get 2 rfl) fun a E => ?_
    refine env_skip (d := 20) (g := 7) (s := 16) E rfl (by decide) rfl rfl rfl (by decide) (E.get 3 rfl) fun a E => ?_
    refine env_skip (d := 21) (g := 7) (s := 16) E rfl (by decide) rfl rfl rfl (by decide) (E.get 4 rfl) fun a E => ?_
    refine env_skip (d := 22) (g := 7) (s := 16) E rfl (by decide) rfl rfl rfl (by decide) (E.get 5 rfl) fun a E => ?_
    refine env_skip (d := 23) (g := 7) (s := 16) E rfl (by decide) rfl rfl rfl (by decide) (E.get 6 rfl) fun a E => ?_
    refine env_skip (d := 24) (g := 7) (s := 16) E rfl (by decide) rfl rfl rfl (by decide) (E.get 7 rfl) fun a E => ?_
    refine env_skip (d := 25) (g := 7) (s := 16) E rfl (by decide) rfl rfl rfl (by decide) (E.get 8 rfl) fun a E => ?_
    refine env_put (d := 26) (v := .bool false) E rfl (by decide) rfl (wanted_none rfl _) (run_pick_f rfl (E.get 9 rfl) rfl) fun a E => ?_
    refine env_set (d := 4) (v := .bool false) E rfl (by decide) (wanted_none rfl _) (run_assign rfl (E.get 0 rfl)) fun a E => ?_
    refine wpList_nil ?_
    refine then_n ?_
    refine wp_ret ?_
    refine ret_tmp (t := 4) rfl E (E.get 0 rfl) ⟨?_, hf⟩
    unfold hasL; rw [List.getElem?_eq_none (by have := of_decide_eq_false hq4; omega)]
  | true =>
    rw [hq4] at E
    have hlt : atL I s0 < I.length := by have := of_decide_eq_true hq4; omega
    obtain ⟨y, hy⟩ : ∃ y, I[atL I s0]? = some y := ⟨_, List.getElem?_eq_getElem hlt⟩
    obtain ⟨g, off, hpe, hgl, hrow⟩ := hs0.at hlt
    replace hrow := hrow _ y hy
    refine env_put (d := 17) (v := .pointer (some ⟨r, 0, none⟩)) E rfl (by decide) rfl (w_yes (g := 7) (s := 16) E rfl rfl (by decide) (E.get 0 rfl)) (run_move rfl (E.get 13 rfl)) fun a E => ?_
    refine env_put (d := 18) (v := .pointer (some ⟨r, 0, none⟩)) E rfl (by decide) rfl (w_yes (g := 7) (s := 16) E rfl rfl (by decide) (E.get 1 rfl)) (run_nilchk rfl (E.get 0 rfl)) fun a E => ?_
    refine env_put (d := 19) (v := .pointer (some ⟨r, 0, none⟩)) E rfl (by decide) rfl (w_yes (g := 7) (s := 16) E rfl rfl (by decide) (E.get 2 rfl)) (fa64_0 rfl (E.get 0 rfl)) fun a E => ?_
    refine env_put (d := 20) (v := .slice (p0) I.length cp0) E rfl (by decide) rfl (w_yes (g := 7) (s := 16) E rfl rfl (by decide) (E.get 3 rfl)) (run_ld42 rfl (E.get 0 rfl) h.c0) fun a E => ?_
    refine env_put (d := 21) (v := .int .i64 (atL I s0 : Int)) E rfl (by decide) rfl (w_yes (g := 7) (s := 16) E rfl rfl (by decide) (E.get 4 rfl)) (run_move rfl (E.get 12 rfl)) fun a E => ?_
    refine env_put (d := 22) (v := .pointer (some ⟨g, (off + (atL I s0)), none⟩)) E rfl (by decide) rfl (w_yes (g := 7) (s := 16) E rfl rfl (by decide) (E.get 5 rfl)) (run_index42 (i := (atL I s0)) rfl ((E.get 1 rfl).trans (by rw [hpe])) (E.get 0 rfl) hlt) fun a E => ?_
    refine env_put (d := 23) (v := .string y) E rfl (by decide) rfl (w_yes (g := 7) (s := 16) E rfl rfl (by decide) (E.get 6 rfl)) (run_lds rfl (E.get 0 rfl) (str_at hrow)) fun a E => ?_
    refine env_put (d := 24) (v := .string s0) E rfl (by decide) rfl (w_yes (g := 7) (s := 16) E rfl rfl (by decide) (E.get 7 rfl)) (run_move rfl (E.get 21 rfl)) fun a E => ?_
    refine env_put (d := 25) (v := .bool (decide (y = s0))) E rfl (by decide) rfl (w_yes (g := 7) (s := 16) E rfl rfl (by decide) (E.get 8 rfl)) (run_seql (E.get 1 rfl) (E.get 0 rfl) rfl) fun a E => ?_
    refine env_put (d := 26) (v := .bool (decide (y = s0))) E rfl (by decide) rfl (wanted_none rfl _) (run_pick_t rfl (E.get 9 rfl) (E.get 0 rfl)) fun a E => ?_
    refine env_set (d := 4) (v := .bool (decide (y = s0))) E rfl (by decide) (wanted_none rfl _) (run_assign rfl (E.get 0 rfl)) fun a E => ?_
    refine wpList_nil ?_
    refine then_n ?_
    refine wp_ret ?_
    refine ret_tmp (t := 4) rfl E (E.get 0 rfl) ⟨?_, hf⟩
    unfold hasL; rw [hy]
end Go.Proofs.Ytcafnanbdmapgaa
