/- The laws of the index: IndexInside. -/
import Derived.Test.YtcafnanbdmapgaaO4
set_option linter.unusedVariables false
set_option linter.unusedSimpArgs false
namespace Go.Proofs.Ytcafnanbdmapgaa
open Go.RowKit Go.Pl

/-- Cells that no index owns. -/
def Kw (w : World) (T : Nat → Prop) (b : Nat) (cs : Array Value) (ty : TypeId) : Prop := w.heap[b]? = some (.cells cs ty (0, 0)) ∧ ¬ T b
theorem Kw.q {w w' : World} {T T' : Nat → Prop} {b : Nat} {cs : Array Value} {ty : TypeId} (h : Kw w T b cs ty) (hf : Fr T w w') (ht : TT w T T') : Kw w' T' b cs ty := by
  refine ⟨hf.obj h.1 h.2, fun k => ?_⟩
  rcases ht b k with h1 | h1
  · exact h.2 h1
  · have := lt_of_blk h.1; omega
theorem Kw.fr {w w' : World} {T : Nat → Prop} {b : Nat} {cs : Array Value} {ty : TypeId} (h : Kw w T b cs ty) (hf : Fr (fun _ => False) w w') : Kw w' T b cs ty := h.q (hf.mono fun _ _ h => h.elim) (TT.refl _ _)
theorem op_rng {w : World} {b : Nat} {o : Wo} (h : w.heap[b]? = some (.cells (opC o) 35 (0, 0))) : w.rangeAt b 0 (opL o) := by
  intro j v hv
  rw [cell_of_blk h, Nat.zero_add]
  match j, hv with
  | 0, hv => exact hv
  | 1, hv => exact hv
  | 2, hv => exact hv
  | 3, hv => exact hv
  | 4, hv => exact hv
  | 5, hv => exact hv
  | j + 6, hv => simp at hv

set_option maxRecDepth 100000 in
set_option maxHeartbeats 16000000 in
theorem inside_calls {w : World} {cap : Nat} {p : Option Addr} {l : List Wo} (hs : srcAt opL 6 w w.heap.size p l) (hb : l.length ≤ 9223372036854775807) (a0 b : Bx) : Calls Try.prog 7 #[.slice p l.length cap, .agg (bxC a0), .agg (bxC b)] w fun e w' => e = .returned (.bool true) ∧ Fr (fun _ => False) w w' := by
  refine wp_start3 Try.func7 rfl rfl (n := 117) (by decide) fun a E => ?_
  have hf : Fr (fun _ => False) w w := Fr.refl _ _
  refine wp_seq ?_
  refine wp_region_lit ?_
  have hTl := (fun k hk => hk.elim : ∀ k, (fun _ : Nat => False) k → k < w.heap.size)
  refine env_box26 (d := 4) E rfl (by decide) rfl (wanted_none rfl _) rfl (E.get 1 rfl) fun a w1 b38 eb38 hb38 f1 E => ?_
  have hcb38 : Cw w1 (fun _ => False) b38 a0 := ⟨hb38, fun ht => by have := hTl b38 ht; omega⟩
  have hs := hs.fr f1 (fun _ _ h => h)
  have hf := hf.trans f1
  clear f1
  clear hb38 hTl eb38
  have hTl := (fun k hk => hk.elim : ∀ k, (fun _ : Nat => False) k → k < w1.heap.size)
  refine env_box26 (d := 5) E rfl (by decide) rfl (wanted_none rfl _) rfl (E.get 3 rfl) fun a w1 b39 eb39 hb39 f1 E => ?_
  have hcb39 : Cw w1 (fun _ => False) b39 b := ⟨hb39, fun ht => by have := hTl b39 ht; omega⟩
  have hs := hs.fr f1 (fun _ _ h => h)
  have hcb38 := hcb38.fr f1
  have hf := hf.trans f1
  clear f1
  clear hb39 hTl eb39
  refine env_put (d := 6) (v := .bool false) E rfl (by decide) rfl (wanted_none rfl _) (run_assign rfl rfl) fun a E => ?_
  refine wpList_nil ?_
  refine then_n ?_
  refine wp_seq ?_
  refine wp_region_lit ?_
  refine env_call (d := 15) (v := .bool true) E rfl (by decide) rfl (wanted_none rfl _) (run_call0 (enters_of Try.func9 (by kernel_rfl) rfl) rfl rfl) (head_calls _) fun a w1 f1 E => ?_
  have hs := hs.fr f1 (fun _ _ h => h)
  have hcb38 := hcb38.fr f1
  have hcb39 := hcb39.fr f1
  have hf := hf.trans f1
  clear f1
  refine env_put (d := 7) (v := .bool true) E rfl (by decide) rfl (wanted_none rfl _) (run_assign rfl (E.get 0 rfl)) fun a E => ?_
  refine wpList_nil ?_
  refine then_n ?_
  refine wp_seq ?_
  refine wp_seq ?_
  refine wp_region_lit ?_
  refine env_put (d := 16) (v := .slice (p) l.length cap) E rfl (by decide) rfl (wanted_none rfl _) (run_move rfl (E.get 5 rfl)) fun a E => ?_
  refine env_call (d := 17) (v := .bool (shB l 80)) E rfl (by decide) rfl (wanted_none rfl _) (run_call2 (enters_of Try.func10 (by kernel_rfl) rfl) rfl rfl (E.get 0 rfl) rfl) (short_calls hs hb 80) fun a w1 f1 E => ?_
  have hs := hs.fr f1 (fun _ _ h => h)
  have hcb38 := hcb38.fr f1
  have hcb39 := hcb39.fr f1
  have hf := hf.trans f1
  clear f1
  refine env_put (d := 18) (v := .bool (!(shB l 80))) E rfl (by decide) rfl (wanted_none rfl _) (run_not rfl (E.get 0 rfl)) fun a E => ?_
  refine env_put (d := 19) (v := .bool (!(shB l 80))) E rfl (by decide) rfl (wanted_none rfl _) (run_move rfl (E.get 0 rfl)) fun a E => ?_
  cases hq40 : (shB l 80) with
  | false =>
    rw [hq40] at E
    refine env_skip (d := 20) (g := 3) (s := 19) E rfl (by decide) rfl rfl rfl (by decide) (E.get 0 rfl) fun a E => ?_
    refine env_skip (d := 21) (g := 3) (s := 19) E rfl (by decide) rfl rfl rfl (by decide) (E.get 1 rfl) fun a E => ?_
    refine env_skip (d := 22) (g := 3) (s := 19) E rfl (by decide) rfl rfl rfl (by decide) (E.get 2 rfl) fun a E => ?_
    refine env_put (d := 23) (v := .bool true) E rfl (by decide) rfl (wanted_none rfl _) (run_pick_t rfl (E.get 3 rfl) rfl) fun a E => ?_
    refine env_put (d := 24) (v := .bool true) E rfl (by decide) rfl (wanted_none rfl _) (run_move rfl (E.get 0 rfl)) fun a E => ?_
    refine env_skip (d := 25) (g := 8) (s := 24) E rfl (by decide) rfl rfl rfl (by decide) (E.get 0 rfl) fun a E => ?_
    refine env_skip (d := 26) (g := 8) (s := 24) E rfl (by decide) rfl rfl rfl (by decide) (E.get 1 rfl) fun a E => ?_
    refine env_skip (d := 27) (g := 8) (s := 24) E rfl (by decide) rfl rfl rfl (by decide) (E.get 2 rfl) fun a E => ?_
    refine env_put (d := 28) (v := .bool true) E rfl (by decide) rfl (wanted_none rfl _) (run_pick_t rfl (E.get 3 rfl) rfl) fun a E => ?_
    refine env_put (d := 29) (v := .bool true) E rfl (by decide) rfl (wanted_none rfl _) (run_move rfl (E.get 0 rfl)) fun a E => ?_
    refine env_skip (d := 30) (g := 13) (s := 29) E rfl (by decide) rfl rfl rfl (by decide) (E.get 0 rfl) fun a E => ?_
    refine env_skip (d := 31) (g := 13) (s := 29) E rfl (by decide) rfl rfl rfl (by decide) (E.get 1 rfl) fun a E => ?_
    refine env_skip (d := 32) (g := 13) (s := 29) E rfl (by decide) rfl rfl rfl (by decide) (E.get 2 rfl) fun a E => ?_
    refine env_skip (d := 33) (g := 13) (s := 29) E rfl (by decide) rfl rfl rfl (by decide) (E.get 3 rfl) fun a E => ?_
    refine env_skip (d := 34) (g := 13) (s := 29) E rfl (by decide) rfl rfl rfl (by decide) (E.get 4 rfl) fun a E => ?_
    refine env_skip (d := 35) (g := 13) (s := 29) E rfl (by decide) rfl rfl rfl (by decide) (E.get 5 rfl) fun a E => ?_
    refine env_skip (d := 36) (g := 13) (s := 29) E rfl (by decide) rfl rfl rfl (by decide) (E.get 6 rfl) fun a E => ?_
    refine env_put (d := 37) (v := .bool true) E rfl (by decide) rfl (wanted_none rfl _) (run_pick_t rfl (E.get 7 rfl) rfl) fun a E => ?_
    refine env_put (d := 38) (v := .bool true) E rfl (by decide) rfl (wanted_none rfl _) (run_move rfl (E.get 0 rfl)) fun a E => ?_
    refine env_skip (d := 39) (g := 22) (s := 38) E rfl (by decide) rfl rfl rfl (by decide) (E.get 0 rfl) fun a E => ?_
    refine env_skip (d := 40) (g := 22) (s := 38) E rfl (by decide) rfl rfl rfl (by decide) (E.get 1 rfl) fun a E => ?_
    refine env_skip (d := 41) (g := 22) (s := 38) E rfl (by decide) rfl rfl rfl (by decide) (E.get 2 rfl) fun a E => ?_
    refine env_skip (d := 42) (g := 22) (s := 38) E rfl (by decide) rfl rfl rfl (by decide) (E.get 3 rfl) fun a E => ?_
    refine env_skip (d := 43) (g := 22) (s := 38) E rfl (by decide) rfl rfl rfl (by decide) (E.get 4 rfl) fun a E => ?_
    refine env_skip (d := 44) (g := 22) (s := 38) E rfl (by decide) rfl rfl rfl (by decide) (E.get 5 rfl) fun a E => ?_
    refine env_skip (d := 45) (g := 22) (s := 38) E rfl (by decide) rfl rfl rfl (by decide) (E.get 6 rfl) fun a E => ?_
    refine env_put (d := 46) (v := .bool true) E rfl (by decide) rfl (wanted_none rfl _) (run_pick_t rfl (E.get 7 rfl) rfl) fun a E => ?_
    refine env_put (d := 47) (v := .bool true) E rfl (by decide) rfl (wanted_none rfl _) (run_move rfl (E.get 0 rfl)) fun a E => ?_
    refine env_skip (d := 48) (g := 31) (s := 47) E rfl (by decide) rfl rfl rfl (by decide) (E.get 0 rfl) fun a E => ?_
    refine env_skip (d := 49) (g := 31) (s := 47) E rfl (by decide) rfl rfl rfl (by decide) (E.get 1 rfl) fun a E => ?_
    refine env_skip (d := 50) (g := 31) (s := 47) E rfl (by decide) rfl rfl rfl (by decide) (E.get 2 rfl) fun a E => ?_
    refine env_skip (d := 51) (g := 31) (s := 47) E rfl (by decide) rfl rfl rfl (by decide) (E.get 3 rfl) fun a E => ?_
    refine env_skip (d := 52) (g := 31) (s := 47) E rfl (by decide) rfl rfl rfl (by decide) (E.get 4 rfl) fun a E => ?_
    refine env_skip (d := 53) (g := 31) (s := 47) E rfl (by decide) rfl rfl rfl (by decide) (E.get 5 rfl) fun a E => ?_
    refine env_skip (d := 54) (g := 31) (s := 47) E rfl (by decide) rfl rfl rfl (by decide) (E.get 6 rfl) fun a E => ?_
    refine env_put (d := 55) (v := .bool true) E rfl (by decide) rfl (wanted_none rfl _) (run_pick_t rfl (E.get 7 rfl) rfl) fun a E => ?_
    refine env_put (d := 56) (v := .bool true) E rfl (by decide) rfl (wanted_none rfl _) (run_move rfl (E.get 0 rfl)) fun a E => ?_
    refine env_skip (d := 57) (g := 40) (s := 56) E rfl (by decide) rfl rfl rfl (by decide) (E.get 0 rfl) fun a E => ?_
    refine env_skip (d := 58) (g := 40) (s := 56) E rfl (by decide) rfl rfl rfl (by decide) (E.get 1 rfl) fun a E => ?_
    refine env_skip (d := 59) (g := 40) (s := 56) E rfl (by decide) rfl rfl rfl (by decide) (E.get 2 rfl) fun a E => ?_
    refine env_skip (d := 60) (g := 40) (s := 56) E rfl (by decide) rfl rfl rfl (by decide) (E.get 3 rfl) fun a E => ?_
    refine env_skip (d := 61) (g := 40) (s := 56) E rfl (by decide) rfl rfl rfl (by decide) (E.get 4 rfl) fun a E => ?_
    refine env_skip (d := 62) (g := 40) (s := 56) E rfl (by decide) rfl rfl rfl (by decide) (E.get 5 rfl) fun a E => ?_
    refine env_skip (d := 63) (g := 40) (s := 56) E rfl (by decide) rfl rfl rfl (by decide) (E.get 6 rfl) fun a E => ?_
    refine env_put (d := 64) (v := .bool true) E rfl (by decide) rfl (wanted_none rfl _) (run_pick_t rfl (E.get 7 rfl) rfl) fun a E => ?_
    refine wpList_nil ?_
    refine then_n ?_
    refine wp_cond_true (E.get 0 rfl) ?_
    refine wp_seq ?_
    refine wp_region_lit ?_
    refine env_put (d := 65) (v := .bool true) E rfl (by decide) rfl (wanted_none rfl _) (run_move rfl (E.get 49 rfl)) fun a E => ?_
    refine env_set (d := 6) (v := .bool true) E rfl (by decide) (wanted_none rfl _) (run_assign rfl (E.get 0 rfl)) fun a E => ?_
    refine wpList_nil ?_
    refine then_n ?_
    refine wp_ret ?_
    refine then_r ?_
    exact ret_tmp (t := 6) rfl E (E.get 0 rfl) ⟨rfl, hf⟩
  | true =>
    rw [hq40] at E
    have hlen := shB.len hq40
    have hN9 : l.length ≤ 100000 := by omega
    refine env_put (d := 20) (v := .agg (bxC a0)) E rfl (by decide) rfl (w_yes (g := 3) (s := 19) E rfl rfl (by decide) (E.get 0 rfl)) (run_ld26 rfl (E.get 8 rfl) (rng4 (p := a0) hcb38.1 0 rfl rfl rfl rfl)) fun a E => ?_
    refine env_call (d := 21) (v := .bool (decide (okB a0))) E rfl (by decide) rfl (w_yes (g := 3) (s := 19) E rfl rfl (by decide) (E.get 1 rfl)) (run_call1 (enters_of Try.func24 (by kernel_rfl) rfl) rfl rfl (E.get 0 rfl)) (valid_calls _ _) fun a w1 f1 E => ?_
    have hs := hs.fr f1 (fun _ _ h => h)
    have hcb38 := hcb38.fr f1
    have hcb39 := hcb39.fr f1
    have hf := hf.trans f1
    clear f1
    refine env_put (d := 22) (v := .bool (!(decide (okB a0)))) E rfl (by decide) rfl (w_yes (g := 3) (s := 19) E rfl rfl (by decide) (E.get 2 rfl)) (run_not rfl (E.get 0 rfl)) fun a E => ?_
    refine env_put (d := 23) (v := .bool (!(decide (okB a0)))) E rfl (by decide) rfl (wanted_none rfl _) (run_pick_f rfl (E.get 3 rfl) (E.get 0 rfl)) fun a E => ?_
    refine env_put (d := 24) (v := .bool (!(decide (okB a0)))) E rfl (by decide) rfl (wanted_none rfl _) (run_move rfl (E.get 0 rfl)) fun a E => ?_
    cases hq41 : (decide (okB a0)) with
    | false =>
      rw [hq41] at E
      refine env_skip (d := 25) (g := 8) (s := 24) E rfl (by decide) rfl rfl rfl (by decide) (E.get 0 rfl) fun a E => ?_
      refine env_skip (d := 26) (g := 8) (s := 24) E rfl (by decide) rfl rfl rfl (by decide) (E.get 1 rfl) fun a E => ?_
      refine env_skip (d := 27) (g := 8) (s := 24) E rfl (by decide) rfl rfl rfl (by decide) (E.get 2 rfl) fun a E => ?_
      refine env_put (d := 28) (v := .bool true) E rfl (by decide) rfl (wanted_none rfl _) (run_pick_t rfl (E.get 3 rfl) rfl) fun a E => ?_
      refine env_put (d := 29) (v := .bool true) E rfl (by decide) rfl (wanted_none rfl _) (run_move rfl (E.get 0 rfl)) fun a E => ?_
      refine env_skip (d := 30) (g := 13) (s := 29) E rfl (by decide) rfl rfl rfl (by decide) (E.get 0 rfl) fun a E => ?_
      refine env_skip (d := 31) (g := 13) (s := 29) E rfl (by decide) rfl rfl rfl (by decide) (E.get 1 rfl) fun a E => ?_
      refine env_skip (d := 32) (g := 13) (s := 29) E rfl (by decide) rfl rfl rfl (by decide) (E.get 2 rfl) fun a E => ?_
      refine env_skip (d := 33) (g := 13) (s := 29) E rfl (by decide) rfl rfl rfl (by decide) (E.get 3 rfl) fun a E => ?_
      refine env_skip (d := 34) (g := 13) (s := 29) E rfl (by decide) rfl rfl rfl (by decide) (E.get 4 rfl) fun a E => ?_
      refine env_skip (d := 35) (g := 13) (s := 29) E rfl (by decide) rfl rfl rfl (by decide) (E.get 5 rfl) fun a E => ?_
      refine env_skip (d := 36) (g := 13) (s := 29) E rfl (by decide) rfl rfl rfl (by decide) (E.get 6 rfl) fun a E => ?_
      refine env_put (d := 37) (v := .bool true) E rfl (by decide) rfl (wanted_none rfl _) (run_pick_t rfl (E.get 7 rfl) rfl) fun a E => ?_
      refine env_put (d := 38) (v := .bool true) E rfl (by decide) rfl (wanted_none rfl _) (run_move rfl (E.get 0 rfl)) fun a E => ?_
      refine env_skip (d := 39) (g := 22) (s := 38) E rfl (by decide) rfl rfl rfl (by decide) (E.get 0 rfl) fun a E => ?_
      refine env_skip (d := 40) (g := 22) (s := 38) E rfl (by decide) rfl rfl rfl (by decide) (E.get 1 rfl) fun a E => ?_
      refine env_skip (d := 41) (g := 22) (s := 38) E rfl (by decide) rfl rfl rfl (by decide) (E.get 2 rfl) fun a E => ?_
      refine env_skip (d := 42) (g := 22) (s := 38) E rfl (by decide) rfl rfl rfl (by decide) (E.get 3 rfl) fun a E => ?_
      refine env_skip (d := 43) (g := 22) (s := 38) E rfl (by decide) rfl rfl rfl (by decide) (E.get 4 rfl) fun a E => ?_
      refine env_skip (d := 44) (g := 22) (s := 38) E rfl (by decide) rfl rfl rfl (by decide) (E.get 5 rfl) fun a E => ?_
      refine env_skip (d := 45) (g := 22) (s := 38) E rfl (by decide) rfl rfl rfl (by decide) (E.get 6 rfl) fun a E => ?_
      refine env_put (d := 46) (v := .bool true) E rfl (by decide) rfl (wanted_none rfl _) (run_pick_t rfl (E.get 7 rfl) rfl) fun a E => ?_
      refine env_put (d := 47) (v := .bool true) E rfl (by decide) rfl (wanted_none rfl _) (run_move rfl (E.get 0 rfl)) fun a E => ?_
      refine env_skip (d := 48) (g := 31) (s := 47) E rfl (by decide) rfl rfl rfl (by decide) (E.get 0 rfl) fun a E => ?_
      refine env_skip (d := 49) (g := 31) (s := 47) E rfl (by decide) rfl rfl rfl (by decide) (E.get 1 rfl) fun a E => ?_
      refine env_skip (d := 50) (g := 31) (s := 47) E rfl (by decide) rfl rfl rfl (by decide) (E.get 2 rfl) fun a E => ?_
      refine env_skip (d := 51) (g := 31) (s := 47) E rfl (by decide) rfl rfl rfl (by decide) (E.get 3 rfl) fun a E => ?_
      refine env_skip (d := 52) (g := 31) (s := 47) E rfl (by decide) rfl rfl rfl (by decide) (E.get 4 rfl) fun a E => ?_
      refine env_skip (d := 53) (g := 31) (s := 47) E rfl (by decide) rfl rfl rfl (by decide) (E.get 5 rfl) fun a E => ?_
      refine env_skip (d := 54) (g := 31) (s := 47) E rfl (by decide) rfl rfl rfl (by decide) (E.get 6 rfl) fun a E => ?_
      refine env_put (d := 55) (v := .bool true) E rfl (by decide) rfl (wanted_none rfl _) (run_pick_t rfl (E.get 7 rfl) rfl) fun a E => ?_
      refine env_put (d := 56) (v := .bool true) E rfl (by decide) rfl (wanted_none rfl _) (run_move rfl (E.get 0 rfl)) fun a E => ?_
      refine env_skip (d := 57) (g := 40) (s := 56) E rfl (by decide) rfl rfl rfl (by decide) (E.get 0 rfl) fun a E => ?_
      refine env_skip (d := 58) (g := 40) (s := 56) E rfl (by decide) rfl rfl rfl (by decide) (E.get 1 rfl) fun a E => ?_
      refine env_skip (d := 59) (g := 40) (s := 56) E rfl (by decide) rfl rfl rfl (by decide) (E.get 2 rfl) fun a E => ?_
      refine env_skip (d := 60) (g := 40) (s := 56) E rfl (by decide) rfl rfl rfl (by decide) (E.get 3 rfl) fun a E => ?_
      refine env_skip (d := 61) (g := 40) (s := 56) E rfl (by decide) rfl rfl rfl (by decide) (E.get 4 rfl) fun a E => ?_
      refine env_skip (d := 62) (g := 40) (s := 56) E rfl (by decide) rfl rfl rfl (by decide) (E.get 5 rfl) fun a E => ?_
      refine env_skip (d := 63) (g := 40) (s := 56) E rfl (by decide) rfl rfl rfl (by decide) (E.get 6 rfl) fun a E => ?_
      refine env_put (d := 64) (v := .bool true) E rfl (by decide) rfl (wanted_none rfl _) (run_pick_t rfl (E.get 7 rfl) rfl) fun a E => ?_
      refine wpList_nil ?_
      refine then_n ?_
      refine wp_cond_true (E.get 0 rfl) ?_
      refine wp_seq ?_
      refine wp_region_lit ?_
      refine env_put (d := 65) (v := .bool true) E rfl (by decide) rfl (wanted_none rfl _) (run_move rfl (E.get 49 rfl)) fun a E => ?_
      refine env_set (d := 6) (v := .bool true) E rfl (by decide) (wanted_none rfl _) (run_assign rfl (E.get 0 rfl)) fun a E => ?_
      refine wpList_nil ?_
      refine then_n ?_
      refine wp_ret ?_
      refine then_r ?_
      exact ret_tmp (t := 6) rfl E (E.get 0 rfl) ⟨rfl, hf⟩
    | true =>
      rw [hq41] at E
      refine env_put (d := 25) (v := .agg (bxC b)) E rfl (by decide) rfl (w_yes (g := 8) (s := 24) E rfl rfl (by decide) (E.get 0 rfl)) (run_ld26 rfl (E.get 12 rfl) (rng4 (p := b) hcb39.1 0 rfl rfl rfl rfl)) fun a E => ?_
      refine env_call (d := 26) (v := .bool (decide (okB b))) E rfl (by decide) rfl (w_yes (g := 8) (s := 24) E rfl rfl (by decide) (E.get 1 rfl)) (run_call1 (enters_of Try.func24 (by kernel_rfl) rfl) rfl rfl (E.get 0 rfl)) (valid_calls _ _) fun a w1 f1 E => ?_
      have hs := hs.fr f1 (fun _ _ h => h)
      have hcb38 := hcb38.fr f1
      have hcb39 := hcb39.fr f1
      have hf := hf.trans f1
      clear f1
      refine env_put (d := 27) (v := .bool (!(decide (okB b)))) E rfl (by decide) rfl (w_yes (g := 8) (s := 24) E rfl rfl (by decide) (E.get 2 rfl)) (run_not rfl (E.get 0 rfl)) fun a E => ?_
      refine env_put (d := 28) (v := .bool (!(decide (okB b)))) E rfl (by decide) rfl (wanted_none rfl _) (run_pick_f rfl (E.get 3 rfl) (E.get 0 rfl)) fun a E => ?_
      refine env_put (d := 29) (v := .bool (!(decide (okB b)))) E rfl (by decide) rfl (wanted_none rfl _) (run_move rfl (E.get 0 rfl)) fun a E => ?_
      cases hq42 : (decide (okB b)) with
      | false =>
        rw [hq42] at E
        refine env_skip (d := 30) (g := 13) (s := 29) E rfl (by decide) rfl rfl rfl (by decide) (E.get 0 rfl) fun a E => ?_
        refine env_skip (d := 31) (g := 13) (s := 29) E rfl (by decide) rfl rfl rfl (by decide) (E.get 1 rfl) fun a E => ?_
        refine env_skip (d := 32) (g := 13) (s := 29) E rfl (by decide) rfl rfl rfl (by decide) (E.get 2 rfl) fun a E => ?_
        refine env_skip (d := 33) (g := 13) (s := 29) E rfl (by decide) rfl rfl rfl (by decide) (E.get 3 rfl) fun a E => ?_
        refine env_skip (d := 34) (g := 13) (s := 29) E rfl (by decide) rfl rfl rfl (by decide) (E.get 4 rfl) fun a E => ?_
        refine env_skip (d := 35) (g := 13) (s := 29) E rfl (by decide) rfl rfl rfl (by decide) (E.get 5 rfl) fun a E => ?_
        refine env_skip (d := 36) (g := 13) (s := 29) E rfl (by decide) rfl rfl rfl (by decide) (E.get 6 rfl) fun a E => ?_
        refine env_put (d := 37) (v := .bool true) E rfl (by decide) rfl (wanted_none rfl _) (run_pick_t rfl (E.get 7 rfl) rfl) fun a E => ?_
        refine env_put (d := 38) (v := .bool true) E rfl (by decide) rfl (wanted_none rfl _) (run_move rfl (E.get 0 rfl)) fun a E => ?_
        refine env_skip (d := 39) (g := 22) (s := 38) E rfl (by decide) rfl rfl rfl (by decide) (E.get 0 rfl) fun a E => ?_
        refine env_skip (d := 40) (g := 22) (s := 38) E rfl (by decide) rfl rfl rfl (by decide) (E.get 1 rfl) fun a E => ?_
        refine env_skip (d := 41) (g := 22) (s := 38) E rfl (by decide) rfl rfl rfl (by decide) (E.get 2 rfl) fun a E => ?_
        refine env_skip (d := 42) (g := 22) (s := 38) E rfl (by decide) rfl rfl rfl (by decide) (E.get 3 rfl) fun a E => ?_
        refine env_skip (d := 43) (g := 22) (s := 38) E rfl (by decide) rfl rfl rfl (by decide) (E.get 4 rfl) fun a E => ?_
        refine env_skip (d := 44) (g := 22) (s := 38) E rfl (by decide) rfl rfl rfl (by decide) (E.get 5 rfl) fun a E => ?_
        refine env_skip (d := 45) (g := 22) (s := 38) E rfl (by decide) rfl rfl rfl (by decide) (E.get 6 rfl) fun a E => ?_
        refine env_put (d := 46) (v := .bool true) E rfl (by decide) rfl (wanted_none rfl _) (run_pick_t rfl (E.get 7 rfl) rfl) fun a E => ?_
        refine env_put (d := 47) (v := .bool true) E rfl (by decide) rfl (wanted_none rfl _) (run_move rfl (E.get 0 rfl)) fun a E => ?_
        refine env_skip (d := 48) (g := 31) (s := 47) E rfl (by decide) rfl rfl rfl (by decide) (E.get 0 rfl) fun a E => ?_
        refine env_skip (d := 49) (g := 31) (s := 47) E rfl (by decide) rfl rfl rfl (by decide) (E.get 1 rfl) fun a E => ?_
        refine env_skip (d := 50) (g := 31) (s := 47) E rfl (by decide) rfl rfl rfl (by decide) (E.get 2 rfl) fun a E => ?_
        refine env_skip (d := 51) (g := 31) (s := 47) E rfl (by decide) rfl rfl rfl (by decide) (E.get 3 rfl) fun a E => ?_
        refine env_skip (d := 52) (g := 31) (s := 47) E rfl (by decide) rfl rfl rfl (by decide) (E.get 4 rfl) fun a E => ?_
        refine env_skip (d := 53) (g := 31) (s := 47) E rfl (by decide) rfl rfl rfl (by decide) (E.get 5 rfl) fun a E => ?_
        refine env_skip (d := 54) (g := 31) (s := 47) E rfl (by decide) rfl rfl rfl (by decide) (E.get 6 rfl) fun a E => ?_
        refine env_put (d := 55) (v := .bool true) E rfl (by decide) rfl (wanted_none rfl _) (run_pick_t rfl (E.get 7 rfl) rfl) fun a E => ?_
        refine env_put (d := 56) (v := .bool true) E rfl (by decide) rfl (wanted_none rfl _) (run_move rfl (E.get 0 rfl)) fun a E => ?_
        refine env_skip (d := 57) (g := 40) (s := 56) E rfl (by decide) rfl rfl rfl (by decide) (E.get 0 rfl) fun a E => ?_
        refine env_skip (d := 58) (g := 40) (s := 56) E rfl (by decide) rfl rfl rfl (by decide) (E.get 1 rfl) fun a E => ?_
        refine env_skip (d := 59) (g := 40) (s := 56) E rfl (by decide) rfl rfl rfl (by decide) (E.get 2 rfl) fun a E => ?_
        refine env_skip (d := 60) (g := 40) (s := 56) E rfl (by decide) rfl rfl rfl (by decide) (E.get 3 rfl) fun a E => ?_
        refine env_skip (d := 61) (g := 40) (s := 56) E rfl (by decide) rfl rfl rfl (by decide) (E.get 4 rfl) fun a E => ?_
        refine env_skip (d := 62) (g := 40) (s := 56) E rfl (by decide) rfl rfl rfl (by decide) (E.get 5 rfl) fun a E => ?_
        refine env_skip (d := 63) (g := 40) (s := 56) E rfl (by decide) rfl rfl rfl (by decide) (E.get 6 rfl) fun a E => ?_
        refine env_put (d := 64) (v := .bool true) E rfl (by decide) rfl (wanted_none rfl _) (run_pick_t rfl (E.get 7 rfl) rfl) fun a E => ?_
        refine wpList_nil ?_
        refine then_n ?_
        refine wp_cond_true (E.get 0 rfl) ?_
        refine wp_seq ?_
        refine wp_region_lit ?_
        refine env_put (d := 65) (v := .bool true) E rfl (by decide) rfl (wanted_none rfl _) (run_move rfl (E.get 49 rfl)) fun a E => ?_
        refine env_set (d := 6) (v := .bool true) E rfl (by decide) (wanted_none rfl _) (run_assign rfl (E.get 0 rfl)) fun a E => ?_
        refine wpList_nil ?_
        refine then_n ?_
        refine wp_ret ?_
        refine then_r ?_
        exact ret_tmp (t := 6) rfl E (E.get 0 rfl) ⟨rfl, hf⟩
      | true =>
        rw [hq42] at E
        refine env_put (d := 30) (v := .pointer (some ⟨b38, 0, none⟩)) E rfl (by decide) rfl (w_yes (g := 13) (s := 29) E rfl rfl (by decide) (E.get 0 rfl)) (fa26_0 rfl (E.get 18 rfl)) fun a E => ?_
        refine env_put (d := 31) (v := .pointer (some ⟨b38, 0, none⟩)) E rfl (by decide) rfl (w_yes (g := 13) (s := 29) E rfl rfl (by decide) (E.get 1 rfl)) (fa24_0 rfl (E.get 0 rfl)) fun a E => ?_
        refine env_put (d := 32) (v := .int .i64 a0.1.1) E rfl (by decide) rfl (w_yes (g := 13) (s := 29) E rfl rfl (by decide) (E.get 2 rfl)) (run_ldi rfl (E.get 0 rfl) (bx hcb38.1 0 rfl)) fun a E => ?_
        refine env_put (d := 33) (v := .pointer (some ⟨b39, 0, none⟩)) E rfl (by decide) rfl (w_yes (g := 13) (s := 29) E rfl rfl (by decide) (E.get 3 rfl)) (fa26_0 rfl (E.get 20 rfl)) fun a E => ?_
        refine env_put (d := 34) (v := .pointer (some ⟨b39, 0, none⟩)) E rfl (by decide) rfl (w_yes (g := 13) (s := 29) E rfl rfl (by decide) (E.get 4 rfl)) (fa24_0 rfl (E.get 0 rfl)) fun a E => ?_
        refine env_put (d := 35) (v := .int .i64 b.1.1) E rfl (by decide) rfl (w_yes (g := 13) (s := 29) E rfl rfl (by decide) (E.get 5 rfl)) (run_ldi rfl (E.get 0 rfl) (bx hcb39.1 0 rfl)) fun a E => ?_
        refine env_put (d := 36) (v := .bool (decide (a0.1.1 < b.1.1))) E rfl (by decide) rfl (w_yes (g := 13) (s := 29) E rfl rfl (by decide) (E.get 6 rfl)) (run_ilss (E.get 3 rfl) (E.get 0 rfl) Try.underlying3 rfl) fun a E => ?_
        refine env_put (d := 37) (v := .bool (decide (a0.1.1 < b.1.1))) E rfl (by decide) rfl (wanted_none rfl _) (run_pick_f rfl (E.get 7 rfl) (E.get 0 rfl)) fun a E => ?_
        refine env_put (d := 38) (v := .bool (decide (a0.1.1 < b.1.1))) E rfl (by decide) rfl (wanted_none rfl _) (run_move rfl (E.get 0 rfl)) fun a E => ?_
        cases hq43 : (decide (a0.1.1 < b.1.1)) with
        | false =>
          rw [hq43] at E
          refine env_put (d := 39) (v := .pointer (some ⟨b38, 0, none⟩)) E rfl (by decide) rfl (w_yes (g := 22) (s := 38) E rfl rfl (by decide) (E.get 0 rfl)) (fa26_0 rfl (E.get 27 rfl)) fun a E => ?_
          refine env_put (d := 40) (v := .pointer (some ⟨b38, 1, none⟩)) E rfl (by decide) rfl (w_yes (g := 22) (s := 38) E rfl rfl (by decide) (E.get 1 rfl)) (fa24_1 rfl (E.get 0 rfl)) fun a E => ?_
          refine env_put (d := 41) (v := .int .i64 a0.1.2) E rfl (by decide) rfl (w_yes (g := 22) (s := 38) E rfl rfl (by decide) (E.get 2 rfl)) (run_ldi rfl (E.get 0 rfl) (bx hcb38.1 1 rfl)) fun a E => ?_
          refine env_put (d := 42) (v := .pointer (some ⟨b39, 0, none⟩)) E rfl (by decide) rfl (w_yes (g := 22) (s := 38) E rfl rfl (by decide) (E.get 3 rfl)) (fa26_0 rfl (E.get 29 rfl)) fun a E => ?_
          refine env_put (d := 43) (v := .pointer (some ⟨b39, 1, none⟩)) E rfl (by decide) rfl (w_yes (g := 22) (s := 38) E rfl rfl (by decide) (E.get 4 rfl)) (fa24_1 rfl (E.get 0 rfl)) fun a E => ?_
          refine env_put (d := 44) (v := .int .i64 b.1.2) E rfl (by decide) rfl (w_yes (g := 22) (s := 38) E rfl rfl (by decide) (E.get 5 rfl)) (run_ldi rfl (E.get 0 rfl) (bx hcb39.1 1 rfl)) fun a E => ?_
          refine env_put (d := 45) (v := .bool (decide (a0.1.2 < b.1.2))) E rfl (by decide) rfl (w_yes (g := 22) (s := 38) E rfl rfl (by decide) (E.get 6 rfl)) (run_ilss (E.get 3 rfl) (E.get 0 rfl) Try.underlying3 rfl) fun a E => ?_
          refine env_put (d := 46) (v := .bool (decide (a0.1.2 < b.1.2))) E rfl (by decide) rfl (wanted_none rfl _) (run_pick_f rfl (E.get 7 rfl) (E.get 0 rfl)) fun a E => ?_
          refine env_put (d := 47) (v := .bool (decide (a0.1.2 < b.1.2))) E rfl (by decide) rfl (wanted_none rfl _) (run_move rfl (E.get 0 rfl)) fun a E => ?_
          cases hq44 : (decide (a0.1.2 < b.1.2)) with
          | false =>
            rw [hq44] at E
            refine env_put (d := 48) (v := .pointer (some ⟨b38, 2, none⟩)) E rfl (by decide) rfl (w_yes (g := 31) (s := 47) E rfl rfl (by decide) (E.get 0 rfl)) (fa26_1 rfl (E.get 36 rfl)) fun a E => ?_
            refine env_put (d := 49) (v := .pointer (some ⟨b38, 2, none⟩)) E rfl (by decide) rfl (w_yes (g := 31) (s := 47) E rfl rfl (by decide) (E.get 1 rfl)) (fa24_0 rfl (E.get 0 rfl)) fun a E => ?_
            refine env_put (d := 50) (v := .int .i64 a0.2.1) E rfl (by decide) rfl (w_yes (g := 31) (s := 47) E rfl rfl (by decide) (E.get 2 rfl)) (run_ldi rfl (E.get 0 rfl) (bx hcb38.1 2 rfl)) fun a E => ?_
            refine env_put (d := 51) (v := .pointer (some ⟨b39, 2, none⟩)) E rfl (by decide) rfl (w_yes (g := 31) (s := 47) E rfl rfl (by decide) (E.get 3 rfl)) (fa26_1 rfl (E.get 38 rfl)) fun a E => ?_
            refine env_put (d := 52) (v := .pointer (some ⟨b39, 2, none⟩)) E rfl (by decide) rfl (w_yes (g := 31) (s := 47) E rfl rfl (by decide) (E.get 4 rfl)) (fa24_0 rfl (E.get 0 rfl)) fun a E => ?_
            refine env_put (d := 53) (v := .int .i64 b.2.1) E rfl (by decide) rfl (w_yes (g := 31) (s := 47) E rfl rfl (by decide) (E.get 5 rfl)) (run_ldi rfl (E.get 0 rfl) (bx hcb39.1 2 rfl)) fun a E => ?_
            refine env_put (d := 54) (v := .bool (decide (b.2.1 < a0.2.1))) E rfl (by decide) rfl (w_yes (g := 31) (s := 47) E rfl rfl (by decide) (E.get 6 rfl)) (run_igtr (E.get 3 rfl) (E.get 0 rfl) Try.underlying3 rfl) fun a E => ?_
            refine env_put (d := 55) (v := .bool (decide (b.2.1 < a0.2.1))) E rfl (by decide) rfl (wanted_none rfl _) (run_pick_f rfl (E.get 7 rfl) (E.get 0 rfl)) fun a E => ?_
            refine env_put (d := 56) (v := .bool (decide (b.2.1 < a0.2.1))) E rfl (by decide) rfl (wanted_none rfl _) (run_move rfl (E.get 0 rfl)) fun a E => ?_
            cases hq45 : (decide (b.2.1 < a0.2.1)) with
            | false =>
              rw [hq45] at E
              refine env_put (d := 57) (v := .pointer (some ⟨b38, 2, none⟩)) E rfl (by decide) rfl (w_yes (g := 40) (s := 56) E rfl rfl (by decide) (E.get 0 rfl)) (fa26_1 rfl (E.get 45 rfl)) fun a E => ?_
              refine env_put (d := 58) (v := .pointer (some ⟨b38, 3, none⟩)) E rfl (by decide) rfl (w_yes (g := 40) (s := 56) E rfl rfl (by decide) (E.get 1 rfl)) (fa24_1 rfl (E.get 0 rfl)) fun a E => ?_
              refine env_put (d := 59) (v := .int .i64 a0.2.2) E rfl (by decide) rfl (w_yes (g := 40) (s := 56) E rfl rfl (by decide) (E.get 2 rfl)) (run_ldi rfl (E.get 0 rfl) (bx hcb38.1 3 rfl)) fun a E => ?_
              refine env_put (d := 60) (v := .pointer (some ⟨b39, 2, none⟩)) E rfl (by decide) rfl (w_yes (g := 40) (s := 56) E rfl rfl (by decide) (E.get 3 rfl)) (fa26_1 rfl (E.get 47 rfl)) fun a E => ?_
              refine env_put (d := 61) (v := .pointer (some ⟨b39, 3, none⟩)) E rfl (by decide) rfl (w_yes (g := 40) (s := 56) E rfl rfl (by decide) (E.get 4 rfl)) (fa24_1 rfl (E.get 0 rfl)) fun a E => ?_
              refine env_put (d := 62) (v := .int .i64 b.2.2) E rfl (by decide) rfl (w_yes (g := 40) (s := 56) E rfl rfl (by decide) (E.get 5 rfl)) (run_ldi rfl (E.get 0 rfl) (bx hcb39.1 3 rfl)) fun a E => ?_
              refine env_put (d := 63) (v := .bool (decide (b.2.2 < a0.2.2))) E rfl (by decide) rfl (w_yes (g := 40) (s := 56) E rfl rfl (by decide) (E.get 6 rfl)) (run_igtr (E.get 3 rfl) (E.get 0 rfl) Try.underlying3 rfl) fun a E => ?_
              refine env_put (d := 64) (v := .bool (decide (b.2.2 < a0.2.2))) E rfl (by decide) rfl (wanted_none rfl _) (run_pick_f rfl (E.get 7 rfl) (E.get 0 rfl)) fun a E => ?_
              refine wpList_nil ?_
              refine then_n ?_
              cases hq46 : (decide (b.2.2 < a0.2.2)) with
              | false =>
                rw [hq46] at E
                refine wp_cond_false (E.get 0 rfl) ?_
                refine wp_skip ?_
                refine then_n ?_
                refine wp_seq ?_
                refine wp_region_lit ?_
                refine env_put (d := 66) (v := .slice (p) l.length cap) E rfl (by decide) rfl (wanted_none rfl _) (run_move rfl (E.get 54 rfl)) fun a E => ?_
                have hz0 := hf.size
                refine env_callv (d := 67) (R := fun u w8 => ∃ q T, u = .pointer (some ⟨q, 0, none⟩) ∧ Ix w8 w1.heap.size q l.length T (mOf l) ∧ Fr (fun _ => False) w1 w8) E rfl (by decide) rfl (wanted_none rfl _) (run_call1 (enters_of Try.func23 (by kernel_rfl) rfl) rfl rfl (E.get 0 rfl)) ((built_calls (hs.mono hz0) hq40).mono fun e w8 ⟨q, T, h1, h2, h3⟩ => ⟨_, h1, q, T, rfl, h2, h3⟩) fun a wb1 u9 hR E => ?_
                obtain ⟨q, T, rfl, hX, f1⟩ := hR
                have ht : TT w1 (fun _ => False) T := fun k hk => .inr (hX.lt k hk).1
                have hs := hs.fr f1 (fun _ _ h => h)
                have hcb38 := hcb38.q (f1.mono fun _ _ h => h) ht
                have hcb39 := hcb39.q (f1.mono fun _ _ h => h) ht
                have hf := hf.trans f1
                have hX := hX.base hz0
                clear f1 ht hz0
                have hmi : ∀ s c, mOf l s = some c → s.size ≤ maxLen := mOf_size hq40
                obtain ⟨m, hm⟩ : ∃ m, m = mOf l := ⟨_, rfl⟩
                rw [← hm] at hX hmi
                have hok := hX.ok
                refine env_put (d := 8) (v := .pointer (some ⟨q, 0, none⟩)) E rfl (by decide) rfl (wanted_none rfl _) (run_assign rfl (E.get 0 rfl)) fun a E => ?_
                refine wpList_nil ?_
                refine then_n ?_
                refine wp_seq ?_
                have fd := (Fr.refl (fun _ => False) wb1).drew
                refine wp_region_invx (G := Value × Value) (undef, undef) (n := 117) (base := [(8, .pointer (some ⟨q, 0, none⟩)), (67, .pointer (some ⟨q, 0, none⟩)), (66, .slice (p) l.length cap), (64, .bool false), (63, .bool false), (62, .int .i64 b.2.2), (61, .pointer (some ⟨b39, 3, none⟩)), (60, .pointer (some ⟨b39, 2, none⟩)), (59, .int .i64 a0.2.2), (58, .pointer (some ⟨b38, 3, none⟩)), (57, .pointer (some ⟨b38, 2, none⟩)), (56, .bool false), (55, .bool false), (54, .bool false), (53, .int .i64 b.2.1), (52, .pointer (some ⟨b39, 2, none⟩)), (51, .pointer (some ⟨b39, 2, none⟩)), (50, .int .i64 a0.2.1), (49, .pointer (some ⟨b38, 2, none⟩)), (48, .pointer (some ⟨b38, 2, none⟩)), (47, .bool false), (46, .bool false), (45, .bool false), (44, .int .i64 b.1.2), (43, .pointer (some ⟨b39, 1, none⟩)), (42, .pointer (some ⟨b39, 0, none⟩)), (41, .int .i64 a0.1.2), (40, .pointer (some ⟨b38, 1, none⟩)), (39, .pointer (some ⟨b38, 0, none⟩)), (38, .bool false), (37, .bool false), (36, .bool false), (35, .int .i64 b.1.1), (34, .pointer (some ⟨b39, 0, none⟩)), (33, .pointer (some ⟨b39, 0, none⟩)), (32, .int .i64 a0.1.1), (31, .pointer (some ⟨b38, 0, none⟩)), (30, .pointer (some ⟨b38, 0, none⟩)), (29, .bool false), (28, .bool false), (27, .bool false), (26, .bool true), (25, .agg (bxC b)), (24, .bool false), (23, .bool false), (22, .bool false), (21, .bool true), (20, .agg (bxC a0)), (19, .bool false), (18, .bool false), (17, .bool true), (16, .slice (p) l.length cap), (7, .bool true), (15, .bool true), (6, .bool false), (5, .pointer (some ⟨b39, 0, none⟩)), (4, .pointer (some ⟨b38, 0, none⟩)), (0, .slice (p) l.length cap), (1, .agg (bxC a0)), (2, .agg (bxC b))]) (U := []) (T := fun γ => [some (68, .pointer (some ⟨q, 0, none⟩)), some (69, .agg (bxC a0)), some (70, γ.1), some (71, .pointer (some ⟨q, 0, none⟩)), some (72, .agg (bxC b)), some (73, γ.2), some (9, γ.1), some (10, γ.2)]) (M := fun γ ls9 wm => Fr (fun _ => False) w wm ∧ srcAt opL 6 wm w.heap.size p l ∧ ∃ T5, Ix wm w.heap.size q l.length T5 m ∧ (Cw wm T5 b38 a0) ∧ (Cw wm T5 b39 b) ∧ (ls9 2 = true → ∃ R, InS m a0 R ∧ Rw wm T5 γ.1 R) ∧ (ls9 5 = true → ∃ R, InS m b R ∧ Rw wm T5 γ.2 R)) (by kernel_rfl) (by kernel_rfl) (fun _ => by kernel_rfl) (E.of ⟨E.get 0 rfl, E.get 1 rfl, E.get 2 rfl, E.get 3 rfl, E.get 4 rfl, E.get 5 rfl, E.get 6 rfl, E.get 7 rfl, E.get 8 rfl, E.get 9 rfl, E.get 10 rfl, E.get 11 rfl, E.get 12 rfl, E.get 13 rfl, E.get 14 rfl, E.get 15 rfl, E.get 16 rfl, E.get 17 rfl, E.get 18 rfl, E.get 19 rfl, E.get 20 rfl, E.get 21 rfl, E.get 22 rfl, E.get 23 rfl, E.get 24 rfl, E.get 25 rfl, E.get 26 rfl, E.get 27 rfl, E.get 28 rfl, E.get 29 rfl, E.get 30 rfl, E.get 31 rfl, E.get 32 rfl, E.get 33 rfl, E.get 34 rfl, E.get 35 rfl, E.get 36 rfl, E.get 37 rfl, E.get 38 rfl, E.get 39 rfl, E.get 40 rfl, E.get 41 rfl, E.get 42 rfl, E.get 43 rfl, E.get 44 rfl, E.get 45 rfl, E.get 46 rfl, E.get 47 rfl, E.get 48 rfl, E.get 49 rfl, E.get 50 rfl, E.get 51 rfl, E.get 52 rfl, E.get 53 rfl, E.get 54 rfl, E.get 55 rfl, E.get 56 rfl, E.get 57 rfl, E.get 58 rfl, E.get 59 rfl, trivial⟩) (fun x hx => by cases hx) ⟨hf.drew, hs.fr fd (fun _ _ h => h), T, hX.fr fd (fun _ _ h => h), hcb38.fr fd, hcb39.fr fd, fun e => absurd e Bool.false_ne_true, fun e => absurd e Bool.false_ne_true⟩ ?_ ?_
                · intro j9 o9 γ ls9 a w5 ho hl E D DL DL2 hB hM
                  obtain ⟨m1, m2, T5, hX5, k0, k1, r0, r1⟩ := hM
                  match j9, ho, hl, D, DL, hB with
                  | 0, ho, hl, D, DL, hB =>
                    obtain rfl := Option.some.inj ho
                    exact ⟨fun _ => valx rfl (run_move rfl (E.get 0 rfl)) rfl ⟨m1, m2, T5, hX5, k0, k1, r0, r1⟩, fun h => by rw [wanted_none rfl] at h; cases h⟩
                  | 1, ho, hl, D, DL, hB =>
                    obtain rfl := Option.some.inj ho
                    exact ⟨fun _ => valx rfl (run_ld26 rfl (E.get 56 rfl) (rng4 (p := a0) k0.1 0 rfl rfl rfl rfl)) rfl ⟨m1, m2, T5, hX5, k0, k1, r0, r1⟩, fun h => by rw [wanted_none rfl] at h; cases h⟩
                  | 2, ho, hl, D, DL, hB =>
                    obtain rfl := Option.some.inj ho
                    refine ⟨fun _ => callxw (run_call2 (enters_of Try.func19 (by kernel_rfl) rfl) rfl rfl (D 0 _ rfl rfl) (D 1 _ rfl rfl)) (in_q hX5 hN9 a0) rfl fun v9 w9 f9 => ?_, fun h => by rw [wanted_none rfl] at h; cases h⟩
                    obtain ⟨R9, T9, hi9, ⟨hX9, f2, ht⟩, hr9⟩ := f9
                    exact ⟨(v9, γ.2), rfl, (fun j hj => match j, hj with | 0, _ => rfl | 1, _ => rfl | 2, hj => absurd (hl.symm.trans hj) (by decide) | 3, _ => rfl | 4, _ => rfl | 5, _ => rfl | 6, hj => absurd (hl.symm.trans (DL2 6 2 rfl hj)) (by decide) | 7, _ => rfl | j9 + 8, _ => rfl), ⟨m1.trans' f2 (fun r hr e => by have := (hX5.lt r e).1; omega), m2.fr f2 (fun r hr e => by have := (hX5.lt r e).1; omega), T9, hX9, k0.q f2 ht, k1.q f2 ht, fun _ => ⟨R9, hi9, hr9⟩, fun h => (r1 h).elim fun R h => ⟨R, h.1, h.2.q f2 ht⟩⟩⟩
                  | 3, ho, hl, D, DL, hB =>
                    obtain rfl := Option.some.inj ho
                    exact ⟨fun _ => valx rfl (run_move rfl (E.get 0 rfl)) rfl ⟨m1, m2, T5, hX5, k0, k1, r0, r1⟩, fun h => by rw [wanted_none rfl] at h; cases h⟩
                  | 4, ho, hl, D, DL, hB =>
                    obtain rfl := Option.some.inj ho
                    exact ⟨fun _ => valx rfl (run_ld26 rfl (E.get 55 rfl) (rng4 (p := b) k1.1 0 rfl rfl rfl rfl)) rfl ⟨m1, m2, T5, hX5, k0, k1, r0, r1⟩, fun h => by rw [wanted_none rfl] at h; cases h⟩
                  | 5, ho, hl, D, DL, hB =>
                    obtain rfl := Option.some.inj ho
                    refine ⟨fun _ => callxw (run_call2 (enters_of Try.func19 (by kernel_rfl) rfl) rfl rfl (D 3 _ rfl rfl) (D 4 _ rfl rfl)) (in_q hX5 hN9 b) rfl fun v9 w9 f9 => ?_, fun h => by rw [wanted_none rfl] at h; cases h⟩
                    obtain ⟨R9, T9, hi9, ⟨hX9, f2, ht⟩, hr9⟩ := f9
                    exact ⟨(γ.1, v9), rfl, (fun j hj => match j, hj with | 0, _ => rfl | 1, _ => rfl | 2, _ => rfl | 3, _ => rfl | 4, _ => rfl | 5, hj => absurd (hl.symm.trans hj) (by decide) | 6, _ => rfl | 7, hj => absurd (hl.symm.trans (DL2 7 5 rfl hj)) (by decide) | j9 + 8, _ => rfl), ⟨m1.trans' f2 (fun r hr e => by have := (hX5.lt r e).1; omega), m2.fr f2 (fun r hr e => by have := (hX5.lt r e).1; omega), T9, hX9, k0.q f2 ht, k1.q f2 ht, fun h => (r0 h).elim fun R h => ⟨R, h.1, h.2.q f2 ht⟩, fun _ => ⟨R9, hi9, hr9⟩⟩⟩
                  | 6, ho, hl, D, DL, hB =>
                    obtain rfl := Option.some.inj ho
                    exact ⟨fun _ => valx rfl (run_assign rfl (D 2 _ rfl rfl)) rfl ⟨m1, m2, T5, hX5, k0, k1, r0, r1⟩, fun h => by rw [wanted_none rfl] at h; cases h⟩
                  | 7, ho, hl, D, DL, hB =>
                    obtain rfl := Option.some.inj ho
                    exact ⟨fun _ => valx rfl (run_assign rfl (D 5 _ rfl rfl)) rfl ⟨m1, m2, T5, hX5, k0, k1, r0, r1⟩, fun h => by rw [wanted_none rfl] at h; cases h⟩
                  | j9 + 8, ho, hl, D, DL, hB => exact absurd ho (by simp)
                · rintro ⟨γa, γb⟩ a w9 E V hM
                  have E := E.add (v := γa) (V 6 _ rfl)
                  have E := E.add (v := γb) (V 7 _ rfl)
                  clear V
                  obtain ⟨m1, m2, T5, hX5, gk0, gk1, r0, r1⟩ := hM
                  have hf := m1
                  have hs := m2
                  have hX := hX5
                  have hcb38 := gk0
                  have hcb39 := gk1
                  obtain ⟨Ra, hiRa, hra⟩ := r0 rfl
                  obtain ⟨pra, cra, hva, _, hla⟩ := hra.src
                  subst hva
                  obtain ⟨Rb, hiRb, hrb⟩ := r1 rfl
                  obtain ⟨prb, crb, hvb, _, hlb⟩ := hrb.src
                  subst hvb
                  clear hX5 m1 m2 fd gk0 gk1
                  refine then_n ?_
                  refine wp_seq ?_
                  refine wp_seq ?_
                  refine wp_region_lit ?_
                  refine env_put (d := 11) (v := .int .i64 0) E rfl (by decide) rfl (wanted_none rfl _) (run_assign rfl rfl) fun a E => ?_
                  refine wpList_nil ?_
                  refine then_n ?_
                  refine wp_block ?_
                  have hIa : InR m a0 Ra := by unfold InS at hiRa; rwa [if_pos (of_decide_eq_true hq41)] at hiRa
                  have hIb : InR m b Rb := by unfold InS at hiRb; rwa [if_pos (of_decide_eq_true hq42)] at hiRb
                  have hd0 := of_decide_eq_false hq43
                  have hd1 := of_decide_eq_false hq44
                  have hd2 := of_decide_eq_false hq45
                  have hd3 := of_decide_eq_false hq46
                  refine wp_loop (fun a w2 => ∃ (i : Nat), Env 117 [(11, .int .i64 (i : Int)), (9, .slice (pra) Ra.length cra), (10, .slice (prb) Rb.length crb), (8, .pointer (some ⟨q, 0, none⟩)), (7, .bool true), (4, .pointer (some ⟨b38, 0, none⟩)), (0, .slice (p) l.length cap)] a ∧ i ≤ Ra.length ∧ Ix w2 w.heap.size q l.length T5 m ∧ srcAt opL 6 w2 w.heap.size p l ∧ Fr (fun _ => False) w w2 ∧ Cw w2 T5 b38 a0 ∧ Cw w2 T5 b39 b ∧ Rw w2 T5 (.slice pra Ra.length cra) Ra ∧ Rw w2 T5 (.slice prb Rb.length crb) Rb) (fun a _ => Ra.length - (intOf (a.eval (.tmp 11))).toNat) ?_ ?_
                  · exact ⟨0, E.of ⟨E.get 0 rfl, E.get 2 rfl, E.get 1 rfl, E.get 3 rfl, E.get 55 rfl, E.get 59 rfl, E.get 60 rfl, trivial⟩, Nat.zero_le _, hX, hs, hf, hcb38, hcb39, hra, hrb⟩
                  clear E
                  rintro a w2 ⟨i, E, hii, hX, hs, hf, hcb38, hcb39, hra, hrb⟩
                  have hmu : Ra.length - (intOf (a.eval (.tmp 11))).toNat = Ra.length - i := by rw [E.get 0 rfl]; first | rfl | (simp [intOf]; done) | (simp only [intOf]; omega)
                  rw [hmu]
                  clear hmu
                  refine wp_seq ?_
                  refine wp_seq ?_
                  refine wp_region_lit ?_
                  refine env_put (d := 74) (v := .int .i64 (i : Int)) E rfl (by decide) rfl (wanted_none rfl _) (run_move rfl (E.get 0 rfl)) fun a E => ?_
                  refine env_put (d := 75) (v := .slice (pra) Ra.length cra) E rfl (by decide) rfl (wanted_none rfl _) (run_move rfl (E.get 2 rfl)) fun a E => ?_
                  refine env_put (d := 76) (v := .int .i64 (Ra.length : Int)) E rfl (by decide) rfl (wanted_none rfl _) (run_len42 rfl (E.get 0 rfl)) fun a E => ?_
                  refine env_put (d := 77) (v := .bool (decide ((i : Int) < (Ra.length : Int)))) E rfl (by decide) rfl (wanted_none rfl _) (run_ilss (E.get 2 rfl) (E.get 0 rfl) Try.underlying3 rfl) fun a E => ?_
                  refine wpList_nil ?_
                  refine then_n ?_
                  cases hq48 : (decide ((i : Int) < (Ra.length : Int))) with
                  | false =>
                    rw [hq48] at E
                    refine wp_cond_false (E.get 0 rfl) ?_
                    refine wp_exit ?_
                    refine then_e ?_
                    refine then_e ?_
                    refine blk_e ?_
                    refine then_n ?_
                    refine wp_seq ?_
                    refine wp_seq ?_
                    refine wp_region_lit ?_
                    refine env_put (d := 12) (v := .int .i64 0) E rfl (by decide) rfl (wanted_none rfl _) (run_assign rfl rfl) fun a E => ?_
                    refine wpList_nil ?_
                    refine then_n ?_
                    refine wp_block ?_
                    refine wp_loop (fun a w2 => ∃ (j : Nat), Env 117 [(12, .int .i64 (j : Int)), (9, .slice (pra) Ra.length cra), (10, .slice (prb) Rb.length crb), (8, .pointer (some ⟨q, 0, none⟩)), (7, .bool true), (4, .pointer (some ⟨b38, 0, none⟩)), (0, .slice (p) l.length cap)] a ∧ j ≤ Rb.length ∧ Ix w2 w.heap.size q l.length T5 m ∧ srcAt opL 6 w2 w.heap.size p l ∧ Fr (fun _ => False) w w2 ∧ Cw w2 T5 b38 a0 ∧ Cw w2 T5 b39 b ∧ Rw w2 T5 (.slice pra Ra.length cra) Ra ∧ Rw w2 T5 (.slice prb Rb.length crb) Rb) (fun a _ => Rb.length - (intOf (a.eval (.tmp 12))).toNat) ?_ ?_
                    · exact ⟨0, E.of ⟨E.get 0 rfl, E.get 6 rfl, E.get 7 rfl, E.get 8 rfl, E.get 9 rfl, E.get 10 rfl, E.get 11 rfl, trivial⟩, Nat.zero_le _, hX, hs, hf, hcb38, hcb39, hra, hrb⟩
                    clear E
                    rintro a w2 ⟨j, E, hij, hX, hs, hf, hcb38, hcb39, hra, hrb⟩
                    have hmu : Rb.length - (intOf (a.eval (.tmp 12))).toNat = Rb.length - j := by rw [E.get 0 rfl]; first | rfl | (simp [intOf]; done) | (simp only [intOf]; omega)
                    rw [hmu]
                    clear hmu
                    refine wp_seq ?_
                    refine wp_seq ?_
                    refine wp_region_lit ?_
                    refine env_put (d := 87) (v := .int .i64 (j : Int)) E rfl (by decide) rfl (wanted_none rfl _) (run_move rfl (E.get 0 rfl)) fun a E => ?_
                    refine env_put (d := 88) (v := .slice (prb) Rb.length crb) E rfl (by decide) rfl (wanted_none rfl _) (run_move rfl (E.get 3 rfl)) fun a E => ?_
                    refine env_put (d := 89) (v := .int .i64 (Rb.length : Int)) E rfl (by decide) rfl (wanted_none rfl _) (run_len42 rfl (E.get 0 rfl)) fun a E => ?_
                    refine env_put (d := 90) (v := .bool (decide ((j : Int) < (Rb.length : Int)))) E rfl (by decide) rfl (wanted_none rfl _) (run_ilss (E.get 2 rfl) (E.get 0 rfl) Try.underlying3 rfl) fun a E => ?_
                    refine wpList_nil ?_
                    refine then_n ?_
                    cases hq50 : (decide ((j : Int) < (Rb.length : Int))) with
                    | false =>
                      rw [hq50] at E
                      refine wp_cond_false (E.get 0 rfl) ?_
                      refine wp_exit ?_
                      refine then_e ?_
                      refine then_e ?_
                      refine blk_e ?_
                      refine then_n ?_
                      refine wp_seq ?_
                      refine wp_region_lit ?_
                      refine env_put (d := 116) (v := .bool true) E rfl (by decide) rfl (wanted_none rfl _) (run_move rfl (E.get 8 rfl)) fun a E => ?_
                      refine env_put (d := 6) (v := .bool true) E rfl (by decide) rfl (wanted_none rfl _) (run_assign rfl (E.get 0 rfl)) fun a E => ?_
                      refine wpList_nil ?_
                      refine then_n ?_
                      refine wp_ret ?_
                      exact ret_tmp (t := 6) rfl E (E.get 0 rfl) ⟨rfl, hf⟩
                    | true =>
                      rw [hq50] at E
                      have hlts : j < Rb.length := by have := of_decide_eq_true hq50; omega
                      obtain ⟨s, hys⟩ : ∃ s, Rb[j]? = some s := ⟨_, List.getElem?_eq_getElem hlts⟩
                      obtain ⟨p9, c9, hv9, hsr, _⟩ := hrb.src
                      cases hv9
                      obtain ⟨g, offg, hpeg, hglg, hrowg⟩ := hsr.at hlts
                      replace hrowg := hrowg _ s hys
                      clear hsr
                      obtain ⟨c, hmc, hmt⟩ := (hIb.2 s).1 (List.mem_of_getElem? hys)
                      have hsz := hmi s c hmc
                      refine wp_cond_true (E.get 0 rfl) ?_
                      refine wp_skip ?_
                      refine then_n ?_
                      refine wp_seq ?_
                      refine wp_block ?_
                      refine wp_seq ?_
                      refine wp_region_lit ?_
                      refine env_put (d := 94) (v := .pointer (some ⟨q, 0, none⟩)) E rfl (by decide) rfl (wanted_none rfl _) (run_move rfl (E.get 7 rfl)) fun a E => ?_
                      refine env_put (d := 95) (v := .slice (prb) Rb.length crb) E rfl (by decide) rfl (wanted_none rfl _) (run_move rfl (E.get 7 rfl)) fun a E => ?_
                      refine env_put (d := 96) (v := .int .i64 (j : Int)) E rfl (by decide) rfl (wanted_none rfl _) (run_move rfl (E.get 6 rfl)) fun a E => ?_
                      refine env_put (d := 97) (v := .pointer (some ⟨g, (offg + j), none⟩)) E rfl (by decide) rfl (wanted_none rfl _) (run_index42 (i := j) rfl ((E.get 1 rfl).trans (by rw [hpeg])) (E.get 0 rfl) hlts) fun a E => ?_
                      refine env_put (d := 98) (v := .string s) E rfl (by decide) rfl (wanted_none rfl _) (run_lds rfl (E.get 0 rfl) (str_at hrowg)) fun a E => ?_
                      refine env_call (d := 99) (v := .tuple #[.agg (bxC c), .bool true]) E rfl (by decide) rfl (wanted_none rfl _) (run_call2 (enters_of Try.func16 (by kernel_rfl) rfl) rfl rfl (E.get 4 rfl) (E.get 0 rfl)) ((ix_box hX s hsz).mono fun e w8 h => ⟨h.1.trans (by rw [hmc]; rfl), h.2⟩) fun a w1 f1 E => ?_
                      have hs := hs.fr f1 (fun _ _ h => h)
                      have hcb38 := hcb38.fr f1
                      have hcb39 := hcb39.fr f1
                      have hX := Ix.fr hX f1 (fun _ _ h => h)
                      have hra := hra.fr f1
                      have hrb := hrb.fr f1
                      have hrowg := fun j u hu => f1.cell (hrowg j u hu) id
                      have hf := hf.trans f1
                      clear f1
                      refine env_put (d := 93) (v := .tuple #[.agg (bxC c), .bool true]) E rfl (by decide) rfl (wanted_none rfl _) (run_move rfl (E.get 0 rfl)) fun a E => ?_
                      refine env_put (d := 100) (v := .agg (bxC c)) E rfl (by decide) rfl (wanted_none rfl _) (run_ext0 rfl (E.get 0 rfl)) fun a E => ?_
                      refine env_put (d := 101) (v := .bool true) E rfl (by decide) rfl (wanted_none rfl _) (run_ext1 rfl (E.get 1 rfl)) fun a E => ?_
                      have hTl := (fun k hk => (hX.lt k hk).2 : ∀ k, T5 k → k < w1.heap.size)
                      refine env_alloc26 (d := 13) E rfl (by decide) rfl (wanted_none rfl _) rfl fun a w1 b51 eb51 hb51 f1 E => ?_
                      refine env_st26 E rfl (wanted_none rfl _) rfl (E.get 0 rfl) (E.get 2 rfl) hb51 fun w1 hb51 f2 E => ?_
                      have f1 := f1.trans' f2 (fun r hr e => by omega)
                      clear f2
                      have hcb51 : Cw w1 T5 b51 c := ⟨hb51, fun ht => by have := hTl b51 ht; omega⟩
                      have hs := hs.fr f1 (fun _ _ h => h)
                      have hcb38 := hcb38.fr f1
                      have hcb39 := hcb39.fr f1
                      have hX := Ix.fr hX f1 (fun _ _ h => h)
                      have hra := hra.fr f1
                      have hrb := hrb.fr f1
                      have hrowg := fun j u hu => f1.cell (hrowg j u hu) id
                      have hf := hf.trans f1
                      clear f1
                      clear hb51 hTl eb51
                      refine env_put (d := 14) (v := .bool true) E rfl (by decide) rfl (wanted_none rfl _) (run_assign rfl (E.get 1 rfl)) fun a E => ?_
                      refine wpList_nil ?_
                      refine then_n ?_
                      refine wp_seq ?_
                      cases hma : decide (mtB c a0) with
                      | false =>
                        have hin : inL Ra s = false := Bool.eq_false_iff.2 fun h => by
                          obtain ⟨c2, h1, h2⟩ := (hIa.2 s).1 (inL_iff.1 h)
                          rw [hmc] at h1
                          obtain rfl := Option.some.inj h1
                          exact of_decide_eq_false hma h2
                        refine wp_region_invg (n := 117) (base := [(14, .bool true), (13, .pointer (some ⟨b51, 0, none⟩)), (101, .bool true), (100, .agg (bxC c)), (93, .tuple #[.agg (bxC c), .bool true]), (99, .tuple #[.agg (bxC c), .bool true]), (98, .string s), (97, .pointer (some ⟨g, (offg + j), none⟩)), (96, .int .i64 (j : Int)), (95, .slice (prb) Rb.length crb), (94, .pointer (some ⟨q, 0, none⟩)), (90, .bool true), (89, .int .i64 (Rb.length : Int)), (88, .slice (prb) Rb.length crb), (87, .int .i64 (j : Int)), (12, .int .i64 (j : Int)), (9, .slice (pra) Ra.length cra), (10, .slice (prb) Rb.length crb), (8, .pointer (some ⟨q, 0, none⟩)), (7, .bool true), (4, .pointer (some ⟨b38, 0, none⟩)), (0, .slice (p) l.length cap)]) (T := [some (102, .bool true), some (103, .bool false), some (104, .bool false), some (105, .agg (bxC c)), some (106, .agg (bxC a0)), some (107, .bool false), some (108, .slice (pra) Ra.length cra), some (109, .slice (prb) Rb.length crb), some (110, .int .i64 (j : Int)), some (111, .pointer (some ⟨g, (offg + j), none⟩)), some (112, .string s), some (113, .bool false), some (114, .bool false), some (115, .bool false)]) (M := fun _ wm => Fr (fun _ => False) w1 wm) (by kernel_rfl) (by kernel_rfl) (by kernel_rfl) (E.of ⟨E.get 0 rfl, E.get 1 rfl, E.get 2 rfl, E.get 3 rfl, E.get 4 rfl, E.get 5 rfl, E.get 6 rfl, E.get 7 rfl, E.get 8 rfl, E.get 9 rfl, E.get 10 rfl, E.get 11 rfl, E.get 12 rfl, E.get 13 rfl, E.get 14 rfl, E.get 15 rfl, E.get 16 rfl, E.get 17 rfl, E.get 18 rfl, E.get 19 rfl, E.get 20 rfl, E.get 21 rfl, trivial⟩) (Fr.refl _ _).drew ?_ ?_
                        · intro j9 o9 t9 ls9 a w5 ho hT0 hl E D DL hM
                          have hs := hs.fr hM (fun _ _ h => h)
                          have hcb38 := hcb38.fr hM
                          have hcb39 := hcb39.fr hM
                          have hX := Ix.fr hX hM (fun _ _ h => h)
                          have hra := hra.fr hM
                          have hrb := hrb.fr hM
                          have hrowg := fun j u hu => hM.cell (hrowg j u hu) id
                          have hcb51 := hcb51.fr hM
                          match j9, ho, hT0, hl, D, DL with
                          | 0, ho, hT0, hl, D, DL =>
                            obtain rfl := Option.some.inj ho
                            obtain rfl := Option.some.inj hT0
                            clear ho hT0
                            exact ⟨fun _ => val_wp (run_move rfl (E.get 0 rfl)) rfl hM, fun h => by rw [wanted_none rfl] at h; cases h⟩
                          | 1, ho, hT0, hl, D, DL =>
                            obtain rfl := Option.some.inj ho
                            obtain rfl := Option.some.inj hT0
                            clear ho hT0
                            exact ⟨fun _ => val_wp (run_not rfl (D 0 _ rfl rfl)) rfl hM, fun h => by rw [wanted_none rfl] at h; cases h⟩
                          | 2, ho, hT0, hl, D, DL =>
                            obtain rfl := Option.some.inj ho
                            obtain rfl := Option.some.inj hT0
                            clear ho hT0
                            exact ⟨fun _ => val_wp (run_move rfl (D 1 _ rfl rfl)) rfl hM, fun h => by rw [wanted_none rfl] at h; cases h⟩
                          | 3, ho, hT0, hl, D, DL =>
                            obtain rfl := Option.some.inj ho
                            obtain rfl := Option.some.inj hT0
                            clear ho hT0
                            exact ⟨fun _ => val_wp (run_ld26 rfl (E.get 1 rfl) (rng4 (p := c) hcb51.1 0 rfl rfl rfl rfl)) rfl hM, fun h => by rw [w_yes (g := 2) (s := 104) (b := false) E rfl rfl (by decide) (D 2 _ rfl rfl)] at h; cases h⟩
                          | 4, ho, hT0, hl, D, DL =>
                            obtain rfl := Option.some.inj ho
                            obtain rfl := Option.some.inj hT0
                            clear ho hT0
                            exact ⟨fun _ => val_wp (run_ld26 rfl (E.get 20 rfl) (rng4 (p := a0) hcb38.1 0 rfl rfl rfl rfl)) rfl hM, fun h => by rw [w_yes (g := 2) (s := 104) (b := false) E rfl rfl (by decide) (D 2 _ rfl rfl)] at h; cases h⟩
                          | 5, ho, hT0, hl, D, DL =>
                            obtain rfl := Option.some.inj ho
                            obtain rfl := Option.some.inj hT0
                            clear ho hT0
                            exact ⟨fun _ => call_wp (run_call2 (enters_of Try.func25 (by kernel_rfl) rfl) rfl rfl (D 3 _ rfl rfl) (D 4 _ rfl rfl)) ((rmeet_calls c a0 _).mono fun e w h => ⟨h.1.trans (by rw [hma]), h.2⟩) rfl fun w9 f1 => (hM.trans f1), fun h => by rw [w_yes (g := 2) (s := 104) (b := false) E rfl rfl (by decide) (D 2 _ rfl rfl)] at h; cases h⟩
                          | 6, ho, hT0, hl, D, DL =>
                            obtain rfl := Option.some.inj ho
                            obtain rfl := Option.some.inj hT0
                            clear ho hT0
                            exact ⟨fun _ => val_wp (run_move rfl (E.get 16 rfl)) rfl hM, fun h => by rw [w_yes (g := 2) (s := 104) (b := false) E rfl rfl (by decide) (D 2 _ rfl rfl)] at h; cases h⟩
                          | 7, ho, hT0, hl, D, DL =>
                            obtain rfl := Option.some.inj ho
                            obtain rfl := Option.some.inj hT0
                            clear ho hT0
                            exact ⟨fun _ => val_wp (run_move rfl (E.get 17 rfl)) rfl hM, fun h => by rw [w_yes (g := 2) (s := 104) (b := false) E rfl rfl (by decide) (D 2 _ rfl rfl)] at h; cases h⟩
                          | 8, ho, hT0, hl, D, DL =>
                            obtain rfl := Option.some.inj ho
                            obtain rfl := Option.some.inj hT0
                            clear ho hT0
                            exact ⟨fun _ => val_wp (run_move rfl (E.get 15 rfl)) rfl hM, fun h => by rw [w_yes (g := 2) (s := 104) (b := false) E rfl rfl (by decide) (D 2 _ rfl rfl)] at h; cases h⟩
                          | 9, ho, hT0, hl, D, DL =>
                            obtain rfl := Option.some.inj ho
                            obtain rfl := Option.some.inj hT0
                            clear ho hT0
                            exact ⟨fun _ => val_wp (run_index42 (i := j) rfl ((D 7 _ rfl rfl).trans (by rw [hpeg])) (D 8 _ rfl rfl) hlts) rfl hM, fun h => by rw [w_yes (g := 2) (s := 104) (b := false) E rfl rfl (by decide) (D 2 _ rfl rfl)] at h; cases h⟩
                          | 10, ho, hT0, hl, D, DL =>
                            obtain rfl := Option.some.inj ho
                            obtain rfl := Option.some.inj hT0
                            clear ho hT0
                            exact ⟨fun _ => val_wp (run_lds rfl (D 9 _ rfl rfl) (str_at hrowg)) rfl hM, fun h => by rw [w_yes (g := 2) (s := 104) (b := false) E rfl rfl (by decide) (D 2 _ rfl rfl)] at h; cases h⟩
                          | 11, ho, hT0, hl, D, DL =>
                            obtain rfl := Option.some.inj ho
                            obtain rfl := Option.some.inj hT0
                            clear ho hT0
                            exact ⟨fun _ => call_wp (run_call2 (enters_of Try.func26 (by kernel_rfl) rfl) rfl rfl (D 6 _ rfl rfl) (D 10 _ rfl rfl)) ((has_rw hra s).mono fun e w h => ⟨h.1.trans (by rw [hin]), h.2⟩) rfl fun w9 f1 => (hM.trans f1), fun h => by rw [w_yes (g := 2) (s := 104) (b := false) E rfl rfl (by decide) (D 2 _ rfl rfl)] at h; cases h⟩
                          | 12, ho, hT0, hl, D, DL =>
                            obtain rfl := Option.some.inj ho
                            obtain rfl := Option.some.inj hT0
                            clear ho hT0
                            exact ⟨fun _ => val_wp (run_bneq (D 5 _ rfl rfl) (D 11 _ rfl rfl) rfl) rfl hM, fun h => by rw [w_yes (g := 2) (s := 104) (b := false) E rfl rfl (by decide) (D 2 _ rfl rfl)] at h; cases h⟩
                          | 13, ho, hT0, hl, D, DL =>
                            obtain rfl := Option.some.inj ho
                            obtain rfl := Option.some.inj hT0
                            clear ho hT0
                            exact ⟨fun _ => val_wp (run_pick_f rfl (D 2 _ rfl rfl) (D 12 _ rfl rfl)) rfl hM, fun h => by rw [wanted_none rfl] at h; cases h⟩
                          | j9 + 14, ho, hT0, hl, D, DL => exact absurd hT0 (by simp)
                        · intro a w5 E V hM
                          have E := E.add (V 13 _ rfl)
                          clear V
                          have hs := hs.fr hM (fun _ _ h => h)
                          have hcb38 := hcb38.fr hM
                          have hcb39 := hcb39.fr hM
                          have hX := Ix.fr hX hM (fun _ _ h => h)
                          have hra := hra.fr hM
                          have hrb := hrb.fr hM
                          have hrowg := fun j u hu => hM.cell (hrowg j u hu) id
                          have hcb51 := hcb51.fr hM
                          have hf := hf.trans hM
                          clear hM
                          refine then_n ?_
                          refine wp_cond_false (E.get 0 rfl) ?_
                          refine wp_skip ?_
                          refine blk_n ?_
                          refine then_n ?_
                          refine wp_region_lit ?_
                          refine env_put (d := 91) (v := .int .i64 (j : Int)) E rfl (by decide) rfl (wanted_none rfl _) (run_move rfl (E.get 16 rfl)) fun a E => ?_
                          refine env_put (d := 92) (v := .int .i64 ((j : Int) + 1)) E rfl (by decide) rfl (wanted_none rfl _) (run_iadd Try.underlying3 (E.get 0 rfl) rfl (by omega) (by omega) rfl) fun a E => ?_
                          refine env_set (d := 12) (v := .int .i64 ((j : Int) + 1)) E rfl (by decide) (wanted_none rfl _) (run_assign rfl (E.get 0 rfl)) fun a E => ?_
                          refine wpList_nil ?_
                          refine then_n ?_
                          refine ⟨⟨j + 1, E.of ⟨E.get 0 rfl, E.get 19 rfl, E.get 20 rfl, E.get 21 rfl, E.get 22 rfl, E.get 23 rfl, E.get 24 rfl, trivial⟩, by omega, hX, hs, hf, hcb38, hcb39, hra, hrb⟩, ?_⟩
                          rw [E.get 0 rfl]; simp only [intOf]; omega
                      | true =>
                        have hin : inL Ra s = true := inL_iff.2 ((hIa.2 s).2 ⟨c, hmc, of_decide_eq_true hma⟩)
                        refine wp_region_invg (n := 117) (base := [(14, .bool true), (13, .pointer (some ⟨b51, 0, none⟩)), (101, .bool true), (100, .agg (bxC c)), (93, .tuple #[.agg (bxC c), .bool true]), (99, .tuple #[.agg (bxC c), .bool true]), (98, .string s), (97, .pointer (some ⟨g, (offg + j), none⟩)), (96, .int .i64 (j : Int)), (95, .slice (prb) Rb.length crb), (94, .pointer (some ⟨q, 0, none⟩)), (90, .bool true), (89, .int .i64 (Rb.length : Int)), (88, .slice (prb) Rb.length crb), (87, .int .i64 (j : Int)), (12, .int .i64 (j : Int)), (9, .slice (pra) Ra.length cra), (10, .slice (prb) Rb.length crb), (8, .pointer (some ⟨q, 0, none⟩)), (7, .bool true), (4, .pointer (some ⟨b38, 0, none⟩)), (0, .slice (p) l.length cap)]) (T := [some (102, .bool true), some (103, .bool false), some (104, .bool false), some (105, .agg (bxC c)), some (106, .agg (bxC a0)), some (107, .bool true), some (108, .slice (pra) Ra.length cra), some (109, .slice (prb) Rb.length crb), some (110, .int .i64 (j : Int)), some (111, .pointer (some ⟨g, (offg + j), none⟩)), some (112, .string s), some (113, .bool true), some (114, .bool false), some (115, .bool false)]) (M := fun _ wm => Fr (fun _ => False) w1 wm) (by kernel_rfl) (by kernel_rfl) (by kernel_rfl) (E.of ⟨E.get 0 rfl, E.get 1 rfl, E.get 2 rfl, E.get 3 rfl, E.get 4 rfl, E.get 5 rfl, E.get 6 rfl, E.get 7 rfl, E.get 8 rfl, E.get 9 rfl, E.get 10 rfl, E.get 11 rfl, E.get 12 rfl, E.get 13 rfl, E.get 14 rfl, E.get 15 rfl, E.get 16 rfl, E.get 17 rfl, E.get 18 rfl, E.get 19 rfl, E.get 20 rfl, E.get 21 rfl, trivial⟩) (Fr.refl _ _).drew ?_ ?_
                        · intro j9 o9 t9 ls9 a w5 ho hT0 hl E D DL hM
                          have hs := hs.fr hM (fun _ _ h => h)
                          have hcb38 := hcb38.fr hM
                          have hcb39 := hcb39.fr hM
                          have hX := Ix.fr hX hM (fun _ _ h => h)
                          have hra := hra.fr hM
                          have hrb := hrb.fr hM
                          have hrowg := fun j u hu => hM.cell (hrowg j u hu) id
                          have hcb51 := hcb51.fr hM
                          match j9, ho, hT0, hl, D, DL with
                          | 0, ho, hT0, hl, D, DL =>
                            obtain rfl := Option.some.inj ho
                            obtain rfl := Option.some.inj hT0
                            clear ho hT0
                            exact ⟨fun _ => val_wp (run_move rfl (E.get 0 rfl)) rfl hM, fun h => by rw [wanted_none rfl] at h; cases h⟩
                          | 1, ho, hT0, hl, D, DL =>
                            obtain rfl := Option.some.inj ho
                            obtain rfl := Option.some.inj hT0
                            clear ho hT0
                            exact ⟨fun _ => val_wp (run_not rfl (D 0 _ rfl rfl)) rfl hM, fun h => by rw [wanted_none rfl] at h; cases h⟩
                          | 2, ho, hT0, hl, D, DL =>
                            obtain rfl := Option.some.inj ho
                            obtain rfl := Option.some.inj hT0
                            clear ho hT0
                            exact ⟨fun _ => val_wp (run_move rfl (D 1 _ rfl rfl)) rfl hM, fun h => by rw [wanted_none rfl] at h; cases h⟩
                          | 3, ho, hT0, hl, D, DL =>
                            obtain rfl := Option.some.inj ho
                            obtain rfl := Option.some.inj hT0
                            clear ho hT0
                            exact ⟨fun _ => val_wp (run_ld26 rfl (E.get 1 rfl) (rng4 (p := c) hcb51.1 0 rfl rfl rfl rfl)) rfl hM, fun h => by rw [w_yes (g := 2) (s := 104) (b := false) E rfl rfl (by decide) (D 2 _ rfl rfl)] at h; cases h⟩
                          | 4, ho, hT0, hl, D, DL =>
                            obtain rfl := Option.some.inj ho
                            obtain rfl := Option.some.inj hT0
                            clear ho hT0
                            exact ⟨fun _ => val_wp (run_ld26 rfl (E.get 20 rfl) (rng4 (p := a0) hcb38.1 0 rfl rfl rfl rfl)) rfl hM, fun h => by rw [w_yes (g := 2) (s := 104) (b := false) E rfl rfl (by decide) (D 2 _ rfl rfl)] at h; cases h⟩
                          | 5, ho, hT0, hl, D, DL =>
                            obtain rfl := Option.some.inj ho
                            obtain rfl := Option.some.inj hT0
                            clear ho hT0
                            exact ⟨fun _ => call_wp (run_call2 (enters_of Try.func25 (by kernel_rfl) rfl) rfl rfl (D 3 _ rfl rfl) (D 4 _ rfl rfl)) ((rmeet_calls c a0 _).mono fun e w h => ⟨h.1.trans (by rw [hma]), h.2⟩) rfl fun w9 f1 => (hM.trans f1), fun h => by rw [w_yes (g := 2) (s := 104) (b := false) E rfl rfl (by decide) (D 2 _ rfl rfl)] at h; cases h⟩
                          | 6, ho, hT0, hl, D, DL =>
                            obtain rfl := Option.some.inj ho
                            obtain rfl := Option.some.inj hT0
                            clear ho hT0
                            exact ⟨fun _ => val_wp (run_move rfl (E.get 16 rfl)) rfl hM, fun h => by rw [w_yes (g := 2) (s := 104) (b := false) E rfl rfl (by decide) (D 2 _ rfl rfl)] at h; cases h⟩
                          | 7, ho, hT0, hl, D, DL =>
                            obtain rfl := Option.some.inj ho
                            obtain rfl := Option.some.inj hT0
                            clear ho hT0
                            exact ⟨fun _ => val_wp (run_move rfl (E.get 17 rfl)) rfl hM, fun h => by rw [w_yes (g := 2) (s := 104) (b := false) E rfl rfl (by decide) (D 2 _ rfl rfl)] at h; cases h⟩
                          | 8, ho, hT0, hl, D, DL =>
                            obtain rfl := Option.some.inj ho
                            obtain rfl := Option.some.inj hT0
                            clear ho hT0
                            exact ⟨fun _ => val_wp (run_move rfl (E.get 15 rfl)) rfl hM, fun h => by rw [w_yes (g := 2) (s := 104) (b := false) E rfl rfl (by decide) (D 2 _ rfl rfl)] at h; cases h⟩
                          | 9, ho, hT0, hl, D, DL =>
                            obtain rfl := Option.some.inj ho
                            obtain rfl := Option.some.inj hT0
                            clear ho hT0
                            exact ⟨fun _ => val_wp (run_index42 (i := j) rfl ((D 7 _ rfl rfl).trans (by rw [hpeg])) (D 8 _ rfl rfl) hlts) rfl hM, fun h => by rw [w_yes (g := 2) (s := 104) (b := false) E rfl rfl (by decide) (D 2 _ rfl rfl)] at h; cases h⟩
                          | 10, ho, hT0, hl, D, DL =>
                            obtain rfl := Option.some.inj ho
                            obtain rfl := Option.some.inj hT0
                            clear ho hT0
                            exact ⟨fun _ => val_wp (run_lds rfl (D 9 _ rfl rfl) (str_at hrowg)) rfl hM, fun h => by rw [w_yes (g := 2) (s := 104) (b := false) E rfl rfl (by decide) (D 2 _ rfl rfl)] at h; cases h⟩
                          | 11, ho, hT0, hl, D, DL =>
                            obtain rfl := Option.some.inj ho
                            obtain rfl := Option.some.inj hT0
                            clear ho hT0
                            exact ⟨fun _ => call_wp (run_call2 (enters_of Try.func26 (by kernel_rfl) rfl) rfl rfl (D 6 _ rfl rfl) (D 10 _ rfl rfl)) ((has_rw hra s).mono fun e w h => ⟨h.1.trans (by rw [hin]), h.2⟩) rfl fun w9 f1 => (hM.trans f1), fun h => by rw [w_yes (g := 2) (s := 104) (b := false) E rfl rfl (by decide) (D 2 _ rfl rfl)] at h; cases h⟩
                          | 12, ho, hT0, hl, D, DL =>
                            obtain rfl := Option.some.inj ho
                            obtain rfl := Option.some.inj hT0
                            clear ho hT0
                            exact ⟨fun _ => val_wp (run_bneq (D 5 _ rfl rfl) (D 11 _ rfl rfl) rfl) rfl hM, fun h => by rw [w_yes (g := 2) (s := 104) (b := false) E rfl rfl (by decide) (D 2 _ rfl rfl)] at h; cases h⟩
                          | 13, ho, hT0, hl, D, DL =>
                            obtain rfl := Option.some.inj ho
                            obtain rfl := Option.some.inj hT0
                            clear ho hT0
                            exact ⟨fun _ => val_wp (run_pick_f rfl (D 2 _ rfl rfl) (D 12 _ rfl rfl)) rfl hM, fun h => by rw [wanted_none rfl] at h; cases h⟩
                          | j9 + 14, ho, hT0, hl, D, DL => exact absurd hT0 (by simp)
                        · intro a w5 E V hM
                          have E := E.add (V 13 _ rfl)
                          clear V
                          have hs := hs.fr hM (fun _ _ h => h)
                          have hcb38 := hcb38.fr hM
                          have hcb39 := hcb39.fr hM
                          have hX := Ix.fr hX hM (fun _ _ h => h)
                          have hra := hra.fr hM
                          have hrb := hrb.fr hM
                          have hrowg := fun j u hu => hM.cell (hrowg j u hu) id
                          have hcb51 := hcb51.fr hM
                          have hf := hf.trans hM
                          clear hM
                          refine then_n ?_
                          refine wp_cond_false (E.get 0 rfl) ?_
                          refine wp_skip ?_
                          refine blk_n ?_
                          refine then_n ?_
                          refine wp_region_lit ?_
                          refine env_put (d := 91) (v := .int .i64 (j : Int)) E rfl (by decide) rfl (wanted_none rfl _) (run_move rfl (E.get 16 rfl)) fun a E => ?_
                          refine env_put (d := 92) (v := .int .i64 ((j : Int) + 1)) E rfl (by decide) rfl (wanted_none rfl _) (run_iadd Try.underlying3 (E.get 0 rfl) rfl (by omega) (by omega) rfl) fun a E => ?_
                          refine env_set (d := 12) (v := .int .i64 ((j : Int) + 1)) E rfl (by decide) (wanted_none rfl _) (run_assign rfl (E.get 0 rfl)) fun a E => ?_
                          refine wpList_nil ?_
                          refine then_n ?_
                          refine ⟨⟨j + 1, E.of ⟨E.get 0 rfl, E.get 19 rfl, E.get 20 rfl, E.get 21 rfl, E.get 22 rfl, E.get 23 rfl, E.get 24 rfl, trivial⟩, by omega, hX, hs, hf, hcb38, hcb39, hra, hrb⟩, ?_⟩
                          rw [E.get 0 rfl]; simp only [intOf]; omega
                  | true =>
                    rw [hq48] at E
                    have hlts : i < Ra.length := by have := of_decide_eq_true hq48; omega
                    obtain ⟨s, hys⟩ : ∃ s, Ra[i]? = some s := ⟨_, List.getElem?_eq_getElem hlts⟩
                    obtain ⟨p9, c9, hv9, hsr, _⟩ := hra.src
                    cases hv9
                    obtain ⟨g, offg, hpeg, hglg, hrowg⟩ := hsr.at hlts
                    replace hrowg := hrowg _ s hys
                    clear hsr
                    obtain ⟨c, hmc, hmt⟩ := (hIa.2 s).1 (List.mem_of_getElem? hys)
                    have hin : inL Rb s = true := inL_iff.2 ((hIb.2 s).2 ⟨c, hmc, by unfold mtB at hmt ⊢; omega⟩)
                    refine wp_cond_true (E.get 0 rfl) ?_
                    refine wp_skip ?_
                    refine then_n ?_
                    refine wp_seq ?_
                    refine wp_block ?_
                    refine wp_seq ?_
                    refine wp_region_lit ?_
                    refine env_put (d := 80) (v := .slice (prb) Rb.length crb) E rfl (by decide) rfl (wanted_none rfl _) (run_move rfl (E.get 6 rfl)) fun a E => ?_
                    refine env_put (d := 81) (v := .slice (pra) Ra.length cra) E rfl (by decide) rfl (wanted_none rfl _) (run_move rfl (E.get 6 rfl)) fun a E => ?_
                    refine env_put (d := 82) (v := .int .i64 (i : Int)) E rfl (by decide) rfl (wanted_none rfl _) (run_move rfl (E.get 6 rfl)) fun a E => ?_
                    refine env_put (d := 83) (v := .pointer (some ⟨g, (offg + i), none⟩)) E rfl (by decide) rfl (wanted_none rfl _) (run_index42 (i := i) rfl ((E.get 1 rfl).trans (by rw [hpeg])) (E.get 0 rfl) hlts) fun a E => ?_
                    refine env_put (d := 84) (v := .string s) E rfl (by decide) rfl (wanted_none rfl _) (run_lds rfl (E.get 0 rfl) (str_at hrowg)) fun a E => ?_
                    refine env_call (d := 85) (v := .bool true) E rfl (by decide) rfl (wanted_none rfl _) (run_call2 (enters_of Try.func26 (by kernel_rfl) rfl) rfl rfl (E.get 4 rfl) (E.get 0 rfl)) ((has_rw hrb s).mono fun e w h => ⟨h.1.trans (by rw [hin]), h.2⟩) fun a w1 f1 E => ?_
                    have hs := hs.fr f1 (fun _ _ h => h)
                    have hcb38 := hcb38.fr f1
                    have hcb39 := hcb39.fr f1
                    have hX := Ix.fr hX f1 (fun _ _ h => h)
                    have hra := hra.fr f1
                    have hrb := hrb.fr f1
                    have hrowg := fun j u hu => f1.cell (hrowg j u hu) id
                    have hf := hf.trans f1
                    clear f1
                    refine env_put (d := 86) (v := .bool false) E rfl (by decide) rfl (wanted_none rfl _) (run_not rfl (E.get 0 rfl)) fun a E => ?_
                    refine wpList_nil ?_
                    refine then_n ?_
                    refine wp_cond_false (E.get 0 rfl) ?_
                    refine wp_skip ?_
                    refine blk_n ?_
                    refine then_n ?_
                    refine wp_region_lit ?_
                    refine env_put (d := 78) (v := .int .i64 (i : Int)) E rfl (by decide) rfl (wanted_none rfl _) (run_move rfl (E.get 11 rfl)) fun a E => ?_
                    refine env_put (d := 79) (v := .int .i64 ((i : Int) + 1)) E rfl (by decide) rfl (wanted_none rfl _) (run_iadd Try.underlying3 (E.get 0 rfl) rfl (by omega) (by omega) rfl) fun a E => ?_
                    refine env_set (d := 11) (v := .int .i64 ((i : Int) + 1)) E rfl (by decide) (wanted_none rfl _) (run_assign rfl (E.get 0 rfl)) fun a E => ?_
                    refine wpList_nil ?_
                    refine then_n ?_
                    refine ⟨⟨i + 1, E.of ⟨E.get 0 rfl, E.get 14 rfl, E.get 15 rfl, E.get 16 rfl, E.get 17 rfl, E.get 18 rfl, E.get 19 rfl, trivial⟩, by omega, hX, hs, hf, hcb38, hcb39, hra, hrb⟩, ?_⟩
                    rw [E.get 0 rfl]; simp only [intOf]; omega
              | true =>
                rw [hq46] at E
                refine wp_cond_true (E.get 0 rfl) ?_
                refine wp_seq ?_
                refine wp_region_lit ?_
                refine env_put (d := 65) (v := .bool true) E rfl (by decide) rfl (wanted_none rfl _) (run_move rfl (E.get 49 rfl)) fun a E => ?_
                refine env_set (d := 6) (v := .bool true) E rfl (by decide) (wanted_none rfl _) (run_assign rfl (E.get 0 rfl)) fun a E => ?_
                refine wpList_nil ?_
                refine then_n ?_
                refine wp_ret ?_
                refine then_r ?_
                exact ret_tmp (t := 6) rfl E (E.get 0 rfl) ⟨rfl, hf⟩
            | true =>
              rw [hq45] at E
              refine env_skip (d := 57) (g := 40) (s := 56) E rfl (by decide) rfl rfl rfl (by decide) (E.get 0 rfl) fun a E => ?_
              refine env_skip (d := 58) (g := 40) (s := 56) E rfl (by decide) rfl rfl rfl (by decide) (E.get 1 rfl) fun a E => ?_
              refine env_skip (d := 59) (g := 40) (s := 56) E rfl (by decide) rfl rfl rfl (by decide) (E.get 2 rfl) fun a E => ?_
              refine env_skip (d := 60) (g := 40) (s := 56) E rfl (by decide) rfl rfl rfl (by decide) (E.get 3 rfl) fun a E => ?_
              refine env_skip (d := 61) (g := 40) (s := 56) E rfl (by decide) rfl rfl rfl (by decide) (E.get 4 rfl) fun a E => ?_
              refine env_skip (d := 62) (g := 40) (s := 56) E rfl (by decide) rfl rfl rfl (by decide) (E.get 5 rfl) fun a E => ?_
              refine env_skip (d := 63) (g := 40) (s := 56) E rfl (by decide) rfl rfl rfl (by decide) (E.get 6 rfl) fun a E => ?_
              refine env_put (d := 64) (v := .bool true) E rfl (by decide) rfl (wanted_none rfl _) (run_pick_t rfl (E.get 7 rfl) rfl) fun a E => ?_
              refine wpList_nil ?_
              refine then_n ?_
              refine wp_cond_true (E.get 0 rfl) ?_
              refine wp_seq ?_
              refine wp_region_lit ?_
              refine env_put (d := 65) (v := .bool true) E rfl (by decide) rfl (wanted_none rfl _) (run_move rfl (E.get 49 rfl)) fun a E => ?_
              refine env_set (d := 6) (v := .bool true) E rfl (by decide) (wanted_none rfl _) (run_assign rfl (E.get 0 rfl)) fun a E => ?_
              refine wpList_nil ?_
              refine then_n ?_
              refine wp_ret ?_
              refine then_r ?_
              exact ret_tmp (t := 6) rfl E (E.get 0 rfl) ⟨rfl, hf⟩
          | true =>
            rw [hq44] at E
            refine env_skip (d := 48) (g := 31) (s := 47) E rfl (by decide) rfl rfl rfl (by decide) (E.get 0 rfl) fun a E => ?_
            refine env_skip (d := 49) (g := 31) (s := 47) E rfl (by decide) rfl rfl rfl (by decide) (E.get 1 rfl) fun a E => ?_
            refine env_skip (d := 50) (g := 31) (s := 47) E rfl (by decide) rfl rfl rfl (by decide) (E.get 2 rfl) fun a E => ?_
            refine env_skip (d := 51) (g := 31) (s := 47) E rfl (by decide) rfl rfl rfl (by decide) (E.get 3 rfl) fun a E => ?_
            refine env_skip (d := 52) (g := 31) (s := 47) E rfl (by decide) rfl rfl rfl (by decide) (E.get 4 rfl) fun a E => ?_
            refine env_skip (d := 53) (g := 31) (s := 47) E rfl (by decide) rfl rfl rfl (by decide) (E.get 5 rfl) fun a E => ?_
            refine env_skip (d := 54) (g := 31) (s := 47) E rfl (by decide) rfl rfl rfl (by decide) (E.get 6 rfl) fun a E => ?_
            refine env_put (d := 55) (v := .bool true) E rfl (by decide) rfl (wanted_none rfl _) (run_pick_t rfl (E.get 7 rfl) rfl) fun a E => ?_
            refine env_put (d := 56) (v := .bool true) E rfl (by decide) rfl (wanted_none rfl _) (run_move rfl (E.get 0 rfl)) fun a E => ?_
            refine env_skip (d := 57) (g := 40) (s := 56) E rfl (by decide) rfl rfl rfl (by decide) (E.get 0 rfl) fun a E => ?_
            refine env_skip (d := 58) (g := 40) (s := 56) E rfl (by decide) rfl rfl rfl (by decide) (E.get 1 rfl) fun a E => ?_
            refine env_skip (d := 59) (g := 40) (s := 56) E rfl (by decide) rfl rfl rfl (by decide) (E.get 2 rfl) fun a E => ?_
            refine env_skip (d := 60) (g := 40) (s := 56) E rfl (by decide) rfl rfl rfl (by decide) (E.get 3 rfl) fun a E => ?_
            refine env_skip (d := 61) (g := 40) (s := 56) E rfl (by decide) rfl rfl rfl (by decide) (E.get 4 rfl) fun a E => ?_
            refine env_skip (d := 62) (g := 40) (s := 56) E rfl (by decide) rfl rfl rfl (by decide) (E.get 5 rfl) fun a E => ?_
            refine env_skip (d := 63) (g := 40) (s := 56) E rfl (by decide) rfl rfl rfl (by decide) (E.get 6 rfl) fun a E => ?_
            refine env_put (d := 64) (v := .bool true) E rfl (by decide) rfl (wanted_none rfl _) (run_pick_t rfl (E.get 7 rfl) rfl) fun a E => ?_
            refine wpList_nil ?_
            refine then_n ?_
            refine wp_cond_true (E.get 0 rfl) ?_
            refine wp_seq ?_
            refine wp_region_lit ?_
            refine env_put (d := 65) (v := .bool true) E rfl (by decide) rfl (wanted_none rfl _) (run_move rfl (E.get 49 rfl)) fun a E => ?_
            refine env_set (d := 6) (v := .bool true) E rfl (by decide) (wanted_none rfl _) (run_assign rfl (E.get 0 rfl)) fun a E => ?_
            refine wpList_nil ?_
            refine then_n ?_
            refine wp_ret ?_
            refine then_r ?_
            exact ret_tmp (t := 6) rfl E (E.get 0 rfl) ⟨rfl, hf⟩
        | true =>
          rw [hq43] at E
          refine env_skip (d := 39) (g := 22) (s := 38) E rfl (by decide) rfl rfl rfl (by decide) (E.get 0 rfl) fun a E => ?_
          refine env_skip (d := 40) (g := 22) (s := 38) E rfl (by decide) rfl rfl rfl (by decide) (E.get 1 rfl) fun a E => ?_
          refine env_skip (d := 41) (g := 22) (s := 38) E rfl (by decide) rfl rfl rfl (by decide) (E.get 2 rfl) fun a E => ?_
          refine env_skip (d := 42) (g := 22) (s := 38) E rfl (by decide) rfl rfl rfl (by decide) (E.get 3 rfl) fun a E => ?_
          refine env_skip (d := 43) (g := 22) (s := 38) E rfl (by decide) rfl rfl rfl (by decide) (E.get 4 rfl) fun a E => ?_
          refine env_skip (d := 44) (g := 22) (s := 38) E rfl (by decide) rfl rfl rfl (by decide) (E.get 5 rfl) fun a E => ?_
          refine env_skip (d := 45) (g := 22) (s := 38) E rfl (by decide) rfl rfl rfl (by decide) (E.get 6 rfl) fun a E => ?_
          refine env_put (d := 46) (v := .bool true) E rfl (by decide) rfl (wanted_none rfl _) (run_pick_t rfl (E.get 7 rfl) rfl) fun a E => ?_
          refine env_put (d := 47) (v := .bool true) E rfl (by decide) rfl (wanted_none rfl _) (run_move rfl (E.get 0 rfl)) fun a E => ?_
          refine env_skip (d := 48) (g := 31) (s := 47) E rfl (by decide) rfl rfl rfl (by decide) (E.get 0 rfl) fun a E => ?_
          refine env_skip (d := 49) (g := 31) (s := 47) E rfl (by decide) rfl rfl rfl (by decide) (E.get 1 rfl) fun a E => ?_
          refine env_skip (d := 50) (g := 31) (s := 47) E rfl (by decide) rfl rfl rfl (by decide) (E.get 2 rfl) fun a E => ?_
          refine env_skip (d := 51) (g := 31) (s := 47) E rfl (by decide) rfl rfl rfl (by decide) (E.get 3 rfl) fun a E => ?_
          refine env_skip (d := 52) (g := 31) (s := 47) E rfl (by decide) rfl rfl rfl (by decide) (E.get 4 rfl) fun a E => ?_
          refine env_skip (d := 53) (g := 31) (s := 47) E rfl (by decide) rfl rfl rfl (by decide) (E.get 5 rfl) fun a E => ?_
          refine env_skip (d := 54) (g := 31) (s := 47) E rfl (by decide) rfl rfl rfl (by decide) (E.get 6 rfl) fun a E => ?_
          refine env_put (d := 55) (v := .bool true) E rfl (by decide) rfl (wanted_none rfl _) (run_pick_t rfl (E.get 7 rfl) rfl) fun a E => ?_
          refine env_put (d := 56) (v := .bool true) E rfl (by decide) rfl (wanted_none rfl _) (run_move rfl (E.get 0 rfl)) fun a E => ?_
          refine env_skip (d := 57) (g := 40) (s := 56) E rfl (by decide) rfl rfl rfl (by decide) (E.get 0 rfl) fun a E => ?_
          refine env_skip (d := 58) (g := 40) (s := 56) E rfl (by decide) rfl rfl rfl (by decide) (E.get 1 rfl) fun a E => ?_
          refine env_skip (d := 59) (g := 40) (s := 56) E rfl (by decide) rfl rfl rfl (by decide) (E.get 2 rfl) fun a E => ?_
          refine env_skip (d := 60) (g := 40) (s := 56) E rfl (by decide) rfl rfl rfl (by decide) (E.get 3 rfl) fun a E => ?_
          refine env_skip (d := 61) (g := 40) (s := 56) E rfl (by decide) rfl rfl rfl (by decide) (E.get 4 rfl) fun a E => ?_
          refine env_skip (d := 62) (g := 40) (s := 56) E rfl (by decide) rfl rfl rfl (by decide) (E.get 5 rfl) fun a E => ?_
          refine env_skip (d := 63) (g := 40) (s := 56) E rfl (by decide) rfl rfl rfl (by decide) (E.get 6 rfl) fun a E => ?_
          refine env_put (d := 64) (v := .bool true) E rfl (by decide) rfl (wanted_none rfl _) (run_pick_t rfl (E.get 7 rfl) rfl) fun a E => ?_
          refine wpList_nil ?_
          refine then_n ?_
          refine wp_cond_true (E.get 0 rfl) ?_
          refine wp_seq ?_
          refine wp_region_lit ?_
          refine env_put (d := 65) (v := .bool true) E rfl (by decide) rfl (wanted_none rfl _) (run_move rfl (E.get 49 rfl)) fun a E => ?_
          refine env_set (d := 6) (v := .bool true) E rfl (by decide) (wanted_none rfl _) (run_assign rfl (E.get 0 rfl)) fun a E => ?_
          refine wpList_nil ?_
          refine then_n ?_
          refine wp_ret ?_
          refine then_r ?_
          exact ret_tmp (t := 6) rfl E (E.get 0 rfl) ⟨rfl, hf⟩
end Go.Proofs.Ytcafnanbdmapgaa
