/- The index: Drop. -/
import Derived.Test.YtcafnanbdmapgaaK5
import Derived.Deep.QuietTactic
import Derived.BigQuiet
import Derived.Lib.Hide
import Derived.Deep.RegionLaw
set_option linter.unusedVariables false
set_option linter.unusedSimpArgs false
namespace Go.Proofs.Ytcafnanbdmapgaa
open Go.RowKit Go.Pl

/-- How the methods that turn the index end. -/
def IxPost (p mb N : Nat) (S : Nat → Prop) (m : ByteArray → Option Bx) (v : Value) (w : World) (e : Ending) (w' : World) : Prop :=
  e = .returned v ∧ ∃ rv pk, IxAt w' p mb N S m rv pk ∧ Fr (fun k => k = p ∨ k = mb) w w'
section
variable {w W : World} {p mb N : Nat} {S : Nat → Prop} {m : ByteArray → Option Bx} {rv : Value} {pk : Bool}
/-- The map turned, and then the flag. -/
theorem IxAt.turned {m' : ByteArray → Option Bx} {N' : Nat} (h : IxAt w p mb N S m rv pk) (hf : Fr (fun k => k = p ∨ k = mb) w W) (hp : W.heap[p]? = some (.cells #[.map (some mb), rv, .bool false] 61 (0, 0))) (hm : MapN Try.prog 9 W mb N' (bxM m')) (ok : ∀ s b, m' s = some b → okB b) : IxAt W p mb N' S m' rv false :=
  ⟨hp, hm, h.ne, h.np, h.nm, fun k hk => Nat.lt_of_lt_of_le (h.lt k hk) hf.size, ok, h.rp, fun e => by cases e⟩
end

set_option maxRecDepth 100000 in
set_option maxHeartbeats 4000000 in
theorem drop_calls {w : World} {p mb N : Nat} {S : Nat → Prop} {m : ByteArray → Option Bx} {rv : Value} {pk : Bool} (h : IxAt w p mb N S m rv pk) (s0 : ByteArray) (hsz : s0.size ≤ maxLen) : Calls Try.prog 30 #[.pointer (some ⟨p, 0, none⟩), .string s0] w (if (m s0).isSome then IxPost p mb N S (delB m s0) (.int .i64 0) w else IxPost p mb N S m (.int .i64 11) w) := by
  refine wp_start2 Try.func30 rfl rfl (n := 28) (by decide) fun a E => ?_
  have hf : Fr (fun _ => False) w w := Fr.refl _ _
  have hpl : p < w.heap.size := lt_of_blk h.hp
  have hml : mb < w.heap.size := h.hm.lt
  have hσ : ∀ k, S k → k < w.heap.size := h.lt
  refine wp_seq ?_
  refine wp_region_lit ?_
  refine env_put (d := 4) (v := .int .i64 0) E rfl (by decide) rfl (wanted_none rfl _) (run_assign rfl rfl) fun a E => ?_
  refine wpList_nil ?_
  refine then_n ?_
  refine wp_seq ?_
  refine wp_seq ?_
  refine wp_region_lit ?_
  refine env_put (d := 7) (v := .pointer (some ⟨p, 0, none⟩)) E rfl (by decide) rfl (wanted_none rfl _) (run_move rfl (E.get 1 rfl)) fun a E => ?_
  refine env_put (d := 8) (v := .bool false) E rfl (by decide) rfl (wanted_none rfl _) (run_pn29 rfl (E.get 0 rfl) rfl) fun a E => ?_
  refine wpList_nil ?_
  refine then_n ?_
  refine wp_cond_false (E.get 0 rfl) ?_
  refine wp_skip ?_
  refine then_n ?_
  refine wp_seq ?_
  refine wp_seq ?_
  cases hms : m s0 with
  | none =>
    refine wp_region_lit ?_
    refine env_put (d := 10) (v := .pointer (some ⟨p, 0, none⟩)) E rfl (by decide) rfl (wanted_none rfl _) (run_move rfl (E.get 3 rfl)) fun a E => ?_
    refine env_put (d := 11) (v := .pointer (some ⟨p, 0, none⟩)) E rfl (by decide) rfl (wanted_none rfl _) (run_nilchk rfl (E.get 0 rfl)) fun a E => ?_
    refine env_put (d := 12) (v := .pointer (some ⟨p, 0, none⟩)) E rfl (by decide) rfl (wanted_none rfl _) (fa61_0 rfl (E.get 0 rfl)) fun a E => ?_
    refine env_put (d := 13) (v := .map (some mb)) E rfl (by decide) rfl (wanted_none rfl _) (run_ld58 rfl (E.get 0 rfl) (bx h.hp 0 rfl)) fun a E => ?_
    refine env_put (d := 14) (v := .string s0) E rfl (by decide) rfl (wanted_none rfl _) (run_move rfl (E.get 8 rfl)) fun a E => ?_
    refine env_put (d := 15) (v := .tuple #[.agg (bxC ((0, 0), (0, 0))), .bool false]) E rfl (by decide) rfl (wanted_none rfl _) ((run_look58 h.hm hsz rfl (E.get 1 rfl) (E.get 0 rfl)).trans (by rw [hms] <;> rfl)) fun a E => ?_
    refine env_put (d := 9) (v := .tuple #[.agg (bxC ((0, 0), (0, 0))), .bool false]) E rfl (by decide) rfl (wanted_none rfl _) (run_move rfl (E.get 0 rfl)) fun a E => ?_
    refine env_put (d := 16) (v := .agg (bxC ((0, 0), (0, 0)))) E rfl (by decide) rfl (wanted_none rfl _) (run_ext0 rfl (E.get 0 rfl)) fun a E => ?_
    refine env_put (d := 17) (v := .bool false) E rfl (by decide) rfl (wanted_none rfl _) (run_ext1 rfl (E.get 1 rfl)) fun a E => ?_
    have hfz := hf.size
    refine env_alloc26 (d := 5) E rfl (by decide) rfl (wanted_none rfl _) rfl fun a w1 b34 eb34 hb34 f1 E => ?_
    have h := IxAt.fr h f1 id id (fun _ _ h => h)
    have hf := hf.trans f1
    clear f1
    have hnb34 : w.heap.size ≤ b34 := by omega
    clear hfz eb34
    refine env_st26 E rfl (wanted_none rfl _) rfl (E.get 0 rfl) (E.get 2 rfl) hb34 fun w1 hb34 f1 E => ?_
    have h := IxAt.fr h f1 (by omega) (by omega) (fun k hk => by have := hσ k hk; omega)
    have hf := hf.trans' f1 (fun r hr e => by omega)
    clear f1
    refine env_put (d := 6) (v := .bool false) E rfl (by decide) rfl (wanted_none rfl _) (run_assign rfl (E.get 1 rfl)) fun a E => ?_
    refine wpList_nil ?_
    refine then_n ?_
    refine wp_seq ?_
    refine wp_region_lit ?_
    refine env_put (d := 18) (v := .bool false) E rfl (by decide) rfl (wanted_none rfl _) (run_move rfl (E.get 0 rfl)) fun a E => ?_
    refine env_put (d := 19) (v := .bool true) E rfl (by decide) rfl (wanted_none rfl _) (run_not rfl (E.get 0 rfl)) fun a E => ?_
    refine wpList_nil ?_
    refine then_n ?_
    refine wp_cond_true (E.get 0 rfl) ?_
    refine wp_seq ?_
    refine wp_region_lit ?_
    refine env_set (d := 4) (v := .int .i64 11) E rfl (by decide) (wanted_none rfl _) (run_assign rfl rfl) fun a E => ?_
    refine wpList_nil ?_
    refine then_n ?_
    refine wp_ret ?_
    refine then_r ?_
    exact ret_tmp (t := 4) rfl E (E.get 0 rfl) (by exact ⟨rfl, _, _, h, hf.mono fun _ _ h => h.elim⟩)
  | some bb =>
    refine wp_region_lit ?_
    refine env_put (d := 10) (v := .pointer (some ⟨p, 0, none⟩)) E rfl (by decide) rfl (wanted_none rfl _) (run_move rfl (E.get 3 rfl)) fun a E => ?_
    refine env_put (d := 11) (v := .pointer (some ⟨p, 0, none⟩)) E rfl (by decide) rfl (wanted_none rfl _) (run_nilchk rfl (E.get 0 rfl)) fun a E => ?_
    refine env_put (d := 12) (v := .pointer (some ⟨p, 0, none⟩)) E rfl (by decide) rfl (wanted_none rfl _) (fa61_0 rfl (E.get 0 rfl)) fun a E => ?_
    refine env_put (d := 13) (v := .map (some mb)) E rfl (by decide) rfl (wanted_none rfl _) (run_ld58 rfl (E.get 0 rfl) (bx h.hp 0 rfl)) fun a E => ?_
    refine env_put (d := 14) (v := .string s0) E rfl (by decide) rfl (wanted_none rfl _) (run_move rfl (E.get 8 rfl)) fun a E => ?_
    refine env_put (d := 15) (v := .tuple #[.agg (bxC bb), .bool true]) E rfl (by decide) rfl (wanted_none rfl _) ((run_look58 h.hm hsz rfl (E.get 1 rfl) (E.get 0 rfl)).trans (by rw [hms] <;> rfl)) fun a E => ?_
    refine env_put (d := 9) (v := .tuple #[.agg (bxC bb), .bool true]) E rfl (by decide) rfl (wanted_none rfl _) (run_move rfl (E.get 0 rfl)) fun a E => ?_
    refine env_put (d := 16) (v := .agg (bxC bb)) E rfl (by decide) rfl (wanted_none rfl _) (run_ext0 rfl (E.get 0 rfl)) fun a E => ?_
    refine env_put (d := 17) (v := .bool true) E rfl (by decide) rfl (wanted_none rfl _) (run_ext1 rfl (E.get 1 rfl)) fun a E => ?_
    have hfz := hf.size
    refine env_alloc26 (d := 5) E rfl (by decide) rfl (wanted_none rfl _) rfl fun a w1 b35 eb35 hb35 f1 E => ?_
    have h := IxAt.fr h f1 id id (fun _ _ h => h)
    have hf := hf.trans f1
    clear f1
    have hnb35 : w.heap.size ≤ b35 := by omega
    clear hfz eb35
    refine env_st26 E rfl (wanted_none rfl _) rfl (E.get 0 rfl) (E.get 2 rfl) hb35 fun w1 hb35 f1 E => ?_
    have h := IxAt.fr h f1 (by omega) (by omega) (fun k hk => by have := hσ k hk; omega)
    have hf := hf.trans' f1 (fun r hr e => by omega)
    clear f1
    refine env_put (d := 6) (v := .bool true) E rfl (by decide) rfl (wanted_none rfl _) (run_assign rfl (E.get 1 rfl)) fun a E => ?_
    refine wpList_nil ?_
    refine then_n ?_
    refine wp_seq ?_
    refine wp_region_lit ?_
    refine env_put (d := 18) (v := .bool true) E rfl (by decide) rfl (wanted_none rfl _) (run_move rfl (E.get 0 rfl)) fun a E => ?_
    refine env_put (d := 19) (v := .bool false) E rfl (by decide) rfl (wanted_none rfl _) (run_not rfl (E.get 0 rfl)) fun a E => ?_
    refine wpList_nil ?_
    refine then_n ?_
    refine wp_cond_false (E.get 0 rfl) ?_
    refine wp_skip ?_
    refine then_n ?_
    refine wp_seq ?_
    refine wp_region_lit ?_
    refine env_put (d := 20) (v := .pointer (some ⟨p, 0, none⟩)) E rfl (by decide) rfl (wanted_none rfl _) (run_move rfl (E.get 16 rfl)) fun a E => ?_
    refine env_put (d := 21) (v := .pointer (some ⟨p, 0, none⟩)) E rfl (by decide) rfl (wanted_none rfl _) (run_nilchk rfl (E.get 0 rfl)) fun a E => ?_
    refine env_put (d := 22) (v := .pointer (some ⟨p, 0, none⟩)) E rfl (by decide) rfl (wanted_none rfl _) (fa61_0 rfl (E.get 0 rfl)) fun a E => ?_
    refine env_put (d := 23) (v := .map (some mb)) E rfl (by decide) rfl (wanted_none rfl _) (run_ld58 rfl (E.get 0 rfl) (bx h.hp 0 rfl)) fun a E => ?_
    refine env_put (d := 24) (v := .string s0) E rfl (by decide) rfl (wanted_none rfl _) (run_move rfl (E.get 21 rfl)) fun a E => ?_
    obtain ⟨l9, hk9⟩ := key9 hsz
    obtain ⟨od, hod⟩ := h.hm.drop law9 Try.underlying58 hk9
    obtain ⟨c1, c2⟩ := hod w1 rfl
    have c3 := c2.congr (bxM_del m s0)
    have f1 : Fr (fun k => k = p ∨ k = mb) w1 (setBlk w1 mb od) := (Fr.refl _ _).setBlk (fun _ => .inr rfl) _
    have hp9 : (setBlk w1 mb od).heap[p]? = some (.cells #[.map (some mb), rv, .bool pk] 61 (0, 0)) := (setBlk_other h.ne _).trans h.hp
    refine env_void E rfl (wanted_none rfl _) (run_del58 c1 rfl (E.get 1 rfl) (E.get 0 rfl)) fun E => ?_
    generalize setBlk w1 mb od = wD at c3 f1 hp9 ⊢
    have h0 := h
    clear h c1 c2 hod hk9
    refine wpList_nil ?_
    refine then_n ?_
    refine wp_seq ?_
    refine wp_region_lit ?_
    refine env_put (d := 25) (v := .pointer (some ⟨p, 0, none⟩)) E rfl (by decide) rfl (wanted_none rfl _) (run_move rfl (E.get 21 rfl)) fun a E => ?_
    refine env_put (d := 26) (v := .pointer (some ⟨p, 0, none⟩)) E rfl (by decide) rfl (wanted_none rfl _) (run_nilchk rfl (E.get 0 rfl)) fun a E => ?_
    refine env_put (d := 27) (v := .pointer (some ⟨p, 2, none⟩)) E rfl (by decide) rfl (wanted_none rfl _) (fa61_2 rfl (E.get 0 rfl)) fun a E => ?_
    refine env_store E rfl (wanted_none rfl _) (run_st4 rfl (E.get 0 rfl) rfl (bx hp9 2 rfl) (free_of_blk hp9 2)) fun E => ?_
    have hp8 := blk_setCell_same (off := 2) hp9 (.bool false)
    have f2 := f1.setCell (p := ⟨p, 2, none⟩) (fun _ => .inl rfl) (.bool false)
    have c4 := c3.of_blk (blk_setCell (p := ⟨p, 2, none⟩) (fun e => h0.ne e.symm) (.bool false))
    generalize World.setCell _ _ (.bool false) = wE at hp8 f2 c4 ⊢
    refine wpList_nil ?_
    refine then_n ?_
    refine wp_seq ?_
    refine wp_region_lit ?_
    refine env_set (d := 4) (v := .int .i64 0) E rfl (by decide) (wanted_none rfl _) (run_assign rfl rfl) fun a E => ?_
    refine wpList_nil ?_
    refine then_n ?_
    refine wp_ret ?_
    exact ret_tmp (t := 4) rfl E (E.get 0 rfl) (by exact ⟨rfl, _, _, h0.turned f2 hp8 c4 (fun s b hb => by unfold delB at hb; split at hb; cases hb; exact h0.ok s b hb), (hf.mono fun _ _ h => h.elim).trans' f2 (fun _ _ h => h)⟩)
end Go.Proofs.Ytcafnanbdmapgaa
set_option linter.unusedVariables false
set_option linter.unusedSimpArgs false
namespace Go.Proofs.Ytcafnanbdmapgaa
open Go.RowKit Go.Pl Go.WideMaps
def IxNew (w : World) (e : Ending) (w' : World) : Prop := ∃ p mb, e = .returned (.pointer (some ⟨p, 0, none⟩)) ∧ IxAt w' p mb 0 (fun _ => False) (fun _ => none) (.pointer none) false ∧ Fr (fun _ => False) w w' ∧ w.heap.size ≤ p ∧ w.heap.size ≤ mb
theorem new_calls (w : World) : Calls Try.prog 11 #[] w (IxNew w) := by
  have hfin : Hid (IxNew w (.returned (.pointer (some ⟨w.heap.size + 1, 0, none⟩))) ((w.alloc (.map #[] 0)).alloc (.cells #[.map (some w.heap.size), .pointer none, .bool false] 61))) := by
    refine ⟨w.heap.size + 1, w.heap.size, rfl, ⟨blk_alloc_at (by simp) _, ?_, by omega, id, id, fun _ h => h.elim, fun s b h => (by cases h), ⟨_, rfl⟩, fun h => (by cases h)⟩, by simp, by omega, Nat.le_refl _⟩
    refine (((MapN.made w).mono (Nat.zero_le _)).of_blk (blk_alloc (by simp) _)).congr fun k => ?_
    cases k <;> rfl
  have hmm := @run_makeMap Try.prog
  go_enter Try.func11, Try.ntmps11
  go_wp2
  go_ret
  exact hfin.out
end Go.Proofs.Ytcafnanbdmapgaa
