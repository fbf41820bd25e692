/- The two comparisons that sweep.All hands to slices.SortFunc. -/
import Derived.Test.YtiainjcimmeedaaCl
set_option linter.unusedVariables false
set_option linter.unusedSimpArgs false
namespace Go.Proofs.Ytiainjcimmeedaa
open Go.RowKit Go.Pl Go.Geo Go.Sort

theorem It.n_lt (a : It) : 0 ≤ a.n ∧ a.n < 20000 := by have := a.i.isLt; unfold It.n; omega

set_option maxRecDepth 100000 in
set_option maxHeartbeats 2000000 in
theorem cmpI_calls (x y : It) (w : World) : Calls Try.prog 20 #[.agg (itC x).toArray, .agg (itC y).toArray] w fun e w' => e = .returned (.int .i64 (cfI x y)) ∧ Gw w w' := by
  have bx := x.n_lt
  have by_ := y.n_lt
  refine wp_start2 Try.func20 rfl rfl (n := 19) (by decide) fun a E => ?_
  refine wp_seq ?_
  refine wp_region_lit ?_
  refine env_put (d := 2) E rfl (by decide) rfl (wanted_none rfl _) (run_box49 rfl (E.get 0 rfl)) fun a E => ?_
  refine env_put (d := 3) E rfl (by decide) rfl (wanted_none rfl _) (run_box49 rfl (E.get 2 rfl)) fun a E => ?_
  refine env_put (d := 4) (v := .int .i64 0) E rfl (by decide) rfl (wanted_none rfl _) (run_assign rfl rfl) fun a E => ?_
  refine wpList_nil ?_
  refine then_n ?_
  refine wp_seq ?_
  have hX : itB ((w.alloc (.cells (itC x).toArray 49)).alloc (.cells (itC y).toArray 49)) w.heap.size x := (blk_alloc (by simp) _).trans (blk_alloc_new _ _)
  have hY : itB ((w.alloc (.cells (itC x).toArray 49)).alloc (.cells (itC y).toArray 49)) (w.alloc (.cells (itC x).toArray 49)).heap.size y := blk_alloc_new _ _
  have hg : Gw w ((w.alloc (.cells (itC x).toArray 49)).alloc (.cells (itC y).toArray 49)) := ((Gw.refl w).alloc _).alloc _
  generalize (w.alloc (.cells (itC x).toArray 49)).heap.size = B1 at *
  generalize w.heap.size = B0 at *
  generalize (w.alloc (.cells (itC x).toArray 49)).alloc (.cells (itC y).toArray 49) = W0 at *
  obtain ⟨G, hG⟩ : ∃ G, W0.heap.size = G := ⟨_, rfl⟩
  refine wp_region_inv (n := 19) (base := [(3, .pointer (some ⟨B1, 0, none⟩)), (2, .pointer (some ⟨B0, 0, none⟩))]) (T := [some (5, .pointer (some ⟨B0, 5, none⟩)), some (6, .pointer (some ⟨B0, 5, none⟩)), some (7, .int .i64 (x.xl)), some (8, .pointer (some ⟨B1, 5, none⟩)), some (9, .pointer (some ⟨B1, 5, none⟩)), some (10, .int .i64 (y.xl)), some (11, .int .i64 (cmpI x.xl y.xl)), some (12, .pointer (some ⟨B0, 0, none⟩)), some (13, .int .i64 (x.n)), some (14, .pointer (some ⟨B1, 0, none⟩)), some (15, .int .i64 (y.n)), some (16, .int .i64 (x.n - y.n)), some (17, .slice (some ⟨G, 0, none⟩) 2 2), some (18, .int .i64 (cfI x y)), some (4, .int .i64 (cfI x y))]) (M := fun lst w' => Gw W0 w' ∧ (lst 12 = false → w'.heap.size = G) ∧ (lst 12 = true → w'.heap[G]? = some (.cells #[.int .i64 (cmpI x.xl y.xl), .int .i64 (x.n - y.n)] 3 (0, 0)))) (by kernel_rfl) (by kernel_rfl) (by kernel_rfl) (E.of ⟨E.get 1 rfl, E.get 2 rfl, trivial⟩) ⟨(Gw.refl W0).drew, fun _ => hG, fun h => by cases h⟩ ?_ ?_
  · intro i o tt lst a w2 ho hT0 hl E D DL hM
    match i, ho, hT0, hl, D, DL with
    | 0, ho, hT0, hl, D, DL =>
      obtain rfl := Option.some.inj ho
      obtain rfl := Option.some.inj hT0
      clear ho hT0
      exact val_wp (fa49_2 rfl (E.get 1 rfl)) rfl hM
    | 1, ho, hT0, hl, D, DL =>
      obtain rfl := Option.some.inj ho
      obtain rfl := Option.some.inj hT0
      clear ho hT0
      exact val_wp (fa46_0 rfl (D 0 _ rfl rfl)) rfl hM
    | 2, ho, hT0, hl, D, DL =>
      obtain rfl := Option.some.inj ho
      obtain rfl := Option.some.inj hT0
      clear ho hT0
      exact val_wp (ld_int rfl (D 1 _ rfl rfl) (hX.fr hM.1.fr id) rfl) rfl hM
    | 3, ho, hT0, hl, D, DL =>
      obtain rfl := Option.some.inj ho
      obtain rfl := Option.some.inj hT0
      clear ho hT0
      exact val_wp (fa49_2 rfl (E.get 0 rfl)) rfl hM
    | 4, ho, hT0, hl, D, DL =>
      obtain rfl := Option.some.inj ho
      obtain rfl := Option.some.inj hT0
      clear ho hT0
      exact val_wp (fa46_0 rfl (D 3 _ rfl rfl)) rfl hM
    | 5, ho, hT0, hl, D, DL =>
      obtain rfl := Option.some.inj ho
      obtain rfl := Option.some.inj hT0
      clear ho hT0
      exact val_wp (ld_int rfl (D 4 _ rfl rfl) (hY.fr hM.1.fr id) rfl) rfl hM
    | 6, ho, hT0, hl, D, DL =>
      obtain rfl := Option.some.inj ho
      obtain rfl := Option.some.inj hT0
      clear ho hT0
      exact call_wp (F := fun w' => w2 = w') (run_call2 (enters_of Try.func22 (by kernel_rfl) rfl) rfl rfl (D 2 _ rfl rfl) (D 5 _ rfl rfl)) (cmp_calls _ _ _) rfl fun w3 f => by subst f; exact ⟨hM.1, hM.2.1, hM.2.2⟩
    | 7, ho, hT0, hl, D, DL =>
      obtain rfl := Option.some.inj ho
      obtain rfl := Option.some.inj hT0
      clear ho hT0
      exact val_wp (fa49_0 rfl (E.get 1 rfl)) rfl hM
    | 8, ho, hT0, hl, D, DL =>
      obtain rfl := Option.some.inj ho
      obtain rfl := Option.some.inj hT0
      clear ho hT0
      exact val_wp (ld_int rfl (D 7 _ rfl rfl) (hX.fr hM.1.fr id) rfl) rfl hM
    | 9, ho, hT0, hl, D, DL =>
      obtain rfl := Option.some.inj ho
      obtain rfl := Option.some.inj hT0
      clear ho hT0
      exact val_wp (fa49_0 rfl (E.get 0 rfl)) rfl hM
    | 10, ho, hT0, hl, D, DL =>
      obtain rfl := Option.some.inj ho
      obtain rfl := Option.some.inj hT0
      clear ho hT0
      exact val_wp (ld_int rfl (D 9 _ rfl rfl) (hY.fr hM.1.fr id) rfl) rfl hM
    | 11, ho, hT0, hl, D, DL =>
      obtain rfl := Option.some.inj ho
      obtain rfl := Option.some.inj hT0
      clear ho hT0
      exact val_wp (run_isub (D 8 _ rfl rfl) (D 10 _ rfl rfl) (by omega) (by omega) rfl) rfl hM
    | 12, ho, hT0, hl, D, DL =>
      obtain rfl := Option.some.inj ho
      obtain rfl := Option.some.inj hT0
      clear ho hT0
      exact val_wpw ((run_ints2 rfl (D 6 _ rfl rfl) (D 11 _ rfl rfl)).trans (by rw [hM.2.1 hl])) rfl ⟨hM.1.alloc _, fun h => (by simp at h), fun _ => blk_alloc_at (hM.2.1 hl).symm _⟩
    | 13, ho, hT0, hl, D, DL =>
      obtain rfl := Option.some.inj ho
      obtain rfl := Option.some.inj hT0
      clear ho hT0
      have hd := DL 12 rfl
      have hb := hM.2.2 hd
      exact call_wp (F := fun w' => w2 = w') (run_call1 (enters_of Try.func21 (by kernel_rfl) rfl) rfl rfl (D 12 _ rfl rfl)) (or_calls (cmpI x.xl y.xl) (x.n - y.n) G w2 (by rw [cell_of_blk hb]; rfl) (by rw [cell_of_blk hb]; rfl)) rfl fun w3 f => by subst f; exact ⟨hM.1, hM.2.1, hM.2.2⟩
    | 14, ho, hT0, hl, D, DL =>
      obtain rfl := Option.some.inj ho
      obtain rfl := Option.some.inj hT0
      clear ho hT0
      exact val_wp (run_assign rfl (D 13 _ rfl rfl)) rfl hM
    | i + 15, ho, hT0, hl, D, DL => exact absurd hT0 (by simp)
  · intro a w2 E V hM
    refine then_n ?_
    refine wp_ret ?_
    exact ret_tmp (E := ⟨E.size, AllAt.mem (L := []) trivial, E.df⟩) (t := 4) rfl (V 14 _ rfl) ⟨rfl, (hg.trans hM.1)⟩

set_option maxHeartbeats 1000000 in
theorem cmpM_calls (x y : Mt) (w : World) : Calls Try.prog 27 #[.agg (mtC x).toArray, .agg (mtC y).toArray] w fun e w' => e = .returned (.int .i64 (cfM x y)) ∧ Gw w w' := by
  have a1 := x.a.isLt
  have a2 := x.b.isLt
  have a3 := y.a.isLt
  have a4 := y.b.isLt
  have hc := Lib.hid (or_calls ((x.a.val : Int) - y.a.val) ((x.b.val : Int) - y.b.val) (w.heap.size + 1 + 1) (((w.alloc (.cells (mtC x).toArray 36)).alloc (.cells (mtC y).toArray 36)).alloc (.cells #[.int .i64 ((x.a.val : Int) - y.a.val), .int .i64 ((x.b.val : Int) - y.b.val)] 3)) (by rw [cell_of_blk (blk_alloc_at (by simp) _)]; rfl) (by rw [cell_of_blk (blk_alloc_at (by simp) _)]; rfl))
  have hE : Hid (cfM x y = orI ((x.a.val : Int) - y.a.val) ((x.b.val : Int) - y.b.val)) := rfl
  go_enter Try.func27, Try.ntmps27
  go_wp2_with fail
  refine hc.out.mono ?_
  rintro e w' ⟨rfl, rfl⟩
  go_wp2
  go_ret
  exact ⟨by rw [hE.out]; rfl, (((Gw.refl w).alloc _).alloc _).alloc _⟩
end Go.Proofs.Ytiainjcimmeedaa
