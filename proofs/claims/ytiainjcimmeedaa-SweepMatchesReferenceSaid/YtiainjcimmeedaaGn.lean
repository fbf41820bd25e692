/- The program's geometry: Orient, sorted, On. -/
import Derived.Test.YtiainjcimmeedaaGm
set_option linter.unusedVariables false
set_option linter.unusedSimpArgs false
namespace Go.Proofs.Ytiainjcimmeedaa
open Go.RowKit Go.Pl Go.Geo

/-- Orient, at points of which one may be far. -/
def oriN (a b c : Pt) : Int := if ∀ p ∈ [a, b, c], nearP p then ori a b c else 0
set_option maxHeartbeats 1000000 in
theorem orient_calls (a b c : Pt) (w : World) : Calls Try.prog 31 #[.agg (ptC a), .agg (ptC b), .agg (ptC c)] w fun e w' => e = .returned (.int .i64 (oriN a b c)) ∧ Fr (fun _ => False) w w' := by
  have hA : ptB (((w.alloc (.cells (ptC a) 32)).alloc (.cells (ptC b) 32)).alloc (.cells (ptC c) 32)) w.heap.size a := (blk_alloc (by simp; omega) _).trans ((blk_alloc (by simp) _).trans (blk_alloc_new _ _))
  have hB : ptB (((w.alloc (.cells (ptC a) 32)).alloc (.cells (ptC b) 32)).alloc (.cells (ptC c) 32)) (w.heap.size + 1) b := (blk_alloc (by simp) _).trans (blk_alloc_at (by simp) _)
  have hC : ptB (((w.alloc (.cells (ptC a) 32)).alloc (.cells (ptC b) 32)).alloc (.cells (ptC c) 32)) (w.heap.size + 1 + 1) c := blk_alloc_at (by simp) _
  have hf : Fr (fun _ => False) w (((w.alloc (.cells (ptC a) 32)).alloc (.cells (ptC b) 32)).alloc (.cells (ptC c) 32)) := (((Fr.refl _ _).alloc _).alloc _).alloc _
  have hn := near3 a b c (((w.alloc (.cells (ptC a) 32)).alloc (.cells (ptC b) 32)).alloc (.cells (ptC c) 32))
  rw [show (((w.alloc (.cells (ptC a) 32)).alloc (.cells (ptC b) 32)).alloc (.cells (ptC c) 32)).heap.size = w.heap.size + 1 + 1 + 1 from by simp] at hn
  have hnH := Lib.hid hn
  have hAH := Lib.hid hA
  have hBH := Lib.hid hB
  have hCH := Lib.hid hC
  have hfH := Lib.hid hf
  clear hn hA hB hC hf
  go_enter Try.func31, Try.ntmps31
  go_wp2_with fail
  obtain ⟨M, hMe⟩ : ∃ M, M = w.heap.size := ⟨_, rfl⟩
  rw [← hMe] at hnH hAH hBH hCH ⊢
  clear hMe
  generalize ((w.alloc (.cells (ptC a) 32)).alloc (.cells (ptC b) 32)).alloc (.cells (ptC c) 32) = W at *
  refine hnH.out.mono ?_
  rintro e w1 ⟨rfl, f1⟩
  have hA := hAH.out.fr f1 (by simp)
  have hB := hBH.out.fr f1 (by simp)
  have hC := hCH.out.fr f1 (by simp)
  have hf := Lib.hid (hfH.out.trans f1)
  clear hnH hAH hBH hCH hfH f1
  by_cases hnr : ∀ p ∈ [a, b, c], nearP p
  · have hE : Hid (oriN a b c = cmpI ((b.1 - a.1) * (c.2 - a.2) - (b.2 - a.2) * (c.1 - a.1)) 0) := by unfold oriN; rw [Hid, if_pos hnr]; rfl
    have na := hnr a (by simp)
    have nb := hnr b (by simp)
    have nc := hnr c (by simp)
    have t1 : decide (∀ p ∈ [a, b, c], nearP p) = true := decide_eq_true hnr
    rw [t1]
    have q1 := Lib.hid (fun w => to_calls a b na nb w)
    have q2 := Lib.hid (fun w => to_calls a c na nc w)
    have q3 := Lib.hid (fun w => crossv_calls (b.1 - a.1) (b.2 - a.2) (c.1 - a.1) (c.2 - a.2) (by unfold nearP nearI at *; omega) (by unfold nearP nearI at *; omega) (by unfold nearP nearI at *; omega) (by unfold nearP nearI at *; omega) w)
    clear na nb nc hnr t1
    obtain ⟨a0, a1⟩ := hA.c
    obtain ⟨b0, b1⟩ := hB.c
    have hAH := Lib.hid hA
    have hCH := Lib.hid hC
    clear hA hB hC
    go_wp2_with fail
    refine (q1.out _).mono ?_
    rintro e w2 ⟨rfl, f2⟩
    have hA := hAH.out.fr f2 (by simp)
    have hC := hCH.out.fr f2 (by simp)
    have hf := Lib.hid (hf.out.trans f2)
    clear f2 q1 a0 a1 b0 b1 hAH hCH
    obtain ⟨a0, a1⟩ := hA.c
    obtain ⟨b0, b1⟩ := hC.c
    clear hA hC
    go_wp2_with fail
    refine (q2.out _).mono ?_
    rintro e w3 ⟨rfl, f3⟩
    have hf := Lib.hid (hf.out.trans f3)
    clear f3 q2 a0 a1 b0 b1
    go_wp2_with fail
    refine (q3.out _).mono ?_
    rintro e w4 ⟨rfl, f4⟩
    have hf := Lib.hid (hf.out.trans f4)
    clear f4 q3
    generalize (b.1 - a.1) * (c.2 - a.2) - (b.2 - a.2) * (c.1 - a.1) = t at *
    go_wp2_with fail
    refine (cmp_calls t 0 _).mono ?_
    rintro e w5 ⟨rfl, rfl⟩
    go_wp2
    go_ret
    exact ⟨by rw [hE.out]; rfl, hf.out⟩
  · have hE : Hid (oriN a b c = 0) := by unfold oriN; rw [Hid, if_neg hnr]
    have t1 : decide (∀ p ∈ [a, b, c], nearP p) = false := decide_eq_false hnr
    rw [t1]
    clear hnr t1
    go_wp2
    go_ret
    exact ⟨by rw [hE.out]; rfl, hf.out⟩

theorem Fr.set4 {F : Nat → Prop} {a w : World} (h : Fr F a w) {b : Nat} (hb : a.heap.size ≤ b) (v0 v1 v2 v3 : Value) : Fr F a ((((w.setCell ⟨b, 0, none⟩ v0).setCell ⟨b, 1, none⟩ v1).setCell ⟨b, 2, none⟩ v2).setCell ⟨b, 3, none⟩ v3) := by
  have k : ∀ i, (⟨b, i, none⟩ : Addr).block < a.heap.size → F (⟨b, i, none⟩ : Addr).block := fun i hi => absurd hi (Nat.not_lt.2 hb)
  exact (((h.setCell (k 0) v0).setCell (k 1) v1).setCell (k 2) v2).setCell (k 3) v3

set_option maxHeartbeats 2000000 in
theorem sorted_calls (s : Sg) (w : World) : Calls Try.prog 30 #[.agg (sgC s)] w fun e w' => e = .returned (.agg (sgC (srt s))) ∧ Fr (fun _ => False) w w' := by
  obtain ⟨⟨ax, ay⟩, bx, by_⟩ := s
  by_cases h : 0 < cmpP (ax, ay) (bx, by_)
  · have hE : Hid (srt ((ax, ay), bx, by_) = ((bx, by_), ax, ay)) := by unfold srt; rw [Hid, if_pos h]
    have hc := Lib.hid (fun w => compareP_calls (ax, ay) (bx, by_) w)
    obtain ⟨r, hr⟩ : ∃ r, r = cmpP (ax, ay) (bx, by_) := ⟨_, rfl⟩
    rw [← hr] at h hc
    clear hr
    go_enter Try.func30, Try.ntmps30
    go_wp2_with fail
    refine (hc.out _).mono ?_
    rintro e w1 ⟨rfl, f1⟩
    have b1 : sgB w1 w.heap.size ((ax, ay), bx, by_) := Fr.obj f1 ((blk_alloc (by simp) _).trans (blk_alloc_new _ _)) id
    have b2 : w1.heap[w.heap.size + 1]? = some (.cells #[.int .i64 0, .int .i64 0, .int .i64 0, .int .i64 0] 34 (0, 0)) := Fr.obj f1 (blk_alloc_at (by simp) _) id
    have hf : Fr (fun _ => False) w w1 := (((Fr.refl _ _).alloc _).alloc _).trans f1
    obtain ⟨M, hM⟩ : ∃ M, M = w.heap.size := ⟨_, rfl⟩
    rw [← hM] at b1 b2 ⊢
    obtain ⟨c0, c1, c2, c3⟩ := b1.c
    have z0 := free_of_blk b1 0
    have z1 := free_of_blk b1 1
    have z2 := free_of_blk b1 2
    have z3 := free_of_blk b1 3
    have y0 := free_of_blk b2 0
    have y1 := free_of_blk b2 1
    have y2 := free_of_blk b2 2
    have y3 := free_of_blk b2 3
    have d0 : w1.cell? ⟨M + 1, 0, none⟩ = some (.int .i64 0) := by rw [cell_of_blk b2]; rfl
    have d1 : w1.cell? ⟨M + 1, 1, none⟩ = some (.int .i64 0) := by rw [cell_of_blk b2]; rfl
    have d2 : w1.cell? ⟨M + 1, 2, none⟩ = some (.int .i64 0) := by rw [cell_of_blk b2]; rfl
    have d3 : w1.cell? ⟨M + 1, 3, none⟩ = some (.int .i64 0) := by rw [cell_of_blk b2]; rfl
    have hMH := Lib.hid hM
    have hfH := Lib.hid hf
    clear b1 b2 f1 hc hM hf
    go_wp2
    rw [hE.out]
    refine bodyPost_ret (v := .agg #[.int .i64 bx, .int .i64 by_, .int .i64 ax, .int .i64 ay]) (by simp [results, Try.results30, go_sem, d0, d1, d2, d3]) rfl ⟨rfl, ?_⟩
    have hM := hMH.out
    exact Fr.set4 (Fr.set4 hfH.out (by omega) _ _ _ _) (by omega) _ _ _ _
  · have hE : Hid (srt ((ax, ay), bx, by_) = ((ax, ay), bx, by_)) := by unfold srt; rw [Hid, if_neg h]
    have hc := Lib.hid (fun w => compareP_calls (ax, ay) (bx, by_) w)
    obtain ⟨r, hr⟩ : ∃ r, r = cmpP (ax, ay) (bx, by_) := ⟨_, rfl⟩
    rw [← hr] at h hc
    clear hr
    go_enter Try.func30, Try.ntmps30
    go_wp2_with fail
    refine (hc.out _).mono ?_
    rintro e w1 ⟨rfl, f1⟩
    have b1 : sgB w1 w.heap.size ((ax, ay), bx, by_) := Fr.obj f1 ((blk_alloc (by simp) _).trans (blk_alloc_new _ _)) id
    have b2 : w1.heap[w.heap.size + 1]? = some (.cells #[.int .i64 0, .int .i64 0, .int .i64 0, .int .i64 0] 34 (0, 0)) := Fr.obj f1 (blk_alloc_at (by simp) _) id
    have hf : Fr (fun _ => False) w w1 := (((Fr.refl _ _).alloc _).alloc _).trans f1
    obtain ⟨M, hM⟩ : ∃ M, M = w.heap.size := ⟨_, rfl⟩
    rw [← hM] at b1 b2 ⊢
    obtain ⟨c0, c1, c2, c3⟩ := b1.c
    have z0 := free_of_blk b1 0
    have z1 := free_of_blk b1 1
    have z2 := free_of_blk b1 2
    have z3 := free_of_blk b1 3
    have y0 := free_of_blk b2 0
    have y1 := free_of_blk b2 1
    have y2 := free_of_blk b2 2
    have y3 := free_of_blk b2 3
    have d0 : w1.cell? ⟨M + 1, 0, none⟩ = some (.int .i64 0) := by rw [cell_of_blk b2]; rfl
    have d1 : w1.cell? ⟨M + 1, 1, none⟩ = some (.int .i64 0) := by rw [cell_of_blk b2]; rfl
    have d2 : w1.cell? ⟨M + 1, 2, none⟩ = some (.int .i64 0) := by rw [cell_of_blk b2]; rfl
    have d3 : w1.cell? ⟨M + 1, 3, none⟩ = some (.int .i64 0) := by rw [cell_of_blk b2]; rfl
    have hMH := Lib.hid hM
    have hfH := Lib.hid hf
    clear b1 b2 f1 hc hM hf
    go_wp2
    rw [hE.out]
    refine bodyPost_ret (v := .agg #[.int .i64 ax, .int .i64 ay, .int .i64 bx, .int .i64 by_]) (by simp [results, Try.results30, go_sem, d0, d1, d2, d3]) rfl ⟨rfl, ?_⟩
    have hM := hMH.out
    exact Fr.set4 hfH.out (by omega) _ _ _ _
end Go.Proofs.Ytiainjcimmeedaa
