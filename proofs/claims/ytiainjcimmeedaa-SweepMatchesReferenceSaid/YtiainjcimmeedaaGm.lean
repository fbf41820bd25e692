/- The program's geometry: near, to, cross, Compare, Orient. -/
import Derived.Test.YtiainjcimmeedaaRows
import Derived.Test.YtiainjcimmeedaaBase
import Derived.Test.YtiainjcimmeedaaGeo
import Derived.Deep.QuietTactic
import Derived.BigQuiet
import Derived.Lib.Hide
import Derived.Deep.RegionLaw
set_option linter.unusedVariables false
set_option linter.unusedSimpArgs false
namespace Go.Proofs.Ytiainjcimmeedaa
open Go.RowKit Go.Pl Go.Geo

abbrev ptC (p : Pt) : Array Value := #[.int .i64 p.1, .int .i64 p.2]
abbrev sgC (s : Sg) : Array Value := #[.int .i64 s.1.1, .int .i64 s.1.2, .int .i64 s.2.1, .int .i64 s.2.2]

theorem nan_calls (n : Int) (w : World) : Calls Try.prog 35 #[.int .i64 n] w fun e w' => e = .returned (.bool false) ∧ w = w' := by
  go_enter Try.func35, Try.ntmps35
  go_wp2
  go_ret
  exact ⟨by simp, rfl⟩

theorem cmp_calls (a b : Int) (w : World) : Calls Try.prog 22 #[.int .i64 a, .int .i64 b] w fun e w' => e = .returned (.int .i64 (cmpI a b)) ∧ w = w' := by
  have h1 := nan_calls a w
  have h2 := nan_calls b w
  by_cases h : a < b
  · have hE : Hid (cmpI a b = -1) := by unfold cmpI; rw [Hid, if_pos h]
    go_enter Try.func22, Try.ntmps22
    go_wp2_with (go_at_call 35; refine (nan_calls _ _).mono ?_; rintro e w' ⟨rfl, rfl⟩)
    go_ret
    exact ⟨by rw [hE.out]; rfl, rfl⟩
  · by_cases h' : b < a
    · have hE : Hid (cmpI a b = 1) := by unfold cmpI; rw [Hid, if_neg h, if_pos h']
      go_enter Try.func22, Try.ntmps22
      go_wp2_with (go_at_call 35; refine (nan_calls _ _).mono ?_; rintro e w' ⟨rfl, rfl⟩)
      go_ret
      exact ⟨by rw [hE.out]; rfl, rfl⟩
    · have hE : Hid (cmpI a b = 0) := by unfold cmpI; rw [Hid, if_neg h, if_neg h']
      go_enter Try.func22, Try.ntmps22
      go_wp2_with (go_at_call 35; refine (nan_calls _ _).mono ?_; rintro e w' ⟨rfl, rfl⟩)
      go_ret
      exact ⟨by rw [hE.out]; rfl, rfl⟩

/-- A coordinate that is near. -/
def nearI (x : Int) : Prop := -2097152 ≤ x ∧ x ≤ 2097152
def nearP (p : Pt) : Prop := nearI p.1 ∧ nearI p.2
instance (p : Pt) : Decidable (nearP p) := by unfold nearP nearI; infer_instance
def nearS (s : Sg) : Prop := nearP s.1 ∧ nearP s.2
instance (s : Sg) : Decidable (nearS s) := by unfold nearS; infer_instance

theorem to_calls (a b : Pt) (ha : nearP a) (hb : nearP b) (w : World) : Calls Try.prog 42 #[.agg (ptC a), .agg (ptC b)] w fun e w' => e = .returned (.agg #[.int .i64 (b.1 - a.1), .int .i64 (b.2 - a.2)]) ∧ Fr (fun _ => False) w w' := by
  obtain ⟨⟨a1, a2⟩, a3, a4⟩ := ha
  obtain ⟨⟨b1, b2⟩, b3, b4⟩ := hb
  obtain ⟨ax, ay⟩ := a
  obtain ⟨bx, by_⟩ := b
  simp only at a1 a2 a3 a4 b1 b2 b3 b4
  go_enter Try.func42, Try.ntmps42
  go_wp2
  refine bodyPost_ret (v := .agg #[.int .i64 (bx - ax), .int .i64 (by_ - ay)]) (by simp [results, Try.results42, go_sem]) rfl ⟨rfl, ?_⟩
  exact (((Fr.refl _ _).alloc _).alloc _).alloc _

theorem mul_bd {x y : Int} (hx : -4194304 ≤ x ∧ x ≤ 4194304) (hy : -4194304 ≤ y ∧ y ≤ 4194304) : -17592186044416 ≤ x * y ∧ x * y ≤ 17592186044416 := by
  have h1 := Int.mul_nonneg (show 0 ≤ 4194304 - x by omega) (show 0 ≤ 4194304 - y by omega)
  have h2 := Int.mul_nonneg (show 0 ≤ 4194304 + x by omega) (show 0 ≤ 4194304 + y by omega)
  have h3 := Int.mul_nonneg (show 0 ≤ 4194304 + x by omega) (show 0 ≤ 4194304 - y by omega)
  have h4 := Int.mul_nonneg (show 0 ≤ 4194304 - x by omega) (show 0 ≤ 4194304 + y by omega)
  have e1 : (4194304 - x) * (4194304 - y) = 17592186044416 - 4194304 * x - 4194304 * y + x * y := by grind
  have e2 : (4194304 + x) * (4194304 + y) = 17592186044416 + 4194304 * x + 4194304 * y + x * y := by grind
  have e3 : (4194304 + x) * (4194304 - y) = 17592186044416 + 4194304 * x - 4194304 * y - x * y := by grind
  have e4 : (4194304 - x) * (4194304 + y) = 17592186044416 - 4194304 * x + 4194304 * y - x * y := by grind
  omega

theorem crossv_calls (a b c d : Int) (ha : -4194304 ≤ a ∧ a ≤ 4194304) (hb : -4194304 ≤ b ∧ b ≤ 4194304) (hc : -4194304 ≤ c ∧ c ≤ 4194304) (hd : -4194304 ≤ d ∧ d ≤ 4194304) (w : World) :
    Calls Try.prog 43 #[.agg #[.int .i64 a, .int .i64 b], .agg #[.int .i64 c, .int .i64 d]] w fun e w' => e = .returned (.int .i64 (a * d - b * c)) ∧ Fr (fun _ => False) w w' := by
  obtain ⟨h1, h2⟩ := mul_bd ha hd
  obtain ⟨h3, h4⟩ := mul_bd hb hc
  go_enter Try.func43, Try.ntmps43
  go_wp2
  go_ret
  exact ⟨rfl, by simp⟩

/-- Points that lie one behind the other. -/
def PtsAt (w : World) (b : Nat) (ps : List Pt) : Prop := ∀ i p, ps[i]? = some p → w.cell? ⟨b, i * 2, none⟩ = some (.int .i64 p.1) ∧ w.cell? ⟨b, i * 2 + 1, none⟩ = some (.int .i64 p.2)
theorem PtsAt.fr {w w' : World} {b : Nat} {ps : List Pt} (h : PtsAt w b ps) {F : Nat → Prop} (hf : Fr F w w') (hb : ¬ F b) : PtsAt w' b ps := fun i p hp => ⟨hf.cell (h i p hp).1 hb, hf.cell (h i p hp).2 hb⟩

theorem size32 (w : World) : (sizeOf 32).run Try.prog w = .ok 2 w := by kernel_rfl
theorem near_calls (b : Nat) (ps : List Pt) (w : World) (h : PtsAt w b ps) (hl : ps.length ≤ 1000) :
    Calls Try.prog 29 #[.slice (some ⟨b, 0, none⟩) ps.length ps.length] w fun e w' => e = .returned (.bool (decide (∀ p ∈ ps, nearP p))) ∧ Fr (fun _ => False) w w' := by
  obtain ⟨n, hn⟩ : ∃ n, n = ps.length := ⟨_, rfl⟩
  have hN := Lib.hid hn
  rw [← hn] at hl ⊢
  have H := Lib.hid h
  clear hn h
  go_enter Try.func29, Try.ntmps29
  go_wp2
  go_loopw [7] (fun i wr => ∃ k : Nat, k ≤ n ∧ i = .int .i64 k ∧ Hid (∀ p ∈ ps.take k, nearP p) ∧ Fr (fun _ => False) w wr) (fun i _ => n - (intOf i).toNat)
  case atStart => exact ⟨0, Nat.zero_le _, rfl, by simp [Hid], Fr.refl _ _⟩
  case round =>
    obtain ⟨k, hk, rfl, hall, hf⟩ := hrel
    by_cases hlt : k < n
    · obtain ⟨p, hp⟩ : ∃ o, ps[k]? = some o := ⟨_, List.getElem?_eq_getElem (by rw [← hN.out]; exact hlt)⟩
      obtain ⟨c1, c2⟩ := H.out.fr hf (by simp) k p hp
      have hsn : Hid (∀ q ∈ ps.take (k + 1), nearP q ∨ q = p) := by
        intro q hq
        rw [List.take_add_one, hp] at hq
        simp at hq
        rcases hq with hq | rfl
        · exact .inl (hall.out q hq)
        · exact .inr rfl
      have hpm := Lib.hid (List.mem_of_getElem? hp)
      clear hp
      obtain ⟨x, y⟩ := p
      simp only at c1 c2
      by_cases hx : 2097152 < max x y
      · have hfin : Hid (decide (∀ p ∈ ps, nearP p) = false) := by
          rw [Hid, decide_eq_false_iff_not]; intro h; have := h _ hpm.out; unfold nearP nearI at this; simp only at this; omega
        go_wp2
        all_goals
          go_ret
          exact ⟨by rw [hfin.out]; rfl, by simp [hf]⟩
      · by_cases hy : min x y < -2097152
        · have hfin : Hid (decide (∀ p ∈ ps, nearP p) = false) := by
            rw [Hid, decide_eq_false_iff_not]; intro h; have := h _ hpm.out; unfold nearP nearI at this; simp only at this; omega
          go_wp2
          all_goals
            go_ret
            exact ⟨by rw [hfin.out]; rfl, by simp [hf]⟩
        · have hnx : Hid (∀ p ∈ ps.take (k + 1), nearP p) := fun q hq => by
            rcases hsn.out q hq with h | rfl
            · exact h
            · unfold nearP nearI; simp only; omega
          clear hsn hpm
          go_wp2
          all_goals
            go_roundw
            case rel => exact ⟨k + 1, by omega, by go_num, hnx, by simp [hf]⟩
            case measure => simp [intOf]; omega
    · have hfin : Hid (decide (∀ p ∈ ps, nearP p) = true) := by
        rw [Hid, decide_eq_true_eq]; intro q hq
        exact hall.out q (by rw [List.take_of_length_le (by rw [← hN.out]; omega)]; exact hq)
      go_wp2
      go_ret
      exact ⟨by rw [hfin.out]; rfl, hf⟩

/-- The pairs that Compare hands on. -/
theorem first_calls (a b c d : Int) (g : Nat) (w : World) (h : w.heap[g]? = some (.cells #[.int .i64 a, .int .i64 b, .int .i64 c, .int .i64 d] 95 (0, 0))) :
    Calls Try.prog 65 #[.slice (some ⟨g, 0, none⟩) 2 2] w fun e w' => e = .returned (.int .i64 (cmpP (a, c) (b, d))) ∧ Fr (fun _ => False) w w' := by
  have c0 : ∀ w', Fr (fun _ => False) w w' → w'.cell? ⟨g, 0, none⟩ = some (.int .i64 a) := fun w' hf => by rw [cell_of_blk (hf.obj h id)]; rfl
  have c1 : ∀ w', Fr (fun _ => False) w w' → w'.cell? ⟨g, 1, none⟩ = some (.int .i64 b) := fun w' hf => by rw [cell_of_blk (hf.obj h id)]; rfl
  have c2 : ∀ w', Fr (fun _ => False) w w' → w'.cell? ⟨g, 2, none⟩ = some (.int .i64 c) := fun w' hf => by rw [cell_of_blk (hf.obj h id)]; rfl
  have c3 : ∀ w', Fr (fun _ => False) w w' → w'.cell? ⟨g, 3, none⟩ = some (.int .i64 d) := fun w' hf => by rw [cell_of_blk (hf.obj h id)]; rfl
  have C0 := Lib.hid c0
  have C1 := Lib.hid c1
  have C2 := Lib.hid c2
  have C3 := Lib.hid c3
  clear c0 c1 c2 c3 h
  go_enter Try.func65, Try.ntmps65
  go_wp2
  go_loopw [8] (fun i wr => ∃ k : Nat, k ≤ 2 ∧ i = .int .i64 k ∧ Hid (0 < k → cmpI a b = 0) ∧ Hid (1 < k → cmpI c d = 0) ∧ Fr (fun _ => False) w wr) (fun i _ => 2 - (intOf i).toNat)
  case atStart => exact ⟨0, by omega, rfl, fun h => by omega, fun h => by omega, Fr.refl _ _⟩
  case round =>
    obtain ⟨k, hk, rfl, h1, h2, hf⟩ := hrel
    have hcase : k = 0 ∨ k = 1 ∨ k = 2 := by omega
    rcases hcase with rfl | rfl | rfl
    · have d0 := C0.out wr hf
      have d1 := C1.out wr hf
      obtain ⟨r, hr⟩ : ∃ r, r = cmpI a b := ⟨_, rfl⟩
      have hrH := Lib.hid hr
      by_cases hz : r = 0
      · have hc : Hid (∀ w, Calls Try.prog 22 #[.int .i64 a, .int .i64 b] w fun e w' => e = .returned (.int .i64 0) ∧ w = w') := fun w => by have := cmp_calls a b w; rw [← hr, hz] at this; exact this
        have hE : Hid (0 < 1 → cmpI a b = 0) := fun _ => by rw [← hr, hz]
        clear hr hz hrH
        go_wp2_with (go_at_call 22; refine (hc.out _).mono ?_; rintro e w' ⟨rfl, rfl⟩)
        go_roundw
        case rel => exact ⟨1, by omega, by go_num, hE, fun h => by omega, by simp [hf]⟩
        case measure => simp [intOf]
      · have hc : Hid (∀ w, Calls Try.prog 22 #[.int .i64 a, .int .i64 b] w fun e w' => e = .returned (.int .i64 r) ∧ w = w') := fun w => by rw [hr]; exact cmp_calls a b w
        have t1 : (r != 0) = true := by simpa using hz
        have hE : Hid (cmpP (a, c) (b, d) = r) := by
          rw [Hid, hr]; unfold cmpP; rw [if_neg]
          intro h; simp only at h; subst h; exact hz (by rw [hr]; unfold cmpI; simp)
        clear hr hz hrH
        go_wp2_with (go_at_call 22; refine (hc.out _).mono ?_; rintro e w' ⟨rfl, rfl⟩)
        go_ret
        exact ⟨by rw [hE.out]; rfl, by simp [hf]⟩
    · have d2 := C2.out wr hf
      have d3 := C3.out wr hf
      have hab : Hid (cmpP (a, c) (b, d) = cmpI c d) := by
        have := h1.out (by omega)
        unfold cmpP; rw [Hid, if_pos]; simp only
        unfold cmpI at this; split at this
        · omega
        · split at this <;> omega
      obtain ⟨r, hr⟩ : ∃ r, r = cmpI c d := ⟨_, rfl⟩
      by_cases hz : r = 0
      · have hc : Hid (∀ w, Calls Try.prog 22 #[.int .i64 c, .int .i64 d] w fun e w' => e = .returned (.int .i64 0) ∧ w = w') := fun w => by have := cmp_calls c d w; rw [← hr, hz] at this; exact this
        have hE : Hid (1 < 2 → cmpI c d = 0) := fun _ => by rw [← hr, hz]
        have hE1 : Hid (0 < 2 → cmpI a b = 0) := fun _ => h1.out (by omega)
        clear hr hz
        go_wp2_with (go_at_call 22; refine (hc.out _).mono ?_; rintro e w' ⟨rfl, rfl⟩)
        go_roundw
        case rel => exact ⟨2, by omega, by go_num, hE1, hE, by simp [hf]⟩
        case measure => simp [intOf]
      · have hc : Hid (∀ w, Calls Try.prog 22 #[.int .i64 c, .int .i64 d] w fun e w' => e = .returned (.int .i64 r) ∧ w = w') := fun w => by rw [hr]; exact cmp_calls c d w
        have t1 : (r != 0) = true := by simpa using hz
        have hE : Hid (cmpP (a, c) (b, d) = r) := by rw [Hid, hab.out, hr]
        clear hr hz hab
        go_wp2_with (go_at_call 22; refine (hc.out _).mono ?_; rintro e w' ⟨rfl, rfl⟩)
        go_ret
        exact ⟨by rw [hE.out]; rfl, by simp [hf]⟩
    · have hE : Hid (cmpP (a, c) (b, d) = 0) := by
        have h3 := h1.out (by omega)
        have h4 := h2.out (by omega)
        unfold cmpP; rw [Hid]; split
        · exact h4
        · exact h3
      go_wp2
      go_ret
      exact ⟨by rw [hE.out]; rfl, hf⟩

theorem compareP_calls (p q : Pt) (w : World) : Calls Try.prog 41 #[.agg (ptC p), .agg (ptC q)] w fun e w' => e = .returned (.int .i64 (cmpP p q)) ∧ Fr (fun _ => False) w w' := by
  obtain ⟨a, c⟩ := p
  obtain ⟨b, d⟩ := q
  have hf : Fr (fun _ => False) w (((w.alloc (.cells #[.int .i64 a, .int .i64 c] 32)).alloc (.cells #[.int .i64 b, .int .i64 d] 32)).alloc (.cells #[.int .i64 a, .int .i64 b, .int .i64 c, .int .i64 d] 95)) := (((Fr.refl _ _).alloc _).alloc _).alloc _
  have hc := Lib.hid (first_calls a b c d (w.heap.size + 2) (((w.alloc (.cells #[.int .i64 a, .int .i64 c] 32)).alloc (.cells #[.int .i64 b, .int .i64 d] 32)).alloc (.cells #[.int .i64 a, .int .i64 b, .int .i64 c, .int .i64 d] 95)) (blk_alloc_at (by simp) _))
  have hfH := Lib.hid hf
  clear hf
  go_enter Try.func41, Try.ntmps41
  go_wp2_with fail
  refine hc.out.mono ?_
  rintro e w' ⟨rfl, f1⟩
  go_wp2
  go_ret
  exact ⟨rfl, hfH.out.trans f1⟩

/-- near of a literal list of points. -/
theorem near_lit (ps : List Pt) (cs : Array Value) (hcs : ∀ i p, ps[i]? = some p → cs[i * 2]? = some (.int .i64 p.1) ∧ cs[i * 2 + 1]? = some (.int .i64 p.2)) (hl : ps.length ≤ 1000) (w : World) :
    Calls Try.prog 29 #[.slice (some ⟨w.heap.size, 0, none⟩) ps.length ps.length] (w.alloc (.cells cs 32)) fun e w' => e = .returned (.bool (decide (∀ p ∈ ps, nearP p))) ∧ Fr (fun _ => False) (w.alloc (.cells cs 32)) w' :=
  near_calls _ ps _ (fun i p hp => by rw [cell_of_blk (blk_alloc_new _ _), cell_of_blk (blk_alloc_new _ _)]; exact hcs i p hp) hl

theorem near3 (a b c : Pt) (w : World) : Calls Try.prog 29 #[.slice (some ⟨w.heap.size, 0, none⟩) 3 3] (w.alloc (.cells #[.int .i64 a.1, .int .i64 a.2, .int .i64 b.1, .int .i64 b.2, .int .i64 c.1, .int .i64 c.2] 32)) fun e w' => e = .returned (.bool (decide (∀ p ∈ [a, b, c], nearP p))) ∧ Fr (fun _ => False) w w' :=
  (near_lit [a, b, c] _ (fun i p hp => by
    match i, hp with
    | 0, hp => simp at hp; subst hp; exact ⟨rfl, rfl⟩
    | 1, hp => simp at hp; subst hp; exact ⟨rfl, rfl⟩
    | 2, hp => simp at hp; subst hp; exact ⟨rfl, rfl⟩
    | i + 3, hp => simp at hp) (by simp) w).mono fun e w' h => ⟨h.1, ((Fr.refl _ w).alloc _).trans h.2⟩
theorem near4 (a b c d : Pt) (w : World) : Calls Try.prog 29 #[.slice (some ⟨w.heap.size, 0, none⟩) 4 4] (w.alloc (.cells #[.int .i64 a.1, .int .i64 a.2, .int .i64 b.1, .int .i64 b.2, .int .i64 c.1, .int .i64 c.2, .int .i64 d.1, .int .i64 d.2] 32)) fun e w' => e = .returned (.bool (decide (∀ p ∈ [a, b, c, d], nearP p))) ∧ Fr (fun _ => False) w w' :=
  (near_lit [a, b, c, d] _ (fun i p hp => by
    match i, hp with
    | 0, hp => simp at hp; subst hp; exact ⟨rfl, rfl⟩
    | 1, hp => simp at hp; subst hp; exact ⟨rfl, rfl⟩
    | 2, hp => simp at hp; subst hp; exact ⟨rfl, rfl⟩
    | 3, hp => simp at hp; subst hp; exact ⟨rfl, rfl⟩
    | i + 4, hp => simp at hp) (by simp) w).mono fun e w' h => ⟨h.1, ((Fr.refl _ w).alloc _).trans h.2⟩

def ptB (w : World) (g : Nat) (p : Pt) : Prop := w.heap[g]? = some (.cells (ptC p) 32 (0, 0))
def sgB (w : World) (g : Nat) (s : Sg) : Prop := w.heap[g]? = some (.cells (sgC s) 34 (0, 0))
theorem ptB.fr {w w' : World} {g p} (h : ptB w g p) {F : Nat → Prop} (hf : Fr F w w') (hg : ¬ F g) : ptB w' g p := hf.obj h hg
theorem sgB.fr {w w' : World} {g p} (h : sgB w g p) {F : Nat → Prop} (hf : Fr F w w') (hg : ¬ F g) : sgB w' g p := hf.obj h hg
theorem ptB.c {w : World} {g p} (h : ptB w g p) : w.cell? ⟨g, 0, none⟩ = some (.int .i64 p.1) ∧ w.cell? ⟨g, 1, none⟩ = some (.int .i64 p.2) := ⟨by rw [cell_of_blk h]; rfl, by rw [cell_of_blk h]; rfl⟩
theorem sgB.c {w : World} {g s} (h : sgB w g s) : w.cell? ⟨g, 0, none⟩ = some (.int .i64 s.1.1) ∧ w.cell? ⟨g, 1, none⟩ = some (.int .i64 s.1.2) ∧ w.cell? ⟨g, 2, none⟩ = some (.int .i64 s.2.1) ∧ w.cell? ⟨g, 3, none⟩ = some (.int .i64 s.2.2) :=
  ⟨by rw [cell_of_blk h]; rfl, by rw [cell_of_blk h]; rfl, by rw [cell_of_blk h]; rfl, by rw [cell_of_blk h]; rfl⟩

end Go.Proofs.Ytiainjcimmeedaa
