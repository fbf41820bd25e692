/- planisphereref03: Is, Segment. -/
import Derived.Test.YtiainjcimmeedaaR0
set_option linter.unusedVariables false
set_option linter.unusedSimpArgs false
namespace Go.Proofs.Ytiainjcimmeedaa
open Go.RowKit Go.Pl Go.Geo

set_option maxHeartbeats 1000000 in
theorem is_calls (p : Pt) (w : World) : Calls Try.prog 15 #[.agg (ptC p)] w fun e w' => e = .returned (.bool (decide (nearP p))) ∧ Fr (fun _ => False) w w' := by
  obtain ⟨x, y⟩ := p
  obtain ⟨r, hr⟩ : ∃ r, r = decide (nearP (x, y)) := ⟨_, rfl⟩
  rw [← hr]
  by_cases h1 : -2097152 ≤ x
  · by_cases h2 : x ≤ 2097152
    · by_cases h3 : -2097152 ≤ y
      · by_cases h4 : y ≤ 2097152
        · have e : Hid (r = true) := by rw [Hid, hr]; exact decide_eq_true ⟨⟨h1, h2⟩, h3, h4⟩
          clear hr
          go_enter Try.func15, Try.ntmps15
          go_wp2
          go_ret
          exact ⟨by rw [e.out]; rfl, (Fr.refl _ _).alloc _⟩
        · have e : Hid (r = false) := by rw [Hid, hr]; exact decide_eq_false fun h => h4 h.2.2
          clear hr
          go_enter Try.func15, Try.ntmps15
          go_wp2
          go_ret
          exact ⟨by rw [e.out]; rfl, (Fr.refl _ _).alloc _⟩
      · have e : Hid (r = false) := by rw [Hid, hr]; exact decide_eq_false fun h => h3 h.2.1
        clear hr
        go_enter Try.func15, Try.ntmps15
        go_wp2
        go_ret
        exact ⟨by rw [e.out]; rfl, (Fr.refl _ _).alloc _⟩
    · have e : Hid (r = false) := by rw [Hid, hr]; exact decide_eq_false fun h => h2 h.1.2
      clear hr
      go_enter Try.func15, Try.ntmps15
      go_wp2
      go_ret
      exact ⟨by rw [e.out]; rfl, (Fr.refl _ _).alloc _⟩
  · have e : Hid (r = false) := by rw [Hid, hr]; exact decide_eq_false fun h => h1 h.1.1
    clear hr
    go_enter Try.func15, Try.ntmps15
    go_wp2
    go_ret
    exact ⟨by rw [e.out]; rfl, (Fr.refl _ _).alloc _⟩
end Go.Proofs.Ytiainjcimmeedaa
