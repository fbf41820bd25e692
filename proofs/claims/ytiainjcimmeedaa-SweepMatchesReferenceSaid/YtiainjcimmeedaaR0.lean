/- planisphereref03: sign, end. -/
import Derived.Test.YtiainjcimmeedaaBig
set_option linter.unusedVariables false
set_option linter.unusedSimpArgs false
namespace Go.Proofs.Ytiainjcimmeedaa
open Go.RowKit Go.Pl Go.Geo

theorem rsign_calls (x : Int) (w : World) : Calls Try.prog 64 #[.int .i64 x] w fun e w' => e = .returned (.int .i64 (cmpI x 0)) ∧ Fr (fun _ => False) w w' := by
  obtain ⟨r, hr⟩ : ∃ r, r = cmpI x 0 := ⟨_, rfl⟩
  rw [← hr]
  rcases Int.lt_trichotomy x 0 with h | h | h
  · have e : Hid (r = -1) := by rw [Hid, hr]; unfold cmpI; rw [if_pos h]
    clear hr
    go_enter Try.func64, Try.ntmps64
    go_wp2
    go_ret
    exact ⟨by rw [e.out]; rfl, by simp⟩
  · subst h
    have e : Hid (r = 0) := hr
    clear hr
    go_enter Try.func64, Try.ntmps64
    go_wp2
    go_ret
    exact ⟨by rw [e.out]; rfl, by simp⟩
  · have e : Hid (r = 1) := by rw [Hid, hr]; unfold cmpI; rw [if_neg (by omega), if_pos h]
    clear hr
    go_enter Try.func64, Try.ntmps64
    go_wp2
    go_ret
    exact ⟨by rw [e.out]; rfl, by simp⟩

set_option maxHeartbeats 1000000 in
theorem rcross_calls (a b c : Pt) (ha : nearP a) (hb : nearP b) (hc : nearP c) (w : World) : Calls Try.prog 63 #[.agg (ptC a), .agg (ptC b), .agg (ptC c)] w fun e w' => e = .returned (.int .i64 (crs a b c)) ∧ Fr (fun _ => False) w w' := by
  obtain ⟨a1, a2⟩ := a
  obtain ⟨b1, b2⟩ := b
  obtain ⟨c1, c2⟩ := c
  obtain ⟨⟨p1, p2⟩, p3, p4⟩ := ha
  obtain ⟨⟨p5, p6⟩, p7, p8⟩ := hb
  obtain ⟨⟨q1, q2⟩, q3, q4⟩ := hc
  simp only at p1 p2 p3 p4 p5 p6 p7 p8 q1 q2 q3 q4
  obtain ⟨h1, h2⟩ := mul_bd (x := b1 - a1) (y := c2 - a2) (by omega) (by omega)
  obtain ⟨h3, h4⟩ := mul_bd (x := b2 - a2) (y := c1 - a1) (by omega) (by omega)
  go_enter Try.func63, Try.ntmps63
  go_wp2
  go_ret
  exact ⟨rfl, (((Fr.refl _ _).alloc _).alloc _).alloc _⟩
end Go.Proofs.Ytiainjcimmeedaa
