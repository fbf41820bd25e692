/- SweepMoved returns true for every list of segments and amount. -/
import Derived.Test.YtiainjcimmeedaaMoved
import Derived.Test.YtiainjcimmeedaaFin
set_option linter.unusedVariables false
set_option linter.unusedSimpArgs false
namespace Go.Proofs.Ytiainjcimmeedaa
open Go.RowKit Go.Pl Go.Geo Go.ChangeShapes Go.WideShapes
set_option maxRecDepth 100000 in
theorem sweepMoved_lifted (os : Os) (started : os.Started) (H : Type) (enc : TypeId × Value → H) :
    ReturnsInHanded {} Try.checked os 7 .any (Rows.sweepMovedSpec.pre6 enc Try.prog Try.f7 Rows.sweepMovedRow.domain false) (Rows.sweepMovedSpec.post enc Try.prog Try.f7 false true false false) := by
  refine returnsInHanded_of_change (C := Try.checked) Try.own started (by kernel_rfl) Try.func7
    (ChangeSpec.witness6 (enc := enc) (C := Try.checked) false ⟨#[], #[.slice none 0 0, .agg #[.int .i64 0, .int .i64 0]], []⟩ 12 (by kernel_rfl) (by kernel_rfl) (by kernel_rfl) (by kernel_rfl)) ?_
  intro W base args ds gs before hval0 hW _ _
  have hval : ∀ (j : Nat) t v, Try.f7.params[j]? = some t → args[j]? = some v → Value.okWide Try.prog W .any base t v := hval0
  have hW' := hW
  obtain ⟨p, q, hA0, hV, _, _, _⟩ := hW
  have hA : DataW.TrodAll enc Try.prog W 0 (fun _ => true) true Try.f7.params.toList args.toList ds p := hA0
  rw [Try.params7] at hA hval
  obtain ⟨v0, vs0, d0, ds0, p0, q0, hargs, rfl, rfl, h0, r0⟩ := trodAll_cons hA
  obtain ⟨v1, vs1, d1, ds1, p1, q1, rfl, rfl, rfl, h1, r1⟩ := trodAll_cons r0
  obtain ⟨rfl, rfl, rfl⟩ := trodAll_nil r1
  obtain rfl : args = #[v0, v1] := by cases args; simp_all
  obtain ⟨rfl, rfl⟩ := trodVars_none hV
  obtain ⟨l0, sa0, cap0, rfl, hO0, hC0, hM0⟩ := open_segs (hval 0 22 v0 rfl rfl) h0
  obtain ⟨e1, rfl⟩ := open_pt_arg (hval 1 32 v1 rfl rfl) h1
  refine (moved_calls l0 sa0 cap0 e1 W hO0).mono fun e W' ⟨he, hg⟩ => ⟨_, he, ?_⟩
  exact law_post Try.laidOut (by intro t ht; rw [Try.params7] at ht; simp at ht; rcases ht with rfl | rfl <;> exact ⟨by kernel_rfl, of_decide_eq_true (by kernel_rfl)⟩) rfl Try.underlying4 rfl rfl hW' (hg.below (by simp))

theorem SweepMoved_holds : Rows.SweepMovedSaid :=
  OpenClaim.holds_of_wide 7 Try.f7 rfl rfl rfl rfl rfl rfl rfl ⟨rfl, rfl, rfl, rfl, rfl⟩ rfl rfl rfl rfl rfl (by kernel_rfl) Try.func7 (by kernel_rfl)
    (of_decide_eq_true (by kernel_rfl)) (by unfold Func.isWrapper; first | (rw [if_pos (by decide +kernel)]; kernel_rfl) | (rw [if_neg (by decide +kernel)]; exact ⟨rfl, rfl⟩))
    (fun os started H enc _ => sweepMoved_lifted os started H enc)
#print axioms SweepMoved_holds
end Go.Proofs.Ytiainjcimmeedaa
