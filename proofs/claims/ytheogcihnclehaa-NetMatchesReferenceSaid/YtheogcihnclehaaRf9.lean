/- The law's own want, over the reference network; do and want at a nil receiver. -/
import Derived.Test.YtheogcihnclehaaRf8
namespace Go.Proofs.Ytheogcihnclehaa
open Go.RowKit Go.Pl Go.WideMaps

theorem APost.pre {r : Nat} {σ : Nat → Prop} {S' : NetS} {n : Nat} {v v' : Value} {w w1 w' : World} {e : Ending} (hf : Fr (fun _ => False) w w1) (h : APost r σ S' n v w1 e w') : APost r σ S' n v' w (.returned v') w' := by
  obtain ⟨_, σ', R', h1, h2, h3, h4, h5⟩ := h
  exact ⟨rfl, σ', R', h1, h2, h3, (hf.mono fun _ _ h => h.elim).trans h4, fun k hk => h5 k (Nat.lt_of_lt_of_le hk hf.size)⟩
theorem APost.unit {r : Nat} {σ : Nat → Prop} {S' : NetS} {n : Nat} {v : Value} {w w' : World} {e : Ending} (h : APost r σ S' n v w e w') : e = .returned v := h.1

def nilV (o : Opr) : Value := .tuple #[.string ByteArray.empty, .int .i64 0, .int .i64 (if o.kind < 0 ∨ 4 < o.kind then 0 else 1)]

set_option maxHeartbeats 2000000 in
theorem want_calls {w : World} {r : Nat} {σ : Nat → Prop} {R : RefS} {mv cv : Value} {S : NetS} {n : Nat} (h : RefAt w r σ R mv cv) (ha : Agree S R) (hb : Bd R n) (hn : n ≤ 900) (o : Opr) (ht : o.text.size ≤ 9223372036854775807) (hsz : ∀ m ∈ R.ms, (txt m).size ≤ 20000) :
    Calls Try.prog 14 #[.pointer (some ⟨r, 0, none⟩), .agg o.cells] w (APost r σ (doS S o) (n + 1) (doV S o) w) := by
  obtain ⟨kind, a, b, index, at_, mask, text, flag⟩ := o
  have hfr : Fr (fun _ => False) w (w.alloc (.cells (Opr.cells ⟨kind, a, b, index, at_, mask, text, flag⟩) 35)) := by simp
  have h' := h.fr hfr (by simp)
  by_cases k0 : kind = 0
  · subst k0
    have hE : Hid (∀ w1 e, APost r σ (S.send a b text) (n + 1) (.int .i64 (S.sendE a b text)) (w.alloc (.cells (Opr.cells ⟨0, a, b, index, at_, mask, text, flag⟩) 35)) e w1 → APost r σ (doS S ⟨0, a, b, index, at_, mask, text, flag⟩) (n + 1) (doV S ⟨0, a, b, index, at_, mask, text, flag⟩) w (.returned (.tuple #[.string ByteArray.empty, .int .i64 0, .int .i64 (S.sendE a b text)])) w1) := fun w1 e h => h.pre hfr
    go_enter Try.func14, Try.ntmps14
    go_wp2_with (go_at_call 24; refine (rsend_calls h' ha hb hn a b text ht).mono ?_; rintro e w1 hw1; obtain rfl := hw1.1; have hF := hE.out w1 _ hw1; clear hw1)
    go_ret3
    exact hF
  by_cases k1 : kind = 1
  · subst k1
    have hE : Hid (∀ w1 e, APost r σ (S.deliver a b index flag) (n + 1) (.tuple #[.string (S.deliverT a b index), .int .i64 (S.deliverE a b index)]) (w.alloc (.cells (Opr.cells ⟨1, a, b, index, at_, mask, text, flag⟩) 35)) e w1 → APost r σ (doS S ⟨1, a, b, index, at_, mask, text, flag⟩) (n + 1) (doV S ⟨1, a, b, index, at_, mask, text, flag⟩) w (.returned (.tuple #[.string (S.deliverT a b index), .int .i64 0, .int .i64 (S.deliverE a b index)])) w1) := fun w1 e h => h.pre hfr
    go_enter Try.func14, Try.ntmps14
    go_wp2_with (go_at_call 25; refine (rdeliver_calls h' ha hb hn a b index flag).mono ?_; rintro e w1 hw1; obtain rfl := hw1.1; have hF := hE.out w1 _ hw1; clear hw1)
    go_ret3
    exact hF
  by_cases k2 : kind = 2
  · subst k2
    have hE : Hid (∀ w1 e, APost r σ (S.lose a b index) (n + 1) (.int .i64 (S.loseE a b index)) (w.alloc (.cells (Opr.cells ⟨2, a, b, index, at_, mask, text, flag⟩) 35)) e w1 → APost r σ (doS S ⟨2, a, b, index, at_, mask, text, flag⟩) (n + 1) (doV S ⟨2, a, b, index, at_, mask, text, flag⟩) w (.returned (.tuple #[.string ByteArray.empty, .int .i64 0, .int .i64 (S.loseE a b index)])) w1) := fun w1 e h => h.pre hfr
    go_enter Try.func14, Try.ntmps14
    go_wp2_with (go_at_call 26; refine (rlose_calls h' ha hb hn a b index).mono ?_; rintro e w1 hw1; obtain rfl := hw1.1; have hF := hE.out w1 _ hw1; clear hw1)
    go_ret3
    exact hF
  by_cases k3 : kind = 3
  · subst k3
    have hE : Hid (∀ w1 e, APost r σ (S.spoil a b index at_ mask) (n + 1) (.int .i64 (S.spoilE a b index at_ mask)) (w.alloc (.cells (Opr.cells ⟨3, a, b, index, at_, mask, text, flag⟩) 35)) e w1 → APost r σ (doS S ⟨3, a, b, index, at_, mask, text, flag⟩) (n + 1) (doV S ⟨3, a, b, index, at_, mask, text, flag⟩) w (.returned (.tuple #[.string ByteArray.empty, .int .i64 0, .int .i64 (S.spoilE a b index at_ mask)])) w1) := fun w1 e h => h.pre hfr
    go_enter Try.func14, Try.ntmps14
    go_wp2_with (go_at_call 27; refine (rspoil_calls h' ha hb hn a b index at_ mask hsz).mono ?_; rintro e w1 hw1; obtain rfl := hw1.1; have hF := hE.out w1 _ hw1; clear hw1)
    go_ret3
    exact hF
  by_cases k4 : kind = 4
  · subst k4
    have hE : Hid (∀ w1 e, APost r σ (S.cutOff a b flag) (n + 1) (.int .i64 (S.cutE a b)) (w.alloc (.cells (Opr.cells ⟨4, a, b, index, at_, mask, text, flag⟩) 35)) e w1 → APost r σ (doS S ⟨4, a, b, index, at_, mask, text, flag⟩) (n + 1) (doV S ⟨4, a, b, index, at_, mask, text, flag⟩) w (.returned (.tuple #[.string ByteArray.empty, .int .i64 0, .int .i64 (S.cutE a b)])) w1) := fun w1 e h => h.pre hfr
    go_enter Try.func14, Try.ntmps14
    go_wp2_with (go_at_call 28; refine (rcut_calls h' ha hb hn a b flag).mono ?_; rintro e w1 hw1; obtain rfl := hw1.1; have hF := hE.out w1 _ hw1; clear hw1)
    go_ret3
    exact hF
  have hV : doV S ⟨kind, a, b, index, at_, mask, text, flag⟩ = .tuple #[.string ByteArray.empty, .int .i64 (S.count a b), .int .i64 0] ∧ doS S ⟨kind, a, b, index, at_, mask, text, flag⟩ = S := by
    have : kind < 0 ∨ 4 < kind := by omega
    simp [doV, doT, doK, doE, doS, k0, k1, k2, k3, k4, this]
  have hE : Hid (APost r σ (doS S ⟨kind, a, b, index, at_, mask, text, flag⟩) (n + 1) (doV S ⟨kind, a, b, index, at_, mask, text, flag⟩) w (.returned (.tuple #[.string ByteArray.empty, .int .i64 (S.count a b), .int .i64 0])) (w.alloc (.cells (Opr.cells ⟨kind, a, b, index, at_, mask, text, flag⟩) 35))) := by
    rw [hV.1, hV.2]; exact (APost.same h' ha hb (.int .i64 0)).pre hfr
  have j0 : (kind == 0) = false := by simpa using k0
  have j1 : (kind == 1) = false := by simpa using k1
  have j2 : (kind == 2) = false := by simpa using k2
  have j3 : (kind == 3) = false := by simpa using k3
  have j4 : (kind == 4) = false := by simpa using k4
  clear k0 k1 k2 k3 k4 hV
  go_enter Try.func14, Try.ntmps14
  go_wp2_with (go_at_call 29; refine (rcount_calls h' ha hb hn a b).mono ?_; rintro e w1 ⟨rfl, rfl⟩)
  go_ret3
  exact hE.out

set_option maxHeartbeats 2000000 in
theorem want_nil (o : Opr) (w : World) :
    Calls Try.prog 14 #[.pointer none, .agg o.cells] w fun e w' => e = .returned (nilV o) ∧ Fr (fun _ => False) w w' := by
  obtain ⟨kind, a, b, index, at_, mask, text, flag⟩ := o
  have hfr : Fr (fun _ => False) w (w.alloc (.cells (Opr.cells ⟨kind, a, b, index, at_, mask, text, flag⟩) 35)) := by simp
  by_cases k0 : kind = 0
  · subst k0
    go_enter Try.func14, Try.ntmps14
    go_wp2_with (go_at_call 24; refine (rsend_nil a b text _).mono ?_; rintro e w1 ⟨rfl, rfl⟩)
    go_ret3
    exact ⟨rfl, hfr⟩
  by_cases k1 : kind = 1
  · subst k1
    go_enter Try.func14, Try.ntmps14
    go_wp2_with (go_at_call 25; refine (rdeliver_nil a b index flag _).mono ?_; rintro e w1 ⟨rfl, rfl⟩)
    go_ret3
    exact ⟨rfl, hfr⟩
  by_cases k2 : kind = 2
  · subst k2
    go_enter Try.func14, Try.ntmps14
    go_wp2_with (go_at_call 26; refine (rlose_nil a b index _).mono ?_; rintro e w1 ⟨rfl, rfl⟩)
    go_ret3
    exact ⟨rfl, hfr⟩
  by_cases k3 : kind = 3
  · subst k3
    go_enter Try.func14, Try.ntmps14
    go_wp2_with (go_at_call 27; refine (rspoil_nil a b index at_ mask _).mono ?_; rintro e w1 ⟨rfl, rfl⟩)
    go_ret3
    exact ⟨rfl, hfr⟩
  by_cases k4 : kind = 4
  · subst k4
    go_enter Try.func14, Try.ntmps14
    go_wp2_with (go_at_call 28; refine (rcut_nil a b flag _).mono ?_; rintro e w1 ⟨rfl, rfl⟩)
    go_ret3
    exact ⟨rfl, hfr⟩
  have hV : Hid (nilV ⟨kind, a, b, index, at_, mask, text, flag⟩ = .tuple #[.string ByteArray.empty, .int .i64 0, .int .i64 0]) := by
    have : kind < 0 ∨ 4 < kind := by omega
    simp [nilV, this, Hid]
  have j0 : (kind == 0) = false := by simpa using k0
  have j1 : (kind == 1) = false := by simpa using k1
  have j2 : (kind == 2) = false := by simpa using k2
  have j3 : (kind == 3) = false := by simpa using k3
  have j4 : (kind == 4) = false := by simpa using k4
  clear k0 k1 k2 k3 k4
  go_enter Try.func14, Try.ntmps14
  go_wp2_with (go_at_call 29; refine (countR_nil a b _).mono ?_; rintro e w1 ⟨rfl, rfl⟩)
  go_ret3
  rw [hV.out]
  exact ⟨rfl, hfr⟩

set_option maxHeartbeats 2000000 in
theorem do_nil (o : Opr) (w : World) :
    Calls Try.prog 13 #[.pointer none, .agg o.cells] w fun e w' => e = .returned (nilV o) ∧ Fr (fun _ => False) w w' := by
  obtain ⟨kind, a, b, index, at_, mask, text, flag⟩ := o
  have hfr : Fr (fun _ => False) w (w.alloc (.cells (Opr.cells ⟨kind, a, b, index, at_, mask, text, flag⟩) 35)) := by simp
  by_cases k0 : kind = 0
  · subst k0
    go_enter Try.func13, Try.ntmps13
    go_wp2_with (go_at_call 15; refine (send_nil a b text _).mono ?_; rintro e w1 ⟨rfl, f1⟩)
    go_ret3
    exact ⟨rfl, hfr.trans f1⟩
  by_cases k1 : kind = 1
  · subst k1
    go_enter Try.func13, Try.ntmps13
    go_wp2_with (go_at_call 22; refine (deliver_nil a b index flag _).mono ?_; rintro e w1 ⟨rfl, f1⟩)
    go_ret3
    exact ⟨rfl, hfr.trans f1⟩
  by_cases k2 : kind = 2
  · subst k2
    go_enter Try.func13, Try.ntmps13
    go_wp2_with (go_at_call 16; refine (lose_nil a b index _).mono ?_; rintro e w1 ⟨rfl, f1⟩)
    go_ret3
    exact ⟨rfl, hfr.trans f1⟩
  by_cases k3 : kind = 3
  · subst k3
    go_enter Try.func13, Try.ntmps13
    go_wp2_with (go_at_call 23; refine (spoil_nil a b index at_ mask _).mono ?_; rintro e w1 ⟨rfl, f1⟩)
    go_ret3
    exact ⟨rfl, hfr.trans f1⟩
  by_cases k4 : kind = 4
  · subst k4
    go_enter Try.func13, Try.ntmps13
    go_wp2_with (go_at_call 21; refine (cut_nil a b flag _).mono ?_; rintro e w1 ⟨rfl, f1⟩)
    go_ret3
    exact ⟨rfl, hfr.trans f1⟩
  have hV : Hid (nilV ⟨kind, a, b, index, at_, mask, text, flag⟩ = .tuple #[.string ByteArray.empty, .int .i64 0, .int .i64 0]) := by
    have : kind < 0 ∨ 4 < kind := by omega
    simp [nilV, this, Hid]
  have j0 : (kind == 0) = false := by simpa using k0
  have j1 : (kind == 1) = false := by simpa using k1
  have j2 : (kind == 2) = false := by simpa using k2
  have j3 : (kind == 3) = false := by simpa using k3
  have j4 : (kind == 4) = false := by simpa using k4
  clear k0 k1 k2 k3 k4
  go_enter Try.func13, Try.ntmps13
  go_wp2_with (go_at_call 17; refine (count_nil a b _).mono ?_; rintro e w1 ⟨rfl, f1⟩)
  go_ret3
  rw [hV.out]
  exact ⟨rfl, hfr.trans f1⟩

end Go.Proofs.Ytheogcihnclehaa
