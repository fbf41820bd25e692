/- The reference network's methods beside the network's state: Lose, Deliver. -/
import Derived.Test.YtheogcihnclehaaRf5
namespace Go.Proofs.Ytheogcihnclehaa
open Go.RowKit Go.Pl Go.WideMaps

theorem APost.took {w w' : World} {r : Nat} {σ : Nat → Prop} {R : RefS} {S : NetS} {n : Nat} {a b idx : Int} {l1 l2 : List Msg} {m : Msg} (ha : Agree S R) (hb : Bd R n) (hms : R.ms = l1 ++ m :: l2) (hm : mt a b m = true) (hi : idx = (l1.filter (mt a b)).length) {e : Ending}
    (h : RPost r σ { R with ms := R.ms.eraseIdx l1.length } (.tuple #[]) w e w') (v : Value) : APost r σ (S.drop a b idx) (n + 1) v w (.returned v) w' := by
  obtain ⟨_, σ', h1, h2, h3⟩ := h
  refine ⟨rfl, σ', _, h1, ?_, ⟨?_, Nat.le_succ_of_le hb.2⟩, h2, h3⟩
  · rw [NetS.drop, hi, Int.toNat_natCast]; exact agree_take ha hms hm
  · have := hb.1; exact Nat.le_trans (List.length_eraseIdx_le ..) (by omega)

theorem rlose_nil (a b i : Int) (w : World) : Calls Try.prog 26 #[.pointer none, .int .i64 a, .int .i64 b, .int .i64 i] w fun e w' => e = .returned (.int .i64 1) ∧ w = w' := by
  go_enter Try.func26, Try.ntmps26
  go_wp2_with (go_at_call 34; refine (right_nil a b _).mono ?_; rintro e w1 ⟨rfl, rfl⟩)
  go_ret
  exact ⟨rfl, rfl⟩
theorem rdeliver_nil (a b i : Int) (again : Bool) (w : World) : Calls Try.prog 25 #[.pointer none, .int .i64 a, .int .i64 b, .int .i64 i, .bool again] w fun e w' => e = .returned (.tuple #[.string ByteArray.empty, .int .i64 1]) ∧ w = w' := by
  go_enter Try.func25, Try.ntmps25
  go_wp2_with (go_at_call 34; refine (right_nil a b _).mono ?_; rintro e w1 ⟨rfl, rfl⟩)
  go_ret2
  exact ⟨rfl, rfl⟩

set_option maxHeartbeats 1000000 in
theorem rlose_calls {w : World} {r : Nat} {σ : Nat → Prop} {R : RefS} {mv cv : Value} {S : NetS} {n : Nat} (h : RefAt w r σ R mv cv) (ha : Agree S R) (hb : Bd R n) (hn : n ≤ 900) (a b i : Int) :
    Calls Try.prog 26 #[.pointer (some ⟨r, 0, none⟩), .int .i64 a, .int .i64 b, .int .i64 i] w (APost r σ (S.lose a b i) (n + 1) (.int .i64 (S.loseE a b i)) w) := by
  have hno : ∀ E : Int, E ≠ 0 → S.loseE a b i = E → Hid (APost r σ (S.lose a b i) (n + 1) (.int .i64 (S.loseE a b i)) w (.returned (.int .i64 E)) w) := fun E h0 hE => by
    rw [NetS.lose, hE, if_neg h0]
    exact APost.same h ha hb _
  have hR := Lib.hid (rright_calls h ha a b)
  by_cases hr : S.right a b
  · have hrt : decide (S.right a b) = true := by simpa using hr
    rw [hrt] at hR
    go_enter Try.func26, Try.ntmps26
    go_wp2_with fail
    refine hR.out.mono ?_
    rintro e w1 ⟨rfl, rfl⟩
    go_wp2_with fail
    refine (rfind_calls h hb hn a b i).mono ?_
    rintro e w1 ⟨rfl, v, rfl, hv⟩
    rcases agree_find ha hv with ⟨rfl, hat⟩ | ⟨l1, m, l2, hms, hm, hi, rfl, hat⟩
    · have hE := hno 11 (by omega) (by simp [NetS.loseE, hr, hat])
      clear hno h ha hb hr hrt hv hat
      go_wp2
      go_ret
      exact hE.out
    · have hlt : l1.length < R.ms.length := by rw [hms]; simp
      have hE0 : S.loseE a b i = 0 := by simp [NetS.loseE, hr, hat]
      have hT := Lib.hid (rtake_calls h hlt (by have := hb.1; omega))
      have hfin : Hid (∀ e w', RPost r σ { R with ms := R.ms.eraseIdx l1.length } (.tuple #[]) w e w' → APost r σ (S.lose a b i) (n + 1) (.int .i64 (S.loseE a b i)) w (.returned (.int .i64 0)) w') := fun e w' hp => by
        rw [NetS.lose, if_pos hE0, hE0]; exact APost.took ha hb hms hm hi hp _
      obtain ⟨k, hk⟩ : ∃ k, k = l1.length := ⟨_, rfl⟩
      rw [← hk] at hT hfin ⊢
      clear hno h ha hb hr hrt hv hat hms hm hi hlt hE0 hk
      go_wp2_with fail
      refine hT.out.mono ?_
      intro e w1 hp
      obtain rfl := hp.1
      have hfin := Lib.hid (hfin.out _ _ hp)
      clear hp hT
      go_wp2
      go_ret
      exact hfin.out
  · have hrt : decide (S.right a b) = false := by simpa using hr
    have hE := hno 1 (by omega) (by simp [NetS.loseE, hr])
    rw [hrt] at hR
    clear hno h ha hb hr hrt
    go_enter Try.func26, Try.ntmps26
    go_wp2_with (go_at_call 34; refine hR.out.mono ?_; rintro e w1 ⟨rfl, rfl⟩)
    go_ret
    exact hE.out

set_option maxHeartbeats 1000000 in
theorem rdeliver_calls {w : World} {r : Nat} {σ : Nat → Prop} {R : RefS} {mv cv : Value} {S : NetS} {n : Nat} (h : RefAt w r σ R mv cv) (ha : Agree S R) (hb : Bd R n) (hn : n ≤ 900) (a b i : Int) (again : Bool) :
    Calls Try.prog 25 #[.pointer (some ⟨r, 0, none⟩), .int .i64 a, .int .i64 b, .int .i64 i, .bool again] w (APost r σ (S.deliver a b i again) (n + 1) (.tuple #[.string (S.deliverT a b i), .int .i64 (S.deliverE a b i)]) w) := by
  have hno : ∀ E : Int, E ≠ 0 → S.deliverE a b i = E → Hid (APost r σ (S.deliver a b i again) (n + 1) (.tuple #[.string (S.deliverT a b i), .int .i64 (S.deliverE a b i)]) w (.returned (.tuple #[.string ByteArray.empty, .int .i64 E])) w) := fun E h0 hE => by
    rw [NetS.deliver, NetS.deliverT, hE, if_neg h0, if_neg (by simp [h0])]
    exact APost.same h ha hb _
  have hR := Lib.hid (rright_calls h ha a b)
  by_cases hr : S.right a b
  · have hrt : decide (S.right a b) = true := by simpa using hr
    have hO := Lib.hid (roff_calls h ha hb hn hr.2.2.2.2)
    rw [hrt] at hR
    by_cases hcut : S.cut a b = true
    · have hE := hno 20 (by omega) (by simp [NetS.deliverE, hr, hcut])
      rw [hcut] at hO
      clear hno h ha hb hr hrt
      go_enter Try.func25, Try.ntmps25
      go_wp2_with (first | (go_at_call 34; refine hR.out.mono ?_; rintro e w1 ⟨rfl, rfl⟩) | (go_at_call 35; refine hO.out.mono ?_; rintro e w1 ⟨rfl, rfl⟩))
      go_ret2
      exact hE.out
    rw [Bool.not_eq_true] at hcut
    rw [hcut] at hO
    go_enter Try.func25, Try.ntmps25
    go_wp2_with fail
    refine hR.out.mono ?_
    rintro e w1 ⟨rfl, rfl⟩
    go_wp2_with fail
    refine hO.out.mono ?_
    rintro e w1 ⟨rfl, rfl⟩
    go_wp2_with fail
    refine (rfind_calls h hb hn a b i).mono ?_
    rintro e w1 ⟨rfl, v, rfl, hv⟩
    rcases agree_find ha hv with ⟨rfl, hat⟩ | ⟨l1, m, l2, hms, hm, hi, rfl, hat⟩
    · have hE := hno 11 (by omega) (by simp [NetS.deliverE, hr, hat, hcut])
      clear hno h ha hb hr hrt hv hat
      go_wp2
      go_ret2
      exact hE.out
    · have hlt : l1.length < R.ms.length := by rw [hms]; simp
      have hE0 : S.deliverE a b i = 0 := by simp [NetS.deliverE, hr, hat, hcut]
      have hT0 : S.deliverT a b i = txt m := by rw [NetS.deliverT, if_pos hE0, hat]; rfl
      have hT := Lib.hid (rtake_calls h hlt (by have := hb.1; omega))
      have hfin : Hid (∀ e w', RPost r σ { R with ms := R.ms.eraseIdx l1.length } (.tuple #[]) w e w' → again = false → APost r σ (S.deliver a b i again) (n + 1) (.tuple #[.string (S.deliverT a b i), .int .i64 (S.deliverE a b i)]) w (.returned (.tuple #[.string (txt m), .int .i64 0])) w') := fun e w' hp hag => by
        rw [NetS.deliver, if_pos ⟨hE0, hag⟩, hE0, hT0]; exact APost.took ha hb hms hm hi hp _
      have hfin2 : Hid (again = true → APost r σ (S.deliver a b i again) (n + 1) (.tuple #[.string (S.deliverT a b i), .int .i64 (S.deliverE a b i)]) w (.returned (.tuple #[.string (txt m), .int .i64 0])) w) := fun hag => by
        rw [NetS.deliver, if_neg (by simp [hag]), hE0, hT0]; exact APost.same h ha hb _
      have hx : R.ms[l1.length]? = some m := by rw [hms]; simp
      have hL : R.ms.length ≤ 900 := by have := hb.1; omega
      obtain ⟨sa, g, cap, rfl, _, _, hrows⟩ := own_rows mcells_len h.hm
      obtain ⟨rfl, _, hc⟩ := hrows _ _ hx
      have d2 : w.cell? ⟨g, l1.length * 3 + 2, none⟩ = some (.string (txt m)) := hc 2 _ rfl
      have c1 := h.c1
      obtain ⟨k, hk⟩ : ∃ k, k = l1.length := ⟨_, rfl⟩
      obtain ⟨L, hLL⟩ : ∃ L, L = R.ms.length := ⟨_, rfl⟩
      rw [← hk] at hT hfin hlt d2 ⊢
      rw [← hLL] at c1 hL hlt
      have hsa := fun w => index_run (P := Try.prog) (cap := cap) Try.underlying61 size77 (rfl : some (⟨g, 0, none⟩ : Addr) = _) hlt w
      have t1 : (k : Int) < L := by omega
      clear hno h ha hb hr hrt hv hat hms hm hi hE0 hk hLL hT0 hx hrows hc
      cases again with
      | true =>
        go_wp2
        go_ret2
        exact hfin2.out trivial
      | false =>
        go_wp2_with fail
        refine hT.out.mono ?_
        intro e w1 hp
        obtain rfl := hp.1
        have hfin := Lib.hid (hfin.out _ _ hp trivial)
        clear hp hT
        go_wp2
        go_ret2
        exact hfin.out
  · have hrt : decide (S.right a b) = false := by simpa using hr
    have hE := hno 1 (by omega) (by simp [NetS.deliverE, hr])
    rw [hrt] at hR
    clear hno h ha hb hr hrt
    go_enter Try.func25, Try.ntmps25
    go_wp2_with (go_at_call 34; refine hR.out.mono ?_; rintro e w1 ⟨rfl, rfl⟩)
    go_ret2
    exact hE.out
end Go.Proofs.Ytheogcihnclehaa
