/- The reference network's methods beside the network's state: Send, Lose, Deliver. -/
import Derived.Test.YtheogcihnclehaaRf4
namespace Go.Proofs.Ytheogcihnclehaa
open Go.RowKit Go.Pl Go.WideMaps

def APost (r : Nat) (σ : Nat → Prop) (S' : NetS) (n : Nat) (v : Value) (w : World) (e : Ending) (w' : World) : Prop :=
  e = .returned v ∧ ∃ σ' R', RefA w' r σ' R' ∧ Agree S' R' ∧ Bd R' n ∧ Fr σ w w' ∧ ∀ k, k < w.heap.size → σ' k → σ k

section
variable {w : World} {r : Nat} {σ : Nat → Prop} {R : RefS} {mv cv : Value} {S : NetS} {n : Nat}

theorem APost.same (h : RefAt w r σ R mv cv) (ha : Agree S R) (hb : Bd R n) (v : Value) : APost r σ S (n + 1) v w (.returned v) w :=
  ⟨rfl, σ, R, ⟨mv, cv, h⟩, ha, ⟨Nat.le_succ_of_le hb.1, Nat.le_succ_of_le hb.2⟩, Fr.refl _ _, fun _ _ => id⟩
theorem RefAt.c0 (h : RefAt w r σ R mv cv) : w.cell? ⟨r, 0, none⟩ = some (.int .i64 R.nodes) := by rw [cell_of_blk h.hp]; rfl
theorem RefAt.c1 (h : RefAt w r σ R mv cv) : w.cell? ⟨r, 1, none⟩ = some mv := by rw [cell_of_blk h.hp]; rfl
theorem RefAt.c2 (h : RefAt w r σ R mv cv) : w.cell? ⟨r, 2, none⟩ = some cv := by rw [cell_of_blk h.hp]; rfl

theorem rright_calls (h : RefAt w r σ R mv cv) (ha : Agree S R) (a b : Int) : Calls Try.prog 34 #[.pointer (some ⟨r, 0, none⟩), .int .i64 a, .int .i64 b] w fun e w' => e = .returned (.bool (decide (S.right a b))) ∧ w = w' := by
  refine (right_calls r R.nodes a b w h.c0).mono ?_
  rintro e w' ⟨rfl, rfl⟩
  exact ⟨by rw [decide_eq_decide.2 (ha.right a b)], rfl⟩
theorem roff_calls (h : RefAt w r σ R mv cv) (ha : Agree S R) (hb : Bd R n) (hn : n ≤ 900) {a b : Int} (hab : a ≠ b) : Calls Try.prog 35 #[.pointer (some ⟨r, 0, none⟩), .int .i64 a, .int .i64 b] w fun e w' => e = .returned (.bool (S.cut a b)) ∧ w = w' := by
  obtain ⟨sa, g, cap, rfl, h1, h2, h3⟩ := own_rows pcells_len h.hc
  have hl := hb.2
  rw [ha.cut a b hab]
  by_cases hlt : a < b
  · rw [Int.min_eq_left (by omega), Int.max_eq_right (by omega)]
    exact off_lt r sa g cap R.cut a b w h.c2 (by omega) h3 hlt
  · rw [Int.min_eq_right (by omega), Int.max_eq_left (by omega)]
    exact off_gt r sa g cap R.cut a b w h.c2 (by omega) h3 (by omega)
theorem rcount_calls (h : RefAt w r σ R mv cv) (ha : Agree S R) (hb : Bd R n) (hn : n ≤ 900) (a b : Int) : Calls Try.prog 29 #[.pointer (some ⟨r, 0, none⟩), .int .i64 a, .int .i64 b] w fun e w' => e = .returned (.int .i64 (S.count a b)) ∧ w = w' := by
  obtain ⟨sa, g, cap, rfl, h1, h2, h3⟩ := own_rows mcells_len h.hm
  have hl := hb.1
  refine (countR_calls r R.nodes sa g cap R.ms a b w h.c0 h.c1 (by omega) h3).mono ?_
  rintro e w' ⟨rfl, rfl⟩
  refine ⟨?_, rfl⟩
  unfold cntR NetS.count
  rw [ha.len]
  by_cases hr : S.right a b
  · rw [if_pos hr, if_pos ((ha.right a b).2 hr)]
  · rw [if_neg hr, if_neg (fun x => hr ((ha.right a b).1 x))]
theorem rfind_calls (h : RefAt w r σ R mv cv) (hb : Bd R n) (hn : n ≤ 900) (a b idx : Int) : Calls Try.prog 36 #[.pointer (some ⟨r, 0, none⟩), .int .i64 a, .int .i64 b, .int .i64 idx] w fun e w' => w = w' ∧ ∃ v : Int, e = .returned (.int .i64 v) ∧ FindV R.ms a b idx v := by
  obtain ⟨sa, g, cap, rfl, h1, h2, h3⟩ := own_rows mcells_len h.hm
  have hl := hb.1
  exact find_calls r sa g cap R.ms a b idx w h.c1 (by omega) h3
end

theorem rsend_nil (a b : Int) (t : ByteArray) (w : World) : Calls Try.prog 24 #[.pointer none, .int .i64 a, .int .i64 b, .string t] w fun e w' => e = .returned (.int .i64 1) ∧ w = w' := by
  go_enter Try.func24, Try.ntmps24
  go_wp2_with (go_at_call 34; refine (right_nil a b _).mono ?_; rintro e w1 ⟨rfl, rfl⟩)
  go_ret
  exact ⟨rfl, rfl⟩

set_option maxHeartbeats 1000000 in
theorem rsend_calls {w : World} {r : Nat} {σ : Nat → Prop} {R : RefS} {mv cv : Value} {S : NetS} {n : Nat} (h : RefAt w r σ R mv cv) (ha : Agree S R) (hb : Bd R n) (hn : n ≤ 900) (a b : Int) (t : ByteArray) (ht : t.size ≤ 9223372036854775807) :
    Calls Try.prog 24 #[.pointer (some ⟨r, 0, none⟩), .int .i64 a, .int .i64 b, .string t] w (APost r σ (S.send a b t) (n + 1) (.int .i64 (S.sendE a b t)) w) := by
  have hno : ∀ E : Int, E ≠ 0 → S.sendE a b t = E → Hid (APost r σ (S.send a b t) (n + 1) (.int .i64 (S.sendE a b t)) w (.returned (.int .i64 E)) w) := fun E h0 hE => by
    rw [NetS.send, hE, if_neg h0]
    exact APost.same h ha hb _
  have hR := Lib.hid (rright_calls h ha a b)
  by_cases hr : S.right a b
  · have hrt : decide (S.right a b) = true := by simpa using hr
    have hO := Lib.hid (roff_calls h ha hb hn hr.2.2.2.2)
    by_cases hcut : S.cut a b = true
    · have hE := hno 20 (by omega) (by simp [NetS.sendE, hr, hcut])
      rw [hcut] at hO
      rw [hrt] at hR
      clear hno h ha hb hr hrt
      go_enter Try.func24, Try.ntmps24
      go_wp2_with (first | (go_at_call 34; refine hR.out.mono ?_; rintro e w1 ⟨rfl, rfl⟩) | (go_at_call 35; refine hO.out.mono ?_; rintro e w1 ⟨rfl, rfl⟩))
      go_ret
      exact hE.out
    rw [Bool.not_eq_true] at hcut
    rw [hcut] at hO
    rw [hrt] at hR
    by_cases hlim : 20000 < t.size
    · have hE := hno 2 (by omega) (by simp [NetS.sendE, hr, hcut, hlim])
      clear hno h ha hb hr hrt
      go_enter Try.func24, Try.ntmps24
      go_wp2_with (first | (go_at_call 34; refine hR.out.mono ?_; rintro e w1 ⟨rfl, rfl⟩) | (go_at_call 35; refine hO.out.mono ?_; rintro e w1 ⟨rfl, rfl⟩))
      go_ret
      exact hE.out
    have hC := Lib.hid (rcount_calls h ha hb hn a b)
    have hcnt : S.count a b = (S.q a b).length := by rw [NetS.count, if_pos hr]
    rw [hcnt] at hC
    by_cases hfull : 100 ≤ (S.q a b).length
    · have hE := hno 21 (by omega) (by simp [NetS.sendE, hr, hcut, hlim, hfull])
      obtain ⟨L, hL⟩ : ∃ L, L = (S.q a b).length := ⟨_, rfl⟩
      rw [← hL] at hC hfull
      clear hno h ha hb hr hrt hL hcnt
      go_enter Try.func24, Try.ntmps24
      go_wp2_with (first | (go_at_call 34; refine hR.out.mono ?_; rintro e w1 ⟨rfl, rfl⟩) | (go_at_call 35; refine hO.out.mono ?_; rintro e w1 ⟨rfl, rfl⟩) | (go_at_call 29; refine hC.out.mono ?_; rintro e w1 ⟨rfl, rfl⟩))
      go_ret
      exact hE.out
    have hE0 : S.sendE a b t = 0 := by simp [NetS.sendE, hr, hcut, hlim, hfull]
    have hag := agree_send ha a b t
    have c1 := h.c1
    obtain ⟨sa, g, cap, rfl, _, _, _⟩ := own_rows mcells_len h.hm
    have hl := hb.1
    have hb2 : Bd { R with ms := R.ms ++ [(a, b, t)] } (n + 1) := ⟨by simp; omega, Nat.le_succ_of_le hb.2⟩
    have hstep : Hid (∀ v' w3, w3.ownsRow 0 77 3 v' (R.ms.length + 1) (R.ms.flatMap mcells ++ mcells (a, b, t)) → (w.alloc (.cells #[.int .i64 a, .int .i64 b, .string t] 77)).grownBy w3 (Value.slice sa R.ms.length cap).ownBlock →
        (v'.ownBlock = (Value.slice sa R.ms.length cap).ownBlock ∨ v'.ownBlock = some (w.alloc (.cells #[.int .i64 a, .int .i64 b, .string t] 77)).heap.size) →
        (w3.cell? ⟨r, 1, none⟩ = some (.slice sa R.ms.length cap) ∧ w3.frozen? ⟨r, 1, none⟩ = false) ∧ APost r σ (S.send a b t) (n + 1) (.int .i64 (S.sendE a b t)) w (.returned (.int .i64 0)) (w3.setCell ⟨r, 1, none⟩ v')) := by
      intro v' w3 h1 h2 h3
      obtain ⟨hc, σ', x1, x2, x3⟩ := h.msgs (W := w3) (v' := v') (ms' := R.ms ++ [(a, b, t)]) (n := R.ms.length + 1) (((Fr.refl _ w).alloc _).grown h2 fun k hk _ => hk) (by simp) (by rw [List.flatMap_append]; simpa using h1) (fun k hk => by
        rcases h3 with e | e
        · exact .inl (e ▸ hk)
        · rw [hk] at e; simp at e; right; omega)
      refine ⟨hc, by rw [hE0], σ', _, ⟨_, _, x1⟩, ?_, hb2, x2, x3⟩
      rw [NetS.send, if_pos hE0]; exact hag
    have hown := Lib.hid (h.hm.alloc (.cells #[.int .i64 a, .int .i64 b, .string t] 77))
    have hnews : Hid (∀ j u, (mcells (a, b, t))[j]? = some u → (w.alloc (.cells #[.int .i64 a, .int .i64 b, .string t] 77)).cell? ((⟨w.heap.size, 0, none⟩ : Addr).add j) = some u) := fun j u hj => by
      rw [Addr.add_lit, Nat.zero_add, cell_of_blk (blk_alloc_new _ _)]
      simpa [mcells] using hj
    have hone : Hid (∀ u ∈ mcells (a, b, t), u.oneCell' = true) := by
      intro v hv
      simp [mcells] at hv
      rcases hv with rfl | rfl | rfl <;> rfl
    obtain ⟨L, hL⟩ : ∃ L, L = R.ms.length := ⟨_, rfl⟩
    rw [← hL] at hstep hown c1 hl
    obtain ⟨q, hq⟩ : ∃ q, q = (S.q a b).length := ⟨_, rfl⟩
    rw [← hq] at hC hfull
    obtain ⟨i0, hi0, hz0, hz1, hz2⟩ := info_parts info77
    have hrlt : r < w.heap.size := lt_of_blk h.hp
    clear hno h ha hb hr hrt hcnt hL hq hag hb2 hE0
    go_enter Try.func24, Try.ntmps24
    go_wp2_with (first | (go_at_call 34; refine hR.out.mono ?_; rintro e w1 ⟨rfl, rfl⟩) | (go_at_call 35; refine hO.out.mono ?_; rintro e w1 ⟨rfl, rfl⟩) | (go_at_call 29; refine hC.out.mono ?_; rintro e w1 ⟨rfl, rfl⟩) | (at_builtin; refine wpList_append_own_at _ rfl _ _ 61 rfl 0 77 i0 (.agg #[.int .i64 0, .int .i64 0, .string ByteArray.empty]) 3 32 Try.underlying61 hi0 hz0 hz1 hz2 rfl (by decide) (.slice sa L cap) L (R.ms.flatMap mcells) rfl hown.out ⟨w.heap.size, 0, none⟩ 1 1 (mcells (a, b, t)) rfl rfl hnews.out hone.out (by unfold maxLen; omega) (by omega) (Nat.zero_le _) ?_; intro v' w3 x1 x2 _ x3; obtain ⟨⟨cq, fq⟩, hfin⟩ := hstep.out v' w3 x1 x2 x3; obtain ⟨a1, c1', rfl⟩ := ownsRow_slice x1; have hfin := Lib.hid hfin; clear x1 x2 x3))
    go_ret
    exact hfin.out
  · have hrt : decide (S.right a b) = false := by simpa using hr
    have hE := hno 1 (by omega) (by simp [NetS.sendE, hr])
    rw [hrt] at hR
    clear hno h ha hb hr hrt
    go_enter Try.func24, Try.ntmps24
    go_wp2_with (go_at_call 34; refine hR.out.mono ?_; rintro e w1 ⟨rfl, rfl⟩)
    go_ret
    exact hE.out
end Go.Proofs.Ytheogcihnclehaa
