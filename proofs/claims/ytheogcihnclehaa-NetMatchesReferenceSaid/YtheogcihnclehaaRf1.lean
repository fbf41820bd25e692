/- The reference network: Count and off. -/
import Derived.Test.YtheogcihnclehaaRf0
namespace Go.Proofs.Ytheogcihnclehaa
open Go.RowKit Go.Pl Go.WideMaps

def cntR (n : Int) (ms : List Msg) (a b : Int) : Int := if rightN n a b then ((ms.filter (mt a b)).length : Int) else 0
theorem count_no {ms : List Msg} {a b : Int} {k q : Nat} {x : Msg} (hx : ms[k]? = some x) (hp : mt a b x = false) (h : q = ((ms.take k).filter (mt a b)).length) : q = ((ms.take (k + 1)).filter (mt a b)).length := by
  rw [filter_take_succ hx, hp, h]; simp
theorem count_yes {ms : List Msg} {a b : Int} {k q : Nat} {x : Msg} (hx : ms[k]? = some x) (hp : mt a b x = true) (h : q = ((ms.take k).filter (mt a b)).length) : q + 1 = ((ms.take (k + 1)).filter (mt a b)).length := by
  rw [filter_take_succ hx, hp, h]; simp

theorem countR_nil (a b : Int) (w : World) : Calls Try.prog 29 #[.pointer none, .int .i64 a, .int .i64 b] w fun e w' => e = .returned (.int .i64 0) ∧ w = w' := by
  go_enter Try.func29, Try.ntmps29
  go_wp2
  go_loop [7, 8] (fun c i => c = .int .i64 0 ∧ i = .int .i64 0) (fun _ _ => 0)
  case atStart => exact ⟨rfl, rfl⟩
  case round =>
    obtain ⟨rfl, rfl⟩ := hrel
    go_wp2_with (go_at_call 34; refine (right_nil a b _).mono ?_; rintro e w1 ⟨rfl, rfl⟩)
    go_ret
    exact ⟨rfl, rfl⟩

set_option maxHeartbeats 1000000 in
theorem countR_calls (r : Nat) (nd : Int) (sa : Option Addr) (g cap : Nat) (ms : List Msg) (a b : Int) (w : World) (c0 : w.cell? ⟨r, 0, none⟩ = some (.int .i64 nd)) (c1 : w.cell? ⟨r, 1, none⟩ = some (.slice sa ms.length cap)) (hl : ms.length ≤ 9223372036854775807)
    (hm : ∀ i x, ms[i]? = some x → sa = some ⟨g, 0, none⟩ ∧ g < w.heap.size ∧ ∀ j u, (mcells x)[j]? = some u → w.cell? ⟨g, i * 3 + j, none⟩ = some u) :
    Calls Try.prog 29 #[.pointer (some ⟨r, 0, none⟩), .int .i64 a, .int .i64 b] w fun e w' => e = .returned (.int .i64 (cntR nd ms a b)) ∧ w = w' := by
  obtain ⟨n, hn⟩ : ∃ n, n = ms.length := ⟨_, rfl⟩
  have hN := Lib.hid hn
  rw [← hn] at c1 hl
  have H := Lib.hid hm
  clear hn hm
  by_cases hr : rightN nd a b
  · have hrt : decide (rightN nd a b) = true := by simpa using hr
    have hfin : Hid (cntR nd ms a b = ((ms.filter (mt a b)).length : Int)) := if_pos hr
    clear hr
    go_enter Try.func29, Try.ntmps29
    go_wp2
    go_loop [7, 8] (fun c i => ∃ k : Nat, k ≤ n ∧ i = .int .i64 k ∧ ∃ q : Nat, q ≤ k ∧ c = .int .i64 q ∧ Hid (q = ((ms.take k).filter (mt a b)).length)) (fun _ i => n - (intOf i).toNat)
    case atStart => exact ⟨0, Nat.zero_le _, rfl, 0, Nat.le_refl _, rfl, by simp [Hid]⟩
    case round =>
      obtain ⟨k, hk, rfl, q, hq, rfl, hrel⟩ := hrel
      by_cases hlt : k < n
      · obtain ⟨⟨xa, xb, xt⟩, hx⟩ : ∃ x, ms[k]? = some x := ⟨_, List.getElem?_eq_getElem (by rw [← hN.out]; exact hlt)⟩
        obtain ⟨hs, _, hc⟩ := H.out k _ hx
        have hsa := fun w => index_run (P := Try.prog) Try.underlying61 size77 (cap := cap) hs hlt w
        have d0 : w.cell? ⟨g, k * 3, none⟩ = some (.int .i64 xa) := hc 0 _ rfl
        have d1 : w.cell? ⟨g, k * 3 + 1, none⟩ = some (.int .i64 xb) := hc 1 _ rfl
        have hx' := Lib.hid hx
        clear hs hc hx
        by_cases hA : xa = a
        · subst hA
          by_cases hB : xb = b
          · subst hB
            have hnx := Lib.hid (count_yes hx'.out (by simp [mt]) hrel.out)
            go_wp2_with (go_at_call 34; refine (right_calls r nd _ _ _ c0).mono ?_; rintro e w1 ⟨rfl, rfl⟩; rw [hrt])
            go_round
            case rel => exact ⟨k + 1, by omega, by go_num, q + 1, by omega, by go_num, hnx⟩
            case measure => simp [intOf]; omega
          · have hB' : (xb == b) = false := by simpa using hB
            have hnx := Lib.hid (count_no hx'.out (by simp [mt, hB]) hrel.out)
            go_wp2_with (go_at_call 34; refine (right_calls r nd _ _ _ c0).mono ?_; rintro e w1 ⟨rfl, rfl⟩; rw [hrt])
            go_round
            case rel => exact ⟨k + 1, by omega, by go_num, q, by omega, rfl, hnx⟩
            case measure => simp [intOf]; omega
        · have hA' : (xa == a) = false := by simpa using hA
          have hnx := Lib.hid (count_no hx'.out (by simp [mt, hA]) hrel.out)
          clear hA
          go_wp2_with (go_at_call 34; refine (right_calls r nd _ _ _ c0).mono ?_; rintro e w1 ⟨rfl, rfl⟩; rw [hrt])
          go_round
          case rel => exact ⟨k + 1, by omega, by go_num, q, by omega, rfl, hnx⟩
          case measure => simp [intOf]; omega
      · have hq2 : Hid (q = (ms.filter (mt a b)).length) := by
          have := hrel.out
          rwa [List.take_of_length_le (by rw [← hN.out]; omega)] at this
        have hnlt : ¬ (k : Int) < n := by omega
        clear hrel
        go_wp2_with (go_at_call 34; refine (right_calls r nd _ _ _ c0).mono ?_; rintro e w1 ⟨rfl, rfl⟩; rw [hrt])
        go_ret
        exact ⟨by rw [hfin.out, ← hq2.out]; rfl, rfl⟩
  · have hrt : decide (rightN nd a b) = false := by simpa using hr
    have hfin : Hid (cntR nd ms a b = 0) := if_neg hr
    clear hr
    go_enter Try.func29, Try.ntmps29
    go_wp2
    go_loop [7, 8] (fun c i => c = .int .i64 0 ∧ i = .int .i64 0) (fun _ _ => 0)
    case atStart => exact ⟨rfl, rfl⟩
    case round =>
      obtain ⟨rfl, rfl⟩ := hrel
      go_wp2_with (go_at_call 34; refine (right_calls r nd _ _ _ c0).mono ?_; rintro e w1 ⟨rfl, rfl⟩; rw [hrt])
      go_ret
      exact ⟨by rw [hfin.out]; rfl, rfl⟩

theorem eq45 (a b c d : Int) (w : World) : (Op.equalIn 10000 45 (.agg #[.int .i64 a, .int .i64 b]) (.agg #[.int .i64 c, .int .i64 d])).run Try.prog w = .ok (a == c && b == d) w := by
  have u3 := Try.underlying3
  have a3 := Try.isAgg3
  have z3 := Try.sizeOf3
  rw [show (10000 : Nat) = 9999 + 1 from rfl, Op.equalIn]
  simp only [Sem.run_bind, run_underlying Try.underlying45, Result.andThen_ok]
  simp only [Std.Legacy.Range.forIn_eq_forIn_range', Std.Legacy.Range.size, Nat.sub_zero, Nat.add_sub_cancel, Nat.div_one, List.range'_succ, List.range'_zero, List.forIn_cons, List.forIn_nil]
  go_simp
  by_cases h1 : a = c <;> by_cases h2 : b = d <;> simp [h1, h2]

set_option maxHeartbeats 1000000 in
theorem off_lt (r : Nat) (sa : Option Addr) (g cap : Nat) (cs : List (Int × Int)) (a b : Int) (w : World) (c2 : w.cell? ⟨r, 2, none⟩ = some (.slice sa cs.length cap)) (hl : cs.length ≤ 9223372036854775807)
    (hm : ∀ i x, cs[i]? = some x → sa = some ⟨g, 0, none⟩ ∧ g < w.heap.size ∧ ∀ j u, (pcells x)[j]? = some u → w.cell? ⟨g, i * 2 + j, none⟩ = some u) (hab : a < b) :
    Calls Try.prog 35 #[.pointer (some ⟨r, 0, none⟩), .int .i64 a, .int .i64 b] w fun e w' => e = .returned (.bool (decide ((a, b) ∈ cs))) ∧ w = w' := by
  obtain ⟨n, hn⟩ : ∃ n, n = cs.length := ⟨_, rfl⟩
  have hN := Lib.hid hn
  have h45 := eq45
  rw [← hn] at c2 hl
  have H := Lib.hid hm
  have t1 : decide (a ≤ b) = true := by simp; omega
  have t2 : decide (a < b) = true := by simpa using hab
  have t3 : a ≤ b := by omega
  have t4 := hab
  clear hn hm hab
  go_enter Try.func35, Try.ntmps35
  go_wp2
  go_loop [7] (fun i => ∃ k : Nat, k ≤ n ∧ i = .int .i64 k ∧ Hid ((a, b) ∉ cs.take k)) (fun i => n - (intOf i).toNat)
  case atStart => exact ⟨0, Nat.zero_le _, rfl, by simp [Hid]⟩
  case round =>
    obtain ⟨k, hk, rfl, hrel⟩ := hrel
    by_cases hlt : k < n
    · obtain ⟨⟨xa, xb⟩, hx⟩ : ∃ x, cs[k]? = some x := ⟨_, List.getElem?_eq_getElem (by rw [← hN.out]; exact hlt)⟩
      obtain ⟨hs, _, hc⟩ := H.out k _ hx
      have hsa := fun w => index_run (P := Try.prog) Try.underlying62 size45 (cap := cap) hs hlt w
      have d0 : w.cell? ⟨g, k * 2, none⟩ = some (.int .i64 xa) := hc 0 _ rfl
      have d1 : w.cell? ⟨g, k * 2 + 1, none⟩ = some (.int .i64 xb) := hc 1 _ rfl
      have hx' := Lib.hid hx
      clear hs hc hx
      by_cases hA : xa = a ∧ xb = b
      · have hfin : Hid (decide ((a, b) ∈ cs) = true) := by
          obtain ⟨rfl, rfl⟩ := hA
          simpa [Hid] using List.mem_of_getElem? hx'.out
        have hE : (xa == a && xb == b) = true := by simpa using hA
        clear hA
        go_wp2
        go_ret
        exact ⟨by rw [hfin.out]; rfl, rfl⟩
      · have hnx : Hid ((a, b) ∉ cs.take (k + 1)) := by
          intro h
          rw [List.take_add_one, hx'.out] at h
          simp at h
          rcases h with h | ⟨h1, h2⟩
          · exact hrel.out h
          · exact hA ⟨h1.symm, h2.symm⟩
        have hE : (xa == a && xb == b) = false := by
          rw [Bool.eq_false_iff]; simpa using hA
        clear hA
        go_wp2
        go_round
        case rel => exact ⟨k + 1, by omega, by go_num, hnx⟩
        case measure => simp [intOf]; omega
    · have hfin : Hid (decide ((a, b) ∈ cs) = false) := by
        have := hrel.out
        rw [List.take_of_length_le (by rw [← hN.out]; omega)] at this
        simpa [Hid] using this
      have hnlt : ¬ (k : Int) < n := by omega
      clear hrel
      go_wp2
      go_ret
      exact ⟨by rw [hfin.out]; rfl, rfl⟩
set_option maxHeartbeats 1000000 in
theorem off_gt (r : Nat) (sa : Option Addr) (g cap : Nat) (cs : List (Int × Int)) (a b : Int) (w : World) (c2 : w.cell? ⟨r, 2, none⟩ = some (.slice sa cs.length cap)) (hl : cs.length ≤ 9223372036854775807)
    (hm : ∀ i x, cs[i]? = some x → sa = some ⟨g, 0, none⟩ ∧ g < w.heap.size ∧ ∀ j u, (pcells x)[j]? = some u → w.cell? ⟨g, i * 2 + j, none⟩ = some u) (hab : b < a) :
    Calls Try.prog 35 #[.pointer (some ⟨r, 0, none⟩), .int .i64 a, .int .i64 b] w fun e w' => e = .returned (.bool (decide ((b, a) ∈ cs))) ∧ w = w' := by
  obtain ⟨n, hn⟩ : ∃ n, n = cs.length := ⟨_, rfl⟩
  have hN := Lib.hid hn
  have h45 := eq45
  rw [← hn] at c2 hl
  have H := Lib.hid hm
  have t3 : ¬ a ≤ b := by omega
  have t4 : ¬ a < b := by omega
  clear hn hm hab
  go_enter Try.func35, Try.ntmps35
  go_wp2
  go_loop [7] (fun i => ∃ k : Nat, k ≤ n ∧ i = .int .i64 k ∧ Hid ((b, a) ∉ cs.take k)) (fun i => n - (intOf i).toNat)
  case atStart => exact ⟨0, Nat.zero_le _, rfl, by simp [Hid]⟩
  case round =>
    obtain ⟨k, hk, rfl, hrel⟩ := hrel
    by_cases hlt : k < n
    · obtain ⟨⟨xa, xb⟩, hx⟩ : ∃ x, cs[k]? = some x := ⟨_, List.getElem?_eq_getElem (by rw [← hN.out]; exact hlt)⟩
      obtain ⟨hs, _, hc⟩ := H.out k _ hx
      have hsa := fun w => index_run (P := Try.prog) Try.underlying62 size45 (cap := cap) hs hlt w
      have d0 : w.cell? ⟨g, k * 2, none⟩ = some (.int .i64 xa) := hc 0 _ rfl
      have d1 : w.cell? ⟨g, k * 2 + 1, none⟩ = some (.int .i64 xb) := hc 1 _ rfl
      have hx' := Lib.hid hx
      clear hs hc hx
      by_cases hA : xa = b ∧ xb = a
      · have hfin : Hid (decide ((b, a) ∈ cs) = true) := by
          obtain ⟨rfl, rfl⟩ := hA
          simpa [Hid] using List.mem_of_getElem? hx'.out
        have hE : (xa == b && xb == a) = true := by simpa using hA
        clear hA
        go_wp2
        go_ret
        exact ⟨by rw [hfin.out]; rfl, rfl⟩
      · have hnx : Hid ((b, a) ∉ cs.take (k + 1)) := by
          intro h
          rw [List.take_add_one, hx'.out] at h
          simp at h
          rcases h with h | ⟨h1, h2⟩
          · exact hrel.out h
          · exact hA ⟨h1.symm, h2.symm⟩
        have hE : (xa == b && xb == a) = false := by
          rw [Bool.eq_false_iff]; simpa using hA
        clear hA
        go_wp2
        go_round
        case rel => exact ⟨k + 1, by omega, by go_num, hnx⟩
        case measure => simp [intOf]; omega
    · have hfin : Hid (decide ((b, a) ∈ cs) = false) := by
        have := hrel.out
        rw [List.take_of_length_le (by rw [← hN.out]; omega)] at this
        simpa [Hid] using this
      have hnlt : ¬ (k : Int) < n := by omega
      clear hrel
      go_wp2
      go_ret
      exact ⟨by rw [hfin.out]; rfl, rfl⟩
end Go.Proofs.Ytheogcihnclehaa
