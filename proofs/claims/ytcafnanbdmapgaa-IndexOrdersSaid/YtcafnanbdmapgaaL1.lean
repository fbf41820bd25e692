/- slices.Chunk and its iterator; slices.Clone. -/
import Derived.Test.YtcafnanbdmapgaaK9
import Derived.Test.YtcafnanbdmapgaaRn
set_option linter.unusedVariables false
set_option linter.unusedSimpArgs false
namespace Go.Proofs.Ytcafnanbdmapgaa
open Go.RowKit Go.Pl

section
variable {o : Oper} {w : World} {ρ : Operand → Value} {x y z u : Operand} {g off N cap i j : Nat} {p : Option Addr}
theorem run_slf69 (ho : o.op = .slice 69 x (some y) none none) (hx : ρ x = .slice (some ⟨g, off, none⟩) N cap) (hy : ρ y = .int .i64 (i : Int)) (hi : i < N) (hc : N ≤ cap) : (execOp ρ o).run Try.prog w = .ok (.value (.slice (some ⟨g, off + i, none⟩) (N - i) (cap - i))) w := by
  have h1 : (i : Int) ≤ N := by omega
  have h2 : (N : Int) ≤ cap := by omega
  have h3 : cap ≠ i := by omega
  simp [execOp, ho, hx, hy, go_sem, h1, h2, h3, Addr.add]
theorem run_slx69 {a b c : Int} (ho : o.op = .slice 69 x (some y) (some z) (some u)) (hx : ρ x = .slice (some ⟨g, off, none⟩) N cap) (hy : ρ y = .int .i64 a) (hz : ρ z = .int .i64 b) (hu : ρ u = .int .i64 c) (ea : a = (i : Int)) (eb : b = (j : Int)) (ec : c = (j : Int)) (hi : i < j) (hc : j ≤ cap) : (execOp ρ o).run Try.prog w = .ok (.value (.slice (some ⟨g, off + i, none⟩) (j - i) (j - i))) w := by
  subst ea eb ec
  have h1 : (i : Int) ≤ j := by omega
  have h2 : (j : Int) ≤ cap := by omega
  have h3 : j ≠ i := by omega
  simp [execOp, ho, hx, hy, hz, hu, go_sem, h1, h2, h3, Addr.add]
end
/-- What slices.Chunk yields. -/
def chV (g off N n k : Nat) : Value := .slice (some ⟨g, off + k * n, none⟩) (min n (N - k * n)) (min n (N - k * n))
def chs (g off N n : Nat) : List (Array Value) := (List.range ((N + n - 1) / n)).map fun k => #[chV g off N n k]
theorem chs_lt {N n k : Nat} (hn : 1 ≤ n) : k < (N + n - 1) / n ↔ k * n < N := by
  rw [Nat.lt_div_iff_mul_lt (by omega)]; omega
theorem chs_at {g off N n k : Nat} (hn : 1 ≤ n) (h : k * n < N) : (chs g off N n)[k]? = some #[chV g off N n k] := by
  unfold chs
  rw [List.getElem?_map, List.getElem?_range ((chs_lt hn).2 h)]; rfl
theorem chs_end {g off N n k : Nat} (hn : 1 ≤ n) (hk : k ≤ (N + n - 1) / n) (h : ¬ k * n < N) : k = (chs g off N n).length := by
  unfold chs
  rw [List.length_map, List.length_range]
  rw [← chs_lt hn] at h; omega
theorem chs_mem {g off N n : Nat} (hn : 1 ≤ n) {v : Array Value} (h : v ∈ chs g off N n) : ∃ k, k * n < N ∧ v = #[chV g off N n k] := by
  unfold chs at h
  obtain ⟨k, hk, rfl⟩ := List.mem_map.1 h
  exact ⟨k, (chs_lt hn).1 (List.mem_range.1 hk), rfl⟩
theorem chs_of {g off N n k : Nat} (hn : 1 ≤ n) {v : Array Value} (h : (chs g off N n)[k]? = some v) : k * n < N ∧ v = #[chV g off N n k] := by
  have hk := (List.getElem?_eq_some_iff.1 h).1
  unfold chs at hk
  rw [List.length_map, List.length_range] at hk
  have h2 := (chs_lt hn).1 hk
  rw [chs_at hn h2] at h
  exact ⟨h2, (Option.some.inj h).symm⟩

set_option maxRecDepth 100000 in
set_option maxHeartbeats 4000000 in
theorem chunk1_yields {g off N cap n c1 c2 : Nat} (hn : 1 ≤ n) (hcap : N ≤ cap) (hN : N ≤ 10000000) (hn2 : n ≤ 10000000) : IterOf Try.prog 74 #[.pointer (some ⟨c1, 0, none⟩), .pointer (some ⟨c2, 0, none⟩)] (chs g off N n) (fun W => W.heap[c1]? = some (.cells #[.slice (some ⟨g, off, none⟩) N cap] 69 (0, 0)) ∧ W.heap[c2]? = some (.cells #[.int .i64 (n : Int)] 3 (0, 0))) := by
  intro l J w hJF hKp hround hJ
  obtain ⟨hc1, hc2⟩ := hKp _ _ hJ
  refine wp_start3 Try.func74 rfl rfl (n := 31) (by decide) fun a E => ?_
  refine wp_seq ?_
  refine wp_region_lit ?_
  refine env_put (d := 4) (v := .int .i64 0) E rfl (by decide) rfl (wanted_none rfl _) (run_assign rfl rfl) fun a E => ?_
  refine wpList_nil ?_
  refine then_n ?_
  refine wp_block ?_
  refine wp_loop (fun a w2 => ∃ (k : Nat), Env 31 [(0, .func (.yield l) #[] #[]), (1, .pointer (some ⟨c1, 0, none⟩)), (2, .pointer (some ⟨c2, 0, none⟩)), (4, .int .i64 ((k * n : Nat) : Int))] a ∧ k ≤ (N + n - 1) / n ∧ J k w2 ∧ w2.heap[c1]? = some (.cells #[.slice (some ⟨g, off, none⟩) N cap] 69 (0, 0)) ∧ w2.heap[c2]? = some (.cells #[.int .i64 (n : Int)] 3 (0, 0))) (fun a _ => N - (intOf (a.eval (.tmp 4))).toNat) ?_ ?_
  · exact ⟨0, E.of ⟨E.get 1 rfl, E.get 2 rfl, E.get 3 rfl, by rw [Nat.zero_mul]; exact E.get 0 rfl, trivial⟩, Nat.zero_le _, hJ, hc1, hc2⟩
  clear E
  rintro a w2 ⟨k, E, hk, hJ, hc1, hc2⟩
  have hmu : N - (intOf (a.eval (.tmp 4))).toNat = N - k * n := by rw [E.get 3 rfl]; first | (simp [intOf]; done) | (simp only [intOf]; omega)
  rw [hmu]
  clear hmu
  refine wp_seq ?_
  refine wp_seq ?_
  refine wp_region_lit ?_
  refine env_put (d := 6) (v := .int .i64 ((k * n : Nat) : Int)) E rfl (by decide) rfl (wanted_none rfl _) (run_move rfl (E.get 3 rfl)) fun a E => ?_
  refine env_put (d := 7) (v := .slice (some ⟨g, off, none⟩) N cap) E rfl (by decide) rfl (wanted_none rfl _) (run_ld69 rfl (E.get 2 rfl) (bx hc1 0 rfl)) fun a E => ?_
  refine env_put (d := 8) (v := .int .i64 (N : Int)) E rfl (by decide) rfl (wanted_none rfl _) (run_len69 rfl (E.get 0 rfl)) fun a E => ?_
  refine env_put (d := 9) (v := .bool (decide (((k * n : Nat) : Int) < (N : Int)))) E rfl (by decide) rfl (wanted_none rfl _) (run_ilss (E.get 2 rfl) (E.get 0 rfl) Try.underlying3 rfl) fun a E => ?_
  refine wpList_nil ?_
  refine then_n ?_
  cases hq32 : (decide (((k * n : Nat) : Int) < (N : Int))) with
  | false =>
    rw [hq32] at E
    have hge : ¬ k * n < N := by have := of_decide_eq_false hq32; omega
    refine wp_cond_false (E.get 0 rfl) ?_
    refine wp_exit ?_
    refine then_e ?_
    refine then_e ?_
    refine blk_e ?_
    refine (ret_nil rfl E ⟨⟨_, rfl⟩, ?_⟩).1
    rw [← chs_end (g := g) (off := off) hn hk hge]; exact hJ
  | true =>
    rw [hq32] at E
    have hlt : k * n < N := by have := of_decide_eq_true hq32; omega
    refine wp_cond_true (E.get 0 rfl) ?_
    refine wp_skip ?_
    refine then_n ?_
    refine wp_seq ?_
    refine wp_block ?_
    refine wp_seq ?_
    refine wp_region_inv (n := 31) (base := [(9, .bool true), (8, .int .i64 (N : Int)), (7, .slice (some ⟨g, off, none⟩) N cap), (6, .int .i64 ((k * n : Nat) : Int)), (0, .func (.yield l) #[] #[]), (1, .pointer (some ⟨c1, 0, none⟩)), (2, .pointer (some ⟨c2, 0, none⟩)), (4, .int .i64 ((k * n : Nat) : Int))]) (T := [some (13, .int .i64 (n : Int)), some (14, .slice (some ⟨g, off, none⟩) N cap), some (15, .int .i64 ((k * n : Nat) : Int)), some (16, .slice (some ⟨g, off + k * n, none⟩) (N - k * n) (cap - k * n)), some (17, .int .i64 (((N - k * n) : Nat) : Int)), some (18, .int .i64 (min (n : Int) (((N - k * n) : Nat) : Int))), some (5, .int .i64 (min (n : Int) (((N - k * n) : Nat) : Int)))]) (M := fun _ wm => Fr (fun _ => False) w2 wm) (by kernel_rfl) (by kernel_rfl) (by kernel_rfl) (E.of ⟨E.get 0 rfl, E.get 1 rfl, E.get 2 rfl, E.get 3 rfl, E.get 4 rfl, E.get 5 rfl, E.get 6 rfl, E.get 7 rfl, trivial⟩) (Fr.refl _ _).drew ?_ ?_
    · intro j9 o9 t9 ls9 a w5 ho hT0 hl E D DL hM
      have hJ := hJF _ _ _ hJ hM
      have hc1 := hM.obj hc1 id
      have hc2 := hM.obj hc2 id
      match j9, ho, hT0, hl, D, DL with
      | 0, ho, hT0, hl, D, DL =>
        obtain rfl := Option.some.inj ho
        obtain rfl := Option.some.inj hT0
        clear ho hT0
        exact val_wp (run_ldi rfl (E.get 6 rfl) (bx hc2 0 rfl)) rfl hM
      | 1, ho, hT0, hl, D, DL =>
        obtain rfl := Option.some.inj ho
        obtain rfl := Option.some.inj hT0
        clear ho hT0
        exact val_wp (run_ld69 rfl (E.get 5 rfl) (bx hc1 0 rfl)) rfl hM
      | 2, ho, hT0, hl, D, DL =>
        obtain rfl := Option.some.inj ho
        obtain rfl := Option.some.inj hT0
        clear ho hT0
        exact val_wp (run_move rfl (E.get 7 rfl)) rfl hM
      | 3, ho, hT0, hl, D, DL =>
        obtain rfl := Option.some.inj ho
        obtain rfl := Option.some.inj hT0
        clear ho hT0
        exact val_wp (run_slf69 (i := k * n) rfl (D 1 _ rfl rfl) (D 2 _ rfl rfl) hlt hcap) rfl hM
      | 4, ho, hT0, hl, D, DL =>
        obtain rfl := Option.some.inj ho
        obtain rfl := Option.some.inj hT0
        clear ho hT0
        exact val_wp (run_len69 rfl (D 3 _ rfl rfl)) rfl hM
      | 5, ho, hT0, hl, D, DL =>
        obtain rfl := Option.some.inj ho
        obtain rfl := Option.some.inj hT0
        clear ho hT0
        exact val_wp (run_min rfl (D 0 _ rfl rfl) (D 4 _ rfl rfl)) rfl hM
      | 6, ho, hT0, hl, D, DL =>
        obtain rfl := Option.some.inj ho
        obtain rfl := Option.some.inj hT0
        clear ho hT0
        exact val_wp (run_assign rfl (D 5 _ rfl rfl)) rfl hM
      | j9 + 7, ho, hT0, hl, D, DL => exact absurd hT0 (by simp)
    · intro a w5 E V hM
      have E := E.add (V 6 _ rfl)
      clear V
      have hJ := hJF _ _ _ hJ hM
      have hc1 := hM.obj hc1 id
      have hc2 := hM.obj hc2 id
      clear hM
      refine then_n ?_
      refine wp_seq ?_
      rw [show (min (n : Int) (((N - k * n) : Nat) : Int)) = ((min n (N - k * n) : Nat) : Int) by omega] at E
      have hb4 : k * n + min n (N - k * n) ≤ N := by omega
      refine envI_region ?_
      refine envI_put (d := 19) (v := .func (.yield l) #[] #[]) E rfl (by decide) rfl (wanted_none rfl _) (run_move rfl (E.get 5 rfl)) fun a E => ?_
      refine envI_put (d := 20) (v := .slice (some ⟨g, off, none⟩) N cap) E rfl (by decide) rfl (wanted_none rfl _) (run_ld69 rfl (E.get 7 rfl) (bx hc1 0 rfl)) fun a E => ?_
      refine envI_put (d := 21) (v := .int .i64 ((k * n : Nat) : Int)) E rfl (by decide) rfl (wanted_none rfl _) (run_move rfl (E.get 10 rfl)) fun a E => ?_
      refine envI_put (d := 22) (v := .int .i64 ((k * n : Nat) : Int)) E rfl (by decide) rfl (wanted_none rfl _) (run_move rfl (E.get 11 rfl)) fun a E => ?_
      refine envI_put (d := 23) (v := .int .i64 ((min n (N - k * n) : Nat) : Int)) E rfl (by decide) rfl (wanted_none rfl _) (run_move rfl (E.get 4 rfl)) fun a E => ?_
      refine envI_put (d := 24) (v := .int .i64 (((k * n : Nat) : Int) + ((min n (N - k * n) : Nat) : Int))) E rfl (by decide) rfl (wanted_none rfl _) (run_iadd Try.underlying3 (E.get 1 rfl) (E.get 0 rfl) (by omega) (by omega) rfl) fun a E => ?_
      refine envI_put (d := 25) (v := .int .i64 ((k * n : Nat) : Int)) E rfl (by decide) rfl (wanted_none rfl _) (run_move rfl (E.get 14 rfl)) fun a E => ?_
      refine envI_put (d := 26) (v := .int .i64 ((min n (N - k * n) : Nat) : Int)) E rfl (by decide) rfl (wanted_none rfl _) (run_move rfl (E.get 7 rfl)) fun a E => ?_
      refine envI_put (d := 27) (v := .int .i64 (((k * n : Nat) : Int) + ((min n (N - k * n) : Nat) : Int))) E rfl (by decide) rfl (wanted_none rfl _) (run_iadd Try.underlying3 (E.get 1 rfl) (E.get 0 rfl) (by omega) (by omega) rfl) fun a E => ?_
      have hj : k * n + (min n (N - k * n)) - k * n = min n (N - k * n) := by omega
      refine envI_put (d := 28) (v := chV g off N n k) E rfl (by decide) rfl (wanted_none rfl _) ((run_slx69 (i := k * n) (j := k * n + (min n (N - k * n))) rfl (E.get 7 rfl) (E.get 6 rfl) (E.get 3 rfl) (E.get 0 rfl) rfl (by omega) (by omega) (by omega) (by omega)).trans (by rw [hj]; rfl)) fun a E => ?_
      refine envI_yield (d := 29) E rfl (by decide) rfl (wanted_none rfl _) rfl (E.get 9 rfl) (E.get 0 rfl) (hround k _ _ hJ (chs_at hn hlt)) fun a w1 hJ E => ?_
      obtain ⟨hc1, hc2⟩ := hKp _ _ hJ
      refine envI_put (d := 30) (v := .bool false) E rfl (by decide) rfl (wanted_none rfl _) (run_not rfl (E.get 0 rfl)) fun a E => ?_
      refine envI_nil ?_
      refine then_n ?_
      refine wp_cond_false (E.get 0 rfl) ?_
      refine wp_skip ?_
      refine blk_n ?_
      refine then_n ?_
      refine wp_region_lit ?_
      refine env_put (d := 10) (v := .int .i64 ((k * n : Nat) : Int)) E rfl (by decide) rfl (wanted_none rfl _) (run_move rfl (E.get 20 rfl)) fun a E => ?_
      refine env_put (d := 11) (v := .int .i64 (n : Int)) E rfl (by decide) rfl (wanted_none rfl _) (run_ldi rfl (E.get 20 rfl) (bx hc2 0 rfl)) fun a E => ?_
      refine env_put (d := 12) (v := .int .i64 (((k * n : Nat) : Int) + (n : Int))) E rfl (by decide) rfl (wanted_none rfl _) (run_iadd Try.underlying3 (E.get 1 rfl) (E.get 0 rfl) (by omega) (by omega) rfl) fun a E => ?_
      refine env_set (d := 4) (v := .int .i64 (((k * n : Nat) : Int) + (n : Int))) E rfl (by decide) (wanted_none rfl _) (run_assign rfl (E.get 0 rfl)) fun a E => ?_
      refine wpList_nil ?_
      refine then_n ?_
      rw [show (((k * n : Nat) : Int) + (n : Int)) = (((k + 1) * n : Nat) : Int) by rw [Nat.succ_mul]; omega] at E
      refine ⟨⟨k + 1, E.of ⟨E.get 21 rfl, E.get 22 rfl, E.get 23 rfl, E.get 0 rfl, trivial⟩, (chs_lt hn).2 hlt, hJ, hc1, hc2⟩, ?_⟩
      rw [E.get 0 rfl]; simp only [intOf]; have : (k + 1) * n = k * n + n := (by rw [Nat.add_mul, Nat.one_mul]); omega
end Go.Proofs.Ytcafnanbdmapgaa
