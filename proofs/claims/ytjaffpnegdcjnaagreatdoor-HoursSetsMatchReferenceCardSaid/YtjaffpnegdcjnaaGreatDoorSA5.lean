/- The reference: weeks as sets. -/
import Derived.Test.YtjaffpnegdcjnaaGreatDoorSOw
set_option linter.unusedVariables false
set_option linter.unusedSimpArgs false
namespace Go.Proofs.YtjaffpnegdcjnaaGreatDoor
open Go.RowKit Go.Pl
set_option maxRecDepth 100000 in
set_option maxHeartbeats 4000000 in
theorem rset_calls {w : World} {v : Value} {l : List Sp} (hl : SpV w v l) (hw : wk l) : Calls Tryz.prog 37 #[v] w fun e w' => ∃ b, e = .returned (.pointer (some ⟨b, 0, none⟩)) ∧ wkB w' b (fun k => mnB l k) ∧ w.heap.size ≤ b ∧ Fr (fun _ => False) w w' := by
 obtain ⟨p0, cp0, hvp0, hlep0, hcapp0, hsp0, hzp0⟩ := hl
 subst hvp0
 refine wp_start1 Tryz.func37 rfl rfl (n := 33) (by decide) fun a E => ?_
 have hf : Fr (fun _ => False) w w := Fr.refl _ _
 refine wp_seq ?_
 refine wp_region_lit ?_
 refine ep (v := (Value.pointer none)) E (run_assign rfl rfl) fun a E => ?_
 refine wpList_nil ?_
 refine then_n ?_
 refine wp_seq ?_
 refine wp_region_lit ?_
 refine ep (v := .agg Tryz.zeroCells65) E (run_build65 rfl) fun a E => ?_
 refine env_box65 (d := 7) E rfl (by decide) rfl (wanted_none rfl _) rfl (E.get 0 rfl) fun a w1 b1 eb1 hb1 f1 E => ?_
 have hnb1 : w.heap.size ≤ b1 := by have := hf.size; omega
 have hsp0 := srcAt.fr hsp0 f1 (fun r hr => id)
 have hf := hf.trans f1
 clear f1
 refine ep (v := .pointer (some ⟨b1, 0, none⟩)) E (run_assign rfl (E.get 0 rfl)) fun a E => ?_
 refine wpList_nil ?_
 refine then_n ?_
 refine wp_seq ?_
 refine wp_seq ?_
 refine wp_region_lit ?_
 refine ep (v := .int .i64 0) E (run_assign rfl rfl) fun a E => ?_
 refine wpList_nil ?_
 refine then_n ?_
 refine wp_block ?_
 refine wp_loop (fun a w2 => ∃ (i : Nat), Env 33 [(4, .int .i64 (i : Int)), (0, .slice (p0) l.length cp0), (3, .pointer (some ⟨b1, 0, none⟩))] a ∧ i ≤ l.length ∧ wkB w2 b1 (fun k => mnB (l.take i) k) ∧ srcAt spL 2 w2 w.heap.size p0 l ∧ Fr (fun _ => False) w w2) (fun a _ => l.length - (intOf (a.eval (.tmp 4))).toNat) ?_ ?_
 ·exact ⟨0, E.of ⟨E.get 0 rfl, E.get 5 rfl, E.get 1 rfl, trivial⟩, Nat.zero_le _, hb1, hsp0, hf⟩
 clear E
 rintro a w2 ⟨i, E, hi, hb1, hsp0, hf⟩
 have hmu : l.length - (intOf (a.eval (.tmp 4))).toNat = l.length - i := by rw [E.get 0 rfl]; first | rfl | (simp [intOf]; done) | (simp only [intOf]; omega)
 rw [hmu]
 clear hmu
 refine wp_seq ?_
 refine wp_seq ?_
 refine wp_region_lit ?_
 refine ep (v := .int .i64 (i : Int)) E (run_move rfl (E.get 0 rfl)) fun a E => ?_
 refine ep (v := .slice (p0) l.length cp0) E (run_move rfl (E.get 2 rfl)) fun a E => ?_
 refine ep (v := .int .i64 (l.length : Int)) E (run_len22 rfl (E.get 0 rfl)) fun a E => ?_
 refine ep (v := .bool (decide ((i : Int) < (l.length : Int)))) E (run_ilss (E.get 2 rfl) (E.get 0 rfl) Tryz.underlying3 rfl) fun a E => ?_
 refine wpList_nil ?_
 refine then_n ?_
 cases hq3 : (decide ((i : Int) < (l.length : Int))) with
 | false =>
  rw [hq3] at E
  have hie : i = l.length := by have := of_decide_eq_false hq3; omega
  refine wp_cond_false (E.get 0 rfl) ?_
  refine wp_exit ?_
  refine then_e ?_
  refine then_e ?_
  refine blk_e ?_
  refine then_n ?_
  refine wp_seq ?_
  refine wp_region_lit ?_
  refine ep (v := .pointer (some ⟨b1, 0, none⟩)) E (run_move rfl (E.get 6 rfl)) fun a E => ?_
  refine ep (v := .pointer (some ⟨b1, 0, none⟩)) E (run_assign rfl (E.get 0 rfl)) fun a E => ?_
  refine wpList_nil ?_
  refine then_n ?_
  refine wp_ret ?_
  refine ret_tmp (t := 2) rfl E (E.get 0 rfl) ⟨_, rfl, ?_, hnb1, hf⟩
  rw [hie, List.take_length] at hb1
  exact hb1
 | true =>
  rw [hq3] at E
  have hlt : i < l.length := by have := of_decide_eq_true hq3; omega
  obtain ⟨y, hy⟩ : ∃ y, l[i]? = some y := ⟨_, List.getElem?_eq_getElem hlt⟩
  obtain ⟨g4, off4, hpe4, hgl4, hrow4⟩ := hsp0.at hlt
  replace hrow4 := hrow4 i y hy
  refine wp_cond_true (E.get 0 rfl) ?_
  refine wp_skip ?_
  refine then_n ?_
  refine wp_seq ?_
  refine wp_block ?_
  refine wp_seq ?_
  refine wp_region_lit ?_
  refine ep (v := .slice (p0) l.length cp0) E (run_move rfl (E.get 5 rfl)) fun a E => ?_
  refine ep (v := .int .i64 (i : Int)) E (run_move rfl (E.get 5 rfl)) fun a E => ?_
  refine ep (v := .pointer (some ⟨g4, (off4 + i * 2), none⟩)) E (run_index22 (i := i) rfl ((E.get 1 rfl).trans (by rw [hpe4])) (E.get 0 rfl) hlt) fun a E => ?_
  refine ep (v := .pointer (some ⟨g4, ((off4 + i * 2) + 0), none⟩)) E (fa48_0 rfl (E.get 0 rfl)) fun a E => ?_
  refine ep (v := .int .i64 y.1) E (run_ldi rfl (E.get 0 rfl) (hrow4 0 _ rfl)) fun a E => ?_
  refine ep (v := .int .i64 y.1) E (run_assign rfl (E.get 0 rfl)) fun a E => ?_
  refine wpList_nil ?_
  refine then_n ?_
  refine wp_block ?_
  have hwy := hw y (List.mem_of_getElem? hy)
  refine wp_loop (fun a w2 => ∃ (m : Int), Env 33 [(5, .int .i64 m), (4, .int .i64 (i : Int)), (0, .slice (p0) l.length cp0), (3, .pointer (some ⟨b1, 0, none⟩))] a ∧ y.1 ≤ m ∧ m ≤ y.2 ∧ wkB w2 b1 (fun k => mnB (l.take i) k || (decide (y.1 ≤ (k : Int)) && decide ((k : Int) < m))) ∧ srcAt spL 2 w2 w.heap.size p0 l ∧ w2.rangeAt g4 (off4 + i * 2) (spL y) ∧ Fr (fun _ => False) w w2) (fun a _ => (y.2 - intOf (a.eval (.tmp 5))).toNat) ?_ ?_
  ·exact ⟨y.1, E.of ⟨E.get 0 rfl, E.get 10 rfl, E.get 11 rfl, E.get 12 rfl, trivial⟩, Int.le_refl _, by omega, hb1.ext fun k hk => by have : (decide (y.1 ≤ (k : Int)) && decide ((k : Int) < y.1)) = false := (by rw [Bool.and_eq_false_iff]; simp only [decide_eq_false_iff_not]; omega); rw [this, Bool.or_false], hsp0, hrow4, hf⟩
  clear E
  rintro a w2 ⟨m, E, hm1, hm2, hb1, hsp0, hrow4, hf⟩
  have hmu : (y.2 - intOf (a.eval (.tmp 5))).toNat = (y.2 - m).toNat := by rw [E.get 0 rfl]; first | rfl | (simp [intOf]; done) | (simp only [intOf]; omega)
  rw [hmu]
  clear hmu
  refine wp_seq ?_
  refine wp_seq ?_
  refine wp_region_lit ?_
  refine ep (v := .int .i64 m) E (run_move rfl (E.get 0 rfl)) fun a E => ?_
  refine ep (v := .slice (p0) l.length cp0) E (run_move rfl (E.get 3 rfl)) fun a E => ?_
  refine ep (v := .int .i64 (i : Int)) E (run_move rfl (E.get 3 rfl)) fun a E => ?_
  refine ep (v := .pointer (some ⟨g4, (off4 + i * 2), none⟩)) E (run_index22 (i := i) rfl ((E.get 1 rfl).trans (by rw [hpe4])) (E.get 0 rfl) hlt) fun a E => ?_
  refine ep (v := .pointer (some ⟨g4, ((off4 + i * 2) + 1), none⟩)) E (fa48_1 rfl (E.get 0 rfl)) fun a E => ?_
  refine ep (v := .int .i64 y.2) E (run_ldi rfl (E.get 0 rfl) (hrow4 1 _ rfl)) fun a E => ?_
  refine ep (v := .bool (decide (m < y.2))) E (run_ilss (E.get 5 rfl) (E.get 0 rfl) Tryz.underlying3 rfl) fun a E => ?_
  refine wpList_nil ?_
  refine then_n ?_
  cases hq6 : (decide (m < y.2)) with
  | false =>
   rw [hq6] at E
   have hme : m = y.2 := by have := of_decide_eq_false hq6; omega
   have hmy : ∀ k : Nat, (decide (y.1 ≤ (k : Int)) && decide ((k : Int) < m)) = [y].any (fun s => decide (s.1 ≤ (k : Int)) && decide ((k : Int) < s.2)) := fun k => by rw [hme]; simp
   refine wp_cond_false (E.get 0 rfl) ?_
   refine wp_exit ?_
   refine then_e ?_
   refine then_e ?_
   refine blk_e ?_
   refine blk_n ?_
   refine then_n ?_
   refine wp_region_lit ?_
   refine ep (v := .int .i64 (i : Int)) E (run_move rfl (E.get 8 rfl)) fun a E => ?_
   refine ep (v := .int .i64 ((i : Int) + 1)) E (run_iadd Tryz.underlying3 (E.get 0 rfl) rfl (by omega) (by omega) rfl) fun a E => ?_
   refine env_set (d := 4) (v := .int .i64 ((i : Int) + 1)) E rfl (by decide) (wanted_none rfl _) (run_assign rfl (E.get 0 rfl)) fun a E => ?_
   refine wpList_nil ?_
   refine then_n ?_
   refine ⟨⟨i + 1, E.of ⟨E.get 0 rfl, E.get 11 rfl, E.get 12 rfl, trivial⟩, hlt, ?_, hsp0, hf⟩, ?_⟩
   ·refine hb1.ext fun k hk => ?_
    rw [List.take_add_one, hy]
    unfold mnB
    rw [List.any_append, hmy]
    simp
   ·rw [E.get 0 rfl]; simp only [intOf]; omega
  | true =>
   rw [hq6] at E
   have hmlt : m < y.2 := of_decide_eq_true hq6
   have hmn : m = ((m.toNat : Nat) : Int) := by omega
   have hm8 : m.toNat < 10080 := by omega
   refine wp_cond_true (E.get 0 rfl) ?_
   refine wp_skip ?_
   refine then_n ?_
   refine wp_seq ?_
   refine wp_block ?_
   refine wp_region_lit ?_
   refine ep (v := .pointer (some ⟨b1, 0, none⟩)) E (run_move rfl (E.get 10 rfl)) fun a E => ?_
   refine ep (v := .int .i64 m) E (run_move rfl (E.get 8 rfl)) fun a E => ?_
   refine ep (v := .pointer (some ⟨b1, 0, none⟩)) E (run_nilchk rfl (E.get 1 rfl)) fun a E => ?_
   refine ep (v := .pointer (some ⟨b1, (0 + m.toNat), none⟩)) E (run_index65 (i := m.toNat) rfl (E.get 0 rfl) ((E.get 1 rfl).trans (by rw [← hmn])) hm8) fun a E => ?_
   refine env_stw E rfl (wanted_none rfl _) rfl (E.get 0 rfl) rfl hb1 hm8 fun w1 hb1n f1 E => ?_
   have hsp0 := srcAt.fr hsp0 f1 (fun r hr => (fun e => by (try simp only at e); omega))
   have hrow4 := fun j u hu => f1.cell (hrow4 j u hu) (fun e => by (try simp only at e); omega)
   have hf := hf.trans' f1 (fun r hr => (fun e => by (try simp only at e); omega))
   clear f1
   replace hb1 := hb1n
   refine wpList_nil ?_
   refine blk_n ?_
   refine then_n ?_
   refine wp_region_lit ?_
   refine ep (v := .int .i64 m) E (run_move rfl (E.get 11 rfl)) fun a E => ?_
   refine ep (v := .int .i64 (m + 1)) E (run_iadd Tryz.underlying3 (E.get 0 rfl) rfl (by omega) (by omega) rfl) fun a E => ?_
   refine env_set (d := 5) (v := .int .i64 (m + 1)) E rfl (by decide) (wanted_none rfl _) (run_assign rfl (E.get 0 rfl)) fun a E => ?_
   refine wpList_nil ?_
   refine then_n ?_
   refine ⟨⟨m + 1, E.of ⟨E.get 0 rfl, E.get 14 rfl, E.get 15 rfl, E.get 16 rfl, trivial⟩, by omega, by omega, ?_, hsp0, hrow4, hf⟩, ?_⟩
   ·refine hb1.ext fun k hk => ?_
    by_cases hkm : k = m.toNat
    ·subst hkm; rw [if_pos rfl]
     have e1 : decide (y.1 ≤ ((m.toNat : Nat) : Int)) = true := decide_eq_true (by omega)
     have e2 : decide (((m.toNat : Nat) : Int) < m + 1) = true := decide_eq_true (by omega)
     rw [e1, e2]; simp
    ·rw [if_neg hkm]
     have e : decide ((k : Int) < m) = decide ((k : Int) < m + 1) := by rw [decide_eq_decide]; omega
     rw [e]
   ·rw [E.get 0 rfl]; simp only [intOf]; omega
set_option maxRecDepth 100000 in
set_option maxHeartbeats 4000000 in
theorem spans_calls {w : World} {b : Nat} {t : Nat → Bool} (hb : wkB w b t) : Calls Tryz.prog 40 #[.pointer (some ⟨b, 0, none⟩)] w fun e w' => ∃ v, e = .returned v ∧ SpV w' v (runs t 10080) ∧ Fr (fun _ => False) w w' := by
 refine wp_start1 Tryz.func40 rfl rfl (n := 48) (by decide) fun a E => ?_
 have hf : Fr (fun _ => False) w w := Fr.refl _ _
 refine wp_seq ?_
 refine wp_region_lit ?_
 refine ep (v := .slice none 0 0) E (run_assign rfl rfl) fun a E => ?_
 refine wpList_nil ?_
 refine then_n ?_
 refine wp_seq ?_
 refine wp_region_lit ?_
 refine ep (v := .slice none 0 0) E (run_assign rfl rfl) fun a E => ?_
 refine wpList_nil ?_
 refine then_n ?_
 refine wp_seq ?_
 refine wp_seq ?_
 refine wp_region_lit ?_
 refine ep (v := .int .i64 0) E (run_assign rfl rfl) fun a E => ?_
 refine wpList_nil ?_
 refine then_n ?_
 refine wp_block ?_
 obtain ⟨B, hB⟩ : ∃ B, B = w.heap.size := ⟨_, rfl⟩
 have hBs : B ≤ w.heap.size := by omega
 have hwB : w.heap.size ≤ B := by have := hf.size; omega
 have hbB : b < B := by have := hb.lt; omega
 have hO : oSp w B (.slice none 0 0) (runs t 0) := ow_nil _
 refine wp_loop (fun a w2 => ∃ (n : Nat) (dv : Value), Env 48 [(4, .int .i64 (n : Int)), (3, dv), (0, .pointer (some ⟨b, 0, none⟩))] a ∧ n ≤ 10080 ∧ oSp w2 B dv (runs t n) ∧ wkB w2 b t ∧ Fr (fun _ => False) w w2 ∧ B ≤ w2.heap.size) (fun a _ => 10080 - (intOf (a.eval (.tmp 4))).toNat) ?_ ?_
 ·exact ⟨0, .slice none 0 0, E.of ⟨E.get 0 rfl, E.get 1 rfl, E.get 3 rfl, trivial⟩, Nat.zero_le _, hO, hb, hf, hBs⟩
 clear E
 rintro a w2 ⟨n, dv, E, hn, hO, hb, hf, hBs⟩
 have hmu : 10080 - (intOf (a.eval (.tmp 4))).toNat = 10080 - n := by rw [E.get 0 rfl]; first | rfl | (simp [intOf]; done) | (simp only [intOf]; omega)
 rw [hmu]
 clear hmu
 have hrl : (runs t n).length ≤ n := by
  have : ∀ n, (runs t n).length ≤ n := fun n => by
   induction n with
   | zero => exact Nat.le_refl _
   | succ n ih => unfold runs; split <;> (try split) <;> (try simp only [List.length_append, List.length_dropLast, List.length_singleton]) <;> omega
  exact this n
 refine wp_seq ?_
 refine wp_seq ?_
 refine wp_region_lit ?_
 refine ep (v := .int .i64 (n : Int)) E (run_move rfl (E.get 0 rfl)) fun a E => ?_
 refine ep (v := .bool (decide ((n : Int) < 10080))) E (run_ilss (E.get 0 rfl) rfl Tryz.underlying3 rfl) fun a E => ?_
 refine wpList_nil ?_
 refine then_n ?_
 cases hq8 : (decide ((n : Int) < 10080)) with
 | false =>
  rw [hq8] at E
  have hie : n = 10080 := by have := of_decide_eq_false hq8; omega
  refine wp_cond_false (E.get 0 rfl) ?_
  refine wp_exit ?_
  refine then_e ?_
  refine then_e ?_
  refine blk_e ?_
  refine then_n ?_
  refine wp_seq ?_
  refine wp_region_lit ?_
  refine ep (v := dv) E (run_move rfl (E.get 3 rfl)) fun a E => ?_
  refine ep (v := dv) E (run_assign rfl (E.get 0 rfl)) fun a E => ?_
  refine wpList_nil ?_
  refine then_n ?_
  refine wp_ret ?_
  refine ret_tmp (t := 2) rfl E (E.get 0 rfl) ⟨_, rfl, ?_, hf⟩
  rw [hie] at hO
  exact ow.Src spL_len hO
 | true =>
  rw [hq8] at E
  have hlt : n < 10080 := by have := of_decide_eq_true hq8; omega
  refine wp_cond_true (E.get 0 rfl) ?_
  refine wp_skip ?_
  refine then_n ?_
  refine wp_seq ?_
  refine wp_block ?_
  refine wp_seq ?_
  refine wp_region_lit ?_
  refine ep (v := .pointer (some ⟨b, 0, none⟩)) E (run_move rfl (E.get 4 rfl)) fun a E => ?_
  refine ep (v := .int .i64 (n : Int)) E (run_move rfl (E.get 3 rfl)) fun a E => ?_
  refine ep (v := .pointer (some ⟨b, 0, none⟩)) E (run_nilchk rfl (E.get 1 rfl)) fun a E => ?_
  refine ep (v := .pointer (some ⟨b, (0 + n), none⟩)) E (run_index65 (i := n) rfl (E.get 0 rfl) (E.get 1 rfl) hlt) fun a E => ?_
  refine ep (v := .bool (t n)) E (run_ldb rfl (E.get 0 rfl) (hb.at hlt)) fun a E => ?_
  refine ep (v := .bool (t n)) E (run_move rfl (E.get 0 rfl)) fun a E => ?_
  cases hq9 : (t n) with
  | false =>
   rw [hq9] at E
   refine ek E rfl (E.get 0 rfl) fun a E => ?_
   refine ek E rfl (E.get 1 rfl) fun a E => ?_
   refine ek E rfl (E.get 2 rfl) fun a E => ?_
   refine eu E rfl (E.get 0 rfl) fun a E => ?_
   refine eu E rfl (E.get 1 rfl) fun a E => ?_
   refine eu E rfl (E.get 2 rfl) fun a E => ?_
   refine eu E rfl (E.get 3 rfl) fun a E => ?_
   refine eu E rfl (E.get 4 rfl) fun a E => ?_
   refine eu E rfl (E.get 5 rfl) fun a E => ?_
   refine eu E rfl (E.get 6 rfl) fun a E => ?_
   refine ek E rfl (E.get 10 rfl) fun a E => ?_
   refine ep (v := .bool false) E (run_pick_f rfl (E.get 11 rfl) rfl) fun a E => ?_
   refine wpList_nil ?_
   refine then_n ?_
   refine wp_cond_false (E.get 0 rfl) ?_
   refine wp_seq ?_
   refine wp_region_lit ?_
   refine ep (v := .pointer (some ⟨b, 0, none⟩)) E (run_move rfl (E.get 22 rfl)) fun a E => ?_
   refine ep (v := .int .i64 (n : Int)) E (run_move rfl (E.get 21 rfl)) fun a E => ?_
   refine ep (v := .pointer (some ⟨b, 0, none⟩)) E (run_nilchk rfl (E.get 1 rfl)) fun a E => ?_
   refine ep (v := .pointer (some ⟨b, (0 + n), none⟩)) E (run_index65 (i := n) rfl (E.get 0 rfl) (E.get 1 rfl) hlt) fun a E => ?_
   refine ep (v := .bool false) E ((run_ldb rfl (E.get 0 rfl) (hb.at hlt)).trans (by rw [hq9] <;> rfl)) fun a E => ?_
   refine wpList_nil ?_
   refine then_n ?_
   refine wp_cond_false (E.get 0 rfl) ?_
   refine wp_skip ?_
   refine blk_n ?_
   refine then_n ?_
   refine wp_region_lit ?_
   refine ep (v := .int .i64 (n : Int)) E (run_move rfl (E.get 25 rfl)) fun a E => ?_
   refine ep (v := .int .i64 ((n : Int) + 1)) E (run_iadd Tryz.underlying3 (E.get 0 rfl) rfl (by omega) (by omega) rfl) fun a E => ?_
   refine env_set (d := 4) (v := .int .i64 ((n : Int) + 1)) E rfl (by decide) (wanted_none rfl _) (run_assign rfl (E.get 0 rfl)) fun a E => ?_
   refine wpList_nil ?_
   refine then_n ?_
   refine ⟨⟨n + 1, dv, E.of ⟨E.get 0 rfl, E.get 28 rfl, E.get 29 rfl, trivial⟩, by omega, ?_, hb, hf, hBs⟩, ?_⟩
   ·unfold runs
    rw [if_neg (by rw [hq9]; simp)]
    exact hO
   ·rw [E.get 0 rfl]; simp only [intOf]; omega
  | true =>
   rw [hq9] at E
   refine eg (v := .int .i64 (n : Int)) E (w_yes (g := 5) (s := 14) E rfl rfl (by decide) (E.get 0 rfl)) (run_move rfl (E.get 8 rfl)) fun a E => ?_
   refine eg (v := .bool ((n : Int) == 0)) E (w_yes (g := 5) (s := 14) E rfl rfl (by decide) (E.get 1 rfl)) (run_ieql (E.get 0 rfl) rfl Tryz.underlying3 rfl) fun a E => ?_
   refine eg (v := .bool ((n : Int) == 0)) E (w_yes (g := 5) (s := 14) E rfl rfl (by decide) (E.get 2 rfl)) (run_move rfl (E.get 0 rfl)) fun a E => ?_
   cases hq10 : ((n : Int) == 0) with
   | false =>
    rw [hq10] at E
    have hn0 : 0 < n := by have := hq10; rw [beq_eq_false_iff_ne] at this; omega
    have hn1 : n - 1 < 10080 := by omega
    have hpn : (n : Int) - 1 = ((n - 1 : Nat) : Int) := by omega
    refine eg (v := .pointer (some ⟨b, 0, none⟩)) E (w_yes (g := 8) (s := 17) E rfl rfl (by decide) (E.get 0 rfl)) (run_move rfl (E.get 13 rfl)) fun a E => ?_
    refine eg (v := .int .i64 (n : Int)) E (w_yes (g := 8) (s := 17) E rfl rfl (by decide) (E.get 1 rfl)) (run_move rfl (E.get 12 rfl)) fun a E => ?_
    refine eg (v := .int .i64 ((n : Int) - 1)) E (w_yes (g := 8) (s := 17) E rfl rfl (by decide) (E.get 2 rfl)) (run_isub Tryz.underlying3 (E.get 0 rfl) rfl (by omega) (by omega) rfl) fun a E => ?_
    refine eg (v := .pointer (some ⟨b, 0, none⟩)) E (w_yes (g := 8) (s := 17) E rfl rfl (by decide) (E.get 3 rfl)) (run_nilchk rfl (E.get 2 rfl)) fun a E => ?_
    refine eg (v := .pointer (some ⟨b, (0 + (n - 1)), none⟩)) E (w_yes (g := 8) (s := 17) E rfl rfl (by decide) (E.get 4 rfl)) (run_index65 (i := (n - 1)) rfl (E.get 0 rfl) ((E.get 1 rfl).trans (by rw [hpn])) hn1) fun a E => ?_
    refine eg (v := .bool (t (n - 1))) E (w_yes (g := 8) (s := 17) E rfl rfl (by decide) (E.get 5 rfl)) (run_ldb rfl (E.get 0 rfl) (hb.at hn1)) fun a E => ?_
    refine eg (v := .bool (!(t (n - 1)))) E (w_yes (g := 8) (s := 17) E rfl rfl (by decide) (E.get 6 rfl)) (run_not rfl (E.get 0 rfl)) fun a E => ?_
    refine eg (v := .bool (!(t (n - 1)))) E (w_yes (g := 5) (s := 14) E rfl rfl (by decide) (E.get 10 rfl)) (run_pick_f rfl (E.get 7 rfl) (E.get 0 rfl)) fun a E => ?_
    refine ep (v := .bool (!(t (n - 1)))) E (run_pick_t rfl (E.get 11 rfl) (E.get 0 rfl)) fun a E => ?_
    refine wpList_nil ?_
    refine then_n ?_
    cases hq11 : (t (n - 1)) with
    | false =>
     rw [hq11] at E
     refine wp_cond_true (E.get 0 rfl) ?_
     have hc9 : (n == 0 || !t (n - 1)) = true := by rw [hq11]; simp
     refine wp_region_lit ?_
     refine ep (v := dv) E (run_move rfl (E.get 21 rfl)) fun a E => ?_
     refine ep (v := .int .i64 (n : Int)) E (run_move rfl (E.get 21 rfl)) fun a E => ?_
     refine ep (v := .int .i64 (n : Int)) E (run_move rfl (E.get 22 rfl)) fun a E => ?_
     refine ep (v := .int .i64 ((n : Int) + 1)) E (run_iadd Tryz.underlying3 (E.get 0 rfl) rfl (by omega) (by omega) rfl) fun a E => ?_
     refine ep (v := .agg (spA ((n : Int), ((n : Int) + 1)))) E (run_of48 rfl (E.get 2 rfl) (E.get 0 rfl)) fun a E => ?_
     refine env_one22 (d := 32) E rfl (by decide) rfl (wanted_none rfl _) rfl (E.get 0 rfl) fun a w1 b12 eb12 hbb12 f1 E => ?_
     have hb := wkB.fr hb f1 id
     have hBs := Nat.le_trans hBs f1.size
     have hO := ow.fr hO f1 (fun _ _ => id)
     have hf := hf.trans f1
     clear f1
     have hsb12 := src_one (f := spL) (c := 2) (G := w1.heap.size) hbb12 (lt_of_blk hbb12)
     clear hbb12 eb12
     refine env_app22 (d := 33) E rfl (by decide) rfl rfl rfl (E.get 5 rfl) hO (E.get 0 rfl) hsb12 (fun h => by cases h) (by simp only [List.length_cons, List.length_nil]; omega) hBs fun a w1 ov13 hO2 f1 hloc E => ?_
     have hb := wkB.fr hb f1 (fun e => by have := (hO.lt e).1; (try simp only at e); omega)
     have hBs := Nat.le_trans hBs f1.size
     have hf := hf.trans' f1 (fun r hr => (fun e => by have := (hO.lt e).1; (try simp only at e); omega))
     clear f1
     replace hO := hO2
     clear hloc
     refine env_set (d := 3) (v := ov13) E rfl (by decide) (wanted_none rfl _) (run_assign rfl (E.get 0 rfl)) fun a E => ?_
     refine wpList_nil ?_
     refine blk_n ?_
     refine then_n ?_
     refine wp_region_lit ?_
     refine ep (v := .int .i64 (n : Int)) E (run_move rfl (E.get 28 rfl)) fun a E => ?_
     refine ep (v := .int .i64 ((n : Int) + 1)) E (run_iadd Tryz.underlying3 (E.get 0 rfl) rfl (by omega) (by omega) rfl) fun a E => ?_
     refine env_set (d := 4) (v := .int .i64 ((n : Int) + 1)) E rfl (by decide) (wanted_none rfl _) (run_assign rfl (E.get 0 rfl)) fun a E => ?_
     refine wpList_nil ?_
     refine then_n ?_
     refine ⟨⟨n + 1, ov13, E.of ⟨E.get 0 rfl, E.get 3 rfl, E.get 31 rfl, trivial⟩, by omega, ?_, hb, hf, hBs⟩, ?_⟩
     ·unfold runs
      rw [if_pos hq9, if_pos hc9]
      exact hO
     ·rw [E.get 0 rfl]; simp only [intOf]; omega
    | true =>
     rw [hq11] at E
     refine wp_cond_false (E.get 0 rfl) ?_
     refine wp_seq ?_
     refine wp_region_lit ?_
     refine ep (v := .pointer (some ⟨b, 0, none⟩)) E (run_move rfl (E.get 22 rfl)) fun a E => ?_
     refine ep (v := .int .i64 (n : Int)) E (run_move rfl (E.get 21 rfl)) fun a E => ?_
     refine ep (v := .pointer (some ⟨b, 0, none⟩)) E (run_nilchk rfl (E.get 1 rfl)) fun a E => ?_
     refine ep (v := .pointer (some ⟨b, (0 + n), none⟩)) E (run_index65 (i := n) rfl (E.get 0 rfl) (E.get 1 rfl) hlt) fun a E => ?_
     refine ep (v := .bool true) E ((run_ldb rfl (E.get 0 rfl) (hb.at hlt)).trans (by rw [hq9] <;> rfl)) fun a E => ?_
     refine wpList_nil ?_
     refine then_n ?_
     refine wp_cond_true (E.get 0 rfl) ?_
     have hc9 : ¬ (n == 0 || !t (n - 1)) = true := by rw [hq11]; simp; omega
     obtain ⟨A, q, hA⟩ : ∃ A q, runs t n = A ++ [q] := ⟨_, _, (List.dropLast_concat_getLast ((runs_at t n (by omega)).ne hn0 hq11)).symm⟩
     rw [hA] at hO hrl
     obtain ⟨go, cpo, hdv, hob, ⟨hc1, hc2⟩, hc3, hO2, f2⟩ := hO.setTo ((n : Int) + 1)
     subst hdv
     have hgb : go ≠ b := by have := (hO.lt hob).1; omega
     have hAl : ((A ++ [q]).length : Int) - 1 = ((A.length : Nat) : Int) := by rw [List.length_append, List.length_singleton]; omega
     refine wp_region_lit ?_
     refine ep (v := .slice (some ⟨go, 0, none⟩) (A ++ [q]).length cpo) E (run_move rfl (E.get 26 rfl)) fun a E => ?_
     refine ep (v := .slice (some ⟨go, 0, none⟩) (A ++ [q]).length cpo) E (run_move rfl (E.get 27 rfl)) fun a E => ?_
     refine ep (v := .int .i64 ((A ++ [q]).length : Int)) E (run_len22 rfl (E.get 0 rfl)) fun a E => ?_
     refine ep (v := .int .i64 (((A ++ [q]).length : Int) - 1)) E (run_isub Tryz.underlying3 (E.get 0 rfl) rfl (by omega) (by omega) rfl) fun a E => ?_
     refine ep (v := .int .i64 (n : Int)) E (run_move rfl (E.get 29 rfl)) fun a E => ?_
     refine ep (v := .int .i64 ((n : Int) + 1)) E (run_iadd Tryz.underlying3 (E.get 0 rfl) rfl (by omega) (by omega) rfl) fun a E => ?_
     refine ep (v := .pointer (some ⟨go, (0 + A.length * 2), none⟩)) E (run_index22 (i := A.length) rfl (E.get 5 rfl) ((E.get 2 rfl).trans (by rw [hAl])) (by simp)) fun a E => ?_
     refine ep (v := .pointer (some ⟨go, ((0 + A.length * 2) + 1), none⟩)) E (fa48_1 rfl (E.get 0 rfl)) fun a E => ?_
     refine env_store E rfl (wanted_none rfl _) (run_st3 rfl (E.get 0 rfl) (E.get 2 rfl) hc1 hc2) fun E => ?_
     generalize World.setCell _ _ _ = w1 at hO2 f2 ⊢
     have hb := hb.fr f2 (fun e => by have := (hO.lt e).1; omega)
     have hf := hf.trans' f2 (fun r hr e => by have := (hO.lt e).1; omega)
     have hBs := Nat.le_trans hBs f2.size
     clear hO f2 hc1 hc2 hc3
     have hO := hO2
     clear hO2
     refine wpList_nil ?_
     refine blk_n ?_
     refine then_n ?_
     refine wp_region_lit ?_
     refine ep (v := .int .i64 (n : Int)) E (run_move rfl (E.get 33 rfl)) fun a E => ?_
     refine ep (v := .int .i64 ((n : Int) + 1)) E (run_iadd Tryz.underlying3 (E.get 0 rfl) rfl (by omega) (by omega) rfl) fun a E => ?_
     refine env_set (d := 4) (v := .int .i64 ((n : Int) + 1)) E rfl (by decide) (wanted_none rfl _) (run_assign rfl (E.get 0 rfl)) fun a E => ?_
     refine wpList_nil ?_
     refine then_n ?_
     refine ⟨⟨n + 1, .slice (some ⟨go, 0, none⟩) (A ++ [q]).length cpo, E.of ⟨E.get 0 rfl, E.get 36 rfl, E.get 37 rfl, trivial⟩, by omega, ?_, hb, hf, hBs⟩, ?_⟩
     ·unfold runs
      rw [if_pos hq9, if_neg hc9, hA, List.dropLast_concat, List.getLast?_concat]
      exact hO
     ·rw [E.get 0 rfl]; simp only [intOf]; omega
   | true =>
    rw [hq10] at E
    refine ek E rfl (E.get 0 rfl) fun a E => ?_
    refine ek E rfl (E.get 1 rfl) fun a E => ?_
    refine ek E rfl (E.get 2 rfl) fun a E => ?_
    refine ek E rfl (E.get 3 rfl) fun a E => ?_
    refine ek E rfl (E.get 4 rfl) fun a E => ?_
    refine ek E rfl (E.get 5 rfl) fun a E => ?_
    refine ek E rfl (E.get 6 rfl) fun a E => ?_
    refine eg (v := .bool true) E (w_yes (g := 5) (s := 14) E rfl rfl (by decide) (E.get 10 rfl)) (run_pick_t rfl (E.get 7 rfl) rfl) fun a E => ?_
    refine ep (v := .bool true) E (run_pick_t rfl (E.get 11 rfl) (E.get 0 rfl)) fun a E => ?_
    refine wpList_nil ?_
    refine then_n ?_
    refine wp_cond_true (E.get 0 rfl) ?_
    have hc9 : (n == 0 || !t (n - 1)) = true := by rw [show n = 0 by have h9 := hq10; rw [beq_iff_eq] at h9; omega]; rfl
    refine wp_region_lit ?_
    refine ep (v := dv) E (run_move rfl (E.get 21 rfl)) fun a E => ?_
    refine ep (v := .int .i64 (n : Int)) E (run_move rfl (E.get 21 rfl)) fun a E => ?_
    refine ep (v := .int .i64 (n : Int)) E (run_move rfl (E.get 22 rfl)) fun a E => ?_
    refine ep (v := .int .i64 ((n : Int) + 1)) E (run_iadd Tryz.underlying3 (E.get 0 rfl) rfl (by omega) (by omega) rfl) fun a E => ?_
    refine ep (v := .agg (spA ((n : Int), ((n : Int) + 1)))) E (run_of48 rfl (E.get 2 rfl) (E.get 0 rfl)) fun a E => ?_
    refine env_one22 (d := 32) E rfl (by decide) rfl (wanted_none rfl _) rfl (E.get 0 rfl) fun a w1 b14 eb14 hbb14 f1 E => ?_
    have hb := wkB.fr hb f1 id
    have hBs := Nat.le_trans hBs f1.size
    have hO := ow.fr hO f1 (fun _ _ => id)
    have hf := hf.trans f1
    clear f1
    have hsb14 := src_one (f := spL) (c := 2) (G := w1.heap.size) hbb14 (lt_of_blk hbb14)
    clear hbb14 eb14
    refine env_app22 (d := 33) E rfl (by decide) rfl rfl rfl (E.get 5 rfl) hO (E.get 0 rfl) hsb14 (fun h => by cases h) (by simp only [List.length_cons, List.length_nil]; omega) hBs fun a w1 ov15 hO2 f1 hloc E => ?_
    have hb := wkB.fr hb f1 (fun e => by have := (hO.lt e).1; (try simp only at e); omega)
    have hBs := Nat.le_trans hBs f1.size
    have hf := hf.trans' f1 (fun r hr => (fun e => by have := (hO.lt e).1; (try simp only at e); omega))
    clear f1
    replace hO := hO2
    clear hloc
    refine env_set (d := 3) (v := ov15) E rfl (by decide) (wanted_none rfl _) (run_assign rfl (E.get 0 rfl)) fun a E => ?_
    refine wpList_nil ?_
    refine blk_n ?_
    refine then_n ?_
    refine wp_region_lit ?_
    refine ep (v := .int .i64 (n : Int)) E (run_move rfl (E.get 28 rfl)) fun a E => ?_
    refine ep (v := .int .i64 ((n : Int) + 1)) E (run_iadd Tryz.underlying3 (E.get 0 rfl) rfl (by omega) (by omega) rfl) fun a E => ?_
    refine env_set (d := 4) (v := .int .i64 ((n : Int) + 1)) E rfl (by decide) (wanted_none rfl _) (run_assign rfl (E.get 0 rfl)) fun a E => ?_
    refine wpList_nil ?_
    refine then_n ?_
    refine ⟨⟨n + 1, ov15, E.of ⟨E.get 0 rfl, E.get 3 rfl, E.get 31 rfl, trivial⟩, by omega, ?_, hb, hf, hBs⟩, ?_⟩
    ·unfold runs
     rw [if_pos hq9, if_pos hc9]
     exact hO
    ·rw [E.get 0 rfl]; simp only [intOf]; omega
/-- What the three answer for any lists: nothing where one is not valid. -/
def notQ (l : List Sp) : List Sp := if vl (-1) l = true then notL l else []
def bothQ (a b : List Sp) : List Sp := if (vl (-1) a && vl (-1) b) = true then bothL a b else []
def eitherQ (a b : List Sp) : List Sp := if (vl (-1) a && vl (-1) b) = true then eitherL a b else []
set_option maxRecDepth 100000 in
set_option maxHeartbeats 4000000 in
theorem rnot_calls {w : World} {v : Value} {l : List Sp} (hl : SpV w v l) : Calls Tryz.prog 29 #[v] w fun e w' => ∃ u, e = .returned u ∧ SpV w' u (notQ l) ∧ Fr (fun _ => False) w w' := by
 obtain ⟨p0, cp0, hvp0, hlep0, hcapp0, hsp0, hzp0⟩ := hl
 subst hvp0
 refine wp_start1 Tryz.func29 rfl rfl (n := 26) (by decide) fun a E => ?_
 have hf : Fr (fun _ => False) w w := Fr.refl _ _
 refine wp_seq ?_
 refine wp_region_lit ?_
 refine ep (v := .slice none 0 0) E (run_assign rfl rfl) fun a E => ?_
 refine wpList_nil ?_
 refine then_n ?_
 refine wp_seq ?_
 refine wp_seq ?_
 refine wp_region_lit ?_
 refine ep (v := .slice (p0) l.length cp0) E (run_move rfl (E.get 1 rfl)) fun a E => ?_
 refine env_call (d := 6) (v := .bool (vl (-1) l)) E rfl (by decide) rfl (wanted_none rfl _) (run_call1 (enters_of Tryz.func19 (by kernel_rfl) rfl) rfl rfl (E.get 0 rfl)) (rvalid_calls ⟨_, _, rfl, hlep0, hcapp0, hsp0.mono (by first | exact hf.size | omega), hzp0⟩) fun a w1 f1 E => ?_
 have hsp0 := srcAt.fr hsp0 f1 (fun r hr => id)
 have hf := hf.trans f1
 clear f1
 refine ep (v := .bool (!(vl (-1) l))) E (run_not rfl (E.get 0 rfl)) fun a E => ?_
 refine wpList_nil ?_
 refine then_n ?_
 cases hq16 : (vl (-1) l) with
 | false =>
  rw [hq16] at E
  refine wp_cond_true (E.get 0 rfl) ?_
  refine wp_seq ?_
  refine wp_region_lit ?_
  refine env_set (d := 2) (v := .slice none 0 0) E rfl (by decide) (wanted_none rfl _) (run_assign rfl rfl) fun a E => ?_
  refine wpList_nil ?_
  refine then_n ?_
  refine wp_ret ?_
  refine then_r ?_
  refine ret_tmp (t := 2) rfl E (E.get 0 rfl) ⟨_, rfl, ?_, hf⟩
  unfold notQ
  rw [hq16]
  exact Src.nil _
 | true =>
  rw [hq16] at E
  have hvl := hq16
  refine wp_cond_false (E.get 0 rfl) ?_
  refine wp_skip ?_
  refine then_n ?_
  refine wp_seq ?_
  refine wp_region_lit ?_
  refine ep (v := .slice (p0) l.length cp0) E (run_move rfl (E.get 4 rfl)) fun a E => ?_
  refine env_callv (d := 9) (R := fun u w8 => ∃ b, u = .pointer (some ⟨b, 0, none⟩) ∧ wkB w8 b (fun k => mnB l k) ∧ w1.heap.size ≤ b ∧ Fr (fun _ => False) w1 w8) E rfl (by decide) rfl (wanted_none rfl _) (run_call1 (enters_of Tryz.func37 (by kernel_rfl) rfl) rfl rfl (E.get 0 rfl)) ((rset_calls ⟨_, _, rfl, hlep0, hcapp0, hsp0.mono (by first | exact hf.size | omega), hzp0⟩ (vl_wk (Int.le_refl _) hvl)).mono fun e w8 h => by obtain ⟨b, rfl, h⟩ := h; exact ⟨_, rfl, b, rfl, h⟩) fun a w1 u ⟨bw17, hu, hw17, hb9, f1⟩ E => ?_
  subst hu
  have hnbw17 : w.heap.size ≤ bw17 := by have := hf.size; omega
  clear hb9
  have hsp0 := srcAt.fr hsp0 f1 (fun r hr => id)
  have hf := hf.trans f1
  clear f1
  refine ep (v := .pointer (some ⟨bw17, 0, none⟩)) E (run_assign rfl (E.get 0 rfl)) fun a E => ?_
  refine wpList_nil ?_
  refine then_n ?_
  refine wp_seq ?_
  refine wp_seq ?_
  refine wp_region_lit ?_
  refine ep (v := .int .i64 0) E (run_assign rfl rfl) fun a E => ?_
  refine wpList_nil ?_
  refine then_n ?_
  refine wp_block ?_
  refine wp_loop (fun a w2 => ∃ (n : Nat) (tx : Nat → Bool), Env 26 [(4, .int .i64 (n : Int)), (3, .pointer (some ⟨bw17, 0, none⟩))] a ∧ n ≤ 10080 ∧ wkB w2 bw17 tx ∧ (∀ k : Nat, k < n → tx k = (!mnB l k)) ∧ (∀ k : Nat, n ≤ k → tx k = mnB l k) ∧ Fr (fun _ => False) w w2) (fun a _ => 10080 - (intOf (a.eval (.tmp 4))).toNat) ?_ ?_
  ·exact ⟨0, _, E.of ⟨E.get 0 rfl, E.get 1 rfl, trivial⟩, Nat.zero_le _, hw17, fun k h => by omega, fun k h => rfl, hf⟩
  clear E
  rintro a w2 ⟨n, tx, E, hn, hX, hT1, hT2, hf⟩
  have hmu : 10080 - (intOf (a.eval (.tmp 4))).toNat = 10080 - n := by rw [E.get 0 rfl]; first | rfl | (simp [intOf]; done) | (simp only [intOf]; omega)
  rw [hmu]
  clear hmu
  refine wp_seq ?_
  refine wp_seq ?_
  refine wp_region_lit ?_
  refine ep (v := .int .i64 (n : Int)) E (run_move rfl (E.get 0 rfl)) fun a E => ?_
  refine ep (v := .bool (decide ((n : Int) < 10080))) E (run_ilss (E.get 0 rfl) rfl Tryz.underlying3 rfl) fun a E => ?_
  refine wpList_nil ?_
  refine then_n ?_
  cases hq19 : (decide ((n : Int) < 10080)) with
  | false =>
   rw [hq19] at E
   have hie : n = 10080 := by have := of_decide_eq_false hq19; omega
   obtain ⟨tt, htt⟩ : ∃ t, t = tx := ⟨_, rfl⟩
   rw [← htt] at hX
   refine wp_cond_false (E.get 0 rfl) ?_
   refine wp_exit ?_
   refine then_e ?_
   refine then_e ?_
   refine blk_e ?_
   refine then_n ?_
   refine wp_seq ?_
   refine wp_region_lit ?_
   refine ep (v := .pointer (some ⟨bw17, 0, none⟩)) E (run_move rfl (E.get 3 rfl)) fun a E => ?_
   refine env_callv (d := 25) (R := fun u w8 => SpV w8 u (runs tt 10080) ∧ Fr (fun _ => False) w2 w8) E rfl (by decide) rfl (wanted_none rfl _) (run_call1 (enters_of Tryz.func40 (by kernel_rfl) rfl) rfl rfl (E.get 0 rfl)) ((spans_calls hX).mono fun e w8 h => by obtain ⟨v, rfl, h⟩ := h; exact ⟨_, rfl, h⟩) fun a w1 rv ⟨hrv, f1⟩ E => ?_
   have hX := wkB.fr hX f1 id
   have hf := hf.trans f1
   clear f1
   refine ep (v := rv) E (run_assign rfl (E.get 0 rfl)) fun a E => ?_
   refine wpList_nil ?_
   refine then_n ?_
   refine wp_ret ?_
   refine ret_tmp (t := 2) rfl E (E.get 0 rfl) ⟨_, rfl, ?_, hf⟩
   have hN := notL_un hvl
   have e : runs tt 10080 = notQ l := by
    unfold notQ; rw [if_pos hvl]
    refine runs_uniq hN.1 fun m hm => ?_
    rw [htt, hT1 m (by omega), hN.2, ← mnB_iff]
    cases mnB l m <;> simp
    omega
   rw [← e]; exact hrv
  | true =>
   rw [hq19] at E
   have hlt : n < 10080 := by have := of_decide_eq_true hq19; omega
   refine wp_cond_true (E.get 0 rfl) ?_
   refine wp_skip ?_
   refine then_n ?_
   refine wp_seq ?_
   refine wp_block ?_
   refine wp_region_invx (G := Unit) () (n := 26) (base := [(11, .bool true), (10, .int .i64 (n : Int)), (4, .int .i64 (n : Int)), (3, .pointer (some ⟨bw17, 0, none⟩))]) (U := []) (T := fun γ => [some (14, .pointer (some ⟨bw17, 0, none⟩)), some (15, .int .i64 (n : Int)), some (16, .pointer (some ⟨bw17, 0, none⟩)), some (17, .int .i64 (n : Int)), some (18, .pointer (some ⟨bw17, 0, none⟩)), some (19, .pointer (some ⟨bw17, (0 + n), none⟩)), some (20, .bool (tx n)), some (21, .bool (!(tx n))), some (22, .pointer (some ⟨bw17, 0, none⟩)), some (23, .pointer (some ⟨bw17, (0 + n), none⟩)), none]) (M := fun γ ls9 wm => (ls9 10 = false → Fr (fun _ => False) w2 wm) ∧ (ls9 10 = true → wkB wm bw17 (fun i => if i = n then (!(tx n)) else tx i) ∧ Fr (fun r => r = bw17) w2 wm)) (by kernel_rfl) (by kernel_rfl) (fun _ => by kernel_rfl) (E.of ⟨E.get 0 rfl, E.get 1 rfl, E.get 2 rfl, E.get 3 rfl, trivial⟩) (fun x hx => by cases hx) ⟨fun _ => (Fr.refl _ _).drew, fun h => absurd h Bool.false_ne_true⟩ ?_ ?_
   ·intro j9 o9 γ ls9 a w5 ho hl E D DL DL2 hB hM
    match j9, ho, hl, D, DL, hB with
    | 0, ho, hl, D, DL, hB =>
     obtain rfl := Option.some.inj ho
     clear ho
     have h7 : ls9 10 = false := by
      cases h9 : ls9 10 with
      | false => rfl
      | true => exact absurd (hl.symm.trans (DL2 8 0 rfl (DL2 9 8 rfl (DL2 10 9 rfl h9)))) (by decide)
     have hM1 := hM.1 h7
     have hX := wkB.fr hX hM1 id
     exact ⟨fun _ => valx rfl (run_move rfl (E.get 3 rfl)) rfl ⟨fun _ => hM1, fun h => absurd (h7.symm.trans h) (by decide)⟩, fun h => by rw [wanted_none rfl] at h; cases h⟩
    | 1, ho, hl, D, DL, hB =>
     obtain rfl := Option.some.inj ho
     clear ho
     have h7 : ls9 10 = false := by
      cases h9 : ls9 10 with
      | false => rfl
      | true => exact absurd (hl.symm.trans (DL2 9 1 rfl (DL2 10 9 rfl h9))) (by decide)
     have hM1 := hM.1 h7
     have hX := wkB.fr hX hM1 id
     exact ⟨fun _ => valx rfl (run_move rfl (E.get 2 rfl)) rfl ⟨fun _ => hM1, fun h => absurd (h7.symm.trans h) (by decide)⟩, fun h => by rw [wanted_none rfl] at h; cases h⟩
    | 2, ho, hl, D, DL, hB =>
     obtain rfl := Option.some.inj ho
     clear ho
     have h7 : ls9 10 = false := by
      cases h9 : ls9 10 with
      | false => rfl
      | true => exact absurd (hl.symm.trans (DL2 4 2 rfl (DL2 5 4 rfl (DL2 6 5 rfl (DL2 7 6 rfl (DL2 10 7 rfl h9)))))) (by decide)
     have hM1 := hM.1 h7
     have hX := wkB.fr hX hM1 id
     exact ⟨fun _ => valx rfl (run_move rfl (E.get 3 rfl)) rfl ⟨fun _ => hM1, fun h => absurd (h7.symm.trans h) (by decide)⟩, fun h => by rw [wanted_none rfl] at h; cases h⟩
    | 3, ho, hl, D, DL, hB =>
     obtain rfl := Option.some.inj ho
     clear ho
     have h7 : ls9 10 = false := by
      cases h9 : ls9 10 with
      | false => rfl
      | true => exact absurd (hl.symm.trans (DL2 5 3 rfl (DL2 6 5 rfl (DL2 7 6 rfl (DL2 10 7 rfl h9))))) (by decide)
     have hM1 := hM.1 h7
     have hX := wkB.fr hX hM1 id
     exact ⟨fun _ => valx rfl (run_move rfl (E.get 2 rfl)) rfl ⟨fun _ => hM1, fun h => absurd (h7.symm.trans h) (by decide)⟩, fun h => by rw [wanted_none rfl] at h; cases h⟩
    | 4, ho, hl, D, DL, hB =>
     obtain rfl := Option.some.inj ho
     clear ho
     have h7 : ls9 10 = false := by
      cases h9 : ls9 10 with
      | false => rfl
      | true => exact absurd (hl.symm.trans (DL2 5 4 rfl (DL2 6 5 rfl (DL2 7 6 rfl (DL2 10 7 rfl h9))))) (by decide)
     have hM1 := hM.1 h7
     have hX := wkB.fr hX hM1 id
     exact ⟨fun _ => valx rfl (run_nilchk rfl (D 2 _ rfl rfl)) rfl ⟨fun _ => hM1, fun h => absurd (h7.symm.trans h) (by decide)⟩, fun h => by rw [wanted_none rfl] at h; cases h⟩
    | 5, ho, hl, D, DL, hB =>
     obtain rfl := Option.some.inj ho
     clear ho
     have h7 : ls9 10 = false := by
      cases h9 : ls9 10 with
      | false => rfl
      | true => exact absurd (hl.symm.trans (DL2 6 5 rfl (DL2 7 6 rfl (DL2 10 7 rfl h9)))) (by decide)
     have hM1 := hM.1 h7
     have hX := wkB.fr hX hM1 id
     exact ⟨fun _ => valx rfl (run_index65 (i := n) rfl (D 4 _ rfl rfl) (D 3 _ rfl rfl) hlt) rfl ⟨fun _ => hM1, fun h => absurd (h7.symm.trans h) (by decide)⟩, fun h => by rw [wanted_none rfl] at h; cases h⟩
    | 6, ho, hl, D, DL, hB =>
     obtain rfl := Option.some.inj ho
     clear ho
     have h7 : ls9 10 = false := by
      cases h9 : ls9 10 with
      | false => rfl
      | true => exact absurd (hl.symm.trans (DL2 7 6 rfl (DL2 10 7 rfl h9))) (by decide)
     have hM1 := hM.1 h7
     have hX := wkB.fr hX hM1 id
     exact ⟨fun _ => valx rfl (run_ldb rfl (D 5 _ rfl rfl) (hX.at hlt)) rfl ⟨fun _ => hM1, fun h => absurd (h7.symm.trans h) (by decide)⟩, fun h => by rw [wanted_none rfl] at h; cases h⟩
    | 7, ho, hl, D, DL, hB =>
     obtain rfl := Option.some.inj ho
     clear ho
     have h7 : ls9 10 = false := by
      cases h9 : ls9 10 with
      | false => rfl
      | true => exact absurd (hl.symm.trans (DL2 10 7 rfl h9)) (by decide)
     have hM1 := hM.1 h7
     have hX := wkB.fr hX hM1 id
     exact ⟨fun _ => valx rfl (run_not rfl (D 6 _ rfl rfl)) rfl ⟨fun _ => hM1, fun h => absurd (h7.symm.trans h) (by decide)⟩, fun h => by rw [wanted_none rfl] at h; cases h⟩
    | 8, ho, hl, D, DL, hB =>
     obtain rfl := Option.some.inj ho
     clear ho
     have h7 : ls9 10 = false := by
      cases h9 : ls9 10 with
      | false => rfl
      | true => exact absurd (hl.symm.trans (DL2 9 8 rfl (DL2 10 9 rfl h9))) (by decide)
     have hM1 := hM.1 h7
     have hX := wkB.fr hX hM1 id
     exact ⟨fun _ => valx rfl (run_nilchk rfl (D 0 _ rfl rfl)) rfl ⟨fun _ => hM1, fun h => absurd (h7.symm.trans h) (by decide)⟩, fun h => by rw [wanted_none rfl] at h; cases h⟩
    | 9, ho, hl, D, DL, hB =>
     obtain rfl := Option.some.inj ho
     clear ho
     have h7 : ls9 10 = false := by
      cases h9 : ls9 10 with
      | false => rfl
      | true => exact absurd (hl.symm.trans (DL2 10 9 rfl h9)) (by decide)
     have hM1 := hM.1 h7
     have hX := wkB.fr hX hM1 id
     exact ⟨fun _ => valx rfl (run_index65 (i := n) rfl (D 8 _ rfl rfl) (D 1 _ rfl rfl) hlt) rfl ⟨fun _ => hM1, fun h => absurd (h7.symm.trans h) (by decide)⟩, fun h => by rw [wanted_none rfl] at h; cases h⟩
    | 10, ho, hl, D, DL, hB =>
     obtain rfl := Option.some.inj ho
     clear ho
     have hM1 := hM.1 hl
     have hX := wkB.fr hX hM1 id
     obtain ⟨⟨d1, d2⟩, d3, d4⟩ := hX.set hlt (!(tx n))
     exact ⟨fun _ => storex rfl (run_st4 rfl (D 9 _ rfl rfl) (D 7 _ rfl rfl) d1 d2) rfl ⟨fun h => by simp at h, fun _ => ⟨d3, ((hM1.mono (G := fun r => r = bw17) (fun _ _ h => h.elim)).trans d4 : Fr (fun r => r = bw17) _ _)⟩⟩, fun h => by rw [wanted_none rfl] at h; cases h⟩
    | j9 + 11, ho, hl, D, DL, hB => exact absurd ho (by simp)
   ·rintro _ a w5 E V hM
    clear V
    have hM := hM.2 rfl
    obtain ⟨hX2, f1⟩ := hM
    clear hM
    have hf := hf.trans' f1 (fun r hr => (fun e => by (try simp only at e); omega))
    clear f1
    replace hX := hX2
    have htn : tx n = mnB l n := hT2 n (Nat.le_refl _)
    have hT1n : ∀ k : Nat, k < n + 1 → (if k = n then (!(tx n)) else tx k) = (!mnB l k) := by
     intro k hk
     by_cases e : k = n
     ·subst e; rw [if_pos rfl, htn]
     ·rw [if_neg e]; exact hT1 k (by omega)
    have hT2n : ∀ k : Nat, n + 1 ≤ k → (if k = n then (!(tx n)) else tx k) = mnB l k := by
     intro k hk
     rw [if_neg (by omega)]; exact hT2 k (by omega)
    refine blk_n ?_
    refine then_n ?_
    refine wp_region_lit ?_
    refine ep (v := .int .i64 (n : Int)) E (run_move rfl (E.get 2 rfl)) fun a E => ?_
    refine ep (v := .int .i64 ((n : Int) + 1)) E (run_iadd Tryz.underlying3 (E.get 0 rfl) rfl (by omega) (by omega) rfl) fun a E => ?_
    refine env_set (d := 4) (v := .int .i64 ((n : Int) + 1)) E rfl (by decide) (wanted_none rfl _) (run_assign rfl (E.get 0 rfl)) fun a E => ?_
    refine wpList_nil ?_
    refine then_n ?_
    refine ⟨⟨n + 1, _, E.of ⟨E.get 0 rfl, E.get 5 rfl, trivial⟩, by omega, hX, hT1n, hT2n, hf⟩, ?_⟩
    ·rw [E.get 0 rfl]; simp only [intOf]; omega
set_option maxRecDepth 100000 in
set_option maxHeartbeats 4000000 in
theorem rboth_calls {w : World} {v u : Value} {la lb : List Sp} (hla : SpV w v la) (hlb : SpV w u lb) : Calls Tryz.prog 30 #[v, u] w fun e w' => ∃ u, e = .returned u ∧ SpV w' u (bothQ la lb) ∧ Fr (fun _ => False) w w' := by
 obtain ⟨p0, cp0, hvp0, hlep0, hcapp0, hsp0, hzp0⟩ := hla
 subst hvp0
 obtain ⟨p1, cp1, hvp1, hlep1, hcapp1, hsp1, hzp1⟩ := hlb
 subst hvp1
 refine wp_start2 Tryz.func30 rfl rfl (n := 42) (by decide) fun a E => ?_
 have hf : Fr (fun _ => False) w w := Fr.refl _ _
 refine wp_seq ?_
 refine wp_region_lit ?_
 refine ep (v := .slice none 0 0) E (run_assign rfl rfl) fun a E => ?_
 refine wpList_nil ?_
 refine then_n ?_
 refine wp_seq ?_
 refine wp_seq ?_
 refine wp_region_lit ?_
 refine ep (v := .slice (p0) la.length cp0) E (run_move rfl (E.get 1 rfl)) fun a E => ?_
 refine env_call (d := 9) (v := .bool (vl (-1) la)) E rfl (by decide) rfl (wanted_none rfl _) (run_call1 (enters_of Tryz.func19 (by kernel_rfl) rfl) rfl rfl (E.get 0 rfl)) (rvalid_calls ⟨_, _, rfl, hlep0, hcapp0, hsp0.mono (by first | exact hf.size | omega), hzp0⟩) fun a w1 f1 E => ?_
 have hsp0 := srcAt.fr hsp0 f1 (fun r hr => id)
 have hsp1 := srcAt.fr hsp1 f1 (fun r hr => id)
 have hf := hf.trans f1
 clear f1
 refine ep (v := .bool (!(vl (-1) la))) E (run_not rfl (E.get 0 rfl)) fun a E => ?_
 refine ep (v := .bool (!(vl (-1) la))) E (run_move rfl (E.get 0 rfl)) fun a E => ?_
 cases hq20 : (vl (-1) la) with
 | false =>
  rw [hq20] at E
  refine ek E rfl (E.get 0 rfl) fun a E => ?_
  refine ek E rfl (E.get 1 rfl) fun a E => ?_
  refine ek E rfl (E.get 2 rfl) fun a E => ?_
  refine ep (v := .bool true) E (run_pick_t rfl (E.get 3 rfl) rfl) fun a E => ?_
  refine wpList_nil ?_
  refine then_n ?_
  refine wp_cond_true (E.get 0 rfl) ?_
  refine wp_seq ?_
  refine wp_region_lit ?_
  refine env_set (d := 4) (v := .slice none 0 0) E rfl (by decide) (wanted_none rfl _) (run_assign rfl rfl) fun a E => ?_
  refine wpList_nil ?_
  refine then_n ?_
  refine wp_ret ?_
  refine then_r ?_
  refine ret_tmp (t := 4) rfl E (E.get 0 rfl) ⟨_, rfl, ?_, hf⟩
  unfold bothQ
  rw [hq20]
  exact Src.nil _
 | true =>
  rw [hq20] at E
  have hvla := hq20
  refine eg (v := .slice (p1) lb.length cp1) E (w_yes (g := 3) (s := 11) E rfl rfl (by decide) (E.get 0 rfl)) (run_move rfl (E.get 6 rfl)) fun a E => ?_
  refine env_call (d := 13) (v := .bool (vl (-1) lb)) E rfl (by decide) rfl (w_yes (g := 3) (s := 11) E rfl rfl (by decide) (E.get 1 rfl)) (run_call1 (enters_of Tryz.func19 (by kernel_rfl) rfl) rfl rfl (E.get 0 rfl)) (rvalid_calls ⟨_, _, rfl, hlep1, hcapp1, hsp1.mono (by first | exact hf.size | omega), hzp1⟩) fun a w1 f1 E => ?_
  have hsp0 := srcAt.fr hsp0 f1 (fun r hr => id)
  have hsp1 := srcAt.fr hsp1 f1 (fun r hr => id)
  have hf := hf.trans f1
  clear f1
  refine eg (v := .bool (!(vl (-1) lb))) E (w_yes (g := 3) (s := 11) E rfl rfl (by decide) (E.get 2 rfl)) (run_not rfl (E.get 0 rfl)) fun a E => ?_
  refine ep (v := .bool (!(vl (-1) lb))) E (run_pick_f rfl (E.get 3 rfl) (E.get 0 rfl)) fun a E => ?_
  refine wpList_nil ?_
  refine then_n ?_
  cases hq21 : (vl (-1) lb) with
  | false =>
   rw [hq21] at E
   refine wp_cond_true (E.get 0 rfl) ?_
   refine wp_seq ?_
   refine wp_region_lit ?_
   refine env_set (d := 4) (v := .slice none 0 0) E rfl (by decide) (wanted_none rfl _) (run_assign rfl rfl) fun a E => ?_
   refine wpList_nil ?_
   refine then_n ?_
   refine wp_ret ?_
   refine then_r ?_
   refine ret_tmp (t := 4) rfl E (E.get 0 rfl) ⟨_, rfl, ?_, hf⟩
   unfold bothQ
   rw [hq20, hq21]
   exact Src.nil _
  | true =>
   rw [hq21] at E
   have hvlb := hq21
   refine wp_cond_false (E.get 0 rfl) ?_
   refine wp_skip ?_
   refine then_n ?_
   refine wp_seq ?_
   refine wp_region_lit ?_
   refine ep (v := .slice (p0) la.length cp0) E (run_move rfl (E.get 9 rfl)) fun a E => ?_
   refine env_callv (d := 17) (R := fun u w8 => ∃ b, u = .pointer (some ⟨b, 0, none⟩) ∧ wkB w8 b (fun k => mnB la k) ∧ w1.heap.size ≤ b ∧ Fr (fun _ => False) w1 w8) E rfl (by decide) rfl (wanted_none rfl _) (run_call1 (enters_of Tryz.func37 (by kernel_rfl) rfl) rfl rfl (E.get 0 rfl)) ((rset_calls ⟨_, _, rfl, hlep0, hcapp0, hsp0.mono (by first | exact hf.size | omega), hzp0⟩ (vl_wk (Int.le_refl _) hvla)).mono fun e w8 h => by obtain ⟨b, rfl, h⟩ := h; exact ⟨_, rfl, b, rfl, h⟩) fun a w1 u ⟨bw22, hu, hw22, hb9, f1⟩ E => ?_
   subst hu
   have hnbw22 : w.heap.size ≤ bw22 := by have := hf.size; omega
   clear hb9
   have hsp0 := srcAt.fr hsp0 f1 (fun r hr => id)
   have hsp1 := srcAt.fr hsp1 f1 (fun r hr => id)
   have hf := hf.trans f1
   clear f1
   refine ep (v := .pointer (some ⟨bw22, 0, none⟩)) E (run_assign rfl (E.get 0 rfl)) fun a E => ?_
   refine wpList_nil ?_
   refine then_n ?_
   refine wp_seq ?_
   refine wp_region_lit ?_
   refine ep (v := .slice (p1) lb.length cp1) E (run_move rfl (E.get 13 rfl)) fun a E => ?_
   refine env_callv (d := 19) (R := fun u w8 => ∃ b, u = .pointer (some ⟨b, 0, none⟩) ∧ wkB w8 b (fun k => mnB lb k) ∧ w1.heap.size ≤ b ∧ Fr (fun _ => False) w1 w8) E rfl (by decide) rfl (wanted_none rfl _) (run_call1 (enters_of Tryz.func37 (by kernel_rfl) rfl) rfl rfl (E.get 0 rfl)) ((rset_calls ⟨_, _, rfl, hlep1, hcapp1, hsp1.mono (by first | exact hf.size | omega), hzp1⟩ (vl_wk (Int.le_refl _) hvlb)).mono fun e w8 h => by obtain ⟨b, rfl, h⟩ := h; exact ⟨_, rfl, b, rfl, h⟩) fun a w1 u ⟨bw23, hu, hw23, hb9, f1⟩ E => ?_
   subst hu
   have hnbw23 : w.heap.size ≤ bw23 := by have := hf.size; omega
   have hlbw22bw23 : bw22 < bw23 := by have := hw22.lt; omega
   clear hb9
   have hsp0 := srcAt.fr hsp0 f1 (fun r hr => id)
   have hsp1 := srcAt.fr hsp1 f1 (fun r hr => id)
   have hw22 := wkB.fr hw22 f1 id
   have hf := hf.trans f1
   clear f1
   refine ep (v := .pointer (some ⟨bw23, 0, none⟩)) E (run_assign rfl (E.get 0 rfl)) fun a E => ?_
   refine wpList_nil ?_
   refine then_n ?_
   refine wp_seq ?_
   refine wp_seq ?_
   refine wp_region_lit ?_
   refine ep (v := .int .i64 0) E (run_assign rfl rfl) fun a E => ?_
   refine wpList_nil ?_
   refine then_n ?_
   refine wp_block ?_
   refine wp_loop (fun a w2 => ∃ (n : Nat) (tx : Nat → Bool), Env 42 [(7, .int .i64 (n : Int)), (5, .pointer (some ⟨bw22, 0, none⟩)), (6, .pointer (some ⟨bw23, 0, none⟩))] a ∧ n ≤ 10080 ∧ wkB w2 bw22 tx ∧ (∀ k : Nat, k < n → tx k = (mnB la k && mnB lb k)) ∧ (∀ k : Nat, n ≤ k → tx k = mnB la k) ∧ wkB w2 bw23 (fun k => mnB lb k) ∧ Fr (fun _ => False) w w2) (fun a _ => 10080 - (intOf (a.eval (.tmp 7))).toNat) ?_ ?_
   ·exact ⟨0, _, E.of ⟨E.get 0 rfl, E.get 4 rfl, E.get 1 rfl, trivial⟩, Nat.zero_le _, hw22, fun k h => by omega, fun k h => rfl, hw23, hf⟩
   clear E
   rintro a w2 ⟨n, tx, E, hn, hX, hT1, hT2, hw23, hf⟩
   have hmu : 10080 - (intOf (a.eval (.tmp 7))).toNat = 10080 - n := by rw [E.get 0 rfl]; first | rfl | (simp [intOf]; done) | (simp only [intOf]; omega)
   rw [hmu]
   clear hmu
   refine wp_seq ?_
   refine wp_seq ?_
   refine wp_region_lit ?_
   refine ep (v := .int .i64 (n : Int)) E (run_move rfl (E.get 0 rfl)) fun a E => ?_
   refine ep (v := .bool (decide ((n : Int) < 10080))) E (run_ilss (E.get 0 rfl) rfl Tryz.underlying3 rfl) fun a E => ?_
   refine wpList_nil ?_
   refine then_n ?_
   cases hq25 : (decide ((n : Int) < 10080)) with
   | false =>
    rw [hq25] at E
    have hie : n = 10080 := by have := of_decide_eq_false hq25; omega
    obtain ⟨tt, htt⟩ : ∃ t, t = tx := ⟨_, rfl⟩
    rw [← htt] at hX
    refine wp_cond_false (E.get 0 rfl) ?_
    refine wp_exit ?_
    refine then_e ?_
    refine then_e ?_
    refine blk_e ?_
    refine then_n ?_
    refine wp_seq ?_
    refine wp_region_lit ?_
    refine ep (v := .pointer (some ⟨bw22, 0, none⟩)) E (run_move rfl (E.get 3 rfl)) fun a E => ?_
    refine env_callv (d := 41) (R := fun u w8 => SpV w8 u (runs tt 10080) ∧ Fr (fun _ => False) w2 w8) E rfl (by decide) rfl (wanted_none rfl _) (run_call1 (enters_of Tryz.func40 (by kernel_rfl) rfl) rfl rfl (E.get 0 rfl)) ((spans_calls hX).mono fun e w8 h => by obtain ⟨v, rfl, h⟩ := h; exact ⟨_, rfl, h⟩) fun a w1 rv ⟨hrv, f1⟩ E => ?_
    have hX := wkB.fr hX f1 id
    have hw23 := wkB.fr hw23 f1 id
    have hf := hf.trans f1
    clear f1
    refine ep (v := rv) E (run_assign rfl (E.get 0 rfl)) fun a E => ?_
    refine wpList_nil ?_
    refine then_n ?_
    refine wp_ret ?_
    refine ret_tmp (t := 4) rfl E (E.get 0 rfl) ⟨_, rfl, ?_, hf⟩
    have hN := bothL_un hvla hvlb
    have e : runs tt 10080 = bothQ la lb := by
     unfold bothQ; rw [if_pos (by rw [hvla, hvlb]; rfl)]
     refine runs_uniq hN.1 fun m hm => ?_
     rw [htt, hT1 m (by omega), hN.2, ← mnB_iff, ← mnB_iff]
     cases mnB la m <;> cases mnB lb m <;> simp
    rw [← e]; exact hrv
   | true =>
    rw [hq25] at E
    have hlt : n < 10080 := by have := of_decide_eq_true hq25; omega
    refine wp_cond_true (E.get 0 rfl) ?_
    refine wp_skip ?_
    refine then_n ?_
    refine wp_seq ?_
    refine wp_block ?_
    cases hq26 : (tx n) with
    | false =>
     refine wp_region_invx (G := Unit) () (n := 42) (base := [(21, .bool true), (20, .int .i64 (n : Int)), (7, .int .i64 (n : Int)), (5, .pointer (some ⟨bw22, 0, none⟩)), (6, .pointer (some ⟨bw23, 0, none⟩))]) (U := []) (T := fun γ => [some (24, .pointer (some ⟨bw22, 0, none⟩)), some (25, .int .i64 (n : Int)), some (26, .pointer (some ⟨bw22, 0, none⟩)), some (27, .int .i64 (n : Int)), some (28, .pointer (some ⟨bw22, 0, none⟩)), some (29, .pointer (some ⟨bw22, (0 + n), none⟩)), some (30, .bool false), some (31, .bool false), some (32, undef), some (33, undef), some (34, undef), some (35, undef), some (36, undef), some (37, .bool false), some (38, .pointer (some ⟨bw22, 0, none⟩)), some (39, .pointer (some ⟨bw22, (0 + n), none⟩)), none]) (M := fun γ ls9 wm => (ls9 16 = false → Fr (fun _ => False) w2 wm) ∧ (ls9 16 = true → wkB wm bw22 (fun i => if i = n then false else tx i) ∧ Fr (fun r => r = bw22) w2 wm)) (by kernel_rfl) (by kernel_rfl) (fun _ => by kernel_rfl) (E.of ⟨E.get 0 rfl, E.get 1 rfl, E.get 2 rfl, E.get 3 rfl, E.get 4 rfl, trivial⟩) (fun x hx => by cases hx) ⟨fun _ => (Fr.refl _ _).drew, fun h => absurd h Bool.false_ne_true⟩ ?_ ?_
     ·intro j9 o9 γ ls9 a w5 ho hl E D DL DL2 hB hM
      match j9, ho, hl, D, DL, hB with
      | 0, ho, hl, D, DL, hB =>
       obtain rfl := Option.some.inj ho
       clear ho
       have h7 : ls9 16 = false := by
        cases h9 : ls9 16 with
        | false => rfl
        | true => exact absurd (hl.symm.trans (DL2 14 0 rfl (DL2 15 14 rfl (DL2 16 15 rfl h9)))) (by decide)
       have hM1 := hM.1 h7
       have hX := wkB.fr hX hM1 id
       have hw23 := wkB.fr hw23 hM1 id
       exact ⟨fun _ => valx rfl (run_move rfl (E.get 3 rfl)) rfl ⟨fun _ => hM1, fun h => absurd (h7.symm.trans h) (by decide)⟩, fun h => by rw [wanted_none rfl] at h; cases h⟩
      | 1, ho, hl, D, DL, hB =>
       obtain rfl := Option.some.inj ho
       clear ho
       have h7 : ls9 16 = false := by
        cases h9 : ls9 16 with
        | false => rfl
        | true => exact absurd (hl.symm.trans (DL2 15 1 rfl (DL2 16 15 rfl h9))) (by decide)
       have hM1 := hM.1 h7
       have hX := wkB.fr hX hM1 id
       have hw23 := wkB.fr hw23 hM1 id
       exact ⟨fun _ => valx rfl (run_move rfl (E.get 2 rfl)) rfl ⟨fun _ => hM1, fun h => absurd (h7.symm.trans h) (by decide)⟩, fun h => by rw [wanted_none rfl] at h; cases h⟩
      | 2, ho, hl, D, DL, hB =>
       obtain rfl := Option.some.inj ho
       clear ho
       have h7 : ls9 16 = false := by
        cases h9 : ls9 16 with
        | false => rfl
        | true => exact absurd (hl.symm.trans (DL2 4 2 rfl (DL2 5 4 rfl (DL2 6 5 rfl (DL2 7 6 rfl (DL2 13 7 rfl (DL2 16 13 rfl h9))))))) (by decide)
       have hM1 := hM.1 h7
       have hX := wkB.fr hX hM1 id
       have hw23 := wkB.fr hw23 hM1 id
       exact ⟨fun _ => valx rfl (run_move rfl (E.get 3 rfl)) rfl ⟨fun _ => hM1, fun h => absurd (h7.symm.trans h) (by decide)⟩, fun h => by rw [wanted_none rfl] at h; cases h⟩
      | 3, ho, hl, D, DL, hB =>
       obtain rfl := Option.some.inj ho
       clear ho
       have h7 : ls9 16 = false := by
        cases h9 : ls9 16 with
        | false => rfl
        | true => exact absurd (hl.symm.trans (DL2 5 3 rfl (DL2 6 5 rfl (DL2 7 6 rfl (DL2 13 7 rfl (DL2 16 13 rfl h9)))))) (by decide)
       have hM1 := hM.1 h7
       have hX := wkB.fr hX hM1 id
       have hw23 := wkB.fr hw23 hM1 id
       exact ⟨fun _ => valx rfl (run_move rfl (E.get 2 rfl)) rfl ⟨fun _ => hM1, fun h => absurd (h7.symm.trans h) (by decide)⟩, fun h => by rw [wanted_none rfl] at h; cases h⟩
      | 4, ho, hl, D, DL, hB =>
       obtain rfl := Option.some.inj ho
       clear ho
       have h7 : ls9 16 = false := by
        cases h9 : ls9 16 with
        | false => rfl
        | true => exact absurd (hl.symm.trans (DL2 5 4 rfl (DL2 6 5 rfl (DL2 7 6 rfl (DL2 13 7 rfl (DL2 16 13 rfl h9)))))) (by decide)
       have hM1 := hM.1 h7
       have hX := wkB.fr hX hM1 id
       have hw23 := wkB.fr hw23 hM1 id
       exact ⟨fun _ => valx rfl (run_nilchk rfl (D 2 _ rfl rfl)) rfl ⟨fun _ => hM1, fun h => absurd (h7.symm.trans h) (by decide)⟩, fun h => by rw [wanted_none rfl] at h; cases h⟩
      | 5, ho, hl, D, DL, hB =>
       obtain rfl := Option.some.inj ho
       clear ho
       have h7 : ls9 16 = false := by
        cases h9 : ls9 16 with
        | false => rfl
        | true => exact absurd (hl.symm.trans (DL2 6 5 rfl (DL2 7 6 rfl (DL2 13 7 rfl (DL2 16 13 rfl h9))))) (by decide)
       have hM1 := hM.1 h7
       have hX := wkB.fr hX hM1 id
       have hw23 := wkB.fr hw23 hM1 id
       exact ⟨fun _ => valx rfl (run_index65 (i := n) rfl (D 4 _ rfl rfl) (D 3 _ rfl rfl) hlt) rfl ⟨fun _ => hM1, fun h => absurd (h7.symm.trans h) (by decide)⟩, fun h => by rw [wanted_none rfl] at h; cases h⟩
      | 6, ho, hl, D, DL, hB =>
       obtain rfl := Option.some.inj ho
       clear ho
       have h7 : ls9 16 = false := by
        cases h9 : ls9 16 with
        | false => rfl
        | true => exact absurd (hl.symm.trans (DL2 7 6 rfl (DL2 13 7 rfl (DL2 16 13 rfl h9)))) (by decide)
       have hM1 := hM.1 h7
       have hX := wkB.fr hX hM1 id
       have hw23 := wkB.fr hw23 hM1 id
       exact ⟨fun _ => valx rfl ((run_ldb rfl (D 5 _ rfl rfl) (hX.at hlt)).trans (by rw [hq26] <;> rfl)) rfl ⟨fun _ => hM1, fun h => absurd (h7.symm.trans h) (by decide)⟩, fun h => by rw [wanted_none rfl] at h; cases h⟩
      | 7, ho, hl, D, DL, hB =>
       obtain rfl := Option.some.inj ho
       clear ho
       have h7 : ls9 16 = false := by
        cases h9 : ls9 16 with
        | false => rfl
        | true => exact absurd (hl.symm.trans (DL2 13 7 rfl (DL2 16 13 rfl h9))) (by decide)
       have hM1 := hM.1 h7
       have hX := wkB.fr hX hM1 id
       have hw23 := wkB.fr hw23 hM1 id
       exact ⟨fun _ => valx rfl (run_move rfl (D 6 _ rfl rfl)) rfl ⟨fun _ => hM1, fun h => absurd (h7.symm.trans h) (by decide)⟩, fun h => by rw [wanted_none rfl] at h; cases h⟩
      | 8, ho, hl, D, DL, hB =>
       obtain rfl := Option.some.inj ho
       clear ho
       have h7 : ls9 16 = false := by
        cases h9 : ls9 16 with
        | false => rfl
        | true => exact absurd (hl.symm.trans (DL2 10 8 rfl (DL2 11 10 rfl (DL2 12 11 rfl (DL2 13 12 rfl (DL2 16 13 rfl h9)))))) (by decide)
       have hM1 := hM.1 h7
       have hX := wkB.fr hX hM1 id
       have hw23 := wkB.fr hw23 hM1 id
       exact ⟨fun h => (by rw [w_no (g := 7) (s := 31) (b := true) E rfl rfl (by decide) (D 7 _ rfl rfl)] at h; cases h), fun _ => ⟨fun x hx => by cases hx; rfl, ⟨fun _ => hM1, fun h => absurd (h7.symm.trans h) (by decide)⟩⟩⟩
      | 9, ho, hl, D, DL, hB =>
       obtain rfl := Option.some.inj ho
       clear ho
       have h7 : ls9 16 = false := by
        cases h9 : ls9 16 with
        | false => rfl
        | true => exact absurd (hl.symm.trans (DL2 11 9 rfl (DL2 12 11 rfl (DL2 13 12 rfl (DL2 16 13 rfl h9))))) (by decide)
       have hM1 := hM.1 h7
       have hX := wkB.fr hX hM1 id
       have hw23 := wkB.fr hw23 hM1 id
       exact ⟨fun h => (by rw [w_no (g := 7) (s := 31) (b := true) E rfl rfl (by decide) (D 7 _ rfl rfl)] at h; cases h), fun _ => ⟨fun x hx => by cases hx; rfl, ⟨fun _ => hM1, fun h => absurd (h7.symm.trans h) (by decide)⟩⟩⟩
      | 10, ho, hl, D, DL, hB =>
       obtain rfl := Option.some.inj ho
       clear ho
       have h7 : ls9 16 = false := by
        cases h9 : ls9 16 with
        | false => rfl
        | true => exact absurd (hl.symm.trans (DL2 11 10 rfl (DL2 12 11 rfl (DL2 13 12 rfl (DL2 16 13 rfl h9))))) (by decide)
       have hM1 := hM.1 h7
       have hX := wkB.fr hX hM1 id
       have hw23 := wkB.fr hw23 hM1 id
       exact ⟨fun h => (by rw [w_no (g := 7) (s := 31) (b := true) E rfl rfl (by decide) (D 7 _ rfl rfl)] at h; cases h), fun _ => ⟨fun x hx => by cases hx; rfl, ⟨fun _ => hM1, fun h => absurd (h7.symm.trans h) (by decide)⟩⟩⟩
      | 11, ho, hl, D, DL, hB =>
       obtain rfl := Option.some.inj ho
       clear ho
       have h7 : ls9 16 = false := by
        cases h9 : ls9 16 with
        | false => rfl
        | true => exact absurd (hl.symm.trans (DL2 12 11 rfl (DL2 13 12 rfl (DL2 16 13 rfl h9)))) (by decide)
       have hM1 := hM.1 h7
       have hX := wkB.fr hX hM1 id
       have hw23 := wkB.fr hw23 hM1 id
       exact ⟨fun h => (by rw [w_no (g := 7) (s := 31) (b := true) E rfl rfl (by decide) (D 7 _ rfl rfl)] at h; cases h), fun _ => ⟨fun x hx => by cases hx; rfl, ⟨fun _ => hM1, fun h => absurd (h7.symm.trans h) (by decide)⟩⟩⟩
      | 12, ho, hl, D, DL, hB =>
       obtain rfl := Option.some.inj ho
       clear ho
       have h7 : ls9 16 = false := by
        cases h9 : ls9 16 with
        | false => rfl
        | true => exact absurd (hl.symm.trans (DL2 13 12 rfl (DL2 16 13 rfl h9))) (by decide)
       have hM1 := hM.1 h7
       have hX := wkB.fr hX hM1 id
       have hw23 := wkB.fr hw23 hM1 id
       exact ⟨fun h => (by rw [w_no (g := 7) (s := 31) (b := true) E rfl rfl (by decide) (D 7 _ rfl rfl)] at h; cases h), fun _ => ⟨fun x hx => by cases hx; rfl, ⟨fun _ => hM1, fun h => absurd (h7.symm.trans h) (by decide)⟩⟩⟩
      | 13, ho, hl, D, DL, hB =>
       obtain rfl := Option.some.inj ho
       clear ho
       have h7 : ls9 16 = false := by
        cases h9 : ls9 16 with
        | false => rfl
        | true => exact absurd (hl.symm.trans (DL2 16 13 rfl h9)) (by decide)
       have hM1 := hM.1 h7
       have hX := wkB.fr hX hM1 id
       have hw23 := wkB.fr hw23 hM1 id
       exact ⟨fun _ => valx rfl (run_pick_f rfl (D 7 _ rfl rfl) rfl) rfl ⟨fun _ => hM1, fun h => absurd (h7.symm.trans h) (by decide)⟩, fun h => by rw [wanted_none rfl] at h; cases h⟩
      | 14, ho, hl, D, DL, hB =>
       obtain rfl := Option.some.inj ho
       clear ho
       have h7 : ls9 16 = false := by
        cases h9 : ls9 16 with
        | false => rfl
        | true => exact absurd (hl.symm.trans (DL2 15 14 rfl (DL2 16 15 rfl h9))) (by decide)
       have hM1 := hM.1 h7
       have hX := wkB.fr hX hM1 id
       have hw23 := wkB.fr hw23 hM1 id
       exact ⟨fun _ => valx rfl (run_nilchk rfl (D 0 _ rfl rfl)) rfl ⟨fun _ => hM1, fun h => absurd (h7.symm.trans h) (by decide)⟩, fun h => by rw [wanted_none rfl] at h; cases h⟩
      | 15, ho, hl, D, DL, hB =>
       obtain rfl := Option.some.inj ho
       clear ho
       have h7 : ls9 16 = false := by
        cases h9 : ls9 16 with
        | false => rfl
        | true => exact absurd (hl.symm.trans (DL2 16 15 rfl h9)) (by decide)
       have hM1 := hM.1 h7
       have hX := wkB.fr hX hM1 id
       have hw23 := wkB.fr hw23 hM1 id
       exact ⟨fun _ => valx rfl (run_index65 (i := n) rfl (D 14 _ rfl rfl) (D 1 _ rfl rfl) hlt) rfl ⟨fun _ => hM1, fun h => absurd (h7.symm.trans h) (by decide)⟩, fun h => by rw [wanted_none rfl] at h; cases h⟩
      | 16, ho, hl, D, DL, hB =>
       obtain rfl := Option.some.inj ho
       clear ho
       have hM1 := hM.1 hl
       have hX := wkB.fr hX hM1 id
       have hw23 := wkB.fr hw23 hM1 id
       obtain ⟨⟨d1, d2⟩, d3, d4⟩ := hX.set hlt false
       exact ⟨fun _ => storex rfl (run_st4 rfl (D 15 _ rfl rfl) (D 13 _ rfl rfl) d1 d2) rfl ⟨fun h => by simp at h, fun _ => ⟨d3, ((hM1.mono (G := fun r => r = bw22) (fun _ _ h => h.elim)).trans d4 : Fr (fun r => r = bw22) _ _)⟩⟩, fun h => by rw [wanted_none rfl] at h; cases h⟩
      | j9 + 17, ho, hl, D, DL, hB => exact absurd ho (by simp)
     ·rintro _ a w5 E V hM
      clear V
      have hM := hM.2 rfl
      obtain ⟨hX2, f1⟩ := hM
      clear hM
      have hw23 := wkB.fr hw23 f1 (fun e => by (try simp only at e); omega)
      have hf := hf.trans' f1 (fun r hr => (fun e => by (try simp only at e); omega))
      clear f1
      replace hX := hX2
      have htn : tx n = mnB la n := hT2 n (Nat.le_refl _)
      rw [hq26] at htn
      have hT1n : ∀ k : Nat, k < n + 1 → (if k = n then false else tx k) = (mnB la k && mnB lb k) := by
       intro k hk
       by_cases e : k = n
       ·subst e; rw [if_pos rfl, ← htn]; first | rfl | simp
       ·rw [if_neg e]; exact hT1 k (by omega)
      have hT2n : ∀ k : Nat, n + 1 ≤ k → (if k = n then false else tx k) = mnB la k := by
       intro k hk
       rw [if_neg (by omega)]; exact hT2 k (by omega)
      refine blk_n ?_
      refine then_n ?_
      refine wp_region_lit ?_
      refine ep (v := .int .i64 (n : Int)) E (run_move rfl (E.get 2 rfl)) fun a E => ?_
      refine ep (v := .int .i64 ((n : Int) + 1)) E (run_iadd Tryz.underlying3 (E.get 0 rfl) rfl (by omega) (by omega) rfl) fun a E => ?_
      refine env_set (d := 7) (v := .int .i64 ((n : Int) + 1)) E rfl (by decide) (wanted_none rfl _) (run_assign rfl (E.get 0 rfl)) fun a E => ?_
      refine wpList_nil ?_
      refine then_n ?_
      refine ⟨⟨n + 1, _, E.of ⟨E.get 0 rfl, E.get 5 rfl, E.get 6 rfl, trivial⟩, by omega, hX, hT1n, hT2n, hw23, hf⟩, ?_⟩
      ·rw [E.get 0 rfl]; simp only [intOf]; omega
    | true =>
     refine wp_region_invx (G := Unit) () (n := 42) (base := [(21, .bool true), (20, .int .i64 (n : Int)), (7, .int .i64 (n : Int)), (5, .pointer (some ⟨bw22, 0, none⟩)), (6, .pointer (some ⟨bw23, 0, none⟩))]) (U := []) (T := fun γ => [some (24, .pointer (some ⟨bw22, 0, none⟩)), some (25, .int .i64 (n : Int)), some (26, .pointer (some ⟨bw22, 0, none⟩)), some (27, .int .i64 (n : Int)), some (28, .pointer (some ⟨bw22, 0, none⟩)), some (29, .pointer (some ⟨bw22, (0 + n), none⟩)), some (30, .bool true), some (31, .bool true), some (32, .pointer (some ⟨bw23, 0, none⟩)), some (33, .int .i64 (n : Int)), some (34, .pointer (some ⟨bw23, 0, none⟩)), some (35, .pointer (some ⟨bw23, (0 + n), none⟩)), some (36, .bool (mnB lb (n : Nat))), some (37, .bool (mnB lb (n : Nat))), some (38, .pointer (some ⟨bw22, 0, none⟩)), some (39, .pointer (some ⟨bw22, (0 + n), none⟩)), none]) (M := fun γ ls9 wm => (ls9 16 = false → Fr (fun _ => False) w2 wm) ∧ (ls9 16 = true → wkB wm bw22 (fun i => if i = n then (mnB lb (n : Nat)) else tx i) ∧ Fr (fun r => r = bw22) w2 wm)) (by kernel_rfl) (by kernel_rfl) (fun _ => by kernel_rfl) (E.of ⟨E.get 0 rfl, E.get 1 rfl, E.get 2 rfl, E.get 3 rfl, E.get 4 rfl, trivial⟩) (fun x hx => by cases hx) ⟨fun _ => (Fr.refl _ _).drew, fun h => absurd h Bool.false_ne_true⟩ ?_ ?_
     ·intro j9 o9 γ ls9 a w5 ho hl E D DL DL2 hB hM
      match j9, ho, hl, D, DL, hB with
      | 0, ho, hl, D, DL, hB =>
       obtain rfl := Option.some.inj ho
       clear ho
       have h7 : ls9 16 = false := by
        cases h9 : ls9 16 with
        | false => rfl
        | true => exact absurd (hl.symm.trans (DL2 14 0 rfl (DL2 15 14 rfl (DL2 16 15 rfl h9)))) (by decide)
       have hM1 := hM.1 h7
       have hX := wkB.fr hX hM1 id
       have hw23 := wkB.fr hw23 hM1 id
       exact ⟨fun _ => valx rfl (run_move rfl (E.get 3 rfl)) rfl ⟨fun _ => hM1, fun h => absurd (h7.symm.trans h) (by decide)⟩, fun h => by rw [wanted_none rfl] at h; cases h⟩
      | 1, ho, hl, D, DL, hB =>
       obtain rfl := Option.some.inj ho
       clear ho
       have h7 : ls9 16 = false := by
        cases h9 : ls9 16 with
        | false => rfl
        | true => exact absurd (hl.symm.trans (DL2 15 1 rfl (DL2 16 15 rfl h9))) (by decide)
       have hM1 := hM.1 h7
       have hX := wkB.fr hX hM1 id
       have hw23 := wkB.fr hw23 hM1 id
       exact ⟨fun _ => valx rfl (run_move rfl (E.get 2 rfl)) rfl ⟨fun _ => hM1, fun h => absurd (h7.symm.trans h) (by decide)⟩, fun h => by rw [wanted_none rfl] at h; cases h⟩
      | 2, ho, hl, D, DL, hB =>
       obtain rfl := Option.some.inj ho
       clear ho
       have h7 : ls9 16 = false := by
        cases h9 : ls9 16 with
        | false => rfl
        | true => exact absurd (hl.symm.trans (DL2 4 2 rfl (DL2 5 4 rfl (DL2 6 5 rfl (DL2 7 6 rfl (DL2 13 7 rfl (DL2 16 13 rfl h9))))))) (by decide)
       have hM1 := hM.1 h7
       have hX := wkB.fr hX hM1 id
       have hw23 := wkB.fr hw23 hM1 id
       exact ⟨fun _ => valx rfl (run_move rfl (E.get 3 rfl)) rfl ⟨fun _ => hM1, fun h => absurd (h7.symm.trans h) (by decide)⟩, fun h => by rw [wanted_none rfl] at h; cases h⟩
      | 3, ho, hl, D, DL, hB =>
       obtain rfl := Option.some.inj ho
       clear ho
       have h7 : ls9 16 = false := by
        cases h9 : ls9 16 with
        | false => rfl
        | true => exact absurd (hl.symm.trans (DL2 5 3 rfl (DL2 6 5 rfl (DL2 7 6 rfl (DL2 13 7 rfl (DL2 16 13 rfl h9)))))) (by decide)
       have hM1 := hM.1 h7
       have hX := wkB.fr hX hM1 id
       have hw23 := wkB.fr hw23 hM1 id
       exact ⟨fun _ => valx rfl (run_move rfl (E.get 2 rfl)) rfl ⟨fun _ => hM1, fun h => absurd (h7.symm.trans h) (by decide)⟩, fun h => by rw [wanted_none rfl] at h; cases h⟩
      | 4, ho, hl, D, DL, hB =>
       obtain rfl := Option.some.inj ho
       clear ho
       have h7 : ls9 16 = false := by
        cases h9 : ls9 16 with
        | false => rfl
        | true => exact absurd (hl.symm.trans (DL2 5 4 rfl (DL2 6 5 rfl (DL2 7 6 rfl (DL2 13 7 rfl (DL2 16 13 rfl h9)))))) (by decide)
       have hM1 := hM.1 h7
       have hX := wkB.fr hX hM1 id
       have hw23 := wkB.fr hw23 hM1 id
       exact ⟨fun _ => valx rfl (run_nilchk rfl (D 2 _ rfl rfl)) rfl ⟨fun _ => hM1, fun h => absurd (h7.symm.trans h) (by decide)⟩, fun h => by rw [wanted_none rfl] at h; cases h⟩
      | 5, ho, hl, D, DL, hB =>
       obtain rfl := Option.some.inj ho
       clear ho
       have h7 : ls9 16 = false := by
        cases h9 : ls9 16 with
        | false => rfl
        | true => exact absurd (hl.symm.trans (DL2 6 5 rfl (DL2 7 6 rfl (DL2 13 7 rfl (DL2 16 13 rfl h9))))) (by decide)
       have hM1 := hM.1 h7
       have hX := wkB.fr hX hM1 id
       have hw23 := wkB.fr hw23 hM1 id
       exact ⟨fun _ => valx rfl (run_index65 (i := n) rfl (D 4 _ rfl rfl) (D 3 _ rfl rfl) hlt) rfl ⟨fun _ => hM1, fun h => absurd (h7.symm.trans h) (by decide)⟩, fun h => by rw [wanted_none rfl] at h; cases h⟩
      | 6, ho, hl, D, DL, hB =>
       obtain rfl := Option.some.inj ho
       clear ho
       have h7 : ls9 16 = false := by
        cases h9 : ls9 16 with
        | false => rfl
        | true => exact absurd (hl.symm.trans (DL2 7 6 rfl (DL2 13 7 rfl (DL2 16 13 rfl h9)))) (by decide)
       have hM1 := hM.1 h7
       have hX := wkB.fr hX hM1 id
       have hw23 := wkB.fr hw23 hM1 id
       exact ⟨fun _ => valx rfl ((run_ldb rfl (D 5 _ rfl rfl) (hX.at hlt)).trans (by rw [hq26] <;> rfl)) rfl ⟨fun _ => hM1, fun h => absurd (h7.symm.trans h) (by decide)⟩, fun h => by rw [wanted_none rfl] at h; cases h⟩
      | 7, ho, hl, D, DL, hB =>
       obtain rfl := Option.some.inj ho
       clear ho
       have h7 : ls9 16 = false := by
        cases h9 : ls9 16 with
        | false => rfl
        | true => exact absurd (hl.symm.trans (DL2 13 7 rfl (DL2 16 13 rfl h9))) (by decide)
       have hM1 := hM.1 h7
       have hX := wkB.fr hX hM1 id
       have hw23 := wkB.fr hw23 hM1 id
       exact ⟨fun _ => valx rfl (run_move rfl (D 6 _ rfl rfl)) rfl ⟨fun _ => hM1, fun h => absurd (h7.symm.trans h) (by decide)⟩, fun h => by rw [wanted_none rfl] at h; cases h⟩
      | 8, ho, hl, D, DL, hB =>
       obtain rfl := Option.some.inj ho
       clear ho
       have h7 : ls9 16 = false := by
        cases h9 : ls9 16 with
        | false => rfl
        | true => exact absurd (hl.symm.trans (DL2 10 8 rfl (DL2 11 10 rfl (DL2 12 11 rfl (DL2 13 12 rfl (DL2 16 13 rfl h9)))))) (by decide)
       have hM1 := hM.1 h7
       have hX := wkB.fr hX hM1 id
       have hw23 := wkB.fr hw23 hM1 id
       exact ⟨fun _ => valx rfl (run_move rfl (E.get 4 rfl)) rfl ⟨fun _ => hM1, fun h => absurd (h7.symm.trans h) (by decide)⟩, fun h => by rw [w_yes (g := 7) (s := 31) (b := true) E rfl rfl (by decide) (D 7 _ rfl rfl)] at h; cases h⟩
      | 9, ho, hl, D, DL, hB =>
       obtain rfl := Option.some.inj ho
       clear ho
       have h7 : ls9 16 = false := by
        cases h9 : ls9 16 with
        | false => rfl
        | true => exact absurd (hl.symm.trans (DL2 11 9 rfl (DL2 12 11 rfl (DL2 13 12 rfl (DL2 16 13 rfl h9))))) (by decide)
       have hM1 := hM.1 h7
       have hX := wkB.fr hX hM1 id
       have hw23 := wkB.fr hw23 hM1 id
       exact ⟨fun _ => valx rfl (run_move rfl (E.get 2 rfl)) rfl ⟨fun _ => hM1, fun h => absurd (h7.symm.trans h) (by decide)⟩, fun h => by rw [w_yes (g := 7) (s := 31) (b := true) E rfl rfl (by decide) (D 7 _ rfl rfl)] at h; cases h⟩
      | 10, ho, hl, D, DL, hB =>
       obtain rfl := Option.some.inj ho
       clear ho
       have h7 : ls9 16 = false := by
        cases h9 : ls9 16 with
        | false => rfl
        | true => exact absurd (hl.symm.trans (DL2 11 10 rfl (DL2 12 11 rfl (DL2 13 12 rfl (DL2 16 13 rfl h9))))) (by decide)
       have hM1 := hM.1 h7
       have hX := wkB.fr hX hM1 id
       have hw23 := wkB.fr hw23 hM1 id
       exact ⟨fun _ => valx rfl (run_nilchk rfl (D 8 _ rfl rfl)) rfl ⟨fun _ => hM1, fun h => absurd (h7.symm.trans h) (by decide)⟩, fun h => by rw [w_yes (g := 7) (s := 31) (b := true) E rfl rfl (by decide) (D 7 _ rfl rfl)] at h; cases h⟩
      | 11, ho, hl, D, DL, hB =>
       obtain rfl := Option.some.inj ho
       clear ho
       have h7 : ls9 16 = false := by
        cases h9 : ls9 16 with
        | false => rfl
        | true => exact absurd (hl.symm.trans (DL2 12 11 rfl (DL2 13 12 rfl (DL2 16 13 rfl h9)))) (by decide)
       have hM1 := hM.1 h7
       have hX := wkB.fr hX hM1 id
       have hw23 := wkB.fr hw23 hM1 id
       exact ⟨fun _ => valx rfl (run_index65 (i := n) rfl (D 10 _ rfl rfl) (D 9 _ rfl rfl) hlt) rfl ⟨fun _ => hM1, fun h => absurd (h7.symm.trans h) (by decide)⟩, fun h => by rw [w_yes (g := 7) (s := 31) (b := true) E rfl rfl (by decide) (D 7 _ rfl rfl)] at h; cases h⟩
      | 12, ho, hl, D, DL, hB =>
       obtain rfl := Option.some.inj ho
       clear ho
       have h7 : ls9 16 = false := by
        cases h9 : ls9 16 with
        | false => rfl
        | true => exact absurd (hl.symm.trans (DL2 13 12 rfl (DL2 16 13 rfl h9))) (by decide)
       have hM1 := hM.1 h7
       have hX := wkB.fr hX hM1 id
       have hw23 := wkB.fr hw23 hM1 id
       exact ⟨fun _ => valx rfl (run_ldb rfl (D 11 _ rfl rfl) (hw23.at hlt)) rfl ⟨fun _ => hM1, fun h => absurd (h7.symm.trans h) (by decide)⟩, fun h => by rw [w_yes (g := 7) (s := 31) (b := true) E rfl rfl (by decide) (D 7 _ rfl rfl)] at h; cases h⟩
      | 13, ho, hl, D, DL, hB =>
       obtain rfl := Option.some.inj ho
       clear ho
       have h7 : ls9 16 = false := by
        cases h9 : ls9 16 with
        | false => rfl
        | true => exact absurd (hl.symm.trans (DL2 16 13 rfl h9)) (by decide)
       have hM1 := hM.1 h7
       have hX := wkB.fr hX hM1 id
       have hw23 := wkB.fr hw23 hM1 id
       exact ⟨fun _ => valx rfl (run_pick_t rfl (D 7 _ rfl rfl) (D 12 _ rfl rfl)) rfl ⟨fun _ => hM1, fun h => absurd (h7.symm.trans h) (by decide)⟩, fun h => by rw [wanted_none rfl] at h; cases h⟩
      | 14, ho, hl, D, DL, hB =>
       obtain rfl := Option.some.inj ho
       clear ho
       have h7 : ls9 16 = false := by
        cases h9 : ls9 16 with
        | false => rfl
        | true => exact absurd (hl.symm.trans (DL2 15 14 rfl (DL2 16 15 rfl h9))) (by decide)
       have hM1 := hM.1 h7
       have hX := wkB.fr hX hM1 id
       have hw23 := wkB.fr hw23 hM1 id
       exact ⟨fun _ => valx rfl (run_nilchk rfl (D 0 _ rfl rfl)) rfl ⟨fun _ => hM1, fun h => absurd (h7.symm.trans h) (by decide)⟩, fun h => by rw [wanted_none rfl] at h; cases h⟩
      | 15, ho, hl, D, DL, hB =>
       obtain rfl := Option.some.inj ho
       clear ho
       have h7 : ls9 16 = false := by
        cases h9 : ls9 16 with
        | false => rfl
        | true => exact absurd (hl.symm.trans (DL2 16 15 rfl h9)) (by decide)
       have hM1 := hM.1 h7
       have hX := wkB.fr hX hM1 id
       have hw23 := wkB.fr hw23 hM1 id
       exact ⟨fun _ => valx rfl (run_index65 (i := n) rfl (D 14 _ rfl rfl) (D 1 _ rfl rfl) hlt) rfl ⟨fun _ => hM1, fun h => absurd (h7.symm.trans h) (by decide)⟩, fun h => by rw [wanted_none rfl] at h; cases h⟩
      | 16, ho, hl, D, DL, hB =>
       obtain rfl := Option.some.inj ho
       clear ho
       have hM1 := hM.1 hl
       have hX := wkB.fr hX hM1 id
       have hw23 := wkB.fr hw23 hM1 id
       obtain ⟨⟨d1, d2⟩, d3, d4⟩ := hX.set hlt (mnB lb (n : Nat))
       exact ⟨fun _ => storex rfl (run_st4 rfl (D 15 _ rfl rfl) (D 13 _ rfl rfl) d1 d2) rfl ⟨fun h => by simp at h, fun _ => ⟨d3, ((hM1.mono (G := fun r => r = bw22) (fun _ _ h => h.elim)).trans d4 : Fr (fun r => r = bw22) _ _)⟩⟩, fun h => by rw [wanted_none rfl] at h; cases h⟩
      | j9 + 17, ho, hl, D, DL, hB => exact absurd ho (by simp)
     ·rintro _ a w5 E V hM
      clear V
      have hM := hM.2 rfl
      obtain ⟨hX2, f1⟩ := hM
      clear hM
      have hw23 := wkB.fr hw23 f1 (fun e => by (try simp only at e); omega)
      have hf := hf.trans' f1 (fun r hr => (fun e => by (try simp only at e); omega))
      clear f1
      replace hX := hX2
      have htn : tx n = mnB la n := hT2 n (Nat.le_refl _)
      rw [hq26] at htn
      have hT1n : ∀ k : Nat, k < n + 1 → (if k = n then (mnB lb (n : Nat)) else tx k) = (mnB la k && mnB lb k) := by
       intro k hk
       by_cases e : k = n
       ·subst e; rw [if_pos rfl, ← htn]; first | rfl | simp
       ·rw [if_neg e]; exact hT1 k (by omega)
      have hT2n : ∀ k : Nat, n + 1 ≤ k → (if k = n then (mnB lb (n : Nat)) else tx k) = mnB la k := by
       intro k hk
       rw [if_neg (by omega)]; exact hT2 k (by omega)
      refine blk_n ?_
      refine then_n ?_
      refine wp_region_lit ?_
      refine ep (v := .int .i64 (n : Int)) E (run_move rfl (E.get 2 rfl)) fun a E => ?_
      refine ep (v := .int .i64 ((n : Int) + 1)) E (run_iadd Tryz.underlying3 (E.get 0 rfl) rfl (by omega) (by omega) rfl) fun a E => ?_
      refine env_set (d := 7) (v := .int .i64 ((n : Int) + 1)) E rfl (by decide) (wanted_none rfl _) (run_assign rfl (E.get 0 rfl)) fun a E => ?_
      refine wpList_nil ?_
      refine then_n ?_
      refine ⟨⟨n + 1, _, E.of ⟨E.get 0 rfl, E.get 5 rfl, E.get 6 rfl, trivial⟩, by omega, hX, hT1n, hT2n, hw23, hf⟩, ?_⟩
      ·rw [E.get 0 rfl]; simp only [intOf]; omega
set_option maxRecDepth 100000 in
set_option maxHeartbeats 4000000 in
theorem reither_calls {w : World} {v u : Value} {la lb : List Sp} (hla : SpV w v la) (hlb : SpV w u lb) : Calls Tryz.prog 31 #[v, u] w fun e w' => ∃ u, e = .returned u ∧ SpV w' u (eitherQ la lb) ∧ Fr (fun _ => False) w w' := by
 obtain ⟨p0, cp0, hvp0, hlep0, hcapp0, hsp0, hzp0⟩ := hla
 subst hvp0
 obtain ⟨p1, cp1, hvp1, hlep1, hcapp1, hsp1, hzp1⟩ := hlb
 subst hvp1
 refine wp_start2 Tryz.func31 rfl rfl (n := 42) (by decide) fun a E => ?_
 have hf : Fr (fun _ => False) w w := Fr.refl _ _
 refine wp_seq ?_
 refine wp_region_lit ?_
 refine ep (v := .slice none 0 0) E (run_assign rfl rfl) fun a E => ?_
 refine wpList_nil ?_
 refine then_n ?_
 refine wp_seq ?_
 refine wp_seq ?_
 refine wp_region_lit ?_
 refine ep (v := .slice (p0) la.length cp0) E (run_move rfl (E.get 1 rfl)) fun a E => ?_
 refine env_call (d := 9) (v := .bool (vl (-1) la)) E rfl (by decide) rfl (wanted_none rfl _) (run_call1 (enters_of Tryz.func19 (by kernel_rfl) rfl) rfl rfl (E.get 0 rfl)) (rvalid_calls ⟨_, _, rfl, hlep0, hcapp0, hsp0.mono (by first | exact hf.size | omega), hzp0⟩) fun a w1 f1 E => ?_
 have hsp0 := srcAt.fr hsp0 f1 (fun r hr => id)
 have hsp1 := srcAt.fr hsp1 f1 (fun r hr => id)
 have hf := hf.trans f1
 clear f1
 refine ep (v := .bool (!(vl (-1) la))) E (run_not rfl (E.get 0 rfl)) fun a E => ?_
 refine ep (v := .bool (!(vl (-1) la))) E (run_move rfl (E.get 0 rfl)) fun a E => ?_
 cases hq27 : (vl (-1) la) with
 | false =>
  rw [hq27] at E
  refine ek E rfl (E.get 0 rfl) fun a E => ?_
  refine ek E rfl (E.get 1 rfl) fun a E => ?_
  refine ek E rfl (E.get 2 rfl) fun a E => ?_
  refine ep (v := .bool true) E (run_pick_t rfl (E.get 3 rfl) rfl) fun a E => ?_
  refine wpList_nil ?_
  refine then_n ?_
  refine wp_cond_true (E.get 0 rfl) ?_
  refine wp_seq ?_
  refine wp_region_lit ?_
  refine env_set (d := 4) (v := .slice none 0 0) E rfl (by decide) (wanted_none rfl _) (run_assign rfl rfl) fun a E => ?_
  refine wpList_nil ?_
  refine then_n ?_
  refine wp_ret ?_
  refine then_r ?_
  refine ret_tmp (t := 4) rfl E (E.get 0 rfl) ⟨_, rfl, ?_, hf⟩
  unfold eitherQ
  rw [hq27]
  exact Src.nil _
 | true =>
  rw [hq27] at E
  have hvla := hq27
  refine eg (v := .slice (p1) lb.length cp1) E (w_yes (g := 3) (s := 11) E rfl rfl (by decide) (E.get 0 rfl)) (run_move rfl (E.get 6 rfl)) fun a E => ?_
  refine env_call (d := 13) (v := .bool (vl (-1) lb)) E rfl (by decide) rfl (w_yes (g := 3) (s := 11) E rfl rfl (by decide) (E.get 1 rfl)) (run_call1 (enters_of Tryz.func19 (by kernel_rfl) rfl) rfl rfl (E.get 0 rfl)) (rvalid_calls ⟨_, _, rfl, hlep1, hcapp1, hsp1.mono (by first | exact hf.size | omega), hzp1⟩) fun a w1 f1 E => ?_
  have hsp0 := srcAt.fr hsp0 f1 (fun r hr => id)
  have hsp1 := srcAt.fr hsp1 f1 (fun r hr => id)
  have hf := hf.trans f1
  clear f1
  refine eg (v := .bool (!(vl (-1) lb))) E (w_yes (g := 3) (s := 11) E rfl rfl (by decide) (E.get 2 rfl)) (run_not rfl (E.get 0 rfl)) fun a E => ?_
  refine ep (v := .bool (!(vl (-1) lb))) E (run_pick_f rfl (E.get 3 rfl) (E.get 0 rfl)) fun a E => ?_
  refine wpList_nil ?_
  refine then_n ?_
  cases hq28 : (vl (-1) lb) with
  | false =>
   rw [hq28] at E
   refine wp_cond_true (E.get 0 rfl) ?_
   refine wp_seq ?_
   refine wp_region_lit ?_
   refine env_set (d := 4) (v := .slice none 0 0) E rfl (by decide) (wanted_none rfl _) (run_assign rfl rfl) fun a E => ?_
   refine wpList_nil ?_
   refine then_n ?_
   refine wp_ret ?_
   refine then_r ?_
   refine ret_tmp (t := 4) rfl E (E.get 0 rfl) ⟨_, rfl, ?_, hf⟩
   unfold eitherQ
   rw [hq27, hq28]
   exact Src.nil _
  | true =>
   rw [hq28] at E
   have hvlb := hq28
   refine wp_cond_false (E.get 0 rfl) ?_
   refine wp_skip ?_
   refine then_n ?_
   refine wp_seq ?_
   refine wp_region_lit ?_
   refine ep (v := .slice (p0) la.length cp0) E (run_move rfl (E.get 9 rfl)) fun a E => ?_
   refine env_callv (d := 17) (R := fun u w8 => ∃ b, u = .pointer (some ⟨b, 0, none⟩) ∧ wkB w8 b (fun k => mnB la k) ∧ w1.heap.size ≤ b ∧ Fr (fun _ => False) w1 w8) E rfl (by decide) rfl (wanted_none rfl _) (run_call1 (enters_of Tryz.func37 (by kernel_rfl) rfl) rfl rfl (E.get 0 rfl)) ((rset_calls ⟨_, _, rfl, hlep0, hcapp0, hsp0.mono (by first | exact hf.size | omega), hzp0⟩ (vl_wk (Int.le_refl _) hvla)).mono fun e w8 h => by obtain ⟨b, rfl, h⟩ := h; exact ⟨_, rfl, b, rfl, h⟩) fun a w1 u ⟨bw29, hu, hw29, hb9, f1⟩ E => ?_
   subst hu
   have hnbw29 : w.heap.size ≤ bw29 := by have := hf.size; omega
   clear hb9
   have hsp0 := srcAt.fr hsp0 f1 (fun r hr => id)
   have hsp1 := srcAt.fr hsp1 f1 (fun r hr => id)
   have hf := hf.trans f1
   clear f1
   refine ep (v := .pointer (some ⟨bw29, 0, none⟩)) E (run_assign rfl (E.get 0 rfl)) fun a E => ?_
   refine wpList_nil ?_
   refine then_n ?_
   refine wp_seq ?_
   refine wp_region_lit ?_
   refine ep (v := .slice (p1) lb.length cp1) E (run_move rfl (E.get 13 rfl)) fun a E => ?_
   refine env_callv (d := 19) (R := fun u w8 => ∃ b, u = .pointer (some ⟨b, 0, none⟩) ∧ wkB w8 b (fun k => mnB lb k) ∧ w1.heap.size ≤ b ∧ Fr (fun _ => False) w1 w8) E rfl (by decide) rfl (wanted_none rfl _) (run_call1 (enters_of Tryz.func37 (by kernel_rfl) rfl) rfl rfl (E.get 0 rfl)) ((rset_calls ⟨_, _, rfl, hlep1, hcapp1, hsp1.mono (by first | exact hf.size | omega), hzp1⟩ (vl_wk (Int.le_refl _) hvlb)).mono fun e w8 h => by obtain ⟨b, rfl, h⟩ := h; exact ⟨_, rfl, b, rfl, h⟩) fun a w1 u ⟨bw30, hu, hw30, hb9, f1⟩ E => ?_
   subst hu
   have hnbw30 : w.heap.size ≤ bw30 := by have := hf.size; omega
   have hlbw29bw30 : bw29 < bw30 := by have := hw29.lt; omega
   clear hb9
   have hsp0 := srcAt.fr hsp0 f1 (fun r hr => id)
   have hsp1 := srcAt.fr hsp1 f1 (fun r hr => id)
   have hw29 := wkB.fr hw29 f1 id
   have hf := hf.trans f1
   clear f1
   refine ep (v := .pointer (some ⟨bw30, 0, none⟩)) E (run_assign rfl (E.get 0 rfl)) fun a E => ?_
   refine wpList_nil ?_
   refine then_n ?_
   refine wp_seq ?_
   refine wp_seq ?_
   refine wp_region_lit ?_
   refine ep (v := .int .i64 0) E (run_assign rfl rfl) fun a E => ?_
   refine wpList_nil ?_
   refine then_n ?_
   refine wp_block ?_
   refine wp_loop (fun a w2 => ∃ (n : Nat) (tx : Nat → Bool), Env 42 [(7, .int .i64 (n : Int)), (5, .pointer (some ⟨bw29, 0, none⟩)), (6, .pointer (some ⟨bw30, 0, none⟩))] a ∧ n ≤ 10080 ∧ wkB w2 bw29 tx ∧ (∀ k : Nat, k < n → tx k = (mnB la k || mnB lb k)) ∧ (∀ k : Nat, n ≤ k → tx k = mnB la k) ∧ wkB w2 bw30 (fun k => mnB lb k) ∧ Fr (fun _ => False) w w2) (fun a _ => 10080 - (intOf (a.eval (.tmp 7))).toNat) ?_ ?_
   ·exact ⟨0, _, E.of ⟨E.get 0 rfl, E.get 4 rfl, E.get 1 rfl, trivial⟩, Nat.zero_le _, hw29, fun k h => by omega, fun k h => rfl, hw30, hf⟩
   clear E
   rintro a w2 ⟨n, tx, E, hn, hX, hT1, hT2, hw30, hf⟩
   have hmu : 10080 - (intOf (a.eval (.tmp 7))).toNat = 10080 - n := by rw [E.get 0 rfl]; first | rfl | (simp [intOf]; done) | (simp only [intOf]; omega)
   rw [hmu]
   clear hmu
   refine wp_seq ?_
   refine wp_seq ?_
   refine wp_region_lit ?_
   refine ep (v := .int .i64 (n : Int)) E (run_move rfl (E.get 0 rfl)) fun a E => ?_
   refine ep (v := .bool (decide ((n : Int) < 10080))) E (run_ilss (E.get 0 rfl) rfl Tryz.underlying3 rfl) fun a E => ?_
   refine wpList_nil ?_
   refine then_n ?_
   cases hq32 : (decide ((n : Int) < 10080)) with
   | false =>
    rw [hq32] at E
    have hie : n = 10080 := by have := of_decide_eq_false hq32; omega
    obtain ⟨tt, htt⟩ : ∃ t, t = tx := ⟨_, rfl⟩
    rw [← htt] at hX
    refine wp_cond_false (E.get 0 rfl) ?_
    refine wp_exit ?_
    refine then_e ?_
    refine then_e ?_
    refine blk_e ?_
    refine then_n ?_
    refine wp_seq ?_
    refine wp_region_lit ?_
    refine ep (v := .pointer (some ⟨bw29, 0, none⟩)) E (run_move rfl (E.get 3 rfl)) fun a E => ?_
    refine env_callv (d := 41) (R := fun u w8 => SpV w8 u (runs tt 10080) ∧ Fr (fun _ => False) w2 w8) E rfl (by decide) rfl (wanted_none rfl _) (run_call1 (enters_of Tryz.func40 (by kernel_rfl) rfl) rfl rfl (E.get 0 rfl)) ((spans_calls hX).mono fun e w8 h => by obtain ⟨v, rfl, h⟩ := h; exact ⟨_, rfl, h⟩) fun a w1 rv ⟨hrv, f1⟩ E => ?_
    have hX := wkB.fr hX f1 id
    have hw30 := wkB.fr hw30 f1 id
    have hf := hf.trans f1
    clear f1
    refine ep (v := rv) E (run_assign rfl (E.get 0 rfl)) fun a E => ?_
    refine wpList_nil ?_
    refine then_n ?_
    refine wp_ret ?_
    refine ret_tmp (t := 4) rfl E (E.get 0 rfl) ⟨_, rfl, ?_, hf⟩
    have hN := eitherL_un hvla hvlb
    have e : runs tt 10080 = eitherQ la lb := by
     unfold eitherQ; rw [if_pos (by rw [hvla, hvlb]; rfl)]
     refine runs_uniq hN.1 fun m hm => ?_
     rw [htt, hT1 m (by omega), hN.2, ← mnB_iff, ← mnB_iff]
     cases mnB la m <;> cases mnB lb m <;> simp
    rw [← e]; exact hrv
   | true =>
    rw [hq32] at E
    have hlt : n < 10080 := by have := of_decide_eq_true hq32; omega
    refine wp_cond_true (E.get 0 rfl) ?_
    refine wp_skip ?_
    refine then_n ?_
    refine wp_seq ?_
    refine wp_block ?_
    cases hq33 : (tx n) with
    | false =>
     refine wp_region_invx (G := Unit) () (n := 42) (base := [(21, .bool true), (20, .int .i64 (n : Int)), (7, .int .i64 (n : Int)), (5, .pointer (some ⟨bw29, 0, none⟩)), (6, .pointer (some ⟨bw30, 0, none⟩))]) (U := []) (T := fun γ => [some (24, .pointer (some ⟨bw29, 0, none⟩)), some (25, .int .i64 (n : Int)), some (26, .pointer (some ⟨bw29, 0, none⟩)), some (27, .int .i64 (n : Int)), some (28, .pointer (some ⟨bw29, 0, none⟩)), some (29, .pointer (some ⟨bw29, (0 + n), none⟩)), some (30, .bool false), some (31, .bool false), some (32, .pointer (some ⟨bw30, 0, none⟩)), some (33, .int .i64 (n : Int)), some (34, .pointer (some ⟨bw30, 0, none⟩)), some (35, .pointer (some ⟨bw30, (0 + n), none⟩)), some (36, .bool (mnB lb (n : Nat))), some (37, .bool (mnB lb (n : Nat))), some (38, .pointer (some ⟨bw29, 0, none⟩)), some (39, .pointer (some ⟨bw29, (0 + n), none⟩)), none]) (M := fun γ ls9 wm => (ls9 16 = false → Fr (fun _ => False) w2 wm) ∧ (ls9 16 = true → wkB wm bw29 (fun i => if i = n then (mnB lb (n : Nat)) else tx i) ∧ Fr (fun r => r = bw29) w2 wm)) (by kernel_rfl) (by kernel_rfl) (fun _ => by kernel_rfl) (E.of ⟨E.get 0 rfl, E.get 1 rfl, E.get 2 rfl, E.get 3 rfl, E.get 4 rfl, trivial⟩) (fun x hx => by cases hx) ⟨fun _ => (Fr.refl _ _).drew, fun h => absurd h Bool.false_ne_true⟩ ?_ ?_
     ·intro j9 o9 γ ls9 a w5 ho hl E D DL DL2 hB hM
      match j9, ho, hl, D, DL, hB with
      | 0, ho, hl, D, DL, hB =>
       obtain rfl := Option.some.inj ho
       clear ho
       have h7 : ls9 16 = false := by
        cases h9 : ls9 16 with
        | false => rfl
        | true => exact absurd (hl.symm.trans (DL2 14 0 rfl (DL2 15 14 rfl (DL2 16 15 rfl h9)))) (by decide)
       have hM1 := hM.1 h7
       have hX := wkB.fr hX hM1 id
       have hw30 := wkB.fr hw30 hM1 id
       exact ⟨fun _ => valx rfl (run_move rfl (E.get 3 rfl)) rfl ⟨fun _ => hM1, fun h => absurd (h7.symm.trans h) (by decide)⟩, fun h => by rw [wanted_none rfl] at h; cases h⟩
      | 1, ho, hl, D, DL, hB =>
       obtain rfl := Option.some.inj ho
       clear ho
       have h7 : ls9 16 = false := by
        cases h9 : ls9 16 with
        | false => rfl
        | true => exact absurd (hl.symm.trans (DL2 15 1 rfl (DL2 16 15 rfl h9))) (by decide)
       have hM1 := hM.1 h7
       have hX := wkB.fr hX hM1 id
       have hw30 := wkB.fr hw30 hM1 id
       exact ⟨fun _ => valx rfl (run_move rfl (E.get 2 rfl)) rfl ⟨fun _ => hM1, fun h => absurd (h7.symm.trans h) (by decide)⟩, fun h => by rw [wanted_none rfl] at h; cases h⟩
      | 2, ho, hl, D, DL, hB =>
       obtain rfl := Option.some.inj ho
       clear ho
       have h7 : ls9 16 = false := by
        cases h9 : ls9 16 with
        | false => rfl
        | true => exact absurd (hl.symm.trans (DL2 4 2 rfl (DL2 5 4 rfl (DL2 6 5 rfl (DL2 7 6 rfl (DL2 13 7 rfl (DL2 16 13 rfl h9))))))) (by decide)
       have hM1 := hM.1 h7
       have hX := wkB.fr hX hM1 id
       have hw30 := wkB.fr hw30 hM1 id
       exact ⟨fun _ => valx rfl (run_move rfl (E.get 3 rfl)) rfl ⟨fun _ => hM1, fun h => absurd (h7.symm.trans h) (by decide)⟩, fun h => by rw [wanted_none rfl] at h; cases h⟩
      | 3, ho, hl, D, DL, hB =>
       obtain rfl := Option.some.inj ho
       clear ho
       have h7 : ls9 16 = false := by
        cases h9 : ls9 16 with
        | false => rfl
        | true => exact absurd (hl.symm.trans (DL2 5 3 rfl (DL2 6 5 rfl (DL2 7 6 rfl (DL2 13 7 rfl (DL2 16 13 rfl h9)))))) (by decide)
       have hM1 := hM.1 h7
       have hX := wkB.fr hX hM1 id
       have hw30 := wkB.fr hw30 hM1 id
       exact ⟨fun _ => valx rfl (run_move rfl (E.get 2 rfl)) rfl ⟨fun _ => hM1, fun h => absurd (h7.symm.trans h) (by decide)⟩, fun h => by rw [wanted_none rfl] at h; cases h⟩
      | 4, ho, hl, D, DL, hB =>
       obtain rfl := Option.some.inj ho
       clear ho
       have h7 : ls9 16 = false := by
        cases h9 : ls9 16 with
        | false => rfl
        | true => exact absurd (hl.symm.trans (DL2 5 4 rfl (DL2 6 5 rfl (DL2 7 6 rfl (DL2 13 7 rfl (DL2 16 13 rfl h9)))))) (by decide)
       have hM1 := hM.1 h7
       have hX := wkB.fr hX hM1 id
       have hw30 := wkB.fr hw30 hM1 id
       exact ⟨fun _ => valx rfl (run_nilchk rfl (D 2 _ rfl rfl)) rfl ⟨fun _ => hM1, fun h => absurd (h7.symm.trans h) (by decide)⟩, fun h => by rw [wanted_none rfl] at h; cases h⟩
      | 5, ho, hl, D, DL, hB =>
       obtain rfl := Option.some.inj ho
       clear ho
       have h7 : ls9 16 = false := by
        cases h9 : ls9 16 with
        | false => rfl
        | true => exact absurd (hl.symm.trans (DL2 6 5 rfl (DL2 7 6 rfl (DL2 13 7 rfl (DL2 16 13 rfl h9))))) (by decide)
       have hM1 := hM.1 h7
       have hX := wkB.fr hX hM1 id
       have hw30 := wkB.fr hw30 hM1 id
       exact ⟨fun _ => valx rfl (run_index65 (i := n) rfl (D 4 _ rfl rfl) (D 3 _ rfl rfl) hlt) rfl ⟨fun _ => hM1, fun h => absurd (h7.symm.trans h) (by decide)⟩, fun h => by rw [wanted_none rfl] at h; cases h⟩
      | 6, ho, hl, D, DL, hB =>
       obtain rfl := Option.some.inj ho
       clear ho
       have h7 : ls9 16 = false := by
        cases h9 : ls9 16 with
        | false => rfl
        | true => exact absurd (hl.symm.trans (DL2 7 6 rfl (DL2 13 7 rfl (DL2 16 13 rfl h9)))) (by decide)
       have hM1 := hM.1 h7
       have hX := wkB.fr hX hM1 id
       have hw30 := wkB.fr hw30 hM1 id
       exact ⟨fun _ => valx rfl ((run_ldb rfl (D 5 _ rfl rfl) (hX.at hlt)).trans (by rw [hq33] <;> rfl)) rfl ⟨fun _ => hM1, fun h => absurd (h7.symm.trans h) (by decide)⟩, fun h => by rw [wanted_none rfl] at h; cases h⟩
      | 7, ho, hl, D, DL, hB =>
       obtain rfl := Option.some.inj ho
       clear ho
       have h7 : ls9 16 = false := by
        cases h9 : ls9 16 with
        | false => rfl
        | true => exact absurd (hl.symm.trans (DL2 13 7 rfl (DL2 16 13 rfl h9))) (by decide)
       have hM1 := hM.1 h7
       have hX := wkB.fr hX hM1 id
       have hw30 := wkB.fr hw30 hM1 id
       exact ⟨fun _ => valx rfl (run_move rfl (D 6 _ rfl rfl)) rfl ⟨fun _ => hM1, fun h => absurd (h7.symm.trans h) (by decide)⟩, fun h => by rw [wanted_none rfl] at h; cases h⟩
      | 8, ho, hl, D, DL, hB =>
       obtain rfl := Option.some.inj ho
       clear ho
       have h7 : ls9 16 = false := by
        cases h9 : ls9 16 with
        | false => rfl
        | true => exact absurd (hl.symm.trans (DL2 10 8 rfl (DL2 11 10 rfl (DL2 12 11 rfl (DL2 13 12 rfl (DL2 16 13 rfl h9)))))) (by decide)
       have hM1 := hM.1 h7
       have hX := wkB.fr hX hM1 id
       have hw30 := wkB.fr hw30 hM1 id
       exact ⟨fun _ => valx rfl (run_move rfl (E.get 4 rfl)) rfl ⟨fun _ => hM1, fun h => absurd (h7.symm.trans h) (by decide)⟩, fun h => by rw [w_yes (g := 7) (s := 31) (b := false) E rfl rfl (by decide) (D 7 _ rfl rfl)] at h; cases h⟩
      | 9, ho, hl, D, DL, hB =>
       obtain rfl := Option.some.inj ho
       clear ho
       have h7 : ls9 16 = false := by
        cases h9 : ls9 16 with
        | false => rfl
        | true => exact absurd (hl.symm.trans (DL2 11 9 rfl (DL2 12 11 rfl (DL2 13 12 rfl (DL2 16 13 rfl h9))))) (by decide)
       have hM1 := hM.1 h7
       have hX := wkB.fr hX hM1 id
       have hw30 := wkB.fr hw30 hM1 id
       exact ⟨fun _ => valx rfl (run_move rfl (E.get 2 rfl)) rfl ⟨fun _ => hM1, fun h => absurd (h7.symm.trans h) (by decide)⟩, fun h => by rw [w_yes (g := 7) (s := 31) (b := false) E rfl rfl (by decide) (D 7 _ rfl rfl)] at h; cases h⟩
      | 10, ho, hl, D, DL, hB =>
       obtain rfl := Option.some.inj ho
       clear ho
       have h7 : ls9 16 = false := by
        cases h9 : ls9 16 with
        | false => rfl
        | true => exact absurd (hl.symm.trans (DL2 11 10 rfl (DL2 12 11 rfl (DL2 13 12 rfl (DL2 16 13 rfl h9))))) (by decide)
       have hM1 := hM.1 h7
       have hX := wkB.fr hX hM1 id
       have hw30 := wkB.fr hw30 hM1 id
       exact ⟨fun _ => valx rfl (run_nilchk rfl (D 8 _ rfl rfl)) rfl ⟨fun _ => hM1, fun h => absurd (h7.symm.trans h) (by decide)⟩, fun h => by rw [w_yes (g := 7) (s := 31) (b := false) E rfl rfl (by decide) (D 7 _ rfl rfl)] at h; cases h⟩
      | 11, ho, hl, D, DL, hB =>
       obtain rfl := Option.some.inj ho
       clear ho
       have h7 : ls9 16 = false := by
        cases h9 : ls9 16 with
        | false => rfl
        | true => exact absurd (hl.symm.trans (DL2 12 11 rfl (DL2 13 12 rfl (DL2 16 13 rfl h9)))) (by decide)
       have hM1 := hM.1 h7
       have hX := wkB.fr hX hM1 id
       have hw30 := wkB.fr hw30 hM1 id
       exact ⟨fun _ => valx rfl (run_index65 (i := n) rfl (D 10 _ rfl rfl) (D 9 _ rfl rfl) hlt) rfl ⟨fun _ => hM1, fun h => absurd (h7.symm.trans h) (by decide)⟩, fun h => by rw [w_yes (g := 7) (s := 31) (b := false) E rfl rfl (by decide) (D 7 _ rfl rfl)] at h; cases h⟩
      | 12, ho, hl, D, DL, hB =>
       obtain rfl := Option.some.inj ho
       clear ho
       have h7 : ls9 16 = false := by
        cases h9 : ls9 16 with
        | false => rfl
        | true => exact absurd (hl.symm.trans (DL2 13 12 rfl (DL2 16 13 rfl h9))) (by decide)
       have hM1 := hM.1 h7
       have hX := wkB.fr hX hM1 id
       have hw30 := wkB.fr hw30 hM1 id
       exact ⟨fun _ => valx rfl (run_ldb rfl (D 11 _ rfl rfl) (hw30.at hlt)) rfl ⟨fun _ => hM1, fun h => absurd (h7.symm.trans h) (by decide)⟩, fun h => by rw [w_yes (g := 7) (s := 31) (b := false) E rfl rfl (by decide) (D 7 _ rfl rfl)] at h; cases h⟩
      | 13, ho, hl, D, DL, hB =>
       obtain rfl := Option.some.inj ho
       clear ho
       have h7 : ls9 16 = false := by
        cases h9 : ls9 16 with
        | false => rfl
        | true => exact absurd (hl.symm.trans (DL2 16 13 rfl h9)) (by decide)
       have hM1 := hM.1 h7
       have hX := wkB.fr hX hM1 id
       have hw30 := wkB.fr hw30 hM1 id
       exact ⟨fun _ => valx rfl (run_pick_f rfl (D 7 _ rfl rfl) (D 12 _ rfl rfl)) rfl ⟨fun _ => hM1, fun h => absurd (h7.symm.trans h) (by decide)⟩, fun h => by rw [wanted_none rfl] at h; cases h⟩
      | 14, ho, hl, D, DL, hB =>
       obtain rfl := Option.some.inj ho
       clear ho
       have h7 : ls9 16 = false := by
        cases h9 : ls9 16 with
        | false => rfl
        | true => exact absurd (hl.symm.trans (DL2 15 14 rfl (DL2 16 15 rfl h9))) (by decide)
       have hM1 := hM.1 h7
       have hX := wkB.fr hX hM1 id
       have hw30 := wkB.fr hw30 hM1 id
       exact ⟨fun _ => valx rfl (run_nilchk rfl (D 0 _ rfl rfl)) rfl ⟨fun _ => hM1, fun h => absurd (h7.symm.trans h) (by decide)⟩, fun h => by rw [wanted_none rfl] at h; cases h⟩
      | 15, ho, hl, D, DL, hB =>
       obtain rfl := Option.some.inj ho
       clear ho
       have h7 : ls9 16 = false := by
        cases h9 : ls9 16 with
        | false => rfl
        | true => exact absurd (hl.symm.trans (DL2 16 15 rfl h9)) (by decide)
       have hM1 := hM.1 h7
       have hX := wkB.fr hX hM1 id
       have hw30 := wkB.fr hw30 hM1 id
       exact ⟨fun _ => valx rfl (run_index65 (i := n) rfl (D 14 _ rfl rfl) (D 1 _ rfl rfl) hlt) rfl ⟨fun _ => hM1, fun h => absurd (h7.symm.trans h) (by decide)⟩, fun h => by rw [wanted_none rfl] at h; cases h⟩
      | 16, ho, hl, D, DL, hB =>
       obtain rfl := Option.some.inj ho
       clear ho
       have hM1 := hM.1 hl
       have hX := wkB.fr hX hM1 id
       have hw30 := wkB.fr hw30 hM1 id
       obtain ⟨⟨d1, d2⟩, d3, d4⟩ := hX.set hlt (mnB lb (n : Nat))
       exact ⟨fun _ => storex rfl (run_st4 rfl (D 15 _ rfl rfl) (D 13 _ rfl rfl) d1 d2) rfl ⟨fun h => by simp at h, fun _ => ⟨d3, ((hM1.mono (G := fun r => r = bw29) (fun _ _ h => h.elim)).trans d4 : Fr (fun r => r = bw29) _ _)⟩⟩, fun h => by rw [wanted_none rfl] at h; cases h⟩
      | j9 + 17, ho, hl, D, DL, hB => exact absurd ho (by simp)
     ·rintro _ a w5 E V hM
      clear V
      have hM := hM.2 rfl
      obtain ⟨hX2, f1⟩ := hM
      clear hM
      have hw30 := wkB.fr hw30 f1 (fun e => by (try simp only at e); omega)
      have hf := hf.trans' f1 (fun r hr => (fun e => by (try simp only at e); omega))
      clear f1
      replace hX := hX2
      have htn : tx n = mnB la n := hT2 n (Nat.le_refl _)
      rw [hq33] at htn
      have hT1n : ∀ k : Nat, k < n + 1 → (if k = n then (mnB lb (n : Nat)) else tx k) = (mnB la k || mnB lb k) := by
       intro k hk
       by_cases e : k = n
       ·subst e; rw [if_pos rfl, ← htn]; first | rfl | simp
       ·rw [if_neg e]; exact hT1 k (by omega)
      have hT2n : ∀ k : Nat, n + 1 ≤ k → (if k = n then (mnB lb (n : Nat)) else tx k) = mnB la k := by
       intro k hk
       rw [if_neg (by omega)]; exact hT2 k (by omega)
      refine blk_n ?_
      refine then_n ?_
      refine wp_region_lit ?_
      refine ep (v := .int .i64 (n : Int)) E (run_move rfl (E.get 2 rfl)) fun a E => ?_
      refine ep (v := .int .i64 ((n : Int) + 1)) E (run_iadd Tryz.underlying3 (E.get 0 rfl) rfl (by omega) (by omega) rfl) fun a E => ?_
      refine env_set (d := 7) (v := .int .i64 ((n : Int) + 1)) E rfl (by decide) (wanted_none rfl _) (run_assign rfl (E.get 0 rfl)) fun a E => ?_
      refine wpList_nil ?_
      refine then_n ?_
      refine ⟨⟨n + 1, _, E.of ⟨E.get 0 rfl, E.get 5 rfl, E.get 6 rfl, trivial⟩, by omega, hX, hT1n, hT2n, hw30, hf⟩, ?_⟩
      ·rw [E.get 0 rfl]; simp only [intOf]; omega
    | true =>
     refine wp_region_invx (G := Unit) () (n := 42) (base := [(21, .bool true), (20, .int .i64 (n : Int)), (7, .int .i64 (n : Int)), (5, .pointer (some ⟨bw29, 0, none⟩)), (6, .pointer (some ⟨bw30, 0, none⟩))]) (U := []) (T := fun γ => [some (24, .pointer (some ⟨bw29, 0, none⟩)), some (25, .int .i64 (n : Int)), some (26, .pointer (some ⟨bw29, 0, none⟩)), some (27, .int .i64 (n : Int)), some (28, .pointer (some ⟨bw29, 0, none⟩)), some (29, .pointer (some ⟨bw29, (0 + n), none⟩)), some (30, .bool true), some (31, .bool true), some (32, undef), some (33, undef), some (34, undef), some (35, undef), some (36, undef), some (37, .bool true), some (38, .pointer (some ⟨bw29, 0, none⟩)), some (39, .pointer (some ⟨bw29, (0 + n), none⟩)), none]) (M := fun γ ls9 wm => (ls9 16 = false → Fr (fun _ => False) w2 wm) ∧ (ls9 16 = true → wkB wm bw29 (fun i => if i = n then true else tx i) ∧ Fr (fun r => r = bw29) w2 wm)) (by kernel_rfl) (by kernel_rfl) (fun _ => by kernel_rfl) (E.of ⟨E.get 0 rfl, E.get 1 rfl, E.get 2 rfl, E.get 3 rfl, E.get 4 rfl, trivial⟩) (fun x hx => by cases hx) ⟨fun _ => (Fr.refl _ _).drew, fun h => absurd h Bool.false_ne_true⟩ ?_ ?_
     ·intro j9 o9 γ ls9 a w5 ho hl E D DL DL2 hB hM
      match j9, ho, hl, D, DL, hB with
      | 0, ho, hl, D, DL, hB =>
       obtain rfl := Option.some.inj ho
       clear ho
       have h7 : ls9 16 = false := by
        cases h9 : ls9 16 with
        | false => rfl
        | true => exact absurd (hl.symm.trans (DL2 14 0 rfl (DL2 15 14 rfl (DL2 16 15 rfl h9)))) (by decide)
       have hM1 := hM.1 h7
       have hX := wkB.fr hX hM1 id
       have hw30 := wkB.fr hw30 hM1 id
       exact ⟨fun _ => valx rfl (run_move rfl (E.get 3 rfl)) rfl ⟨fun _ => hM1, fun h => absurd (h7.symm.trans h) (by decide)⟩, fun h => by rw [wanted_none rfl] at h; cases h⟩
      | 1, ho, hl, D, DL, hB =>
       obtain rfl := Option.some.inj ho
       clear ho
       have h7 : ls9 16 = false := by
        cases h9 : ls9 16 with
        | false => rfl
        | true => exact absurd (hl.symm.trans (DL2 15 1 rfl (DL2 16 15 rfl h9))) (by decide)
       have hM1 := hM.1 h7
       have hX := wkB.fr hX hM1 id
       have hw30 := wkB.fr hw30 hM1 id
       exact ⟨fun _ => valx rfl (run_move rfl (E.get 2 rfl)) rfl ⟨fun _ => hM1, fun h => absurd (h7.symm.trans h) (by decide)⟩, fun h => by rw [wanted_none rfl] at h; cases h⟩
      | 2, ho, hl, D, DL, hB =>
       obtain rfl := Option.some.inj ho
       clear ho
       have h7 : ls9 16 = false := by
        cases h9 : ls9 16 with
        | false => rfl
        | true => exact absurd (hl.symm.trans (DL2 4 2 rfl (DL2 5 4 rfl (DL2 6 5 rfl (DL2 7 6 rfl (DL2 13 7 rfl (DL2 16 13 rfl h9))))))) (by decide)
       have hM1 := hM.1 h7
       have hX := wkB.fr hX hM1 id
       have hw30 := wkB.fr hw30 hM1 id
       exact ⟨fun _ => valx rfl (run_move rfl (E.get 3 rfl)) rfl ⟨fun _ => hM1, fun h => absurd (h7.symm.trans h) (by decide)⟩, fun h => by rw [wanted_none rfl] at h; cases h⟩
      | 3, ho, hl, D, DL, hB =>
       obtain rfl := Option.some.inj ho
       clear ho
       have h7 : ls9 16 = false := by
        cases h9 : ls9 16 with
        | false => rfl
        | true => exact absurd (hl.symm.trans (DL2 5 3 rfl (DL2 6 5 rfl (DL2 7 6 rfl (DL2 13 7 rfl (DL2 16 13 rfl h9)))))) (by decide)
       have hM1 := hM.1 h7
       have hX := wkB.fr hX hM1 id
       have hw30 := wkB.fr hw30 hM1 id
       exact ⟨fun _ => valx rfl (run_move rfl (E.get 2 rfl)) rfl ⟨fun _ => hM1, fun h => absurd (h7.symm.trans h) (by decide)⟩, fun h => by rw [wanted_none rfl] at h; cases h⟩
      | 4, ho, hl, D, DL, hB =>
       obtain rfl := Option.some.inj ho
       clear ho
       have h7 : ls9 16 = false := by
        cases h9 : ls9 16 with
        | false => rfl
        | true => exact absurd (hl.symm.trans (DL2 5 4 rfl (DL2 6 5 rfl (DL2 7 6 rfl (DL2 13 7 rfl (DL2 16 13 rfl h9)))))) (by decide)
       have hM1 := hM.1 h7
       have hX := wkB.fr hX hM1 id
       have hw30 := wkB.fr hw30 hM1 id
       exact ⟨fun _ => valx rfl (run_nilchk rfl (D 2 _ rfl rfl)) rfl ⟨fun _ => hM1, fun h => absurd (h7.symm.trans h) (by decide)⟩, fun h => by rw [wanted_none rfl] at h; cases h⟩
      | 5, ho, hl, D, DL, hB =>
       obtain rfl := Option.some.inj ho
       clear ho
       have h7 : ls9 16 = false := by
        cases h9 : ls9 16 with
        | false => rfl
        | true => exact absurd (hl.symm.trans (DL2 6 5 rfl (DL2 7 6 rfl (DL2 13 7 rfl (DL2 16 13 rfl h9))))) (by decide)
       have hM1 := hM.1 h7
       have hX := wkB.fr hX hM1 id
       have hw30 := wkB.fr hw30 hM1 id
       exact ⟨fun _ => valx rfl (run_index65 (i := n) rfl (D 4 _ rfl rfl) (D 3 _ rfl rfl) hlt) rfl ⟨fun _ => hM1, fun h => absurd (h7.symm.trans h) (by decide)⟩, fun h => by rw [wanted_none rfl] at h; cases h⟩
      | 6, ho, hl, D, DL, hB =>
       obtain rfl := Option.some.inj ho
       clear ho
       have h7 : ls9 16 = false := by
        cases h9 : ls9 16 with
        | false => rfl
        | true => exact absurd (hl.symm.trans (DL2 7 6 rfl (DL2 13 7 rfl (DL2 16 13 rfl h9)))) (by decide)
       have hM1 := hM.1 h7
       have hX := wkB.fr hX hM1 id
       have hw30 := wkB.fr hw30 hM1 id
       exact ⟨fun _ => valx rfl ((run_ldb rfl (D 5 _ rfl rfl) (hX.at hlt)).trans (by rw [hq33] <;> rfl)) rfl ⟨fun _ => hM1, fun h => absurd (h7.symm.trans h) (by decide)⟩, fun h => by rw [wanted_none rfl] at h; cases h⟩
      | 7, ho, hl, D, DL, hB =>
       obtain rfl := Option.some.inj ho
       clear ho
       have h7 : ls9 16 = false := by
        cases h9 : ls9 16 with
        | false => rfl
        | true => exact absurd (hl.symm.trans (DL2 13 7 rfl (DL2 16 13 rfl h9))) (by decide)
       have hM1 := hM.1 h7
       have hX := wkB.fr hX hM1 id
       have hw30 := wkB.fr hw30 hM1 id
       exact ⟨fun _ => valx rfl (run_move rfl (D 6 _ rfl rfl)) rfl ⟨fun _ => hM1, fun h => absurd (h7.symm.trans h) (by decide)⟩, fun h => by rw [wanted_none rfl] at h; cases h⟩
      | 8, ho, hl, D, DL, hB =>
       obtain rfl := Option.some.inj ho
       clear ho
       have h7 : ls9 16 = false := by
        cases h9 : ls9 16 with
        | false => rfl
        | true => exact absurd (hl.symm.trans (DL2 10 8 rfl (DL2 11 10 rfl (DL2 12 11 rfl (DL2 13 12 rfl (DL2 16 13 rfl h9)))))) (by decide)
       have hM1 := hM.1 h7
       have hX := wkB.fr hX hM1 id
       have hw30 := wkB.fr hw30 hM1 id
       exact ⟨fun h => (by rw [w_no (g := 7) (s := 31) (b := false) E rfl rfl (by decide) (D 7 _ rfl rfl)] at h; cases h), fun _ => ⟨fun x hx => by cases hx; rfl, ⟨fun _ => hM1, fun h => absurd (h7.symm.trans h) (by decide)⟩⟩⟩
      | 9, ho, hl, D, DL, hB =>
       obtain rfl := Option.some.inj ho
       clear ho
       have h7 : ls9 16 = false := by
        cases h9 : ls9 16 with
        | false => rfl
        | true => exact absurd (hl.symm.trans (DL2 11 9 rfl (DL2 12 11 rfl (DL2 13 12 rfl (DL2 16 13 rfl h9))))) (by decide)
       have hM1 := hM.1 h7
       have hX := wkB.fr hX hM1 id
       have hw30 := wkB.fr hw30 hM1 id
       exact ⟨fun h => (by rw [w_no (g := 7) (s := 31) (b := false) E rfl rfl (by decide) (D 7 _ rfl rfl)] at h; cases h), fun _ => ⟨fun x hx => by cases hx; rfl, ⟨fun _ => hM1, fun h => absurd (h7.symm.trans h) (by decide)⟩⟩⟩
      | 10, ho, hl, D, DL, hB =>
       obtain rfl := Option.some.inj ho
       clear ho
       have h7 : ls9 16 = false := by
        cases h9 : ls9 16 with
        | false => rfl
        | true => exact absurd (hl.symm.trans (DL2 11 10 rfl (DL2 12 11 rfl (DL2 13 12 rfl (DL2 16 13 rfl h9))))) (by decide)
       have hM1 := hM.1 h7
       have hX := wkB.fr hX hM1 id
       have hw30 := wkB.fr hw30 hM1 id
       exact ⟨fun h => (by rw [w_no (g := 7) (s := 31) (b := false) E rfl rfl (by decide) (D 7 _ rfl rfl)] at h; cases h), fun _ => ⟨fun x hx => by cases hx; rfl, ⟨fun _ => hM1, fun h => absurd (h7.symm.trans h) (by decide)⟩⟩⟩
      | 11, ho, hl, D, DL, hB =>
       obtain rfl := Option.some.inj ho
       clear ho
       have h7 : ls9 16 = false := by
        cases h9 : ls9 16 with
        | false => rfl
        | true => exact absurd (hl.symm.trans (DL2 12 11 rfl (DL2 13 12 rfl (DL2 16 13 rfl h9)))) (by decide)
       have hM1 := hM.1 h7
       have hX := wkB.fr hX hM1 id
       have hw30 := wkB.fr hw30 hM1 id
       exact ⟨fun h => (by rw [w_no (g := 7) (s := 31) (b := false) E rfl rfl (by decide) (D 7 _ rfl rfl)] at h; cases h), fun _ => ⟨fun x hx => by cases hx; rfl, ⟨fun _ => hM1, fun h => absurd (h7.symm.trans h) (by decide)⟩⟩⟩
      | 12, ho, hl, D, DL, hB =>
       obtain rfl := Option.some.inj ho
       clear ho
       have h7 : ls9 16 = false := by
        cases h9 : ls9 16 with
        | false => rfl
        | true => exact absurd (hl.symm.trans (DL2 13 12 rfl (DL2 16 13 rfl h9))) (by decide)
       have hM1 := hM.1 h7
       have hX := wkB.fr hX hM1 id
       have hw30 := wkB.fr hw30 hM1 id
       exact ⟨fun h => (by rw [w_no (g := 7) (s := 31) (b := false) E rfl rfl (by decide) (D 7 _ rfl rfl)] at h; cases h), fun _ => ⟨fun x hx => by cases hx; rfl, ⟨fun _ => hM1, fun h => absurd (h7.symm.trans h) (by decide)⟩⟩⟩
      | 13, ho, hl, D, DL, hB =>
       obtain rfl := Option.some.inj ho
       clear ho
       have h7 : ls9 16 = false := by
        cases h9 : ls9 16 with
        | false => rfl
        | true => exact absurd (hl.symm.trans (DL2 16 13 rfl h9)) (by decide)
       have hM1 := hM.1 h7
       have hX := wkB.fr hX hM1 id
       have hw30 := wkB.fr hw30 hM1 id
       exact ⟨fun _ => valx rfl (run_pick_t rfl (D 7 _ rfl rfl) rfl) rfl ⟨fun _ => hM1, fun h => absurd (h7.symm.trans h) (by decide)⟩, fun h => by rw [wanted_none rfl] at h; cases h⟩
      | 14, ho, hl, D, DL, hB =>
       obtain rfl := Option.some.inj ho
       clear ho
       have h7 : ls9 16 = false := by
        cases h9 : ls9 16 with
        | false => rfl
        | true => exact absurd (hl.symm.trans (DL2 15 14 rfl (DL2 16 15 rfl h9))) (by decide)
       have hM1 := hM.1 h7
       have hX := wkB.fr hX hM1 id
       have hw30 := wkB.fr hw30 hM1 id
       exact ⟨fun _ => valx rfl (run_nilchk rfl (D 0 _ rfl rfl)) rfl ⟨fun _ => hM1, fun h => absurd (h7.symm.trans h) (by decide)⟩, fun h => by rw [wanted_none rfl] at h; cases h⟩
      | 15, ho, hl, D, DL, hB =>
       obtain rfl := Option.some.inj ho
       clear ho
       have h7 : ls9 16 = false := by
        cases h9 : ls9 16 with
        | false => rfl
        | true => exact absurd (hl.symm.trans (DL2 16 15 rfl h9)) (by decide)
       have hM1 := hM.1 h7
       have hX := wkB.fr hX hM1 id
       have hw30 := wkB.fr hw30 hM1 id
       exact ⟨fun _ => valx rfl (run_index65 (i := n) rfl (D 14 _ rfl rfl) (D 1 _ rfl rfl) hlt) rfl ⟨fun _ => hM1, fun h => absurd (h7.symm.trans h) (by decide)⟩, fun h => by rw [wanted_none rfl] at h; cases h⟩
      | 16, ho, hl, D, DL, hB =>
       obtain rfl := Option.some.inj ho
       clear ho
       have hM1 := hM.1 hl
       have hX := wkB.fr hX hM1 id
       have hw30 := wkB.fr hw30 hM1 id
       obtain ⟨⟨d1, d2⟩, d3, d4⟩ := hX.set hlt true
       exact ⟨fun _ => storex rfl (run_st4 rfl (D 15 _ rfl rfl) (D 13 _ rfl rfl) d1 d2) rfl ⟨fun h => by simp at h, fun _ => ⟨d3, ((hM1.mono (G := fun r => r = bw29) (fun _ _ h => h.elim)).trans d4 : Fr (fun r => r = bw29) _ _)⟩⟩, fun h => by rw [wanted_none rfl] at h; cases h⟩
      | j9 + 17, ho, hl, D, DL, hB => exact absurd ho (by simp)
     ·rintro _ a w5 E V hM
      clear V
      have hM := hM.2 rfl
      obtain ⟨hX2, f1⟩ := hM
      clear hM
      have hw30 := wkB.fr hw30 f1 (fun e => by (try simp only at e); omega)
      have hf := hf.trans' f1 (fun r hr => (fun e => by (try simp only at e); omega))
      clear f1
      replace hX := hX2
      have htn : tx n = mnB la n := hT2 n (Nat.le_refl _)
      rw [hq33] at htn
      have hT1n : ∀ k : Nat, k < n + 1 → (if k = n then true else tx k) = (mnB la k || mnB lb k) := by
       intro k hk
       by_cases e : k = n
       ·subst e; rw [if_pos rfl, ← htn]; first | rfl | simp
       ·rw [if_neg e]; exact hT1 k (by omega)
      have hT2n : ∀ k : Nat, n + 1 ≤ k → (if k = n then true else tx k) = mnB la k := by
       intro k hk
       rw [if_neg (by omega)]; exact hT2 k (by omega)
      refine blk_n ?_
      refine then_n ?_
      refine wp_region_lit ?_
      refine ep (v := .int .i64 (n : Int)) E (run_move rfl (E.get 2 rfl)) fun a E => ?_
      refine ep (v := .int .i64 ((n : Int) + 1)) E (run_iadd Tryz.underlying3 (E.get 0 rfl) rfl (by omega) (by omega) rfl) fun a E => ?_
      refine env_set (d := 7) (v := .int .i64 ((n : Int) + 1)) E rfl (by decide) (wanted_none rfl _) (run_assign rfl (E.get 0 rfl)) fun a E => ?_
      refine wpList_nil ?_
      refine then_n ?_
      refine ⟨⟨n + 1, _, E.of ⟨E.get 0 rfl, E.get 5 rfl, E.get 6 rfl, trivial⟩, by omega, hX, hT1n, hT2n, hw30, hf⟩, ?_⟩
      ·rw [E.get 0 rfl]; simp only [intOf]; omega
end Go.Proofs.YtjaffpnegdcjnaaGreatDoor
