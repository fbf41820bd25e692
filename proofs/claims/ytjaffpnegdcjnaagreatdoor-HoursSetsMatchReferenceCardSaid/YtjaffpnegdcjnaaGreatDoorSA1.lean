/- Valid, few, Same. -/
import Derived.Test.YtjaffpnegdcjnaaGreatDoorSTy
set_option linter.unusedVariables false
set_option linter.unusedSimpArgs false
namespace Go.Proofs.YtjaffpnegdcjnaaGreatDoor
open Go.RowKit Go.Pl
theorem vl_go {l : List Sp} {i : Nat} {y : Sp} (hy : l[i]? = some y) {lo : Int} : vl lo (l.drop i) = (decide (lo < y.1) && decide (y.1 < y.2) && decide (y.2 ≤ 10080) && vl y.2 (l.drop (i + 1))) := by
 have hi := (List.getElem?_eq_some_iff.1 hy).1
 rw [List.drop_eq_getElem_cons hi, (List.getElem?_eq_some_iff.1 hy).2]; rfl
set_option maxRecDepth 100000 in
set_option maxHeartbeats 4000000 in
theorem valid_calls {w : World} {v : Value} {l : List Sp} (hl : SpV w v l) : Calls Tryz.prog 18 #[v] w fun e w' => e = .returned (.bool (vl (-1) l)) ∧ Fr (fun _ => False) w w' := by
 obtain ⟨p0, cp0, hvp0, hlep0, hcapp0, hsp0, hzp0⟩ := hl
 subst hvp0
 refine wp_start1 Tryz.func18 rfl rfl (n := 31) (by decide) fun a E => ?_
 have hf : Fr (fun _ => False) w w := Fr.refl _ _
 refine wp_seq ?_
 refine wp_region_lit ?_
 refine ep (v := .bool false) E (run_assign rfl rfl) fun a E => ?_
 refine wpList_nil ?_
 refine then_n ?_
 refine wp_seq ?_
 refine wp_region_lit ?_
 refine ep (v := .int .i64 (-1)) E (run_assign rfl rfl) fun a E => ?_
 refine wpList_nil ?_
 refine then_n ?_
 refine wp_seq ?_
 refine wp_seq ?_
 refine wp_region_lit ?_
 refine ep (v := .slice (p0) l.length cp0) E (run_move rfl (E.get 2 rfl)) fun a E => ?_
 refine ep (v := .int .i64 (l.length : Int)) E (run_len22 rfl (E.get 0 rfl)) fun a E => ?_
 refine ep (v := .int .i64 0) E (run_move rfl rfl) fun a E => ?_
 refine wpList_nil ?_
 refine then_n ?_
 refine wp_block ?_
 refine wp_loop (fun a w2 => ∃ (i : Nat) (lo : Int), Env 31 [(8, .int .i64 (i : Int)), (7, .int .i64 (l.length : Int)), (6, .slice (p0) l.length cp0), (3, .int .i64 lo)] a ∧ i ≤ l.length ∧ vl (-1) l = vl lo (l.drop i) ∧ srcAt spL 2 w2 w.heap.size p0 l ∧ Fr (fun _ => False) w w2) (fun a _ => l.length - (intOf (a.eval (.tmp 8))).toNat) ?_ ?_
 ·exact ⟨0, -1, E.of ⟨E.get 0 rfl, E.get 1 rfl, E.get 2 rfl, E.get 3 rfl, trivial⟩, Nat.zero_le _, rfl, hsp0, hf⟩
 clear E
 rintro a w2 ⟨i, lo, E, hi, hv, hsp0, hf⟩
 have hmu : l.length - (intOf (a.eval (.tmp 8))).toNat = l.length - i := by rw [E.get 0 rfl]; first | rfl | (simp [intOf]; done) | (simp only [intOf]; omega)
 rw [hmu]
 clear hmu
 refine wp_seq ?_
 refine wp_region_lit ?_
 refine ep (v := .bool (decide ((i : Int) < (l.length : Int)))) E (run_ilss (E.get 0 rfl) (E.get 1 rfl) Tryz.underlying3 rfl) fun a E => ?_
 refine wpList_nil ?_
 refine then_n ?_
 refine wp_seq ?_
 cases hq2 : (decide ((i : Int) < (l.length : Int))) with
 | false =>
  rw [hq2] at E
  have hie : i = l.length := by have := of_decide_eq_false hq2; omega
  refine wp_cond_false (E.get 0 rfl) ?_
  refine wp_exit ?_
  refine then_e ?_
  refine then_e ?_
  refine blk_e ?_
  refine then_n ?_
  refine wp_seq ?_
  refine wp_region_lit ?_
  refine ep (v := .bool true) E (run_assign rfl rfl) fun a E => ?_
  refine wpList_nil ?_
  refine then_n ?_
  refine wp_ret ?_
  refine ret_tmp (t := 2) rfl E (E.get 0 rfl) ⟨?_, hf⟩
  rw [hv, hie, List.drop_length]; rfl
 | true =>
  rw [hq2] at E
  have hlt : i < l.length := by have := of_decide_eq_true hq2; omega
  obtain ⟨y, hy⟩ : ∃ y, l[i]? = some y := ⟨_, List.getElem?_eq_getElem hlt⟩
  obtain ⟨g3, off3, hpe3, hgl3, hrow3⟩ := hsp0.at hlt
  replace hrow3 := hrow3 i y hy
  refine wp_cond_true (E.get 0 rfl) ?_
  refine wp_skip ?_
  refine then_n ?_
  refine wp_seq ?_
  refine wp_block ?_
  refine wp_seq ?_
  refine wp_region_lit ?_
  refine ep (v := .pointer (some ⟨g3, (off3 + i * 2), none⟩)) E (run_index22 (i := i) rfl ((E.get 3 rfl).trans (by rw [hpe3])) (E.get 1 rfl) hlt) fun a E => ?_
  refine ep (v := .agg (spA y)) E (run_ld48 rfl (E.get 0 rfl) hrow3) fun a E => ?_
  refine env_new (d := 5) E rfl (by decide) rfl (wanted_none rfl _) (run_alloc48 rfl) fun a w1 b4 eb4 hb4 f1 E => ?_
  have hnb4 : w.heap.size ≤ b4 := by have := hf.size; omega
  have hsp0 := srcAt.fr hsp0 f1 (fun r hr => id)
  have hrow3 := fun j u hu => f1.cell (hrow3 j u hu) id
  have hf := hf.trans f1
  clear f1
  refine env_st48 E rfl (wanted_none rfl _) rfl (E.get 0 rfl) (E.get 1 rfl) hb4 fun w1 hb4n f1 E => ?_
  have hsp0 := srcAt.fr hsp0 f1 (fun r hr => (fun e => by (try simp only at e); omega))
  have hrow3 := fun j u hu => f1.cell (hrow3 j u hu) (fun e => by (try simp only at e); omega)
  have hf := hf.trans' f1 (fun r hr => (fun e => by (try simp only at e); omega))
  clear f1
  replace hb4 := hb4n
  refine wpList_nil ?_
  refine then_n ?_
  refine wp_seq ?_
  refine wp_seq ?_
  refine wp_region_lit ?_
  refine ep (v := .pointer (some ⟨b4, 0, none⟩)) E (fa48_0 rfl (E.get 0 rfl)) fun a E => ?_
  refine ep (v := .int .i64 y.1) E (run_ldi rfl (E.get 0 rfl) (bx hb4 0 rfl)) fun a E => ?_
  refine ep (v := .int .i64 lo) E (run_move rfl (E.get 9 rfl)) fun a E => ?_
  refine ep (v := .bool (decide (y.1 ≤ lo))) E (run_ileq (E.get 1 rfl) (E.get 0 rfl) Tryz.underlying3 rfl) fun a E => ?_
  refine ep (v := .bool (decide (y.1 ≤ lo))) E (run_move rfl (E.get 0 rfl)) fun a E => ?_
  cases hq5 : (decide (y.1 ≤ lo)) with
  | false =>
   rw [hq5] at E
   refine eg (v := .pointer (some ⟨b4, 0, none⟩)) E (w_yes (g := 4) (s := 16) E rfl rfl (by decide) (E.get 0 rfl)) (fa48_0 rfl (E.get 5 rfl)) fun a E => ?_
   refine eg (v := .int .i64 y.1) E (w_yes (g := 4) (s := 16) E rfl rfl (by decide) (E.get 1 rfl)) (run_ldi rfl (E.get 0 rfl) (bx hb4 0 rfl)) fun a E => ?_
   refine eg (v := .pointer (some ⟨b4, 1, none⟩)) E (w_yes (g := 4) (s := 16) E rfl rfl (by decide) (E.get 2 rfl)) (fa48_1 rfl (E.get 7 rfl)) fun a E => ?_
   refine eg (v := .int .i64 y.2) E (w_yes (g := 4) (s := 16) E rfl rfl (by decide) (E.get 3 rfl)) (run_ldi rfl (E.get 0 rfl) (bx hb4 1 rfl)) fun a E => ?_
   refine eg (v := .bool (decide (y.2 ≤ y.1))) E (w_yes (g := 4) (s := 16) E rfl rfl (by decide) (E.get 4 rfl)) (run_igeq (E.get 2 rfl) (E.get 0 rfl) Tryz.underlying3 rfl) fun a E => ?_
   refine ep (v := .bool (decide (y.2 ≤ y.1))) E (run_pick_f rfl (E.get 5 rfl) (E.get 0 rfl)) fun a E => ?_
   refine ep (v := .bool (decide (y.2 ≤ y.1))) E (run_move rfl (E.get 0 rfl)) fun a E => ?_
   cases hq6 : (decide (y.2 ≤ y.1)) with
   | false =>
    rw [hq6] at E
    refine eg (v := .pointer (some ⟨b4, 1, none⟩)) E (w_yes (g := 11) (s := 23) E rfl rfl (by decide) (E.get 0 rfl)) (fa48_1 rfl (E.get 12 rfl)) fun a E => ?_
    refine eg (v := .int .i64 y.2) E (w_yes (g := 11) (s := 23) E rfl rfl (by decide) (E.get 1 rfl)) (run_ldi rfl (E.get 0 rfl) (bx hb4 1 rfl)) fun a E => ?_
    refine eg (v := .bool (decide (10080 < y.2))) E (w_yes (g := 11) (s := 23) E rfl rfl (by decide) (E.get 2 rfl)) (run_igtr (E.get 0 rfl) rfl Tryz.underlying3 rfl) fun a E => ?_
    refine ep (v := .bool (decide (10080 < y.2))) E (run_pick_f rfl (E.get 3 rfl) (E.get 0 rfl)) fun a E => ?_
    refine wpList_nil ?_
    refine then_n ?_
    cases hq7 : (decide (10080 < y.2)) with
    | false =>
     rw [hq7] at E
     refine wp_cond_false (E.get 0 rfl) ?_
     refine wp_skip ?_
     refine then_n ?_
     refine wp_region_lit ?_
     refine ep (v := .pointer (some ⟨b4, 1, none⟩)) E (fa48_1 rfl (E.get 16 rfl)) fun a E => ?_
     refine ep (v := .int .i64 y.2) E (run_ldi rfl (E.get 0 rfl) (bx hb4 1 rfl)) fun a E => ?_
     refine env_set (d := 3) (v := .int .i64 y.2) E rfl (by decide) (wanted_none rfl _) (run_assign rfl (E.get 0 rfl)) fun a E => ?_
     refine wpList_nil ?_
     refine blk_n ?_
     refine then_n ?_
     refine wp_region_lit ?_
     refine ep (v := .int .i64 ((i : Int) + 1)) E (run_iadd Tryz.underlying3 (E.get 23 rfl) rfl (by omega) (by omega) rfl) fun a E => ?_
     refine env_set (d := 8) (v := .int .i64 ((i : Int) + 1)) E rfl (by decide) (wanted_none rfl _) (run_move rfl (E.get 0 rfl)) fun a E => ?_
     refine wpList_nil ?_
     refine then_n ?_
     have qhq2 := of_decide_eq_true hq2
     have qhq5 := of_decide_eq_false hq5
     have qhq6 := of_decide_eq_false hq6
     have qhq7 := of_decide_eq_false hq7
     refine ⟨⟨i + 1, y.2, E.of ⟨E.get 0 rfl, E.get 25 rfl, E.get 26 rfl, E.get 2 rfl, trivial⟩, hlt, ?_, hsp0, hf⟩, ?_⟩
     ·rw [hv, vl_go hy, decide_eq_true (show lo < y.1 by omega), decide_eq_true (show y.1 < y.2 by omega), decide_eq_true (show y.2 ≤ 10080 by omega)]; rfl
     ·rw [E.get 0 rfl]; simp only [intOf]; omega
    | true =>
     rw [hq7] at E
     refine wp_cond_true (E.get 0 rfl) ?_
     refine wp_seq ?_
     refine wp_region_lit ?_
     refine ep (v := .bool false) E (run_assign rfl rfl) fun a E => ?_
     refine wpList_nil ?_
     refine then_n ?_
     refine wp_ret ?_
     refine then_r ?_
     refine blk_r ?_
     refine then_r ?_
     refine then_r ?_
     refine blk_r ?_
     refine then_r ?_
     refine ret_tmp (t := 2) rfl E (E.get 0 rfl) ⟨?_, hf⟩
     have qhq2 := of_decide_eq_true hq2
     have qhq5 := of_decide_eq_false hq5
     have qhq6 := of_decide_eq_false hq6
     have qhq7 := of_decide_eq_true hq7
     rw [hv, vl_go hy]
     have h9 : (decide (lo < y.1) && decide (y.1 < y.2) && decide (y.2 ≤ 10080)) = false := by
      rw [Bool.eq_false_iff]; intro h
      simp only [Bool.and_eq_true, decide_eq_true_eq] at h; omega
     rw [h9]; rfl
   | true =>
    rw [hq6] at E
    refine ek E rfl (E.get 0 rfl) fun a E => ?_
    refine ek E rfl (E.get 1 rfl) fun a E => ?_
    refine ek E rfl (E.get 2 rfl) fun a E => ?_
    refine ep (v := .bool true) E (run_pick_t rfl (E.get 3 rfl) rfl) fun a E => ?_
    refine wpList_nil ?_
    refine then_n ?_
    refine wp_cond_true (E.get 0 rfl) ?_
    refine wp_seq ?_
    refine wp_region_lit ?_
    refine ep (v := .bool false) E (run_assign rfl rfl) fun a E => ?_
    refine wpList_nil ?_
    refine then_n ?_
    refine wp_ret ?_
    refine then_r ?_
    refine blk_r ?_
    refine then_r ?_
    refine then_r ?_
    refine blk_r ?_
    refine then_r ?_
    refine ret_tmp (t := 2) rfl E (E.get 0 rfl) ⟨?_, hf⟩
    have qhq2 := of_decide_eq_true hq2
    have qhq5 := of_decide_eq_false hq5
    have qhq6 := of_decide_eq_true hq6
    rw [hv, vl_go hy]
    have h9 : (decide (lo < y.1) && decide (y.1 < y.2) && decide (y.2 ≤ 10080)) = false := by
     rw [Bool.eq_false_iff]; intro h
     simp only [Bool.and_eq_true, decide_eq_true_eq] at h; omega
    rw [h9]; rfl
  | true =>
   rw [hq5] at E
   refine ek E rfl (E.get 0 rfl) fun a E => ?_
   refine ek E rfl (E.get 1 rfl) fun a E => ?_
   refine ek E rfl (E.get 2 rfl) fun a E => ?_
   refine ek E rfl (E.get 3 rfl) fun a E => ?_
   refine ek E rfl (E.get 4 rfl) fun a E => ?_
   refine ep (v := .bool true) E (run_pick_t rfl (E.get 5 rfl) rfl) fun a E => ?_
   refine ep (v := .bool true) E (run_move rfl (E.get 0 rfl)) fun a E => ?_
   refine ek E rfl (E.get 0 rfl) fun a E => ?_
   refine ek E rfl (E.get 1 rfl) fun a E => ?_
   refine ek E rfl (E.get 2 rfl) fun a E => ?_
   refine ep (v := .bool true) E (run_pick_t rfl (E.get 3 rfl) rfl) fun a E => ?_
   refine wpList_nil ?_
   refine then_n ?_
   refine wp_cond_true (E.get 0 rfl) ?_
   refine wp_seq ?_
   refine wp_region_lit ?_
   refine ep (v := .bool false) E (run_assign rfl rfl) fun a E => ?_
   refine wpList_nil ?_
   refine then_n ?_
   refine wp_ret ?_
   refine then_r ?_
   refine blk_r ?_
   refine then_r ?_
   refine then_r ?_
   refine blk_r ?_
   refine then_r ?_
   refine ret_tmp (t := 2) rfl E (E.get 0 rfl) ⟨?_, hf⟩
   have qhq2 := of_decide_eq_true hq2
   have qhq5 := of_decide_eq_true hq5
   rw [hv, vl_go hy]
   have h9 : (decide (lo < y.1) && decide (y.1 < y.2) && decide (y.2 ≤ 10080)) = false := by
    rw [Bool.eq_false_iff]; intro h
    simp only [Bool.and_eq_true, decide_eq_true_eq] at h; omega
   rw [h9]; rfl
/-- A slice in a cell. -/
abbrev Slv := Option Addr × Nat × Nat
def slL (x : Slv) : List Value := [.slice x.1 x.2.1 x.2.2]
abbrev SlV := Src slL 1
def fewB (l : List Slv) : Bool := l.all fun x => decide (x.2.1 ≤ 150)
theorem few_go {l : List Slv} {i : Nat} {y : Slv} (hy : l[i]? = some y) : fewB (l.drop i) = (decide (y.2.1 ≤ 150) && fewB (l.drop (i + 1))) := by
 have hi := (List.getElem?_eq_some_iff.1 hy).1
 rw [List.drop_eq_getElem_cons hi, (List.getElem?_eq_some_iff.1 hy).2]; rfl
set_option maxRecDepth 100000 in
set_option maxHeartbeats 4000000 in
theorem few_calls {w : World} {v : Value} {l : List Slv} (hl : SlV w v l) : Calls Tryz.prog 12 #[v] w fun e w' => e = .returned (.bool (fewB l)) ∧ Fr (fun _ => False) w w' := by
 obtain ⟨p0, cp0, hvp0, hlep0, hcapp0, hsp0, hzp0⟩ := hl
 subst hvp0
 refine wp_start1 Tryz.func12 rfl rfl (n := 16) (by decide) fun a E => ?_
 have hf : Fr (fun _ => False) w w := Fr.refl _ _
 refine wp_seq ?_
 refine wp_region_lit ?_
 refine ep (v := .bool false) E (run_assign rfl rfl) fun a E => ?_
 refine wpList_nil ?_
 refine then_n ?_
 refine wp_seq ?_
 refine wp_seq ?_
 refine wp_region_lit ?_
 refine ep (v := .int .i64 0) E (run_assign rfl rfl) fun a E => ?_
 refine wpList_nil ?_
 refine then_n ?_
 refine wp_block ?_
 refine wp_loop (fun a w2 => ∃ (i : Nat), Env 16 [(3, .int .i64 (i : Int)), (0, .slice (p0) l.length cp0)] a ∧ i ≤ l.length ∧ fewB l = fewB (l.drop i) ∧ srcAt slL 1 w2 w.heap.size p0 l ∧ Fr (fun _ => False) w w2) (fun a _ => l.length - (intOf (a.eval (.tmp 3))).toNat) ?_ ?_
 ·exact ⟨0, E.of ⟨E.get 0 rfl, E.get 2 rfl, trivial⟩, Nat.zero_le _, rfl, hsp0, hf⟩
 clear E
 rintro a w2 ⟨i, E, hi, hv, hsp0, hf⟩
 have hmu : l.length - (intOf (a.eval (.tmp 3))).toNat = l.length - i := by rw [E.get 0 rfl]; first | rfl | (simp [intOf]; done) | (simp only [intOf]; omega)
 rw [hmu]
 clear hmu
 refine wp_seq ?_
 refine wp_seq ?_
 refine wp_region_lit ?_
 refine ep (v := .int .i64 (i : Int)) E (run_move rfl (E.get 0 rfl)) fun a E => ?_
 refine ep (v := .slice (p0) l.length cp0) E (run_move rfl (E.get 2 rfl)) fun a E => ?_
 refine ep (v := .int .i64 (l.length : Int)) E (run_len52 rfl (E.get 0 rfl)) fun a E => ?_
 refine ep (v := .bool (decide ((i : Int) < (l.length : Int)))) E (run_ilss (E.get 2 rfl) (E.get 0 rfl) Tryz.underlying3 rfl) fun a E => ?_
 refine wpList_nil ?_
 refine then_n ?_
 cases hq9 : (decide ((i : Int) < (l.length : Int))) with
 | false =>
  rw [hq9] at E
  have hie : i = l.length := by have := of_decide_eq_false hq9; omega
  refine wp_cond_false (E.get 0 rfl) ?_
  refine wp_exit ?_
  refine then_e ?_
  refine then_e ?_
  refine blk_e ?_
  refine then_n ?_
  refine wp_seq ?_
  refine wp_region_lit ?_
  refine ep (v := .bool true) E (run_assign rfl rfl) fun a E => ?_
  refine wpList_nil ?_
  refine then_n ?_
  refine wp_ret ?_
  refine ret_tmp (t := 2) rfl E (E.get 0 rfl) ⟨?_, hf⟩
  rw [hv, hie, List.drop_length]; rfl
 | true =>
  rw [hq9] at E
  have hlt : i < l.length := by have := of_decide_eq_true hq9; omega
  obtain ⟨y, hy⟩ : ∃ y, l[i]? = some y := ⟨_, List.getElem?_eq_getElem hlt⟩
  obtain ⟨g10, off10, hpe10, hgl10, hrow10⟩ := hsp0.at hlt
  replace hrow10 := hrow10 i y hy
  refine wp_cond_true (E.get 0 rfl) ?_
  refine wp_skip ?_
  refine then_n ?_
  refine wp_seq ?_
  refine wp_block ?_
  refine wp_seq ?_
  refine wp_region_lit ?_
  refine ep (v := .slice (p0) l.length cp0) E (run_move rfl (E.get 5 rfl)) fun a E => ?_
  refine ep (v := .int .i64 (i : Int)) E (run_move rfl (E.get 5 rfl)) fun a E => ?_
  refine ep (v := .pointer (some ⟨g10, (off10 + i), none⟩)) E (run_index52 (i := i) rfl ((E.get 1 rfl).trans (by rw [hpe10])) (E.get 0 rfl) hlt) fun a E => ?_
  refine ep (v := .slice (y.1) y.2.1 y.2.2) E (run_ld22 rfl (E.get 0 rfl) (by have := hrow10 0 _ rfl; rwa [Nat.mul_one] at this)) fun a E => ?_
  refine ep (v := .int .i64 (y.2.1 : Int)) E (run_len22 rfl (E.get 0 rfl)) fun a E => ?_
  refine ep (v := .bool (decide (150 < (y.2.1 : Int)))) E (run_igtr (E.get 0 rfl) rfl Tryz.underlying3 rfl) fun a E => ?_
  refine wpList_nil ?_
  refine then_n ?_
  cases hq11 : (decide (150 < (y.2.1 : Int))) with
  | false =>
   rw [hq11] at E
   refine wp_cond_false (E.get 0 rfl) ?_
   refine wp_skip ?_
   refine blk_n ?_
   refine then_n ?_
   refine wp_region_lit ?_
   refine ep (v := .int .i64 (i : Int)) E (run_move rfl (E.get 10 rfl)) fun a E => ?_
   refine ep (v := .int .i64 ((i : Int) + 1)) E (run_iadd Tryz.underlying3 (E.get 0 rfl) rfl (by omega) (by omega) rfl) fun a E => ?_
   refine env_set (d := 3) (v := .int .i64 ((i : Int) + 1)) E rfl (by decide) (wanted_none rfl _) (run_assign rfl (E.get 0 rfl)) fun a E => ?_
   refine wpList_nil ?_
   refine then_n ?_
   have qhq9 := of_decide_eq_true hq9
   have qhq11 := of_decide_eq_false hq11
   refine ⟨⟨i + 1, E.of ⟨E.get 0 rfl, E.get 13 rfl, trivial⟩, hlt, ?_, hsp0, hf⟩, ?_⟩
   ·rw [hv, few_go hy, decide_eq_true (show y.2.1 ≤ 150 by omega)]; rfl
   ·rw [E.get 0 rfl]; simp only [intOf]; omega
  | true =>
   rw [hq11] at E
   refine wp_cond_true (E.get 0 rfl) ?_
   refine wp_seq ?_
   refine wp_region_lit ?_
   refine ep (v := .bool false) E (run_assign rfl rfl) fun a E => ?_
   refine wpList_nil ?_
   refine then_n ?_
   refine wp_ret ?_
   refine blk_r ?_
   refine then_r ?_
   refine then_r ?_
   refine blk_r ?_
   refine then_r ?_
   refine ret_tmp (t := 2) rfl E (E.get 0 rfl) ⟨?_, hf⟩
   have qhq9 := of_decide_eq_true hq9
   have qhq11 := of_decide_eq_true hq11
   rw [hv, few_go hy, decide_eq_false (show ¬ y.2.1 ≤ 150 by omega)]; rfl
theorem same_go {l m : List Sp} {i : Nat} {y z : Sp} (hy : l[i]? = some y) (hz : m[i]? = some z) : (l.drop i == m.drop i) = ((y == z) && (l.drop (i + 1) == m.drop (i + 1))) := by
 have hi := (List.getElem?_eq_some_iff.1 hy).1
 have hj := (List.getElem?_eq_some_iff.1 hz).1
 rw [List.drop_eq_getElem_cons hi, (List.getElem?_eq_some_iff.1 hy).2, List.drop_eq_getElem_cons hj, (List.getElem?_eq_some_iff.1 hz).2]; rfl
set_option maxRecDepth 100000 in
set_option maxHeartbeats 4000000 in
theorem same_calls {w : World} {v u : Value} {l m : List Sp} (hl : SpV w v l) (hm : SpV w u m) : Calls Tryz.prog 17 #[v, u] w fun e w' => e = .returned (.bool (l == m)) ∧ Fr (fun _ => False) w w' := by
 obtain ⟨p0, cp0, hvp0, hlep0, hcapp0, hsp0, hzp0⟩ := hl
 subst hvp0
 obtain ⟨p1, cp1, hvp1, hlep1, hcapp1, hsp1, hzp1⟩ := hm
 subst hvp1
 refine wp_start2 Tryz.func17 rfl rfl (n := 26) (by decide) fun a E => ?_
 have hf : Fr (fun _ => False) w w := Fr.refl _ _
 refine wp_seq ?_
 refine wp_region_lit ?_
 refine ep (v := .bool false) E (run_assign rfl rfl) fun a E => ?_
 refine wpList_nil ?_
 refine then_n ?_
 refine wp_seq ?_
 refine wp_seq ?_
 refine wp_region_lit ?_
 refine ep (v := .slice (p0) l.length cp0) E (run_move rfl (E.get 1 rfl)) fun a E => ?_
 refine ep (v := .int .i64 (l.length : Int)) E (run_len22 rfl (E.get 0 rfl)) fun a E => ?_
 refine ep (v := .slice (p1) m.length cp1) E (run_move rfl (E.get 4 rfl)) fun a E => ?_
 refine ep (v := .int .i64 (m.length : Int)) E (run_len22 rfl (E.get 0 rfl)) fun a E => ?_
 refine ep (v := .bool ((l.length : Int) != (m.length : Int))) E (run_ineq (E.get 2 rfl) (E.get 0 rfl) Tryz.underlying3 rfl) fun a E => ?_
 refine wpList_nil ?_
 refine then_n ?_
 cases hq12 : ((l.length : Int) != (m.length : Int)) with
 | false =>
  rw [hq12] at E
  refine wp_cond_false (E.get 0 rfl) ?_
  refine wp_skip ?_
  refine then_n ?_
  refine wp_seq ?_
  refine wp_seq ?_
  refine wp_region_lit ?_
  refine ep (v := .int .i64 0) E (run_assign rfl rfl) fun a E => ?_
  refine wpList_nil ?_
  refine then_n ?_
  refine wp_block ?_
  have hlm : l.length = m.length := by simp only [bne_eq_false_iff_eq] at hq12; omega
  refine wp_loop (fun a w2 => ∃ (i : Nat), Env 26 [(5, .int .i64 (i : Int)), (0, .slice (p0) l.length cp0), (1, .slice (p1) m.length cp1)] a ∧ i ≤ l.length ∧ (l == m) = (l.drop i == m.drop i) ∧ srcAt spL 2 w2 w.heap.size p0 l ∧ srcAt spL 2 w2 w.heap.size p1 m ∧ Fr (fun _ => False) w w2) (fun a _ => l.length - (intOf (a.eval (.tmp 5))).toNat) ?_ ?_
  ·exact ⟨0, E.of ⟨E.get 0 rfl, E.get 7 rfl, E.get 8 rfl, trivial⟩, Nat.zero_le _, rfl, hsp0, hsp1, hf⟩
  clear E
  rintro a w2 ⟨i, E, hi, hv, hsp0, hsp1, hf⟩
  have hmu : l.length - (intOf (a.eval (.tmp 5))).toNat = l.length - i := by rw [E.get 0 rfl]; first | rfl | (simp [intOf]; done) | (simp only [intOf]; omega)
  rw [hmu]
  clear hmu
  refine wp_seq ?_
  refine wp_seq ?_
  refine wp_region_lit ?_
  refine ep (v := .int .i64 (i : Int)) E (run_move rfl (E.get 0 rfl)) fun a E => ?_
  refine ep (v := .slice (p0) l.length cp0) E (run_move rfl (E.get 2 rfl)) fun a E => ?_
  refine ep (v := .int .i64 (l.length : Int)) E (run_len22 rfl (E.get 0 rfl)) fun a E => ?_
  refine ep (v := .bool (decide ((i : Int) < (l.length : Int)))) E (run_ilss (E.get 2 rfl) (E.get 0 rfl) Tryz.underlying3 rfl) fun a E => ?_
  refine wpList_nil ?_
  refine then_n ?_
  cases hq14 : (decide ((i : Int) < (l.length : Int))) with
  | false =>
   rw [hq14] at E
   have hie : i = l.length := by have := of_decide_eq_false hq14; omega
   refine wp_cond_false (E.get 0 rfl) ?_
   refine wp_exit ?_
   refine then_e ?_
   refine then_e ?_
   refine blk_e ?_
   refine then_n ?_
   refine wp_seq ?_
   refine wp_region_lit ?_
   refine ep (v := .bool true) E (run_assign rfl rfl) fun a E => ?_
   refine wpList_nil ?_
   refine then_n ?_
   refine wp_ret ?_
   refine ret_tmp (t := 4) rfl E (E.get 0 rfl) ⟨?_, hf⟩
   rw [hv, hie, List.drop_length, hlm, List.drop_length]; rfl
  | true =>
   rw [hq14] at E
   have hlt : i < l.length := by have := of_decide_eq_true hq14; omega
   have hlt2 : i < m.length := by omega
   obtain ⟨y, hy⟩ : ∃ y, l[i]? = some y := ⟨_, List.getElem?_eq_getElem hlt⟩
   obtain ⟨g15, off15, hpe15, hgl15, hrow15⟩ := hsp0.at hlt
   replace hrow15 := hrow15 i y hy
   obtain ⟨z, hz⟩ : ∃ y, m[i]? = some y := ⟨_, List.getElem?_eq_getElem hlt2⟩
   obtain ⟨g16, off16, hpe16, hgl16, hrow16⟩ := hsp1.at hlt2
   replace hrow16 := hrow16 i z hz
   refine wp_cond_true (E.get 0 rfl) ?_
   refine wp_skip ?_
   refine then_n ?_
   refine wp_seq ?_
   refine wp_block ?_
   refine wp_seq ?_
   refine wp_region_inv (n := 26) (base := [(14, .bool true), (13, .int .i64 (l.length : Int)), (12, .slice (p0) l.length cp0), (11, .int .i64 (i : Int)), (5, .int .i64 (i : Int)), (0, .slice (p0) l.length cp0), (1, .slice (p1) m.length cp1)]) (T := [some (17, .slice (p0) l.length cp0), some (18, .int .i64 (i : Int)), some (19, .pointer (some ⟨g15, (off15 + i * 2), none⟩)), some (20, .agg (spA y)), some (21, .slice (p1) m.length cp1), some (22, .int .i64 (i : Int)), some (23, .pointer (some ⟨g16, (off16 + i * 2), none⟩)), some (24, .agg (spA z)), some (25, .bool (!(y == z)))]) (M := fun _ wm => Fr (fun _ => False) w2 wm) (by kernel_rfl) (by kernel_rfl) (by kernel_rfl) (E.of ⟨E.get 0 rfl, E.get 1 rfl, E.get 2 rfl, E.get 3 rfl, E.get 4 rfl, E.get 5 rfl, E.get 6 rfl, trivial⟩) (Fr.refl _ _).drew ?_ ?_
   ·intro j9 o9 t9 ls9 a w5 ho hT0 hl E D DL hM
    have hsp0 := srcAt.fr hsp0 hM (fun r hr => id)
    have hsp1 := srcAt.fr hsp1 hM (fun r hr => id)
    have hrow15 := fun j u hu => hM.cell (hrow15 j u hu) id
    have hrow16 := fun j u hu => hM.cell (hrow16 j u hu) id
    match j9, ho, hT0, hl, D, DL with
    | 0, ho, hT0, hl, D, DL =>
     obtain rfl := Option.some.inj ho
     obtain rfl := Option.some.inj hT0
     clear ho hT0
     exact val_wp (run_move rfl (E.get 5 rfl)) rfl hM
    | 1, ho, hT0, hl, D, DL =>
     obtain rfl := Option.some.inj ho
     obtain rfl := Option.some.inj hT0
     clear ho hT0
     exact val_wp (run_move rfl (E.get 4 rfl)) rfl hM
    | 2, ho, hT0, hl, D, DL =>
     obtain rfl := Option.some.inj ho
     obtain rfl := Option.some.inj hT0
     clear ho hT0
     exact val_wp (run_index22 (i := i) rfl ((D 0 _ rfl rfl).trans (by rw [hpe15])) (D 1 _ rfl rfl) hlt) rfl hM
    | 3, ho, hT0, hl, D, DL =>
     obtain rfl := Option.some.inj ho
     obtain rfl := Option.some.inj hT0
     clear ho hT0
     exact val_wp (run_ld48 rfl (D 2 _ rfl rfl) hrow15) rfl hM
    | 4, ho, hT0, hl, D, DL =>
     obtain rfl := Option.some.inj ho
     obtain rfl := Option.some.inj hT0
     clear ho hT0
     exact val_wp (run_move rfl (E.get 6 rfl)) rfl hM
    | 5, ho, hT0, hl, D, DL =>
     obtain rfl := Option.some.inj ho
     obtain rfl := Option.some.inj hT0
     clear ho hT0
     exact val_wp (run_move rfl (E.get 4 rfl)) rfl hM
    | 6, ho, hT0, hl, D, DL =>
     obtain rfl := Option.some.inj ho
     obtain rfl := Option.some.inj hT0
     clear ho hT0
     exact val_wp (run_index22 (i := i) rfl ((D 4 _ rfl rfl).trans (by rw [hpe16])) (D 5 _ rfl rfl) hlt2) rfl hM
    | 7, ho, hT0, hl, D, DL =>
     obtain rfl := Option.some.inj ho
     obtain rfl := Option.some.inj hT0
     clear ho hT0
     exact val_wp (run_ld48 rfl (D 6 _ rfl rfl) hrow16) rfl hM
    | 8, ho, hT0, hl, D, DL =>
     obtain rfl := Option.some.inj ho
     obtain rfl := Option.some.inj hT0
     clear ho hT0
     exact val_wp (run_spne (D 3 _ rfl rfl) (D 7 _ rfl rfl) rfl) rfl hM
    | j9 + 9, ho, hT0, hl, D, DL => exact absurd hT0 (by simp)
   ·intro a w5 E V hM
    have E := E.add (V 8 _ rfl)
    clear V
    have hsp0 := srcAt.fr hsp0 hM (fun r hr => id)
    have hsp1 := srcAt.fr hsp1 hM (fun r hr => id)
    have hrow15 := fun j u hu => hM.cell (hrow15 j u hu) id
    have hrow16 := fun j u hu => hM.cell (hrow16 j u hu) id
    have hf := hf.trans hM
    clear hM
    refine then_n ?_
    cases hq18 : (y == z) with
    | false =>
     rw [hq18] at E
     refine wp_cond_true (E.get 0 rfl) ?_
     refine wp_seq ?_
     refine wp_region_lit ?_
     refine ep (v := .bool false) E (run_assign rfl rfl) fun a E => ?_
     refine wpList_nil ?_
     refine then_n ?_
     refine wp_ret ?_
     refine blk_r ?_
     refine then_r ?_
     refine then_r ?_
     refine blk_r ?_
     refine then_r ?_
     refine ret_tmp (t := 4) rfl E (E.get 0 rfl) ⟨?_, hf⟩
     rw [hv, same_go hy hz, hq18]; rfl
    | true =>
     rw [hq18] at E
     refine wp_cond_false (E.get 0 rfl) ?_
     refine wp_skip ?_
     refine blk_n ?_
     refine then_n ?_
     refine wp_region_lit ?_
     refine ep (v := .int .i64 (i : Int)) E (run_move rfl (E.get 5 rfl)) fun a E => ?_
     refine ep (v := .int .i64 ((i : Int) + 1)) E (run_iadd Tryz.underlying3 (E.get 0 rfl) rfl (by omega) (by omega) rfl) fun a E => ?_
     refine env_set (d := 5) (v := .int .i64 ((i : Int) + 1)) E rfl (by decide) (wanted_none rfl _) (run_assign rfl (E.get 0 rfl)) fun a E => ?_
     refine wpList_nil ?_
     refine then_n ?_
     refine ⟨⟨i + 1, E.of ⟨E.get 0 rfl, E.get 8 rfl, E.get 9 rfl, trivial⟩, hlt, ?_, hsp0, hsp1, hf⟩, ?_⟩
     ·rw [hv, same_go hy hz, hq18]; rfl
     ·rw [E.get 0 rfl]; simp only [intOf]; omega
 | true =>
  rw [hq12] at E
  refine wp_cond_true (E.get 0 rfl) ?_
  refine wp_seq ?_
  refine wp_region_lit ?_
  refine env_set (d := 4) (v := .bool false) E rfl (by decide) (wanted_none rfl _) (run_assign rfl rfl) fun a E => ?_
  refine wpList_nil ?_
  refine then_n ?_
  refine wp_ret ?_
  refine then_r ?_
  refine ret_tmp (t := 4) rfl E (E.get 0 rfl) ⟨?_, hf⟩
  have qhq12 := hq12; simp only [beq_iff_eq, bne_iff_ne, beq_eq_false_iff_ne, bne_eq_false_iff_eq, ne_eq] at qhq12
  have h9 : (l == m) = false := by
   rw [beq_eq_false_iff_ne]; rintro rfl; omega
  rw [h9]
/-- Where the span ahead of an index ends. -/
def lastTo (l : List Sp) : Nat → Int
 | 0 => -1
 | i + 1 => (l[i]?.getD (0, 0)).2
theorem lastTo_of {l : List Sp} {i : Nat} {y : Sp} (hy : l[i]? = some y) : lastTo l (i + 1) = y.2 := by
 show (l[i]?.getD (0, 0)).2 = y.2
 rw [hy]; rfl
theorem lastTo_pred {l : List Sp} {i : Nat} {y : Sp} (h0 : 0 < i) (hy : l[i - 1]? = some y) : lastTo l i = y.2 := by
 obtain ⟨j, rfl⟩ : ∃ j, i = j + 1 := ⟨i - 1, by omega⟩
 exact lastTo_of (by simpa using hy)
set_option maxRecDepth 100000 in
set_option maxHeartbeats 4000000 in
theorem rvalid_calls {w : World} {v : Value} {l : List Sp} (hl : SpV w v l) : Calls Tryz.prog 19 #[v] w fun e w' => e = .returned (.bool (vl (-1) l)) ∧ Fr (fun _ => False) w w' := by
 obtain ⟨p0, cp0, hvp0, hlep0, hcapp0, hsp0, hzp0⟩ := hl
 subst hvp0
 refine wp_start1 Tryz.func19 rfl rfl (n := 55) (by decide) fun a E => ?_
 have hf : Fr (fun _ => False) w w := Fr.refl _ _
 refine wp_seq ?_
 refine wp_region_lit ?_
 refine ep (v := .bool false) E (run_assign rfl rfl) fun a E => ?_
 refine wpList_nil ?_
 refine then_n ?_
 refine wp_seq ?_
 refine wp_seq ?_
 refine wp_region_lit ?_
 refine ep (v := .int .i64 0) E (run_assign rfl rfl) fun a E => ?_
 refine wpList_nil ?_
 refine then_n ?_
 refine wp_block ?_
 refine wp_loop (fun a w2 => ∃ (i : Nat), Env 55 [(3, .int .i64 (i : Int)), (0, .slice (p0) l.length cp0)] a ∧ i ≤ l.length ∧ vl (-1) l = vl (lastTo l i) (l.drop i) ∧ -1 ≤ lastTo l i ∧ srcAt spL 2 w2 w.heap.size p0 l ∧ Fr (fun _ => False) w w2) (fun a _ => l.length - (intOf (a.eval (.tmp 3))).toNat) ?_ ?_
 ·exact ⟨0, E.of ⟨E.get 0 rfl, E.get 2 rfl, trivial⟩, Nat.zero_le _, rfl, Int.le_refl _, hsp0, hf⟩
 clear E
 rintro a w2 ⟨i, E, hi, hv, hge9, hsp0, hf⟩
 have hmu : l.length - (intOf (a.eval (.tmp 3))).toNat = l.length - i := by rw [E.get 0 rfl]; first | rfl | (simp [intOf]; done) | (simp only [intOf]; omega)
 rw [hmu]
 clear hmu
 refine wp_seq ?_
 refine wp_seq ?_
 refine wp_region_lit ?_
 refine ep (v := .int .i64 (i : Int)) E (run_move rfl (E.get 0 rfl)) fun a E => ?_
 refine ep (v := .slice (p0) l.length cp0) E (run_move rfl (E.get 2 rfl)) fun a E => ?_
 refine ep (v := .int .i64 (l.length : Int)) E (run_len22 rfl (E.get 0 rfl)) fun a E => ?_
 refine ep (v := .bool (decide ((i : Int) < (l.length : Int)))) E (run_ilss (E.get 2 rfl) (E.get 0 rfl) Tryz.underlying3 rfl) fun a E => ?_
 refine wpList_nil ?_
 refine then_n ?_
 cases hq20 : (decide ((i : Int) < (l.length : Int))) with
 | false =>
  rw [hq20] at E
  have hie : i = l.length := by have := of_decide_eq_false hq20; omega
  refine wp_cond_false (E.get 0 rfl) ?_
  refine wp_exit ?_
  refine then_e ?_
  refine then_e ?_
  refine blk_e ?_
  refine then_n ?_
  refine wp_seq ?_
  refine wp_region_lit ?_
  refine ep (v := .bool true) E (run_assign rfl rfl) fun a E => ?_
  refine wpList_nil ?_
  refine then_n ?_
  refine wp_ret ?_
  refine ret_tmp (t := 2) rfl E (E.get 0 rfl) ⟨?_, hf⟩
  rw [hv, hie, List.drop_length]; rfl
 | true =>
  rw [hq20] at E
  have hlt : i < l.length := by have := of_decide_eq_true hq20; omega
  obtain ⟨y, hy⟩ : ∃ y, l[i]? = some y := ⟨_, List.getElem?_eq_getElem hlt⟩
  obtain ⟨g21, off21, hpe21, hgl21, hrow21⟩ := hsp0.at hlt
  replace hrow21 := hrow21 i y hy
  refine wp_cond_true (E.get 0 rfl) ?_
  refine wp_skip ?_
  refine then_n ?_
  refine wp_seq ?_
  refine wp_block ?_
  refine wp_seq ?_
  cases hq22 : (decide (y.1 < 0)) with
  | false =>
   cases hq23 : (decide (y.2 ≤ y.1)) with
   | false =>
    cases hq24 : (decide (10080 < y.2)) with
    | false =>
     cases hq25 : (decide (0 < (i : Int))) with
     | false =>
      refine wp_region_invg (n := 55) (base := [(7, .bool true), (6, .int .i64 (l.length : Int)), (5, .slice (p0) l.length cp0), (4, .int .i64 (i : Int)), (3, .int .i64 (i : Int)), (0, .slice (p0) l.length cp0)]) (T := [some (10, .slice (p0) l.length cp0), some (11, .int .i64 (i : Int)), some (12, .pointer (some ⟨g21, (off21 + i * 2), none⟩)), some (13, .pointer (some ⟨g21, ((off21 + i * 2) + 0), none⟩)), some (14, .int .i64 y.1), some (15, .bool false), some (16, .bool false), some (17, .slice (p0) l.length cp0), some (18, .int .i64 (i : Int)), some (19, .pointer (some ⟨g21, (off21 + i * 2), none⟩)), some (20, .pointer (some ⟨g21, ((off21 + i * 2) + 0), none⟩)), some (21, .int .i64 y.1), some (22, .slice (p0) l.length cp0), some (23, .int .i64 (i : Int)), some (24, .pointer (some ⟨g21, (off21 + i * 2), none⟩)), some (25, .pointer (some ⟨g21, ((off21 + i * 2) + 1), none⟩)), some (26, .int .i64 y.2), some (27, .bool false), some (28, .bool false), some (29, .bool false), some (30, .slice (p0) l.length cp0), some (31, .int .i64 (i : Int)), some (32, .pointer (some ⟨g21, (off21 + i * 2), none⟩)), some (33, .pointer (some ⟨g21, ((off21 + i * 2) + 1), none⟩)), some (34, .int .i64 y.2), some (35, .bool false), some (36, .bool false), some (37, .bool false), some (38, .int .i64 (i : Int)), some (39, .bool false), some (40, .bool false), some (41, undef), some (42, undef), some (43, undef), some (44, undef), some (45, undef), some (46, undef), some (47, undef), some (48, undef), some (49, undef), some (50, undef), some (51, undef), some (52, undef), some (53, .bool false), some (54, .bool false)]) (M := fun _ wm => Fr (fun _ => False) w2 wm) (by kernel_rfl) (by kernel_rfl) (by kernel_rfl) (E.of ⟨E.get 0 rfl, E.get 1 rfl, E.get 2 rfl, E.get 3 rfl, E.get 4 rfl, E.get 5 rfl, trivial⟩) (Fr.refl _ _).drew ?_ ?_
      ·intro j9 o9 t9 ls9 a w5 ho hT0 hl E D DL hM
       have hsp0 := srcAt.fr hsp0 hM (fun r hr => id)
       have hrow21 := fun j u hu => hM.cell (hrow21 j u hu) id
       match j9, ho, hT0, hl, D, DL with
       | 0, ho, hT0, hl, D, DL =>
        obtain rfl := Option.some.inj ho
        obtain rfl := Option.some.inj hT0
        clear ho hT0
        exact ⟨fun _ => val_wp (run_move rfl (E.get 5 rfl)) rfl hM, fun h => by rw [wanted_none rfl] at h; cases h⟩
       | 1, ho, hT0, hl, D, DL =>
        obtain rfl := Option.some.inj ho
        obtain rfl := Option.some.inj hT0
        clear ho hT0
        exact ⟨fun _ => val_wp (run_move rfl (E.get 4 rfl)) rfl hM, fun h => by rw [wanted_none rfl] at h; cases h⟩
       | 2, ho, hT0, hl, D, DL =>
        obtain rfl := Option.some.inj ho
        obtain rfl := Option.some.inj hT0
        clear ho hT0
        exact ⟨fun _ => val_wp (run_index22 (i := i) rfl ((D 0 _ rfl rfl).trans (by rw [hpe21])) (D 1 _ rfl rfl) hlt) rfl hM, fun h => by rw [wanted_none rfl] at h; cases h⟩
       | 3, ho, hT0, hl, D, DL =>
        obtain rfl := Option.some.inj ho
        obtain rfl := Option.some.inj hT0
        clear ho hT0
        exact ⟨fun _ => val_wp (fa48_0 rfl (D 2 _ rfl rfl)) rfl hM, fun h => by rw [wanted_none rfl] at h; cases h⟩
       | 4, ho, hT0, hl, D, DL =>
        obtain rfl := Option.some.inj ho
        obtain rfl := Option.some.inj hT0
        clear ho hT0
        exact ⟨fun _ => val_wp (run_ldi rfl (D 3 _ rfl rfl) (hrow21 0 _ rfl)) rfl hM, fun h => by rw [wanted_none rfl] at h; cases h⟩
       | 5, ho, hT0, hl, D, DL =>
        obtain rfl := Option.some.inj ho
        obtain rfl := Option.some.inj hT0
        clear ho hT0
        exact ⟨fun _ => val_wp ((run_ilss (D 4 _ rfl rfl) rfl Tryz.underlying3 rfl).trans (by rw [hq22] <;> rfl)) rfl hM, fun h => by rw [wanted_none rfl] at h; cases h⟩
       | 6, ho, hT0, hl, D, DL =>
        obtain rfl := Option.some.inj ho
        obtain rfl := Option.some.inj hT0
        clear ho hT0
        exact ⟨fun _ => val_wp (run_move rfl (D 5 _ rfl rfl)) rfl hM, fun h => by rw [wanted_none rfl] at h; cases h⟩
       | 7, ho, hT0, hl, D, DL =>
        obtain rfl := Option.some.inj ho
        obtain rfl := Option.some.inj hT0
        clear ho hT0
        exact ⟨fun _ => val_wp (run_move rfl (E.get 5 rfl)) rfl hM, fun h => by rw [w_yes (g := 6) (s := 16) (b := false) E rfl rfl (by decide) (D 6 _ rfl rfl)] at h; cases h⟩
       | 8, ho, hT0, hl, D, DL =>
        obtain rfl := Option.some.inj ho
        obtain rfl := Option.some.inj hT0
        clear ho hT0
        exact ⟨fun _ => val_wp (run_move rfl (E.get 4 rfl)) rfl hM, fun h => by rw [w_yes (g := 6) (s := 16) (b := false) E rfl rfl (by decide) (D 6 _ rfl rfl)] at h; cases h⟩
       | 9, ho, hT0, hl, D, DL =>
        obtain rfl := Option.some.inj ho
        obtain rfl := Option.some.inj hT0
        clear ho hT0
        exact ⟨fun _ => val_wp (run_index22 (i := i) rfl ((D 7 _ rfl rfl).trans (by rw [hpe21])) (D 8 _ rfl rfl) hlt) rfl hM, fun h => by rw [w_yes (g := 6) (s := 16) (b := false) E rfl rfl (by decide) (D 6 _ rfl rfl)] at h; cases h⟩
       | 10, ho, hT0, hl, D, DL =>
        obtain rfl := Option.some.inj ho
        obtain rfl := Option.some.inj hT0
        clear ho hT0
        exact ⟨fun _ => val_wp (fa48_0 rfl (D 9 _ rfl rfl)) rfl hM, fun h => by rw [w_yes (g := 6) (s := 16) (b := false) E rfl rfl (by decide) (D 6 _ rfl rfl)] at h; cases h⟩
       | 11, ho, hT0, hl, D, DL =>
        obtain rfl := Option.some.inj ho
        obtain rfl := Option.some.inj hT0
        clear ho hT0
        exact ⟨fun _ => val_wp (run_ldi rfl (D 10 _ rfl rfl) (hrow21 0 _ rfl)) rfl hM, fun h => by rw [w_yes (g := 6) (s := 16) (b := false) E rfl rfl (by decide) (D 6 _ rfl rfl)] at h; cases h⟩
       | 12, ho, hT0, hl, D, DL =>
        obtain rfl := Option.some.inj ho
        obtain rfl := Option.some.inj hT0
        clear ho hT0
        exact ⟨fun _ => val_wp (run_move rfl (E.get 5 rfl)) rfl hM, fun h => by rw [w_yes (g := 6) (s := 16) (b := false) E rfl rfl (by decide) (D 6 _ rfl rfl)] at h; cases h⟩
       | 13, ho, hT0, hl, D, DL =>
        obtain rfl := Option.some.inj ho
        obtain rfl := Option.some.inj hT0
        clear ho hT0
        exact ⟨fun _ => val_wp (run_move rfl (E.get 4 rfl)) rfl hM, fun h => by rw [w_yes (g := 6) (s := 16) (b := false) E rfl rfl (by decide) (D 6 _ rfl rfl)] at h; cases h⟩
       | 14, ho, hT0, hl, D, DL =>
        obtain rfl := Option.some.inj ho
        obtain rfl := Option.some.inj hT0
        clear ho hT0
        exact ⟨fun _ => val_wp (run_index22 (i := i) rfl ((D 12 _ rfl rfl).trans (by rw [hpe21])) (D 13 _ rfl rfl) hlt) rfl hM, fun h => by rw [w_yes (g := 6) (s := 16) (b := false) E rfl rfl (by decide) (D 6 _ rfl rfl)] at h; cases h⟩
       | 15, ho, hT0, hl, D, DL =>
        obtain rfl := Option.some.inj ho
        obtain rfl := Option.some.inj hT0
        clear ho hT0
        exact ⟨fun _ => val_wp (fa48_1 rfl (D 14 _ rfl rfl)) rfl hM, fun h => by rw [w_yes (g := 6) (s := 16) (b := false) E rfl rfl (by decide) (D 6 _ rfl rfl)] at h; cases h⟩
       | 16, ho, hT0, hl, D, DL =>
        obtain rfl := Option.some.inj ho
        obtain rfl := Option.some.inj hT0
        clear ho hT0
        exact ⟨fun _ => val_wp (run_ldi rfl (D 15 _ rfl rfl) (hrow21 1 _ rfl)) rfl hM, fun h => by rw [w_yes (g := 6) (s := 16) (b := false) E rfl rfl (by decide) (D 6 _ rfl rfl)] at h; cases h⟩
       | 17, ho, hT0, hl, D, DL =>
        obtain rfl := Option.some.inj ho
        obtain rfl := Option.some.inj hT0
        clear ho hT0
        exact ⟨fun _ => val_wp ((run_igeq (D 11 _ rfl rfl) (D 16 _ rfl rfl) Tryz.underlying3 rfl).trans (by rw [hq23] <;> rfl)) rfl hM, fun h => by rw [w_yes (g := 6) (s := 16) (b := false) E rfl rfl (by decide) (D 6 _ rfl rfl)] at h; cases h⟩
       | 18, ho, hT0, hl, D, DL =>
        obtain rfl := Option.some.inj ho
        obtain rfl := Option.some.inj hT0
        clear ho hT0
        exact ⟨fun _ => val_wp (run_pick_f rfl (D 6 _ rfl rfl) (D 17 _ rfl rfl)) rfl hM, fun h => by rw [wanted_none rfl] at h; cases h⟩
       | 19, ho, hT0, hl, D, DL =>
        obtain rfl := Option.some.inj ho
        obtain rfl := Option.some.inj hT0
        clear ho hT0
        exact ⟨fun _ => val_wp (run_move rfl (D 18 _ rfl rfl)) rfl hM, fun h => by rw [wanted_none rfl] at h; cases h⟩
       | 20, ho, hT0, hl, D, DL =>
        obtain rfl := Option.some.inj ho
        obtain rfl := Option.some.inj hT0
        clear ho hT0
        exact ⟨fun _ => val_wp (run_move rfl (E.get 5 rfl)) rfl hM, fun h => by rw [w_yes (g := 19) (s := 29) (b := false) E rfl rfl (by decide) (D 19 _ rfl rfl)] at h; cases h⟩
       | 21, ho, hT0, hl, D, DL =>
        obtain rfl := Option.some.inj ho
        obtain rfl := Option.some.inj hT0
        clear ho hT0
        exact ⟨fun _ => val_wp (run_move rfl (E.get 4 rfl)) rfl hM, fun h => by rw [w_yes (g := 19) (s := 29) (b := false) E rfl rfl (by decide) (D 19 _ rfl rfl)] at h; cases h⟩
       | 22, ho, hT0, hl, D, DL =>
        obtain rfl := Option.some.inj ho
        obtain rfl := Option.some.inj hT0
        clear ho hT0
        exact ⟨fun _ => val_wp (run_index22 (i := i) rfl ((D 20 _ rfl rfl).trans (by rw [hpe21])) (D 21 _ rfl rfl) hlt) rfl hM, fun h => by rw [w_yes (g := 19) (s := 29) (b := false) E rfl rfl (by decide) (D 19 _ rfl rfl)] at h; cases h⟩
       | 23, ho, hT0, hl, D, DL =>
        obtain rfl := Option.some.inj ho
        obtain rfl := Option.some.inj hT0
        clear ho hT0
        exact ⟨fun _ => val_wp (fa48_1 rfl (D 22 _ rfl rfl)) rfl hM, fun h => by rw [w_yes (g := 19) (s := 29) (b := false) E rfl rfl (by decide) (D 19 _ rfl rfl)] at h; cases h⟩
       | 24, ho, hT0, hl, D, DL =>
        obtain rfl := Option.some.inj ho
        obtain rfl := Option.some.inj hT0
        clear ho hT0
        exact ⟨fun _ => val_wp (run_ldi rfl (D 23 _ rfl rfl) (hrow21 1 _ rfl)) rfl hM, fun h => by rw [w_yes (g := 19) (s := 29) (b := false) E rfl rfl (by decide) (D 19 _ rfl rfl)] at h; cases h⟩
       | 25, ho, hT0, hl, D, DL =>
        obtain rfl := Option.some.inj ho
        obtain rfl := Option.some.inj hT0
        clear ho hT0
        exact ⟨fun _ => val_wp ((run_igtr (D 24 _ rfl rfl) rfl Tryz.underlying3 rfl).trans (by rw [hq24] <;> rfl)) rfl hM, fun h => by rw [w_yes (g := 19) (s := 29) (b := false) E rfl rfl (by decide) (D 19 _ rfl rfl)] at h; cases h⟩
       | 26, ho, hT0, hl, D, DL =>
        obtain rfl := Option.some.inj ho
        obtain rfl := Option.some.inj hT0
        clear ho hT0
        exact ⟨fun _ => val_wp (run_pick_f rfl (D 19 _ rfl rfl) (D 25 _ rfl rfl)) rfl hM, fun h => by rw [wanted_none rfl] at h; cases h⟩
       | 27, ho, hT0, hl, D, DL =>
        obtain rfl := Option.some.inj ho
        obtain rfl := Option.some.inj hT0
        clear ho hT0
        exact ⟨fun _ => val_wp (run_move rfl (D 26 _ rfl rfl)) rfl hM, fun h => by rw [wanted_none rfl] at h; cases h⟩
       | 28, ho, hT0, hl, D, DL =>
        obtain rfl := Option.some.inj ho
        obtain rfl := Option.some.inj hT0
        clear ho hT0
        exact ⟨fun _ => val_wp (run_move rfl (E.get 4 rfl)) rfl hM, fun h => by rw [w_yes (g := 27) (s := 37) (b := false) E rfl rfl (by decide) (D 27 _ rfl rfl)] at h; cases h⟩
       | 29, ho, hT0, hl, D, DL =>
        obtain rfl := Option.some.inj ho
        obtain rfl := Option.some.inj hT0
        clear ho hT0
        exact ⟨fun _ => val_wp ((run_igtr (D 28 _ rfl rfl) rfl Tryz.underlying3 rfl).trans (by rw [hq25] <;> rfl)) rfl hM, fun h => by rw [w_yes (g := 27) (s := 37) (b := false) E rfl rfl (by decide) (D 27 _ rfl rfl)] at h; cases h⟩
       | 30, ho, hT0, hl, D, DL =>
        obtain rfl := Option.some.inj ho
        obtain rfl := Option.some.inj hT0
        clear ho hT0
        exact ⟨fun _ => val_wp (run_move rfl (D 29 _ rfl rfl)) rfl hM, fun h => by rw [w_yes (g := 27) (s := 37) (b := false) E rfl rfl (by decide) (D 27 _ rfl rfl)] at h; cases h⟩
       | 31, ho, hT0, hl, D, DL =>
        obtain rfl := Option.some.inj ho
        obtain rfl := Option.some.inj hT0
        clear ho hT0
        exact ⟨fun h => (by rw [w_no (g := 30) (s := 40) (b := true) E rfl rfl (by decide) (D 30 _ rfl rfl)] at h; cases h), fun _ => ⟨fun x hx => by cases hx; rfl, hM⟩⟩
       | 32, ho, hT0, hl, D, DL =>
        obtain rfl := Option.some.inj ho
        obtain rfl := Option.some.inj hT0
        clear ho hT0
        exact ⟨fun h => (by rw [w_no (g := 30) (s := 40) (b := true) E rfl rfl (by decide) (D 30 _ rfl rfl)] at h; cases h), fun _ => ⟨fun x hx => by cases hx; rfl, hM⟩⟩
       | 33, ho, hT0, hl, D, DL =>
        obtain rfl := Option.some.inj ho
        obtain rfl := Option.some.inj hT0
        clear ho hT0
        exact ⟨fun h => (by rw [w_no (g := 30) (s := 40) (b := true) E rfl rfl (by decide) (D 30 _ rfl rfl)] at h; cases h), fun _ => ⟨fun x hx => by cases hx; rfl, hM⟩⟩
       | 34, ho, hT0, hl, D, DL =>
        obtain rfl := Option.some.inj ho
        obtain rfl := Option.some.inj hT0
        clear ho hT0
        exact ⟨fun h => (by rw [w_no (g := 30) (s := 40) (b := true) E rfl rfl (by decide) (D 30 _ rfl rfl)] at h; cases h), fun _ => ⟨fun x hx => by cases hx; rfl, hM⟩⟩
       | 35, ho, hT0, hl, D, DL =>
        obtain rfl := Option.some.inj ho
        obtain rfl := Option.some.inj hT0
        clear ho hT0
        exact ⟨fun h => (by rw [w_no (g := 30) (s := 40) (b := true) E rfl rfl (by decide) (D 30 _ rfl rfl)] at h; cases h), fun _ => ⟨fun x hx => by cases hx; rfl, hM⟩⟩
       | 36, ho, hT0, hl, D, DL =>
        obtain rfl := Option.some.inj ho
        obtain rfl := Option.some.inj hT0
        clear ho hT0
        exact ⟨fun h => (by rw [w_no (g := 30) (s := 40) (b := true) E rfl rfl (by decide) (D 30 _ rfl rfl)] at h; cases h), fun _ => ⟨fun x hx => by cases hx; rfl, hM⟩⟩
       | 37, ho, hT0, hl, D, DL =>
        obtain rfl := Option.some.inj ho
        obtain rfl := Option.some.inj hT0
        clear ho hT0
        exact ⟨fun h => (by rw [w_no (g := 30) (s := 40) (b := true) E rfl rfl (by decide) (D 30 _ rfl rfl)] at h; cases h), fun _ => ⟨fun x hx => by cases hx; rfl, hM⟩⟩
       | 38, ho, hT0, hl, D, DL =>
        obtain rfl := Option.some.inj ho
        obtain rfl := Option.some.inj hT0
        clear ho hT0
        exact ⟨fun h => (by rw [w_no (g := 30) (s := 40) (b := true) E rfl rfl (by decide) (D 30 _ rfl rfl)] at h; cases h), fun _ => ⟨fun x hx => by cases hx; rfl, hM⟩⟩
       | 39, ho, hT0, hl, D, DL =>
        obtain rfl := Option.some.inj ho
        obtain rfl := Option.some.inj hT0
        clear ho hT0
        exact ⟨fun h => (by rw [w_no (g := 30) (s := 40) (b := true) E rfl rfl (by decide) (D 30 _ rfl rfl)] at h; cases h), fun _ => ⟨fun x hx => by cases hx; rfl, hM⟩⟩
       | 40, ho, hT0, hl, D, DL =>
        obtain rfl := Option.some.inj ho
        obtain rfl := Option.some.inj hT0
        clear ho hT0
        exact ⟨fun h => (by rw [w_no (g := 30) (s := 40) (b := true) E rfl rfl (by decide) (D 30 _ rfl rfl)] at h; cases h), fun _ => ⟨fun x hx => by cases hx; rfl, hM⟩⟩
       | 41, ho, hT0, hl, D, DL =>
        obtain rfl := Option.some.inj ho
        obtain rfl := Option.some.inj hT0
        clear ho hT0
        exact ⟨fun h => (by rw [w_no (g := 30) (s := 40) (b := true) E rfl rfl (by decide) (D 30 _ rfl rfl)] at h; cases h), fun _ => ⟨fun x hx => by cases hx; rfl, hM⟩⟩
       | 42, ho, hT0, hl, D, DL =>
        obtain rfl := Option.some.inj ho
        obtain rfl := Option.some.inj hT0
        clear ho hT0
        exact ⟨fun h => (by rw [w_no (g := 30) (s := 40) (b := true) E rfl rfl (by decide) (D 30 _ rfl rfl)] at h; cases h), fun _ => ⟨fun x hx => by cases hx; rfl, hM⟩⟩
       | 43, ho, hT0, hl, D, DL =>
        obtain rfl := Option.some.inj ho
        obtain rfl := Option.some.inj hT0
        clear ho hT0
        exact ⟨fun _ => val_wp (run_pick_f rfl (D 30 _ rfl rfl) rfl) rfl hM, fun h => by rw [w_yes (g := 27) (s := 37) (b := false) E rfl rfl (by decide) (D 27 _ rfl rfl)] at h; cases h⟩
       | 44, ho, hT0, hl, D, DL =>
        obtain rfl := Option.some.inj ho
        obtain rfl := Option.some.inj hT0
        clear ho hT0
        exact ⟨fun _ => val_wp (run_pick_f rfl (D 27 _ rfl rfl) (D 43 _ rfl rfl)) rfl hM, fun h => by rw [wanted_none rfl] at h; cases h⟩
       | j9 + 45, ho, hT0, hl, D, DL => exact absurd hT0 (by simp)
      ·intro a w5 E V hM
       have E := E.add (V 44 _ rfl)
       clear V
       have hsp0 := srcAt.fr hsp0 hM (fun r hr => id)
       have hrow21 := fun j u hu => hM.cell (hrow21 j u hu) id
       have hf := hf.trans hM
       clear hM
       refine then_n ?_
       refine wp_cond_false (E.get 0 rfl) ?_
       refine wp_skip ?_
       refine blk_n ?_
       refine then_n ?_
       refine wp_region_lit ?_
       refine ep (v := .int .i64 (i : Int)) E (run_move rfl (E.get 5 rfl)) fun a E => ?_
       refine ep (v := .int .i64 ((i : Int) + 1)) E (run_iadd Tryz.underlying3 (E.get 0 rfl) rfl (by omega) (by omega) rfl) fun a E => ?_
       refine env_set (d := 3) (v := .int .i64 ((i : Int) + 1)) E rfl (by decide) (wanted_none rfl _) (run_assign rfl (E.get 0 rfl)) fun a E => ?_
       refine wpList_nil ?_
       refine then_n ?_
       have qhq20 := of_decide_eq_true hq20
       have qhq22 := of_decide_eq_false hq22
       have qhq23 := of_decide_eq_false hq23
       have qhq24 := of_decide_eq_false hq24
       have qhq25 := of_decide_eq_false hq25
       have hlo : lastTo l i < y.1 := by
        have : i = 0 := by omega
        subst this; show (-1 : Int) < _; omega
       refine ⟨⟨i + 1, E.of ⟨E.get 0 rfl, E.get 8 rfl, trivial⟩, hlt, ?_, by rw [lastTo_of hy]; omega, hsp0, hf⟩, ?_⟩
       ·rw [hv, vl_go hy, lastTo_of hy, decide_eq_true hlo, decide_eq_true (show y.1 < y.2 by omega), decide_eq_true (show y.2 ≤ 10080 by omega)]; rfl
       ·rw [E.get 0 rfl]; simp only [intOf]; omega
     | true =>
      have h0 : 0 < i := by have := of_decide_eq_true hq25; omega
      have hlt1 : i - 1 < l.length := by omega
      have hpi : (i : Int) - 1 = ((i - 1 : Nat) : Int) := by omega
      obtain ⟨z, hz⟩ : ∃ y, l[(i - 1)]? = some y := ⟨_, List.getElem?_eq_getElem hlt1⟩
      obtain ⟨g27, off27, hpe27, hgl27, hrow27⟩ := hsp0.at hlt1
      replace hrow27 := hrow27 (i - 1) z hz
      refine wp_region_invg (n := 55) (base := [(7, .bool true), (6, .int .i64 (l.length : Int)), (5, .slice (p0) l.length cp0), (4, .int .i64 (i : Int)), (3, .int .i64 (i : Int)), (0, .slice (p0) l.length cp0)]) (T := [some (10, .slice (p0) l.length cp0), some (11, .int .i64 (i : Int)), some (12, .pointer (some ⟨g21, (off21 + i * 2), none⟩)), some (13, .pointer (some ⟨g21, ((off21 + i * 2) + 0), none⟩)), some (14, .int .i64 y.1), some (15, .bool false), some (16, .bool false), some (17, .slice (p0) l.length cp0), some (18, .int .i64 (i : Int)), some (19, .pointer (some ⟨g21, (off21 + i * 2), none⟩)), some (20, .pointer (some ⟨g21, ((off21 + i * 2) + 0), none⟩)), some (21, .int .i64 y.1), some (22, .slice (p0) l.length cp0), some (23, .int .i64 (i : Int)), some (24, .pointer (some ⟨g21, (off21 + i * 2), none⟩)), some (25, .pointer (some ⟨g21, ((off21 + i * 2) + 1), none⟩)), some (26, .int .i64 y.2), some (27, .bool false), some (28, .bool false), some (29, .bool false), some (30, .slice (p0) l.length cp0), some (31, .int .i64 (i : Int)), some (32, .pointer (some ⟨g21, (off21 + i * 2), none⟩)), some (33, .pointer (some ⟨g21, ((off21 + i * 2) + 1), none⟩)), some (34, .int .i64 y.2), some (35, .bool false), some (36, .bool false), some (37, .bool false), some (38, .int .i64 (i : Int)), some (39, .bool true), some (40, .bool true), some (41, .slice (p0) l.length cp0), some (42, .int .i64 (i : Int)), some (43, .int .i64 ((i : Int) - 1)), some (44, .pointer (some ⟨g27, (off27 + (i - 1) * 2), none⟩)), some (45, .pointer (some ⟨g27, ((off27 + (i - 1) * 2) + 1), none⟩)), some (46, .int .i64 z.2), some (47, .slice (p0) l.length cp0), some (48, .int .i64 (i : Int)), some (49, .pointer (some ⟨g21, (off21 + i * 2), none⟩)), some (50, .pointer (some ⟨g21, ((off21 + i * 2) + 0), none⟩)), some (51, .int .i64 y.1), some (52, .bool (decide (y.1 ≤ z.2))), some (53, .bool (decide (y.1 ≤ z.2))), some (54, .bool (decide (y.1 ≤ z.2)))]) (M := fun _ wm => Fr (fun _ => False) w2 wm) (by kernel_rfl) (by kernel_rfl) (by kernel_rfl) (E.of ⟨E.get 0 rfl, E.get 1 rfl, E.get 2 rfl, E.get 3 rfl, E.get 4 rfl, E.get 5 rfl, trivial⟩) (Fr.refl _ _).drew ?_ ?_
      ·intro j9 o9 t9 ls9 a w5 ho hT0 hl E D DL hM
       have hsp0 := srcAt.fr hsp0 hM (fun r hr => id)
       have hrow21 := fun j u hu => hM.cell (hrow21 j u hu) id
       have hrow27 := fun j u hu => hM.cell (hrow27 j u hu) id
       match j9, ho, hT0, hl, D, DL with
       | 0, ho, hT0, hl, D, DL =>
        obtain rfl := Option.some.inj ho
        obtain rfl := Option.some.inj hT0
        clear ho hT0
        exact ⟨fun _ => val_wp (run_move rfl (E.get 5 rfl)) rfl hM, fun h => by rw [wanted_none rfl] at h; cases h⟩
       | 1, ho, hT0, hl, D, DL =>
        obtain rfl := Option.some.inj ho
        obtain rfl := Option.some.inj hT0
        clear ho hT0
        exact ⟨fun _ => val_wp (run_move rfl (E.get 4 rfl)) rfl hM, fun h => by rw [wanted_none rfl] at h; cases h⟩
       | 2, ho, hT0, hl, D, DL =>
        obtain rfl := Option.some.inj ho
        obtain rfl := Option.some.inj hT0
        clear ho hT0
        exact ⟨fun _ => val_wp (run_index22 (i := i) rfl ((D 0 _ rfl rfl).trans (by rw [hpe21])) (D 1 _ rfl rfl) hlt) rfl hM, fun h => by rw [wanted_none rfl] at h; cases h⟩
       | 3, ho, hT0, hl, D, DL =>
        obtain rfl := Option.some.inj ho
        obtain rfl := Option.some.inj hT0
        clear ho hT0
        exact ⟨fun _ => val_wp (fa48_0 rfl (D 2 _ rfl rfl)) rfl hM, fun h => by rw [wanted_none rfl] at h; cases h⟩
       | 4, ho, hT0, hl, D, DL =>
        obtain rfl := Option.some.inj ho
        obtain rfl := Option.some.inj hT0
        clear ho hT0
        exact ⟨fun _ => val_wp (run_ldi rfl (D 3 _ rfl rfl) (hrow21 0 _ rfl)) rfl hM, fun h => by rw [wanted_none rfl] at h; cases h⟩
       | 5, ho, hT0, hl, D, DL =>
        obtain rfl := Option.some.inj ho
        obtain rfl := Option.some.inj hT0
        clear ho hT0
        exact ⟨fun _ => val_wp ((run_ilss (D 4 _ rfl rfl) rfl Tryz.underlying3 rfl).trans (by rw [hq22] <;> rfl)) rfl hM, fun h => by rw [wanted_none rfl] at h; cases h⟩
       | 6, ho, hT0, hl, D, DL =>
        obtain rfl := Option.some.inj ho
        obtain rfl := Option.some.inj hT0
        clear ho hT0
        exact ⟨fun _ => val_wp (run_move rfl (D 5 _ rfl rfl)) rfl hM, fun h => by rw [wanted_none rfl] at h; cases h⟩
       | 7, ho, hT0, hl, D, DL =>
        obtain rfl := Option.some.inj ho
        obtain rfl := Option.some.inj hT0
        clear ho hT0
        exact ⟨fun _ => val_wp (run_move rfl (E.get 5 rfl)) rfl hM, fun h => by rw [w_yes (g := 6) (s := 16) (b := false) E rfl rfl (by decide) (D 6 _ rfl rfl)] at h; cases h⟩
       | 8, ho, hT0, hl, D, DL =>
        obtain rfl := Option.some.inj ho
        obtain rfl := Option.some.inj hT0
        clear ho hT0
        exact ⟨fun _ => val_wp (run_move rfl (E.get 4 rfl)) rfl hM, fun h => by rw [w_yes (g := 6) (s := 16) (b := false) E rfl rfl (by decide) (D 6 _ rfl rfl)] at h; cases h⟩
       | 9, ho, hT0, hl, D, DL =>
        obtain rfl := Option.some.inj ho
        obtain rfl := Option.some.inj hT0
        clear ho hT0
        exact ⟨fun _ => val_wp (run_index22 (i := i) rfl ((D 7 _ rfl rfl).trans (by rw [hpe21])) (D 8 _ rfl rfl) hlt) rfl hM, fun h => by rw [w_yes (g := 6) (s := 16) (b := false) E rfl rfl (by decide) (D 6 _ rfl rfl)] at h; cases h⟩
       | 10, ho, hT0, hl, D, DL =>
        obtain rfl := Option.some.inj ho
        obtain rfl := Option.some.inj hT0
        clear ho hT0
        exact ⟨fun _ => val_wp (fa48_0 rfl (D 9 _ rfl rfl)) rfl hM, fun h => by rw [w_yes (g := 6) (s := 16) (b := false) E rfl rfl (by decide) (D 6 _ rfl rfl)] at h; cases h⟩
       | 11, ho, hT0, hl, D, DL =>
        obtain rfl := Option.some.inj ho
        obtain rfl := Option.some.inj hT0
        clear ho hT0
        exact ⟨fun _ => val_wp (run_ldi rfl (D 10 _ rfl rfl) (hrow21 0 _ rfl)) rfl hM, fun h => by rw [w_yes (g := 6) (s := 16) (b := false) E rfl rfl (by decide) (D 6 _ rfl rfl)] at h; cases h⟩
       | 12, ho, hT0, hl, D, DL =>
        obtain rfl := Option.some.inj ho
        obtain rfl := Option.some.inj hT0
        clear ho hT0
        exact ⟨fun _ => val_wp (run_move rfl (E.get 5 rfl)) rfl hM, fun h => by rw [w_yes (g := 6) (s := 16) (b := false) E rfl rfl (by decide) (D 6 _ rfl rfl)] at h; cases h⟩
       | 13, ho, hT0, hl, D, DL =>
        obtain rfl := Option.some.inj ho
        obtain rfl := Option.some.inj hT0
        clear ho hT0
        exact ⟨fun _ => val_wp (run_move rfl (E.get 4 rfl)) rfl hM, fun h => by rw [w_yes (g := 6) (s := 16) (b := false) E rfl rfl (by decide) (D 6 _ rfl rfl)] at h; cases h⟩
       | 14, ho, hT0, hl, D, DL =>
        obtain rfl := Option.some.inj ho
        obtain rfl := Option.some.inj hT0
        clear ho hT0
        exact ⟨fun _ => val_wp (run_index22 (i := i) rfl ((D 12 _ rfl rfl).trans (by rw [hpe21])) (D 13 _ rfl rfl) hlt) rfl hM, fun h => by rw [w_yes (g := 6) (s := 16) (b := false) E rfl rfl (by decide) (D 6 _ rfl rfl)] at h; cases h⟩
       | 15, ho, hT0, hl, D, DL =>
        obtain rfl := Option.some.inj ho
        obtain rfl := Option.some.inj hT0
        clear ho hT0
        exact ⟨fun _ => val_wp (fa48_1 rfl (D 14 _ rfl rfl)) rfl hM, fun h => by rw [w_yes (g := 6) (s := 16) (b := false) E rfl rfl (by decide) (D 6 _ rfl rfl)] at h; cases h⟩
       | 16, ho, hT0, hl, D, DL =>
        obtain rfl := Option.some.inj ho
        obtain rfl := Option.some.inj hT0
        clear ho hT0
        exact ⟨fun _ => val_wp (run_ldi rfl (D 15 _ rfl rfl) (hrow21 1 _ rfl)) rfl hM, fun h => by rw [w_yes (g := 6) (s := 16) (b := false) E rfl rfl (by decide) (D 6 _ rfl rfl)] at h; cases h⟩
       | 17, ho, hT0, hl, D, DL =>
        obtain rfl := Option.some.inj ho
        obtain rfl := Option.some.inj hT0
        clear ho hT0
        exact ⟨fun _ => val_wp ((run_igeq (D 11 _ rfl rfl) (D 16 _ rfl rfl) Tryz.underlying3 rfl).trans (by rw [hq23] <;> rfl)) rfl hM, fun h => by rw [w_yes (g := 6) (s := 16) (b := false) E rfl rfl (by decide) (D 6 _ rfl rfl)] at h; cases h⟩
       | 18, ho, hT0, hl, D, DL =>
        obtain rfl := Option.some.inj ho
        obtain rfl := Option.some.inj hT0
        clear ho hT0
        exact ⟨fun _ => val_wp (run_pick_f rfl (D 6 _ rfl rfl) (D 17 _ rfl rfl)) rfl hM, fun h => by rw [wanted_none rfl] at h; cases h⟩
       | 19, ho, hT0, hl, D, DL =>
        obtain rfl := Option.some.inj ho
        obtain rfl := Option.some.inj hT0
        clear ho hT0
        exact ⟨fun _ => val_wp (run_move rfl (D 18 _ rfl rfl)) rfl hM, fun h => by rw [wanted_none rfl] at h; cases h⟩
       | 20, ho, hT0, hl, D, DL =>
        obtain rfl := Option.some.inj ho
        obtain rfl := Option.some.inj hT0
        clear ho hT0
        exact ⟨fun _ => val_wp (run_move rfl (E.get 5 rfl)) rfl hM, fun h => by rw [w_yes (g := 19) (s := 29) (b := false) E rfl rfl (by decide) (D 19 _ rfl rfl)] at h; cases h⟩
       | 21, ho, hT0, hl, D, DL =>
        obtain rfl := Option.some.inj ho
        obtain rfl := Option.some.inj hT0
        clear ho hT0
        exact ⟨fun _ => val_wp (run_move rfl (E.get 4 rfl)) rfl hM, fun h => by rw [w_yes (g := 19) (s := 29) (b := false) E rfl rfl (by decide) (D 19 _ rfl rfl)] at h; cases h⟩
       | 22, ho, hT0, hl, D, DL =>
        obtain rfl := Option.some.inj ho
        obtain rfl := Option.some.inj hT0
        clear ho hT0
        exact ⟨fun _ => val_wp (run_index22 (i := i) rfl ((D 20 _ rfl rfl).trans (by rw [hpe21])) (D 21 _ rfl rfl) hlt) rfl hM, fun h => by rw [w_yes (g := 19) (s := 29) (b := false) E rfl rfl (by decide) (D 19 _ rfl rfl)] at h; cases h⟩
       | 23, ho, hT0, hl, D, DL =>
        obtain rfl := Option.some.inj ho
        obtain rfl := Option.some.inj hT0
        clear ho hT0
        exact ⟨fun _ => val_wp (fa48_1 rfl (D 22 _ rfl rfl)) rfl hM, fun h => by rw [w_yes (g := 19) (s := 29) (b := false) E rfl rfl (by decide) (D 19 _ rfl rfl)] at h; cases h⟩
       | 24, ho, hT0, hl, D, DL =>
        obtain rfl := Option.some.inj ho
        obtain rfl := Option.some.inj hT0
        clear ho hT0
        exact ⟨fun _ => val_wp (run_ldi rfl (D 23 _ rfl rfl) (hrow21 1 _ rfl)) rfl hM, fun h => by rw [w_yes (g := 19) (s := 29) (b := false) E rfl rfl (by decide) (D 19 _ rfl rfl)] at h; cases h⟩
       | 25, ho, hT0, hl, D, DL =>
        obtain rfl := Option.some.inj ho
        obtain rfl := Option.some.inj hT0
        clear ho hT0
        exact ⟨fun _ => val_wp ((run_igtr (D 24 _ rfl rfl) rfl Tryz.underlying3 rfl).trans (by rw [hq24] <;> rfl)) rfl hM, fun h => by rw [w_yes (g := 19) (s := 29) (b := false) E rfl rfl (by decide) (D 19 _ rfl rfl)] at h; cases h⟩
       | 26, ho, hT0, hl, D, DL =>
        obtain rfl := Option.some.inj ho
        obtain rfl := Option.some.inj hT0
        clear ho hT0
        exact ⟨fun _ => val_wp (run_pick_f rfl (D 19 _ rfl rfl) (D 25 _ rfl rfl)) rfl hM, fun h => by rw [wanted_none rfl] at h; cases h⟩
       | 27, ho, hT0, hl, D, DL =>
        obtain rfl := Option.some.inj ho
        obtain rfl := Option.some.inj hT0
        clear ho hT0
        exact ⟨fun _ => val_wp (run_move rfl (D 26 _ rfl rfl)) rfl hM, fun h => by rw [wanted_none rfl] at h; cases h⟩
       | 28, ho, hT0, hl, D, DL =>
        obtain rfl := Option.some.inj ho
        obtain rfl := Option.some.inj hT0
        clear ho hT0
        exact ⟨fun _ => val_wp (run_move rfl (E.get 4 rfl)) rfl hM, fun h => by rw [w_yes (g := 27) (s := 37) (b := false) E rfl rfl (by decide) (D 27 _ rfl rfl)] at h; cases h⟩
       | 29, ho, hT0, hl, D, DL =>
        obtain rfl := Option.some.inj ho
        obtain rfl := Option.some.inj hT0
        clear ho hT0
        exact ⟨fun _ => val_wp ((run_igtr (D 28 _ rfl rfl) rfl Tryz.underlying3 rfl).trans (by rw [hq25] <;> rfl)) rfl hM, fun h => by rw [w_yes (g := 27) (s := 37) (b := false) E rfl rfl (by decide) (D 27 _ rfl rfl)] at h; cases h⟩
       | 30, ho, hT0, hl, D, DL =>
        obtain rfl := Option.some.inj ho
        obtain rfl := Option.some.inj hT0
        clear ho hT0
        exact ⟨fun _ => val_wp (run_move rfl (D 29 _ rfl rfl)) rfl hM, fun h => by rw [w_yes (g := 27) (s := 37) (b := false) E rfl rfl (by decide) (D 27 _ rfl rfl)] at h; cases h⟩
       | 31, ho, hT0, hl, D, DL =>
        obtain rfl := Option.some.inj ho
        obtain rfl := Option.some.inj hT0
        clear ho hT0
        exact ⟨fun _ => val_wp (run_move rfl (E.get 5 rfl)) rfl hM, fun h => by rw [w_yes (g := 30) (s := 40) (b := true) E rfl rfl (by decide) (D 30 _ rfl rfl)] at h; cases h⟩
       | 32, ho, hT0, hl, D, DL =>
        obtain rfl := Option.some.inj ho
        obtain rfl := Option.some.inj hT0
        clear ho hT0
        exact ⟨fun _ => val_wp (run_move rfl (E.get 4 rfl)) rfl hM, fun h => by rw [w_yes (g := 30) (s := 40) (b := true) E rfl rfl (by decide) (D 30 _ rfl rfl)] at h; cases h⟩
       | 33, ho, hT0, hl, D, DL =>
        obtain rfl := Option.some.inj ho
        obtain rfl := Option.some.inj hT0
        clear ho hT0
        exact ⟨fun _ => val_wp (run_isub Tryz.underlying3 (D 32 _ rfl rfl) rfl (by omega) (by omega) rfl) rfl hM, fun h => by rw [w_yes (g := 30) (s := 40) (b := true) E rfl rfl (by decide) (D 30 _ rfl rfl)] at h; cases h⟩
       | 34, ho, hT0, hl, D, DL =>
        obtain rfl := Option.some.inj ho
        obtain rfl := Option.some.inj hT0
        clear ho hT0
        exact ⟨fun _ => val_wp (run_index22 (i := (i - 1)) rfl ((D 31 _ rfl rfl).trans (by rw [hpe27])) ((D 33 _ rfl rfl).trans (by rw [hpi])) hlt1) rfl hM, fun h => by rw [w_yes (g := 30) (s := 40) (b := true) E rfl rfl (by decide) (D 30 _ rfl rfl)] at h; cases h⟩
       | 35, ho, hT0, hl, D, DL =>
        obtain rfl := Option.some.inj ho
        obtain rfl := Option.some.inj hT0
        clear ho hT0
        exact ⟨fun _ => val_wp (fa48_1 rfl (D 34 _ rfl rfl)) rfl hM, fun h => by rw [w_yes (g := 30) (s := 40) (b := true) E rfl rfl (by decide) (D 30 _ rfl rfl)] at h; cases h⟩
       | 36, ho, hT0, hl, D, DL =>
        obtain rfl := Option.some.inj ho
        obtain rfl := Option.some.inj hT0
        clear ho hT0
        exact ⟨fun _ => val_wp (run_ldi rfl (D 35 _ rfl rfl) (hrow27 1 _ rfl)) rfl hM, fun h => by rw [w_yes (g := 30) (s := 40) (b := true) E rfl rfl (by decide) (D 30 _ rfl rfl)] at h; cases h⟩
       | 37, ho, hT0, hl, D, DL =>
        obtain rfl := Option.some.inj ho
        obtain rfl := Option.some.inj hT0
        clear ho hT0
        exact ⟨fun _ => val_wp (run_move rfl (E.get 5 rfl)) rfl hM, fun h => by rw [w_yes (g := 30) (s := 40) (b := true) E rfl rfl (by decide) (D 30 _ rfl rfl)] at h; cases h⟩
       | 38, ho, hT0, hl, D, DL =>
        obtain rfl := Option.some.inj ho
        obtain rfl := Option.some.inj hT0
        clear ho hT0
        exact ⟨fun _ => val_wp (run_move rfl (E.get 4 rfl)) rfl hM, fun h => by rw [w_yes (g := 30) (s := 40) (b := true) E rfl rfl (by decide) (D 30 _ rfl rfl)] at h; cases h⟩
       | 39, ho, hT0, hl, D, DL =>
        obtain rfl := Option.some.inj ho
        obtain rfl := Option.some.inj hT0
        clear ho hT0
        exact ⟨fun _ => val_wp (run_index22 (i := i) rfl ((D 37 _ rfl rfl).trans (by rw [hpe21])) (D 38 _ rfl rfl) hlt) rfl hM, fun h => by rw [w_yes (g := 30) (s := 40) (b := true) E rfl rfl (by decide) (D 30 _ rfl rfl)] at h; cases h⟩
       | 40, ho, hT0, hl, D, DL =>
        obtain rfl := Option.some.inj ho
        obtain rfl := Option.some.inj hT0
        clear ho hT0
        exact ⟨fun _ => val_wp (fa48_0 rfl (D 39 _ rfl rfl)) rfl hM, fun h => by rw [w_yes (g := 30) (s := 40) (b := true) E rfl rfl (by decide) (D 30 _ rfl rfl)] at h; cases h⟩
       | 41, ho, hT0, hl, D, DL =>
        obtain rfl := Option.some.inj ho
        obtain rfl := Option.some.inj hT0
        clear ho hT0
        exact ⟨fun _ => val_wp (run_ldi rfl (D 40 _ rfl rfl) (hrow21 0 _ rfl)) rfl hM, fun h => by rw [w_yes (g := 30) (s := 40) (b := true) E rfl rfl (by decide) (D 30 _ rfl rfl)] at h; cases h⟩
       | 42, ho, hT0, hl, D, DL =>
        obtain rfl := Option.some.inj ho
        obtain rfl := Option.some.inj hT0
        clear ho hT0
        exact ⟨fun _ => val_wp (run_igeq (D 36 _ rfl rfl) (D 41 _ rfl rfl) Tryz.underlying3 rfl) rfl hM, fun h => by rw [w_yes (g := 30) (s := 40) (b := true) E rfl rfl (by decide) (D 30 _ rfl rfl)] at h; cases h⟩
       | 43, ho, hT0, hl, D, DL =>
        obtain rfl := Option.some.inj ho
        obtain rfl := Option.some.inj hT0
        clear ho hT0
        exact ⟨fun _ => val_wp (run_pick_t rfl (D 30 _ rfl rfl) (D 42 _ rfl rfl)) rfl hM, fun h => by rw [w_yes (g := 27) (s := 37) (b := false) E rfl rfl (by decide) (D 27 _ rfl rfl)] at h; cases h⟩
       | 44, ho, hT0, hl, D, DL =>
        obtain rfl := Option.some.inj ho
        obtain rfl := Option.some.inj hT0
        clear ho hT0
        exact ⟨fun _ => val_wp (run_pick_f rfl (D 27 _ rfl rfl) (D 43 _ rfl rfl)) rfl hM, fun h => by rw [wanted_none rfl] at h; cases h⟩
       | j9 + 45, ho, hT0, hl, D, DL => exact absurd hT0 (by simp)
      ·intro a w5 E V hM
       have E := E.add (V 44 _ rfl)
       clear V
       have hsp0 := srcAt.fr hsp0 hM (fun r hr => id)
       have hrow21 := fun j u hu => hM.cell (hrow21 j u hu) id
       have hrow27 := fun j u hu => hM.cell (hrow27 j u hu) id
       have hf := hf.trans hM
       clear hM
       refine then_n ?_
       cases hq29 : (decide (y.1 ≤ z.2)) with
       | false =>
        rw [hq29] at E
        refine wp_cond_false (E.get 0 rfl) ?_
        refine wp_skip ?_
        refine blk_n ?_
        refine then_n ?_
        refine wp_region_lit ?_
        refine ep (v := .int .i64 (i : Int)) E (run_move rfl (E.get 5 rfl)) fun a E => ?_
        refine ep (v := .int .i64 ((i : Int) + 1)) E (run_iadd Tryz.underlying3 (E.get 0 rfl) rfl (by omega) (by omega) rfl) fun a E => ?_
        refine env_set (d := 3) (v := .int .i64 ((i : Int) + 1)) E rfl (by decide) (wanted_none rfl _) (run_assign rfl (E.get 0 rfl)) fun a E => ?_
        refine wpList_nil ?_
        refine then_n ?_
        have qhq20 := of_decide_eq_true hq20
        have qhq22 := of_decide_eq_false hq22
        have qhq23 := of_decide_eq_false hq23
        have qhq24 := of_decide_eq_false hq24
        have qhq25 := of_decide_eq_true hq25
        have qhq29 := of_decide_eq_false hq29
        have hlo : lastTo l i < y.1 := by
         rw [lastTo_pred h0 hz]; omega
        refine ⟨⟨i + 1, E.of ⟨E.get 0 rfl, E.get 8 rfl, trivial⟩, hlt, ?_, by rw [lastTo_of hy]; omega, hsp0, hf⟩, ?_⟩
        ·rw [hv, vl_go hy, lastTo_of hy, decide_eq_true hlo, decide_eq_true (show y.1 < y.2 by omega), decide_eq_true (show y.2 ≤ 10080 by omega)]; rfl
        ·rw [E.get 0 rfl]; simp only [intOf]; omega
       | true =>
        rw [hq29] at E
        refine wp_cond_true (E.get 0 rfl) ?_
        refine wp_seq ?_
        refine wp_region_lit ?_
        refine ep (v := .bool false) E (run_assign rfl rfl) fun a E => ?_
        refine wpList_nil ?_
        refine then_n ?_
        refine wp_ret ?_
        refine blk_r ?_
        refine then_r ?_
        refine then_r ?_
        refine blk_r ?_
        refine then_r ?_
        refine ret_tmp (t := 2) rfl E (E.get 0 rfl) ⟨?_, hf⟩
        have qhq20 := of_decide_eq_true hq20
        have qhq22 := of_decide_eq_false hq22
        have qhq23 := of_decide_eq_false hq23
        have qhq24 := of_decide_eq_false hq24
        have qhq25 := of_decide_eq_true hq25
        have qhq29 := of_decide_eq_true hq29
        rw [hv, vl_go hy]
        have h9 : (decide (lastTo l i < y.1) && decide (y.1 < y.2) && decide (y.2 ≤ 10080)) = false := by
         rw [Bool.eq_false_iff]; intro h
         simp only [Bool.and_eq_true, decide_eq_true_eq] at h
         have hl0 : 0 < i → (∀ y, l[i - 1]? = some y → lastTo l i = y.2) := fun h0 y hy => lastTo_pred h0 hy
         have hl1 : i = 0 → lastTo l i = -1 := by rintro rfl; rfl
         have := hl0 h0 z hz; omega
        rw [h9]; rfl
    | true =>
     refine wp_region_invg (n := 55) (base := [(7, .bool true), (6, .int .i64 (l.length : Int)), (5, .slice (p0) l.length cp0), (4, .int .i64 (i : Int)), (3, .int .i64 (i : Int)), (0, .slice (p0) l.length cp0)]) (T := [some (10, .slice (p0) l.length cp0), some (11, .int .i64 (i : Int)), some (12, .pointer (some ⟨g21, (off21 + i * 2), none⟩)), some (13, .pointer (some ⟨g21, ((off21 + i * 2) + 0), none⟩)), some (14, .int .i64 y.1), some (15, .bool false), some (16, .bool false), some (17, .slice (p0) l.length cp0), some (18, .int .i64 (i : Int)), some (19, .pointer (some ⟨g21, (off21 + i * 2), none⟩)), some (20, .pointer (some ⟨g21, ((off21 + i * 2) + 0), none⟩)), some (21, .int .i64 y.1), some (22, .slice (p0) l.length cp0), some (23, .int .i64 (i : Int)), some (24, .pointer (some ⟨g21, (off21 + i * 2), none⟩)), some (25, .pointer (some ⟨g21, ((off21 + i * 2) + 1), none⟩)), some (26, .int .i64 y.2), some (27, .bool false), some (28, .bool false), some (29, .bool false), some (30, .slice (p0) l.length cp0), some (31, .int .i64 (i : Int)), some (32, .pointer (some ⟨g21, (off21 + i * 2), none⟩)), some (33, .pointer (some ⟨g21, ((off21 + i * 2) + 1), none⟩)), some (34, .int .i64 y.2), some (35, .bool true), some (36, .bool true), some (37, .bool true), some (38, undef), some (39, undef), some (40, undef), some (41, undef), some (42, undef), some (43, undef), some (44, undef), some (45, undef), some (46, undef), some (47, undef), some (48, undef), some (49, undef), some (50, undef), some (51, undef), some (52, undef), some (53, undef), some (54, .bool true)]) (M := fun _ wm => Fr (fun _ => False) w2 wm) (by kernel_rfl) (by kernel_rfl) (by kernel_rfl) (E.of ⟨E.get 0 rfl, E.get 1 rfl, E.get 2 rfl, E.get 3 rfl, E.get 4 rfl, E.get 5 rfl, trivial⟩) (Fr.refl _ _).drew ?_ ?_
     ·intro j9 o9 t9 ls9 a w5 ho hT0 hl E D DL hM
      have hsp0 := srcAt.fr hsp0 hM (fun r hr => id)
      have hrow21 := fun j u hu => hM.cell (hrow21 j u hu) id
      match j9, ho, hT0, hl, D, DL with
      | 0, ho, hT0, hl, D, DL =>
       obtain rfl := Option.some.inj ho
       obtain rfl := Option.some.inj hT0
       clear ho hT0
       exact ⟨fun _ => val_wp (run_move rfl (E.get 5 rfl)) rfl hM, fun h => by rw [wanted_none rfl] at h; cases h⟩
      | 1, ho, hT0, hl, D, DL =>
       obtain rfl := Option.some.inj ho
       obtain rfl := Option.some.inj hT0
       clear ho hT0
       exact ⟨fun _ => val_wp (run_move rfl (E.get 4 rfl)) rfl hM, fun h => by rw [wanted_none rfl] at h; cases h⟩
      | 2, ho, hT0, hl, D, DL =>
       obtain rfl := Option.some.inj ho
       obtain rfl := Option.some.inj hT0
       clear ho hT0
       exact ⟨fun _ => val_wp (run_index22 (i := i) rfl ((D 0 _ rfl rfl).trans (by rw [hpe21])) (D 1 _ rfl rfl) hlt) rfl hM, fun h => by rw [wanted_none rfl] at h; cases h⟩
      | 3, ho, hT0, hl, D, DL =>
       obtain rfl := Option.some.inj ho
       obtain rfl := Option.some.inj hT0
       clear ho hT0
       exact ⟨fun _ => val_wp (fa48_0 rfl (D 2 _ rfl rfl)) rfl hM, fun h => by rw [wanted_none rfl] at h; cases h⟩
      | 4, ho, hT0, hl, D, DL =>
       obtain rfl := Option.some.inj ho
       obtain rfl := Option.some.inj hT0
       clear ho hT0
       exact ⟨fun _ => val_wp (run_ldi rfl (D 3 _ rfl rfl) (hrow21 0 _ rfl)) rfl hM, fun h => by rw [wanted_none rfl] at h; cases h⟩
      | 5, ho, hT0, hl, D, DL =>
       obtain rfl := Option.some.inj ho
       obtain rfl := Option.some.inj hT0
       clear ho hT0
       exact ⟨fun _ => val_wp ((run_ilss (D 4 _ rfl rfl) rfl Tryz.underlying3 rfl).trans (by rw [hq22] <;> rfl)) rfl hM, fun h => by rw [wanted_none rfl] at h; cases h⟩
      | 6, ho, hT0, hl, D, DL =>
       obtain rfl := Option.some.inj ho
       obtain rfl := Option.some.inj hT0
       clear ho hT0
       exact ⟨fun _ => val_wp (run_move rfl (D 5 _ rfl rfl)) rfl hM, fun h => by rw [wanted_none rfl] at h; cases h⟩
      | 7, ho, hT0, hl, D, DL =>
       obtain rfl := Option.some.inj ho
       obtain rfl := Option.some.inj hT0
       clear ho hT0
       exact ⟨fun _ => val_wp (run_move rfl (E.get 5 rfl)) rfl hM, fun h => by rw [w_yes (g := 6) (s := 16) (b := false) E rfl rfl (by decide) (D 6 _ rfl rfl)] at h; cases h⟩
      | 8, ho, hT0, hl, D, DL =>
       obtain rfl := Option.some.inj ho
       obtain rfl := Option.some.inj hT0
       clear ho hT0
       exact ⟨fun _ => val_wp (run_move rfl (E.get 4 rfl)) rfl hM, fun h => by rw [w_yes (g := 6) (s := 16) (b := false) E rfl rfl (by decide) (D 6 _ rfl rfl)] at h; cases h⟩
      | 9, ho, hT0, hl, D, DL =>
       obtain rfl := Option.some.inj ho
       obtain rfl := Option.some.inj hT0
       clear ho hT0
       exact ⟨fun _ => val_wp (run_index22 (i := i) rfl ((D 7 _ rfl rfl).trans (by rw [hpe21])) (D 8 _ rfl rfl) hlt) rfl hM, fun h => by rw [w_yes (g := 6) (s := 16) (b := false) E rfl rfl (by decide) (D 6 _ rfl rfl)] at h; cases h⟩
      | 10, ho, hT0, hl, D, DL =>
       obtain rfl := Option.some.inj ho
       obtain rfl := Option.some.inj hT0
       clear ho hT0
       exact ⟨fun _ => val_wp (fa48_0 rfl (D 9 _ rfl rfl)) rfl hM, fun h => by rw [w_yes (g := 6) (s := 16) (b := false) E rfl rfl (by decide) (D 6 _ rfl rfl)] at h; cases h⟩
      | 11, ho, hT0, hl, D, DL =>
       obtain rfl := Option.some.inj ho
       obtain rfl := Option.some.inj hT0
       clear ho hT0
       exact ⟨fun _ => val_wp (run_ldi rfl (D 10 _ rfl rfl) (hrow21 0 _ rfl)) rfl hM, fun h => by rw [w_yes (g := 6) (s := 16) (b := false) E rfl rfl (by decide) (D 6 _ rfl rfl)] at h; cases h⟩
      | 12, ho, hT0, hl, D, DL =>
       obtain rfl := Option.some.inj ho
       obtain rfl := Option.some.inj hT0
       clear ho hT0
       exact ⟨fun _ => val_wp (run_move rfl (E.get 5 rfl)) rfl hM, fun h => by rw [w_yes (g := 6) (s := 16) (b := false) E rfl rfl (by decide) (D 6 _ rfl rfl)] at h; cases h⟩
      | 13, ho, hT0, hl, D, DL =>
       obtain rfl := Option.some.inj ho
       obtain rfl := Option.some.inj hT0
       clear ho hT0
       exact ⟨fun _ => val_wp (run_move rfl (E.get 4 rfl)) rfl hM, fun h => by rw [w_yes (g := 6) (s := 16) (b := false) E rfl rfl (by decide) (D 6 _ rfl rfl)] at h; cases h⟩
      | 14, ho, hT0, hl, D, DL =>
       obtain rfl := Option.some.inj ho
       obtain rfl := Option.some.inj hT0
       clear ho hT0
       exact ⟨fun _ => val_wp (run_index22 (i := i) rfl ((D 12 _ rfl rfl).trans (by rw [hpe21])) (D 13 _ rfl rfl) hlt) rfl hM, fun h => by rw [w_yes (g := 6) (s := 16) (b := false) E rfl rfl (by decide) (D 6 _ rfl rfl)] at h; cases h⟩
      | 15, ho, hT0, hl, D, DL =>
       obtain rfl := Option.some.inj ho
       obtain rfl := Option.some.inj hT0
       clear ho hT0
       exact ⟨fun _ => val_wp (fa48_1 rfl (D 14 _ rfl rfl)) rfl hM, fun h => by rw [w_yes (g := 6) (s := 16) (b := false) E rfl rfl (by decide) (D 6 _ rfl rfl)] at h; cases h⟩
      | 16, ho, hT0, hl, D, DL =>
       obtain rfl := Option.some.inj ho
       obtain rfl := Option.some.inj hT0
       clear ho hT0
       exact ⟨fun _ => val_wp (run_ldi rfl (D 15 _ rfl rfl) (hrow21 1 _ rfl)) rfl hM, fun h => by rw [w_yes (g := 6) (s := 16) (b := false) E rfl rfl (by decide) (D 6 _ rfl rfl)] at h; cases h⟩
      | 17, ho, hT0, hl, D, DL =>
       obtain rfl := Option.some.inj ho
       obtain rfl := Option.some.inj hT0
       clear ho hT0
       exact ⟨fun _ => val_wp ((run_igeq (D 11 _ rfl rfl) (D 16 _ rfl rfl) Tryz.underlying3 rfl).trans (by rw [hq23] <;> rfl)) rfl hM, fun h => by rw [w_yes (g := 6) (s := 16) (b := false) E rfl rfl (by decide) (D 6 _ rfl rfl)] at h; cases h⟩
      | 18, ho, hT0, hl, D, DL =>
       obtain rfl := Option.some.inj ho
       obtain rfl := Option.some.inj hT0
       clear ho hT0
       exact ⟨fun _ => val_wp (run_pick_f rfl (D 6 _ rfl rfl) (D 17 _ rfl rfl)) rfl hM, fun h => by rw [wanted_none rfl] at h; cases h⟩
      | 19, ho, hT0, hl, D, DL =>
       obtain rfl := Option.some.inj ho
       obtain rfl := Option.some.inj hT0
       clear ho hT0
       exact ⟨fun _ => val_wp (run_move rfl (D 18 _ rfl rfl)) rfl hM, fun h => by rw [wanted_none rfl] at h; cases h⟩
      | 20, ho, hT0, hl, D, DL =>
       obtain rfl := Option.some.inj ho
       obtain rfl := Option.some.inj hT0
       clear ho hT0
       exact ⟨fun _ => val_wp (run_move rfl (E.get 5 rfl)) rfl hM, fun h => by rw [w_yes (g := 19) (s := 29) (b := false) E rfl rfl (by decide) (D 19 _ rfl rfl)] at h; cases h⟩
      | 21, ho, hT0, hl, D, DL =>
       obtain rfl := Option.some.inj ho
       obtain rfl := Option.some.inj hT0
       clear ho hT0
       exact ⟨fun _ => val_wp (run_move rfl (E.get 4 rfl)) rfl hM, fun h => by rw [w_yes (g := 19) (s := 29) (b := false) E rfl rfl (by decide) (D 19 _ rfl rfl)] at h; cases h⟩
      | 22, ho, hT0, hl, D, DL =>
       obtain rfl := Option.some.inj ho
       obtain rfl := Option.some.inj hT0
       clear ho hT0
       exact ⟨fun _ => val_wp (run_index22 (i := i) rfl ((D 20 _ rfl rfl).trans (by rw [hpe21])) (D 21 _ rfl rfl) hlt) rfl hM, fun h => by rw [w_yes (g := 19) (s := 29) (b := false) E rfl rfl (by decide) (D 19 _ rfl rfl)] at h; cases h⟩
      | 23, ho, hT0, hl, D, DL =>
       obtain rfl := Option.some.inj ho
       obtain rfl := Option.some.inj hT0
       clear ho hT0
       exact ⟨fun _ => val_wp (fa48_1 rfl (D 22 _ rfl rfl)) rfl hM, fun h => by rw [w_yes (g := 19) (s := 29) (b := false) E rfl rfl (by decide) (D 19 _ rfl rfl)] at h; cases h⟩
      | 24, ho, hT0, hl, D, DL =>
       obtain rfl := Option.some.inj ho
       obtain rfl := Option.some.inj hT0
       clear ho hT0
       exact ⟨fun _ => val_wp (run_ldi rfl (D 23 _ rfl rfl) (hrow21 1 _ rfl)) rfl hM, fun h => by rw [w_yes (g := 19) (s := 29) (b := false) E rfl rfl (by decide) (D 19 _ rfl rfl)] at h; cases h⟩
      | 25, ho, hT0, hl, D, DL =>
       obtain rfl := Option.some.inj ho
       obtain rfl := Option.some.inj hT0
       clear ho hT0
       exact ⟨fun _ => val_wp ((run_igtr (D 24 _ rfl rfl) rfl Tryz.underlying3 rfl).trans (by rw [hq24] <;> rfl)) rfl hM, fun h => by rw [w_yes (g := 19) (s := 29) (b := false) E rfl rfl (by decide) (D 19 _ rfl rfl)] at h; cases h⟩
      | 26, ho, hT0, hl, D, DL =>
       obtain rfl := Option.some.inj ho
       obtain rfl := Option.some.inj hT0
       clear ho hT0
       exact ⟨fun _ => val_wp (run_pick_f rfl (D 19 _ rfl rfl) (D 25 _ rfl rfl)) rfl hM, fun h => by rw [wanted_none rfl] at h; cases h⟩
      | 27, ho, hT0, hl, D, DL =>
       obtain rfl := Option.some.inj ho
       obtain rfl := Option.some.inj hT0
       clear ho hT0
       exact ⟨fun _ => val_wp (run_move rfl (D 26 _ rfl rfl)) rfl hM, fun h => by rw [wanted_none rfl] at h; cases h⟩
      | 28, ho, hT0, hl, D, DL =>
       obtain rfl := Option.some.inj ho
       obtain rfl := Option.some.inj hT0
       clear ho hT0
       exact ⟨fun h => (by rw [w_no (g := 27) (s := 37) (b := false) E rfl rfl (by decide) (D 27 _ rfl rfl)] at h; cases h), fun _ => ⟨fun x hx => by cases hx; rfl, hM⟩⟩
      | 29, ho, hT0, hl, D, DL =>
       obtain rfl := Option.some.inj ho
       obtain rfl := Option.some.inj hT0
       clear ho hT0
       exact ⟨fun h => (by rw [w_no (g := 27) (s := 37) (b := false) E rfl rfl (by decide) (D 27 _ rfl rfl)] at h; cases h), fun _ => ⟨fun x hx => by cases hx; rfl, hM⟩⟩
      | 30, ho, hT0, hl, D, DL =>
       obtain rfl := Option.some.inj ho
       obtain rfl := Option.some.inj hT0
       clear ho hT0
       exact ⟨fun h => (by rw [w_no (g := 27) (s := 37) (b := false) E rfl rfl (by decide) (D 27 _ rfl rfl)] at h; cases h), fun _ => ⟨fun x hx => by cases hx; rfl, hM⟩⟩
      | 31, ho, hT0, hl, D, DL =>
       obtain rfl := Option.some.inj ho
       obtain rfl := Option.some.inj hT0
       clear ho hT0
       exact ⟨fun h => (by rw [w_nou (g := 30) (s := 40) (b := true) E rfl rfl (by decide) (D 30 _ rfl rfl)] at h; cases h), fun _ => ⟨fun x hx => by cases hx; rfl, hM⟩⟩
      | 32, ho, hT0, hl, D, DL =>
       obtain rfl := Option.some.inj ho
       obtain rfl := Option.some.inj hT0
       clear ho hT0
       exact ⟨fun h => (by rw [w_nou (g := 30) (s := 40) (b := true) E rfl rfl (by decide) (D 30 _ rfl rfl)] at h; cases h), fun _ => ⟨fun x hx => by cases hx; rfl, hM⟩⟩
      | 33, ho, hT0, hl, D, DL =>
       obtain rfl := Option.some.inj ho
       obtain rfl := Option.some.inj hT0
       clear ho hT0
       exact ⟨fun h => (by rw [w_nou (g := 30) (s := 40) (b := true) E rfl rfl (by decide) (D 30 _ rfl rfl)] at h; cases h), fun _ => ⟨fun x hx => by cases hx; rfl, hM⟩⟩
      | 34, ho, hT0, hl, D, DL =>
       obtain rfl := Option.some.inj ho
       obtain rfl := Option.some.inj hT0
       clear ho hT0
       exact ⟨fun h => (by rw [w_nou (g := 30) (s := 40) (b := true) E rfl rfl (by decide) (D 30 _ rfl rfl)] at h; cases h), fun _ => ⟨fun x hx => by cases hx; rfl, hM⟩⟩
      | 35, ho, hT0, hl, D, DL =>
       obtain rfl := Option.some.inj ho
       obtain rfl := Option.some.inj hT0
       clear ho hT0
       exact ⟨fun h => (by rw [w_nou (g := 30) (s := 40) (b := true) E rfl rfl (by decide) (D 30 _ rfl rfl)] at h; cases h), fun _ => ⟨fun x hx => by cases hx; rfl, hM⟩⟩
      | 36, ho, hT0, hl, D, DL =>
       obtain rfl := Option.some.inj ho
       obtain rfl := Option.some.inj hT0
       clear ho hT0
       exact ⟨fun h => (by rw [w_nou (g := 30) (s := 40) (b := true) E rfl rfl (by decide) (D 30 _ rfl rfl)] at h; cases h), fun _ => ⟨fun x hx => by cases hx; rfl, hM⟩⟩
      | 37, ho, hT0, hl, D, DL =>
       obtain rfl := Option.some.inj ho
       obtain rfl := Option.some.inj hT0
       clear ho hT0
       exact ⟨fun h => (by rw [w_nou (g := 30) (s := 40) (b := true) E rfl rfl (by decide) (D 30 _ rfl rfl)] at h; cases h), fun _ => ⟨fun x hx => by cases hx; rfl, hM⟩⟩
      | 38, ho, hT0, hl, D, DL =>
       obtain rfl := Option.some.inj ho
       obtain rfl := Option.some.inj hT0
       clear ho hT0
       exact ⟨fun h => (by rw [w_nou (g := 30) (s := 40) (b := true) E rfl rfl (by decide) (D 30 _ rfl rfl)] at h; cases h), fun _ => ⟨fun x hx => by cases hx; rfl, hM⟩⟩
      | 39, ho, hT0, hl, D, DL =>
       obtain rfl := Option.some.inj ho
       obtain rfl := Option.some.inj hT0
       clear ho hT0
       exact ⟨fun h => (by rw [w_nou (g := 30) (s := 40) (b := true) E rfl rfl (by decide) (D 30 _ rfl rfl)] at h; cases h), fun _ => ⟨fun x hx => by cases hx; rfl, hM⟩⟩
      | 40, ho, hT0, hl, D, DL =>
       obtain rfl := Option.some.inj ho
       obtain rfl := Option.some.inj hT0
       clear ho hT0
       exact ⟨fun h => (by rw [w_nou (g := 30) (s := 40) (b := true) E rfl rfl (by decide) (D 30 _ rfl rfl)] at h; cases h), fun _ => ⟨fun x hx => by cases hx; rfl, hM⟩⟩
      | 41, ho, hT0, hl, D, DL =>
       obtain rfl := Option.some.inj ho
       obtain rfl := Option.some.inj hT0
       clear ho hT0
       exact ⟨fun h => (by rw [w_nou (g := 30) (s := 40) (b := true) E rfl rfl (by decide) (D 30 _ rfl rfl)] at h; cases h), fun _ => ⟨fun x hx => by cases hx; rfl, hM⟩⟩
      | 42, ho, hT0, hl, D, DL =>
       obtain rfl := Option.some.inj ho
       obtain rfl := Option.some.inj hT0
       clear ho hT0
       exact ⟨fun h => (by rw [w_nou (g := 30) (s := 40) (b := true) E rfl rfl (by decide) (D 30 _ rfl rfl)] at h; cases h), fun _ => ⟨fun x hx => by cases hx; rfl, hM⟩⟩
      | 43, ho, hT0, hl, D, DL =>
       obtain rfl := Option.some.inj ho
       obtain rfl := Option.some.inj hT0
       clear ho hT0
       exact ⟨fun h => (by rw [w_no (g := 27) (s := 37) (b := false) E rfl rfl (by decide) (D 27 _ rfl rfl)] at h; cases h), fun _ => ⟨fun x hx => by cases hx; rfl, hM⟩⟩
      | 44, ho, hT0, hl, D, DL =>
       obtain rfl := Option.some.inj ho
       obtain rfl := Option.some.inj hT0
       clear ho hT0
       exact ⟨fun _ => val_wp (run_pick_t rfl (D 27 _ rfl rfl) rfl) rfl hM, fun h => by rw [wanted_none rfl] at h; cases h⟩
      | j9 + 45, ho, hT0, hl, D, DL => exact absurd hT0 (by simp)
     ·intro a w5 E V hM
      have E := E.add (V 44 _ rfl)
      clear V
      have hsp0 := srcAt.fr hsp0 hM (fun r hr => id)
      have hrow21 := fun j u hu => hM.cell (hrow21 j u hu) id
      have hf := hf.trans hM
      clear hM
      refine then_n ?_
      refine wp_cond_true (E.get 0 rfl) ?_
      refine wp_seq ?_
      refine wp_region_lit ?_
      refine ep (v := .bool false) E (run_assign rfl rfl) fun a E => ?_
      refine wpList_nil ?_
      refine then_n ?_
      refine wp_ret ?_
      refine blk_r ?_
      refine then_r ?_
      refine then_r ?_
      refine blk_r ?_
      refine then_r ?_
      refine ret_tmp (t := 2) rfl E (E.get 0 rfl) ⟨?_, hf⟩
      have qhq20 := of_decide_eq_true hq20
      have qhq22 := of_decide_eq_false hq22
      have qhq23 := of_decide_eq_false hq23
      have qhq24 := of_decide_eq_true hq24
      rw [hv, vl_go hy]
      have h9 : (decide (lastTo l i < y.1) && decide (y.1 < y.2) && decide (y.2 ≤ 10080)) = false := by
       rw [Bool.eq_false_iff]; intro h
       simp only [Bool.and_eq_true, decide_eq_true_eq] at h
       have hl0 : 0 < i → (∀ y, l[i - 1]? = some y → lastTo l i = y.2) := fun h0 y hy => lastTo_pred h0 hy
       have hl1 : i = 0 → lastTo l i = -1 := by rintro rfl; rfl
       first | omega | (have hge : -1 ≤ lastTo l i := hge9; omega)
      rw [h9]; rfl
   | true =>
    refine wp_region_invg (n := 55) (base := [(7, .bool true), (6, .int .i64 (l.length : Int)), (5, .slice (p0) l.length cp0), (4, .int .i64 (i : Int)), (3, .int .i64 (i : Int)), (0, .slice (p0) l.length cp0)]) (T := [some (10, .slice (p0) l.length cp0), some (11, .int .i64 (i : Int)), some (12, .pointer (some ⟨g21, (off21 + i * 2), none⟩)), some (13, .pointer (some ⟨g21, ((off21 + i * 2) + 0), none⟩)), some (14, .int .i64 y.1), some (15, .bool false), some (16, .bool false), some (17, .slice (p0) l.length cp0), some (18, .int .i64 (i : Int)), some (19, .pointer (some ⟨g21, (off21 + i * 2), none⟩)), some (20, .pointer (some ⟨g21, ((off21 + i * 2) + 0), none⟩)), some (21, .int .i64 y.1), some (22, .slice (p0) l.length cp0), some (23, .int .i64 (i : Int)), some (24, .pointer (some ⟨g21, (off21 + i * 2), none⟩)), some (25, .pointer (some ⟨g21, ((off21 + i * 2) + 1), none⟩)), some (26, .int .i64 y.2), some (27, .bool true), some (28, .bool true), some (29, .bool true), some (30, undef), some (31, undef), some (32, undef), some (33, undef), some (34, undef), some (35, undef), some (36, .bool true), some (37, .bool true), some (38, undef), some (39, undef), some (40, undef), some (41, undef), some (42, undef), some (43, undef), some (44, undef), some (45, undef), some (46, undef), some (47, undef), some (48, undef), some (49, undef), some (50, undef), some (51, undef), some (52, undef), some (53, undef), some (54, .bool true)]) (M := fun _ wm => Fr (fun _ => False) w2 wm) (by kernel_rfl) (by kernel_rfl) (by kernel_rfl) (E.of ⟨E.get 0 rfl, E.get 1 rfl, E.get 2 rfl, E.get 3 rfl, E.get 4 rfl, E.get 5 rfl, trivial⟩) (Fr.refl _ _).drew ?_ ?_
    ·intro j9 o9 t9 ls9 a w5 ho hT0 hl E D DL hM
     have hsp0 := srcAt.fr hsp0 hM (fun r hr => id)
     have hrow21 := fun j u hu => hM.cell (hrow21 j u hu) id
     match j9, ho, hT0, hl, D, DL with
     | 0, ho, hT0, hl, D, DL =>
      obtain rfl := Option.some.inj ho
      obtain rfl := Option.some.inj hT0
      clear ho hT0
      exact ⟨fun _ => val_wp (run_move rfl (E.get 5 rfl)) rfl hM, fun h => by rw [wanted_none rfl] at h; cases h⟩
     | 1, ho, hT0, hl, D, DL =>
      obtain rfl := Option.some.inj ho
      obtain rfl := Option.some.inj hT0
      clear ho hT0
      exact ⟨fun _ => val_wp (run_move rfl (E.get 4 rfl)) rfl hM, fun h => by rw [wanted_none rfl] at h; cases h⟩
     | 2, ho, hT0, hl, D, DL =>
      obtain rfl := Option.some.inj ho
      obtain rfl := Option.some.inj hT0
      clear ho hT0
      exact ⟨fun _ => val_wp (run_index22 (i := i) rfl ((D 0 _ rfl rfl).trans (by rw [hpe21])) (D 1 _ rfl rfl) hlt) rfl hM, fun h => by rw [wanted_none rfl] at h; cases h⟩
     | 3, ho, hT0, hl, D, DL =>
      obtain rfl := Option.some.inj ho
      obtain rfl := Option.some.inj hT0
      clear ho hT0
      exact ⟨fun _ => val_wp (fa48_0 rfl (D 2 _ rfl rfl)) rfl hM, fun h => by rw [wanted_none rfl] at h; cases h⟩
     | 4, ho, hT0, hl, D, DL =>
      obtain rfl := Option.some.inj ho
      obtain rfl := Option.some.inj hT0
      clear ho hT0
      exact ⟨fun _ => val_wp (run_ldi rfl (D 3 _ rfl rfl) (hrow21 0 _ rfl)) rfl hM, fun h => by rw [wanted_none rfl] at h; cases h⟩
     | 5, ho, hT0, hl, D, DL =>
      obtain rfl := Option.some.inj ho
      obtain rfl := Option.some.inj hT0
      clear ho hT0
      exact ⟨fun _ => val_wp ((run_ilss (D 4 _ rfl rfl) rfl Tryz.underlying3 rfl).trans (by rw [hq22] <;> rfl)) rfl hM, fun h => by rw [wanted_none rfl] at h; cases h⟩
     | 6, ho, hT0, hl, D, DL =>
      obtain rfl := Option.some.inj ho
      obtain rfl := Option.some.inj hT0
      clear ho hT0
      exact ⟨fun _ => val_wp (run_move rfl (D 5 _ rfl rfl)) rfl hM, fun h => by rw [wanted_none rfl] at h; cases h⟩
     | 7, ho, hT0, hl, D, DL =>
      obtain rfl := Option.some.inj ho
      obtain rfl := Option.some.inj hT0
      clear ho hT0
      exact ⟨fun _ => val_wp (run_move rfl (E.get 5 rfl)) rfl hM, fun h => by rw [w_yes (g := 6) (s := 16) (b := false) E rfl rfl (by decide) (D 6 _ rfl rfl)] at h; cases h⟩
     | 8, ho, hT0, hl, D, DL =>
      obtain rfl := Option.some.inj ho
      obtain rfl := Option.some.inj hT0
      clear ho hT0
      exact ⟨fun _ => val_wp (run_move rfl (E.get 4 rfl)) rfl hM, fun h => by rw [w_yes (g := 6) (s := 16) (b := false) E rfl rfl (by decide) (D 6 _ rfl rfl)] at h; cases h⟩
     | 9, ho, hT0, hl, D, DL =>
      obtain rfl := Option.some.inj ho
      obtain rfl := Option.some.inj hT0
      clear ho hT0
      exact ⟨fun _ => val_wp (run_index22 (i := i) rfl ((D 7 _ rfl rfl).trans (by rw [hpe21])) (D 8 _ rfl rfl) hlt) rfl hM, fun h => by rw [w_yes (g := 6) (s := 16) (b := false) E rfl rfl (by decide) (D 6 _ rfl rfl)] at h; cases h⟩
     | 10, ho, hT0, hl, D, DL =>
      obtain rfl := Option.some.inj ho
      obtain rfl := Option.some.inj hT0
      clear ho hT0
      exact ⟨fun _ => val_wp (fa48_0 rfl (D 9 _ rfl rfl)) rfl hM, fun h => by rw [w_yes (g := 6) (s := 16) (b := false) E rfl rfl (by decide) (D 6 _ rfl rfl)] at h; cases h⟩
     | 11, ho, hT0, hl, D, DL =>
      obtain rfl := Option.some.inj ho
      obtain rfl := Option.some.inj hT0
      clear ho hT0
      exact ⟨fun _ => val_wp (run_ldi rfl (D 10 _ rfl rfl) (hrow21 0 _ rfl)) rfl hM, fun h => by rw [w_yes (g := 6) (s := 16) (b := false) E rfl rfl (by decide) (D 6 _ rfl rfl)] at h; cases h⟩
     | 12, ho, hT0, hl, D, DL =>
      obtain rfl := Option.some.inj ho
      obtain rfl := Option.some.inj hT0
      clear ho hT0
      exact ⟨fun _ => val_wp (run_move rfl (E.get 5 rfl)) rfl hM, fun h => by rw [w_yes (g := 6) (s := 16) (b := false) E rfl rfl (by decide) (D 6 _ rfl rfl)] at h; cases h⟩
     | 13, ho, hT0, hl, D, DL =>
      obtain rfl := Option.some.inj ho
      obtain rfl := Option.some.inj hT0
      clear ho hT0
      exact ⟨fun _ => val_wp (run_move rfl (E.get 4 rfl)) rfl hM, fun h => by rw [w_yes (g := 6) (s := 16) (b := false) E rfl rfl (by decide) (D 6 _ rfl rfl)] at h; cases h⟩
     | 14, ho, hT0, hl, D, DL =>
      obtain rfl := Option.some.inj ho
      obtain rfl := Option.some.inj hT0
      clear ho hT0
      exact ⟨fun _ => val_wp (run_index22 (i := i) rfl ((D 12 _ rfl rfl).trans (by rw [hpe21])) (D 13 _ rfl rfl) hlt) rfl hM, fun h => by rw [w_yes (g := 6) (s := 16) (b := false) E rfl rfl (by decide) (D 6 _ rfl rfl)] at h; cases h⟩
     | 15, ho, hT0, hl, D, DL =>
      obtain rfl := Option.some.inj ho
      obtain rfl := Option.some.inj hT0
      clear ho hT0
      exact ⟨fun _ => val_wp (fa48_1 rfl (D 14 _ rfl rfl)) rfl hM, fun h => by rw [w_yes (g := 6) (s := 16) (b := false) E rfl rfl (by decide) (D 6 _ rfl rfl)] at h; cases h⟩
     | 16, ho, hT0, hl, D, DL =>
      obtain rfl := Option.some.inj ho
      obtain rfl := Option.some.inj hT0
      clear ho hT0
      exact ⟨fun _ => val_wp (run_ldi rfl (D 15 _ rfl rfl) (hrow21 1 _ rfl)) rfl hM, fun h => by rw [w_yes (g := 6) (s := 16) (b := false) E rfl rfl (by decide) (D 6 _ rfl rfl)] at h; cases h⟩
     | 17, ho, hT0, hl, D, DL =>
      obtain rfl := Option.some.inj ho
      obtain rfl := Option.some.inj hT0
      clear ho hT0
      exact ⟨fun _ => val_wp ((run_igeq (D 11 _ rfl rfl) (D 16 _ rfl rfl) Tryz.underlying3 rfl).trans (by rw [hq23] <;> rfl)) rfl hM, fun h => by rw [w_yes (g := 6) (s := 16) (b := false) E rfl rfl (by decide) (D 6 _ rfl rfl)] at h; cases h⟩
     | 18, ho, hT0, hl, D, DL =>
      obtain rfl := Option.some.inj ho
      obtain rfl := Option.some.inj hT0
      clear ho hT0
      exact ⟨fun _ => val_wp (run_pick_f rfl (D 6 _ rfl rfl) (D 17 _ rfl rfl)) rfl hM, fun h => by rw [wanted_none rfl] at h; cases h⟩
     | 19, ho, hT0, hl, D, DL =>
      obtain rfl := Option.some.inj ho
      obtain rfl := Option.some.inj hT0
      clear ho hT0
      exact ⟨fun _ => val_wp (run_move rfl (D 18 _ rfl rfl)) rfl hM, fun h => by rw [wanted_none rfl] at h; cases h⟩
     | 20, ho, hT0, hl, D, DL =>
      obtain rfl := Option.some.inj ho
      obtain rfl := Option.some.inj hT0
      clear ho hT0
      exact ⟨fun h => (by rw [w_no (g := 19) (s := 29) (b := false) E rfl rfl (by decide) (D 19 _ rfl rfl)] at h; cases h), fun _ => ⟨fun x hx => by cases hx; rfl, hM⟩⟩
     | 21, ho, hT0, hl, D, DL =>
      obtain rfl := Option.some.inj ho
      obtain rfl := Option.some.inj hT0
      clear ho hT0
      exact ⟨fun h => (by rw [w_no (g := 19) (s := 29) (b := false) E rfl rfl (by decide) (D 19 _ rfl rfl)] at h; cases h), fun _ => ⟨fun x hx => by cases hx; rfl, hM⟩⟩
     | 22, ho, hT0, hl, D, DL =>
      obtain rfl := Option.some.inj ho
      obtain rfl := Option.some.inj hT0
      clear ho hT0
      exact ⟨fun h => (by rw [w_no (g := 19) (s := 29) (b := false) E rfl rfl (by decide) (D 19 _ rfl rfl)] at h; cases h), fun _ => ⟨fun x hx => by cases hx; rfl, hM⟩⟩
     | 23, ho, hT0, hl, D, DL =>
      obtain rfl := Option.some.inj ho
      obtain rfl := Option.some.inj hT0
      clear ho hT0
      exact ⟨fun h => (by rw [w_no (g := 19) (s := 29) (b := false) E rfl rfl (by decide) (D 19 _ rfl rfl)] at h; cases h), fun _ => ⟨fun x hx => by cases hx; rfl, hM⟩⟩
     | 24, ho, hT0, hl, D, DL =>
      obtain rfl := Option.some.inj ho
      obtain rfl := Option.some.inj hT0
      clear ho hT0
      exact ⟨fun h => (by rw [w_no (g := 19) (s := 29) (b := false) E rfl rfl (by decide) (D 19 _ rfl rfl)] at h; cases h), fun _ => ⟨fun x hx => by cases hx; rfl, hM⟩⟩
     | 25, ho, hT0, hl, D, DL =>
      obtain rfl := Option.some.inj ho
      obtain rfl := Option.some.inj hT0
      clear ho hT0
      exact ⟨fun h => (by rw [w_no (g := 19) (s := 29) (b := false) E rfl rfl (by decide) (D 19 _ rfl rfl)] at h; cases h), fun _ => ⟨fun x hx => by cases hx; rfl, hM⟩⟩
     | 26, ho, hT0, hl, D, DL =>
      obtain rfl := Option.some.inj ho
      obtain rfl := Option.some.inj hT0
      clear ho hT0
      exact ⟨fun _ => val_wp (run_pick_t rfl (D 19 _ rfl rfl) rfl) rfl hM, fun h => by rw [wanted_none rfl] at h; cases h⟩
     | 27, ho, hT0, hl, D, DL =>
      obtain rfl := Option.some.inj ho
      obtain rfl := Option.some.inj hT0
      clear ho hT0
      exact ⟨fun _ => val_wp (run_move rfl (D 26 _ rfl rfl)) rfl hM, fun h => by rw [wanted_none rfl] at h; cases h⟩
     | 28, ho, hT0, hl, D, DL =>
      obtain rfl := Option.some.inj ho
      obtain rfl := Option.some.inj hT0
      clear ho hT0
      exact ⟨fun h => (by rw [w_no (g := 27) (s := 37) (b := false) E rfl rfl (by decide) (D 27 _ rfl rfl)] at h; cases h), fun _ => ⟨fun x hx => by cases hx; rfl, hM⟩⟩
     | 29, ho, hT0, hl, D, DL =>
      obtain rfl := Option.some.inj ho
      obtain rfl := Option.some.inj hT0
      clear ho hT0
      exact ⟨fun h => (by rw [w_no (g := 27) (s := 37) (b := false) E rfl rfl (by decide) (D 27 _ rfl rfl)] at h; cases h), fun _ => ⟨fun x hx => by cases hx; rfl, hM⟩⟩
     | 30, ho, hT0, hl, D, DL =>
      obtain rfl := Option.some.inj ho
      obtain rfl := Option.some.inj hT0
      clear ho hT0
      exact ⟨fun h => (by rw [w_no (g := 27) (s := 37) (b := false) E rfl rfl (by decide) (D 27 _ rfl rfl)] at h; cases h), fun _ => ⟨fun x hx => by cases hx; rfl, hM⟩⟩
     | 31, ho, hT0, hl, D, DL =>
      obtain rfl := Option.some.inj ho
      obtain rfl := Option.some.inj hT0
      clear ho hT0
      exact ⟨fun h => (by rw [w_nou (g := 30) (s := 40) (b := true) E rfl rfl (by decide) (D 30 _ rfl rfl)] at h; cases h), fun _ => ⟨fun x hx => by cases hx; rfl, hM⟩⟩
     | 32, ho, hT0, hl, D, DL =>
      obtain rfl := Option.some.inj ho
      obtain rfl := Option.some.inj hT0
      clear ho hT0
      exact ⟨fun h => (by rw [w_nou (g := 30) (s := 40) (b := true) E rfl rfl (by decide) (D 30 _ rfl rfl)] at h; cases h), fun _ => ⟨fun x hx => by cases hx; rfl, hM⟩⟩
     | 33, ho, hT0, hl, D, DL =>
      obtain rfl := Option.some.inj ho
      obtain rfl := Option.some.inj hT0
      clear ho hT0
      exact ⟨fun h => (by rw [w_nou (g := 30) (s := 40) (b := true) E rfl rfl (by decide) (D 30 _ rfl rfl)] at h; cases h), fun _ => ⟨fun x hx => by cases hx; rfl, hM⟩⟩
     | 34, ho, hT0, hl, D, DL =>
      obtain rfl := Option.some.inj ho
      obtain rfl := Option.some.inj hT0
      clear ho hT0
      exact ⟨fun h => (by rw [w_nou (g := 30) (s := 40) (b := true) E rfl rfl (by decide) (D 30 _ rfl rfl)] at h; cases h), fun _ => ⟨fun x hx => by cases hx; rfl, hM⟩⟩
     | 35, ho, hT0, hl, D, DL =>
      obtain rfl := Option.some.inj ho
      obtain rfl := Option.some.inj hT0
      clear ho hT0
      exact ⟨fun h => (by rw [w_nou (g := 30) (s := 40) (b := true) E rfl rfl (by decide) (D 30 _ rfl rfl)] at h; cases h), fun _ => ⟨fun x hx => by cases hx; rfl, hM⟩⟩
     | 36, ho, hT0, hl, D, DL =>
      obtain rfl := Option.some.inj ho
      obtain rfl := Option.some.inj hT0
      clear ho hT0
      exact ⟨fun h => (by rw [w_nou (g := 30) (s := 40) (b := true) E rfl rfl (by decide) (D 30 _ rfl rfl)] at h; cases h), fun _ => ⟨fun x hx => by cases hx; rfl, hM⟩⟩
     | 37, ho, hT0, hl, D, DL =>
      obtain rfl := Option.some.inj ho
      obtain rfl := Option.some.inj hT0
      clear ho hT0
      exact ⟨fun h => (by rw [w_nou (g := 30) (s := 40) (b := true) E rfl rfl (by decide) (D 30 _ rfl rfl)] at h; cases h), fun _ => ⟨fun x hx => by cases hx; rfl, hM⟩⟩
     | 38, ho, hT0, hl, D, DL =>
      obtain rfl := Option.some.inj ho
      obtain rfl := Option.some.inj hT0
      clear ho hT0
      exact ⟨fun h => (by rw [w_nou (g := 30) (s := 40) (b := true) E rfl rfl (by decide) (D 30 _ rfl rfl)] at h; cases h), fun _ => ⟨fun x hx => by cases hx; rfl, hM⟩⟩
     | 39, ho, hT0, hl, D, DL =>
      obtain rfl := Option.some.inj ho
      obtain rfl := Option.some.inj hT0
      clear ho hT0
      exact ⟨fun h => (by rw [w_nou (g := 30) (s := 40) (b := true) E rfl rfl (by decide) (D 30 _ rfl rfl)] at h; cases h), fun _ => ⟨fun x hx => by cases hx; rfl, hM⟩⟩
     | 40, ho, hT0, hl, D, DL =>
      obtain rfl := Option.some.inj ho
      obtain rfl := Option.some.inj hT0
      clear ho hT0
      exact ⟨fun h => (by rw [w_nou (g := 30) (s := 40) (b := true) E rfl rfl (by decide) (D 30 _ rfl rfl)] at h; cases h), fun _ => ⟨fun x hx => by cases hx; rfl, hM⟩⟩
     | 41, ho, hT0, hl, D, DL =>
      obtain rfl := Option.some.inj ho
      obtain rfl := Option.some.inj hT0
      clear ho hT0
      exact ⟨fun h => (by rw [w_nou (g := 30) (s := 40) (b := true) E rfl rfl (by decide) (D 30 _ rfl rfl)] at h; cases h), fun _ => ⟨fun x hx => by cases hx; rfl, hM⟩⟩
     | 42, ho, hT0, hl, D, DL =>
      obtain rfl := Option.some.inj ho
      obtain rfl := Option.some.inj hT0
      clear ho hT0
      exact ⟨fun h => (by rw [w_nou (g := 30) (s := 40) (b := true) E rfl rfl (by decide) (D 30 _ rfl rfl)] at h; cases h), fun _ => ⟨fun x hx => by cases hx; rfl, hM⟩⟩
     | 43, ho, hT0, hl, D, DL =>
      obtain rfl := Option.some.inj ho
      obtain rfl := Option.some.inj hT0
      clear ho hT0
      exact ⟨fun h => (by rw [w_no (g := 27) (s := 37) (b := false) E rfl rfl (by decide) (D 27 _ rfl rfl)] at h; cases h), fun _ => ⟨fun x hx => by cases hx; rfl, hM⟩⟩
     | 44, ho, hT0, hl, D, DL =>
      obtain rfl := Option.some.inj ho
      obtain rfl := Option.some.inj hT0
      clear ho hT0
      exact ⟨fun _ => val_wp (run_pick_t rfl (D 27 _ rfl rfl) rfl) rfl hM, fun h => by rw [wanted_none rfl] at h; cases h⟩
     | j9 + 45, ho, hT0, hl, D, DL => exact absurd hT0 (by simp)
    ·intro a w5 E V hM
     have E := E.add (V 44 _ rfl)
     clear V
     have hsp0 := srcAt.fr hsp0 hM (fun r hr => id)
     have hrow21 := fun j u hu => hM.cell (hrow21 j u hu) id
     have hf := hf.trans hM
     clear hM
     refine then_n ?_
     refine wp_cond_true (E.get 0 rfl) ?_
     refine wp_seq ?_
     refine wp_region_lit ?_
     refine ep (v := .bool false) E (run_assign rfl rfl) fun a E => ?_
     refine wpList_nil ?_
     refine then_n ?_
     refine wp_ret ?_
     refine blk_r ?_
     refine then_r ?_
     refine then_r ?_
     refine blk_r ?_
     refine then_r ?_
     refine ret_tmp (t := 2) rfl E (E.get 0 rfl) ⟨?_, hf⟩
     have qhq20 := of_decide_eq_true hq20
     have qhq22 := of_decide_eq_false hq22
     have qhq23 := of_decide_eq_true hq23
     rw [hv, vl_go hy]
     have h9 : (decide (lastTo l i < y.1) && decide (y.1 < y.2) && decide (y.2 ≤ 10080)) = false := by
      rw [Bool.eq_false_iff]; intro h
      simp only [Bool.and_eq_true, decide_eq_true_eq] at h
      have hl0 : 0 < i → (∀ y, l[i - 1]? = some y → lastTo l i = y.2) := fun h0 y hy => lastTo_pred h0 hy
      have hl1 : i = 0 → lastTo l i = -1 := by rintro rfl; rfl
      first | omega | (have hge : -1 ≤ lastTo l i := hge9; omega)
     rw [h9]; rfl
  | true =>
   refine wp_region_invg (n := 55) (base := [(7, .bool true), (6, .int .i64 (l.length : Int)), (5, .slice (p0) l.length cp0), (4, .int .i64 (i : Int)), (3, .int .i64 (i : Int)), (0, .slice (p0) l.length cp0)]) (T := [some (10, .slice (p0) l.length cp0), some (11, .int .i64 (i : Int)), some (12, .pointer (some ⟨g21, (off21 + i * 2), none⟩)), some (13, .pointer (some ⟨g21, ((off21 + i * 2) + 0), none⟩)), some (14, .int .i64 y.1), some (15, .bool true), some (16, .bool true), some (17, undef), some (18, undef), some (19, undef), some (20, undef), some (21, undef), some (22, undef), some (23, undef), some (24, undef), some (25, undef), some (26, undef), some (27, undef), some (28, .bool true), some (29, .bool true), some (30, undef), some (31, undef), some (32, undef), some (33, undef), some (34, undef), some (35, undef), some (36, .bool true), some (37, .bool true), some (38, undef), some (39, undef), some (40, undef), some (41, undef), some (42, undef), some (43, undef), some (44, undef), some (45, undef), some (46, undef), some (47, undef), some (48, undef), some (49, undef), some (50, undef), some (51, undef), some (52, undef), some (53, undef), some (54, .bool true)]) (M := fun _ wm => Fr (fun _ => False) w2 wm) (by kernel_rfl) (by kernel_rfl) (by kernel_rfl) (E.of ⟨E.get 0 rfl, E.get 1 rfl, E.get 2 rfl, E.get 3 rfl, E.get 4 rfl, E.get 5 rfl, trivial⟩) (Fr.refl _ _).drew ?_ ?_
   ·intro j9 o9 t9 ls9 a w5 ho hT0 hl E D DL hM
    have hsp0 := srcAt.fr hsp0 hM (fun r hr => id)
    have hrow21 := fun j u hu => hM.cell (hrow21 j u hu) id
    match j9, ho, hT0, hl, D, DL with
    | 0, ho, hT0, hl, D, DL =>
     obtain rfl := Option.some.inj ho
     obtain rfl := Option.some.inj hT0
     clear ho hT0
     exact ⟨fun _ => val_wp (run_move rfl (E.get 5 rfl)) rfl hM, fun h => by rw [wanted_none rfl] at h; cases h⟩
    | 1, ho, hT0, hl, D, DL =>
     obtain rfl := Option.some.inj ho
     obtain rfl := Option.some.inj hT0
     clear ho hT0
     exact ⟨fun _ => val_wp (run_move rfl (E.get 4 rfl)) rfl hM, fun h => by rw [wanted_none rfl] at h; cases h⟩
    | 2, ho, hT0, hl, D, DL =>
     obtain rfl := Option.some.inj ho
     obtain rfl := Option.some.inj hT0
     clear ho hT0
     exact ⟨fun _ => val_wp (run_index22 (i := i) rfl ((D 0 _ rfl rfl).trans (by rw [hpe21])) (D 1 _ rfl rfl) hlt) rfl hM, fun h => by rw [wanted_none rfl] at h; cases h⟩
    | 3, ho, hT0, hl, D, DL =>
     obtain rfl := Option.some.inj ho
     obtain rfl := Option.some.inj hT0
     clear ho hT0
     exact ⟨fun _ => val_wp (fa48_0 rfl (D 2 _ rfl rfl)) rfl hM, fun h => by rw [wanted_none rfl] at h; cases h⟩
    | 4, ho, hT0, hl, D, DL =>
     obtain rfl := Option.some.inj ho
     obtain rfl := Option.some.inj hT0
     clear ho hT0
     exact ⟨fun _ => val_wp (run_ldi rfl (D 3 _ rfl rfl) (hrow21 0 _ rfl)) rfl hM, fun h => by rw [wanted_none rfl] at h; cases h⟩
    | 5, ho, hT0, hl, D, DL =>
     obtain rfl := Option.some.inj ho
     obtain rfl := Option.some.inj hT0
     clear ho hT0
     exact ⟨fun _ => val_wp ((run_ilss (D 4 _ rfl rfl) rfl Tryz.underlying3 rfl).trans (by rw [hq22] <;> rfl)) rfl hM, fun h => by rw [wanted_none rfl] at h; cases h⟩
    | 6, ho, hT0, hl, D, DL =>
     obtain rfl := Option.some.inj ho
     obtain rfl := Option.some.inj hT0
     clear ho hT0
     exact ⟨fun _ => val_wp (run_move rfl (D 5 _ rfl rfl)) rfl hM, fun h => by rw [wanted_none rfl] at h; cases h⟩
    | 7, ho, hT0, hl, D, DL =>
     obtain rfl := Option.some.inj ho
     obtain rfl := Option.some.inj hT0
     clear ho hT0
     exact ⟨fun h => (by rw [w_no (g := 6) (s := 16) (b := false) E rfl rfl (by decide) (D 6 _ rfl rfl)] at h; cases h), fun _ => ⟨fun x hx => by cases hx; rfl, hM⟩⟩
    | 8, ho, hT0, hl, D, DL =>
     obtain rfl := Option.some.inj ho
     obtain rfl := Option.some.inj hT0
     clear ho hT0
     exact ⟨fun h => (by rw [w_no (g := 6) (s := 16) (b := false) E rfl rfl (by decide) (D 6 _ rfl rfl)] at h; cases h), fun _ => ⟨fun x hx => by cases hx; rfl, hM⟩⟩
    | 9, ho, hT0, hl, D, DL =>
     obtain rfl := Option.some.inj ho
     obtain rfl := Option.some.inj hT0
     clear ho hT0
     exact ⟨fun h => (by rw [w_no (g := 6) (s := 16) (b := false) E rfl rfl (by decide) (D 6 _ rfl rfl)] at h; cases h), fun _ => ⟨fun x hx => by cases hx; rfl, hM⟩⟩
    | 10, ho, hT0, hl, D, DL =>
     obtain rfl := Option.some.inj ho
     obtain rfl := Option.some.inj hT0
     clear ho hT0
     exact ⟨fun h => (by rw [w_no (g := 6) (s := 16) (b := false) E rfl rfl (by decide) (D 6 _ rfl rfl)] at h; cases h), fun _ => ⟨fun x hx => by cases hx; rfl, hM⟩⟩
    | 11, ho, hT0, hl, D, DL =>
     obtain rfl := Option.some.inj ho
     obtain rfl := Option.some.inj hT0
     clear ho hT0
     exact ⟨fun h => (by rw [w_no (g := 6) (s := 16) (b := false) E rfl rfl (by decide) (D 6 _ rfl rfl)] at h; cases h), fun _ => ⟨fun x hx => by cases hx; rfl, hM⟩⟩
    | 12, ho, hT0, hl, D, DL =>
     obtain rfl := Option.some.inj ho
     obtain rfl := Option.some.inj hT0
     clear ho hT0
     exact ⟨fun h => (by rw [w_no (g := 6) (s := 16) (b := false) E rfl rfl (by decide) (D 6 _ rfl rfl)] at h; cases h), fun _ => ⟨fun x hx => by cases hx; rfl, hM⟩⟩
    | 13, ho, hT0, hl, D, DL =>
     obtain rfl := Option.some.inj ho
     obtain rfl := Option.some.inj hT0
     clear ho hT0
     exact ⟨fun h => (by rw [w_no (g := 6) (s := 16) (b := false) E rfl rfl (by decide) (D 6 _ rfl rfl)] at h; cases h), fun _ => ⟨fun x hx => by cases hx; rfl, hM⟩⟩
    | 14, ho, hT0, hl, D, DL =>
     obtain rfl := Option.some.inj ho
     obtain rfl := Option.some.inj hT0
     clear ho hT0
     exact ⟨fun h => (by rw [w_no (g := 6) (s := 16) (b := false) E rfl rfl (by decide) (D 6 _ rfl rfl)] at h; cases h), fun _ => ⟨fun x hx => by cases hx; rfl, hM⟩⟩
    | 15, ho, hT0, hl, D, DL =>
     obtain rfl := Option.some.inj ho
     obtain rfl := Option.some.inj hT0
     clear ho hT0
     exact ⟨fun h => (by rw [w_no (g := 6) (s := 16) (b := false) E rfl rfl (by decide) (D 6 _ rfl rfl)] at h; cases h), fun _ => ⟨fun x hx => by cases hx; rfl, hM⟩⟩
    | 16, ho, hT0, hl, D, DL =>
     obtain rfl := Option.some.inj ho
     obtain rfl := Option.some.inj hT0
     clear ho hT0
     exact ⟨fun h => (by rw [w_no (g := 6) (s := 16) (b := false) E rfl rfl (by decide) (D 6 _ rfl rfl)] at h; cases h), fun _ => ⟨fun x hx => by cases hx; rfl, hM⟩⟩
    | 17, ho, hT0, hl, D, DL =>
     obtain rfl := Option.some.inj ho
     obtain rfl := Option.some.inj hT0
     clear ho hT0
     exact ⟨fun h => (by rw [w_no (g := 6) (s := 16) (b := false) E rfl rfl (by decide) (D 6 _ rfl rfl)] at h; cases h), fun _ => ⟨fun x hx => by cases hx; rfl, hM⟩⟩
    | 18, ho, hT0, hl, D, DL =>
     obtain rfl := Option.some.inj ho
     obtain rfl := Option.some.inj hT0
     clear ho hT0
     exact ⟨fun _ => val_wp (run_pick_t rfl (D 6 _ rfl rfl) rfl) rfl hM, fun h => by rw [wanted_none rfl] at h; cases h⟩
    | 19, ho, hT0, hl, D, DL =>
     obtain rfl := Option.some.inj ho
     obtain rfl := Option.some.inj hT0
     clear ho hT0
     exact ⟨fun _ => val_wp (run_move rfl (D 18 _ rfl rfl)) rfl hM, fun h => by rw [wanted_none rfl] at h; cases h⟩
    | 20, ho, hT0, hl, D, DL =>
     obtain rfl := Option.some.inj ho
     obtain rfl := Option.some.inj hT0
     clear ho hT0
     exact ⟨fun h => (by rw [w_no (g := 19) (s := 29) (b := false) E rfl rfl (by decide) (D 19 _ rfl rfl)] at h; cases h), fun _ => ⟨fun x hx => by cases hx; rfl, hM⟩⟩
    | 21, ho, hT0, hl, D, DL =>
     obtain rfl := Option.some.inj ho
     obtain rfl := Option.some.inj hT0
     clear ho hT0
     exact ⟨fun h => (by rw [w_no (g := 19) (s := 29) (b := false) E rfl rfl (by decide) (D 19 _ rfl rfl)] at h; cases h), fun _ => ⟨fun x hx => by cases hx; rfl, hM⟩⟩
    | 22, ho, hT0, hl, D, DL =>
     obtain rfl := Option.some.inj ho
     obtain rfl := Option.some.inj hT0
     clear ho hT0
     exact ⟨fun h => (by rw [w_no (g := 19) (s := 29) (b := false) E rfl rfl (by decide) (D 19 _ rfl rfl)] at h; cases h), fun _ => ⟨fun x hx => by cases hx; rfl, hM⟩⟩
    | 23, ho, hT0, hl, D, DL =>
     obtain rfl := Option.some.inj ho
     obtain rfl := Option.some.inj hT0
     clear ho hT0
     exact ⟨fun h => (by rw [w_no (g := 19) (s := 29) (b := false) E rfl rfl (by decide) (D 19 _ rfl rfl)] at h; cases h), fun _ => ⟨fun x hx => by cases hx; rfl, hM⟩⟩
    | 24, ho, hT0, hl, D, DL =>
     obtain rfl := Option.some.inj ho
     obtain rfl := Option.some.inj hT0
     clear ho hT0
     exact ⟨fun h => (by rw [w_no (g := 19) (s := 29) (b := false) E rfl rfl (by decide) (D 19 _ rfl rfl)] at h; cases h), fun _ => ⟨fun x hx => by cases hx; rfl, hM⟩⟩
    | 25, ho, hT0, hl, D, DL =>
     obtain rfl := Option.some.inj ho
     obtain rfl := Option.some.inj hT0
     clear ho hT0
     exact ⟨fun h => (by rw [w_no (g := 19) (s := 29) (b := false) E rfl rfl (by decide) (D 19 _ rfl rfl)] at h; cases h), fun _ => ⟨fun x hx => by cases hx; rfl, hM⟩⟩
    | 26, ho, hT0, hl, D, DL =>
     obtain rfl := Option.some.inj ho
     obtain rfl := Option.some.inj hT0
     clear ho hT0
     exact ⟨fun _ => val_wp (run_pick_t rfl (D 19 _ rfl rfl) rfl) rfl hM, fun h => by rw [wanted_none rfl] at h; cases h⟩
    | 27, ho, hT0, hl, D, DL =>
     obtain rfl := Option.some.inj ho
     obtain rfl := Option.some.inj hT0
     clear ho hT0
     exact ⟨fun _ => val_wp (run_move rfl (D 26 _ rfl rfl)) rfl hM, fun h => by rw [wanted_none rfl] at h; cases h⟩
    | 28, ho, hT0, hl, D, DL =>
     obtain rfl := Option.some.inj ho
     obtain rfl := Option.some.inj hT0
     clear ho hT0
     exact ⟨fun h => (by rw [w_no (g := 27) (s := 37) (b := false) E rfl rfl (by decide) (D 27 _ rfl rfl)] at h; cases h), fun _ => ⟨fun x hx => by cases hx; rfl, hM⟩⟩
    | 29, ho, hT0, hl, D, DL =>
     obtain rfl := Option.some.inj ho
     obtain rfl := Option.some.inj hT0
     clear ho hT0
     exact ⟨fun h => (by rw [w_no (g := 27) (s := 37) (b := false) E rfl rfl (by decide) (D 27 _ rfl rfl)] at h; cases h), fun _ => ⟨fun x hx => by cases hx; rfl, hM⟩⟩
    | 30, ho, hT0, hl, D, DL =>
     obtain rfl := Option.some.inj ho
     obtain rfl := Option.some.inj hT0
     clear ho hT0
     exact ⟨fun h => (by rw [w_no (g := 27) (s := 37) (b := false) E rfl rfl (by decide) (D 27 _ rfl rfl)] at h; cases h), fun _ => ⟨fun x hx => by cases hx; rfl, hM⟩⟩
    | 31, ho, hT0, hl, D, DL =>
     obtain rfl := Option.some.inj ho
     obtain rfl := Option.some.inj hT0
     clear ho hT0
     exact ⟨fun h => (by rw [w_nou (g := 30) (s := 40) (b := true) E rfl rfl (by decide) (D 30 _ rfl rfl)] at h; cases h), fun _ => ⟨fun x hx => by cases hx; rfl, hM⟩⟩
    | 32, ho, hT0, hl, D, DL =>
     obtain rfl := Option.some.inj ho
     obtain rfl := Option.some.inj hT0
     clear ho hT0
     exact ⟨fun h => (by rw [w_nou (g := 30) (s := 40) (b := true) E rfl rfl (by decide) (D 30 _ rfl rfl)] at h; cases h), fun _ => ⟨fun x hx => by cases hx; rfl, hM⟩⟩
    | 33, ho, hT0, hl, D, DL =>
     obtain rfl := Option.some.inj ho
     obtain rfl := Option.some.inj hT0
     clear ho hT0
     exact ⟨fun h => (by rw [w_nou (g := 30) (s := 40) (b := true) E rfl rfl (by decide) (D 30 _ rfl rfl)] at h; cases h), fun _ => ⟨fun x hx => by cases hx; rfl, hM⟩⟩
    | 34, ho, hT0, hl, D, DL =>
     obtain rfl := Option.some.inj ho
     obtain rfl := Option.some.inj hT0
     clear ho hT0
     exact ⟨fun h => (by rw [w_nou (g := 30) (s := 40) (b := true) E rfl rfl (by decide) (D 30 _ rfl rfl)] at h; cases h), fun _ => ⟨fun x hx => by cases hx; rfl, hM⟩⟩
    | 35, ho, hT0, hl, D, DL =>
     obtain rfl := Option.some.inj ho
     obtain rfl := Option.some.inj hT0
     clear ho hT0
     exact ⟨fun h => (by rw [w_nou (g := 30) (s := 40) (b := true) E rfl rfl (by decide) (D 30 _ rfl rfl)] at h; cases h), fun _ => ⟨fun x hx => by cases hx; rfl, hM⟩⟩
    | 36, ho, hT0, hl, D, DL =>
     obtain rfl := Option.some.inj ho
     obtain rfl := Option.some.inj hT0
     clear ho hT0
     exact ⟨fun h => (by rw [w_nou (g := 30) (s := 40) (b := true) E rfl rfl (by decide) (D 30 _ rfl rfl)] at h; cases h), fun _ => ⟨fun x hx => by cases hx; rfl, hM⟩⟩
    | 37, ho, hT0, hl, D, DL =>
     obtain rfl := Option.some.inj ho
     obtain rfl := Option.some.inj hT0
     clear ho hT0
     exact ⟨fun h => (by rw [w_nou (g := 30) (s := 40) (b := true) E rfl rfl (by decide) (D 30 _ rfl rfl)] at h; cases h), fun _ => ⟨fun x hx => by cases hx; rfl, hM⟩⟩
    | 38, ho, hT0, hl, D, DL =>
     obtain rfl := Option.some.inj ho
     obtain rfl := Option.some.inj hT0
     clear ho hT0
     exact ⟨fun h => (by rw [w_nou (g := 30) (s := 40) (b := true) E rfl rfl (by decide) (D 30 _ rfl rfl)] at h; cases h), fun _ => ⟨fun x hx => by cases hx; rfl, hM⟩⟩
    | 39, ho, hT0, hl, D, DL =>
     obtain rfl := Option.some.inj ho
     obtain rfl := Option.some.inj hT0
     clear ho hT0
     exact ⟨fun h => (by rw [w_nou (g := 30) (s := 40) (b := true) E rfl rfl (by decide) (D 30 _ rfl rfl)] at h; cases h), fun _ => ⟨fun x hx => by cases hx; rfl, hM⟩⟩
    | 40, ho, hT0, hl, D, DL =>
     obtain rfl := Option.some.inj ho
     obtain rfl := Option.some.inj hT0
     clear ho hT0
     exact ⟨fun h => (by rw [w_nou (g := 30) (s := 40) (b := true) E rfl rfl (by decide) (D 30 _ rfl rfl)] at h; cases h), fun _ => ⟨fun x hx => by cases hx; rfl, hM⟩⟩
    | 41, ho, hT0, hl, D, DL =>
     obtain rfl := Option.some.inj ho
     obtain rfl := Option.some.inj hT0
     clear ho hT0
     exact ⟨fun h => (by rw [w_nou (g := 30) (s := 40) (b := true) E rfl rfl (by decide) (D 30 _ rfl rfl)] at h; cases h), fun _ => ⟨fun x hx => by cases hx; rfl, hM⟩⟩
    | 42, ho, hT0, hl, D, DL =>
     obtain rfl := Option.some.inj ho
     obtain rfl := Option.some.inj hT0
     clear ho hT0
     exact ⟨fun h => (by rw [w_nou (g := 30) (s := 40) (b := true) E rfl rfl (by decide) (D 30 _ rfl rfl)] at h; cases h), fun _ => ⟨fun x hx => by cases hx; rfl, hM⟩⟩
    | 43, ho, hT0, hl, D, DL =>
     obtain rfl := Option.some.inj ho
     obtain rfl := Option.some.inj hT0
     clear ho hT0
     exact ⟨fun h => (by rw [w_no (g := 27) (s := 37) (b := false) E rfl rfl (by decide) (D 27 _ rfl rfl)] at h; cases h), fun _ => ⟨fun x hx => by cases hx; rfl, hM⟩⟩
    | 44, ho, hT0, hl, D, DL =>
     obtain rfl := Option.some.inj ho
     obtain rfl := Option.some.inj hT0
     clear ho hT0
     exact ⟨fun _ => val_wp (run_pick_t rfl (D 27 _ rfl rfl) rfl) rfl hM, fun h => by rw [wanted_none rfl] at h; cases h⟩
    | j9 + 45, ho, hT0, hl, D, DL => exact absurd hT0 (by simp)
   ·intro a w5 E V hM
    have E := E.add (V 44 _ rfl)
    clear V
    have hsp0 := srcAt.fr hsp0 hM (fun r hr => id)
    have hrow21 := fun j u hu => hM.cell (hrow21 j u hu) id
    have hf := hf.trans hM
    clear hM
    refine then_n ?_
    refine wp_cond_true (E.get 0 rfl) ?_
    refine wp_seq ?_
    refine wp_region_lit ?_
    refine ep (v := .bool false) E (run_assign rfl rfl) fun a E => ?_
    refine wpList_nil ?_
    refine then_n ?_
    refine wp_ret ?_
    refine blk_r ?_
    refine then_r ?_
    refine then_r ?_
    refine blk_r ?_
    refine then_r ?_
    refine ret_tmp (t := 2) rfl E (E.get 0 rfl) ⟨?_, hf⟩
    have qhq20 := of_decide_eq_true hq20
    have qhq22 := of_decide_eq_true hq22
    rw [hv, vl_go hy]
    have h9 : (decide (lastTo l i < y.1) && decide (y.1 < y.2) && decide (y.2 ≤ 10080)) = false := by
     rw [Bool.eq_false_iff]; intro h
     simp only [Bool.and_eq_true, decide_eq_true_eq] at h
     have hl0 : 0 < i → (∀ y, l[i - 1]? = some y → lastTo l i = y.2) := fun h0 y hy => lastTo_pred h0 hy
     have hl1 : i = 0 → lastTo l i = -1 := by rintro rfl; rfl
     first | omega | (have hge : -1 ≤ lastTo l i := hge9; omega)
    rw [h9]; rfl
end Go.Proofs.YtjaffpnegdcjnaaGreatDoor
