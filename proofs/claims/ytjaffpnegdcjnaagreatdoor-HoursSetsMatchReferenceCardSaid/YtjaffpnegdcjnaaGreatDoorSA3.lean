/- Next: the search. -/
import Derived.Test.YtjaffpnegdcjnaaGreatDoorSA2
import Derived.Test.YtjaffpnegdcjnaaGreatDoorSLib
set_option linter.unusedVariables false
set_option linter.unusedSimpArgs false
namespace Go.Proofs.YtjaffpnegdcjnaaGreatDoor
open Go.RowKit Go.Pl
section
variable {P : Program} {o : Oper} {w : World} {ρ : Operand → Value} {f : FuncId} {ts : Array TypeId} {x y z : Operand} {u v : Value} {cs bs : Array Value}
theorem run_callf1 (eg : ∀ args w, (callFunc f args).run P w = .ok (.enter f args) w) (ho : o.op = .call ⟨.value z, #[x], ts⟩) (hf : ρ z = .func (.func f) #[] cs) (hx : ρ x = v) (ha : #[v] ++ cs = bs) : (execOp ρ o).run P w = .ok (.enter f bs) w := by
 subst ha; simp [execOp, ho, hf, hx, eg, resolve, Deferred.ofValue, invoke, go_sem]
theorem run_callf2 (eg : ∀ args w, (callFunc f args).run P w = .ok (.enter f args) w) (ho : o.op = .call ⟨.value z, #[x, y], ts⟩) (hf : ρ z = .func (.func f) #[] cs) (hx : ρ x = u) (hy : ρ y = v) (ha : #[u, v] ++ cs = bs) : (execOp ρ o).run P w = .ok (.enter f bs) w := by
 subst ha; simp [execOp, ho, hf, hx, hy, eg, resolve, Deferred.ofValue, invoke, go_sem]
end
section
variable {o : Oper} {w : World} {ρ : Operand → Value} {x y : Operand} {m n : Int}
theorem run_tou64 (ho : o.op = .convert 3 117 x) (hx : ρ x = .int .i64 m) (h0 : 0 ≤ m) (h1 : m ≤ 9223372036854775807) : (execOp ρ o).run Tryz.prog w = .ok (.value (.int .u64 m)) w := by
 have e : IntKind.u64.wrap m = m := by
  show m % _ = m
  exact Int.emod_eq_of_lt h0 (by show m < 18446744073709551616; omega)
 simp [execOp, ho, hx, go_sem, e]
theorem run_toi64 (ho : o.op = .convert 117 3 x) (hx : ρ x = .int .u64 m) (h0 : 0 ≤ m) (h1 : m ≤ 9223372036854775807) : (execOp ρ o).run Tryz.prog w = .ok (.value (.int .i64 m)) w := by
 simp [execOp, ho, hx, go_sem, IntWalk.i64_in m ⟨by omega, h1⟩]
theorem run_half (ho : o.op = .binOp .shr 117 x y 117) (hx : ρ x = .int .u64 m) (hy : ρ y = .int .u64 1) (h0 : 0 ≤ m) (h1 : m ≤ 9223372036854775807) : (execOp ρ o).run Tryz.prog w = .ok (.value (.int .u64 (m / 2))) w := by
 have e : IntKind.u64.wrap (m / 2) = m / 2 := by
  show (m / 2) % _ = m / 2
  exact Int.emod_eq_of_lt (by omega) (by show m / 2 < 18446744073709551616; omega)
 have e2 : m >>> 1 = m / 2 := by rw [Int.shiftRight_eq_div_pow]; rfl
 simp [execOp, ho, hx, hy, go_sem, e, e2]
end
theorem run_ext0 {o : Oper} {w : World} {ρ : Operand → Value} {x : Operand} {u v : Value} (ho : o.op = .extract x 0) (hx : ρ x = .tuple #[u, v]) : (execOp ρ o).run Tryz.prog w = .ok (.value u) w := by simp [execOp, ho, hx, go_sem]
theorem run_ext1 {o : Oper} {w : World} {ρ : Operand → Value} {x : Operand} {u v : Value} (ho : o.op = .extract x 1) (hx : ρ x = .tuple #[u, v]) : (execOp ρ o).run Tryz.prog w = .ok (.value v) w := by simp [execOp, ho, hx, go_sem]
theorem cmp_fr (x y : Int) (w : World) : Calls Tryz.prog 51 #[.int .i64 x, .int .i64 y] w fun e w' => e = .returned (.int .i64 (Lib.compareInt x y)) ∧ Fr (fun _ => False) w w' := (Tryz.cmp_Compare_int x y w).mono fun e w' h => ⟨h.1, by rw [h.2]; exact Fr.refl _ _⟩
theorem cmp_lt {x y : Int} : decide (Lib.compareInt x y < 0) = decide (x < y) := by
 unfold Lib.compareInt; split
 ·simp [*]
 ·split <;> simp [*]
set_option maxRecDepth 100000 in
set_option maxHeartbeats 4000000 in
theorem next1_calls (s : Sp) {m : Int} (h0 : 0 ≤ m) (h1 : m ≤ 10080) (w : World) : Calls Tryz.prog 50 #[.agg (spA s), .int .i64 m] w fun e w' => e = .returned (.int .i64 (Lib.compareInt s.2 (m + 1))) ∧ Fr (fun _ => False) w w' := by
 refine wp_start2 Tryz.func50 rfl rfl (n := 10) (by decide) fun a E => ?_
 have hf : Fr (fun _ => False) w w := Fr.refl _ _
 refine wp_seq ?_
 refine wp_region_lit ?_
 refine env_new (d := 2) E rfl (by decide) rfl (wanted_none rfl _) (run_box48 rfl (E.get 0 rfl)) fun a w1 b1 eb1 hb1 f1 E => ?_
 have hnb1 : w.heap.size ≤ b1 := by have := hf.size; omega
 have hf := hf.trans f1
 clear f1
 refine ep (v := .int .i64 0) E (run_assign rfl rfl) fun a E => ?_
 refine wpList_nil ?_
 refine then_n ?_
 refine wp_seq ?_
 refine wp_region_lit ?_
 refine ep (v := .pointer (some ⟨b1, 1, none⟩)) E (fa48_1 rfl (E.get 1 rfl)) fun a E => ?_
 refine ep (v := .int .i64 s.2) E (run_ldi rfl (E.get 0 rfl) (bx hb1 1 rfl)) fun a E => ?_
 refine ep (v := .int .i64 m) E (run_move rfl (E.get 5 rfl)) fun a E => ?_
 refine ep (v := .int .i64 (m + 1)) E (run_iadd Tryz.underlying3 (E.get 0 rfl) rfl (by omega) (by omega) rfl) fun a E => ?_
 refine env_call (d := 9) (v := .int .i64 (Lib.compareInt s.2 (m + 1))) E rfl (by decide) rfl (wanted_none rfl _) (run_call2 (enters_of Tryz.func51 (by kernel_rfl) rfl) rfl rfl (E.get 2 rfl) (E.get 0 rfl)) (cmp_fr s.2 (m + 1) _) fun a w1 f1 E => ?_
 have hb1 := f1.obj hb1 id
 have hf := hf.trans f1
 clear f1
 refine env_set (d := 4) (v := .int .i64 (Lib.compareInt s.2 (m + 1))) E rfl (by decide) (wanted_none rfl _) (run_assign rfl (E.get 0 rfl)) fun a E => ?_
 refine wpList_nil ?_
 refine then_n ?_
 refine wp_ret ?_
 refine ret_tmp (t := 4) rfl E (E.get 0 rfl) ⟨rfl, hf⟩
set_option maxRecDepth 100000 in
set_option maxHeartbeats 4000000 in
theorem search_calls {w : World} {v : Value} {l : List Sp} (hl : SpV w v l) (hv : vl (-1) l = true) (hlen : l.length ≤ 20000) {m : Int} (h0 : 0 ≤ m) (h1 : m ≤ 10080) : Calls Tryz.prog 49 #[v, .int .i64 m, .func (.func 50) #[] #[]] w fun e w' => ∃ (i : Nat) (b : Bool), e = .returned (.tuple #[.int .i64 i, .bool b]) ∧ i ≤ l.length ∧ (∀ j z, j < i → l[j]? = some z → z.2 ≤ m) ∧ (∀ j z, i ≤ j → l[j]? = some z → m < z.2) ∧ Fr (fun _ => False) w w' := by
 obtain ⟨p0, cp0, hvp0, hlep0, hcapp0, hsp0, hzp0⟩ := hl
 subst hvp0
 refine wp_start3 Tryz.func49 rfl rfl (n := 49) (by decide) fun a E => ?_
 have hf : Fr (fun _ => False) w w := Fr.refl _ _
 have hln : l.length ≤ 20000 := hlen
 refine wp_seq ?_
 refine wp_region_lit ?_
 refine ep (v := .int .i64 0) E (run_assign rfl rfl) fun a E => ?_
 refine ep (v := .bool false) E (run_assign rfl rfl) fun a E => ?_
 refine wpList_nil ?_
 refine then_n ?_
 refine wp_seq ?_
 refine wp_region_lit ?_
 refine ep (v := .slice (p0) l.length cp0) E (run_move rfl (E.get 2 rfl)) fun a E => ?_
 refine ep (v := .int .i64 (l.length : Int)) E (run_len22 rfl (E.get 0 rfl)) fun a E => ?_
 refine ep (v := .int .i64 (l.length : Int)) E (run_assign rfl (E.get 0 rfl)) fun a E => ?_
 refine wpList_nil ?_
 refine then_n ?_
 refine wp_seq ?_
 refine wp_region_lit ?_
 refine ep (v := .int .i64 (l.length : Int)) E (run_move rfl (E.get 0 rfl)) fun a E => ?_
 refine ep (v := .int .i64 0) E (run_assign rfl rfl) fun a E => ?_
 refine ep (v := .int .i64 (l.length : Int)) E (run_assign rfl (E.get 1 rfl)) fun a E => ?_
 refine wpList_nil ?_
 refine then_n ?_
 refine wp_seq ?_
 refine wp_block ?_
 refine wp_loop (fun a w2 => ∃ (lo : Nat) (hi : Nat), Env 49 [(9, .int .i64 (lo : Int)), (10, .int .i64 (hi : Int)), (8, .int .i64 (l.length : Int)), (0, .slice (p0) l.length cp0), (1, .int .i64 m), (2, .func (.func 50) #[] #[])] a ∧ lo ≤ hi ∧ hi ≤ l.length ∧ (∀ j z, j < lo → l[j]? = some z → z.2 ≤ m) ∧ (∀ j z, hi ≤ j → l[j]? = some z → m < z.2) ∧ srcAt spL 2 w2 w.heap.size p0 l ∧ Fr (fun _ => False) w w2) (fun a _ => (intOf (a.eval (.tmp 10))).toNat - (intOf (a.eval (.tmp 9))).toNat) ?_ ?_
 ·exact ⟨0, l.length, E.of ⟨E.get 1 rfl, E.get 0 rfl, E.get 3 rfl, E.get 8 rfl, E.get 9 rfl, E.get 10 rfl, trivial⟩, Nat.zero_le _, Nat.le_refl _, fun j z h => by omega, fun j z h h2 => by have := (List.getElem?_eq_some_iff.1 h2).1; omega, hsp0, hf⟩
 clear E
 rintro a w2 ⟨lo, hi, E, hlh, hle, hA, hB, hsp0, hf⟩
 have hmu : (intOf (a.eval (.tmp 10))).toNat - (intOf (a.eval (.tmp 9))).toNat = hi - lo := by rw [E.get 0 rfl, E.get 1 rfl]; first | rfl | (simp [intOf]; done) | (simp only [intOf]; omega)
 rw [hmu]
 clear hmu
 refine wp_seq ?_
 refine wp_seq ?_
 refine wp_region_lit ?_
 refine ep (v := .int .i64 (lo : Int)) E (run_move rfl (E.get 0 rfl)) fun a E => ?_
 refine ep (v := .int .i64 (hi : Int)) E (run_move rfl (E.get 2 rfl)) fun a E => ?_
 refine ep (v := .bool (decide ((lo : Int) < (hi : Int)))) E (run_ilss (E.get 1 rfl) (E.get 0 rfl) Tryz.underlying3 rfl) fun a E => ?_
 refine wpList_nil ?_
 refine then_n ?_
 cases hq3 : (decide ((lo : Int) < (hi : Int))) with
 | false =>
  rw [hq3] at E
  have hee : lo = hi := by have := of_decide_eq_false hq3; omega
  refine wp_cond_false (E.get 0 rfl) ?_
  refine wp_exit ?_
  refine then_e ?_
  refine then_e ?_
  refine blk_e ?_
  refine then_n ?_
  refine wp_seq ?_
  refine wp_region_lit ?_
  refine ep (v := .int .i64 (lo : Int)) E (run_move rfl (E.get 3 rfl)) fun a E => ?_
  refine ep (v := .int .i64 (lo : Int)) E (run_move rfl (E.get 4 rfl)) fun a E => ?_
  refine ep (v := .int .i64 (l.length : Int)) E (run_move rfl (E.get 7 rfl)) fun a E => ?_
  refine ep (v := .bool (decide ((lo : Int) < (l.length : Int)))) E (run_ilss (E.get 1 rfl) (E.get 0 rfl) Tryz.underlying3 rfl) fun a E => ?_
  refine ep (v := .bool (decide ((lo : Int) < (l.length : Int)))) E (run_move rfl (E.get 0 rfl)) fun a E => ?_
  cases hq4 : (decide ((lo : Int) < (l.length : Int))) with
  | false =>
   rw [hq4] at E
   refine ek E rfl (E.get 0 rfl) fun a E => ?_
   refine ek E rfl (E.get 1 rfl) fun a E => ?_
   refine ek E rfl (E.get 2 rfl) fun a E => ?_
   refine ek E rfl (E.get 3 rfl) fun a E => ?_
   refine ek E rfl (E.get 4 rfl) fun a E => ?_
   refine ek E rfl (E.get 5 rfl) fun a E => ?_
   refine ek E rfl (E.get 6 rfl) fun a E => ?_
   refine ek E rfl (E.get 7 rfl) fun a E => ?_
   refine ep (v := .bool false) E (run_pick_f rfl (E.get 8 rfl) rfl) fun a E => ?_
   refine ep (v := .int .i64 (lo : Int)) E (run_assign rfl (E.get 13 rfl)) fun a E => ?_
   refine ep (v := .bool false) E (run_assign rfl (E.get 1 rfl)) fun a E => ?_
   refine wpList_nil ?_
   refine then_n ?_
   refine wp_ret ?_
   refine ret_tmp2 (t := 6) (t2 := 7) rfl E (E.get 1 rfl) (E.get 0 rfl) ⟨lo, _, rfl, by omega, hA, by rw [← hee] at hB; exact hB, hf⟩
  | true =>
   rw [hq4] at E
   have hlt : lo < l.length := by have := of_decide_eq_true hq4; omega
   obtain ⟨y, hy⟩ : ∃ y, l[lo]? = some y := ⟨_, List.getElem?_eq_getElem hlt⟩
   obtain ⟨g5, off5, hpe5, hgl5, hrow5⟩ := hsp0.at hlt
   replace hrow5 := hrow5 lo y hy
   refine eg (v := .func (.func 50) #[] #[]) E (w_yes (g := 4) (s := 39) E rfl rfl (by decide) (E.get 0 rfl)) (run_move rfl (E.get 13 rfl)) fun a E => ?_
   refine eg (v := .slice (p0) l.length cp0) E (w_yes (g := 4) (s := 39) E rfl rfl (by decide) (E.get 1 rfl)) (run_move rfl (E.get 12 rfl)) fun a E => ?_
   refine eg (v := .int .i64 (lo : Int)) E (w_yes (g := 4) (s := 39) E rfl rfl (by decide) (E.get 2 rfl)) (run_move rfl (E.get 10 rfl)) fun a E => ?_
   refine eg (v := .pointer (some ⟨g5, (off5 + lo * 2), none⟩)) E (w_yes (g := 4) (s := 39) E rfl rfl (by decide) (E.get 3 rfl)) (run_index22 (i := lo) rfl ((E.get 1 rfl).trans (by rw [hpe5])) (E.get 0 rfl) hlt) fun a E => ?_
   refine eg (v := .agg (spA y)) E (w_yes (g := 4) (s := 39) E rfl rfl (by decide) (E.get 4 rfl)) (run_ld48 rfl (E.get 0 rfl) hrow5) fun a E => ?_
   refine eg (v := .int .i64 m) E (w_yes (g := 4) (s := 39) E rfl rfl (by decide) (E.get 5 rfl)) (run_move rfl (E.get 17 rfl)) fun a E => ?_
   refine env_call (d := 46) (v := .int .i64 (Lib.compareInt y.2 (m + 1))) E rfl (by decide) rfl (w_yes (g := 4) (s := 39) E rfl rfl (by decide) (E.get 6 rfl)) (run_callf2 (enters_of Tryz.func50 (by kernel_rfl) rfl) rfl (E.get 5 rfl) (E.get 1 rfl) (E.get 0 rfl) rfl) (next1_calls y h0 h1 _) fun a w1 f1 E => ?_
   have hsp0 := srcAt.fr hsp0 f1 (fun r hr => id)
   have hrow5 := fun j u hu => f1.cell (hrow5 j u hu) id
   have hf := hf.trans f1
   clear f1
   refine eg (v := .bool ((Lib.compareInt y.2 (m + 1)) == 0)) E (w_yes (g := 4) (s := 39) E rfl rfl (by decide) (E.get 7 rfl)) (run_ieql (E.get 0 rfl) rfl Tryz.underlying3 rfl) fun a E => ?_
   refine ep (v := .bool ((Lib.compareInt y.2 (m + 1)) == 0)) E (run_pick_t rfl (E.get 8 rfl) (E.get 0 rfl)) fun a E => ?_
   refine ep (v := .int .i64 (lo : Int)) E (run_assign rfl (E.get 13 rfl)) fun a E => ?_
   refine ep (v := .bool ((Lib.compareInt y.2 (m + 1)) == 0)) E (run_assign rfl (E.get 1 rfl)) fun a E => ?_
   refine wpList_nil ?_
   refine then_n ?_
   refine wp_ret ?_
   refine ret_tmp2 (t := 6) (t2 := 7) rfl E (E.get 1 rfl) (E.get 0 rfl) ⟨lo, _, rfl, by omega, hA, by rw [← hee] at hB; exact hB, hf⟩
 | true =>
  rw [hq3] at E
  have hlt9 : lo < hi := by have := of_decide_eq_true hq3; omega
  obtain ⟨k, hk⟩ : ∃ k : Nat, k = (lo + hi) / 2 := ⟨_, rfl⟩
  have hk1 : ((lo : Int) + (hi : Int)) / 2 = (k : Int) := by omega
  have hlt : k < l.length := by omega
  obtain ⟨y, hy⟩ : ∃ y, l[k]? = some y := ⟨_, List.getElem?_eq_getElem hlt⟩
  obtain ⟨g6, off6, hpe6, hgl6, hrow6⟩ := hsp0.at hlt
  replace hrow6 := hrow6 k y hy
  refine wp_cond_true (E.get 0 rfl) ?_
  refine wp_skip ?_
  refine then_n ?_
  refine wp_block ?_
  refine wp_seq ?_
  refine wp_region_lit ?_
  refine ep (v := .int .i64 (lo : Int)) E (run_move rfl (E.get 3 rfl)) fun a E => ?_
  refine ep (v := .int .i64 (hi : Int)) E (run_move rfl (E.get 5 rfl)) fun a E => ?_
  refine ep (v := .int .i64 ((lo : Int) + (hi : Int))) E (run_iadd Tryz.underlying3 (E.get 1 rfl) (E.get 0 rfl) (by omega) (by omega) rfl) fun a E => ?_
  refine ep (v := .int .u64 ((lo : Int) + (hi : Int))) E (run_tou64 rfl (E.get 0 rfl) (by omega) (by omega)) fun a E => ?_
  refine ep (v := .int .u64 (((lo : Int) + (hi : Int)) / 2)) E (run_half rfl (E.get 0 rfl) rfl (by omega) (by omega)) fun a E => ?_
  refine ep (v := .int .i64 (((lo : Int) + (hi : Int)) / 2)) E (run_toi64 rfl (E.get 0 rfl) (by omega) (by omega)) fun a E => ?_
  refine ep (v := .int .i64 (((lo : Int) + (hi : Int)) / 2)) E (run_assign rfl (E.get 0 rfl)) fun a E => ?_
  refine wpList_nil ?_
  refine then_n ?_
  refine wp_seq ?_
  refine wp_region_lit ?_
  refine ep (v := .func (.func 50) #[] #[]) E (run_move rfl (E.get 15 rfl)) fun a E => ?_
  refine ep (v := .slice (p0) l.length cp0) E (run_move rfl (E.get 14 rfl)) fun a E => ?_
  refine ep (v := .int .i64 (((lo : Int) + (hi : Int)) / 2)) E (run_move rfl (E.get 2 rfl)) fun a E => ?_
  refine ep (v := .pointer (some ⟨g6, (off6 + k * 2), none⟩)) E (run_index22 (i := k) rfl ((E.get 1 rfl).trans (by rw [hpe6])) ((E.get 0 rfl).trans (by rw [hk1])) hlt) fun a E => ?_
  refine ep (v := .agg (spA y)) E (run_ld48 rfl (E.get 0 rfl) hrow6) fun a E => ?_
  refine ep (v := .int .i64 m) E (run_move rfl (E.get 19 rfl)) fun a E => ?_
  refine env_call (d := 30) (v := .int .i64 (Lib.compareInt y.2 (m + 1))) E rfl (by decide) rfl (wanted_none rfl _) (run_callf2 (enters_of Tryz.func50 (by kernel_rfl) rfl) rfl (E.get 5 rfl) (E.get 1 rfl) (E.get 0 rfl) rfl) (next1_calls y h0 h1 _) fun a w1 f1 E => ?_
  have hsp0 := srcAt.fr hsp0 f1 (fun r hr => id)
  have hrow6 := fun j u hu => f1.cell (hrow6 j u hu) id
  have hf := hf.trans f1
  clear f1
  refine ep (v := .bool (decide ((Lib.compareInt y.2 (m + 1)) < 0))) E (run_ilss (E.get 0 rfl) rfl Tryz.underlying3 rfl) fun a E => ?_
  refine wpList_nil ?_
  refine then_n ?_
  cases hq7 : (decide ((Lib.compareInt y.2 (m + 1)) < 0)) with
  | false =>
   rw [hq7] at E
   refine wp_cond_false (E.get 0 rfl) ?_
   refine wp_region_lit ?_
   refine ep (v := .int .i64 (((lo : Int) + (hi : Int)) / 2)) E (run_move rfl (E.get 8 rfl)) fun a E => ?_
   refine env_set (d := 10) (v := .int .i64 (((lo : Int) + (hi : Int)) / 2)) E rfl (by decide) (wanted_none rfl _) (run_assign rfl (E.get 0 rfl)) fun a E => ?_
   refine wpList_nil ?_
   refine blk_n ?_
   refine then_n ?_
   have hc : ¬ y.2 < m + 1 := by have := hq7; rw [cmp_lt] at this; exact of_decide_eq_false this
   refine ⟨⟨lo, k, E.of ⟨E.get 20 rfl, (E.get 0 rfl).trans (by rw [hk1]), E.get 21 rfl, E.get 22 rfl, E.get 23 rfl, E.get 24 rfl, trivial⟩, by omega, by omega, hA, ?_, hsp0, hf⟩, ?_⟩
   ·intro j z hj hz
    rcases Nat.lt_or_ge k j with h9 | h9
    ·have := vl_sorted (Int.le_refl _) hv k j y z h9 hy hz; have := (vl_wk (Int.le_refl _) hv z (List.mem_of_getElem? hz)).2.1; omega
    ·have : j = k := by omega
     subst this; rw [hy] at hz; cases hz; omega
   ·rw [E.get 20 rfl, E.get 0 rfl]; simp only [intOf]; omega
  | true =>
   rw [hq7] at E
   refine wp_cond_true (E.get 0 rfl) ?_
   refine wp_region_lit ?_
   refine ep (v := .int .i64 (((lo : Int) + (hi : Int)) / 2)) E (run_move rfl (E.get 8 rfl)) fun a E => ?_
   refine ep (v := .int .i64 ((((lo : Int) + (hi : Int)) / 2) + 1)) E (run_iadd Tryz.underlying3 (E.get 0 rfl) rfl (by omega) (by omega) rfl) fun a E => ?_
   refine env_set (d := 9) (v := .int .i64 ((((lo : Int) + (hi : Int)) / 2) + 1)) E rfl (by decide) (wanted_none rfl _) (run_assign rfl (E.get 0 rfl)) fun a E => ?_
   refine wpList_nil ?_
   refine blk_n ?_
   refine then_n ?_
   have hc : y.2 < m + 1 := by have := hq7; rw [cmp_lt] at this; exact of_decide_eq_true this
   refine ⟨⟨k + 1, hi, E.of ⟨(E.get 0 rfl).trans (by rw [hk1]; rfl), E.get 21 rfl, E.get 22 rfl, E.get 23 rfl, E.get 24 rfl, E.get 25 rfl, trivial⟩, by omega, hle, ?_, hB, hsp0, hf⟩, ?_⟩
   ·intro j z hj hz
    rcases Nat.lt_or_ge j k with h9 | h9
    ·have := vl_sorted (Int.le_refl _) hv j k z y h9 hz hy; have := (vl_wk (Int.le_refl _) hv y (List.mem_of_getElem? hy)).2.1; omega
    ·have : j = k := by omega
     subst this; rw [hy] at hz; cases hz; omega
   ·rw [E.get 0 rfl, E.get 21 rfl]; simp only [intOf]; omega
end Go.Proofs.YtjaffpnegdcjnaaGreatDoor
