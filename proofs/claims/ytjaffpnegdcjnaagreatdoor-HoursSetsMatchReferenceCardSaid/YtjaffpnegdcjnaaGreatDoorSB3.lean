/- slices.Grow, slices.Clone. -/
import Derived.Test.YtjaffpnegdcjnaaGreatDoorSB2
import Derived.Lib.AppendZerosOnto
set_option linter.unusedVariables false
set_option linter.unusedSimpArgs false
namespace Go.Proofs.YtjaffpnegdcjnaaGreatDoor
open Go.RowKit Go.Pl
section
variable {o : Oper} {w : World} {ρ : Operand → Value} {x y z : Operand}
theorem run_cap22 {p : Option Addr} {n c : Nat} (ho : o.op = .call ⟨.builtin .cap, #[x], #[22]⟩) (hx : ρ x = .slice p n c) : (execOp ρ o).run Tryz.prog w = .ok (.value (.int .i64 c)) w := by
 simp [execOp, ho, hx, go_sem]
theorem run_sl22n (ho : o.op = .slice 22 x none (some z) none) (hx : ρ x = .slice none 0 0) (hz : ρ z = .int .i64 0) : (execOp ρ o).run Tryz.prog w = .ok (.value (.slice none 0 0)) w := by
 simp [execOp, ho, hx, hz, go_sem]
theorem run_sl22z {g n c : Nat} (hn : n ≤ c) (ho : o.op = .slice 22 x none (some z) none) (hx : ρ x = .slice (some ⟨g, 0, none⟩) n c) (hz : ρ z = .int .i64 0) : (execOp ρ o).run Tryz.prog w = .ok (.value (.slice (some ⟨g, 0, none⟩) 0 c)) w := by
 have h1 : (0 : Int) ≤ c := by omega
 have h2 : (0 : Int) ≤ n := by omega
 by_cases hc : c = 0
 ·subst hc; obtain rfl : n = 0 := by omega
  simp [execOp, ho, hx, hz, go_sem, Addr.add]
 ·simp [execOp, ho, hx, hz, go_sem, h1, h2, hc, Addr.add]
/-- append of n zero elements to the nil row. -/
theorem run_appz {n : Nat} (h0 : 0 < n) (hn : n ≤ 1000000) (ty : TypeId) :
  ∃ c w', (Builtin.append_ #[22, 3] ty #[.slice none 0 0, .int .i64 n]).run Tryz.prog w = .ok (.slice (some ⟨w.heap.size, 0, none⟩) n c) w' ∧ n ≤ c ∧ oSp w' w.heap.size (.slice (some ⟨w.heap.size, 0, none⟩) 0 c) [] ∧ Fr (fun _ => False) w w' := by
 obtain ⟨i0, hi0, hz0, hz1, hz2⟩ := info_parts4 info48z
 have hold : (Builtin.firstCells i0.size 0 (.slice none 0 0)).run Tryz.prog w.drew = .ok ([] : List Value).toArray w.drew := run_firstCells_none _ _ _ _ _
 have h := fun ty => Lib.run_append_grow_zeros (P := Tryz.prog) w 22 3 ty 48 i0 (.agg (spA (0, 0))) .i64 .i64 Tryz.underlying22 Tryz.underlying3 hi0 hz0 none 0 0 [] hold n h0 (by omega) (by omega) (by omega) (by rw [hz2]; omega) (by rw [Nat.zero_add]; exact growslice_fits h0 (by rw [hz2]; omega))
 have hge := grownCap_ge w (0 + n) 0 48
 have hle := grownCap_le_maxLen w (0 + n) 0 48 (by unfold maxLen; omega)
 rw [Nat.zero_add] at h hge hle
 obtain ⟨G, hG⟩ : ∃ G, G = grownCap w n 0 48 := ⟨_, rfl⟩
 rw [← hG] at h hge hle
 obtain ⟨cs, hcs⟩ : ∃ cs, cs = (([] : List Value).toArray ++ Builtin.zeroCells (Value.agg (spA (0, 0))).cells n ++ Builtin.zeroCells (Value.agg (spA (0, 0))).cells (G - n)) := ⟨_, rfl⟩
 simp only [← hcs] at h
 refine ⟨G, w.drew.alloc (.cells cs 48), ?_, hge, ⟨rfl, .inr ⟨w.heap.size, G, cs, rfl, Nat.le_refl _, blk_alloc_at (by simp) _, Nat.zero_le _, hle, ?_, by simp⟩⟩, ((Fr.refl _ _).drew).alloc _⟩
 ·exact h ty
 ·have : ∀ k, (Builtin.zeroCells (Value.agg (spA (0, 0))).cells k).size = k * 2 := by
   intro k
   simp [Builtin.zeroCells, Value.cells]
  rw [hcs]
  simp only [Array.size_append, this]
  simp
  omega
end
theorem env_appz {O : Array Oper} {Q : Exit → Act → World → Prop} {rest : List Oper} {o : Oper} {a : Act} {w : World} {m d n : Nat} {L : List (Nat × Value)} {x y : Operand} {ds : List Deferred} (En : EnvD ds m L a) (hd : o.dst = some d) (hm : d < m) (hf : (L.map (·.1)).contains d = false) (hg : o.guard = none) (h0 : 0 < n) (hn : n ≤ 1000000) (ho : o.op = .call { callee := .builtin .append, args := #[x, y], argTypes := #[22, 3] }) (hx : a.eval x = .slice none 0 0) (hy : a.eval y = .int .i64 n)
  (k : ∀ a' w' c, n ≤ c → oSp w' w.heap.size (.slice (some ⟨w.heap.size, 0, none⟩) 0 c) [] → Fr (fun _ => False) w w' → EnvD ds m ((d, .slice (some ⟨w.heap.size, 0, none⟩) n c) :: L) a' → wpList Tryz.prog O Q rest a' w') : wpList Tryz.prog O Q (o :: rest) a w := by
 obtain ⟨c, w', hr, h1, h2, h3⟩ := run_appz (w := w) h0 hn o.type
 refine Lib.wpList_append_run w hg _ _ 22 3 ho _ _ hx hy _ _ hr ?_
 rw [hd]
 exact k _ w' c h1 h2 h3 (En.put hm hf)
set_option maxRecDepth 100000 in
set_option maxHeartbeats 4000000 in
theorem grow_calls {w : World} {n : Nat} (hn9 : n ≤ 1000000) : Calls Tryz.prog 77 #[.slice none 0 0, .int .i64 (n : Int)] w fun e w' => ∃ v, e = .returned v ∧ oSp w' w.heap.size v [] ∧ Fr (fun _ => False) w w' := by
 refine wp_start2 Tryz.func77 rfl rfl (n := 27) (by decide) fun a E => ?_
 have hf : Fr (fun _ => False) w w := Fr.refl _ _
 refine wp_seq ?_
 refine wp_region_lit ?_
 refine ep (v := .slice none 0 0) E (run_assign rfl rfl) fun a E => ?_
 refine wpList_nil ?_
 refine then_n ?_
 refine wp_seq ?_
 refine wp_seq ?_
 refine wp_region_lit ?_
 refine ep (v := .int .i64 (n : Int)) E (run_move rfl (E.get 2 rfl)) fun a E => ?_
 refine ep (v := .bool (decide ((n : Int) < 0))) E (run_ilss (E.get 0 rfl) rfl Tryz.underlying3 rfl) fun a E => ?_
 refine wpList_nil ?_
 refine then_n ?_
 cases hq24 : (decide ((n : Int) < 0)) with
 | false =>
  rw [hq24] at E
  have qhq24 := of_decide_eq_false hq24
  refine wp_cond_false (E.get 0 rfl) ?_
  refine wp_skip ?_
  refine then_n ?_
  refine wp_seq ?_
  refine wp_seq ?_
  refine wp_region_lit ?_
  refine ep (v := .int .i64 (n : Int)) E (run_move rfl (E.get 4 rfl)) fun a E => ?_
  refine ep (v := .slice none 0 0) E (run_move rfl (E.get 4 rfl)) fun a E => ?_
  refine ep (v := .int .i64 0) E (run_cap22 rfl (E.get 0 rfl)) fun a E => ?_
  refine ep (v := .slice none 0 0) E (run_move rfl (E.get 6 rfl)) fun a E => ?_
  refine ep (v := .int .i64 0) E (run_len22 rfl (E.get 0 rfl)) fun a E => ?_
  refine ep (v := .int .i64 (0 - 0)) E (run_isub Tryz.underlying3 (E.get 2 rfl) (E.get 0 rfl) (by omega) (by omega) rfl) fun a E => ?_
  refine ep (v := .int .i64 ((n : Int) - (0 - 0))) E (run_isub Tryz.underlying3 (E.get 5 rfl) (E.get 0 rfl) (by omega) (by omega) rfl) fun a E => ?_
  refine env_set (d := 1) (v := .int .i64 ((n : Int) - (0 - 0))) E rfl (by decide) (wanted_none rfl _) (run_assign rfl (E.get 0 rfl)) fun a E => ?_
  refine wpList_nil ?_
  refine then_n ?_
  refine wp_seq ?_
  refine wp_region_lit ?_
  refine ep (v := .int .i64 ((n : Int) - (0 - 0))) E (run_move rfl (E.get 0 rfl)) fun a E => ?_
  refine ep (v := .bool (decide (0 < ((n : Int) - (0 - 0))))) E (run_igtr (E.get 0 rfl) rfl Tryz.underlying3 rfl) fun a E => ?_
  refine wpList_nil ?_
  refine then_n ?_
  cases hq25 : (decide (0 < ((n : Int) - (0 - 0)))) with
  | false =>
   rw [hq25] at E
   have qhq25 := of_decide_eq_false hq25
   refine wp_cond_false (E.get 0 rfl) ?_
   refine wp_skip ?_
   refine then_n ?_
   refine wp_seq ?_
   refine wp_region_lit ?_
   refine ep (v := .slice none 0 0) E (run_move rfl (E.get 13 rfl)) fun a E => ?_
   refine env_set (d := 4) (v := .slice none 0 0) E rfl (by decide) (wanted_none rfl _) (run_assign rfl (E.get 0 rfl)) fun a E => ?_
   refine wpList_nil ?_
   refine then_n ?_
   refine wp_ret ?_
   exact ret_tmp (t := 4) rfl E (E.get 0 rfl) ⟨_, rfl, ow_nil _, hf⟩
  | true =>
   rw [hq25] at E
   have qhq25 := of_decide_eq_true hq25
   have h0 : 0 < n := by omega
   refine wp_cond_true (E.get 0 rfl) ?_
   refine wp_region_lit ?_
   refine ep (v := .slice none 0 0) E (run_move rfl (E.get 13 rfl)) fun a E => ?_
   refine ep (v := .slice none 0 0) E (run_move rfl (E.get 14 rfl)) fun a E => ?_
   refine ep (v := .int .i64 0) E (run_cap22 rfl (E.get 0 rfl)) fun a E => ?_
   refine ep (v := .slice none 0 0) E (run_sl22n rfl (E.get 2 rfl) (E.get 0 rfl)) fun a E => ?_
   refine ep (v := .int .i64 ((n : Int) - (0 - 0))) E (run_move rfl (E.get 6 rfl)) fun a E => ?_
   refine env_appz (d := 22) E rfl (by decide) rfl rfl h0 hn9 rfl (E.get 1 rfl) (E.get 0 rfl) fun a w1 gc hgc hO f1 E => ?_
   have hO := hO
   have hf := hf.trans' f1 (fun _ _ h => h.elim)
   clear f1
   refine ep (v := .slice none 0 0) E (run_move rfl (E.get 19 rfl)) fun a E => ?_
   refine ep (v := .int .i64 0) E (run_len22 rfl (E.get 0 rfl)) fun a E => ?_
   refine ep (v := .slice (some ⟨w.heap.size, 0, none⟩) 0 gc) E (run_sl22z hgc rfl (E.get 2 rfl) (E.get 0 rfl)) fun a E => ?_
   refine env_set (d := 0) (v := .slice (some ⟨w.heap.size, 0, none⟩) 0 gc) E rfl (by decide) (wanted_none rfl _) (run_assign rfl (E.get 0 rfl)) fun a E => ?_
   refine wpList_nil ?_
   refine then_n ?_
   refine wp_seq ?_
   refine wp_region_lit ?_
   refine ep (v := .slice (some ⟨w.heap.size, 0, none⟩) 0 gc) E (run_move rfl (E.get 0 rfl)) fun a E => ?_
   refine env_set (d := 4) (v := .slice (some ⟨w.heap.size, 0, none⟩) 0 gc) E rfl (by decide) (wanted_none rfl _) (run_assign rfl (E.get 0 rfl)) fun a E => ?_
   refine wpList_nil ?_
   refine then_n ?_
   refine wp_ret ?_
   exact ret_tmp (t := 4) rfl E (E.get 0 rfl) ⟨_, rfl, hO, hf⟩
 | true =>
  rw [hq24] at E
  exact absurd (of_decide_eq_true hq24) (by omega)
theorem run_eqnil22 {o : Oper} {w : World} {ρ : Operand → Value} {x y : Operand} {p : Option Addr} {n c : Nat} (hx : ρ x = .slice p n c) (hy : ρ y = .slice none 0 0) (ho : o.op = .binOp .eql 22 x y 22) : (execOp ρ o).run Tryz.prog w = .ok (.value (.bool p.isNone)) w := by
 have := Lib.run_eql_slice_nil (P := Tryz.prog) w 22 48 p n c 0 0 Tryz.underlying22
 cases p <;> simp [execOp, ho, hx, hy, go_sem, this]
theorem run_emp22 {o : Oper} {w : World} {ρ : Operand → Value} (ho : o.op = .buildSlice 22 0 #[]) : (execOp ρ o).run Tryz.prog w = .ok (.value (.slice (some ⟨w.heap.size, 0, none⟩) 0 0)) (w.alloc (.cells #[] 48)) := by
 simp [execOp, ho, go_sem]
theorem env_emp22 {O : Array Oper} {Q : Exit → Act → World → Prop} {rest : List Oper} {o : Oper} {a : Act} {w : World} {n d : Nat} {L : List (Nat × Value)} {ds : List Deferred} {B : Nat} (En : EnvD ds n L a) (hd : o.dst = some d) (hn : d < n) (hf : (L.map (·.1)).contains d = false) (hw : Region.wanted o (yielded O a.tmps) = true) (ho : o.op = .buildSlice 22 0 #[]) (hB : B ≤ w.heap.size)
  (k : ∀ a' w' b, oSp w' B (.slice (some ⟨b, 0, none⟩) 0 0) [] → Fr (fun _ => False) w w' → EnvD ds n ((d, .slice (some ⟨b, 0, none⟩) 0 0) :: L) a' → wpList Tryz.prog O Q rest a' w') : wpList Tryz.prog O Q (o :: rest) a w :=
 env_put En hd hn hf hw (run_emp22 ho) fun a' E' => k a' _ _ (ow_empty w hB) ((Fr.refl _ _).alloc _) E'
set_option maxRecDepth 100000 in
set_option maxHeartbeats 4000000 in
theorem clone_calls {w : World} {v : Value} {l : List Sp} (hl : SpV w v l) (hlen : l.length ≤ 20000) : Calls Tryz.prog 53 #[v] w fun e w' => ∃ u, e = .returned u ∧ oSp w' w.heap.size u l ∧ Fr (fun _ => False) w w' := by
 obtain ⟨p0, cp0, hvp0, hlep0, hcapp0, hsp0, hzp0⟩ := hl
 subst hvp0
 refine wp_start1 Tryz.func53 rfl rfl (n := 8) (by decide) fun a E => ?_
 have hf : Fr (fun _ => False) w w := Fr.refl _ _
 refine wp_seq ?_
 refine wp_region_lit ?_
 refine ep (v := .slice none 0 0) E (run_assign rfl rfl) fun a E => ?_
 refine wpList_nil ?_
 refine then_n ?_
 refine wp_seq ?_
 refine wp_seq ?_
 refine wp_region_lit ?_
 refine ep (v := .slice (p0) l.length cp0) E (run_move rfl (E.get 1 rfl)) fun a E => ?_
 refine ep (v := .bool p0.isNone) E (run_eqnil22 (E.get 0 rfl) rfl rfl) fun a E => ?_
 refine wpList_nil ?_
 refine then_n ?_
 cases hq26 : p0.isNone with
 | false =>
  rw [hq26] at E
  refine wp_cond_false (E.get 0 rfl) ?_
  refine wp_skip ?_
  refine then_n ?_
  refine wp_seq ?_
  refine wp_region_lit ?_
  refine env_emp22 (B := w.heap.size) (d := 5) E rfl (by decide) rfl (wanted_none rfl _) rfl hf.size fun a w1 be hO f1 E => ?_
  have hsp0 := srcAt.fr hsp0 f1 (fun r hr => id)
  have hf := hf.trans' f1 (fun _ _ h => h.elim)
  clear f1
  have hBs : w.heap.size ≤ w1.heap.size := hf.size
  refine ep (v := .slice (p0) l.length cp0) E (run_move rfl (E.get 4 rfl)) fun a E => ?_
  refine env_app22 (d := 7) E rfl (by decide) rfl rfl rfl (E.get 1 rfl) hO (E.get 0 rfl) hsp0 hzp0 (by simp only [List.length_nil]; omega) hBs fun a w1 ov27 hO2 f1 hloc E => ?_
  have hsp0 := srcAt.fr hsp0 f1 (fun r hr => (fun e => by have := (hO.lt e).1; (try simp only at e); omega))
  have hBs := Nat.le_trans hBs f1.size
  have hf := hf.trans' f1 (fun r hr => (fun e => by have := (hO.lt e).1; (try simp only at e); omega))
  clear f1
  replace hO := hO2
  clear hloc
  refine env_set (d := 2) (v := ov27) E rfl (by decide) (wanted_none rfl _) (run_assign rfl (E.get 0 rfl)) fun a E => ?_
  refine wpList_nil ?_
  refine then_n ?_
  refine wp_ret ?_
  exact ret_tmp (t := 2) rfl E (E.get 0 rfl) ⟨_, rfl, hO, hf⟩
 | true =>
  rw [hq26] at E
  refine wp_cond_true (E.get 0 rfl) ?_
  refine wp_seq ?_
  refine wp_region_lit ?_
  refine env_set (d := 2) (v := .slice none 0 0) E rfl (by decide) (wanted_none rfl _) (run_assign rfl rfl) fun a E => ?_
  refine wpList_nil ?_
  refine then_n ?_
  refine wp_ret ?_
  refine then_r ?_
  have hl0 : l = [] := by
   rcases hsp0 with h9 | ⟨g9, o9, h9, _⟩
   ·exact h9
   ·rw [h9] at hq26; cases hq26
  subst hl0
  exact ret_tmp (t := 2) rfl E (E.get 0 rfl) ⟨_, rfl, ow_nil _, hf⟩
end Go.Proofs.YtjaffpnegdcjnaaGreatDoor
