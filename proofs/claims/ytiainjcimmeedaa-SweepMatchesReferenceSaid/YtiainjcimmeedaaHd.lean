/- planispherelaw05: side, head. -/
import Derived.Test.YtiainjcimmeedaaSame
set_option linter.unusedVariables false
set_option linter.unusedSimpArgs false
namespace Go.Proofs.Ytiainjcimmeedaa
open Go.RowKit Go.Pl Go.Geo

theorem side_calls (a b c d : Int) (w : World) : Calls Try.prog 17 #[.int .i64 a, .int .i64 b, .int .i64 c, .int .i64 d] w fun e w' => e = .returned (.agg (sgC ((a, b), (c, d)))) ∧ Fr (fun _ => False) w w' := by
  go_enter Try.func17, Try.ntmps17
  go_wp2
  all_goals
    refine bodyPost_ret (v := .agg (sgC ((a, b), (c, d)))) (by simp [results, Try.results17, go_sem]) rfl ⟨rfl, ?_⟩
    exact (Fr.refl _ _).alloc _
theorem segR_blk {w : World} {g : Nat} {l : List Sg} (h : w.heap[g]? = some (.cells (l.flatMap fun s => (sgC s).toList).toArray 34 (0, 0))) : segR w g 0 l := by
  intro i s hs j v hv
  have hj : j < 4 := (List.getElem?_eq_some_iff.1 hv).1
  rw [cell_of_blk h, Nat.zero_add, List.getElem?_toArray, flat_at (f := fun s : Sg => (sgC s).toList) (c := 4) (fun _ => rfl) l i s hs j hj]; exact hv
section
variable {P : Program} {o : Oper} {w : World} {ρ : Operand → Value}
theorem run_call4 {f : FuncId} {ts : Array TypeId} {x y z q : Operand} {v u t r : Value} (eg : ∀ args w, (callFunc f args).run P w = .ok (.enter f args) w) (ho : o.op = .call ⟨.value (.func f), #[x, y, z, q], ts⟩) (hf : ρ (.func f) = .func (.func f) #[] #[]) (hx : ρ x = v) (hy : ρ y = u) (hz : ρ z = t) (hq : ρ q = r) : (execOp ρ o).run P w = .ok (.enter f #[v, u, t, r]) w := by
  simp [execOp, ho, hf, hx, hy, hz, hq, eg, resolve, Deferred.ofValue, invoke, go_sem]
theorem run_ext0 {x : Operand} {v u : Value} (ho : o.op = .extract x 0) (hx : ρ x = .tuple #[v, u]) : (execOp ρ o).run P w = .ok (.value v) w := by simp [execOp, ho, hx, go_sem]
theorem run_ext1 {x : Operand} {v u : Value} (ho : o.op = .extract x 1) (hx : ρ x = .tuple #[v, u]) : (execOp ρ o).run P w = .ok (.value u) w := by simp [execOp, ho, hx, go_sem]
theorem run_sgs3 {x1 x2 x3 : Operand} {p1 p2 p3 : Sg} (ho : o.op = .buildSlice 22 3 #[(0, x1), (1, x2), (2, x3)]) (h1 : ρ x1 = .agg (sgC p1)) (h2 : ρ x2 = .agg (sgC p2)) (h3 : ρ x3 = .agg (sgC p3)) :
    (execOp ρ o).run Try.prog w = .ok (.value (.slice (some ⟨w.heap.size, 0, none⟩) 3 3)) (w.alloc (.cells ([p1, p2, p3].flatMap fun s => (sgC s).toList).toArray 34)) := by
  simp [execOp, ho, h1, h2, h3, go_sem]
theorem run_sgs4 {x1 x2 x3 x4 : Operand} {p1 p2 p3 p4 : Sg} (ho : o.op = .buildSlice 22 4 #[(0, x1), (1, x2), (2, x3), (3, x4)]) (h1 : ρ x1 = .agg (sgC p1)) (h2 : ρ x2 = .agg (sgC p2)) (h3 : ρ x3 = .agg (sgC p3)) (h4 : ρ x4 = .agg (sgC p4)) :
    (execOp ρ o).run Try.prog w = .ok (.value (.slice (some ⟨w.heap.size, 0, none⟩) 4 4)) (w.alloc (.cells ([p1, p2, p3, p4].flatMap fun s => (sgC s).toList).toArray 34)) := by
  simp [execOp, ho, h1, h2, h3, h4, go_sem]
end
section
variable {O : Array Oper} {Q : Exit → Act → World → Prop} {rest : List Oper} {o : Oper} {a : Act} {w : World} {n d : Nat} {L : List (Nat × Value)}
theorem env_all {l : List Sg} {x : Operand} {p : Option Addr} {cap : Nat} (E : Env n L a) (hd : o.dst = some d) (hn : d < n) (hf : (L.map (·.1)).contains d = false) (hw : Region.wanted o (yielded O a.tmps) = true) (ho : o.op = .call ⟨.value (.func 10), #[x], #[22]⟩) (hx : a.eval x = .slice p l.length cap) (hl : l.length ≤ 20000) (hp : l = [] ∨ ∃ g off, p = some ⟨g, off, none⟩ ∧ g < w.heap.size ∧ segR w g off l)
    (k : ∀ a' w' v, oM w' w.heap.size v (outL l) → Fr (fun _ => False) w w' → Env n ((d, .tuple #[v, .int .i64 0]) :: L) a' → wpList Try.prog O Q rest a' w') : wpList Try.prog O Q (o :: rest) a w := by
  refine st_call (R := fun u w' => ∃ v, u = .tuple #[v, .int .i64 0] ∧ oM w' w.heap.size v (outL l) ∧ Fr (fun _ => False) w w') hw (run_call1 (enters_of Try.func10 (by kernel_rfl) rfl) ho rfl hx) ((all_calls l p cap w hl hp).mono fun e w' ⟨v, h1, h2⟩ => ⟨_, h1, v, rfl, h2⟩) ?_
  rintro u w' ⟨v, rfl, h1, h2⟩
  rw [hd]
  exact k _ w' v h1 h2 (E.put hn hf)
end
theorem out3 : outL [((0, 0), (4, 4)), ((0, 4), (4, 0)), ((9, 9), (9, 9))] = [⟨0, 1, 3⟩] := by decide +kernel
theorem out4 : outL [((0, 0), (4, 0)), ((4, 0), (4, 4)), ((2, 0), (2, 5)), ((4, 0), (0, 0))] = [⟨0, 1, 1⟩, ⟨0, 2, 2⟩, ⟨0, 3, 4⟩, ⟨1, 3, 1⟩, ⟨2, 3, 2⟩] := by decide +kernel

theorem mtR_blk {w : World} {g cap : Nat} {L : List Mt} (h : w.heap[g]? = some (.cells (L.flatMap mtC).toArray 36 (0, 0))) : mtR w (.slice (some ⟨g, 0, none⟩) L.length cap) L := by
  refine ⟨⟨_, _, rfl⟩, .inr ⟨g, cap, rfl, lt_of_blk h, fun i m hm j v hv => ?_⟩⟩
  have hj : j < 3 := (List.getElem?_eq_some_iff.1 hv).1
  rw [cell_of_blk h, List.getElem?_toArray, flat_at (f := mtC) (c := 3) (fun _ => rfl) L i m hm j hj]; exact hv
theorem run_mts5 {o : Oper} {w : World} {ρ : Operand → Value} {x1 x2 x3 x4 x5 : Operand} {p1 p2 p3 p4 p5 : Mt} (ho : o.op = .buildSlice 24 5 #[(0, x1), (1, x2), (2, x3), (3, x4), (4, x5)]) (h1 : ρ x1 = .agg (mtC p1).toArray) (h2 : ρ x2 = .agg (mtC p2).toArray) (h3 : ρ x3 = .agg (mtC p3).toArray) (h4 : ρ x4 = .agg (mtC p4).toArray) (h5 : ρ x5 = .agg (mtC p5).toArray) :
    (execOp ρ o).run Try.prog w = .ok (.value (.slice (some ⟨w.heap.size, 0, none⟩) 5 5)) (w.alloc (.cells ([p1, p2, p3, p4, p5].flatMap mtC).toArray 36)) := by
  simp [execOp, ho, h1, h2, h3, h4, h5, go_sem]
theorem mtR_any {w w' : World} {v : Value} {L : List Mt} (h : mtR w v L) {F : Nat → Prop} (hf : Fr F w w') (hF : ∀ r, ¬ F r) : mtR w' v L := h.fr (hf.mono fun r _ h => (hF r h).elim)

set_option maxRecDepth 100000 in
set_option maxHeartbeats 4000000 in
theorem head_calls (w : World) : Calls Try.prog 9 #[] w fun e w' => e = .returned (.bool true) ∧ Fr (fun _ => False) w w' := by
  refine calls_of_wp Try.func9 rfl ?_
  have E : Env 46 [] { tmps := #[] ++ Array.replicate (Try.f9.ntmps - (#[] : Array Value).size) undef, defers := [] } := ⟨by simp [show Try.f9.ntmps = 46 from rfl], (fun x hx => by cases hx), rfl⟩
  revert E
  generalize ({ tmps := #[] ++ Array.replicate (Try.f9.ntmps - (#[] : Array Value).size) undef, defers := [] } : Act) = a
  intro E
  have hf : Fr (fun _ => False) w w := Fr.refl _ _
  refine wp_seq ?_
  refine wp_region_lit ?_
  refine env_put (d := 0) (v := .bool false) E rfl (by decide) rfl (wanted_none rfl _) (run_assign rfl rfl) fun a E => ?_
  refine wpList_nil ?_
  refine then_n ?_
  refine wp_seq ?_
  refine wp_region_lit ?_
  refine env_call (d := 7) (v := .agg (sgC ((0, 0), (4, 4)))) E rfl (by decide) rfl (wanted_none rfl _) (run_call4 (enters_of Try.func17 (by kernel_rfl) rfl) rfl rfl rfl rfl rfl rfl) (side_calls _ _ _ _ _) fun a w1 f1 E => ?_
  have hf := hf.trans f1
  clear f1
  refine env_call (d := 8) (v := .agg (sgC ((0, 4), (4, 0)))) E rfl (by decide) rfl (wanted_none rfl _) (run_call4 (enters_of Try.func17 (by kernel_rfl) rfl) rfl rfl rfl rfl rfl rfl) (side_calls _ _ _ _ _) fun a w1 f1 E => ?_
  have hf := hf.trans f1
  clear f1
  refine env_call (d := 9) (v := .agg (sgC ((9, 9), (9, 9)))) E rfl (by decide) rfl (wanted_none rfl _) (run_call4 (enters_of Try.func17 (by kernel_rfl) rfl) rfl rfl rfl rfl rfl rfl) (side_calls _ _ _ _ _) fun a w1 f1 E => ?_
  have hf := hf.trans f1
  clear f1
  refine env_put (d := 10) E rfl (by decide) rfl (wanted_none rfl _) (run_sgs3 rfl (E.get 2 rfl) (E.get 1 rfl) (E.get 0 rfl)) fun a E => ?_
  have f1 := (Fr.refl (fun _ => False) w1).alloc (.cells ([((0, 0), (4, 4)), ((0, 4), (4, 0)), ((9, 9), (9, 9))].flatMap fun s : Sg => (sgC s).toList).toArray 34)
  have hs := segR_blk (l := [((0, 0), (4, 4)), ((0, 4), (4, 0)), ((9, 9), (9, 9))]) (blk_alloc_new w1 _)
  have hlt := lt_of_blk (blk_alloc_new w1 (.cells ([((0, 0), (4, 4)), ((0, 4), (4, 0)), ((9, 9), (9, 9))].flatMap fun s : Sg => (sgC s).toList).toArray 34))
  have hf := hf.trans f1
  clear f1
  refine env_all (d := 11) (l := [((0, 0), (4, 4)), ((0, 4), (4, 0)), ((9, 9), (9, 9))]) E rfl (by decide) rfl (wanted_none rfl _) rfl (E.get 0 rfl) (by decide) (.inr ⟨_, 0, rfl, hlt, hs⟩) fun a w1 v1 hv1 f1 E => ?_
  clear hs hlt
  have hf := hf.trans f1
  clear f1
  rw [out3] at hv1
  replace hv1 := hv1.mtR
  refine env_put (d := 6) (v := .tuple #[v1, .int .i64 0]) E rfl (by decide) rfl (wanted_none rfl _) (run_move rfl (E.get 0 rfl)) fun a E => ?_
  refine env_put (d := 12) (v := v1) E rfl (by decide) rfl (wanted_none rfl _) (run_ext0 rfl (E.get 0 rfl)) fun a E => ?_
  refine env_put (d := 13) (v := .int .i64 0) E rfl (by decide) rfl (wanted_none rfl _) (run_ext1 rfl (E.get 1 rfl)) fun a E => ?_
  refine env_put (d := 1) (v := v1) E rfl (by decide) rfl (wanted_none rfl _) (run_assign rfl (E.get 1 rfl)) fun a E => ?_
  refine env_put (d := 2) (v := .int .i64 0) E rfl (by decide) rfl (wanted_none rfl _) (run_assign rfl (E.get 1 rfl)) fun a E => ?_
  refine wpList_nil ?_
  refine then_n ?_
  refine wp_seq ?_
  refine wp_region_lit ?_
  refine env_call (d := 15) (v := .agg (sgC ((0, 0), (4, 0)))) E rfl (by decide) rfl (wanted_none rfl _) (run_call4 (enters_of Try.func17 (by kernel_rfl) rfl) rfl rfl rfl rfl rfl rfl) (side_calls _ _ _ _ _) fun a w1 f1 E => ?_
  have hf := hf.trans f1
  have hv1 := hv1.fr f1
  clear f1
  refine env_call (d := 16) (v := .agg (sgC ((4, 0), (4, 4)))) E rfl (by decide) rfl (wanted_none rfl _) (run_call4 (enters_of Try.func17 (by kernel_rfl) rfl) rfl rfl rfl rfl rfl rfl) (side_calls _ _ _ _ _) fun a w1 f1 E => ?_
  have hf := hf.trans f1
  have hv1 := hv1.fr f1
  clear f1
  refine env_call (d := 17) (v := .agg (sgC ((2, 0), (2, 5)))) E rfl (by decide) rfl (wanted_none rfl _) (run_call4 (enters_of Try.func17 (by kernel_rfl) rfl) rfl rfl rfl rfl rfl rfl) (side_calls _ _ _ _ _) fun a w1 f1 E => ?_
  have hf := hf.trans f1
  have hv1 := hv1.fr f1
  clear f1
  refine env_call (d := 18) (v := .agg (sgC ((4, 0), (0, 0)))) E rfl (by decide) rfl (wanted_none rfl _) (run_call4 (enters_of Try.func17 (by kernel_rfl) rfl) rfl rfl rfl rfl rfl rfl) (side_calls _ _ _ _ _) fun a w1 f1 E => ?_
  have hf := hf.trans f1
  have hv1 := hv1.fr f1
  clear f1
  refine env_put (d := 19) E rfl (by decide) rfl (wanted_none rfl _) (run_sgs4 rfl (E.get 3 rfl) (E.get 2 rfl) (E.get 1 rfl) (E.get 0 rfl)) fun a E => ?_
  have f1 := (Fr.refl (fun _ => False) w1).alloc (.cells ([((0, 0), (4, 0)), ((4, 0), (4, 4)), ((2, 0), (2, 5)), ((4, 0), (0, 0))].flatMap fun s : Sg => (sgC s).toList).toArray 34)
  have hs := segR_blk (l := [((0, 0), (4, 0)), ((4, 0), (4, 4)), ((2, 0), (2, 5)), ((4, 0), (0, 0))]) (blk_alloc_new w1 _)
  have hlt := lt_of_blk (blk_alloc_new w1 (.cells ([((0, 0), (4, 0)), ((4, 0), (4, 4)), ((2, 0), (2, 5)), ((4, 0), (0, 0))].flatMap fun s : Sg => (sgC s).toList).toArray 34))
  have hf := hf.trans f1
  have hv1 := hv1.fr f1
  clear f1
  refine env_all (d := 20) (l := [((0, 0), (4, 0)), ((4, 0), (4, 4)), ((2, 0), (2, 5)), ((4, 0), (0, 0))]) E rfl (by decide) rfl (wanted_none rfl _) rfl (E.get 0 rfl) (by decide) (.inr ⟨_, 0, rfl, hlt, hs⟩) fun a w1 v2 hv2 f1 E => ?_
  clear hs hlt
  have hf := hf.trans f1
  have hv1 := hv1.fr f1
  clear f1
  rw [out4] at hv2
  replace hv2 := hv2.mtR
  refine env_put (d := 14) (v := .tuple #[v2, .int .i64 0]) E rfl (by decide) rfl (wanted_none rfl _) (run_move rfl (E.get 0 rfl)) fun a E => ?_
  refine env_put (d := 21) (v := v2) E rfl (by decide) rfl (wanted_none rfl _) (run_ext0 rfl (E.get 0 rfl)) fun a E => ?_
  refine env_put (d := 22) (v := .int .i64 0) E rfl (by decide) rfl (wanted_none rfl _) (run_ext1 rfl (E.get 1 rfl)) fun a E => ?_
  refine env_put (d := 3) (v := v2) E rfl (by decide) rfl (wanted_none rfl _) (run_assign rfl (E.get 1 rfl)) fun a E => ?_
  refine env_put (d := 4) (v := .int .i64 0) E rfl (by decide) rfl (wanted_none rfl _) (run_assign rfl (E.get 1 rfl)) fun a E => ?_
  refine wpList_nil ?_
  refine then_n ?_
  refine wp_seq ?_
  refine wp_region_lit ?_
  refine env_put (d := 23) (v := .agg (mtC ⟨0, 1, 1⟩).toArray) E rfl (by decide) rfl (wanted_none rfl _) (run_of36 (a := ⟨0, 1, 1⟩) rfl rfl rfl rfl) fun a E => ?_
  refine env_put (d := 24) (v := .agg (mtC ⟨0, 2, 2⟩).toArray) E rfl (by decide) rfl (wanted_none rfl _) (run_of36 (a := ⟨0, 2, 2⟩) rfl rfl rfl rfl) fun a E => ?_
  refine env_put (d := 25) (v := .agg (mtC ⟨0, 3, 4⟩).toArray) E rfl (by decide) rfl (wanted_none rfl _) (run_of36 (a := ⟨0, 3, 4⟩) rfl rfl rfl rfl) fun a E => ?_
  refine env_put (d := 26) (v := .agg (mtC ⟨1, 3, 1⟩).toArray) E rfl (by decide) rfl (wanted_none rfl _) (run_of36 (a := ⟨1, 3, 1⟩) rfl rfl rfl rfl) fun a E => ?_
  refine env_put (d := 27) (v := .agg (mtC ⟨2, 3, 2⟩).toArray) E rfl (by decide) rfl (wanted_none rfl _) (run_of36 (a := ⟨2, 3, 2⟩) rfl rfl rfl rfl) fun a E => ?_
  refine env_put (d := 28) E rfl (by decide) rfl (wanted_none rfl _) (run_mts5 rfl (E.get 4 rfl) (E.get 3 rfl) (E.get 2 rfl) (E.get 1 rfl) (E.get 0 rfl)) fun a E => ?_
  have f1 := (Fr.refl (fun _ => False) w1).alloc (.cells (([⟨0, 1, 1⟩, ⟨0, 2, 2⟩, ⟨0, 3, 4⟩, ⟨1, 3, 1⟩, ⟨2, 3, 2⟩] : List Mt).flatMap mtC).toArray 36)
  have hm5 := mtR_blk (cap := 5) (L := [⟨0, 1, 1⟩, ⟨0, 2, 2⟩, ⟨0, 3, 4⟩, ⟨1, 3, 1⟩, ⟨2, 3, 2⟩]) (blk_alloc_new w1 _)
  have hf := hf.trans f1
  have hv1 := hv1.fr f1
  have hv2 := hv2.fr f1
  clear f1
  generalize w1.heap.size = b5 at *
  generalize w1.alloc (.cells (([⟨0, 1, 1⟩, ⟨0, 2, 2⟩, ⟨0, 3, 4⟩, ⟨1, 3, 1⟩, ⟨2, 3, 2⟩] : List Mt).flatMap mtC).toArray 36) = w1 at *
  refine env_put (d := 5) (v := .slice (some ⟨b5, 0, none⟩) 5 5) E rfl (by decide) rfl (wanted_none rfl _) (run_assign rfl (E.get 0 rfl)) fun a E => ?_
  refine wpList_nil ?_
  refine then_n ?_
  refine wp_seq ?_
  refine wp_region_lit ?_
  refine env_put (d := 29) (v := .int .i64 0) E rfl (by decide) rfl (wanted_none rfl _) (run_move rfl (E.get 18 rfl)) fun a E => ?_
  refine env_put (d := 30) (v := .bool true) E rfl (by decide) rfl (wanted_none rfl _) (run_ieql (m := 0) (n := 0) (E.get 0 rfl) rfl Try.underlying25 rfl) fun a E => ?_
  refine env_put (d := 31) (v := .bool true) E rfl (by decide) rfl (wanted_none rfl _) (run_move rfl (E.get 0 rfl)) fun a E => ?_
  refine env_put (d := 32) (v := v1) E rfl (by decide) rfl (w_yes E rfl rfl (by decide) (E.get 0 rfl)) (run_move rfl (E.get 22 rfl)) fun a E => ?_
  refine env_put (d := 33) (v := .agg (mtC ⟨0, 1, 3⟩).toArray) E rfl (by decide) rfl (w_yes E rfl rfl (by decide) (E.get 1 rfl)) (run_of36 (a := ⟨0, 1, 3⟩) rfl rfl rfl rfl) fun a E => ?_
  refine env_put (d := 34) E rfl (by decide) rfl (w_yes E rfl rfl (by decide) (E.get 2 rfl)) (run_one36 rfl (E.get 0 rfl)) fun a E => ?_
  have f1 := (Fr.refl (fun _ => False) w1).alloc (.cells (mtC ⟨0, 1, 3⟩).toArray 36)
  have hm1 := mtR_blk (cap := 1) (L := [⟨0, 1, 3⟩]) (blk_alloc_new w1 (.cells (mtC ⟨0, 1, 3⟩).toArray 36))
  have hf := hf.trans f1
  have hv1 := hv1.fr f1
  have hv2 := hv2.fr f1
  have hm5 := hm5.fr f1
  clear f1
  refine env_call (d := 35) (v := .bool true) E rfl (by decide) rfl (w_yes E rfl rfl (by decide) (E.get 3 rfl)) (run_call2 (enters_of Try.func12 (by kernel_rfl) rfl) rfl rfl (E.get 2 rfl) (E.get 0 rfl)) (same_calls _ _ [⟨0, 1, 3⟩] [⟨0, 1, 3⟩] _ hv1 hm1 (by decide)) fun a w1 f1 E => ?_
  have hf := hf.trans f1
  have hv1 := hv1.fr f1
  have hv2 := hv2.fr f1
  have hm5 := hm5.fr f1
  have hm1 := hm1.fr f1
  clear f1
  refine env_put (d := 36) (v := .bool true) E rfl (by decide) rfl (wanted_none rfl _) (run_pick_t rfl (E.get 4 rfl) (E.get 0 rfl)) fun a E => ?_
  refine env_put (d := 37) (v := .bool true) E rfl (by decide) rfl (wanted_none rfl _) (run_move rfl (E.get 0 rfl)) fun a E => ?_
  refine env_put (d := 38) (v := .int .i64 0) E rfl (by decide) rfl (w_yes E rfl rfl (by decide) (E.get 0 rfl)) (run_move rfl (E.get 16 rfl)) fun a E => ?_
  refine env_put (d := 39) (v := .bool true) E rfl (by decide) rfl (w_yes E rfl rfl (by decide) (E.get 1 rfl)) (run_ieql (m := 0) (n := 0) (E.get 0 rfl) rfl Try.underlying25 rfl) fun a E => ?_
  refine env_put (d := 40) (v := .bool true) E rfl (by decide) rfl (wanted_none rfl _) (run_pick_t rfl (E.get 2 rfl) (E.get 0 rfl)) fun a E => ?_
  refine env_put (d := 41) (v := .bool true) E rfl (by decide) rfl (wanted_none rfl _) (run_move rfl (E.get 0 rfl)) fun a E => ?_
  refine env_put (d := 42) (v := v2) E rfl (by decide) rfl (w_yes E rfl rfl (by decide) (E.get 0 rfl)) (run_move rfl (E.get 21 rfl)) fun a E => ?_
  refine env_put (d := 43) (v := .slice (some ⟨b5, 0, none⟩) 5 5) E rfl (by decide) rfl (w_yes E rfl rfl (by decide) (E.get 1 rfl)) (run_move rfl (E.get 14 rfl)) fun a E => ?_
  refine env_call (d := 44) (v := .bool true) E rfl (by decide) rfl (w_yes E rfl rfl (by decide) (E.get 2 rfl)) (run_call2 (enters_of Try.func12 (by kernel_rfl) rfl) rfl rfl (E.get 1 rfl) (E.get 0 rfl)) (same_calls _ _ [⟨0, 1, 1⟩, ⟨0, 2, 2⟩, ⟨0, 3, 4⟩, ⟨1, 3, 1⟩, ⟨2, 3, 2⟩] [⟨0, 1, 1⟩, ⟨0, 2, 2⟩, ⟨0, 3, 4⟩, ⟨1, 3, 1⟩, ⟨2, 3, 2⟩] _ hv2 hm5 (by decide)) fun a w1 f1 E => ?_
  have hf := hf.trans f1
  have hv1 := hv1.fr f1
  have hv2 := hv2.fr f1
  have hm5 := hm5.fr f1
  have hm1 := hm1.fr f1
  clear f1
  refine env_put (d := 45) (v := .bool true) E rfl (by decide) rfl (wanted_none rfl _) (run_pick_t rfl (E.get 3 rfl) (E.get 0 rfl)) fun a E => ?_
  refine env_set (d := 0) (v := .bool true) E rfl (by decide) (wanted_none rfl _) (run_assign rfl (E.get 0 rfl)) fun a E => ?_
  refine wpList_nil ?_
  refine then_n ?_
  refine wp_ret ?_
  exact ret_tmp (t := 0) rfl E (E.get 0 rfl) ⟨rfl, hf⟩
end Go.Proofs.Ytiainjcimmeedaa
