/- Results that lie in a memory cell; a box in a block of its own. -/
import Derived.Test.YtcafnanbdmapgaaI10
import Derived.Laws.ResultCell
import Derived.Laws.Rows
set_option linter.unusedVariables false
set_option linter.unusedSimpArgs false
namespace Go.Proofs.Ytcafnanbdmapgaa
open Go.RowKit Go.Pl
theorem wp_start4 {P : Program} {f : FuncId} {fn : Func} {c : Code} {R : Ending → World → Prop} {n : Nat} {w : World} {v0 v1 v2 v3 : Value} (hf : P.funcs[f]? = some fn) (hb : fn.body = some c) (hn : fn.ntmps = n) (h2 : 4 ≤ n) (k : ∀ a, Env n [(0, v0), (1, v1), (2, v2), (3, v3)] a → c.wp P (bodyPost P fn R) a w) : Calls P f #[v0, v1, v2, v3] w R := by
  refine calls_of_wp hf hb (k _ ⟨?_, ?_, rfl⟩)
  · simp [hn]; omega
  · intro x hx
    simp only [List.mem_cons, List.not_mem_nil, or_false] at hx
    rcases hx with rfl | rfl | rfl | rfl
    · show (#[v0, v1, v2, v3] ++ Array.replicate (fn.ntmps - 4) undef).getD 0 undef = v0
      rw [Array.getD_eq_getD_getElem?, Array.getElem?_append_left (by simp)]; rfl
    · show (#[v0, v1, v2, v3] ++ Array.replicate (fn.ntmps - 4) undef).getD 1 undef = v1
      rw [Array.getD_eq_getD_getElem?, Array.getElem?_append_left (by simp)]; rfl
    · show (#[v0, v1, v2, v3] ++ Array.replicate (fn.ntmps - 4) undef).getD 2 undef = v2
      rw [Array.getD_eq_getD_getElem?, Array.getElem?_append_left (by simp)]; rfl
    · show (#[v0, v1, v2, v3] ++ Array.replicate (fn.ntmps - 4) undef).getD 3 undef = v3
      rw [Array.getD_eq_getD_getElem?, Array.getElem?_append_left (by simp)]; rfl
abbrev bxB (w : World) (g : Nat) (s : Bx) : Prop := w.heap[g]? = some (.cells (bxC s) 26 (0, 0))
theorem bxB.set {w : World} {g : Nat} {s : Bx} (h : bxB w g s) (t : Bx) : bxB ((((w.setCell ⟨g, 0, none⟩ (.int .i64 t.1.1)).setCell ⟨g, 1, none⟩ (.int .i64 t.1.2)).setCell ⟨g, 2, none⟩ (.int .i64 t.2.1)).setCell ⟨g, 3, none⟩ (.int .i64 t.2.2)) g t := by
  have h1 := blk_setCell_same (off := 0) h (.int .i64 t.1.1)
  have h2 := blk_setCell_same (off := 1) h1 (.int .i64 t.1.2)
  have h3 := blk_setCell_same (off := 2) h2 (.int .i64 t.2.1)
  have h4 := blk_setCell_same (off := 3) h3 (.int .i64 t.2.2)
  exact h4
theorem Fr.one4 (b : Nat) (w : World) (v0 v1 v2 v3 : Value) : Fr (fun k => k = b) w ((((w.setCell ⟨b, 0, none⟩ v0).setCell ⟨b, 1, none⟩ v1).setCell ⟨b, 2, none⟩ v2).setCell ⟨b, 3, none⟩ v3) :=
  ((((Fr.refl (fun k => k = b) w).setCell (p := ⟨b, 0, none⟩) (fun _ => rfl) v0).setCell (p := ⟨b, 1, none⟩) (fun _ => rfl) v1).setCell (p := ⟨b, 2, none⟩) (fun _ => rfl) v2).setCell (p := ⟨b, 3, none⟩) (fun _ => rfl) v3
section
variable {o : Oper} {w : World} {ρ : Operand → Value} {x y : Operand} {b off : Nat}
theorem run_st26 {s t : Bx} (ho : o.op = .store 26 x y) (hx : ρ x = .pointer (some ⟨b, 0, none⟩)) (hy : ρ y = .agg (bxC t)) (h : bxB w b s) :
    (execOp ρ o).run Try.prog w = .ok .skip ((((w.setCell ⟨b, 0, none⟩ (.int .i64 t.1.1)).setCell ⟨b, 1, none⟩ (.int .i64 t.1.2)).setCell ⟨b, 2, none⟩ (.int .i64 t.2.1)).setCell ⟨b, 3, none⟩ (.int .i64 t.2.2)) := by
  have c0 : w.cell? ⟨b, 0, none⟩ = some (.int .i64 s.1.1) := bx h 0 rfl
  have c1 : w.cell? ⟨b, 1, none⟩ = some (.int .i64 s.1.2) := bx h 1 rfl
  have c2 : w.cell? ⟨b, 2, none⟩ = some (.int .i64 s.2.1) := bx h 2 rfl
  have c3 : w.cell? ⟨b, 3, none⟩ = some (.int .i64 s.2.2) := bx h 3 rfl
  have z0 := free_of_blk h 0
  have z1 := free_of_blk h 1
  have z2 := free_of_blk h 2
  have z3 := free_of_blk h 3
  simp [execOp, ho, hx, hy, go_sem, c0, c1, c2, c3, z0, z1, z2, z3]
theorem run_st3 {u : Value} {n : Int} (ho : o.op = .store 3 x y) (hx : ρ x = .pointer (some ⟨b, off, none⟩)) (hy : ρ y = .int .i64 n) (hc : w.cell? ⟨b, off, none⟩ = some u) (hz : w.frozen? ⟨b, off, none⟩ = false) :
    (execOp ρ o).run Try.prog w = .ok .skip (w.setCell ⟨b, off, none⟩ (.int .i64 n)) := by
  simp [execOp, ho, hx, hy, go_sem, hc, hz]
theorem run_alloc26 (ho : o.op = .alloc 26) : (execOp ρ o).run Try.prog w = .ok (.value (.pointer (some ⟨w.heap.size, 0, none⟩))) (w.alloc (.cells (bxC ((0, 0), (0, 0))) 26)) := by
  simp [execOp, ho, go_sem]
end
section
variable {O : Array Oper} {Q : Exit → Act → World → Prop} {rest : List Oper} {o : Oper} {a : Act} {w : World} {n d : Nat} {L : List (Nat × Value)} {x y : Operand} {b : Nat}
theorem env_st26 {s t : Bx} (E : Env n L a) (hd : o.dst = none) (hw : Region.wanted o (yielded O a.tmps) = true) (ho : o.op = .store 26 x y) (hx : a.eval x = .pointer (some ⟨b, 0, none⟩)) (hy : a.eval y = .agg (bxC t)) (h : bxB w b s)
    (k : ∀ w', bxB w' b t → Fr (fun k => k = b) w w' → Env n L a → wpList Try.prog O Q rest a w') : wpList Try.prog O Q (o :: rest) a w :=
  env_store E hd hw (run_st26 ho hx hy h) fun E => k _ (h.set t) (Fr.one4 _ _ _ _ _ _) E
theorem env_alloc26 (E : Env n L a) (hd : o.dst = some d) (hn : d < n) (hf : (L.map (·.1)).contains d = false) (hw : Region.wanted o (yielded O a.tmps) = true) (ho : o.op = .alloc 26)
    (k : ∀ a' w' b, w.heap.size = b → bxB w' b ((0, 0), (0, 0)) → Fr (fun _ => False) w w' → Env n ((d, .pointer (some ⟨b, 0, none⟩)) :: L) a' → wpList Try.prog O Q rest a' w') : wpList Try.prog O Q (o :: rest) a w :=
  env_put E hd hn hf hw (run_alloc26 ho) fun a' E' => k a' _ _ rfl (blk_alloc_new _ _) ((Fr.refl _ _).alloc _) E'
end
section
variable {fn : Func} {R : Ending → World → Prop} {n : Nat} {L : List (Nat × Value)} {a : Act} {w : World} {t u : Tmp} {g : Nat} {s : Bx} {x : Value}
theorem res26 {tmps : Array Value} (hv : tmps.getD t undef = .pointer (some ⟨g, 0, none⟩)) (h : bxB w g s) : ((asAddr (tmps.getD t undef)).run Try.prog w).andThen (fun a w₁ => (loadVar 26 a).run Try.prog w₁) = .ok (.agg (bxC s)) w := by
  rw [hv]
  have := run_loadVar_row (P := Try.prog) w g 26 26 (bxC s) (0, 0) _ h Try.underlying26 rfl info26
  simpa [asAddr, Result.andThen] using this
theorem ret_cell (hr : fn.results = #[.cell t 26]) (E : Env n L a) (hv : a.eval (.tmp t) = .pointer (some ⟨g, 0, none⟩)) (h : bxB w g s) (hR : R (.returned (.agg (bxC s))) w) : bodyPost Try.prog fn R .ret a w := by
  refine ⟨E.df, .agg (bxC s), ?_, hR⟩
  exact results_cell_row hr a.tmps w g 26 (bxC s) (0, 0) _ hv h Try.underlying26 rfl info26
theorem ret_cell2 (hr : fn.results = #[.cell t 26, .tmp u]) (E : Env n L a) (hv : a.eval (.tmp t) = .pointer (some ⟨g, 0, none⟩)) (hu : a.eval (.tmp u) = x) (h : bxB w g s) (hR : R (.returned (.tuple #[.agg (bxC s), x])) w) : bodyPost Try.prog fn R .ret a w := by
  refine ⟨E.df, .tuple #[.agg (bxC s), x], ?_, hR⟩
  rw [results_cell_tmp hr]
  have h1 : a.tmps.getD t undef = .pointer (some ⟨g, 0, none⟩) := hv
  have h2 : a.tmps.getD u undef = x := hu
  have := run_loadVar_row (P := Try.prog) w g 26 26 (bxC s) (0, 0) _ h Try.underlying26 rfl info26
  rw [h1, h2]
  simp [asAddr, Result.andThen, this]
end
end Go.Proofs.Ytcafnanbdmapgaa
set_option linter.unusedVariables false
set_option linter.unusedSimpArgs false
namespace Go.Proofs.Ytcafnanbdmapgaa
open Go.RowKit Go.Pl

set_option maxRecDepth 100000 in
set_option maxHeartbeats 4000000 in
theorem box_calls (m0 m1 m2 m3 : Int) (w : World) : Calls Try.prog 31 #[.int .i64 m0, .int .i64 m1, .int .i64 m2, .int .i64 m3] w fun e w' => e = .returned (.agg (bxC ((m0, m1), (m2, m3)))) ∧ Fr (fun _ => False) w w' := by
  refine wp_start4 Try.func31 rfl rfl (n := 16) (by decide) fun a E => ?_
  have hf : Fr (fun _ => False) w w := Fr.refl _ _
  refine wp_seq ?_
  refine wp_region_lit ?_
  have hfz := hf.size
  refine env_alloc26 (d := 8) E rfl (by decide) rfl (wanted_none rfl _) rfl fun a w1 b22 eb22 hb22 f1 E => ?_
  have hf := hf.trans f1
  clear f1
  have hnb22 : w.heap.size ≤ b22 := by omega
  clear hfz eb22
  refine wpList_nil ?_
  refine then_n ?_
  refine wp_seq ?_
  refine wp_region_lit ?_
  refine env_put (d := 9) (v := .int .i64 m0) E rfl (by decide) rfl (wanted_none rfl _) (run_move rfl (E.get 1 rfl)) fun a E => ?_
  refine env_put (d := 10) (v := .int .i64 m1) E rfl (by decide) rfl (wanted_none rfl _) (run_move rfl (E.get 3 rfl)) fun a E => ?_
  refine env_put (d := 11) (v := .agg (ptC (m0, m1))) E rfl (by decide) rfl (wanted_none rfl _) (run_of24 rfl (E.get 1 rfl) (E.get 0 rfl)) fun a E => ?_
  refine env_put (d := 12) (v := .int .i64 m2) E rfl (by decide) rfl (wanted_none rfl _) (run_move rfl (E.get 6 rfl)) fun a E => ?_
  refine env_put (d := 13) (v := .int .i64 m3) E rfl (by decide) rfl (wanted_none rfl _) (run_move rfl (E.get 8 rfl)) fun a E => ?_
  refine env_put (d := 14) (v := .agg (ptC (m2, m3))) E rfl (by decide) rfl (wanted_none rfl _) (run_of24 rfl (E.get 1 rfl) (E.get 0 rfl)) fun a E => ?_
  refine env_put (d := 15) (v := .agg (bxC ((m0, m1), (m2, m3)))) E rfl (by decide) rfl (wanted_none rfl _) (run_of26 rfl (E.get 3 rfl) (E.get 0 rfl)) fun a E => ?_
  refine env_st26 E rfl (wanted_none rfl _) rfl (E.get 7 rfl) (E.get 0 rfl) hb22 fun w1 hb22 f1 E => ?_
  have hf := hf.trans' f1 (fun r hr e => by omega)
  clear f1
  refine wpList_nil ?_
  refine then_n ?_
  refine wp_ret ?_
  exact ret_cell (t := 8) rfl E (E.get 7 rfl) hb22 ⟨rfl, hf⟩
/-- Box of the reference. -/
def rbox (I : List ByteArray) (J : List Bx) (s : ByteArray) : Bx × Bool := if hasL I s then (J[atL I s]?.getD ((0, 0), (0, 0)), true) else (((0, 0), (0, 0)), false)
set_option maxRecDepth 100000 in
set_option maxHeartbeats 4000000 in
theorem rbox_calls {w : World} {r : Nat} {σ : Nat → Prop} {I : List ByteArray} {J : List Bx} {iv bv : Value} (h : RIAt w r σ I J iv bv) (hIJ : I.length = J.length) (s0 : ByteArray) : Calls Try.prog 17 #[.pointer (some ⟨r, 0, none⟩), .string s0] w fun e w' => e = .returned (.tuple #[.agg (bxC (rbox I J s0).1), .bool (rbox I J s0).2]) ∧ Fr (fun _ => False) w w' := by
  refine wp_start2 Try.func17 rfl rfl (n := 24) (by decide) fun a E => ?_
  have hf : Fr (fun _ => False) w w := Fr.refl _ _
  have hσ : ∀ k, σ k → k < w.heap.size := h.lt
  obtain ⟨p0, cp0, hv0, hle0, hcap0, hs0, hz0⟩ := h.isrc
  rw [hv0] at h
  obtain ⟨p1, cp1, hv1, hle1, hcap1, hs1, hz1⟩ := h.jsrc
  rw [hv1] at h
  clear hs0 hs1
  refine wp_seq ?_
  refine wp_region_lit ?_
  have hfz := hf.size
  refine env_alloc26 (d := 4) E rfl (by decide) rfl (wanted_none rfl _) rfl fun a w1 b23 eb23 hb23 f1 E => ?_
  have h := RIAt.fr h f1 (fun _ _ h => h)
  have hf := hf.trans f1
  clear f1
  have hnb23 : w.heap.size ≤ b23 := by omega
  clear hfz eb23
  refine env_put (d := 5) (v := .bool false) E rfl (by decide) rfl (wanted_none rfl _) (run_assign rfl rfl) fun a E => ?_
  refine wpList_nil ?_
  refine then_n ?_
  refine wp_seq ?_
  refine wp_seq ?_
  refine wp_region_lit ?_
  refine env_put (d := 6) (v := .pointer (some ⟨r, 0, none⟩)) E rfl (by decide) rfl (wanted_none rfl _) (run_move rfl (E.get 2 rfl)) fun a E => ?_
  refine env_put (d := 7) (v := .bool false) E rfl (by decide) rfl (wanted_none rfl _) (run_pnil31 rfl (E.get 0 rfl) rfl) fun a E => ?_
  refine env_put (d := 8) (v := .bool false) E rfl (by decide) rfl (wanted_none rfl _) (run_move rfl (E.get 0 rfl)) fun a E => ?_
  refine env_put (d := 9) (v := .pointer (some ⟨r, 0, none⟩)) E rfl (by decide) rfl (w_yes (g := 2) (s := 8) E rfl rfl (by decide) (E.get 0 rfl)) (run_move rfl (E.get 5 rfl)) fun a E => ?_
  refine env_put (d := 10) (v := .string s0) E rfl (by decide) rfl (w_yes (g := 2) (s := 8) E rfl rfl (by decide) (E.get 1 rfl)) (run_move rfl (E.get 7 rfl)) fun a E => ?_
  refine env_call (d := 11) (v := .bool (hasL I s0)) E rfl (by decide) rfl (w_yes (g := 2) (s := 8) E rfl rfl (by decide) (E.get 2 rfl)) (run_call2 (enters_of Try.func32 (by kernel_rfl) rfl) rfl rfl (E.get 1 rfl) (E.get 0 rfl)) (hasx_calls h s0) fun a w1 f1 E => ?_
  have h := RIAt.fr h f1 (fun _ _ h => h)
  have hb23 := f1.obj hb23 id
  have hf := hf.trans f1
  clear f1
  refine env_put (d := 12) (v := .bool (!(hasL I s0))) E rfl (by decide) rfl (w_yes (g := 2) (s := 8) E rfl rfl (by decide) (E.get 3 rfl)) (run_not rfl (E.get 0 rfl)) fun a E => ?_
  refine env_put (d := 13) (v := .bool (!(hasL I s0))) E rfl (by decide) rfl (wanted_none rfl _) (run_pick_f rfl (E.get 4 rfl) (E.get 0 rfl)) fun a E => ?_
  refine wpList_nil ?_
  refine then_n ?_
  cases hq24 : (hasL I s0) with
  | false =>
    rw [hq24] at E
    refine wp_cond_true (E.get 0 rfl) ?_
    refine wp_seq ?_
    refine wp_region_lit ?_
    refine env_put (d := 14) (v := .agg (bxC ((0, 0), (0, 0)))) E rfl (by decide) rfl (wanted_none rfl _) (run_zero26 rfl) fun a E => ?_
    refine env_st26 E rfl (wanted_none rfl _) rfl (E.get 10 rfl) (E.get 0 rfl) hb23 fun w1 hb23 f1 E => ?_
    have h := RIAt.fr h f1 (fun k hk e => by have := hσ k hk; omega)
    have hf := hf.trans' f1 (fun r hr e => by omega)
    clear f1
    refine env_set (d := 5) (v := .bool false) E rfl (by decide) (wanted_none rfl _) (run_assign rfl rfl) fun a E => ?_
    refine wpList_nil ?_
    refine then_n ?_
    refine wp_ret ?_
    refine then_r ?_
    refine ret_cell2 (t := 4) (u := 5) rfl E (E.get 10 rfl) (E.get 0 rfl) hb23 ⟨?_, hf⟩
    rw [show rbox I J s0 = (((0, 0), (0, 0)), false) by simp [rbox, hq24]]
  | true =>
    rw [hq24] at E
    have hlt : atL I s0 < I.length := hasL_lt hq24
    have hltJ : atL I s0 < J.length := by omega
    obtain ⟨z, hz9⟩ : ∃ z, J[atL I s0]? = some z := ⟨_, List.getElem?_eq_getElem hltJ⟩
    refine wp_cond_false (E.get 0 rfl) ?_
    refine wp_skip ?_
    refine then_n ?_
    refine wp_seq ?_
    obtain ⟨p1q, cp1q, hv1q, hle1q, hcap1q, hs1, hz1q⟩ := h.jsrc
    cases hv1q
    obtain ⟨g2, off2, hpe2, hgl2, hrow2⟩ := hs1.at hltJ
    replace hrow2 := hrow2 _ z hz9
    clear hs1
    have hg2 := hσ g2 (h.oj g2 (by rw [hpe2]; rfl))
    refine wp_region_invx (G := Unit) () (n := 24) (base := [(13, .bool false), (12, .bool false), (11, .bool true), (10, .string s0), (9, .pointer (some ⟨r, 0, none⟩)), (8, .bool false), (7, .bool false), (6, .pointer (some ⟨r, 0, none⟩)), (4, .pointer (some ⟨b23, 0, none⟩)), (0, .pointer (some ⟨r, 0, none⟩)), (1, .string s0)]) (U := [(5, .bool false, 10)]) (T := fun γ => [some (15, .pointer (some ⟨r, 0, none⟩)), some (16, .pointer (some ⟨r, 0, none⟩)), some (17, .pointer (some ⟨r, 1, none⟩)), some (18, .slice (p1) J.length cp1), some (19, .pointer (some ⟨r, 0, none⟩)), some (20, .string s0), some (21, .int .i64 (atL I s0 : Int)), some (22, .pointer (some ⟨g2, (off2 + (atL I s0) * 4), none⟩)), some (23, .agg (bxC z)), none, some (5, .bool true)]) (M := fun γ ls9 wm => Fr (fun k => k = b23) w1 wm ∧ (bxB wm b23 (bif ls9 9 then z else ((0, 0), (0, 0))))) (by kernel_rfl) (by kernel_rfl) (fun _ => by kernel_rfl) (E.of ⟨E.get 0 rfl, E.get 1 rfl, E.get 2 rfl, E.get 3 rfl, E.get 4 rfl, E.get 5 rfl, E.get 6 rfl, E.get 7 rfl, E.get 9 rfl, E.get 10 rfl, E.get 11 rfl, trivial⟩) (fun x hx => by simp only [List.mem_cons, List.not_mem_nil, or_false] at hx; subst hx; exact E.get 8 rfl) ⟨(Fr.refl _ _).drew, ((Fr.refl (fun _ => False) _).drew.obj hb23 id)⟩ ?_ ?_
    · intro j9 o9 γ ls9 a w5 ho hl E D DL DL2 hB hM
      have h := RIAt.fr h hM.1 (fun k hk e => by have := hσ k hk; omega)
      have hrow2 := fun j u hu => hM.1.cell (hrow2 j u hu) (fun (e : g2 = b23) => by omega)
      match j9, ho, hl, D, DL, hB with
      | 0, ho, hl, D, DL, hB =>
        obtain rfl := Option.some.inj ho
        clear ho
        exact ⟨fun _ => valx rfl (run_move rfl (E.get 9 rfl)) rfl hM, fun h => by rw [wanted_none rfl] at h; cases h⟩
      | 1, ho, hl, D, DL, hB =>
        obtain rfl := Option.some.inj ho
        clear ho
        exact ⟨fun _ => valx rfl (run_nilchk rfl (D 0 _ rfl rfl)) rfl hM, fun h => by rw [wanted_none rfl] at h; cases h⟩
      | 2, ho, hl, D, DL, hB =>
        obtain rfl := Option.some.inj ho
        clear ho
        exact ⟨fun _ => valx rfl (fa64_1 rfl (D 1 _ rfl rfl)) rfl hM, fun h => by rw [wanted_none rfl] at h; cases h⟩
      | 3, ho, hl, D, DL, hB =>
        obtain rfl := Option.some.inj ho
        clear ho
        exact ⟨fun _ => valx rfl (run_ld62 rfl (D 2 _ rfl rfl) h.c1) rfl hM, fun h => by rw [wanted_none rfl] at h; cases h⟩
      | 4, ho, hl, D, DL, hB =>
        obtain rfl := Option.some.inj ho
        clear ho
        exact ⟨fun _ => valx rfl (run_move rfl (E.get 9 rfl)) rfl hM, fun h => by rw [wanted_none rfl] at h; cases h⟩
      | 5, ho, hl, D, DL, hB =>
        obtain rfl := Option.some.inj ho
        clear ho
        exact ⟨fun _ => valx rfl (run_move rfl (E.get 10 rfl)) rfl hM, fun h => by rw [wanted_none rfl] at h; cases h⟩
      | 6, ho, hl, D, DL, hB =>
        obtain rfl := Option.some.inj ho
        clear ho
        exact ⟨fun _ => callx rfl (run_call2 (enters_of Try.func33 (by kernel_rfl) rfl) rfl rfl (D 4 _ rfl rfl) (D 5 _ rfl rfl)) (at_calls h s0) rfl fun w9 f1 => ⟨hM.1.trans' f1 (fun _ _ h => h.elim), f1.obj hM.2 id⟩, fun h => by rw [wanted_none rfl] at h; cases h⟩
      | 7, ho, hl, D, DL, hB =>
        obtain rfl := Option.some.inj ho
        clear ho
        exact ⟨fun _ => valx rfl (run_index62 (i := (atL I s0)) rfl ((D 3 _ rfl rfl).trans (by rw [hpe2])) (D 6 _ rfl rfl) hltJ) rfl hM, fun h => by rw [wanted_none rfl] at h; cases h⟩
      | 8, ho, hl, D, DL, hB =>
        obtain rfl := Option.some.inj ho
        clear ho
        exact ⟨fun _ => valx rfl (run_ld26 rfl (D 7 _ rfl rfl) hrow2) rfl hM, fun h => by rw [wanted_none rfl] at h; cases h⟩
      | 9, ho, hl, D, DL, hB =>
        have hB9 : bxB w5 b23 ((0, 0), (0, 0)) := by have h7 := hM.2; rw [hl] at h7; exact h7
        obtain rfl := Option.some.inj ho
        exact ⟨fun _ => storex rfl (run_st26 rfl (E.get 8 rfl) (D 8 _ rfl rfl) hB9) rfl ⟨hM.1.trans' (Fr.one4 _ _ _ _ _ _) (fun r hr e => e), bxB.set hB9 _⟩, fun h => by rw [wanted_none rfl] at h; cases h⟩
      | 10, ho, hl, D, DL, hB =>
        obtain rfl := Option.some.inj ho
        clear ho
        exact ⟨fun _ => valx rfl (run_assign rfl rfl) rfl hM, fun h => by rw [wanted_none rfl] at h; cases h⟩
      | j9 + 11, ho, hl, D, DL, hB => exact absurd ho (by simp)
    · rintro _ a w5 E V hM
      have E := E.add (v := .bool true) (V 10 _ rfl)
      clear V
      have hb23 : bxB w5 b23 z := hM.2
      have hf := hf.trans' hM.1 (fun r hr e => by omega)
      clear hM
      refine then_n ?_
      refine wp_ret ?_
      refine ret_cell2 (t := 4) (u := 5) rfl E (E.get 9 rfl) (E.get 0 rfl) hb23 ⟨?_, hf⟩
      rw [show rbox I J s0 = (z, true) by simp [rbox, hq24, hz9]]
/-- The box around two. -/
def arB (a0 c0 : Bx) : Bx := ((min a0.1.1 c0.1.1, min a0.1.2 c0.1.2), (max a0.2.1 c0.2.1, max a0.2.2 c0.2.2))
set_option maxRecDepth 100000 in
set_option maxHeartbeats 4000000 in
theorem around_calls (a0 c0 : Bx) (w : World) : Calls Try.prog 60 #[.agg (bxC a0), .agg (bxC c0)] w fun e w' => e = .returned (.agg (bxC (arB a0 c0))) ∧ Fr (fun _ => False) w w' := by
  refine wp_start2 Try.func60 rfl rfl (n := 42) (by decide) fun a E => ?_
  have hf : Fr (fun _ => False) w w := Fr.refl _ _
  refine wp_seq ?_
  refine wp_region_lit ?_
  have hfz := hf.size
  refine env_box26 (d := 2) E rfl (by decide) rfl (wanted_none rfl _) rfl (E.get 0 rfl) fun a w1 b26 eb26 hb26 f1 E => ?_
  have hf := hf.trans f1
  clear f1
  have hnb26 : w.heap.size ≤ b26 := by omega
  clear hfz eb26
  have hlb26 := lt_of_blk hb26
  have hfz := hf.size
  refine env_box26 (d := 3) E rfl (by decide) rfl (wanted_none rfl _) rfl (E.get 2 rfl) fun a w1 b27 eb27 hb27 f1 E => ?_
  have hb26 := f1.obj hb26 id
  have hf := hf.trans f1
  clear f1
  have hneb26b27 : b26 < b27 := by omega
  clear hlb26
  have hnb27 : w.heap.size ≤ b27 := by omega
  clear hfz eb27
  have hlb26 := lt_of_blk hb26
  have hlb27 := lt_of_blk hb27
  have hfz := hf.size
  refine env_alloc26 (d := 4) E rfl (by decide) rfl (wanted_none rfl _) rfl fun a w1 b28 eb28 hb28 f1 E => ?_
  have hb26 := f1.obj hb26 id
  have hb27 := f1.obj hb27 id
  have hf := hf.trans f1
  clear f1
  have hneb26b28 : b26 < b28 := by omega
  clear hlb26
  have hneb27b28 : b27 < b28 := by omega
  clear hlb27
  have hnb28 : w.heap.size ≤ b28 := by omega
  clear hfz eb28
  refine wpList_nil ?_
  refine then_n ?_
  refine wp_seq ?_
  refine wp_region_invx (G := Unit) () (n := 42) (base := [(4, .pointer (some ⟨b28, 0, none⟩)), (3, .pointer (some ⟨b27, 0, none⟩)), (2, .pointer (some ⟨b26, 0, none⟩)), (0, .agg (bxC a0)), (1, .agg (bxC c0))]) (U := []) (T := fun γ => [some (5, .pointer (some ⟨b26, 0, none⟩)), some (6, .pointer (some ⟨b26, 0, none⟩)), some (7, .int .i64 a0.1.1), some (8, .pointer (some ⟨b27, 0, none⟩)), some (9, .pointer (some ⟨b27, 0, none⟩)), some (10, .int .i64 c0.1.1), some (11, .int .i64 (min a0.1.1 c0.1.1)), some (12, .pointer (some ⟨b26, 0, none⟩)), some (13, .pointer (some ⟨b26, 1, none⟩)), some (14, .int .i64 a0.1.2), some (15, .pointer (some ⟨b27, 0, none⟩)), some (16, .pointer (some ⟨b27, 1, none⟩)), some (17, .int .i64 c0.1.2), some (18, .int .i64 (min a0.1.2 c0.1.2)), some (19, .pointer (some ⟨b26, 0, none⟩)), some (20, .pointer (some ⟨b26, 0, none⟩)), none, some (21, .pointer (some ⟨b26, 0, none⟩)), some (22, .pointer (some ⟨b26, 1, none⟩)), none]) (M := fun γ ls9 wm => Fr (fun k => k = b26) w1 wm ∧ (bxB wm b26 (((bif ls9 16 then (min a0.1.1 c0.1.1) else a0.1.1), (bif ls9 19 then (min a0.1.2 c0.1.2) else a0.1.2)), (a0.2.1, a0.2.2)))) (by kernel_rfl) (by kernel_rfl) (fun _ => by kernel_rfl) (E.of ⟨E.get 0 rfl, E.get 1 rfl, E.get 2 rfl, E.get 3 rfl, E.get 4 rfl, trivial⟩) (fun x hx => by cases hx) ⟨(Fr.refl _ _).drew, ((Fr.refl (fun _ => False) _).drew.obj hb26 id)⟩ ?_ ?_
  · intro j9 o9 γ ls9 a w5 ho hl E D DL DL2 hB hM
    have hb27 := hM.1.obj hb27 (fun e => by omega)
    have hb28 := hM.1.obj hb28 (fun e => by omega)
    match j9, ho, hl, D, DL, hB with
    | 0, ho, hl, D, DL, hB =>
      obtain rfl := Option.some.inj ho
      clear ho
      exact ⟨fun _ => valx rfl (fa26_0 rfl (E.get 2 rfl)) rfl hM, fun h => by rw [wanted_none rfl] at h; cases h⟩
    | 1, ho, hl, D, DL, hB =>
      obtain rfl := Option.some.inj ho
      clear ho
      exact ⟨fun _ => valx rfl (fa24_0 rfl (D 0 _ rfl rfl)) rfl hM, fun h => by rw [wanted_none rfl] at h; cases h⟩
    | 2, ho, hl, D, DL, hB =>
      obtain rfl := Option.some.inj ho
      clear ho
      exact ⟨fun _ => valx rfl (run_ldi rfl (D 1 _ rfl rfl) (by have h9 : ls9 16 = false := (by cases h8 : ls9 16 with | false => rfl | true => exact absurd (hl.symm.trans (DL2 6 2 rfl (DL2 16 6 rfl h8))) (by decide)); have h7 := bx hM.2 0 rfl; rw [h9] at h7; exact h7)) rfl hM, fun h => by rw [wanted_none rfl] at h; cases h⟩
    | 3, ho, hl, D, DL, hB =>
      obtain rfl := Option.some.inj ho
      clear ho
      exact ⟨fun _ => valx rfl (fa26_0 rfl (E.get 1 rfl)) rfl hM, fun h => by rw [wanted_none rfl] at h; cases h⟩
    | 4, ho, hl, D, DL, hB =>
      obtain rfl := Option.some.inj ho
      clear ho
      exact ⟨fun _ => valx rfl (fa24_0 rfl (D 3 _ rfl rfl)) rfl hM, fun h => by rw [wanted_none rfl] at h; cases h⟩
    | 5, ho, hl, D, DL, hB =>
      obtain rfl := Option.some.inj ho
      clear ho
      exact ⟨fun _ => valx rfl (run_ldi rfl (D 4 _ rfl rfl) (bx hb27 0 rfl)) rfl hM, fun h => by rw [wanted_none rfl] at h; cases h⟩
    | 6, ho, hl, D, DL, hB =>
      obtain rfl := Option.some.inj ho
      clear ho
      exact ⟨fun _ => valx rfl (run_min rfl (D 2 _ rfl rfl) (D 5 _ rfl rfl)) rfl hM, fun h => by rw [wanted_none rfl] at h; cases h⟩
    | 7, ho, hl, D, DL, hB =>
      obtain rfl := Option.some.inj ho
      clear ho
      exact ⟨fun _ => valx rfl (fa26_0 rfl (E.get 2 rfl)) rfl hM, fun h => by rw [wanted_none rfl] at h; cases h⟩
    | 8, ho, hl, D, DL, hB =>
      obtain rfl := Option.some.inj ho
      clear ho
      exact ⟨fun _ => valx rfl (fa24_1 rfl (D 7 _ rfl rfl)) rfl hM, fun h => by rw [wanted_none rfl] at h; cases h⟩
    | 9, ho, hl, D, DL, hB =>
      obtain rfl := Option.some.inj ho
      clear ho
      exact ⟨fun _ => valx rfl (run_ldi rfl (D 8 _ rfl rfl) (by have h9 : ls9 19 = false := (by cases h8 : ls9 19 with | false => rfl | true => exact absurd (hl.symm.trans (DL2 13 9 rfl (DL2 19 13 rfl h8))) (by decide)); have h7 := bx hM.2 1 rfl; rw [h9] at h7; exact h7)) rfl hM, fun h => by rw [wanted_none rfl] at h; cases h⟩
    | 10, ho, hl, D, DL, hB =>
      obtain rfl := Option.some.inj ho
      clear ho
      exact ⟨fun _ => valx rfl (fa26_0 rfl (E.get 1 rfl)) rfl hM, fun h => by rw [wanted_none rfl] at h; cases h⟩
    | 11, ho, hl, D, DL, hB =>
      obtain rfl := Option.some.inj ho
      clear ho
      exact ⟨fun _ => valx rfl (fa24_1 rfl (D 10 _ rfl rfl)) rfl hM, fun h => by rw [wanted_none rfl] at h; cases h⟩
    | 12, ho, hl, D, DL, hB =>
      obtain rfl := Option.some.inj ho
      clear ho
      exact ⟨fun _ => valx rfl (run_ldi rfl (D 11 _ rfl rfl) (bx hb27 1 rfl)) rfl hM, fun h => by rw [wanted_none rfl] at h; cases h⟩
    | 13, ho, hl, D, DL, hB =>
      obtain rfl := Option.some.inj ho
      clear ho
      exact ⟨fun _ => valx rfl (run_min rfl (D 9 _ rfl rfl) (D 12 _ rfl rfl)) rfl hM, fun h => by rw [wanted_none rfl] at h; cases h⟩
    | 14, ho, hl, D, DL, hB =>
      obtain rfl := Option.some.inj ho
      clear ho
      exact ⟨fun _ => valx rfl (fa26_0 rfl (E.get 2 rfl)) rfl hM, fun h => by rw [wanted_none rfl] at h; cases h⟩
    | 15, ho, hl, D, DL, hB =>
      obtain rfl := Option.some.inj ho
      clear ho
      exact ⟨fun _ => valx rfl (fa24_0 rfl (D 14 _ rfl rfl)) rfl hM, fun h => by rw [wanted_none rfl] at h; cases h⟩
    | 16, ho, hl, D, DL, hB =>
      have hB9 := hM.2
      obtain rfl := Option.some.inj ho
      exact ⟨fun _ => storex rfl (run_st3 rfl (D 15 _ rfl rfl) (D 6 _ rfl rfl) (bx hB9 0 rfl) (free_of_blk hB9 0)) rfl ⟨hM.1.trans' ((Fr.refl (fun k => k = b26) _).setCell (p := ⟨b26, 0, none⟩) (fun _ => rfl) _) (fun r hr e => e), blk_setCell_same (off := 0) hB9 _⟩, fun h => by rw [wanted_none rfl] at h; cases h⟩
    | 17, ho, hl, D, DL, hB =>
      obtain rfl := Option.some.inj ho
      clear ho
      exact ⟨fun _ => valx rfl (fa26_0 rfl (E.get 2 rfl)) rfl hM, fun h => by rw [wanted_none rfl] at h; cases h⟩
    | 18, ho, hl, D, DL, hB =>
      obtain rfl := Option.some.inj ho
      clear ho
      exact ⟨fun _ => valx rfl (fa24_1 rfl (D 17 _ rfl rfl)) rfl hM, fun h => by rw [wanted_none rfl] at h; cases h⟩
    | 19, ho, hl, D, DL, hB =>
      have hB9 := hM.2
      obtain rfl := Option.some.inj ho
      exact ⟨fun _ => storex rfl (run_st3 rfl (D 18 _ rfl rfl) (D 13 _ rfl rfl) (bx hB9 1 rfl) (free_of_blk hB9 1)) rfl ⟨hM.1.trans' ((Fr.refl (fun k => k = b26) _).setCell (p := ⟨b26, 1, none⟩) (fun _ => rfl) _) (fun r hr e => e), blk_setCell_same (off := 1) hB9 _⟩, fun h => by rw [wanted_none rfl] at h; cases h⟩
    | j9 + 20, ho, hl, D, DL, hB => exact absurd ho (by simp)
  · rintro _ a w5 E V hM
    clear V
    have hb27 := hM.1.obj hb27 (fun e => by omega)
    have hb28 := hM.1.obj hb28 (fun e => by omega)
    have hb26 : bxB w5 b26 (((min a0.1.1 c0.1.1), (min a0.1.2 c0.1.2)), (a0.2.1, a0.2.2)) := hM.2
    have hf := hf.trans' hM.1 (fun r hr e => by omega)
    clear hM
    refine then_n ?_
    refine wp_seq ?_
    refine wp_region_invx (G := Unit) () (n := 42) (base := [(4, .pointer (some ⟨b28, 0, none⟩)), (3, .pointer (some ⟨b27, 0, none⟩)), (2, .pointer (some ⟨b26, 0, none⟩)), (0, .agg (bxC a0)), (1, .agg (bxC c0))]) (U := []) (T := fun γ => [some (23, .pointer (some ⟨b26, 2, none⟩)), some (24, .pointer (some ⟨b26, 2, none⟩)), some (25, .int .i64 a0.2.1), some (26, .pointer (some ⟨b27, 2, none⟩)), some (27, .pointer (some ⟨b27, 2, none⟩)), some (28, .int .i64 c0.2.1), some (29, .int .i64 (max a0.2.1 c0.2.1)), some (30, .pointer (some ⟨b26, 2, none⟩)), some (31, .pointer (some ⟨b26, 3, none⟩)), some (32, .int .i64 a0.2.2), some (33, .pointer (some ⟨b27, 2, none⟩)), some (34, .pointer (some ⟨b27, 3, none⟩)), some (35, .int .i64 c0.2.2), some (36, .int .i64 (max a0.2.2 c0.2.2)), some (37, .pointer (some ⟨b26, 2, none⟩)), some (38, .pointer (some ⟨b26, 2, none⟩)), none, some (39, .pointer (some ⟨b26, 2, none⟩)), some (40, .pointer (some ⟨b26, 3, none⟩)), none]) (M := fun γ ls9 wm => Fr (fun k => k = b26) w5 wm ∧ (bxB wm b26 (((min a0.1.1 c0.1.1), (min a0.1.2 c0.1.2)), ((bif ls9 16 then (max a0.2.1 c0.2.1) else a0.2.1), (bif ls9 19 then (max a0.2.2 c0.2.2) else a0.2.2))))) (by kernel_rfl) (by kernel_rfl) (fun _ => by kernel_rfl) (E.of ⟨E.get 0 rfl, E.get 1 rfl, E.get 2 rfl, E.get 3 rfl, E.get 4 rfl, trivial⟩) (fun x hx => by cases hx) ⟨(Fr.refl _ _).drew, ((Fr.refl (fun _ => False) _).drew.obj hb26 id)⟩ ?_ ?_
    · intro j9 o9 γ ls9 a w5 ho hl E D DL DL2 hB hM
      have hb27 := hM.1.obj hb27 (fun e => by omega)
      have hb28 := hM.1.obj hb28 (fun e => by omega)
      match j9, ho, hl, D, DL, hB with
      | 0, ho, hl, D, DL, hB =>
        obtain rfl := Option.some.inj ho
        clear ho
        exact ⟨fun _ => valx rfl (fa26_1 rfl (E.get 2 rfl)) rfl hM, fun h => by rw [wanted_none rfl] at h; cases h⟩
      | 1, ho, hl, D, DL, hB =>
        obtain rfl := Option.some.inj ho
        clear ho
        exact ⟨fun _ => valx rfl (fa24_0 rfl (D 0 _ rfl rfl)) rfl hM, fun h => by rw [wanted_none rfl] at h; cases h⟩
      | 2, ho, hl, D, DL, hB =>
        obtain rfl := Option.some.inj ho
        clear ho
        exact ⟨fun _ => valx rfl (run_ldi rfl (D 1 _ rfl rfl) (by have h9 : ls9 16 = false := (by cases h8 : ls9 16 with | false => rfl | true => exact absurd (hl.symm.trans (DL2 6 2 rfl (DL2 16 6 rfl h8))) (by decide)); have h7 := bx hM.2 2 rfl; rw [h9] at h7; exact h7)) rfl hM, fun h => by rw [wanted_none rfl] at h; cases h⟩
      | 3, ho, hl, D, DL, hB =>
        obtain rfl := Option.some.inj ho
        clear ho
        exact ⟨fun _ => valx rfl (fa26_1 rfl (E.get 1 rfl)) rfl hM, fun h => by rw [wanted_none rfl] at h; cases h⟩
      | 4, ho, hl, D, DL, hB =>
        obtain rfl := Option.some.inj ho
        clear ho
        exact ⟨fun _ => valx rfl (fa24_0 rfl (D 3 _ rfl rfl)) rfl hM, fun h => by rw [wanted_none rfl] at h; cases h⟩
      | 5, ho, hl, D, DL, hB =>
        obtain rfl := Option.some.inj ho
        clear ho
        exact ⟨fun _ => valx rfl (run_ldi rfl (D 4 _ rfl rfl) (bx hb27 2 rfl)) rfl hM, fun h => by rw [wanted_none rfl] at h; cases h⟩
      | 6, ho, hl, D, DL, hB =>
        obtain rfl := Option.some.inj ho
        clear ho
        exact ⟨fun _ => valx rfl (run_max rfl (D 2 _ rfl rfl) (D 5 _ rfl rfl)) rfl hM, fun h => by rw [wanted_none rfl] at h; cases h⟩
      | 7, ho, hl, D, DL, hB =>
        obtain rfl := Option.some.inj ho
        clear ho
        exact ⟨fun _ => valx rfl (fa26_1 rfl (E.get 2 rfl)) rfl hM, fun h => by rw [wanted_none rfl] at h; cases h⟩
      | 8, ho, hl, D, DL, hB =>
        obtain rfl := Option.some.inj ho
        clear ho
        exact ⟨fun _ => valx rfl (fa24_1 rfl (D 7 _ rfl rfl)) rfl hM, fun h => by rw [wanted_none rfl] at h; cases h⟩
      | 9, ho, hl, D, DL, hB =>
        obtain rfl := Option.some.inj ho
        clear ho
        exact ⟨fun _ => valx rfl (run_ldi rfl (D 8 _ rfl rfl) (by have h9 : ls9 19 = false := (by cases h8 : ls9 19 with | false => rfl | true => exact absurd (hl.symm.trans (DL2 13 9 rfl (DL2 19 13 rfl h8))) (by decide)); have h7 := bx hM.2 3 rfl; rw [h9] at h7; exact h7)) rfl hM, fun h => by rw [wanted_none rfl] at h; cases h⟩
      | 10, ho, hl, D, DL, hB =>
        obtain rfl := Option.some.inj ho
        clear ho
        exact ⟨fun _ => valx rfl (fa26_1 rfl (E.get 1 rfl)) rfl hM, fun h => by rw [wanted_none rfl] at h; cases h⟩
      | 11, ho, hl, D, DL, hB =>
        obtain rfl := Option.some.inj ho
        clear ho
        exact ⟨fun _ => valx rfl (fa24_1 rfl (D 10 _ rfl rfl)) rfl hM, fun h => by rw [wanted_none rfl] at h; cases h⟩
      | 12, ho, hl, D, DL, hB =>
        obtain rfl := Option.some.inj ho
        clear ho
        exact ⟨fun _ => valx rfl (run_ldi rfl (D 11 _ rfl rfl) (bx hb27 3 rfl)) rfl hM, fun h => by rw [wanted_none rfl] at h; cases h⟩
      | 13, ho, hl, D, DL, hB =>
        obtain rfl := Option.some.inj ho
        clear ho
        exact ⟨fun _ => valx rfl (run_max rfl (D 9 _ rfl rfl) (D 12 _ rfl rfl)) rfl hM, fun h => by rw [wanted_none rfl] at h; cases h⟩
      | 14, ho, hl, D, DL, hB =>
        obtain rfl := Option.some.inj ho
        clear ho
        exact ⟨fun _ => valx rfl (fa26_1 rfl (E.get 2 rfl)) rfl hM, fun h => by rw [wanted_none rfl] at h; cases h⟩
      | 15, ho, hl, D, DL, hB =>
        obtain rfl := Option.some.inj ho
        clear ho
        exact ⟨fun _ => valx rfl (fa24_0 rfl (D 14 _ rfl rfl)) rfl hM, fun h => by rw [wanted_none rfl] at h; cases h⟩
      | 16, ho, hl, D, DL, hB =>
        have hB9 := hM.2
        obtain rfl := Option.some.inj ho
        exact ⟨fun _ => storex rfl (run_st3 rfl (D 15 _ rfl rfl) (D 6 _ rfl rfl) (bx hB9 2 rfl) (free_of_blk hB9 2)) rfl ⟨hM.1.trans' ((Fr.refl (fun k => k = b26) _).setCell (p := ⟨b26, 2, none⟩) (fun _ => rfl) _) (fun r hr e => e), blk_setCell_same (off := 2) hB9 _⟩, fun h => by rw [wanted_none rfl] at h; cases h⟩
      | 17, ho, hl, D, DL, hB =>
        obtain rfl := Option.some.inj ho
        clear ho
        exact ⟨fun _ => valx rfl (fa26_1 rfl (E.get 2 rfl)) rfl hM, fun h => by rw [wanted_none rfl] at h; cases h⟩
      | 18, ho, hl, D, DL, hB =>
        obtain rfl := Option.some.inj ho
        clear ho
        exact ⟨fun _ => valx rfl (fa24_1 rfl (D 17 _ rfl rfl)) rfl hM, fun h => by rw [wanted_none rfl] at h; cases h⟩
      | 19, ho, hl, D, DL, hB =>
        have hB9 := hM.2
        obtain rfl := Option.some.inj ho
        exact ⟨fun _ => storex rfl (run_st3 rfl (D 18 _ rfl rfl) (D 13 _ rfl rfl) (bx hB9 3 rfl) (free_of_blk hB9 3)) rfl ⟨hM.1.trans' ((Fr.refl (fun k => k = b26) _).setCell (p := ⟨b26, 3, none⟩) (fun _ => rfl) _) (fun r hr e => e), blk_setCell_same (off := 3) hB9 _⟩, fun h => by rw [wanted_none rfl] at h; cases h⟩
      | j9 + 20, ho, hl, D, DL, hB => exact absurd ho (by simp)
    · rintro _ a w5 E V hM
      clear V
      have hb27 := hM.1.obj hb27 (fun e => by omega)
      have hb28 := hM.1.obj hb28 (fun e => by omega)
      have hb26 : bxB w5 b26 (((min a0.1.1 c0.1.1), (min a0.1.2 c0.1.2)), ((max a0.2.1 c0.2.1), (max a0.2.2 c0.2.2))) := hM.2
      have hf := hf.trans' hM.1 (fun r hr e => by omega)
      clear hM
      refine then_n ?_
      refine wp_seq ?_
      refine wp_region_lit ?_
      refine env_put (d := 41) (v := .agg (bxC (((min a0.1.1 c0.1.1), (min a0.1.2 c0.1.2)), ((max a0.2.1 c0.2.1), (max a0.2.2 c0.2.2))))) E rfl (by decide) rfl (wanted_none rfl _) (run_ld26 rfl (E.get 2 rfl) (rng4 (p := (((min a0.1.1 c0.1.1), (min a0.1.2 c0.1.2)), ((max a0.2.1 c0.2.1), (max a0.2.2 c0.2.2)))) hb26 0 rfl rfl rfl rfl)) fun a E => ?_
      refine env_st26 E rfl (wanted_none rfl _) rfl (E.get 1 rfl) (E.get 0 rfl) hb28 fun w1 hb28 f1 E => ?_
      have hb27 := f1.obj hb27 (fun e => by omega)
      have hb26 := f1.obj hb26 (fun e => by omega)
      have hf := hf.trans' f1 (fun r hr e => by omega)
      clear f1
      refine wpList_nil ?_
      refine then_n ?_
      refine wp_ret ?_
      exact ret_cell (t := 4) rfl E (E.get 1 rfl) hb28 ⟨rfl, hf⟩
def RNew (w : World) (e : Ending) (w' : World) : Prop := ∃ r σ, e = .returned (.pointer (some ⟨r, 0, none⟩)) ∧ RIA w' r σ [] [] ∧ Fr (fun _ => False) w w' ∧ ∀ k, σ k → w.heap.size ≤ k
theorem rnew_calls (w : World) : Calls Try.prog 12 #[] w (RNew w) := by
  have hfin : Hid (RNew w (.returned (.pointer (some ⟨w.heap.size, 0, none⟩))) (w.alloc (.cells #[.slice none 0 0, .slice none 0 0] 64))) :=
    ⟨_, fun k => k = w.heap.size, rfl, ⟨.slice none 0 0, .slice none 0 0, blk_alloc_new _ _, rfl, ow_nil _, ow_nil _, by simp [Value.ownBlock], by simp [Value.ownBlock], by simp⟩, by simp, by simp⟩
  go_enter Try.func12, Try.ntmps12
  go_wp2
  go_ret
  exact hfin.out

end Go.Proofs.Ytcafnanbdmapgaa
