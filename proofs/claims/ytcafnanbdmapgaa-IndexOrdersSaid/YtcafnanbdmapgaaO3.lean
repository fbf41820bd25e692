/- The laws of the index: head. -/
import Derived.Test.YtcafnanbdmapgaaO1
set_option linter.unusedVariables false
set_option linter.unusedSimpArgs false
namespace Go.Proofs.Ytcafnanbdmapgaa
open Go.RowKit Go.Pl

section
variable {o : Oper} {w : World} {ρ : Operand → Value} {x y : Operand} {p q : Bx}
theorem run_beq26 (ho : o.op = .binOp .eql 26 x y 26) (hx : ρ x = .agg (bxC p)) (hy : ρ y = .agg (bxC q)) : (execOp ρ o).run Try.prog w = .ok (.value (.bool (decide (p = q)))) w := by
  obtain ⟨⟨a, b⟩, c, d⟩ := p
  obtain ⟨⟨e, f⟩, g, h⟩ := q
  simp only [Prod.mk.injEq]
  by_cases h1 : a = e <;> by_cases h2 : b = f <;> by_cases h3 : c = g <;> by_cases h4 : d = h <;> simp [execOp, ho, hx, hy, go_sem, h1, h2, h3, h4]
theorem run_zero24 (ho : o.op = .build 24 #[]) : (execOp ρ o).run Try.prog w = .ok (.value (.agg (ptC (0, 0)))) w := by
  simp [execOp, ho, go_sem]
theorem run_bx26 (ho : o.op = .binOp .eql 26 x y 26) (hx : ρ x = .agg (bxC p)) (hy : ρ y = .agg (bxC p)) : (execOp ρ o).run Try.prog w = .ok (.value (.bool true)) w := by
  rw [run_beq26 ho hx hy, decide_eq_true rfl]
end
theorem wp_start0 {P : Program} {f : FuncId} {fn : Func} {c : Code} {R : Ending → World → Prop} {n : Nat} {w : World} (hf : P.funcs[f]? = some fn) (hb : fn.body = some c) (hn : fn.ntmps = n) (k : ∀ a, Env n [] a → c.wp P (bodyPost P fn R) a w) : Calls P f #[] w R := by
  refine calls_of_wp hf hb (k _ ⟨?_, ?_, rfl⟩)
  · simp [hn]
  · intro x hx; cases hx
set_option maxRecDepth 100000 in
set_option maxHeartbeats 16000000 in
theorem head_calls (w : World) : Calls Try.prog 9 #[] w fun e w' => e = .returned (.bool true) ∧ Fr (fun _ => False) w w' := by
  refine wp_start0 Try.func9 rfl rfl (n := 95) fun a E => ?_
  have hf : Fr (fun _ => False) w w := Fr.refl _ _
  refine wp_seq ?_
  refine wp_region_lit ?_
  refine env_put (d := 0) (v := .bool false) E rfl (by decide) rfl (wanted_none rfl _) (run_assign rfl rfl) fun a E => ?_
  refine wpList_nil ?_
  refine then_n ?_
  refine wp_seq ?_
  refine wp_region_lit ?_
  have hz0 := hf.size
  refine env_callv (d := 7) (R := fun u w8 => ∃ q T, u = .pointer (some ⟨q, 0, none⟩) ∧ Ix w8 w.heap.size q 0 T (fun _ => none) ∧ Fr (fun _ => False) w w8) E rfl (by decide) rfl (wanted_none rfl _) (run_call0 (enters_of Try.func11 (by kernel_rfl) rfl) rfl rfl) ((ix_new w).mono fun e w8 ⟨q, T, h1, h2, h3⟩ => ⟨_, h1, q, T, rfl, h2, h3⟩) fun a wb1 u9 hR E => ?_
  obtain ⟨q, T, rfl, hX, f1⟩ := hR
  have ht : TT w (fun _ => False) T := fun k hk => .inr (hX.lt k hk).1
  have hf := hf.trans f1
  have hX := hX.base hz0
  clear f1 ht hz0
  obtain ⟨m0, hm0⟩ : ∃ m0 : ByteArray → Option Bx, m0 = fun _ => none := ⟨_, rfl⟩
  have hF := RefOf.new
  rw [← hm0] at hX hF
  clear hm0
  refine env_put (d := 1) (v := .pointer (some ⟨q, 0, none⟩)) E rfl (by decide) rfl (wanted_none rfl _) (run_assign rfl (E.get 0 rfl)) fun a E => ?_
  refine wpList_nil ?_
  refine then_n ?_
  refine wp_seq ?_
  refine wp_region_lit ?_
  refine env_put (d := 8) (v := .pointer (some ⟨q, 0, none⟩)) E rfl (by decide) rfl (wanted_none rfl _) (run_move rfl (E.get 0 rfl)) fun a E => ?_
  refine env_call (d := 9) (v := .agg (bxC ((0, 0), (2, 2)))) E rfl (by decide) rfl (wanted_none rfl _) (run_call4 (enters_of Try.func31 (by kernel_rfl) rfl) rfl rfl rfl rfl rfl rfl) (box_calls _ _ _ _ _) fun a w1 f1 E => ?_
  have hX := Ix.fr hX f1 (fun _ _ h => h)
  have hf := hf.trans f1
  clear f1
  have hp := hF.put ⟨#[97]⟩ ((0, 0), (2, 2))
  rw [show rput [] [] ⟨#[97]⟩ ((0, 0), (2, 2)) = (0, [(⟨#[97]⟩ : ByteArray)], [(((0, 0), (2, 2)) : Bx)]) from by decide +kernel] at hp
  obtain ⟨hpe, hF⟩ := hp
  refine env_call (d := 10) (v := .int .i64 0) (F := fun w8 => IxW w1 w.heap.size q 1 T (putM m0 ⟨#[97]⟩ ((0, 0), (2, 2))) w8) E rfl (by decide) rfl (wanted_none rfl _) (run_call3 (enters_of Try.func29 (by kernel_rfl) rfl) rfl rfl (E.get 1 rfl) rfl (E.get 0 rfl)) ((ix_put hX (by decide) ⟨#[97]⟩ (by decide) ((0, 0), (2, 2))).mono fun e w8 h => ⟨h.1.trans (by rw [← hpe]), h.2⟩) fun a w1 hW E => ?_
  obtain ⟨hX2, f2⟩ := hW
  have ht := TT.refl w1 T
  have hf := hf.trans' f2 (fun r hr e => by have := (hX.lt r e).1; omega)
  have hX := hX2
  clear hX2 f2 ht
  obtain ⟨m1, hm9⟩ : ∃ m9, m9 = putM m0 ⟨#[97]⟩ ((0, 0), (2, 2)) := ⟨_, rfl⟩
  rw [← hm9] at hX hF
  clear hm9 hpe
  refine env_put (d := 11) (v := .bool true) E rfl (by decide) rfl (wanted_none rfl _) (run_ieql (m := 0) (n := 0) (E.get 0 rfl) rfl Try.underlying33 rfl) fun a E => ?_
  refine env_put (d := 12) (v := .bool true) E rfl (by decide) rfl (wanted_none rfl _) (run_move rfl (E.get 0 rfl)) fun a E => ?_
  refine env_put (d := 13) (v := .pointer (some ⟨q, 0, none⟩)) E rfl (by decide) rfl (w_yes (g := 4) (s := 12) E rfl rfl (by decide) (E.get 0 rfl)) (run_move rfl (E.get 5 rfl)) fun a E => ?_
  refine env_call (d := 14) (v := .agg (bxC ((2, 2), (5, 3)))) E rfl (by decide) rfl (w_yes (g := 4) (s := 12) E rfl rfl (by decide) (E.get 1 rfl)) (run_call4 (enters_of Try.func31 (by kernel_rfl) rfl) rfl rfl rfl rfl rfl rfl) (box_calls _ _ _ _ _) fun a w1 f1 E => ?_
  have hX := Ix.fr hX f1 (fun _ _ h => h)
  have hf := hf.trans f1
  clear f1
  have hp := hF.put ⟨#[98]⟩ ((2, 2), (5, 3))
  rw [show rput [(⟨#[97]⟩ : ByteArray)] [(((0, 0), (2, 2)) : Bx)] ⟨#[98]⟩ ((2, 2), (5, 3)) = (0, [(⟨#[97]⟩ : ByteArray), (⟨#[98]⟩ : ByteArray)], [(((0, 0), (2, 2)) : Bx), (((2, 2), (5, 3)) : Bx)]) from by decide +kernel] at hp
  obtain ⟨hpe, hF⟩ := hp
  refine env_call (d := 15) (v := .int .i64 0) (F := fun w8 => IxW w1 w.heap.size q 2 T (putM m1 ⟨#[98]⟩ ((2, 2), (5, 3))) w8) E rfl (by decide) rfl (w_yes (g := 4) (s := 12) E rfl rfl (by decide) (E.get 2 rfl)) (run_call3 (enters_of Try.func29 (by kernel_rfl) rfl) rfl rfl (E.get 1 rfl) rfl (E.get 0 rfl)) ((ix_put hX (by decide) ⟨#[98]⟩ (by decide) ((2, 2), (5, 3))).mono fun e w8 h => ⟨h.1.trans (by rw [← hpe]), h.2⟩) fun a w1 hW E => ?_
  obtain ⟨hX2, f2⟩ := hW
  have ht := TT.refl w1 T
  have hf := hf.trans' f2 (fun r hr e => by have := (hX.lt r e).1; omega)
  have hX := hX2
  clear hX2 f2 ht
  obtain ⟨m2, hm9⟩ : ∃ m9, m9 = putM m1 ⟨#[98]⟩ ((2, 2), (5, 3)) := ⟨_, rfl⟩
  rw [← hm9] at hX hF
  clear hm9 hpe
  refine env_put (d := 16) (v := .bool true) E rfl (by decide) rfl (w_yes (g := 4) (s := 12) E rfl rfl (by decide) (E.get 3 rfl)) (run_ieql (m := 0) (n := 0) (E.get 0 rfl) rfl Try.underlying33 rfl) fun a E => ?_
  refine env_put (d := 17) (v := .bool true) E rfl (by decide) rfl (wanted_none rfl _) (run_pick_t rfl (E.get 4 rfl) (E.get 0 rfl)) fun a E => ?_
  refine env_put (d := 18) (v := .bool true) E rfl (by decide) rfl (wanted_none rfl _) (run_move rfl (E.get 0 rfl)) fun a E => ?_
  refine env_put (d := 19) (v := .pointer (some ⟨q, 0, none⟩)) E rfl (by decide) rfl (w_yes (g := 10) (s := 18) E rfl rfl (by decide) (E.get 0 rfl)) (run_move rfl (E.get 11 rfl)) fun a E => ?_
  refine env_call (d := 20) (v := .agg (bxC ((9, 0), (9, 0)))) E rfl (by decide) rfl (w_yes (g := 10) (s := 18) E rfl rfl (by decide) (E.get 1 rfl)) (run_call4 (enters_of Try.func31 (by kernel_rfl) rfl) rfl rfl rfl rfl rfl rfl) (box_calls _ _ _ _ _) fun a w1 f1 E => ?_
  have hX := Ix.fr hX f1 (fun _ _ h => h)
  have hf := hf.trans f1
  clear f1
  have hp := hF.put ⟨#[99]⟩ ((9, 0), (9, 0))
  rw [show rput [(⟨#[97]⟩ : ByteArray), (⟨#[98]⟩ : ByteArray)] [(((0, 0), (2, 2)) : Bx), (((2, 2), (5, 3)) : Bx)] ⟨#[99]⟩ ((9, 0), (9, 0)) = (0, [(⟨#[97]⟩ : ByteArray), (⟨#[98]⟩ : ByteArray), (⟨#[99]⟩ : ByteArray)], [(((0, 0), (2, 2)) : Bx), (((2, 2), (5, 3)) : Bx), (((9, 0), (9, 0)) : Bx)]) from by decide +kernel] at hp
  obtain ⟨hpe, hF⟩ := hp
  refine env_call (d := 21) (v := .int .i64 0) (F := fun w8 => IxW w1 w.heap.size q 3 T (putM m2 ⟨#[99]⟩ ((9, 0), (9, 0))) w8) E rfl (by decide) rfl (w_yes (g := 10) (s := 18) E rfl rfl (by decide) (E.get 2 rfl)) (run_call3 (enters_of Try.func29 (by kernel_rfl) rfl) rfl rfl (E.get 1 rfl) rfl (E.get 0 rfl)) ((ix_put hX (by decide) ⟨#[99]⟩ (by decide) ((9, 0), (9, 0))).mono fun e w8 h => ⟨h.1.trans (by rw [← hpe]), h.2⟩) fun a w1 hW E => ?_
  obtain ⟨hX2, f2⟩ := hW
  have ht := TT.refl w1 T
  have hf := hf.trans' f2 (fun r hr e => by have := (hX.lt r e).1; omega)
  have hX := hX2
  clear hX2 f2 ht
  obtain ⟨m3, hm9⟩ : ∃ m9, m9 = putM m2 ⟨#[99]⟩ ((9, 0), (9, 0)) := ⟨_, rfl⟩
  rw [← hm9] at hX hF
  clear hm9 hpe
  refine env_put (d := 22) (v := .bool true) E rfl (by decide) rfl (w_yes (g := 10) (s := 18) E rfl rfl (by decide) (E.get 3 rfl)) (run_ieql (m := 0) (n := 0) (E.get 0 rfl) rfl Try.underlying33 rfl) fun a E => ?_
  refine env_put (d := 23) (v := .bool true) E rfl (by decide) rfl (wanted_none rfl _) (run_pick_t rfl (E.get 4 rfl) (E.get 0 rfl)) fun a E => ?_
  refine env_put (d := 24) (v := .bool true) E rfl (by decide) rfl (wanted_none rfl _) (run_move rfl (E.get 0 rfl)) fun a E => ?_
  refine env_put (d := 25) (v := .pointer (some ⟨q, 0, none⟩)) E rfl (by decide) rfl (w_yes (g := 16) (s := 24) E rfl rfl (by decide) (E.get 0 rfl)) (run_move rfl (E.get 17 rfl)) fun a E => ?_
  refine env_call (d := 26) (v := .agg (bxC ((0, 0), (0, 0)))) E rfl (by decide) rfl (w_yes (g := 16) (s := 24) E rfl rfl (by decide) (E.get 1 rfl)) (run_call4 (enters_of Try.func31 (by kernel_rfl) rfl) rfl rfl rfl rfl rfl rfl) (box_calls _ _ _ _ _) fun a w1 f1 E => ?_
  have hX := Ix.fr hX f1 (fun _ _ h => h)
  have hf := hf.trans f1
  clear f1
  have hp := hF.put ⟨#[97]⟩ ((0, 0), (0, 0))
  rw [show rput [(⟨#[97]⟩ : ByteArray), (⟨#[98]⟩ : ByteArray), (⟨#[99]⟩ : ByteArray)] [(((0, 0), (2, 2)) : Bx), (((2, 2), (5, 3)) : Bx), (((9, 0), (9, 0)) : Bx)] ⟨#[97]⟩ ((0, 0), (0, 0)) = (9, [(⟨#[97]⟩ : ByteArray), (⟨#[98]⟩ : ByteArray), (⟨#[99]⟩ : ByteArray)], [(((0, 0), (2, 2)) : Bx), (((2, 2), (5, 3)) : Bx), (((9, 0), (9, 0)) : Bx)]) from by decide +kernel] at hp
  obtain ⟨hpe, hF⟩ := hp
  refine env_call (d := 27) (v := .int .i64 9) (F := fun w8 => IxW w1 w.heap.size q 4 T (putM m3 ⟨#[97]⟩ ((0, 0), (0, 0))) w8) E rfl (by decide) rfl (w_yes (g := 16) (s := 24) E rfl rfl (by decide) (E.get 2 rfl)) (run_call3 (enters_of Try.func29 (by kernel_rfl) rfl) rfl rfl (E.get 1 rfl) rfl (E.get 0 rfl)) ((ix_put hX (by decide) ⟨#[97]⟩ (by decide) ((0, 0), (0, 0))).mono fun e w8 h => ⟨h.1.trans (by rw [← hpe]), h.2⟩) fun a w1 hW E => ?_
  obtain ⟨hX2, f2⟩ := hW
  have ht := TT.refl w1 T
  have hf := hf.trans' f2 (fun r hr e => by have := (hX.lt r e).1; omega)
  have hX := hX2
  clear hX2 f2 ht
  obtain ⟨m4, hm9⟩ : ∃ m9, m9 = putM m3 ⟨#[97]⟩ ((0, 0), (0, 0)) := ⟨_, rfl⟩
  rw [← hm9] at hX hF
  clear hm9 hpe
  refine env_put (d := 28) (v := .bool true) E rfl (by decide) rfl (w_yes (g := 16) (s := 24) E rfl rfl (by decide) (E.get 3 rfl)) (run_ieql (m := 9) (n := 9) (E.get 0 rfl) rfl Try.underlying33 rfl) fun a E => ?_
  refine env_put (d := 29) (v := .bool true) E rfl (by decide) rfl (wanted_none rfl _) (run_pick_t rfl (E.get 4 rfl) (E.get 0 rfl)) fun a E => ?_
  refine env_put (d := 30) (v := .bool true) E rfl (by decide) rfl (wanted_none rfl _) (run_move rfl (E.get 0 rfl)) fun a E => ?_
  refine env_put (d := 31) (v := .pointer (some ⟨q, 0, none⟩)) E rfl (by decide) rfl (w_yes (g := 22) (s := 30) E rfl rfl (by decide) (E.get 0 rfl)) (run_move rfl (E.get 23 rfl)) fun a E => ?_
  refine env_call (d := 32) (v := .agg (bxC ((1, 0), (0, 0)))) E rfl (by decide) rfl (w_yes (g := 22) (s := 30) E rfl rfl (by decide) (E.get 1 rfl)) (run_call4 (enters_of Try.func31 (by kernel_rfl) rfl) rfl rfl rfl rfl rfl rfl) (box_calls _ _ _ _ _) fun a w1 f1 E => ?_
  have hX := Ix.fr hX f1 (fun _ _ h => h)
  have hf := hf.trans f1
  clear f1
  have hp := hF.put ⟨#[100]⟩ ((1, 0), (0, 0))
  rw [show rput [(⟨#[97]⟩ : ByteArray), (⟨#[98]⟩ : ByteArray), (⟨#[99]⟩ : ByteArray)] [(((0, 0), (2, 2)) : Bx), (((2, 2), (5, 3)) : Bx), (((9, 0), (9, 0)) : Bx)] ⟨#[100]⟩ ((1, 0), (0, 0)) = (1, [(⟨#[97]⟩ : ByteArray), (⟨#[98]⟩ : ByteArray), (⟨#[99]⟩ : ByteArray)], [(((0, 0), (2, 2)) : Bx), (((2, 2), (5, 3)) : Bx), (((9, 0), (9, 0)) : Bx)]) from by decide +kernel] at hp
  obtain ⟨hpe, hF⟩ := hp
  refine env_call (d := 33) (v := .int .i64 1) (F := fun w8 => IxW w1 w.heap.size q 5 T (putM m4 ⟨#[100]⟩ ((1, 0), (0, 0))) w8) E rfl (by decide) rfl (w_yes (g := 22) (s := 30) E rfl rfl (by decide) (E.get 2 rfl)) (run_call3 (enters_of Try.func29 (by kernel_rfl) rfl) rfl rfl (E.get 1 rfl) rfl (E.get 0 rfl)) ((ix_put hX (by decide) ⟨#[100]⟩ (by decide) ((1, 0), (0, 0))).mono fun e w8 h => ⟨h.1.trans (by rw [← hpe]), h.2⟩) fun a w1 hW E => ?_
  obtain ⟨hX2, f2⟩ := hW
  have ht := TT.refl w1 T
  have hf := hf.trans' f2 (fun r hr e => by have := (hX.lt r e).1; omega)
  have hX := hX2
  clear hX2 f2 ht
  obtain ⟨m5, hm9⟩ : ∃ m9, m9 = putM m4 ⟨#[100]⟩ ((1, 0), (0, 0)) := ⟨_, rfl⟩
  rw [← hm9] at hX hF
  clear hm9 hpe
  refine env_put (d := 34) (v := .bool true) E rfl (by decide) rfl (w_yes (g := 22) (s := 30) E rfl rfl (by decide) (E.get 3 rfl)) (run_ieql (m := 1) (n := 1) (E.get 0 rfl) rfl Try.underlying33 rfl) fun a E => ?_
  refine env_put (d := 35) (v := .bool true) E rfl (by decide) rfl (wanted_none rfl _) (run_pick_t rfl (E.get 4 rfl) (E.get 0 rfl)) fun a E => ?_
  refine env_put (d := 36) (v := .bool true) E rfl (by decide) rfl (wanted_none rfl _) (run_move rfl (E.get 0 rfl)) fun a E => ?_
  refine env_put (d := 37) (v := .pointer (some ⟨q, 0, none⟩)) E rfl (by decide) rfl (w_yes (g := 28) (s := 36) E rfl rfl (by decide) (E.get 0 rfl)) (run_move rfl (E.get 29 rfl)) fun a E => ?_
  have hp := hF.drop ⟨#[100]⟩
  rw [show rdrop [(⟨#[97]⟩ : ByteArray), (⟨#[98]⟩ : ByteArray), (⟨#[99]⟩ : ByteArray)] [(((0, 0), (2, 2)) : Bx), (((2, 2), (5, 3)) : Bx), (((9, 0), (9, 0)) : Bx)] ⟨#[100]⟩ = (11, [(⟨#[97]⟩ : ByteArray), (⟨#[98]⟩ : ByteArray), (⟨#[99]⟩ : ByteArray)], [(((0, 0), (2, 2)) : Bx), (((2, 2), (5, 3)) : Bx), (((9, 0), (9, 0)) : Bx)]) from by decide +kernel] at hp
  obtain ⟨hpe, hF⟩ := hp
  refine env_call (d := 38) (v := .int .i64 11) (F := fun w8 => IxW w1 w.heap.size q 5 T (delB m5 ⟨#[100]⟩) w8) E rfl (by decide) rfl (w_yes (g := 28) (s := 36) E rfl rfl (by decide) (E.get 1 rfl)) (run_call2 (enters_of Try.func30 (by kernel_rfl) rfl) rfl rfl (E.get 0 rfl) rfl) ((ix_drop hX ⟨#[100]⟩ (by decide)).mono fun e w8 h => ⟨h.1.trans (by rw [← hpe]), h.2⟩) fun a w1 hW E => ?_
  obtain ⟨hX2, f2⟩ := hW
  have ht := TT.refl w1 T
  have hf := hf.trans' f2 (fun r hr e => by have := (hX.lt r e).1; omega)
  have hX := hX2
  clear hX2 f2 ht
  obtain ⟨m6, hm9⟩ : ∃ m9, m9 = delB m5 ⟨#[100]⟩ := ⟨_, rfl⟩
  rw [← hm9] at hX hF
  clear hm9 hpe
  refine env_put (d := 39) (v := .bool true) E rfl (by decide) rfl (w_yes (g := 28) (s := 36) E rfl rfl (by decide) (E.get 2 rfl)) (run_ieql (m := 11) (n := 11) (E.get 0 rfl) rfl Try.underlying33 rfl) fun a E => ?_
  refine env_put (d := 40) (v := .bool true) E rfl (by decide) rfl (wanted_none rfl _) (run_pick_t rfl (E.get 3 rfl) (E.get 0 rfl)) fun a E => ?_
  refine env_put (d := 2) (v := .bool true) E rfl (by decide) rfl (wanted_none rfl _) (run_assign rfl (E.get 0 rfl)) fun a E => ?_
  refine wpList_nil ?_
  refine then_n ?_
  refine wp_seq ?_
  refine wp_region_lit ?_
  refine env_put (d := 42) (v := .pointer (some ⟨q, 0, none⟩)) E rfl (by decide) rfl (wanted_none rfl _) (run_move rfl (E.get 34 rfl)) fun a E => ?_
  have hp := hF.box ⟨#[98]⟩
  rw [show rbox [(⟨#[97]⟩ : ByteArray), (⟨#[98]⟩ : ByteArray), (⟨#[99]⟩ : ByteArray)] [(((0, 0), (2, 2)) : Bx), (((2, 2), (5, 3)) : Bx), (((9, 0), (9, 0)) : Bx)] ⟨#[98]⟩ = (((2, 2), (5, 3)), true) from by decide +kernel] at hp
  obtain ⟨hp1, hp2⟩ := Prod.mk.inj hp
  refine env_call (d := 43) (v := .tuple #[.agg (bxC ((2, 2), (5, 3))), .bool true]) E rfl (by decide) rfl (wanted_none rfl _) (run_call2 (enters_of Try.func16 (by kernel_rfl) rfl) rfl rfl (E.get 0 rfl) rfl) ((ix_box hX ⟨#[98]⟩ (by decide)).mono fun e w8 h => ⟨h.1.trans (by rw [← hp1, ← hp2]), h.2⟩) fun a w1 f1 E => ?_
  clear hp hp1 hp2
  have hX := Ix.fr hX f1 (fun _ _ h => h)
  have hf := hf.trans f1
  clear f1
  refine env_put (d := 41) (v := .tuple #[.agg (bxC ((2, 2), (5, 3))), .bool true]) E rfl (by decide) rfl (wanted_none rfl _) (run_move rfl (E.get 0 rfl)) fun a E => ?_
  refine env_put (d := 44) (v := .agg (bxC ((2, 2), (5, 3)))) E rfl (by decide) rfl (wanted_none rfl _) (run_ext0 rfl (E.get 0 rfl)) fun a E => ?_
  refine env_put (d := 45) (v := .bool true) E rfl (by decide) rfl (wanted_none rfl _) (run_ext1 rfl (E.get 1 rfl)) fun a E => ?_
  have hTl := (fun k hk => (hX.lt k hk).2 : ∀ k, T k → k < w1.heap.size)
  refine env_alloc26 (d := 3) E rfl (by decide) rfl (wanted_none rfl _) rfl fun a w1 b38 eb38 hb38 f1 E => ?_
  refine env_st26 E rfl (wanted_none rfl _) rfl (E.get 0 rfl) (E.get 2 rfl) hb38 fun w1 hb38 f2 E => ?_
  have f1 := f1.trans' f2 (fun r hr e => by omega)
  clear f2
  have hcb38 : Cw w1 T b38 ((2, 2), (5, 3)) := ⟨hb38, fun ht => by have := hTl b38 ht; omega⟩
  have hX := Ix.fr hX f1 (fun _ _ h => h)
  have hf := hf.trans f1
  clear f1
  clear hb38 hTl eb38
  refine env_put (d := 4) (v := .bool true) E rfl (by decide) rfl (wanted_none rfl _) (run_assign rfl (E.get 1 rfl)) fun a E => ?_
  refine wpList_nil ?_
  refine then_n ?_
  refine wp_seq ?_
  refine wp_region_lit ?_
  refine env_put (d := 5) (v := (Value.pointer none)) E rfl (by decide) rfl (wanted_none rfl _) (run_assign rfl rfl) fun a E => ?_
  refine wpList_nil ?_
  refine then_n ?_
  refine wp_seq ?_
  have hw4 := hf.size
  have fd := (Fr.refl (fun _ => False) w1).drew
  refine wp_region_invx (G := Value × Value × Value × Value) (undef, undef, undef, undef) (n := 95) (base := [(1, .pointer (some ⟨q, 0, none⟩)), (3, .pointer (some ⟨b38, 0, none⟩)), (4, .bool true), (5, .pointer none), (2, .bool true)]) (U := []) (T := fun γ => [some (46, .pointer (some ⟨q, 0, none⟩)), some (47, .agg (bxC ((1, 1), (2, 2)))), some (48, γ.1), some (49, γ.2.1), some (50, .bool true), some (51, .bool true), some (52, .pointer (some ⟨q, 0, none⟩)), some (53, .agg (ptC (8, 2))), some (54, γ.2.2.1), some (55, γ.2.2.2), some (56, .bool true), some (57, .bool true), some (58, .bool true), some (59, .bool true), some (60, .bool true), some (61, .bool true), some (62, .agg (bxC ((2, 2), (5, 3)))), some (63, .agg (bxC ((2, 2), (5, 3)))), some (64, .bool true), some (65, .bool true), some (6, .bool true)]) (M := fun γ ls9 wm => Fr (fun _ => False) w wm ∧ ∃ T5, Ix wm w.heap.size q 5 T5 m6 ∧ Cw wm T5 b38 ((2, 2), (5, 3)) ∧ (ls9 2 = true → Rw wm T5 γ.1 [(⟨#[97]⟩ : ByteArray), (⟨#[98]⟩ : ByteArray)]) ∧ (ls9 3 = true → Rw wm T5 γ.2.1 [(⟨#[97]⟩ : ByteArray), (⟨#[98]⟩ : ByteArray)]) ∧ (ls9 8 = true → Rw wm T5 γ.2.2.1 [(⟨#[99]⟩ : ByteArray), (⟨#[98]⟩ : ByteArray)]) ∧ (ls9 9 = true → Rw wm T5 γ.2.2.2 [(⟨#[99]⟩ : ByteArray), (⟨#[98]⟩ : ByteArray)])) (by kernel_rfl) (by kernel_rfl) (fun _ => by kernel_rfl) (E.of ⟨E.get 42 rfl, E.get 2 rfl, E.get 1 rfl, E.get 0 rfl, E.get 8 rfl, trivial⟩) (fun x hx => by cases hx) ⟨hf.drew, T, hX.fr fd (fun _ _ h => h), hcb38.fr fd, fun e => absurd e Bool.false_ne_true, fun e => absurd e Bool.false_ne_true, fun e => absurd e Bool.false_ne_true, fun e => absurd e Bool.false_ne_true⟩ ?_ ?_
  · intro j9 o9 γ ls9 a w5 ho hl E D DL DL2 hB hM
    obtain ⟨m1, T5, hX5, hC5, r2, r3, r8, r9⟩ := hM
    match j9, ho, hl, D, DL, hB with
    | 0, ho, hl, D, DL, hB =>
      obtain rfl := Option.some.inj ho
      exact ⟨fun _ => valx rfl (run_move rfl (E.get 0 rfl)) rfl ⟨m1, T5, hX5, hC5, r2, r3, r8, r9⟩, fun h => by rw [wanted_none rfl] at h; cases h⟩
    | 1, ho, hl, D, DL, hB =>
      obtain rfl := Option.some.inj ho
      exact ⟨fun _ => callx rfl (run_call4 (enters_of Try.func31 (by kernel_rfl) rfl) rfl rfl rfl rfl rfl rfl) (box_calls _ _ _ _ _) rfl fun w9 f1 => ⟨m1.trans f1, T5, hX5.fr f1 (fun _ _ h => h), hC5.fr f1, fun h => (r2 h).fr f1, fun h => (r3 h).fr f1, fun h => (r8 h).fr f1, fun h => (r9 h).fr f1⟩, fun h => by rw [wanted_none rfl] at h; cases h⟩
    | 2, ho, hl, D, DL, hB =>
      obtain rfl := Option.some.inj ho
      refine ⟨fun _ => callxw (run_call2 (enters_of Try.func19 (by kernel_rfl) rfl) rfl rfl (D 0 _ rfl rfl) (D 1 _ rfl rfl)) (in_q hX5 (by decide) ((1, 1), (2, 2))) rfl fun v9 w9 f9 => ?_, fun h => by rw [wanted_none rfl] at h; cases h⟩
      obtain ⟨R9, T9, hi9, ⟨hX9, f2, ht⟩, hr9⟩ := f9
      have he := hi9.uniq (hF.inS ((1, 1), (2, 2)))
      rw [show (if okB ((1, 1), (2, 2)) then rinL [(⟨#[97]⟩ : ByteArray), (⟨#[98]⟩ : ByteArray), (⟨#[99]⟩ : ByteArray)] [(((0, 0), (2, 2)) : Bx), (((2, 2), (5, 3)) : Bx), (((9, 0), (9, 0)) : Bx)] ((1, 1), (2, 2)) else []) = [(⟨#[97]⟩ : ByteArray), (⟨#[98]⟩ : ByteArray)] from by decide +kernel] at he
      subst he
      exact ⟨(v9, γ.2), rfl, (fun j hj => match j, hj with | 0, _ => rfl | 1, _ => rfl | 2, hj => absurd (hl.symm.trans hj) (by decide) | 3, _ => rfl | 4, _ => rfl | 5, _ => rfl | 6, _ => rfl | 7, _ => rfl | 8, _ => rfl | 9, _ => rfl | 10, _ => rfl | 11, _ => rfl | 12, _ => rfl | 13, _ => rfl | 14, _ => rfl | 15, _ => rfl | 16, _ => rfl | 17, _ => rfl | 18, _ => rfl | 19, _ => rfl | 20, _ => rfl | j9 + 21, _ => rfl), ⟨m1.trans' f2 (fun r hr e => by have := (hX5.lt r e).1; omega), T9, hX9, hC5.q f2 ht, fun _ => hr9, fun h => (r3 h).q f2 ht, fun h => (r8 h).q f2 ht, fun h => (r9 h).q f2 ht⟩⟩
    | 3, ho, hl, D, DL, hB =>
      have f1 : Fr (fun _ => False) w5 (w5.alloc (.cells #[.string ⟨#[97]⟩, .string ⟨#[98]⟩] 9)) := (Fr.refl _ _).alloc _
      obtain rfl := Option.some.inj ho
      exact ⟨fun _ => valxw (γ.1, .slice (some ⟨w5.heap.size, 0, none⟩) 2 2, γ.2.2) rfl (run_two42 rfl rfl rfl) rfl (fun j hj => match j, hj with | 0, _ => rfl | 1, _ => rfl | 2, _ => rfl | 3, hj => absurd (hl.symm.trans hj) (by decide) | 4, _ => rfl | 5, _ => rfl | 6, _ => rfl | 7, _ => rfl | 8, _ => rfl | 9, _ => rfl | 10, _ => rfl | 11, _ => rfl | 12, _ => rfl | 13, _ => rfl | 14, _ => rfl | 15, _ => rfl | 16, _ => rfl | 17, _ => rfl | 18, _ => rfl | 19, _ => rfl | 20, _ => rfl | j9 + 21, _ => rfl) ⟨m1.trans f1, T5, hX5.fr f1 (fun _ _ h => h), hC5.fr f1, fun h => (r2 h).fr f1, fun _ => rw_two (fun k hk => (hX5.lt k hk).2), fun h => (r8 h).fr f1, fun h => (r9 h).fr f1⟩, fun h => by rw [wanted_none rfl] at h; cases h⟩
    | 4, ho, hl, D, DL, hB =>
      obtain rfl := Option.some.inj ho
      exact ⟨fun _ => callx rfl (run_call2 (enters_of Try.func18 (by kernel_rfl) rfl) rfl rfl (D 2 _ rfl rfl) (D 3 _ rfl rfl)) ((same_rw (r2 (DL 2 rfl)) (r3 (DL 3 rfl))).mono fun e w8 h => ⟨h.1.trans (by rw [decide_eq_true rfl]), h.2⟩) rfl fun w9 f1 => ⟨m1.trans f1, T5, hX5.fr f1 (fun _ _ h => h), hC5.fr f1, fun h => (r2 h).fr f1, fun h => (r3 h).fr f1, fun h => (r8 h).fr f1, fun h => (r9 h).fr f1⟩, fun h => by rw [wanted_none rfl] at h; cases h⟩
    | 5, ho, hl, D, DL, hB =>
      obtain rfl := Option.some.inj ho
      exact ⟨fun _ => valx rfl (run_move rfl (D 4 _ rfl rfl)) rfl ⟨m1, T5, hX5, hC5, r2, r3, r8, r9⟩, fun h => by rw [wanted_none rfl] at h; cases h⟩
    | 6, ho, hl, D, DL, hB =>
      obtain rfl := Option.some.inj ho
      exact ⟨fun _ => valx rfl (run_move rfl (E.get 0 rfl)) rfl ⟨m1, T5, hX5, hC5, r2, r3, r8, r9⟩, fun h => by rw [w_yes (g := 5) (s := 51) (b := true) E rfl rfl (by decide) (D 5 _ rfl rfl)] at h; cases h⟩
    | 7, ho, hl, D, DL, hB =>
      obtain rfl := Option.some.inj ho
      exact ⟨fun _ => valx rfl (run_of24 rfl rfl rfl) rfl ⟨m1, T5, hX5, hC5, r2, r3, r8, r9⟩, fun h => by rw [w_yes (g := 5) (s := 51) (b := true) E rfl rfl (by decide) (D 5 _ rfl rfl)] at h; cases h⟩
    | 8, ho, hl, D, DL, hB =>
      obtain rfl := Option.some.inj ho
      refine ⟨fun _ => callxw (run_call3 (enters_of Try.func21 (by kernel_rfl) rfl) rfl rfl (D 6 _ rfl rfl) (D 7 _ rfl rfl) rfl) (near_q hX5 (by decide) (8, 2) 2) rfl fun v9 w9 f9 => ?_, fun h => by rw [w_yes (g := 5) (s := 51) (b := true) E rfl rfl (by decide) (D 5 _ rfl rfl)] at h; cases h⟩
      obtain ⟨R9, T9, hi9, ⟨hX9, f2, ht⟩, hr9⟩ := f9
      have he := hi9.uniq (hF.nearS (8, 2) 2)
      rw [show (if isP (8, 2) then rnearL [(⟨#[97]⟩ : ByteArray), (⟨#[98]⟩ : ByteArray), (⟨#[99]⟩ : ByteArray)] [(((0, 0), (2, 2)) : Bx), (((2, 2), (5, 3)) : Bx), (((9, 0), (9, 0)) : Bx)] (8, 2) 2 else []) = [(⟨#[99]⟩ : ByteArray), (⟨#[98]⟩ : ByteArray)] from by decide +kernel] at he
      subst he
      exact ⟨(γ.1, γ.2.1, v9, γ.2.2.2), rfl, (fun j hj => match j, hj with | 0, _ => rfl | 1, _ => rfl | 2, _ => rfl | 3, _ => rfl | 4, _ => rfl | 5, _ => rfl | 6, _ => rfl | 7, _ => rfl | 8, hj => absurd (hl.symm.trans hj) (by decide) | 9, _ => rfl | 10, _ => rfl | 11, _ => rfl | 12, _ => rfl | 13, _ => rfl | 14, _ => rfl | 15, _ => rfl | 16, _ => rfl | 17, _ => rfl | 18, _ => rfl | 19, _ => rfl | 20, _ => rfl | j9 + 21, _ => rfl), ⟨m1.trans' f2 (fun r hr e => by have := (hX5.lt r e).1; omega), T9, hX9, hC5.q f2 ht, fun h => (r2 h).q f2 ht, fun h => (r3 h).q f2 ht, fun _ => hr9, fun h => (r9 h).q f2 ht⟩⟩
    | 9, ho, hl, D, DL, hB =>
      have f1 : Fr (fun _ => False) w5 (w5.alloc (.cells #[.string ⟨#[99]⟩, .string ⟨#[98]⟩] 9)) := (Fr.refl _ _).alloc _
      obtain rfl := Option.some.inj ho
      exact ⟨fun _ => valxw (γ.1, γ.2.1, γ.2.2.1, .slice (some ⟨w5.heap.size, 0, none⟩) 2 2) rfl (run_two42 rfl rfl rfl) rfl (fun j hj => match j, hj with | 0, _ => rfl | 1, _ => rfl | 2, _ => rfl | 3, _ => rfl | 4, _ => rfl | 5, _ => rfl | 6, _ => rfl | 7, _ => rfl | 8, _ => rfl | 9, hj => absurd (hl.symm.trans hj) (by decide) | 10, _ => rfl | 11, _ => rfl | 12, _ => rfl | 13, _ => rfl | 14, _ => rfl | 15, _ => rfl | 16, _ => rfl | 17, _ => rfl | 18, _ => rfl | 19, _ => rfl | 20, _ => rfl | j9 + 21, _ => rfl) ⟨m1.trans f1, T5, hX5.fr f1 (fun _ _ h => h), hC5.fr f1, fun h => (r2 h).fr f1, fun h => (r3 h).fr f1, fun h => (r8 h).fr f1, fun _ => rw_two (fun k hk => (hX5.lt k hk).2)⟩, fun h => by rw [w_yes (g := 5) (s := 51) (b := true) E rfl rfl (by decide) (D 5 _ rfl rfl)] at h; cases h⟩
    | 10, ho, hl, D, DL, hB =>
      obtain rfl := Option.some.inj ho
      exact ⟨fun _ => callx rfl (run_call2 (enters_of Try.func18 (by kernel_rfl) rfl) rfl rfl (D 8 _ rfl rfl) (D 9 _ rfl rfl)) ((same_rw (r8 (DL 8 rfl)) (r9 (DL 9 rfl))).mono fun e w8 h => ⟨h.1.trans (by rw [decide_eq_true rfl]), h.2⟩) rfl fun w9 f1 => ⟨m1.trans f1, T5, hX5.fr f1 (fun _ _ h => h), hC5.fr f1, fun h => (r2 h).fr f1, fun h => (r3 h).fr f1, fun h => (r8 h).fr f1, fun h => (r9 h).fr f1⟩, fun h => by rw [w_yes (g := 5) (s := 51) (b := true) E rfl rfl (by decide) (D 5 _ rfl rfl)] at h; cases h⟩
    | 11, ho, hl, D, DL, hB =>
      obtain rfl := Option.some.inj ho
      exact ⟨fun _ => valx rfl (run_pick_t rfl (D 5 _ rfl rfl) (D 10 _ rfl rfl)) rfl ⟨m1, T5, hX5, hC5, r2, r3, r8, r9⟩, fun h => by rw [wanted_none rfl] at h; cases h⟩
    | 12, ho, hl, D, DL, hB =>
      obtain rfl := Option.some.inj ho
      exact ⟨fun _ => valx rfl (run_move rfl (D 11 _ rfl rfl)) rfl ⟨m1, T5, hX5, hC5, r2, r3, r8, r9⟩, fun h => by rw [wanted_none rfl] at h; cases h⟩
    | 13, ho, hl, D, DL, hB =>
      obtain rfl := Option.some.inj ho
      exact ⟨fun _ => valx rfl (run_move rfl (E.get 2 rfl)) rfl ⟨m1, T5, hX5, hC5, r2, r3, r8, r9⟩, fun h => by rw [w_yes (g := 12) (s := 58) (b := true) E rfl rfl (by decide) (D 12 _ rfl rfl)] at h; cases h⟩
    | 14, ho, hl, D, DL, hB =>
      obtain rfl := Option.some.inj ho
      exact ⟨fun _ => valx rfl (run_pick_t rfl (D 12 _ rfl rfl) (D 13 _ rfl rfl)) rfl ⟨m1, T5, hX5, hC5, r2, r3, r8, r9⟩, fun h => by rw [wanted_none rfl] at h; cases h⟩
    | 15, ho, hl, D, DL, hB =>
      obtain rfl := Option.some.inj ho
      exact ⟨fun _ => valx rfl (run_move rfl (D 14 _ rfl rfl)) rfl ⟨m1, T5, hX5, hC5, r2, r3, r8, r9⟩, fun h => by rw [wanted_none rfl] at h; cases h⟩
    | 16, ho, hl, D, DL, hB =>
      obtain rfl := Option.some.inj ho
      exact ⟨fun _ => valx rfl (run_ld26 rfl (E.get 1 rfl) (rng4 (p := ((2, 2), (5, 3))) hC5.1 0 rfl rfl rfl rfl)) rfl ⟨m1, T5, hX5, hC5, r2, r3, r8, r9⟩, fun h => by rw [w_yes (g := 15) (s := 61) (b := true) E rfl rfl (by decide) (D 15 _ rfl rfl)] at h; cases h⟩
    | 17, ho, hl, D, DL, hB =>
      obtain rfl := Option.some.inj ho
      exact ⟨fun _ => callx rfl (run_call4 (enters_of Try.func31 (by kernel_rfl) rfl) rfl rfl rfl rfl rfl rfl) (box_calls _ _ _ _ _) rfl fun w9 f1 => ⟨m1.trans f1, T5, hX5.fr f1 (fun _ _ h => h), hC5.fr f1, fun h => (r2 h).fr f1, fun h => (r3 h).fr f1, fun h => (r8 h).fr f1, fun h => (r9 h).fr f1⟩, fun h => by rw [w_yes (g := 15) (s := 61) (b := true) E rfl rfl (by decide) (D 15 _ rfl rfl)] at h; cases h⟩
    | 18, ho, hl, D, DL, hB =>
      obtain rfl := Option.some.inj ho
      exact ⟨fun _ => valx rfl (run_bx26 rfl (D 16 _ rfl rfl) (D 17 _ rfl rfl)) rfl ⟨m1, T5, hX5, hC5, r2, r3, r8, r9⟩, fun h => by rw [w_yes (g := 15) (s := 61) (b := true) E rfl rfl (by decide) (D 15 _ rfl rfl)] at h; cases h⟩
    | 19, ho, hl, D, DL, hB =>
      obtain rfl := Option.some.inj ho
      exact ⟨fun _ => valx rfl (run_pick_t rfl (D 15 _ rfl rfl) (D 18 _ rfl rfl)) rfl ⟨m1, T5, hX5, hC5, r2, r3, r8, r9⟩, fun h => by rw [wanted_none rfl] at h; cases h⟩
    | 20, ho, hl, D, DL, hB =>
      obtain rfl := Option.some.inj ho
      exact ⟨fun _ => valx rfl (run_assign rfl (D 19 _ rfl rfl)) rfl ⟨m1, T5, hX5, hC5, r2, r3, r8, r9⟩, fun h => by rw [wanted_none rfl] at h; cases h⟩
    | j9 + 21, ho, hl, D, DL, hB => exact absurd ho (by simp)
  · rintro ⟨γa, γb, γc, γd⟩ a w9 E V hM
    have E := E.add (v := .bool true) (V 20 _ rfl)
    clear V
    obtain ⟨m1, T5, hX5, _, _, _, _, _⟩ := hM
    have hf := m1
    have hX := hX5
    clear hX5 m1
    refine then_n ?_
    refine wp_seq ?_
    refine wp_region_lit ?_
    refine env_put (d := 66) (v := .bool true) E rfl (by decide) rfl (wanted_none rfl _) (run_move rfl (E.get 5 rfl)) fun a E => ?_
    refine env_put (d := 67) (v := .bool true) E rfl (by decide) rfl (wanted_none rfl _) (run_move rfl (E.get 0 rfl)) fun a E => ?_
    refine env_put (d := 68) (v := .bool true) E rfl (by decide) rfl (w_yes (g := 1) (s := 67) E rfl rfl (by decide) (E.get 0 rfl)) (run_move rfl (E.get 2 rfl)) fun a E => ?_
    refine env_put (d := 69) (v := .bool true) E rfl (by decide) rfl (wanted_none rfl _) (run_pick_t rfl (E.get 1 rfl) (E.get 0 rfl)) fun a E => ?_
    refine env_put (d := 70) (v := .bool true) E rfl (by decide) rfl (wanted_none rfl _) (run_move rfl (E.get 0 rfl)) fun a E => ?_
    refine env_put (d := 71) (v := .pointer none) E rfl (by decide) rfl (w_yes (g := 4) (s := 70) E rfl rfl (by decide) (E.get 0 rfl)) (run_move rfl (E.get 9 rfl)) fun a E => ?_
    refine env_call (d := 72) (v := .agg (bxC ((0, 0), (1, 1)))) E rfl (by decide) rfl (w_yes (g := 4) (s := 70) E rfl rfl (by decide) (E.get 1 rfl)) (run_call4 (enters_of Try.func31 (by kernel_rfl) rfl) rfl rfl rfl rfl rfl rfl) (box_calls _ _ _ _ _) fun a w1 f1 E => ?_
    have hX := Ix.fr hX f1 (fun _ _ h => h)
    have hf := hf.trans f1
    clear f1
    refine env_call (d := 73) (v := .int .i64 1) E rfl (by decide) rfl (w_yes (g := 4) (s := 70) E rfl rfl (by decide) (E.get 2 rfl)) (run_call3 (enters_of Try.func29 (by kernel_rfl) rfl) rfl rfl (E.get 1 rfl) rfl (E.get 0 rfl)) (put_nil _ _ _) fun a w1 f1 E => ?_
    have hX := Ix.fr hX f1 (fun _ _ h => h)
    have hf := hf.trans f1
    clear f1
    refine env_put (d := 74) (v := .bool true) E rfl (by decide) rfl (w_yes (g := 4) (s := 70) E rfl rfl (by decide) (E.get 3 rfl)) (run_ieql (m := 1) (n := 1) (E.get 0 rfl) rfl Try.underlying33 rfl) fun a E => ?_
    refine env_put (d := 75) (v := .bool true) E rfl (by decide) rfl (wanted_none rfl _) (run_pick_t rfl (E.get 4 rfl) (E.get 0 rfl)) fun a E => ?_
    refine env_put (d := 76) (v := .bool true) E rfl (by decide) rfl (wanted_none rfl _) (run_move rfl (E.get 0 rfl)) fun a E => ?_
    refine env_put (d := 77) (v := .pointer none) E rfl (by decide) rfl (w_yes (g := 10) (s := 76) E rfl rfl (by decide) (E.get 0 rfl)) (run_move rfl (E.get 15 rfl)) fun a E => ?_
    refine env_call (d := 78) (v := .agg (bxC ((0, 0), (1, 1)))) E rfl (by decide) rfl (w_yes (g := 10) (s := 76) E rfl rfl (by decide) (E.get 1 rfl)) (run_call4 (enters_of Try.func31 (by kernel_rfl) rfl) rfl rfl rfl rfl rfl rfl) (box_calls _ _ _ _ _) fun a w1 f1 E => ?_
    have hX := Ix.fr hX f1 (fun _ _ h => h)
    have hf := hf.trans f1
    clear f1
    refine env_call (d := 79) (v := .slice none 0 0) E rfl (by decide) rfl (w_yes (g := 10) (s := 76) E rfl rfl (by decide) (E.get 2 rfl)) (run_call2 (enters_of Try.func19 (by kernel_rfl) rfl) rfl rfl (E.get 1 rfl) (E.get 0 rfl)) (in_nil _ _) fun a w1 f1 E => ?_
    have hX := Ix.fr hX f1 (fun _ _ h => h)
    have hf := hf.trans f1
    clear f1
    refine env_put (d := 80) (v := .int .i64 0) E rfl (by decide) rfl (w_yes (g := 10) (s := 76) E rfl rfl (by decide) (E.get 3 rfl)) (run_len42 rfl (E.get 0 rfl)) fun a E => ?_
    refine env_put (d := 81) (v := .bool true) E rfl (by decide) rfl (w_yes (g := 10) (s := 76) E rfl rfl (by decide) (E.get 4 rfl)) (run_ieql (m := 0) (n := 0) (E.get 0 rfl) rfl Try.underlying3 rfl) fun a E => ?_
    refine env_put (d := 82) (v := .bool true) E rfl (by decide) rfl (wanted_none rfl _) (run_pick_t rfl (E.get 5 rfl) (E.get 0 rfl)) fun a E => ?_
    refine env_put (d := 83) (v := .bool true) E rfl (by decide) rfl (wanted_none rfl _) (run_move rfl (E.get 0 rfl)) fun a E => ?_
    refine env_put (d := 84) (v := .pointer (some ⟨q, 0, none⟩)) E rfl (by decide) rfl (w_yes (g := 17) (s := 83) E rfl rfl (by decide) (E.get 0 rfl)) (run_move rfl (E.get 19 rfl)) fun a E => ?_
    have hp := hF.drop ⟨#[99]⟩
    rw [show rdrop [(⟨#[97]⟩ : ByteArray), (⟨#[98]⟩ : ByteArray), (⟨#[99]⟩ : ByteArray)] [(((0, 0), (2, 2)) : Bx), (((2, 2), (5, 3)) : Bx), (((9, 0), (9, 0)) : Bx)] ⟨#[99]⟩ = (0, [(⟨#[97]⟩ : ByteArray), (⟨#[98]⟩ : ByteArray)], [(((0, 0), (2, 2)) : Bx), (((2, 2), (5, 3)) : Bx)]) from by decide +kernel] at hp
    obtain ⟨hpe, hF⟩ := hp
    refine env_call (d := 85) (v := .int .i64 0) (F := fun w8 => IxW w1 w.heap.size q 5 T5 (delB m6 ⟨#[99]⟩) w8) E rfl (by decide) rfl (w_yes (g := 17) (s := 83) E rfl rfl (by decide) (E.get 1 rfl)) (run_call2 (enters_of Try.func30 (by kernel_rfl) rfl) rfl rfl (E.get 0 rfl) rfl) ((ix_drop hX ⟨#[99]⟩ (by decide)).mono fun e w8 h => ⟨h.1.trans (by rw [← hpe]), h.2⟩) fun a w1 hW E => ?_
    obtain ⟨hX2, f2⟩ := hW
    have ht := TT.refl w1 T5
    have hf := hf.trans' f2 (fun r hr e => by have := (hX.lt r e).1; omega)
    have hX := hX2
    clear hX2 f2 ht
    obtain ⟨m7, hm9⟩ : ∃ m9, m9 = delB m6 ⟨#[99]⟩ := ⟨_, rfl⟩
    rw [← hm9] at hX hF
    clear hm9 hpe
    refine env_put (d := 86) (v := .bool true) E rfl (by decide) rfl (w_yes (g := 17) (s := 83) E rfl rfl (by decide) (E.get 2 rfl)) (run_ieql (m := 0) (n := 0) (E.get 0 rfl) rfl Try.underlying33 rfl) fun a E => ?_
    refine env_put (d := 87) (v := .bool true) E rfl (by decide) rfl (wanted_none rfl _) (run_pick_t rfl (E.get 3 rfl) (E.get 0 rfl)) fun a E => ?_
    refine env_put (d := 88) (v := .bool true) E rfl (by decide) rfl (wanted_none rfl _) (run_move rfl (E.get 0 rfl)) fun a E => ?_
    refine env_put (d := 89) (v := .pointer (some ⟨q, 0, none⟩)) E rfl (by decide) rfl (w_yes (g := 22) (s := 88) E rfl rfl (by decide) (E.get 0 rfl)) (run_move rfl (E.get 24 rfl)) fun a E => ?_
    refine env_put (d := 90) (v := .agg (ptC (0, 0))) E rfl (by decide) rfl (w_yes (g := 22) (s := 88) E rfl rfl (by decide) (E.get 1 rfl)) (run_zero24 rfl) fun a E => ?_
    refine env_callv (d := 91) (R := fun u w8 => ∃ R T9, NearS m7 (0, 0) 9 R ∧ IxS w1 w.heap.size q 5 T5 m7 T9 w8 ∧ Rw w8 T9 u R) E rfl (by decide) rfl (w_yes (g := 22) (s := 88) E rfl rfl (by decide) (E.get 2 rfl)) (run_call3 (enters_of Try.func21 (by kernel_rfl) rfl) rfl rfl (E.get 1 rfl) (E.get 0 rfl) rfl) (near_q hX (by decide) (0, 0) 9) fun a w1 v39 hR E => ?_
    obtain ⟨R39, T39, hiR39, ⟨hX2, f2, ht⟩, hr39⟩ := hR
    have hf := hf.trans' f2 (fun r hr e => by have := (hX.lt r e).1; omega)
    have hX := hX2
    clear hX2 f2 ht
    have he := hiR39.uniq (hF.nearS (0, 0) 9)
    rw [show (if isP (0, 0) then rnearL [(⟨#[97]⟩ : ByteArray), (⟨#[98]⟩ : ByteArray)] [(((0, 0), (2, 2)) : Bx), (((2, 2), (5, 3)) : Bx)] (0, 0) 9 else []) = [(⟨#[97]⟩ : ByteArray), (⟨#[98]⟩ : ByteArray)] from by decide +kernel] at he
    subst he
    obtain ⟨pq, cq, hvq, _, _⟩ := hr39.src
    subst hvq
    refine env_put (d := 92) (v := .int .i64 2) E rfl (by decide) rfl (w_yes (g := 22) (s := 88) E rfl rfl (by decide) (E.get 3 rfl)) (run_len42 rfl (E.get 0 rfl)) fun a E => ?_
    refine env_put (d := 93) (v := .bool true) E rfl (by decide) rfl (w_yes (g := 22) (s := 88) E rfl rfl (by decide) (E.get 4 rfl)) (run_ieql (m := 2) (n := 2) (E.get 0 rfl) rfl Try.underlying3 rfl) fun a E => ?_
    refine env_put (d := 94) (v := .bool true) E rfl (by decide) rfl (wanted_none rfl _) (run_pick_t rfl (E.get 5 rfl) (E.get 0 rfl)) fun a E => ?_
    refine env_put (d := 0) (v := .bool true) E rfl (by decide) rfl (wanted_none rfl _) (run_assign rfl (E.get 0 rfl)) fun a E => ?_
    refine wpList_nil ?_
    refine then_n ?_
    refine wp_ret ?_
    exact ret_tmp (t := 0) rfl E (E.get 0 rfl) ⟨rfl, hf⟩
end Go.Proofs.Ytcafnanbdmapgaa
