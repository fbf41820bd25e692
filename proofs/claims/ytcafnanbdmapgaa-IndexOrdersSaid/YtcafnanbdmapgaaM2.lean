/- The queue: less, Len, Less, Swap. -/
import Derived.Test.YtcafnanbdmapgaaM1
set_option linter.unusedVariables false
set_option linter.unusedSimpArgs false
namespace Go.Proofs.Ytcafnanbdmapgaa
open Go.RowKit Go.Pl

section
variable {o : Oper} {w : World} {ρ : Operand → Value} {x y : Operand} {g off n cap : Nat} {p : Option Addr} {b c : Bool} {s : Wt}
theorem run_nil69 (hp : p.isNone = b) (ho : o.op = .binOp .eql 69 x y 69) (hx : ρ x = .slice p n cap) (hy : ρ y = .slice none 0 0) : (execOp ρ o).run Try.prog w = .ok (.value (.bool b)) w := by
  have := Lib.run_eql_slice_nil (P := Try.prog) w 69 59 p n cap 0 0 Try.underlying69
  subst hp
  cases p <;> simp [execOp, ho, hx, hy, go_sem, this]
theorem run_nnil69 (hp : p.isNone = b) (ho : o.op = .binOp .neq 69 x y 69) (hx : ρ x = .slice p n cap) (hy : ρ y = .slice none 0 0) : (execOp ρ o).run Try.prog w = .ok (.value (.bool (!b))) w := by
  have := Lib.run_eql_slice_nil (P := Try.prog) w 69 59 p n cap 0 0 Try.underlying69
  subst hp
  cases p <;> simp [execOp, ho, hx, hy, go_sem, this]
theorem run_bneq (hx : ρ x = .bool b) (hy : ρ y = .bool c) (ho : o.op = .binOp .neq 4 x y 4) : (execOp ρ o).run Try.prog w = .ok (.value (.bool (b != c))) w := by
  cases b <;> cases c <;> simp [execOp, ho, hx, hy, go_sem]
theorem run_callf2 {f : FuncId} {ts : Array TypeId} {z : Operand} {u v : Value} (eg : ∀ args w, (callFunc f args).run Try.prog w = .ok (.enter f args) w) (ho : o.op = .call ⟨.value z, #[x, y], ts⟩) (hf : ρ z = .func (.func f) #[] #[]) (hx : ρ x = u) (hy : ρ y = v) : (execOp ρ o).run Try.prog w = .ok (.enter f #[u, v]) w := by
  simp [execOp, ho, hf, hx, hy, eg, resolve, Deferred.ofValue, invoke, go_sem]
end
section
variable {O : Array Oper} {Q : Exit → Act → World → Prop} {rest : List Oper} {o : Oper} {a : Act} {w : World} {n d : Nat} {L : List (Nat × Value)} {x y : Operand} {ds : List Deferred} {s : Wt}
theorem env_box76 (E : EnvD ds n L a) (hd : o.dst = some d) (hn : d < n) (hf : (L.map (·.1)).contains d = false) (hw : Region.wanted o (yielded O a.tmps) = true) (ho : o.op = .box 76 x) (hx : a.eval x = .agg (wtC s))
    (k : ∀ a' w' b, w.heap.size = b → wtB w' b s → Fr (fun _ => False) w w' → EnvD ds n ((d, .pointer (some ⟨b, 0, none⟩)) :: L) a' → wpList Try.prog O Q rest a' w') : wpList Try.prog O Q (o :: rest) a w :=
  env_put E hd hn hf hw (run_box76 ho hx) fun a' E' => k a' _ _ rfl (blk_alloc_new _ _) ((Fr.refl _ _).alloc _) E'
end
theorem WtAt.five {w : World} {S : Nat → Prop} {x : Wt} (h : WtAt w S x) : ∃ p n cap, w.cell? ⟨x.c.1, 5, none⟩ = some (.slice p n cap) ∧ p.isNone = (x.h == 0) := by
  obtain ⟨_, p, n, cap, h1, h2, h3⟩ := h.cells
  refine ⟨p, n, cap, h1, ?_⟩
  by_cases h0 : x.h = 0
  · rw [(h2 h0).1, h0]; rfl
  · obtain ⟨a, rfl⟩ := h3 h0
    exact (beq_eq_false_iff_ne.2 h0).symm
/-- The queue in memory. -/
def QAt (w : World) (q B : Nat) (v : Value) (X : List Wt) : Prop := quB w q v ∧ oWt w B v X
theorem QAt.fr {w w' : World} {q B : Nat} {v : Value} {X : List Wt} {F : Nat → Prop} (h : QAt w q B v X) (f : Fr F w w') (h1 : ¬ F q) (h2 : ∀ k, v.ownBlock = some k → ¬ F k) : QAt w' q B v X := ⟨f.obj h.1 h1, h.2.fr f h2⟩
theorem QAt.ne {w : World} {q B : Nat} {v : Value} {X : List Wt} (h : QAt w q B v X) : v.ownBlock ≠ some q := ow_ne_struct (by decide) h.2 h.1
/-- The row of the queue, opened. -/
theorem oWt_open {w : World} {B : Nat} {v : Value} {X : List Wt} (h : oWt w B v X) (hne : X ≠ []) : ∃ g cap, v = .slice (some ⟨g, 0, none⟩) X.length cap ∧ X.length ≤ cap := by
  rcases h.2 with ⟨h1, h2⟩ | ⟨g, cap, cur, h1, _, _, h4, _⟩
  · exact absurd (List.eq_nil_of_length_eq_zero h2) hne
  · exact ⟨g, cap, h1, h4⟩
theorem oWt_row {w : World} {B g n cap : Nat} {X : List Wt} (h : oWt w B (.slice (some ⟨g, 0, none⟩) n cap) X) : ∀ (i : Nat) x, X[i]? = some x → w.rangeAt g (0 + i * 2) (wtL x) := by
  intro i x hx
  obtain ⟨p, c2, h1, _, _, h4, _⟩ := h.src wtL_len
  simp only [Value.slice.injEq] at h1
  obtain ⟨rfl, _, _⟩ := h1
  rcases h4 with h4 | ⟨g2, off, h5, _, h6⟩
  · rw [h4] at hx; simp at hx
  · simp only [Option.some.injEq, Addr.mk.injEq] at h5
    obtain ⟨rfl, rfl, _⟩ := h5
    exact h6 i x hx
theorem oWt_set {w : World} {B g n cap : Nat} {X : List Wt} {i : Nat} {x y : Wt} (h : oWt w B (.slice (some ⟨g, 0, none⟩) n cap) X) (hx : X[i]? = some x) :
    (∃ u0 u1, w.cell? ⟨g, 0 + i * 2, none⟩ = some u0 ∧ w.cell? ⟨g, 0 + i * 2 + 1, none⟩ = some u1 ∧ w.frozen? ⟨g, 0 + i * 2, none⟩ = false ∧ w.frozen? ⟨g, 0 + i * 2 + 1, none⟩ = false) ∧
    oWt ((w.setCell ⟨g, 0 + i * 2, none⟩ (.pointer (some ⟨y.c.1, 0, none⟩))).setCell ⟨g, 0 + i * 2 + 1, none⟩ (.int .i64 y.far)) B (.slice (some ⟨g, 0, none⟩) n cap) (X.set i y) := by
  have hr := oWt_row h i x hx
  have hi := (List.getElem?_eq_some_iff.1 hx).1
  rcases h.2 with ⟨h1, h2⟩ | ⟨g2, c2, cur, h1, hB, h3, h4, h5, h6, h7⟩
  · cases h1
  · simp only [Value.slice.injEq, Option.some.injEq, Addr.mk.injEq] at h1
    obtain ⟨⟨rfl, _, _⟩, rfl, rfl⟩ := h1
    refine ⟨⟨_, _, hr 0 _ rfl, hr 1 _ rfl, free_of_blk h3 _, free_of_blk h3 _⟩, ?_⟩
    have e1 := blk_setCell_same (off := 0 + i * 2) h3 (.pointer (some ⟨y.c.1, 0, none⟩))
    have e2 := blk_setCell_same (off := 0 + i * 2 + 1) e1 (.int .i64 y.far)
    refine ⟨?_, .inr ⟨g, cap, _, ?_, hB, e2, ?_, h5, ?_, ?_⟩⟩
    · rw [flat_len wtL_len]
    · rw [List.length_set]
    · rw [List.length_set]; exact h4
    · simp [h6]
    · rw [List.length_set]
      apply List.ext_getElem?
      intro t
      have hfl : ((X.set i y).flatMap wtL).length = X.length * 2 := by rw [flat_len wtL_len, List.length_set]
      by_cases ht : t < X.length * 2
      · rw [List.getElem?_take_of_lt ht, Array.getElem?_toList, Array.getElem?_setIfInBounds, Array.getElem?_setIfInBounds]
        have hmod : t % 2 < 2 := Nat.mod_lt _ (by omega)
        have hdm := Nat.div_add_mod t 2
        have hdv : t / 2 < X.length := by omega
        have hsz : t < cur.size := by omega
        obtain ⟨z, hz⟩ : ∃ z, (X.set i y)[t / 2]? = some z := ⟨_, List.getElem?_eq_getElem (by rw [List.length_set]; exact hdv)⟩
        have hf := flat_at wtL_len (X.set i y) (t / 2) z hz (t % 2) hmod
        rw [show t / 2 * 2 + t % 2 = t by omega] at hf
        rw [hf]
        rw [List.getElem?_set] at hz
        by_cases hti : i = t / 2
        · rw [if_pos hti, if_pos hi] at hz
          obtain rfl := Option.some.inj hz
          rcases (show t % 2 = 0 ∨ t % 2 = 1 by omega) with hm | hm
          · rw [if_neg (by omega), if_pos (by omega), hm]
            rw [if_pos (by omega)]; rfl
          · rw [if_pos (by omega), hm]
            simp only [Array.size_setIfInBounds]
            rw [if_pos (by omega)]; rfl
        · rw [if_neg hti] at hz
          rw [if_neg (by omega), if_neg (by omega)]
          have hf2 := flat_at wtL_len X (t / 2) z hz (t % 2) hmod
          rw [show t / 2 * 2 + t % 2 = t by omega, ← h7, List.getElem?_take_of_lt ht, Array.getElem?_toList] at hf2
          exact hf2
      · rw [List.getElem?_eq_none (by rw [List.length_take]; omega), List.getElem?_eq_none (by rw [hfl]; omega)]
theorem Fr.two (g a b : Nat) (w : World) (v0 v1 : Value) : Fr (fun k => k = g) w ((w.setCell ⟨g, a, none⟩ v0).setCell ⟨g, b, none⟩ v1) :=
  ((Fr.refl (fun k => k = g) w).setCell (p := ⟨g, a, none⟩) (fun _ => rfl) v0).setCell (p := ⟨g, b, none⟩) (fun _ => rfl) v1

set_option maxRecDepth 100000 in
set_option maxHeartbeats 4000000 in
theorem less_calls {w : World} {S : Nat → Prop} {x y : Wt} (hX : WtAt w S x) (hY : WtAt w S y) : Calls Try.prog 39 #[.agg (wtC x), .agg (wtC y)] w fun e w' => e = .returned (.bool (lsW x y)) ∧ Fr (fun _ => False) w w' := by
  refine wp_start2 Try.func39 rfl rfl (n := 45) (by decide) fun a E => ?_
  have hf : Fr (fun _ => False) w w := Fr.refl _ _
  obtain ⟨px, nx, cx, hx5, hxp⟩ := hX.five
  obtain ⟨py, ny, cy, hy5, hyp⟩ := hY.five
  have hx4 := hX.cells.1
  have hy4 := hY.cells.1
  refine wp_seq ?_
  refine wp_region_lit ?_
  refine env_box76 (d := 2) E rfl (by decide) rfl (wanted_none rfl _) rfl (E.get 0 rfl) fun a w1 b31 eb31 hb31 f1 E => ?_
  have hx4 := f1.cell hx4 id
  have hy4 := f1.cell hy4 id
  have hx5 := f1.cell hx5 id
  have hy5 := f1.cell hy5 id
  have hf := hf.trans f1
  clear f1
  refine env_box76 (d := 3) E rfl (by decide) rfl (wanted_none rfl _) rfl (E.get 2 rfl) fun a w1 b32 eb32 hb32 f1 E => ?_
  have hx4 := f1.cell hx4 id
  have hy4 := f1.cell hy4 id
  have hx5 := f1.cell hx5 id
  have hy5 := f1.cell hy5 id
  have hb31 := f1.obj hb31 id
  have hf := hf.trans f1
  clear f1
  refine env_put (d := 4) (v := .bool false) E rfl (by decide) rfl (wanted_none rfl _) (run_assign rfl rfl) fun a E => ?_
  refine wpList_nil ?_
  refine then_n ?_
  refine wp_seq ?_
  refine wp_seq ?_
  refine wp_region_lit ?_
  refine env_put (d := 5) (v := .pointer (some ⟨b31, 1, none⟩)) E rfl (by decide) rfl (wanted_none rfl _) (fa76_1 rfl (E.get 2 rfl)) fun a E => ?_
  refine env_put (d := 6) (v := .int .i64 x.far) E rfl (by decide) rfl (wanted_none rfl _) (run_ldi rfl (E.get 0 rfl) (bx hb31 1 rfl)) fun a E => ?_
  refine env_put (d := 7) (v := .pointer (some ⟨b32, 1, none⟩)) E rfl (by decide) rfl (wanted_none rfl _) (fa76_1 rfl (E.get 3 rfl)) fun a E => ?_
  refine env_put (d := 8) (v := .int .i64 y.far) E rfl (by decide) rfl (wanted_none rfl _) (run_ldi rfl (E.get 0 rfl) (bx hb32 1 rfl)) fun a E => ?_
  refine env_put (d := 9) (v := .bool (x.far != y.far)) E rfl (by decide) rfl (wanted_none rfl _) (run_ineq (E.get 2 rfl) (E.get 0 rfl) Try.underlying3 rfl) fun a E => ?_
  refine wpList_nil ?_
  refine then_n ?_
  cases hq33 : (x.far != y.far) with
  | false =>
    rw [hq33] at E
    refine wp_cond_false (E.get 0 rfl) ?_
    refine wp_skip ?_
    refine then_n ?_
    refine wp_seq ?_
    refine wp_seq ?_
    refine wp_region_inv (n := 45) (base := [(9, .bool false), (8, .int .i64 y.far), (7, .pointer (some ⟨b32, 1, none⟩)), (6, .int .i64 x.far), (5, .pointer (some ⟨b31, 1, none⟩)), (4, .bool false), (3, .pointer (some ⟨b32, 0, none⟩)), (2, .pointer (some ⟨b31, 0, none⟩)), (0, .agg (wtC x)), (1, .agg (wtC y))]) (T := [some (15, .pointer (some ⟨b31, 0, none⟩)), some (16, .pointer (some ⟨x.c.1, 0, none⟩)), some (17, .pointer (some ⟨x.c.1, 0, none⟩)), some (18, .pointer (some ⟨x.c.1, 5, none⟩)), some (19, .slice (px) nx cx), some (20, .bool (x.h == 0)), some (21, .pointer (some ⟨b32, 0, none⟩)), some (22, .pointer (some ⟨y.c.1, 0, none⟩)), some (23, .pointer (some ⟨y.c.1, 0, none⟩)), some (24, .pointer (some ⟨y.c.1, 5, none⟩)), some (25, .slice (py) ny cy), some (26, .bool (y.h == 0)), some (27, .bool ((x.h == 0) != (y.h == 0)))]) (M := fun _ wm => Fr (fun _ => False) w1 wm) (by kernel_rfl) (by kernel_rfl) (by kernel_rfl) (E.of ⟨E.get 0 rfl, E.get 1 rfl, E.get 2 rfl, E.get 3 rfl, E.get 4 rfl, E.get 5 rfl, E.get 6 rfl, E.get 7 rfl, E.get 8 rfl, E.get 9 rfl, trivial⟩) (Fr.refl _ _).drew ?_ ?_
    · intro j9 o9 t9 ls9 a w5 ho hT0 hl E D DL hM
      have hx4 := hM.cell hx4 id
      have hy4 := hM.cell hy4 id
      have hx5 := hM.cell hx5 id
      have hy5 := hM.cell hy5 id
      have hb31 := hM.obj hb31 id
      have hb32 := hM.obj hb32 id
      match j9, ho, hT0, hl, D, DL with
      | 0, ho, hT0, hl, D, DL =>
        obtain rfl := Option.some.inj ho
        obtain rfl := Option.some.inj hT0
        clear ho hT0
        exact val_wp (fa76_0 rfl (E.get 7 rfl)) rfl hM
      | 1, ho, hT0, hl, D, DL =>
        obtain rfl := Option.some.inj ho
        obtain rfl := Option.some.inj hT0
        clear ho hT0
        exact val_wp (run_ld59 rfl (D 0 _ rfl rfl) (bx hb31 0 rfl)) rfl hM
      | 2, ho, hT0, hl, D, DL =>
        obtain rfl := Option.some.inj ho
        obtain rfl := Option.some.inj hT0
        clear ho hT0
        exact val_wp (run_nilchk rfl (D 1 _ rfl rfl)) rfl hM
      | 3, ho, hT0, hl, D, DL =>
        obtain rfl := Option.some.inj ho
        obtain rfl := Option.some.inj hT0
        clear ho hT0
        exact val_wp (fa71_2 rfl (D 2 _ rfl rfl)) rfl hM
      | 4, ho, hT0, hl, D, DL =>
        obtain rfl := Option.some.inj ho
        obtain rfl := Option.some.inj hT0
        clear ho hT0
        exact val_wp (run_ld69 rfl (D 3 _ rfl rfl) hx5) rfl hM
      | 5, ho, hT0, hl, D, DL =>
        obtain rfl := Option.some.inj ho
        obtain rfl := Option.some.inj hT0
        clear ho hT0
        exact val_wp (run_nil69 hxp rfl (D 4 _ rfl rfl) rfl) rfl hM
      | 6, ho, hT0, hl, D, DL =>
        obtain rfl := Option.some.inj ho
        obtain rfl := Option.some.inj hT0
        clear ho hT0
        exact val_wp (fa76_0 rfl (E.get 6 rfl)) rfl hM
      | 7, ho, hT0, hl, D, DL =>
        obtain rfl := Option.some.inj ho
        obtain rfl := Option.some.inj hT0
        clear ho hT0
        exact val_wp (run_ld59 rfl (D 6 _ rfl rfl) (bx hb32 0 rfl)) rfl hM
      | 8, ho, hT0, hl, D, DL =>
        obtain rfl := Option.some.inj ho
        obtain rfl := Option.some.inj hT0
        clear ho hT0
        exact val_wp (run_nilchk rfl (D 7 _ rfl rfl)) rfl hM
      | 9, ho, hT0, hl, D, DL =>
        obtain rfl := Option.some.inj ho
        obtain rfl := Option.some.inj hT0
        clear ho hT0
        exact val_wp (fa71_2 rfl (D 8 _ rfl rfl)) rfl hM
      | 10, ho, hT0, hl, D, DL =>
        obtain rfl := Option.some.inj ho
        obtain rfl := Option.some.inj hT0
        clear ho hT0
        exact val_wp (run_ld69 rfl (D 9 _ rfl rfl) hy5) rfl hM
      | 11, ho, hT0, hl, D, DL =>
        obtain rfl := Option.some.inj ho
        obtain rfl := Option.some.inj hT0
        clear ho hT0
        exact val_wp (run_nil69 hyp rfl (D 10 _ rfl rfl) rfl) rfl hM
      | 12, ho, hT0, hl, D, DL =>
        obtain rfl := Option.some.inj ho
        obtain rfl := Option.some.inj hT0
        clear ho hT0
        exact val_wp (run_bneq (D 5 _ rfl rfl) (D 11 _ rfl rfl) rfl) rfl hM
      | j9 + 13, ho, hT0, hl, D, DL => exact absurd hT0 (by simp)
    · intro a w5 E V hM
      have E := E.add (V 12 _ rfl)
      clear V
      have hx4 := hM.cell hx4 id
      have hy4 := hM.cell hy4 id
      have hx5 := hM.cell hx5 id
      have hy5 := hM.cell hy5 id
      have hb31 := hM.obj hb31 id
      have hb32 := hM.obj hb32 id
      have hf := hf.trans hM
      clear hM
      refine then_n ?_
      cases hq35 : ((x.h == 0) != (y.h == 0)) with
      | false =>
        rw [hq35] at E
        refine wp_cond_false (E.get 0 rfl) ?_
        refine wp_skip ?_
        refine then_n ?_
        refine wp_seq ?_
        refine wp_region_invx (G := Unit) () (n := 45) (base := [(27, .bool false), (9, .bool false), (8, .int .i64 y.far), (7, .pointer (some ⟨b32, 1, none⟩)), (6, .int .i64 x.far), (5, .pointer (some ⟨b31, 1, none⟩)), (3, .pointer (some ⟨b32, 0, none⟩)), (2, .pointer (some ⟨b31, 0, none⟩)), (0, .agg (wtC x)), (1, .agg (wtC y))]) (U := [(4, .bool false, 11)]) (T := fun γ => [some (34, .pointer (some ⟨b31, 0, none⟩)), some (35, .pointer (some ⟨x.c.1, 0, none⟩)), some (36, .pointer (some ⟨x.c.1, 0, none⟩)), some (37, .pointer (some ⟨x.c.1, 4, none⟩)), some (38, .string x.id), some (39, .pointer (some ⟨b32, 0, none⟩)), some (40, .pointer (some ⟨y.c.1, 0, none⟩)), some (41, .pointer (some ⟨y.c.1, 0, none⟩)), some (42, .pointer (some ⟨y.c.1, 4, none⟩)), some (43, .string y.id), some (44, .bool (Op.bytesLess x.id.toList y.id.toList)), some (4, .bool (Op.bytesLess x.id.toList y.id.toList))]) (M := fun γ ls9 wm => Fr (fun _ => False) w5 wm) (by kernel_rfl) (by kernel_rfl) (fun _ => by kernel_rfl) (E.of ⟨E.get 0 rfl, E.get 1 rfl, E.get 2 rfl, E.get 3 rfl, E.get 4 rfl, E.get 5 rfl, E.get 7 rfl, E.get 8 rfl, E.get 9 rfl, E.get 10 rfl, trivial⟩) (fun x hx => by simp only [List.mem_cons, List.not_mem_nil, or_false] at hx; subst hx; exact E.get 6 rfl) (Fr.refl _ _).drew ?_ ?_
        · intro j9 o9 γ ls9 a w5 ho hl E D DL DL2 hB hM
          have hx4 := hM.cell hx4 id
          have hy4 := hM.cell hy4 id
          have hx5 := hM.cell hx5 id
          have hy5 := hM.cell hy5 id
          have hb31 := hM.obj hb31 id
          have hb32 := hM.obj hb32 id
          match j9, ho, hl, D, DL, hB with
          | 0, ho, hl, D, DL, hB =>
            obtain rfl := Option.some.inj ho
            clear ho
            exact ⟨fun _ => valx rfl (fa76_0 rfl (E.get 7 rfl)) rfl hM, fun h => by rw [wanted_none rfl] at h; cases h⟩
          | 1, ho, hl, D, DL, hB =>
            obtain rfl := Option.some.inj ho
            clear ho
            exact ⟨fun _ => valx rfl (run_ld59 rfl (D 0 _ rfl rfl) (bx hb31 0 rfl)) rfl hM, fun h => by rw [wanted_none rfl] at h; cases h⟩
          | 2, ho, hl, D, DL, hB =>
            obtain rfl := Option.some.inj ho
            clear ho
            exact ⟨fun _ => valx rfl (run_nilchk rfl (D 1 _ rfl rfl)) rfl hM, fun h => by rw [wanted_none rfl] at h; cases h⟩
          | 3, ho, hl, D, DL, hB =>
            obtain rfl := Option.some.inj ho
            clear ho
            exact ⟨fun _ => valx rfl (fa71_1 rfl (D 2 _ rfl rfl)) rfl hM, fun h => by rw [wanted_none rfl] at h; cases h⟩
          | 4, ho, hl, D, DL, hB =>
            obtain rfl := Option.some.inj ho
            clear ho
            exact ⟨fun _ => valx rfl (run_lds rfl (D 3 _ rfl rfl) hx4) rfl hM, fun h => by rw [wanted_none rfl] at h; cases h⟩
          | 5, ho, hl, D, DL, hB =>
            obtain rfl := Option.some.inj ho
            clear ho
            exact ⟨fun _ => valx rfl (fa76_0 rfl (E.get 6 rfl)) rfl hM, fun h => by rw [wanted_none rfl] at h; cases h⟩
          | 6, ho, hl, D, DL, hB =>
            obtain rfl := Option.some.inj ho
            clear ho
            exact ⟨fun _ => valx rfl (run_ld59 rfl (D 5 _ rfl rfl) (bx hb32 0 rfl)) rfl hM, fun h => by rw [wanted_none rfl] at h; cases h⟩
          | 7, ho, hl, D, DL, hB =>
            obtain rfl := Option.some.inj ho
            clear ho
            exact ⟨fun _ => valx rfl (run_nilchk rfl (D 6 _ rfl rfl)) rfl hM, fun h => by rw [wanted_none rfl] at h; cases h⟩
          | 8, ho, hl, D, DL, hB =>
            obtain rfl := Option.some.inj ho
            clear ho
            exact ⟨fun _ => valx rfl (fa71_1 rfl (D 7 _ rfl rfl)) rfl hM, fun h => by rw [wanted_none rfl] at h; cases h⟩
          | 9, ho, hl, D, DL, hB =>
            obtain rfl := Option.some.inj ho
            clear ho
            exact ⟨fun _ => valx rfl (run_lds rfl (D 8 _ rfl rfl) hy4) rfl hM, fun h => by rw [wanted_none rfl] at h; cases h⟩
          | 10, ho, hl, D, DL, hB =>
            obtain rfl := Option.some.inj ho
            clear ho
            exact ⟨fun _ => valx rfl (run_slss (D 4 _ rfl rfl) (D 9 _ rfl rfl) rfl) rfl hM, fun h => by rw [wanted_none rfl] at h; cases h⟩
          | 11, ho, hl, D, DL, hB =>
            obtain rfl := Option.some.inj ho
            clear ho
            exact ⟨fun _ => valx rfl (run_assign rfl (D 10 _ rfl rfl)) rfl hM, fun h => by rw [wanted_none rfl] at h; cases h⟩
          | j9 + 12, ho, hl, D, DL, hB => exact absurd ho (by simp)
        · rintro _ a w5 E V hM
          have E := E.add (v := .bool (Op.bytesLess x.id.toList y.id.toList)) (V 11 _ rfl)
          clear V
          have hx4 := hM.cell hx4 id
          have hy4 := hM.cell hy4 id
          have hx5 := hM.cell hx5 id
          have hy5 := hM.cell hy5 id
          have hb31 := hM.obj hb31 id
          have hb32 := hM.obj hb32 id
          have hf := hf.trans hM
          clear hM
          refine then_n ?_
          refine wp_ret ?_
          refine ret_tmp (t := 4) rfl E (E.get 0 rfl) ⟨?_, hf⟩
          unfold lsW; rw [if_neg (fun h => by rw [bne_iff_ne.2 h] at hq33; cases hq33), if_neg (by rw [hq35]; exact Bool.false_ne_true)]
      | true =>
        rw [hq35] at E
        refine wp_cond_true (E.get 0 rfl) ?_
        refine wp_seq ?_
        refine wp_region_lit ?_
        refine env_put (d := 28) (v := .pointer (some ⟨b31, 0, none⟩)) E rfl (by decide) rfl (wanted_none rfl _) (fa76_0 rfl (E.get 8 rfl)) fun a E => ?_
        refine env_put (d := 29) (v := .pointer (some ⟨x.c.1, 0, none⟩)) E rfl (by decide) rfl (wanted_none rfl _) (run_ld59 rfl (E.get 0 rfl) (bx hb31 0 rfl)) fun a E => ?_
        refine env_put (d := 30) (v := .pointer (some ⟨x.c.1, 0, none⟩)) E rfl (by decide) rfl (wanted_none rfl _) (run_nilchk rfl (E.get 0 rfl)) fun a E => ?_
        refine env_put (d := 31) (v := .pointer (some ⟨x.c.1, 5, none⟩)) E rfl (by decide) rfl (wanted_none rfl _) (fa71_2 rfl (E.get 0 rfl)) fun a E => ?_
        refine env_put (d := 32) (v := .slice (px) nx cx) E rfl (by decide) rfl (wanted_none rfl _) (run_ld69 rfl (E.get 0 rfl) hx5) fun a E => ?_
        refine env_put (d := 33) (v := .bool (!(x.h == 0))) E rfl (by decide) rfl (wanted_none rfl _) (run_nnil69 hxp rfl (E.get 0 rfl) rfl) fun a E => ?_
        refine env_set (d := 4) (v := .bool (!(x.h == 0))) E rfl (by decide) (wanted_none rfl _) (run_assign rfl (E.get 0 rfl)) fun a E => ?_
        refine wpList_nil ?_
        refine then_n ?_
        refine wp_ret ?_
        refine then_r ?_
        refine ret_tmp (t := 4) rfl E (E.get 0 rfl) ⟨?_, hf⟩
        unfold lsW; rw [if_neg (fun h => by rw [bne_iff_ne.2 h] at hq33; cases hq33), if_pos hq35]; rfl
  | true =>
    rw [hq33] at E
    refine wp_cond_true (E.get 0 rfl) ?_
    refine wp_seq ?_
    refine wp_region_lit ?_
    refine env_put (d := 10) (v := .pointer (some ⟨b31, 1, none⟩)) E rfl (by decide) rfl (wanted_none rfl _) (fa76_1 rfl (E.get 7 rfl)) fun a E => ?_
    refine env_put (d := 11) (v := .int .i64 x.far) E rfl (by decide) rfl (wanted_none rfl _) (run_ldi rfl (E.get 0 rfl) (bx hb31 1 rfl)) fun a E => ?_
    refine env_put (d := 12) (v := .pointer (some ⟨b32, 1, none⟩)) E rfl (by decide) rfl (wanted_none rfl _) (fa76_1 rfl (E.get 8 rfl)) fun a E => ?_
    refine env_put (d := 13) (v := .int .i64 y.far) E rfl (by decide) rfl (wanted_none rfl _) (run_ldi rfl (E.get 0 rfl) (bx hb32 1 rfl)) fun a E => ?_
    refine env_put (d := 14) (v := .bool (decide (x.far < y.far))) E rfl (by decide) rfl (wanted_none rfl _) (run_ilss (E.get 2 rfl) (E.get 0 rfl) Try.underlying3 rfl) fun a E => ?_
    refine env_set (d := 4) (v := .bool (decide (x.far < y.far))) E rfl (by decide) (wanted_none rfl _) (run_assign rfl (E.get 0 rfl)) fun a E => ?_
    refine wpList_nil ?_
    refine then_n ?_
    refine wp_ret ?_
    refine then_r ?_
    refine ret_tmp (t := 4) rfl E (E.get 0 rfl) ⟨?_, hf⟩
    unfold lsW; rw [if_pos (bne_iff_ne.1 hq33)]
set_option maxRecDepth 100000 in
set_option maxHeartbeats 4000000 in
theorem lenq_calls {w : World} {q n c : Nat} {p : Option Addr} (hq : quB w q (.slice p n c)) : Calls Try.prog 42 #[.pointer (some ⟨q, 0, none⟩)] w fun e w' => e = .returned (.int .i64 (n : Int)) ∧ Fr (fun _ => False) w w' := by
  refine wp_start1 Try.func42 rfl rfl (n := 8) (by decide) fun a E => ?_
  have hf : Fr (fun _ => False) w w := Fr.refl _ _
  refine wp_seq ?_
  refine wp_region_lit ?_
  refine env_put (d := 2) (v := .int .i64 0) E rfl (by decide) rfl (wanted_none rfl _) (run_assign rfl rfl) fun a E => ?_
  refine wpList_nil ?_
  refine then_n ?_
  refine wp_seq ?_
  refine wp_region_lit ?_
  refine env_put (d := 3) (v := .pointer (some ⟨q, 0, none⟩)) E rfl (by decide) rfl (wanted_none rfl _) (run_move rfl (E.get 1 rfl)) fun a E => ?_
  refine env_put (d := 4) (v := .pointer (some ⟨q, 0, none⟩)) E rfl (by decide) rfl (wanted_none rfl _) (run_nilchk rfl (E.get 0 rfl)) fun a E => ?_
  refine env_put (d := 5) (v := .pointer (some ⟨q, 0, none⟩)) E rfl (by decide) rfl (wanted_none rfl _) (fa80_0 rfl (E.get 0 rfl)) fun a E => ?_
  refine env_put (d := 6) (v := .slice (p) n c) E rfl (by decide) rfl (wanted_none rfl _) (run_ld78 rfl (E.get 0 rfl) (bx hq 0 rfl)) fun a E => ?_
  refine env_put (d := 7) (v := .int .i64 (n : Int)) E rfl (by decide) rfl (wanted_none rfl _) (run_len78 rfl (E.get 0 rfl)) fun a E => ?_
  refine env_set (d := 2) (v := .int .i64 (n : Int)) E rfl (by decide) (wanted_none rfl _) (run_assign rfl (E.get 0 rfl)) fun a E => ?_
  refine wpList_nil ?_
  refine then_n ?_
  refine wp_ret ?_
  exact ret_tmp (t := 2) rfl E (E.get 0 rfl) ⟨rfl, hf⟩
set_option maxRecDepth 100000 in
set_option maxHeartbeats 4000000 in
theorem lessq_calls {w : World} {q B i j : Nat} {v : Value} {X : List Wt} {S : Nat → Prop} {x y : Wt} (hQ : QAt w q B v X) (hx : X[i]? = some x) (hy : X[j]? = some y) (hXn : WtAt w S x) (hYn : WtAt w S y) : Calls Try.prog 110 #[.pointer (some ⟨q, 0, none⟩), .int .i64 (i : Int), .int .i64 (j : Int)] w fun e w' => e = .returned (.bool (lsW x y)) ∧ Fr (fun _ => False) w w' := by
  refine wp_start3 Try.func110 rfl rfl (n := 26) (by decide) fun a E => ?_
  have hf : Fr (fun _ => False) w w := Fr.refl _ _
  obtain ⟨hq, hO⟩ := hQ
  obtain ⟨g, cap, rfl, _⟩ := oWt_open hO (by rintro rfl; simp at hx)
  have hrx := oWt_row hO i x hx
  have hry := oWt_row hO j y hy
  have hil := (List.getElem?_eq_some_iff.1 hx).1
  have hjl := (List.getElem?_eq_some_iff.1 hy).1
  refine wp_seq ?_
  refine wp_region_lit ?_
  refine env_put (d := 6) (v := .bool false) E rfl (by decide) rfl (wanted_none rfl _) (run_assign rfl rfl) fun a E => ?_
  refine wpList_nil ?_
  refine then_n ?_
  refine wp_seq ?_
  refine wp_region_invx (G := Unit) () (n := 26) (base := [(0, .pointer (some ⟨q, 0, none⟩)), (1, .int .i64 (i : Int)), (2, .int .i64 (j : Int))]) (U := [(6, .bool false, 19)]) (T := fun γ => [some (7, .pointer (some ⟨q, 0, none⟩)), some (8, .pointer (some ⟨q, 0, none⟩)), some (9, .pointer (some ⟨q, 1, none⟩)), some (10, .func (.func 39) #[] #[]), some (11, .pointer (some ⟨q, 0, none⟩)), some (12, .pointer (some ⟨q, 0, none⟩)), some (13, .pointer (some ⟨q, 0, none⟩)), some (14, .slice (some ⟨g, 0, none⟩) X.length cap), some (15, .int .i64 (i : Int)), some (16, .pointer (some ⟨g, (0 + i * 2), none⟩)), some (17, .agg (wtC x)), some (18, .pointer (some ⟨q, 0, none⟩)), some (19, .pointer (some ⟨q, 0, none⟩)), some (20, .pointer (some ⟨q, 0, none⟩)), some (21, .slice (some ⟨g, 0, none⟩) X.length cap), some (22, .int .i64 (j : Int)), some (23, .pointer (some ⟨g, (0 + j * 2), none⟩)), some (24, .agg (wtC y)), some (25, .bool (lsW x y)), some (6, .bool (lsW x y))]) (M := fun γ ls9 wm => Fr (fun _ => False) w wm) (by kernel_rfl) (by kernel_rfl) (fun _ => by kernel_rfl) (E.of ⟨E.get 1 rfl, E.get 2 rfl, E.get 3 rfl, trivial⟩) (fun x hx => by simp only [List.mem_cons, List.not_mem_nil, or_false] at hx; subst hx; exact E.get 0 rfl) (Fr.refl _ _).drew ?_ ?_
  · intro j9 o9 γ ls9 a w5 ho hl E D DL DL2 hB hM
    have hq := hM.obj hq id
    have hrx := fun m u hu => hM.cell (hrx m u hu) id
    have hry := fun m u hu => hM.cell (hry m u hu) id
    have hXn := NdAt.fr hM (fun _ _ h => h) hXn
    have hYn := NdAt.fr hM (fun _ _ h => h) hYn
    match j9, ho, hl, D, DL, hB with
    | 0, ho, hl, D, DL, hB =>
      obtain rfl := Option.some.inj ho
      clear ho
      exact ⟨fun _ => valx rfl (run_move rfl (E.get 0 rfl)) rfl hM, fun h => by rw [wanted_none rfl] at h; cases h⟩
    | 1, ho, hl, D, DL, hB =>
      obtain rfl := Option.some.inj ho
      clear ho
      exact ⟨fun _ => valx rfl (run_nilchk rfl (D 0 _ rfl rfl)) rfl hM, fun h => by rw [wanted_none rfl] at h; cases h⟩
    | 2, ho, hl, D, DL, hB =>
      obtain rfl := Option.some.inj ho
      clear ho
      exact ⟨fun _ => valx rfl (fa80_1 rfl (D 1 _ rfl rfl)) rfl hM, fun h => by rw [wanted_none rfl] at h; cases h⟩
    | 3, ho, hl, D, DL, hB =>
      obtain rfl := Option.some.inj ho
      clear ho
      exact ⟨fun _ => valx rfl (run_ld77 rfl (D 2 _ rfl rfl) (bx hq 1 rfl)) rfl hM, fun h => by rw [wanted_none rfl] at h; cases h⟩
    | 4, ho, hl, D, DL, hB =>
      obtain rfl := Option.some.inj ho
      clear ho
      exact ⟨fun _ => valx rfl (run_move rfl (E.get 0 rfl)) rfl hM, fun h => by rw [wanted_none rfl] at h; cases h⟩
    | 5, ho, hl, D, DL, hB =>
      obtain rfl := Option.some.inj ho
      clear ho
      exact ⟨fun _ => valx rfl (run_nilchk rfl (D 4 _ rfl rfl)) rfl hM, fun h => by rw [wanted_none rfl] at h; cases h⟩
    | 6, ho, hl, D, DL, hB =>
      obtain rfl := Option.some.inj ho
      clear ho
      exact ⟨fun _ => valx rfl (fa80_0 rfl (D 5 _ rfl rfl)) rfl hM, fun h => by rw [wanted_none rfl] at h; cases h⟩
    | 7, ho, hl, D, DL, hB =>
      obtain rfl := Option.some.inj ho
      clear ho
      exact ⟨fun _ => valx rfl (run_ld78 rfl (D 6 _ rfl rfl) (bx hq 0 rfl)) rfl hM, fun h => by rw [wanted_none rfl] at h; cases h⟩
    | 8, ho, hl, D, DL, hB =>
      obtain rfl := Option.some.inj ho
      clear ho
      exact ⟨fun _ => valx rfl (run_move rfl (E.get 1 rfl)) rfl hM, fun h => by rw [wanted_none rfl] at h; cases h⟩
    | 9, ho, hl, D, DL, hB =>
      obtain rfl := Option.some.inj ho
      clear ho
      exact ⟨fun _ => valx rfl (run_index78 (i := i) rfl (D 7 _ rfl rfl) (D 8 _ rfl rfl) hil) rfl hM, fun h => by rw [wanted_none rfl] at h; cases h⟩
    | 10, ho, hl, D, DL, hB =>
      obtain rfl := Option.some.inj ho
      clear ho
      exact ⟨fun _ => valx rfl (run_ld76 rfl (D 9 _ rfl rfl) hrx) rfl hM, fun h => by rw [wanted_none rfl] at h; cases h⟩
    | 11, ho, hl, D, DL, hB =>
      obtain rfl := Option.some.inj ho
      clear ho
      exact ⟨fun _ => valx rfl (run_move rfl (E.get 0 rfl)) rfl hM, fun h => by rw [wanted_none rfl] at h; cases h⟩
    | 12, ho, hl, D, DL, hB =>
      obtain rfl := Option.some.inj ho
      clear ho
      exact ⟨fun _ => valx rfl (run_nilchk rfl (D 11 _ rfl rfl)) rfl hM, fun h => by rw [wanted_none rfl] at h; cases h⟩
    | 13, ho, hl, D, DL, hB =>
      obtain rfl := Option.some.inj ho
      clear ho
      exact ⟨fun _ => valx rfl (fa80_0 rfl (D 12 _ rfl rfl)) rfl hM, fun h => by rw [wanted_none rfl] at h; cases h⟩
    | 14, ho, hl, D, DL, hB =>
      obtain rfl := Option.some.inj ho
      clear ho
      exact ⟨fun _ => valx rfl (run_ld78 rfl (D 13 _ rfl rfl) (bx hq 0 rfl)) rfl hM, fun h => by rw [wanted_none rfl] at h; cases h⟩
    | 15, ho, hl, D, DL, hB =>
      obtain rfl := Option.some.inj ho
      clear ho
      exact ⟨fun _ => valx rfl (run_move rfl (E.get 2 rfl)) rfl hM, fun h => by rw [wanted_none rfl] at h; cases h⟩
    | 16, ho, hl, D, DL, hB =>
      obtain rfl := Option.some.inj ho
      clear ho
      exact ⟨fun _ => valx rfl (run_index78 (i := j) rfl (D 14 _ rfl rfl) (D 15 _ rfl rfl) hjl) rfl hM, fun h => by rw [wanted_none rfl] at h; cases h⟩
    | 17, ho, hl, D, DL, hB =>
      obtain rfl := Option.some.inj ho
      clear ho
      exact ⟨fun _ => valx rfl (run_ld76 rfl (D 16 _ rfl rfl) hry) rfl hM, fun h => by rw [wanted_none rfl] at h; cases h⟩
    | 18, ho, hl, D, DL, hB =>
      obtain rfl := Option.some.inj ho
      clear ho
      exact ⟨fun _ => callx rfl (run_callf2 (enters_of Try.func39 (by kernel_rfl) rfl) rfl (D 3 _ rfl rfl) (D 10 _ rfl rfl) (D 17 _ rfl rfl)) (less_calls hXn hYn) rfl fun w9 f1 => hM.trans' f1 (fun _ _ h => h.elim), fun h => by rw [wanted_none rfl] at h; cases h⟩
    | 19, ho, hl, D, DL, hB =>
      obtain rfl := Option.some.inj ho
      clear ho
      exact ⟨fun _ => valx rfl (run_assign rfl (D 18 _ rfl rfl)) rfl hM, fun h => by rw [wanted_none rfl] at h; cases h⟩
    | j9 + 20, ho, hl, D, DL, hB => exact absurd ho (by simp)
  · rintro _ a w5 E V hM
    have E := E.add (v := .bool (lsW x y)) (V 19 _ rfl)
    clear V
    have hq := hM.obj hq id
    have hrx := fun m u hu => hM.cell (hrx m u hu) id
    have hry := fun m u hu => hM.cell (hry m u hu) id
    have hXn := NdAt.fr hM (fun _ _ h => h) hXn
    have hYn := NdAt.fr hM (fun _ _ h => h) hYn
    have hf := hf.trans hM
    clear hM
    refine then_n ?_
    refine wp_ret ?_
    exact ret_tmp (t := 6) rfl E (E.get 0 rfl) ⟨rfl, hf⟩
set_option maxRecDepth 100000 in
set_option maxHeartbeats 4000000 in
theorem swapq_calls {w : World} {q B i j : Nat} {v : Value} {X : List Wt} {x y : Wt} (hQ : QAt w q B v X) (hx : X[i]? = some x) (hy : X[j]? = some y) : Calls Try.prog 113 #[.pointer (some ⟨q, 0, none⟩), .int .i64 (i : Int), .int .i64 (j : Int)] w fun e w' => e = .returned (.tuple #[]) ∧ QAt w' q B v ((X.set i y).set j x) ∧ Fr (fun k => v.ownBlock = some k) w w' := by
  refine wp_start3 Try.func113 rfl rfl (n := 32) (by decide) fun a E => ?_
  have hf : Fr (fun _ => False) w w := Fr.refl _ _
  obtain ⟨hq, hO⟩ := hQ
  obtain ⟨g, cap, rfl, _⟩ := oWt_open hO (by rintro rfl; simp at hx)
  have hil := (List.getElem?_eq_some_iff.1 hx).1
  have hjl := (List.getElem?_eq_some_iff.1 hy).1
  have hqg : q ≠ g := fun e => by have := ow_ne_struct (by decide) hO hq; rw [e] at this; exact this rfl
  refine wp_region_invx (G := Unit) () (n := 32) (base := [(0, .pointer (some ⟨q, 0, none⟩)), (1, .int .i64 (i : Int)), (2, .int .i64 (j : Int))]) (U := []) (T := fun γ => [some (6, .pointer (some ⟨q, 0, none⟩)), some (7, .pointer (some ⟨q, 0, none⟩)), some (8, .pointer (some ⟨q, 0, none⟩)), some (9, .slice (some ⟨g, 0, none⟩) X.length cap), some (10, .int .i64 (i : Int)), some (11, .pointer (some ⟨q, 0, none⟩)), some (12, .pointer (some ⟨q, 0, none⟩)), some (13, .pointer (some ⟨q, 0, none⟩)), some (14, .slice (some ⟨g, 0, none⟩) X.length cap), some (15, .int .i64 (j : Int)), some (16, .pointer (some ⟨q, 0, none⟩)), some (17, .pointer (some ⟨q, 0, none⟩)), some (18, .pointer (some ⟨q, 0, none⟩)), some (19, .slice (some ⟨g, 0, none⟩) X.length cap), some (20, .int .i64 (j : Int)), some (21, .pointer (some ⟨g, (0 + j * 2), none⟩)), some (22, .agg (wtC y)), some (23, .pointer (some ⟨q, 0, none⟩)), some (24, .pointer (some ⟨q, 0, none⟩)), some (25, .pointer (some ⟨q, 0, none⟩)), some (26, .slice (some ⟨g, 0, none⟩) X.length cap), some (27, .int .i64 (i : Int)), some (28, .pointer (some ⟨g, (0 + i * 2), none⟩)), some (29, .agg (wtC x)), some (30, .pointer (some ⟨g, (0 + i * 2), none⟩)), none, some (31, .pointer (some ⟨g, (0 + j * 2), none⟩)), none]) (M := fun γ ls9 wm => Fr (fun k => k = g) w wm ∧ oWt wm B (.slice (some ⟨g, 0, none⟩) X.length cap) (bif ls9 27 then (bif ls9 25 then X.set i y else X).set j x else bif ls9 25 then X.set i y else X)) (by kernel_rfl) (by kernel_rfl) (fun _ => by kernel_rfl) (E.of ⟨E.get 0 rfl, E.get 1 rfl, E.get 2 rfl, trivial⟩) (fun x hx => by cases hx) ⟨(Fr.refl _ _).drew, hO.fr (Fr.refl (fun _ => False) _).drew (fun _ _ h => h)⟩ ?_ ?_
  · intro j9 o9 γ ls9 a w5 ho hl E D DL DL2 hB hM
    have hq5 := hM.1.obj hq hqg
    match j9, ho, hl, D, DL, hB with
    | 0, ho, hl, D, DL, hB =>
      obtain rfl := Option.some.inj ho
      exact ⟨fun _ => valx rfl (run_move rfl (E.get 0 rfl)) rfl hM, fun h => by rw [wanted_none rfl] at h; cases h⟩
    | 1, ho, hl, D, DL, hB =>
      obtain rfl := Option.some.inj ho
      exact ⟨fun _ => valx rfl (run_nilchk rfl (D 0 _ rfl rfl)) rfl hM, fun h => by rw [wanted_none rfl] at h; cases h⟩
    | 2, ho, hl, D, DL, hB =>
      obtain rfl := Option.some.inj ho
      exact ⟨fun _ => valx rfl (fa80_0 rfl (D 1 _ rfl rfl)) rfl hM, fun h => by rw [wanted_none rfl] at h; cases h⟩
    | 3, ho, hl, D, DL, hB =>
      obtain rfl := Option.some.inj ho
      exact ⟨fun _ => valx rfl (run_ld78 rfl (D 2 _ rfl rfl) (bx hq5 0 rfl)) rfl hM, fun h => by rw [wanted_none rfl] at h; cases h⟩
    | 4, ho, hl, D, DL, hB =>
      obtain rfl := Option.some.inj ho
      exact ⟨fun _ => valx rfl (run_move rfl (E.get 1 rfl)) rfl hM, fun h => by rw [wanted_none rfl] at h; cases h⟩
    | 5, ho, hl, D, DL, hB =>
      obtain rfl := Option.some.inj ho
      exact ⟨fun _ => valx rfl (run_move rfl (E.get 0 rfl)) rfl hM, fun h => by rw [wanted_none rfl] at h; cases h⟩
    | 6, ho, hl, D, DL, hB =>
      obtain rfl := Option.some.inj ho
      exact ⟨fun _ => valx rfl (run_nilchk rfl (D 5 _ rfl rfl)) rfl hM, fun h => by rw [wanted_none rfl] at h; cases h⟩
    | 7, ho, hl, D, DL, hB =>
      obtain rfl := Option.some.inj ho
      exact ⟨fun _ => valx rfl (fa80_0 rfl (D 6 _ rfl rfl)) rfl hM, fun h => by rw [wanted_none rfl] at h; cases h⟩
    | 8, ho, hl, D, DL, hB =>
      obtain rfl := Option.some.inj ho
      exact ⟨fun _ => valx rfl (run_ld78 rfl (D 7 _ rfl rfl) (bx hq5 0 rfl)) rfl hM, fun h => by rw [wanted_none rfl] at h; cases h⟩
    | 9, ho, hl, D, DL, hB =>
      obtain rfl := Option.some.inj ho
      exact ⟨fun _ => valx rfl (run_move rfl (E.get 2 rfl)) rfl hM, fun h => by rw [wanted_none rfl] at h; cases h⟩
    | 10, ho, hl, D, DL, hB =>
      obtain rfl := Option.some.inj ho
      exact ⟨fun _ => valx rfl (run_move rfl (E.get 0 rfl)) rfl hM, fun h => by rw [wanted_none rfl] at h; cases h⟩
    | 11, ho, hl, D, DL, hB =>
      obtain rfl := Option.some.inj ho
      exact ⟨fun _ => valx rfl (run_nilchk rfl (D 10 _ rfl rfl)) rfl hM, fun h => by rw [wanted_none rfl] at h; cases h⟩
    | 12, ho, hl, D, DL, hB =>
      obtain rfl := Option.some.inj ho
      exact ⟨fun _ => valx rfl (fa80_0 rfl (D 11 _ rfl rfl)) rfl hM, fun h => by rw [wanted_none rfl] at h; cases h⟩
    | 13, ho, hl, D, DL, hB =>
      obtain rfl := Option.some.inj ho
      exact ⟨fun _ => valx rfl (run_ld78 rfl (D 12 _ rfl rfl) (bx hq5 0 rfl)) rfl hM, fun h => by rw [wanted_none rfl] at h; cases h⟩
    | 14, ho, hl, D, DL, hB =>
      obtain rfl := Option.some.inj ho
      exact ⟨fun _ => valx rfl (run_move rfl (E.get 2 rfl)) rfl hM, fun h => by rw [wanted_none rfl] at h; cases h⟩
    | 15, ho, hl, D, DL, hB =>
      obtain rfl := Option.some.inj ho
      exact ⟨fun _ => valx rfl (run_index78 (i := j) rfl (D 13 _ rfl rfl) (D 14 _ rfl rfl) hjl) rfl hM, fun h => by rw [wanted_none rfl] at h; cases h⟩
    | 16, ho, hl, D, DL, hB =>
      have n25 : ls9 25 = false := by
        cases h8 : ls9 25 with
        | false => rfl
        | true => exact absurd (hl.symm.trans (DL2 25 16 rfl h8)) (by decide)
      have n27 : ls9 27 = false := by
        cases h8 : ls9 27 with
        | false => rfl
        | true => exact absurd (hl.symm.trans (DL2 27 16 rfl h8)) (by decide)
      have hO5 := hM.2
      rw [n25, n27] at hO5
      obtain rfl := Option.some.inj ho
      exact ⟨fun _ => valx rfl (run_ld76 rfl (D 15 _ rfl rfl) (oWt_row hO5 j y hy)) rfl hM, fun h => by rw [wanted_none rfl] at h; cases h⟩
    | 17, ho, hl, D, DL, hB =>
      obtain rfl := Option.some.inj ho
      exact ⟨fun _ => valx rfl (run_move rfl (E.get 0 rfl)) rfl hM, fun h => by rw [wanted_none rfl] at h; cases h⟩
    | 18, ho, hl, D, DL, hB =>
      obtain rfl := Option.some.inj ho
      exact ⟨fun _ => valx rfl (run_nilchk rfl (D 17 _ rfl rfl)) rfl hM, fun h => by rw [wanted_none rfl] at h; cases h⟩
    | 19, ho, hl, D, DL, hB =>
      obtain rfl := Option.some.inj ho
      exact ⟨fun _ => valx rfl (fa80_0 rfl (D 18 _ rfl rfl)) rfl hM, fun h => by rw [wanted_none rfl] at h; cases h⟩
    | 20, ho, hl, D, DL, hB =>
      obtain rfl := Option.some.inj ho
      exact ⟨fun _ => valx rfl (run_ld78 rfl (D 19 _ rfl rfl) (bx hq5 0 rfl)) rfl hM, fun h => by rw [wanted_none rfl] at h; cases h⟩
    | 21, ho, hl, D, DL, hB =>
      obtain rfl := Option.some.inj ho
      exact ⟨fun _ => valx rfl (run_move rfl (E.get 1 rfl)) rfl hM, fun h => by rw [wanted_none rfl] at h; cases h⟩
    | 22, ho, hl, D, DL, hB =>
      obtain rfl := Option.some.inj ho
      exact ⟨fun _ => valx rfl (run_index78 (i := i) rfl (D 20 _ rfl rfl) (D 21 _ rfl rfl) hil) rfl hM, fun h => by rw [wanted_none rfl] at h; cases h⟩
    | 23, ho, hl, D, DL, hB =>
      have n25 : ls9 25 = false := by
        cases h8 : ls9 25 with
        | false => rfl
        | true => exact absurd (hl.symm.trans (DL2 25 23 rfl h8)) (by decide)
      have n27 : ls9 27 = false := by
        cases h8 : ls9 27 with
        | false => rfl
        | true => exact absurd (hl.symm.trans (DL2 27 23 rfl h8)) (by decide)
      have hO5 := hM.2
      rw [n25, n27] at hO5
      obtain rfl := Option.some.inj ho
      exact ⟨fun _ => valx rfl (run_ld76 rfl (D 22 _ rfl rfl) (oWt_row hO5 i x hx)) rfl hM, fun h => by rw [wanted_none rfl] at h; cases h⟩
    | 24, ho, hl, D, DL, hB =>
      obtain rfl := Option.some.inj ho
      exact ⟨fun _ => valx rfl (run_index78 (i := i) rfl (D 3 _ rfl rfl) (D 4 _ rfl rfl) hil) rfl hM, fun h => by rw [wanted_none rfl] at h; cases h⟩
    | 25, ho, hl, D, DL, hB =>
      have n27 : ls9 27 = false := by
        cases h8 : ls9 27 with
        | false => rfl
        | true => exact absurd (hl.symm.trans (DL2 27 25 rfl h8)) (by decide)
      have hO5 := hM.2
      rw [hl, n27] at hO5
      obtain ⟨⟨u0, u1, c0, c1, z0, z1⟩, hO6⟩ := oWt_set (y := y) hO5 hx
      obtain rfl := Option.some.inj ho
      exact ⟨fun _ => storex rfl (run_st76 (s := y) rfl (D 24 _ rfl rfl) (D 16 _ rfl rfl) c0 c1 z0 z1) rfl ⟨hM.1.trans' (Fr.two _ _ _ _ _ _) (fun _ _ e => e), by simp only [n27]; exact hO6⟩, fun h => by rw [wanted_none rfl] at h; cases h⟩
    | 26, ho, hl, D, DL, hB =>
      obtain rfl := Option.some.inj ho
      exact ⟨fun _ => valx rfl (run_index78 (i := j) rfl (D 8 _ rfl rfl) (D 9 _ rfl rfl) hjl) rfl hM, fun h => by rw [wanted_none rfl] at h; cases h⟩
    | 27, ho, hl, D, DL, hB =>
      have d25 := DL 25 rfl
      have hO5 := hM.2
      rw [hl, d25] at hO5
      have hy2 : ∃ z, (X.set i y)[j]? = some z := ⟨_, List.getElem?_eq_getElem (by rw [List.length_set]; exact hjl)⟩
      obtain ⟨z, hz⟩ := hy2
      obtain ⟨⟨u0, u1, c0, c1, z0, z1⟩, hO6⟩ := oWt_set (y := x) hO5 hz
      obtain rfl := Option.some.inj ho
      exact ⟨fun _ => storex rfl (run_st76 (s := x) rfl (D 26 _ rfl rfl) (D 23 _ rfl rfl) c0 c1 z0 z1) rfl ⟨hM.1.trans' (Fr.two _ _ _ _ _ _) (fun _ _ e => e), by simp only [d25]; exact hO6⟩, fun h => by rw [wanted_none rfl] at h; cases h⟩
    | j9 + 28, ho, hl, D, DL, hB => exact absurd ho (by simp)
  · rintro _ a w9 E V hM
    clear V
    have hq9 := hM.1.obj hq hqg
    have hO9 : oWt w9 B (.slice (some ⟨g, 0, none⟩) X.length cap) ((X.set i y).set j x) := hM.2
    have hF := hM.1
    clear hM
    exact (ret_nil rfl E ⟨rfl, ⟨hq9, hO9⟩, hF.mono fun r _ e => by rw [e]; rfl⟩).1
end Go.Proofs.Ytcafnanbdmapgaa
