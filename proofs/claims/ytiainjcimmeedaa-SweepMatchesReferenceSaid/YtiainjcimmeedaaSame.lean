/- planisphereref05.Same. -/
import Derived.Test.YtiainjcimmeedaaAll
set_option linter.unusedVariables false
set_option linter.unusedSimpArgs false
namespace Go.Proofs.Ytiainjcimmeedaa
open Go.RowKit Go.Pl Go.Geo

instance : DecidableEq Mt := fun a b => decidable_of_iff (a.a = b.a ∧ a.b = b.b ∧ a.k = b.k) (by
  obtain ⟨a1, a2, a3⟩ := a
  obtain ⟨b1, b2, b3⟩ := b
  simp)
/-- v is a slice of the meetings L. -/
def mtR (w : World) (v : Value) (L : List Mt) : Prop := (∃ p cap, v = .slice p L.length cap) ∧ (L = [] ∨ ∃ g cap, v = .slice (some ⟨g, 0, none⟩) L.length cap ∧ g < w.heap.size ∧ ∀ i m, L[i]? = some m → w.rangeAt g (i * 3) (mtC m))
theorem mtR.fr {w w' : World} {v : Value} {L : List Mt} (h : mtR w v L) (hf : Fr (fun _ => False) w w') : mtR w' v L := by
  refine ⟨h.1, ?_⟩
  rcases h.2 with h | ⟨g, cap, h1, h2, h3⟩
  · exact .inl h
  · exact .inr ⟨g, cap, h1, Nat.lt_of_lt_of_le h2 hf.size, fun i m hm j u hu => hf.cell (h3 i m hm j u hu) id⟩
theorem oM.mtR {w : World} {B : Nat} {v : Value} {L : List Mt} (h : oM w B v L) : mtR w v L := by
  have h' : w.ownsRow B 36 3 v L.length ((L.map id).flatMap mtC) := by rw [List.map_id]; exact h
  rcases own_laid h' with ⟨h1, h2⟩ | ⟨g, cap, cur, h1, hB, h2, h3, h4, h5, h6⟩
  · subst h2; exact ⟨⟨_, _, h1⟩, .inl rfl⟩
  · refine ⟨⟨_, _, h1⟩, .inr ⟨g, cap, h1, lt_of_blk h2, fun i m hm j u hu => ?_⟩⟩
    rw [cell_of_blk h2]; exact h6 i m hm j u hu

section
variable {o : Oper} {w : World} {ρ : Operand → Value} {x y : Operand} {g off : Nat}
theorem info36 : (Try.prog.info? 36).map (·.size) = some 3 := by kernel_rfl
theorem run_ld36 {s : Mt} (ho : o.op = .load 36 x) (hx : ρ x = .pointer (some ⟨g, off, none⟩)) (h : w.rangeAt g off (mtC s)) : (execOp ρ o).run Try.prog w = .ok (.value (.agg (mtC s).toArray)) w := by
  have := run_loadAt_mid (P := Try.prog) w g off 36 (mtC s) _ h Try.underlying36 rfl info36
  simp only [execOp, ho, hx, Sem.run_bind, this, Result.andThen_ok, Sem.run_pure]
theorem run_index24 {i n cap : Nat} (ho : o.op = .indexAddr 24 x y) (hx : ρ x = .slice (some ⟨g, 0, none⟩) n cap) (hy : ρ y = .int .i64 i) (hi : i < n) : (execOp ρ o).run Try.prog w = .ok (.value (.pointer (some ⟨g, i * 3, none⟩))) w := by
  have h1 : (i : Int) < n := by omega
  simp [execOp, ho, hx, hy, go_sem, h1]
theorem run_len24 {n cap : Nat} {p : Option Addr} (ho : o.op = .call ⟨.builtin .len, #[x], #[24]⟩) (hx : ρ x = .slice p n cap) : (execOp ρ o).run Try.prog w = .ok (.value (.int .i64 n)) w := by
  simp [execOp, ho, hx, resolve, invoke, go_sem]
theorem eq36 (p q : Mt) (w : World) : (binOp .neq 36 (.agg (mtC p).toArray) (.agg (mtC q).toArray)).run Try.prog w = .ok (.bool (!decide (p = q))) w := by
  have u3 := Try.underlying3
  have hS : Try.prog.underlying 36 = some (.struct (Try.prog.fieldsOf 36)) := by kernel_rfl
  have hp : Try.prog.stoodInHeld 36 = false := by kernel_rfl
  rw [run_neq_struct, show (10000 : Nat) = 9999 + 1 from rfl, run_equalIn_agg w 9999 36 _ _ hS hp]
  simp only [Program.fieldsOf, Try.underlying36]
  go_simp
  obtain ⟨a, b, c⟩ := p
  obtain ⟨d, e, f⟩ := q
  have hc : ∀ u v : Fin 20000, ((u.val : Int) = (v.val : Int)) ↔ u = v := fun u v => by rw [Fin.ext_iff]; omega
  by_cases h1 : a = d <;> by_cases h2 : b = e <;> by_cases h3 : c = f <;> simp [h1, h2, h3, hc]
theorem run_neq36 {p q : Mt} {T : TypeId} (ho : o.op = .binOp .neq 36 x y T) (hx : ρ x = .agg (mtC p).toArray) (hy : ρ y = .agg (mtC q).toArray) : (execOp ρ o).run Try.prog w = .ok (.value (.bool (!decide (p = q)))) w := by
  have hm : Try.prog.eqGuardType Try.prog.depth 36 = false := by kernel_rfl
  simp only [execOp, ho, hx, hy, Sem.run_bind, run_eqGuard_agg w _ 36 _ _ _ _ hm, eq36, Result.andThen_ok, Sem.run_pure]
end

set_option maxRecDepth 100000 in
set_option maxHeartbeats 4000000 in
theorem same_calls (v1 v2 : Value) (L1 L2 : List Mt) (w : World) (h1 : mtR w v1 L1) (h2 : mtR w v2 L2) (hb1 : L1.length < 4611686018427387904) : Calls Try.prog 12 #[v1, v2] w fun e w' => e = .returned (.bool (decide (L1 = L2))) ∧ Fr (fun _ => False) w w' := by
  obtain ⟨p1, c1, hv1⟩ := h1.1
  obtain ⟨p2, c2, hv2⟩ := h2.1
  refine wp_start2 Try.func12 rfl rfl (n := 26) (by decide) fun a E => ?_
  refine wp_seq ?_
  refine wp_region_lit ?_
  refine env_put (d := 4) (v := .bool false) E rfl (by decide) rfl (wanted_none rfl _) (run_assign rfl rfl) fun a E => ?_
  refine wpList_nil ?_
  refine then_n ?_
  refine wp_seq ?_
  refine wp_seq ?_
  refine wp_region_lit ?_
  refine env_put (d := 6) (v := v1) E rfl (by decide) rfl (wanted_none rfl _) (run_move rfl (E.get 1 rfl)) fun a E => ?_
  refine env_put (d := 7) (v := .int .i64 (L1.length : Int)) E rfl (by decide) rfl (wanted_none rfl _) (run_len24 rfl ((E.get 0 rfl).trans hv1)) fun a E => ?_
  refine env_put (d := 8) (v := v2) E rfl (by decide) rfl (wanted_none rfl _) (run_move rfl (E.get 4 rfl)) fun a E => ?_
  refine env_put (d := 9) (v := .int .i64 (L2.length : Int)) E rfl (by decide) rfl (wanted_none rfl _) (run_len24 rfl ((E.get 0 rfl).trans hv2)) fun a E => ?_
  refine env_put (d := 10) (v := .bool ((L1.length : Int) != (L2.length : Int))) E rfl (by decide) rfl (wanted_none rfl _) (run_ineq (E.get 2 rfl) (E.get 0 rfl) Try.underlying3 rfl) fun a E => ?_
  refine wpList_nil ?_
  refine then_n ?_
  cases hq : (L1.length : Int) != (L2.length : Int) with
  | true =>
    rw [hq] at E
    refine wp_cond_true (E.get 0 rfl) ?_
    refine wp_seq ?_
    refine wp_region_lit ?_
    refine env_set (d := 4) (v := .bool false) E rfl (by decide) (wanted_none rfl _) (run_assign rfl rfl) fun a E => ?_
    refine wpList_nil ?_
    refine then_n ?_
    refine wp_ret ?_
    refine then_r ?_
    refine ret_tmp (t := 4) rfl E (E.get 0 rfl) ⟨?_, Fr.refl _ _⟩
    rw [decide_eq_false]; rintro rfl; simp at hq
  | false =>
    rw [hq] at E
    refine wp_cond_false (E.get 0 rfl) ?_
    refine wp_skip ?_
    refine then_n ?_
    have hlen : L1.length = L2.length := Int.ofNat.inj (by simpa using hq)
    clear hq
    refine wp_seq ?_
    refine wp_seq ?_
    refine wp_region_lit ?_
    refine env_put (d := 5) (v := .int .i64 0) E rfl (by decide) rfl (wanted_none rfl _) (run_assign rfl rfl) fun a E => ?_
    refine wpList_nil ?_
    refine then_n ?_
    refine wp_block ?_
    refine wp_loop (fun a w2 => ∃ i : Nat, i ≤ L1.length ∧ Env 26 [(5, .int .i64 (i : Int)), (0, v1), (1, v2)] a ∧ Hid (∀ t, t < i → L1[t]? = L2[t]?) ∧ Fr (fun _ => False) w w2) (fun a _ => L1.length - (intOf (a.eval (.tmp 5))).toNat) ?_ ?_
    · exact ⟨0, Nat.zero_le _, E.of ⟨E.get 0 (by simp), E.get 7 rfl, E.get 8 rfl, trivial⟩, fun t h => absurd h (Nat.not_lt_zero _), Fr.refl _ _⟩
    clear E
    rintro a w2 ⟨i, hi, E, hpre, hf⟩
    have hmu : L1.length - (intOf (a.eval (.tmp 5))).toNat = L1.length - i := by rw [E.get 0 rfl]; simp [intOf]
    rw [hmu]
    clear hmu
    refine wp_seq ?_
    refine wp_seq ?_
    refine wp_region_lit ?_
    refine env_put (d := 11) (v := .int .i64 (i : Int)) E rfl (by decide) rfl (wanted_none rfl _) (run_move rfl (E.get 0 rfl)) fun a E => ?_
    refine env_put (d := 12) (v := v1) E rfl (by decide) rfl (wanted_none rfl _) (run_move rfl (E.get 2 rfl)) fun a E => ?_
    refine env_put (d := 13) (v := .int .i64 (L1.length : Int)) E rfl (by decide) rfl (wanted_none rfl _) (run_len24 rfl ((E.get 0 rfl).trans hv1)) fun a E => ?_
    refine env_put (d := 14) (v := .bool (decide ((i : Int) < (L1.length : Int)))) E rfl (by decide) rfl (wanted_none rfl _) (run_ilss (E.get 2 rfl) (E.get 0 rfl) Try.underlying3 rfl) fun a E => ?_
    refine wpList_nil ?_
    refine then_n ?_
    cases hq : decide ((i : Int) < (L1.length : Int)) with
    | false =>
      rw [hq] at E
      refine wp_cond_false (E.get 0 rfl) ?_
      refine wp_exit ?_
      refine then_e ?_
      refine then_e ?_
      refine blk_e ?_
      refine then_n ?_
      refine wp_seq ?_
      refine wp_region_lit ?_
      refine env_put (d := 4) (v := .bool true) E rfl (by decide) rfl (wanted_none rfl _) (run_assign rfl rfl) fun a E => ?_
      refine wpList_nil ?_
      refine then_n ?_
      refine wp_ret ?_
      refine ret_tmp (t := 4) rfl E (E.get 0 rfl) ⟨?_, hf⟩
      have hin : ¬ (i : Int) < (L1.length : Int) := of_decide_eq_false hq
      rw [decide_eq_true]
      apply List.ext_getElem?
      intro t
      by_cases ht : t < i
      · exact hpre.out t ht
      · rw [List.getElem?_eq_none (by omega), List.getElem?_eq_none (by omega)]
    | true =>
      rw [hq] at E
      refine wp_cond_true (E.get 0 rfl) ?_
      refine wp_skip ?_
      refine then_n ?_
      have hlt : i < L1.length := by have := of_decide_eq_true hq; omega
      obtain ⟨x, hx⟩ : ∃ x, L1[i]? = some x := ⟨_, List.getElem?_eq_getElem hlt⟩
      obtain ⟨y, hy⟩ : ∃ y, L2[i]? = some y := ⟨_, List.getElem?_eq_getElem (by omega)⟩
      obtain ⟨g1, d1, hs1, _, hm1⟩ := (h1.fr hf).2.resolve_left (by rintro rfl; simp at hx)
      obtain ⟨g2, d2, hs2, _, hm2⟩ := (h2.fr hf).2.resolve_left (by rintro rfl; simp at hy)
      refine wp_seq ?_
      refine wp_block ?_
      refine wp_seq ?_
      refine wp_region_inv (n := 26) (base := [(5, .int .i64 (i : Int)), (0, v1), (1, v2)]) (T := [some (17, v1), some (18, .int .i64 (i : Int)), some (19, .pointer (some ⟨g1, i * 3, none⟩)), some (20, .agg (mtC x).toArray), some (21, v2), some (22, .int .i64 (i : Int)), some (23, .pointer (some ⟨g2, i * 3, none⟩)), some (24, .agg (mtC y).toArray), some (25, .bool (!decide (x = y)))]) (M := fun lst w5 => w5 = w2.drew) (by kernel_rfl) (by kernel_rfl) (by kernel_rfl) (E.of ⟨E.get 4 rfl, E.get 5 rfl, E.get 6 rfl, trivial⟩) rfl ?_ ?_
      · intro j o tt lst a w5 ho hT0 hl E D DL hM
        subst hM
        match j, ho, hT0, hl, D, DL with
        | 0, ho, hT0, hl, D, DL =>
          obtain rfl := Option.some.inj ho
          obtain rfl := Option.some.inj hT0
          clear ho hT0
          exact val_wp (run_move rfl (E.get 1 rfl)) rfl rfl
        | 1, ho, hT0, hl, D, DL =>
          obtain rfl := Option.some.inj ho
          obtain rfl := Option.some.inj hT0
          clear ho hT0
          exact val_wp (run_move rfl (E.get 0 rfl)) rfl rfl
        | 2, ho, hT0, hl, D, DL =>
          obtain rfl := Option.some.inj ho
          obtain rfl := Option.some.inj hT0
          clear ho hT0
          exact val_wp (run_index24 rfl ((D 0 _ rfl rfl).trans hs1) (D 1 _ rfl rfl) hlt) rfl rfl
        | 3, ho, hT0, hl, D, DL =>
          obtain rfl := Option.some.inj ho
          obtain rfl := Option.some.inj hT0
          clear ho hT0
          exact val_wp (run_ld36 rfl (D 2 _ rfl rfl) (hm1 i x hx)) rfl rfl
        | 4, ho, hT0, hl, D, DL =>
          obtain rfl := Option.some.inj ho
          obtain rfl := Option.some.inj hT0
          clear ho hT0
          exact val_wp (run_move rfl (E.get 2 rfl)) rfl rfl
        | 5, ho, hT0, hl, D, DL =>
          obtain rfl := Option.some.inj ho
          obtain rfl := Option.some.inj hT0
          clear ho hT0
          exact val_wp (run_move rfl (E.get 0 rfl)) rfl rfl
        | 6, ho, hT0, hl, D, DL =>
          obtain rfl := Option.some.inj ho
          obtain rfl := Option.some.inj hT0
          clear ho hT0
          exact val_wp (run_index24 rfl ((D 4 _ rfl rfl).trans hs2) (D 5 _ rfl rfl) (by omega)) rfl rfl
        | 7, ho, hT0, hl, D, DL =>
          obtain rfl := Option.some.inj ho
          obtain rfl := Option.some.inj hT0
          clear ho hT0
          exact val_wp (run_ld36 rfl (D 6 _ rfl rfl) (hm2 i y hy)) rfl rfl
        | 8, ho, hT0, hl, D, DL =>
          obtain rfl := Option.some.inj ho
          obtain rfl := Option.some.inj hT0
          clear ho hT0
          exact val_wp (run_neq36 rfl (D 3 _ rfl rfl) (D 7 _ rfl rfl)) rfl rfl
        | j + 9, ho, hT0, hl, D, DL => exact absurd hT0 (by simp)
      intro a w5 E V hM
      have hV := V 8 _ rfl
      subst hM
      have hf := hf.drew
      clear V
      refine then_n ?_
      cases hxy : decide (x = y) with
      | false =>
        rw [hxy] at hV
        refine wp_cond_true hV ?_
        refine wp_seq ?_
        refine wp_region_lit ?_
        refine env_put (d := 4) (v := .bool false) E rfl (by decide) rfl (wanted_none rfl _) (run_assign rfl rfl) fun a E => ?_
        refine wpList_nil ?_
        refine then_n ?_
        refine wp_ret ?_
        refine blk_r ?_
        refine then_r ?_
        refine then_r ?_
        refine blk_r ?_
        refine then_r ?_
        refine ret_tmp (t := 4) rfl E (E.get 0 rfl) ⟨?_, hf⟩
        rw [decide_eq_false]; rintro rfl; rw [hx] at hy; exact of_decide_eq_false hxy (Option.some.inj hy)
      | true =>
        rw [hxy] at hV
        refine wp_cond_false hV ?_
        refine wp_skip ?_
        refine blk_n ?_
        refine then_n ?_
        refine wp_region_lit ?_
        refine env_put (d := 15) (v := .int .i64 (i : Int)) E rfl (by decide) rfl (wanted_none rfl _) (run_move rfl (E.get 0 rfl)) fun a E => ?_
        refine env_put (d := 16) (v := .int .i64 (i + 1 : Int)) E rfl (by decide) rfl (wanted_none rfl _) (run_iadd (E.get 0 rfl) rfl (by omega) (by omega) rfl) fun a E => ?_
        refine env_set (d := 5) (v := .int .i64 (i + 1 : Int)) E rfl (by decide) (wanted_none rfl _) (run_assign rfl (E.get 0 rfl)) fun a E => ?_
        refine wpList_nil ?_
        refine then_n ?_
        refine ⟨⟨i + 1, hlt, E.of ⟨E.get 0 (by simp), E.get 3 rfl, E.get 4 rfl, trivial⟩, fun t ht => ?_, hf⟩, ?_⟩
        · by_cases h : t < i
          · exact hpre.out t h
          · obtain rfl : t = i := by omega
            rw [hx, hy, of_decide_eq_true hxy]
        · rw [E.get 0 rfl]; simp only [intOf]; omega
end Go.Proofs.Ytiainjcimmeedaa
