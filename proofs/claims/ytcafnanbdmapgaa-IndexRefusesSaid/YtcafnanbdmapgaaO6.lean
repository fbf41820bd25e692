/- The laws of the index: IndexRefuses. -/
import Derived.Test.YtcafnanbdmapgaaO5
set_option linter.unusedVariables false
set_option linter.unusedSimpArgs false
namespace Go.Proofs.Ytcafnanbdmapgaa
open Go.RowKit Go.Pl

section
variable {O : Array Oper} {Q : Exit → Act → World → Prop} {rest : List Oper} {o : Oper} {a : Act} {w : World} {n d : Nat} {L : List (Nat × Value)} {x : Operand} {ds : List Deferred} {s : Wo}
theorem run_one22 {ρ : Operand → Value} (ho : o.op = .buildSlice 22 1 #[(0, x)]) (hx : ρ x = .agg (opC s)) : (execOp ρ o).run Try.prog w = .ok (.value (.slice (some ⟨w.heap.size, 0, none⟩) 1 1)) (w.alloc (.cells (opC s) 35)) := by
  simp [execOp, ho, hx, go_sem]
theorem env_one22 (E : EnvD ds n L a) (hd : o.dst = some d) (hn : d < n) (hf : (L.map (·.1)).contains d = false) (hw : Region.wanted o (yielded O a.tmps) = true) (ho : o.op = .buildSlice 22 1 #[(0, x)]) (hx : a.eval x = .agg (opC s))
    (k : ∀ a' w' b, srcAt opL 6 w' w'.heap.size (some ⟨b, 0, none⟩) [s] → Fr (fun _ => False) w w' → EnvD ds n ((d, .slice (some ⟨b, 0, none⟩) 1 1) :: L) a' → wpList Try.prog O Q rest a' w') : wpList Try.prog O Q (o :: rest) a w :=
  env_put E hd hn hf hw (run_one22 ho hx) fun a' E' => k a' _ _ (src_one (f := opL) (T := 35) (blk_alloc_new _ _) (by simp)) ((Fr.refl _ _).alloc _) E'
end
theorem del_upd {m : ByteArray → Option Bx} {s : ByteArray} {b : Bx} (h : m s = none) : delB (updB m s b) s = m := by
  funext x; unfold delB updB; by_cases e : x = s
  · rw [if_pos e, e, h]
  · rw [if_neg e, if_neg e]

set_option maxRecDepth 100000 in
set_option maxHeartbeats 16000000 in
theorem refuses_calls {w : World} {cap : Nat} {p : Option Addr} {l : List Wo} (hs : srcAt opL 6 w w.heap.size p l) (hb : l.length ≤ 9223372036854775807) (o : Wo) (b : Bx) (pt : Pt) : Calls Try.prog 8 #[.slice p l.length cap, .agg (opC o), .agg (bxC b), .agg (ptC pt)] w fun e w' => e = .returned (.bool true) ∧ Fr (fun _ => False) w w' := by
  refine wp_start4 Try.func8 rfl rfl (n := 94) (by decide) fun a E => ?_
  have hf : Fr (fun _ => False) w w := Fr.refl _ _
  refine wp_seq ?_
  refine wp_region_lit ?_
  have hTl := (fun k hk => hk.elim : ∀ k, (fun _ : Nat => False) k → k < w.heap.size)
  refine env_box35 (d := 5) E rfl (by decide) rfl (wanted_none rfl _) rfl (E.get 1 rfl) fun a w1 b38 eb38 hb38 f1 E => ?_
  have hkb38 : Kw w1 (fun _ => False) b38 (opC o) 35 := ⟨hb38, fun ht => by have := hTl b38 ht; omega⟩
  have hs := hs.fr f1 (fun _ _ h => h)
  have hf := hf.trans f1
  clear f1
  clear hb38 hTl eb38
  have hTl := (fun k hk => hk.elim : ∀ k, (fun _ : Nat => False) k → k < w1.heap.size)
  refine env_box26 (d := 6) E rfl (by decide) rfl (wanted_none rfl _) rfl (E.get 3 rfl) fun a w1 b39 eb39 hb39 f1 E => ?_
  have hcb39 : Cw w1 (fun _ => False) b39 b := ⟨hb39, fun ht => by have := hTl b39 ht; omega⟩
  have hs := hs.fr f1 (fun _ _ h => h)
  have hkb38 := hkb38.fr f1
  have hf := hf.trans f1
  clear f1
  clear hb39 hTl eb39
  have hTl := (fun k hk => hk.elim : ∀ k, (fun _ : Nat => False) k → k < w1.heap.size)
  refine env_box24 (d := 7) E rfl (by decide) rfl (wanted_none rfl _) rfl (E.get 5 rfl) fun a w1 b40 eb40 hb40 f1 E => ?_
  have hkb40 : Kw w1 (fun _ => False) b40 (ptC pt) 24 := ⟨hb40, fun ht => by have := hTl b40 ht; omega⟩
  have hs := hs.fr f1 (fun _ _ h => h)
  have hkb38 := hkb38.fr f1
  have hcb39 := hcb39.fr f1
  have hf := hf.trans f1
  clear f1
  clear hb40 hTl eb40
  refine env_put (d := 8) (v := .bool false) E rfl (by decide) rfl (wanted_none rfl _) (run_assign rfl rfl) fun a E => ?_
  refine wpList_nil ?_
  refine then_n ?_
  refine wp_seq ?_
  refine wp_region_lit ?_
  refine env_call (d := 18) (v := .bool true) E rfl (by decide) rfl (wanted_none rfl _) (run_call0 (enters_of Try.func9 (by kernel_rfl) rfl) rfl rfl) (head_calls _) fun a w1 f1 E => ?_
  have hs := hs.fr f1 (fun _ _ h => h)
  have hkb38 := hkb38.fr f1
  have hcb39 := hcb39.fr f1
  have hkb40 := hkb40.fr f1
  have hf := hf.trans f1
  clear f1
  refine env_put (d := 9) (v := .bool true) E rfl (by decide) rfl (wanted_none rfl _) (run_assign rfl (E.get 0 rfl)) fun a E => ?_
  refine wpList_nil ?_
  refine then_n ?_
  refine wp_seq ?_
  refine wp_seq ?_
  refine wp_region_lit ?_
  refine env_put (d := 19) (v := .slice (p) l.length cap) E rfl (by decide) rfl (wanted_none rfl _) (run_move rfl (E.get 6 rfl)) fun a E => ?_
  refine env_call (d := 20) (v := .bool (shB l 80)) E rfl (by decide) rfl (wanted_none rfl _) (run_call2 (enters_of Try.func10 (by kernel_rfl) rfl) rfl rfl (E.get 0 rfl) rfl) (short_calls hs hb 80) fun a w1 f1 E => ?_
  have hs := hs.fr f1 (fun _ _ h => h)
  have hkb38 := hkb38.fr f1
  have hcb39 := hcb39.fr f1
  have hkb40 := hkb40.fr f1
  have hf := hf.trans f1
  clear f1
  refine env_put (d := 21) (v := .bool (!(shB l 80))) E rfl (by decide) rfl (wanted_none rfl _) (run_not rfl (E.get 0 rfl)) fun a E => ?_
  refine env_put (d := 22) (v := .bool (!(shB l 80))) E rfl (by decide) rfl (wanted_none rfl _) (run_move rfl (E.get 0 rfl)) fun a E => ?_
  cases hq41 : (shB l 80) with
  | false =>
    rw [hq41] at E
    refine env_skip (d := 23) (g := 3) (s := 22) E rfl (by decide) rfl rfl rfl (by decide) (E.get 0 rfl) fun a E => ?_
    refine env_skip (d := 24) (g := 3) (s := 22) E rfl (by decide) rfl rfl rfl (by decide) (E.get 1 rfl) fun a E => ?_
    refine env_skip (d := 25) (g := 3) (s := 22) E rfl (by decide) rfl rfl rfl (by decide) (E.get 2 rfl) fun a E => ?_
    refine env_skip (d := 26) (g := 3) (s := 22) E rfl (by decide) rfl rfl rfl (by decide) (E.get 3 rfl) fun a E => ?_
    refine env_put (d := 27) (v := .bool true) E rfl (by decide) rfl (wanted_none rfl _) (run_pick_t rfl (E.get 4 rfl) rfl) fun a E => ?_
    refine wpList_nil ?_
    refine then_n ?_
    refine wp_cond_true (E.get 0 rfl) ?_
    refine wp_seq ?_
    refine wp_region_lit ?_
    refine env_put (d := 28) (v := .bool true) E rfl (by decide) rfl (wanted_none rfl _) (run_move rfl (E.get 9 rfl)) fun a E => ?_
    refine env_set (d := 8) (v := .bool true) E rfl (by decide) (wanted_none rfl _) (run_assign rfl (E.get 0 rfl)) fun a E => ?_
    refine wpList_nil ?_
    refine then_n ?_
    refine wp_ret ?_
    refine then_r ?_
    exact ret_tmp (t := 8) rfl E (E.get 0 rfl) ⟨rfl, hf⟩
  | true =>
    rw [hq41] at E
    have hlen := shB.len hq41
    have hN9 : l.length ≤ 100000 := by omega
    refine env_put (d := 23) (v := .agg (opC o)) E rfl (by decide) rfl (w_yes (g := 3) (s := 22) E rfl rfl (by decide) (E.get 0 rfl)) (run_ld35 rfl (E.get 9 rfl) (op_rng hkb38.1)) fun a E => ?_
    refine env_one22 (d := 24) E rfl (by decide) rfl (w_yes (g := 3) (s := 22) E rfl rfl (by decide) (E.get 1 rfl)) rfl (E.get 0 rfl) fun a w1 bo hso f1 E => ?_
    have hs := hs.fr f1 (fun _ _ h => h)
    have hkb38 := hkb38.fr f1
    have hcb39 := hcb39.fr f1
    have hkb40 := hkb40.fr f1
    have hf := hf.trans f1
    clear f1
    refine env_call (d := 25) (v := .bool (shB [o] 1)) E rfl (by decide) rfl (w_yes (g := 3) (s := 22) E rfl rfl (by decide) (E.get 2 rfl)) (run_call2 (enters_of Try.func10 (by kernel_rfl) rfl) rfl rfl (E.get 0 rfl) rfl) (short_calls (l := [o]) hso (by simp) 1) fun a w1 f1 E => ?_
    have hs := hs.fr f1 (fun _ _ h => h)
    have hkb38 := hkb38.fr f1
    have hcb39 := hcb39.fr f1
    have hkb40 := hkb40.fr f1
    have hf := hf.trans f1
    clear f1
    refine env_put (d := 26) (v := .bool (!(shB [o] 1))) E rfl (by decide) rfl (w_yes (g := 3) (s := 22) E rfl rfl (by decide) (E.get 3 rfl)) (run_not rfl (E.get 0 rfl)) fun a E => ?_
    refine env_put (d := 27) (v := .bool (!(shB [o] 1))) E rfl (by decide) rfl (wanted_none rfl _) (run_pick_f rfl (E.get 4 rfl) (E.get 0 rfl)) fun a E => ?_
    refine wpList_nil ?_
    refine then_n ?_
    cases hq42 : (shB [o] 1) with
    | false =>
      rw [hq42] at E
      refine wp_cond_true (E.get 0 rfl) ?_
      refine wp_seq ?_
      refine wp_region_lit ?_
      refine env_put (d := 28) (v := .bool true) E rfl (by decide) rfl (wanted_none rfl _) (run_move rfl (E.get 9 rfl)) fun a E => ?_
      refine env_set (d := 8) (v := .bool true) E rfl (by decide) (wanted_none rfl _) (run_assign rfl (E.get 0 rfl)) fun a E => ?_
      refine wpList_nil ?_
      refine then_n ?_
      refine wp_ret ?_
      refine then_r ?_
      exact ret_tmp (t := 8) rfl E (E.get 0 rfl) ⟨rfl, hf⟩
    | true =>
      rw [hq42] at E
      have hsz : o.2.1.size ≤ maxLen := by have := shB.id hq42 o (by simp); unfold maxLen; omega
      refine wp_cond_false (E.get 0 rfl) ?_
      refine wp_skip ?_
      refine then_n ?_
      refine wp_seq ?_
      refine wp_region_lit ?_
      refine env_put (d := 29) (v := .slice (p) l.length cap) E rfl (by decide) rfl (wanted_none rfl _) (run_move rfl (E.get 15 rfl)) fun a E => ?_
      have hz0 := hf.size
      refine env_callv (d := 30) (R := fun u w8 => ∃ q T, u = .pointer (some ⟨q, 0, none⟩) ∧ Ix w8 w1.heap.size q l.length T (mOf l) ∧ Fr (fun _ => False) w1 w8) E rfl (by decide) rfl (wanted_none rfl _) (run_call1 (enters_of Try.func23 (by kernel_rfl) rfl) rfl rfl (E.get 0 rfl)) ((built_calls (hs.mono hz0) hq41).mono fun e w8 ⟨q, T, h1, h2, h3⟩ => ⟨_, h1, q, T, rfl, h2, h3⟩) fun a wb1 u9 hR E => ?_
      obtain ⟨q, T, rfl, hX, f1⟩ := hR
      have ht : TT w1 (fun _ => False) T := fun k hk => .inr (hX.lt k hk).1
      have hs := hs.fr f1 (fun _ _ h => h)
      have hkb38 := hkb38.q (f1.mono fun _ _ h => h) ht
      have hcb39 := hcb39.q (f1.mono fun _ _ h => h) ht
      have hkb40 := hkb40.q (f1.mono fun _ _ h => h) ht
      have hf := hf.trans f1
      have hX := hX.base hz0
      clear f1 ht hz0
      have hmi : ∀ s c, mOf l s = some c → s.size ≤ maxLen := mOf_size hq41
      obtain ⟨m, hm⟩ : ∃ m, m = mOf l := ⟨_, rfl⟩
      rw [← hm] at hX hmi
      have hok := hX.ok
      refine env_put (d := 10) (v := .pointer (some ⟨q, 0, none⟩)) E rfl (by decide) rfl (wanted_none rfl _) (run_assign rfl (E.get 0 rfl)) fun a E => ?_
      refine wpList_nil ?_
      refine then_n ?_
      refine wp_seq ?_
      have fd := (Fr.refl (fun _ => False) wb1).drew
      refine wp_region_invx (G := Value × Value) (undef, undef) (n := 94) (base := [(10, .pointer (some ⟨q, 0, none⟩)), (30, .pointer (some ⟨q, 0, none⟩)), (29, .slice (p) l.length cap), (27, .bool false), (26, .bool false), (25, .bool true), (24, .slice (some ⟨bo, 0, none⟩) 1 1), (23, .agg (opC o)), (22, .bool false), (21, .bool false), (20, .bool true), (19, .slice (p) l.length cap), (9, .bool true), (18, .bool true), (8, .bool false), (7, .pointer (some ⟨b40, 0, none⟩)), (6, .pointer (some ⟨b39, 0, none⟩)), (5, .pointer (some ⟨b38, 0, none⟩)), (0, .slice (p) l.length cap), (1, .agg (opC o)), (2, .agg (bxC b)), (3, .agg (ptC pt))]) (U := []) (T := fun γ => [some (31, .pointer (some ⟨q, 0, none⟩)), some (32, .agg (bxC b)), some (33, γ.1), some (34, .pointer (some ⟨q, 0, none⟩)), some (35, .agg (ptC pt)), some (36, γ.2), some (11, γ.1), some (12, γ.2)]) (M := fun γ ls9 wm => Fr (fun _ => False) w wm ∧ srcAt opL 6 wm w.heap.size p l ∧ ∃ T5, Ix wm w.heap.size q l.length T5 m ∧ (Kw wm T5 b38 (opC o) 35) ∧ (Cw wm T5 b39 b) ∧ (Kw wm T5 b40 (ptC pt) 24) ∧ (ls9 2 = true → ∃ R, InS m b R ∧ Rw wm T5 γ.1 R) ∧ (ls9 5 = true → ∃ R, NearS m pt 100 R ∧ Rw wm T5 γ.2 R)) (by kernel_rfl) (by kernel_rfl) (fun _ => by kernel_rfl) (E.of ⟨E.get 0 rfl, E.get 1 rfl, E.get 2 rfl, E.get 3 rfl, E.get 4 rfl, E.get 5 rfl, E.get 6 rfl, E.get 7 rfl, E.get 8 rfl, E.get 9 rfl, E.get 10 rfl, E.get 11 rfl, E.get 12 rfl, E.get 13 rfl, E.get 14 rfl, E.get 15 rfl, E.get 16 rfl, E.get 17 rfl, E.get 18 rfl, E.get 19 rfl, E.get 20 rfl, E.get 21 rfl, trivial⟩) (fun x hx => by cases hx) ⟨hf.drew, hs.fr fd (fun _ _ h => h), T, hX.fr fd (fun _ _ h => h), hkb38.fr fd, hcb39.fr fd, hkb40.fr fd, fun e => absurd e Bool.false_ne_true, fun e => absurd e Bool.false_ne_true⟩ ?_ ?_
      · intro j9 o9 γ ls9 a w5 ho hl E D DL DL2 hB hM
        obtain ⟨m1, m2, T5, hX5, k0, k1, k2, r0, r1⟩ := hM
        match j9, ho, hl, D, DL, hB with
        | 0, ho, hl, D, DL, hB =>
          obtain rfl := Option.some.inj ho
          exact ⟨fun _ => valx rfl (run_move rfl (E.get 0 rfl)) rfl ⟨m1, m2, T5, hX5, k0, k1, k2, r0, r1⟩, fun h => by rw [wanted_none rfl] at h; cases h⟩
        | 1, ho, hl, D, DL, hB =>
          obtain rfl := Option.some.inj ho
          exact ⟨fun _ => valx rfl (run_ld26 rfl (E.get 16 rfl) (rng4 (p := b) k1.1 0 rfl rfl rfl rfl)) rfl ⟨m1, m2, T5, hX5, k0, k1, k2, r0, r1⟩, fun h => by rw [wanted_none rfl] at h; cases h⟩
        | 2, ho, hl, D, DL, hB =>
          obtain rfl := Option.some.inj ho
          refine ⟨fun _ => callxw (run_call2 (enters_of Try.func19 (by kernel_rfl) rfl) rfl rfl (D 0 _ rfl rfl) (D 1 _ rfl rfl)) (in_q hX5 hN9 b) rfl fun v9 w9 f9 => ?_, fun h => by rw [wanted_none rfl] at h; cases h⟩
          obtain ⟨R9, T9, hi9, ⟨hX9, f2, ht⟩, hr9⟩ := f9
          exact ⟨(v9, γ.2), rfl, (fun j hj => match j, hj with | 0, _ => rfl | 1, _ => rfl | 2, hj => absurd (hl.symm.trans hj) (by decide) | 3, _ => rfl | 4, _ => rfl | 5, _ => rfl | 6, hj => absurd (hl.symm.trans (DL2 6 2 rfl hj)) (by decide) | 7, _ => rfl | j9 + 8, _ => rfl), ⟨m1.trans' f2 (fun r hr e => by have := (hX5.lt r e).1; omega), m2.fr f2 (fun r hr e => by have := (hX5.lt r e).1; omega), T9, hX9, k0.q f2 ht, k1.q f2 ht, k2.q f2 ht, fun _ => ⟨R9, hi9, hr9⟩, fun h => (r1 h).elim fun R h => ⟨R, h.1, h.2.q f2 ht⟩⟩⟩
        | 3, ho, hl, D, DL, hB =>
          obtain rfl := Option.some.inj ho
          exact ⟨fun _ => valx rfl (run_move rfl (E.get 0 rfl)) rfl ⟨m1, m2, T5, hX5, k0, k1, k2, r0, r1⟩, fun h => by rw [wanted_none rfl] at h; cases h⟩
        | 4, ho, hl, D, DL, hB =>
          obtain rfl := Option.some.inj ho
          exact ⟨fun _ => valx rfl (run_ld24 rfl (E.get 15 rfl) (rng2 (p := pt) k2.1 0 rfl rfl)) rfl ⟨m1, m2, T5, hX5, k0, k1, k2, r0, r1⟩, fun h => by rw [wanted_none rfl] at h; cases h⟩
        | 5, ho, hl, D, DL, hB =>
          obtain rfl := Option.some.inj ho
          refine ⟨fun _ => callxw (run_call3 (enters_of Try.func21 (by kernel_rfl) rfl) rfl rfl (D 3 _ rfl rfl) (D 4 _ rfl rfl) rfl) (near_q hX5 hN9 pt 100) rfl fun v9 w9 f9 => ?_, fun h => by rw [wanted_none rfl] at h; cases h⟩
          obtain ⟨R9, T9, hi9, ⟨hX9, f2, ht⟩, hr9⟩ := f9
          exact ⟨(γ.1, v9), rfl, (fun j hj => match j, hj with | 0, _ => rfl | 1, _ => rfl | 2, _ => rfl | 3, _ => rfl | 4, _ => rfl | 5, hj => absurd (hl.symm.trans hj) (by decide) | 6, _ => rfl | 7, hj => absurd (hl.symm.trans (DL2 7 5 rfl hj)) (by decide) | j9 + 8, _ => rfl), ⟨m1.trans' f2 (fun r hr e => by have := (hX5.lt r e).1; omega), m2.fr f2 (fun r hr e => by have := (hX5.lt r e).1; omega), T9, hX9, k0.q f2 ht, k1.q f2 ht, k2.q f2 ht, fun h => (r0 h).elim fun R h => ⟨R, h.1, h.2.q f2 ht⟩, fun _ => ⟨R9, hi9, hr9⟩⟩⟩
        | 6, ho, hl, D, DL, hB =>
          obtain rfl := Option.some.inj ho
          exact ⟨fun _ => valx rfl (run_assign rfl (D 2 _ rfl rfl)) rfl ⟨m1, m2, T5, hX5, k0, k1, k2, r0, r1⟩, fun h => by rw [wanted_none rfl] at h; cases h⟩
        | 7, ho, hl, D, DL, hB =>
          obtain rfl := Option.some.inj ho
          exact ⟨fun _ => valx rfl (run_assign rfl (D 5 _ rfl rfl)) rfl ⟨m1, m2, T5, hX5, k0, k1, k2, r0, r1⟩, fun h => by rw [wanted_none rfl] at h; cases h⟩
        | j9 + 8, ho, hl, D, DL, hB => exact absurd ho (by simp)
      · rintro ⟨γa, γb⟩ a w9 E V hM
        have E := E.add (v := γa) (V 6 _ rfl)
        have E := E.add (v := γb) (V 7 _ rfl)
        clear V
        obtain ⟨m1, m2, T5, hX5, gk0, gk1, gk2, r0, r1⟩ := hM
        have hf := m1
        have hs := m2
        have hX := hX5
        have hkb38 := gk0
        have hcb39 := gk1
        have hkb40 := gk2
        obtain ⟨Ra, hiRa, hra⟩ := r0 rfl
        obtain ⟨pra, cra, hva, _, hla⟩ := hra.src
        subst hva
        obtain ⟨Rb, hiRb, hrb⟩ := r1 rfl
        obtain ⟨prb, crb, hvb, _, hlb⟩ := hrb.src
        subst hvb
        clear hX5 m1 m2 fd gk0 gk1 gk2
        refine then_n ?_
        refine wp_seq ?_
        cases hmo : m o.2.1 with
        | none =>
          refine wp_region_lit ?_
          refine env_put (d := 38) (v := .pointer (some ⟨q, 0, none⟩)) E rfl (by decide) rfl (wanted_none rfl _) (run_move rfl (E.get 2 rfl)) fun a E => ?_
          refine env_put (d := 39) (v := .pointer (some ⟨b38, 1, none⟩)) E rfl (by decide) rfl (wanted_none rfl _) (fa35_1 rfl (E.get 20 rfl)) fun a E => ?_
          refine env_put (d := 40) (v := .string o.2.1) E rfl (by decide) rfl (wanted_none rfl _) (run_lds rfl (E.get 0 rfl) (bx hkb38.1 1 rfl)) fun a E => ?_
          refine env_call (d := 41) (v := .tuple #[.agg (bxC ((0, 0), (0, 0))), .bool false]) E rfl (by decide) rfl (wanted_none rfl _) (run_call2 (enters_of Try.func16 (by kernel_rfl) rfl) rfl rfl (E.get 2 rfl) (E.get 0 rfl)) ((ix_box hX o.2.1 hsz).mono fun e w8 h => ⟨h.1.trans (by rw [hmo]; rfl), h.2⟩) fun a w1 f1 E => ?_
          have hs := hs.fr f1 (fun _ _ h => h)
          have hkb38 := hkb38.fr f1
          have hcb39 := hcb39.fr f1
          have hkb40 := hkb40.fr f1
          have hX := Ix.fr hX f1 (fun _ _ h => h)
          have hra := hra.fr f1
          have hrb := hrb.fr f1
          have hf := hf.trans f1
          clear f1
          refine env_put (d := 37) (v := .tuple #[.agg (bxC ((0, 0), (0, 0))), .bool false]) E rfl (by decide) rfl (wanted_none rfl _) (run_move rfl (E.get 0 rfl)) fun a E => ?_
          refine env_put (d := 42) (v := .agg (bxC ((0, 0), (0, 0)))) E rfl (by decide) rfl (wanted_none rfl _) (run_ext0 rfl (E.get 0 rfl)) fun a E => ?_
          refine env_put (d := 43) (v := .bool false) E rfl (by decide) rfl (wanted_none rfl _) (run_ext1 rfl (E.get 1 rfl)) fun a E => ?_
          have hTl := (fun k hk => (hX.lt k hk).2 : ∀ k, T5 k → k < w1.heap.size)
          refine env_alloc26 (d := 13) E rfl (by decide) rfl (wanted_none rfl _) rfl fun a w1 b43 eb43 hb43 f1 E => ?_
          refine env_st26 E rfl (wanted_none rfl _) rfl (E.get 0 rfl) (E.get 2 rfl) hb43 fun w1 hb43 f2 E => ?_
          have f1 := f1.trans' f2 (fun r hr e => by omega)
          clear f2
          have hcb43 : Cw w1 T5 b43 ((0, 0), (0, 0)) := ⟨hb43, fun ht => by have := hTl b43 ht; omega⟩
          have hs := hs.fr f1 (fun _ _ h => h)
          have hkb38 := hkb38.fr f1
          have hcb39 := hcb39.fr f1
          have hkb40 := hkb40.fr f1
          have hX := Ix.fr hX f1 (fun _ _ h => h)
          have hra := hra.fr f1
          have hrb := hrb.fr f1
          have hf := hf.trans f1
          clear f1
          clear hb43 hTl eb43
          refine env_put (d := 14) (v := .bool false) E rfl (by decide) rfl (wanted_none rfl _) (run_assign rfl (E.get 1 rfl)) fun a E => ?_
          refine wpList_nil ?_
          refine then_n ?_
          refine wp_seq ?_
          cases ho : o.1 with
          | false =>
            cases hq9 : decide (okB o.2.2) with
            | false =>
              have hk9 := of_decide_eq_false hq9
              have hde : doE m o = 1 := by unfold doE putE; rw [ho, if_neg hk9]; rfl
              have hdm : doM m o = m := by unfold doM; rw [ho, if_neg (by decide)]; unfold putM; rw [if_neg (fun h => hk9 h.1)]
              refine wp_region_lit ?_
              refine env_put (d := 44) (v := .pointer (some ⟨q, 0, none⟩)) E rfl (by decide) rfl (wanted_none rfl _) (run_move rfl (E.get 11 rfl)) fun a E => ?_
              refine env_put (d := 45) (v := .agg (opC o)) E rfl (by decide) rfl (wanted_none rfl _) (run_ld35 rfl (E.get 29 rfl) (op_rng hkb38.1)) fun a E => ?_
              refine env_call (d := 46) (v := .int .i64 1) (F := fun w8 => IxW w1 w.heap.size q (l.length + 1) T5 (doM m o) w8) E rfl (by decide) rfl (wanted_none rfl _) (run_call2 (enters_of Try.func15 (by kernel_rfl) rfl) rfl rfl (E.get 1 rfl) (E.get 0 rfl)) ((do_calls hX hN9 o hsz).mono fun e w8 h => ⟨h.1.trans (by rw [hde]), h.2⟩) fun a ww44 hW E => ?_
              obtain ⟨hX2, f2⟩ := hW
              have ht := TT.refl w1 T5
              have hkb38 := hkb38.q f2 ht
              have hcb39 := hcb39.q f2 ht
              have hkb40 := hkb40.q f2 ht
              have hra := hra.q f2 ht
              have hrb := hrb.q f2 ht
              have hcb43 := hcb43.q f2 ht
              have hs := hs.fr f2 (fun r hr e => by have := (hX.lt r e).1; omega)
              have hf := hf.trans' f2 (fun r hr e => by have := (hX.lt r e).1; omega)
              have hX := hX2
              clear hX2 f2 ht
              rw [hdm] at hX
              refine env_put (d := 15) (v := .int .i64 1) E rfl (by decide) rfl (wanted_none rfl _) (run_assign rfl (E.get 0 rfl)) fun a E => ?_
              refine wpList_nil ?_
              refine then_n ?_
              refine wp_seq ?_
              refine wp_seq ?_
              refine wp_region_lit ?_
              refine env_put (d := 47) (v := .int .i64 1) E rfl (by decide) rfl (wanted_none rfl _) (run_move rfl (E.get 0 rfl)) fun a E => ?_
              refine env_put (d := 48) (v := .bool false) E rfl (by decide) rfl (wanted_none rfl _) (run_ieql (m := 1) (n := 0) (E.get 0 rfl) rfl Try.underlying33 rfl) fun a E => ?_
              refine env_put (d := 49) (v := .bool false) E rfl (by decide) rfl (wanted_none rfl _) (run_move rfl (E.get 0 rfl)) fun a E => ?_
              refine env_skip (d := 50) (g := 2) (s := 49) E rfl (by decide) rfl rfl rfl (by decide) (E.get 0 rfl) fun a E => ?_
              refine env_skip (d := 51) (g := 2) (s := 49) E rfl (by decide) rfl rfl rfl (by decide) (E.get 1 rfl) fun a E => ?_
              refine env_skip (d := 52) (g := 2) (s := 49) E rfl (by decide) rfl rfl rfl (by decide) (E.get 2 rfl) fun a E => ?_
              refine env_put (d := 53) (v := .bool false) E rfl (by decide) rfl (wanted_none rfl _) (run_pick_f rfl (E.get 3 rfl) rfl) fun a E => ?_
              refine wpList_nil ?_
              refine then_n ?_
              refine wp_cond_false (E.get 0 rfl) ?_
              refine wp_skip ?_
              refine then_n ?_
              refine wp_seq ?_
              refine wp_seq ?_
              refine wp_region_lit ?_
              refine env_put (d := 62) (v := .int .i64 1) E rfl (by decide) rfl (wanted_none rfl _) (run_move rfl (E.get 7 rfl)) fun a E => ?_
              refine env_put (d := 63) (v := .bool false) E rfl (by decide) rfl (wanted_none rfl _) (run_ieql (m := 1) (n := 0) (E.get 0 rfl) rfl Try.underlying33 rfl) fun a E => ?_
              refine wpList_nil ?_
              refine then_n ?_
              refine wp_cond_false (E.get 0 rfl) ?_
              refine wp_skip ?_
              refine then_n ?_
              refine wp_seq ?_
              refine wp_region_lit ?_
              refine env_put (d := 79) (v := .bool true) E rfl (by decide) rfl (wanted_none rfl _) (run_move rfl (E.get 36 rfl)) fun a E => ?_
              refine env_put (d := 80) (v := .bool true) E rfl (by decide) rfl (wanted_none rfl _) (run_move rfl (E.get 0 rfl)) fun a E => ?_
              refine env_put (d := 81) (v := .pointer (some ⟨q, 0, none⟩)) E rfl (by decide) rfl (w_yes (g := 1) (s := 80) E rfl rfl (by decide) (E.get 0 rfl)) (run_move rfl (E.get 26 rfl)) fun a E => ?_
              refine env_put (d := 82) (v := .agg (bxC b)) E rfl (by decide) rfl (w_yes (g := 1) (s := 80) E rfl rfl (by decide) (E.get 1 rfl)) (run_ld26 rfl (E.get 43 rfl) (rng4 (p := b) hcb39.1 0 rfl rfl rfl rfl)) fun a E => ?_
              refine env_callv (d := 83) (R := fun u w8 => ∃ R T9, InS m b R ∧ IxS ww44 w.heap.size q (l.length + 1) T5 m T9 w8 ∧ Rw w8 T9 u R) E rfl (by decide) rfl (w_yes (g := 1) (s := 80) E rfl rfl (by decide) (E.get 2 rfl)) (run_call2 (enters_of Try.func19 (by kernel_rfl) rfl) rfl rfl (E.get 1 rfl) (E.get 0 rfl)) (in_q hX (by omega) b) fun a w1 v45 hR E => ?_
              obtain ⟨R45, T45, hiR45, ⟨hX2, f2, ht⟩, hr45⟩ := hR
              have hkb38 := hkb38.q f2 ht
              have hcb39 := hcb39.q f2 ht
              have hkb40 := hkb40.q f2 ht
              have hra := hra.q f2 ht
              have hrb := hrb.q f2 ht
              have hcb43 := hcb43.q f2 ht
              have hs := hs.fr f2 (fun r hr e => by have := (hX.lt r e).1; omega)
              have hf := hf.trans' f2 (fun r hr e => by have := (hX.lt r e).1; omega)
              have hX := hX2
              clear hX2 f2 ht
              obtain ⟨pr45, cr45, hv45, _, hl45⟩ := hr45.src
              subst hv45
              have heR45 : decide (R45 = Ra) = true := decide_eq_true (hiR45.uniq hiRa)
              refine env_put (d := 84) (v := .slice (pra) Ra.length cra) E rfl (by decide) rfl (w_yes (g := 1) (s := 80) E rfl rfl (by decide) (E.get 3 rfl)) (run_move rfl (E.get 28 rfl)) fun a E => ?_
              refine env_call (d := 85) (v := .bool true) E rfl (by decide) rfl (w_yes (g := 1) (s := 80) E rfl rfl (by decide) (E.get 4 rfl)) (run_call2 (enters_of Try.func18 (by kernel_rfl) rfl) rfl rfl (E.get 1 rfl) (E.get 0 rfl)) ((same_rw hr45 hra).mono fun e w h => ⟨h.1.trans (by rw [heR45]), h.2⟩) fun a w1 f1 E => ?_
              have hs := hs.fr f1 (fun _ _ h => h)
              have hkb38 := hkb38.fr f1
              have hcb39 := hcb39.fr f1
              have hkb40 := hkb40.fr f1
              have hX := Ix.fr hX f1 (fun _ _ h => h)
              have hra := hra.fr f1
              have hrb := hrb.fr f1
              have hcb43 := hcb43.fr f1
              have hr45 := hr45.fr f1
              have hf := hf.trans f1
              clear f1
              refine env_put (d := 86) (v := .bool true) E rfl (by decide) rfl (wanted_none rfl _) (run_pick_t rfl (E.get 5 rfl) (E.get 0 rfl)) fun a E => ?_
              refine env_put (d := 87) (v := .bool true) E rfl (by decide) rfl (wanted_none rfl _) (run_move rfl (E.get 0 rfl)) fun a E => ?_
              refine env_put (d := 88) (v := .pointer (some ⟨q, 0, none⟩)) E rfl (by decide) rfl (w_yes (g := 8) (s := 87) E rfl rfl (by decide) (E.get 0 rfl)) (run_move rfl (E.get 33 rfl)) fun a E => ?_
              refine env_put (d := 89) (v := .agg (ptC pt)) E rfl (by decide) rfl (w_yes (g := 8) (s := 87) E rfl rfl (by decide) (E.get 1 rfl)) (run_ld24 rfl (E.get 49 rfl) (rng2 (p := pt) hkb40.1 0 rfl rfl)) fun a E => ?_
              refine env_callv (d := 90) (R := fun u w8 => ∃ R T9, NearS m pt 100 R ∧ IxS w1 w.heap.size q (l.length + 1) T45 m T9 w8 ∧ Rw w8 T9 u R) E rfl (by decide) rfl (w_yes (g := 8) (s := 87) E rfl rfl (by decide) (E.get 2 rfl)) (run_call3 (enters_of Try.func21 (by kernel_rfl) rfl) rfl rfl (E.get 1 rfl) (E.get 0 rfl) rfl) (near_q hX (by omega) pt 100) fun a w1 v46 hR E => ?_
              obtain ⟨R46, T46, hiR46, ⟨hX2, f2, ht⟩, hr46⟩ := hR
              have hkb38 := hkb38.q f2 ht
              have hcb39 := hcb39.q f2 ht
              have hkb40 := hkb40.q f2 ht
              have hra := hra.q f2 ht
              have hrb := hrb.q f2 ht
              have hcb43 := hcb43.q f2 ht
              have hr45 := hr45.q f2 ht
              have hs := hs.fr f2 (fun r hr e => by have := (hX.lt r e).1; omega)
              have hf := hf.trans' f2 (fun r hr e => by have := (hX.lt r e).1; omega)
              have hX := hX2
              clear hX2 f2 ht
              obtain ⟨pr46, cr46, hv46, _, hl46⟩ := hr46.src
              subst hv46
              have heR46 : decide (R46 = Rb) = true := decide_eq_true (hiR46.uniq hiRb)
              refine env_put (d := 91) (v := .slice (prb) Rb.length crb) E rfl (by decide) rfl (w_yes (g := 8) (s := 87) E rfl rfl (by decide) (E.get 3 rfl)) (run_move rfl (E.get 34 rfl)) fun a E => ?_
              refine env_call (d := 92) (v := .bool true) E rfl (by decide) rfl (w_yes (g := 8) (s := 87) E rfl rfl (by decide) (E.get 4 rfl)) (run_call2 (enters_of Try.func18 (by kernel_rfl) rfl) rfl rfl (E.get 1 rfl) (E.get 0 rfl)) ((same_rw hr46 hrb).mono fun e w h => ⟨h.1.trans (by rw [heR46]), h.2⟩) fun a w1 f1 E => ?_
              have hs := hs.fr f1 (fun _ _ h => h)
              have hkb38 := hkb38.fr f1
              have hcb39 := hcb39.fr f1
              have hkb40 := hkb40.fr f1
              have hX := Ix.fr hX f1 (fun _ _ h => h)
              have hra := hra.fr f1
              have hrb := hrb.fr f1
              have hcb43 := hcb43.fr f1
              have hr45 := hr45.fr f1
              have hr46 := hr46.fr f1
              have hf := hf.trans f1
              clear f1
              refine env_put (d := 93) (v := .bool true) E rfl (by decide) rfl (wanted_none rfl _) (run_pick_t rfl (E.get 5 rfl) (E.get 0 rfl)) fun a E => ?_
              refine env_set (d := 8) (v := .bool true) E rfl (by decide) (wanted_none rfl _) (run_assign rfl (E.get 0 rfl)) fun a E => ?_
              refine wpList_nil ?_
              refine then_n ?_
              refine wp_ret ?_
              exact ret_tmp (t := 8) rfl E (E.get 0 rfl) ⟨rfl, hf⟩
            | true =>
              have hk9 := of_decide_eq_true hq9
              have hde : doE m o = 0 := by unfold doE putE; rw [ho, if_pos hk9, hmo]; rfl
              have hdm : doM m o = updB m o.2.1 o.2.2 := by unfold doM; rw [ho, if_neg (by decide)]; unfold putM; rw [if_pos ⟨hk9, by rw [hmo]; rfl⟩]
              refine wp_region_lit ?_
              refine env_put (d := 44) (v := .pointer (some ⟨q, 0, none⟩)) E rfl (by decide) rfl (wanted_none rfl _) (run_move rfl (E.get 11 rfl)) fun a E => ?_
              refine env_put (d := 45) (v := .agg (opC o)) E rfl (by decide) rfl (wanted_none rfl _) (run_ld35 rfl (E.get 29 rfl) (op_rng hkb38.1)) fun a E => ?_
              refine env_call (d := 46) (v := .int .i64 0) (F := fun w8 => IxW w1 w.heap.size q (l.length + 1) T5 (doM m o) w8) E rfl (by decide) rfl (wanted_none rfl _) (run_call2 (enters_of Try.func15 (by kernel_rfl) rfl) rfl rfl (E.get 1 rfl) (E.get 0 rfl)) ((do_calls hX hN9 o hsz).mono fun e w8 h => ⟨h.1.trans (by rw [hde]), h.2⟩) fun a ww47 hW E => ?_
              obtain ⟨hX2, f2⟩ := hW
              have ht := TT.refl w1 T5
              have hkb38 := hkb38.q f2 ht
              have hcb39 := hcb39.q f2 ht
              have hkb40 := hkb40.q f2 ht
              have hra := hra.q f2 ht
              have hrb := hrb.q f2 ht
              have hcb43 := hcb43.q f2 ht
              have hs := hs.fr f2 (fun r hr e => by have := (hX.lt r e).1; omega)
              have hf := hf.trans' f2 (fun r hr e => by have := (hX.lt r e).1; omega)
              have hX := hX2
              clear hX2 f2 ht
              rw [hdm] at hX
              refine env_put (d := 15) (v := .int .i64 0) E rfl (by decide) rfl (wanted_none rfl _) (run_assign rfl (E.get 0 rfl)) fun a E => ?_
              refine wpList_nil ?_
              refine then_n ?_
              refine wp_seq ?_
              refine wp_seq ?_
              refine wp_region_lit ?_
              refine env_put (d := 47) (v := .int .i64 0) E rfl (by decide) rfl (wanted_none rfl _) (run_move rfl (E.get 0 rfl)) fun a E => ?_
              refine env_put (d := 48) (v := .bool true) E rfl (by decide) rfl (wanted_none rfl _) (run_ieql (m := 0) (n := 0) (E.get 0 rfl) rfl Try.underlying33 rfl) fun a E => ?_
              refine env_put (d := 49) (v := .bool true) E rfl (by decide) rfl (wanted_none rfl _) (run_move rfl (E.get 0 rfl)) fun a E => ?_
              refine env_put (d := 50) (v := .pointer (some ⟨b38, 0, none⟩)) E rfl (by decide) rfl (w_yes (g := 2) (s := 49) E rfl rfl (by decide) (E.get 0 rfl)) (fa35_0 rfl (E.get 35 rfl)) fun a E => ?_
              refine env_put (d := 51) (v := .bool false) E rfl (by decide) rfl (w_yes (g := 2) (s := 49) E rfl rfl (by decide) (E.get 1 rfl)) ((run_ldb rfl (E.get 0 rfl) (bx hkb38.1 0 rfl)).trans (by rw [ho] <;> rfl)) fun a E => ?_
              refine env_put (d := 52) (v := .bool true) E rfl (by decide) rfl (w_yes (g := 2) (s := 49) E rfl rfl (by decide) (E.get 2 rfl)) (run_not rfl (E.get 0 rfl)) fun a E => ?_
              refine env_put (d := 53) (v := .bool true) E rfl (by decide) rfl (wanted_none rfl _) (run_pick_t rfl (E.get 3 rfl) (E.get 0 rfl)) fun a E => ?_
              refine wpList_nil ?_
              refine then_n ?_
              refine wp_cond_true (E.get 0 rfl) ?_
              refine wp_seq ?_
              refine wp_seq ?_
              refine wp_region_lit ?_
              refine env_put (d := 54) (v := .bool false) E rfl (by decide) rfl (wanted_none rfl _) (run_move rfl (E.get 11 rfl)) fun a E => ?_
              refine env_put (d := 55) (v := .bool false) E rfl (by decide) rfl (wanted_none rfl _) (run_move rfl (E.get 0 rfl)) fun a E => ?_
              refine env_put (d := 56) (v := .pointer (some ⟨q, 0, none⟩)) E rfl (by decide) rfl (w_yes (g := 1) (s := 55) E rfl rfl (by decide) (E.get 0 rfl)) (run_move rfl (E.get 24 rfl)) fun a E => ?_
              refine env_put (d := 57) (v := .pointer (some ⟨b38, 1, none⟩)) E rfl (by decide) rfl (w_yes (g := 1) (s := 55) E rfl rfl (by decide) (E.get 1 rfl)) (fa35_1 rfl (E.get 42 rfl)) fun a E => ?_
              refine env_put (d := 58) (v := .string o.2.1) E rfl (by decide) rfl (w_yes (g := 1) (s := 55) E rfl rfl (by decide) (E.get 2 rfl)) (run_lds rfl (E.get 0 rfl) (bx hkb38.1 1 rfl)) fun a E => ?_
              have hde2 : dropE (updB m o.2.1 o.2.2) o.2.1 = 0 := by unfold dropE updB; rw [if_pos rfl]; rfl
              refine env_call (d := 59) (v := .int .i64 0) (F := fun w8 => IxW ww47 w.heap.size q (l.length + 1) T5 (delB (updB m o.2.1 o.2.2) o.2.1) w8) E rfl (by decide) rfl (w_yes (g := 1) (s := 55) E rfl rfl (by decide) (E.get 3 rfl)) (run_call2 (enters_of Try.func30 (by kernel_rfl) rfl) rfl rfl (E.get 2 rfl) (E.get 0 rfl)) ((ix_drop hX o.2.1 hsz).mono fun e w8 h => ⟨h.1.trans (by rw [hde2]), h.2⟩) fun a ww48 hW E => ?_
              obtain ⟨hX2, f2⟩ := hW
              have ht := TT.refl ww47 T5
              have hkb38 := hkb38.q f2 ht
              have hcb39 := hcb39.q f2 ht
              have hkb40 := hkb40.q f2 ht
              have hra := hra.q f2 ht
              have hrb := hrb.q f2 ht
              have hcb43 := hcb43.q f2 ht
              have hs := hs.fr f2 (fun r hr e => by have := (hX.lt r e).1; omega)
              have hf := hf.trans' f2 (fun r hr e => by have := (hX.lt r e).1; omega)
              have hX := hX2
              clear hX2 f2 ht
              rw [del_upd hmo] at hX
              refine env_put (d := 60) (v := .bool false) E rfl (by decide) rfl (w_yes (g := 1) (s := 55) E rfl rfl (by decide) (E.get 4 rfl)) (run_ineq (m := 0) (n := 0) (E.get 0 rfl) rfl Try.underlying33 rfl) fun a E => ?_
              refine env_put (d := 61) (v := .bool false) E rfl (by decide) rfl (wanted_none rfl _) (run_pick_f rfl (E.get 5 rfl) (E.get 0 rfl)) fun a E => ?_
              refine wpList_nil ?_
              refine then_n ?_
              refine wp_cond_false (E.get 0 rfl) ?_
              refine wp_skip ?_
              refine then_n ?_
              refine wp_region_lit ?_
              refine env_set (d := 15) (v := .int .i64 11) E rfl (by decide) (wanted_none rfl _) (run_assign rfl rfl) fun a E => ?_
              refine wpList_nil ?_
              refine then_n ?_
              refine wp_seq ?_
              refine wp_seq ?_
              refine wp_region_lit ?_
              refine env_put (d := 62) (v := .int .i64 11) E rfl (by decide) rfl (wanted_none rfl _) (run_move rfl (E.get 0 rfl)) fun a E => ?_
              refine env_put (d := 63) (v := .bool false) E rfl (by decide) rfl (wanted_none rfl _) (run_ieql (m := 11) (n := 0) (E.get 0 rfl) rfl Try.underlying33 rfl) fun a E => ?_
              refine wpList_nil ?_
              refine then_n ?_
              refine wp_cond_false (E.get 0 rfl) ?_
              refine wp_skip ?_
              refine then_n ?_
              refine wp_seq ?_
              refine wp_region_lit ?_
              refine env_put (d := 79) (v := .bool true) E rfl (by decide) rfl (wanted_none rfl _) (run_move rfl (E.get 44 rfl)) fun a E => ?_
              refine env_put (d := 80) (v := .bool true) E rfl (by decide) rfl (wanted_none rfl _) (run_move rfl (E.get 0 rfl)) fun a E => ?_
              refine env_put (d := 81) (v := .pointer (some ⟨q, 0, none⟩)) E rfl (by decide) rfl (w_yes (g := 1) (s := 80) E rfl rfl (by decide) (E.get 0 rfl)) (run_move rfl (E.get 34 rfl)) fun a E => ?_
              refine env_put (d := 82) (v := .agg (bxC b)) E rfl (by decide) rfl (w_yes (g := 1) (s := 80) E rfl rfl (by decide) (E.get 1 rfl)) (run_ld26 rfl (E.get 51 rfl) (rng4 (p := b) hcb39.1 0 rfl rfl rfl rfl)) fun a E => ?_
              refine env_callv (d := 83) (R := fun u w8 => ∃ R T9, InS m b R ∧ IxS ww48 w.heap.size q (l.length + 1) T5 m T9 w8 ∧ Rw w8 T9 u R) E rfl (by decide) rfl (w_yes (g := 1) (s := 80) E rfl rfl (by decide) (E.get 2 rfl)) (run_call2 (enters_of Try.func19 (by kernel_rfl) rfl) rfl rfl (E.get 1 rfl) (E.get 0 rfl)) (in_q hX (by omega) b) fun a w1 v49 hR E => ?_
              obtain ⟨R49, T49, hiR49, ⟨hX2, f2, ht⟩, hr49⟩ := hR
              have hkb38 := hkb38.q f2 ht
              have hcb39 := hcb39.q f2 ht
              have hkb40 := hkb40.q f2 ht
              have hra := hra.q f2 ht
              have hrb := hrb.q f2 ht
              have hcb43 := hcb43.q f2 ht
              have hs := hs.fr f2 (fun r hr e => by have := (hX.lt r e).1; omega)
              have hf := hf.trans' f2 (fun r hr e => by have := (hX.lt r e).1; omega)
              have hX := hX2
              clear hX2 f2 ht
              obtain ⟨pr49, cr49, hv49, _, hl49⟩ := hr49.src
              subst hv49
              have heR49 : decide (R49 = Ra) = true := decide_eq_true (hiR49.uniq hiRa)
              refine env_put (d := 84) (v := .slice (pra) Ra.length cra) E rfl (by decide) rfl (w_yes (g := 1) (s := 80) E rfl rfl (by decide) (E.get 3 rfl)) (run_move rfl (E.get 36 rfl)) fun a E => ?_
              refine env_call (d := 85) (v := .bool true) E rfl (by decide) rfl (w_yes (g := 1) (s := 80) E rfl rfl (by decide) (E.get 4 rfl)) (run_call2 (enters_of Try.func18 (by kernel_rfl) rfl) rfl rfl (E.get 1 rfl) (E.get 0 rfl)) ((same_rw hr49 hra).mono fun e w h => ⟨h.1.trans (by rw [heR49]), h.2⟩) fun a w1 f1 E => ?_
              have hs := hs.fr f1 (fun _ _ h => h)
              have hkb38 := hkb38.fr f1
              have hcb39 := hcb39.fr f1
              have hkb40 := hkb40.fr f1
              have hX := Ix.fr hX f1 (fun _ _ h => h)
              have hra := hra.fr f1
              have hrb := hrb.fr f1
              have hcb43 := hcb43.fr f1
              have hr49 := hr49.fr f1
              have hf := hf.trans f1
              clear f1
              refine env_put (d := 86) (v := .bool true) E rfl (by decide) rfl (wanted_none rfl _) (run_pick_t rfl (E.get 5 rfl) (E.get 0 rfl)) fun a E => ?_
              refine env_put (d := 87) (v := .bool true) E rfl (by decide) rfl (wanted_none rfl _) (run_move rfl (E.get 0 rfl)) fun a E => ?_
              refine env_put (d := 88) (v := .pointer (some ⟨q, 0, none⟩)) E rfl (by decide) rfl (w_yes (g := 8) (s := 87) E rfl rfl (by decide) (E.get 0 rfl)) (run_move rfl (E.get 41 rfl)) fun a E => ?_
              refine env_put (d := 89) (v := .agg (ptC pt)) E rfl (by decide) rfl (w_yes (g := 8) (s := 87) E rfl rfl (by decide) (E.get 1 rfl)) (run_ld24 rfl (E.get 57 rfl) (rng2 (p := pt) hkb40.1 0 rfl rfl)) fun a E => ?_
              refine env_callv (d := 90) (R := fun u w8 => ∃ R T9, NearS m pt 100 R ∧ IxS w1 w.heap.size q (l.length + 1) T49 m T9 w8 ∧ Rw w8 T9 u R) E rfl (by decide) rfl (w_yes (g := 8) (s := 87) E rfl rfl (by decide) (E.get 2 rfl)) (run_call3 (enters_of Try.func21 (by kernel_rfl) rfl) rfl rfl (E.get 1 rfl) (E.get 0 rfl) rfl) (near_q hX (by omega) pt 100) fun a w1 v50 hR E => ?_
              obtain ⟨R50, T50, hiR50, ⟨hX2, f2, ht⟩, hr50⟩ := hR
              have hkb38 := hkb38.q f2 ht
              have hcb39 := hcb39.q f2 ht
              have hkb40 := hkb40.q f2 ht
              have hra := hra.q f2 ht
              have hrb := hrb.q f2 ht
              have hcb43 := hcb43.q f2 ht
              have hr49 := hr49.q f2 ht
              have hs := hs.fr f2 (fun r hr e => by have := (hX.lt r e).1; omega)
              have hf := hf.trans' f2 (fun r hr e => by have := (hX.lt r e).1; omega)
              have hX := hX2
              clear hX2 f2 ht
              obtain ⟨pr50, cr50, hv50, _, hl50⟩ := hr50.src
              subst hv50
              have heR50 : decide (R50 = Rb) = true := decide_eq_true (hiR50.uniq hiRb)
              refine env_put (d := 91) (v := .slice (prb) Rb.length crb) E rfl (by decide) rfl (w_yes (g := 8) (s := 87) E rfl rfl (by decide) (E.get 3 rfl)) (run_move rfl (E.get 42 rfl)) fun a E => ?_
              refine env_call (d := 92) (v := .bool true) E rfl (by decide) rfl (w_yes (g := 8) (s := 87) E rfl rfl (by decide) (E.get 4 rfl)) (run_call2 (enters_of Try.func18 (by kernel_rfl) rfl) rfl rfl (E.get 1 rfl) (E.get 0 rfl)) ((same_rw hr50 hrb).mono fun e w h => ⟨h.1.trans (by rw [heR50]), h.2⟩) fun a w1 f1 E => ?_
              have hs := hs.fr f1 (fun _ _ h => h)
              have hkb38 := hkb38.fr f1
              have hcb39 := hcb39.fr f1
              have hkb40 := hkb40.fr f1
              have hX := Ix.fr hX f1 (fun _ _ h => h)
              have hra := hra.fr f1
              have hrb := hrb.fr f1
              have hcb43 := hcb43.fr f1
              have hr49 := hr49.fr f1
              have hr50 := hr50.fr f1
              have hf := hf.trans f1
              clear f1
              refine env_put (d := 93) (v := .bool true) E rfl (by decide) rfl (wanted_none rfl _) (run_pick_t rfl (E.get 5 rfl) (E.get 0 rfl)) fun a E => ?_
              refine env_set (d := 8) (v := .bool true) E rfl (by decide) (wanted_none rfl _) (run_assign rfl (E.get 0 rfl)) fun a E => ?_
              refine wpList_nil ?_
              refine then_n ?_
              refine wp_ret ?_
              exact ret_tmp (t := 8) rfl E (E.get 0 rfl) ⟨rfl, hf⟩
          | true =>
            have hde : doE m o = 11 := by unfold doE dropE; rw [ho, hmo]; rfl
            have hdm : doM m o = m := by unfold doM; rw [ho]; exact delB_none hmo
            refine wp_region_lit ?_
            refine env_put (d := 44) (v := .pointer (some ⟨q, 0, none⟩)) E rfl (by decide) rfl (wanted_none rfl _) (run_move rfl (E.get 11 rfl)) fun a E => ?_
            refine env_put (d := 45) (v := .agg (opC o)) E rfl (by decide) rfl (wanted_none rfl _) (run_ld35 rfl (E.get 29 rfl) (op_rng hkb38.1)) fun a E => ?_
            refine env_call (d := 46) (v := .int .i64 11) (F := fun w8 => IxW w1 w.heap.size q (l.length + 1) T5 (doM m o) w8) E rfl (by decide) rfl (wanted_none rfl _) (run_call2 (enters_of Try.func15 (by kernel_rfl) rfl) rfl rfl (E.get 1 rfl) (E.get 0 rfl)) ((do_calls hX hN9 o hsz).mono fun e w8 h => ⟨h.1.trans (by rw [hde]), h.2⟩) fun a ww51 hW E => ?_
            obtain ⟨hX2, f2⟩ := hW
            have ht := TT.refl w1 T5
            have hkb38 := hkb38.q f2 ht
            have hcb39 := hcb39.q f2 ht
            have hkb40 := hkb40.q f2 ht
            have hra := hra.q f2 ht
            have hrb := hrb.q f2 ht
            have hcb43 := hcb43.q f2 ht
            have hs := hs.fr f2 (fun r hr e => by have := (hX.lt r e).1; omega)
            have hf := hf.trans' f2 (fun r hr e => by have := (hX.lt r e).1; omega)
            have hX := hX2
            clear hX2 f2 ht
            rw [hdm] at hX
            refine env_put (d := 15) (v := .int .i64 11) E rfl (by decide) rfl (wanted_none rfl _) (run_assign rfl (E.get 0 rfl)) fun a E => ?_
            refine wpList_nil ?_
            refine then_n ?_
            refine wp_seq ?_
            refine wp_seq ?_
            refine wp_region_lit ?_
            refine env_put (d := 47) (v := .int .i64 11) E rfl (by decide) rfl (wanted_none rfl _) (run_move rfl (E.get 0 rfl)) fun a E => ?_
            refine env_put (d := 48) (v := .bool false) E rfl (by decide) rfl (wanted_none rfl _) (run_ieql (m := 11) (n := 0) (E.get 0 rfl) rfl Try.underlying33 rfl) fun a E => ?_
            refine env_put (d := 49) (v := .bool false) E rfl (by decide) rfl (wanted_none rfl _) (run_move rfl (E.get 0 rfl)) fun a E => ?_
            refine env_skip (d := 50) (g := 2) (s := 49) E rfl (by decide) rfl rfl rfl (by decide) (E.get 0 rfl) fun a E => ?_
            refine env_skip (d := 51) (g := 2) (s := 49) E rfl (by decide) rfl rfl rfl (by decide) (E.get 1 rfl) fun a E => ?_
            refine env_skip (d := 52) (g := 2) (s := 49) E rfl (by decide) rfl rfl rfl (by decide) (E.get 2 rfl) fun a E => ?_
            refine env_put (d := 53) (v := .bool false) E rfl (by decide) rfl (wanted_none rfl _) (run_pick_f rfl (E.get 3 rfl) rfl) fun a E => ?_
            refine wpList_nil ?_
            refine then_n ?_
            refine wp_cond_false (E.get 0 rfl) ?_
            refine wp_skip ?_
            refine then_n ?_
            refine wp_seq ?_
            refine wp_seq ?_
            refine wp_region_lit ?_
            refine env_put (d := 62) (v := .int .i64 11) E rfl (by decide) rfl (wanted_none rfl _) (run_move rfl (E.get 7 rfl)) fun a E => ?_
            refine env_put (d := 63) (v := .bool false) E rfl (by decide) rfl (wanted_none rfl _) (run_ieql (m := 11) (n := 0) (E.get 0 rfl) rfl Try.underlying33 rfl) fun a E => ?_
            refine wpList_nil ?_
            refine then_n ?_
            refine wp_cond_false (E.get 0 rfl) ?_
            refine wp_skip ?_
            refine then_n ?_
            refine wp_seq ?_
            refine wp_region_lit ?_
            refine env_put (d := 79) (v := .bool true) E rfl (by decide) rfl (wanted_none rfl _) (run_move rfl (E.get 36 rfl)) fun a E => ?_
            refine env_put (d := 80) (v := .bool true) E rfl (by decide) rfl (wanted_none rfl _) (run_move rfl (E.get 0 rfl)) fun a E => ?_
            refine env_put (d := 81) (v := .pointer (some ⟨q, 0, none⟩)) E rfl (by decide) rfl (w_yes (g := 1) (s := 80) E rfl rfl (by decide) (E.get 0 rfl)) (run_move rfl (E.get 26 rfl)) fun a E => ?_
            refine env_put (d := 82) (v := .agg (bxC b)) E rfl (by decide) rfl (w_yes (g := 1) (s := 80) E rfl rfl (by decide) (E.get 1 rfl)) (run_ld26 rfl (E.get 43 rfl) (rng4 (p := b) hcb39.1 0 rfl rfl rfl rfl)) fun a E => ?_
            refine env_callv (d := 83) (R := fun u w8 => ∃ R T9, InS m b R ∧ IxS ww51 w.heap.size q (l.length + 1) T5 m T9 w8 ∧ Rw w8 T9 u R) E rfl (by decide) rfl (w_yes (g := 1) (s := 80) E rfl rfl (by decide) (E.get 2 rfl)) (run_call2 (enters_of Try.func19 (by kernel_rfl) rfl) rfl rfl (E.get 1 rfl) (E.get 0 rfl)) (in_q hX (by omega) b) fun a w1 v52 hR E => ?_
            obtain ⟨R52, T52, hiR52, ⟨hX2, f2, ht⟩, hr52⟩ := hR
            have hkb38 := hkb38.q f2 ht
            have hcb39 := hcb39.q f2 ht
            have hkb40 := hkb40.q f2 ht
            have hra := hra.q f2 ht
            have hrb := hrb.q f2 ht
            have hcb43 := hcb43.q f2 ht
            have hs := hs.fr f2 (fun r hr e => by have := (hX.lt r e).1; omega)
            have hf := hf.trans' f2 (fun r hr e => by have := (hX.lt r e).1; omega)
            have hX := hX2
            clear hX2 f2 ht
            obtain ⟨pr52, cr52, hv52, _, hl52⟩ := hr52.src
            subst hv52
            have heR52 : decide (R52 = Ra) = true := decide_eq_true (hiR52.uniq hiRa)
            refine env_put (d := 84) (v := .slice (pra) Ra.length cra) E rfl (by decide) rfl (w_yes (g := 1) (s := 80) E rfl rfl (by decide) (E.get 3 rfl)) (run_move rfl (E.get 28 rfl)) fun a E => ?_
            refine env_call (d := 85) (v := .bool true) E rfl (by decide) rfl (w_yes (g := 1) (s := 80) E rfl rfl (by decide) (E.get 4 rfl)) (run_call2 (enters_of Try.func18 (by kernel_rfl) rfl) rfl rfl (E.get 1 rfl) (E.get 0 rfl)) ((same_rw hr52 hra).mono fun e w h => ⟨h.1.trans (by rw [heR52]), h.2⟩) fun a w1 f1 E => ?_
            have hs := hs.fr f1 (fun _ _ h => h)
            have hkb38 := hkb38.fr f1
            have hcb39 := hcb39.fr f1
            have hkb40 := hkb40.fr f1
            have hX := Ix.fr hX f1 (fun _ _ h => h)
            have hra := hra.fr f1
            have hrb := hrb.fr f1
            have hcb43 := hcb43.fr f1
            have hr52 := hr52.fr f1
            have hf := hf.trans f1
            clear f1
            refine env_put (d := 86) (v := .bool true) E rfl (by decide) rfl (wanted_none rfl _) (run_pick_t rfl (E.get 5 rfl) (E.get 0 rfl)) fun a E => ?_
            refine env_put (d := 87) (v := .bool true) E rfl (by decide) rfl (wanted_none rfl _) (run_move rfl (E.get 0 rfl)) fun a E => ?_
            refine env_put (d := 88) (v := .pointer (some ⟨q, 0, none⟩)) E rfl (by decide) rfl (w_yes (g := 8) (s := 87) E rfl rfl (by decide) (E.get 0 rfl)) (run_move rfl (E.get 33 rfl)) fun a E => ?_
            refine env_put (d := 89) (v := .agg (ptC pt)) E rfl (by decide) rfl (w_yes (g := 8) (s := 87) E rfl rfl (by decide) (E.get 1 rfl)) (run_ld24 rfl (E.get 49 rfl) (rng2 (p := pt) hkb40.1 0 rfl rfl)) fun a E => ?_
            refine env_callv (d := 90) (R := fun u w8 => ∃ R T9, NearS m pt 100 R ∧ IxS w1 w.heap.size q (l.length + 1) T52 m T9 w8 ∧ Rw w8 T9 u R) E rfl (by decide) rfl (w_yes (g := 8) (s := 87) E rfl rfl (by decide) (E.get 2 rfl)) (run_call3 (enters_of Try.func21 (by kernel_rfl) rfl) rfl rfl (E.get 1 rfl) (E.get 0 rfl) rfl) (near_q hX (by omega) pt 100) fun a w1 v53 hR E => ?_
            obtain ⟨R53, T53, hiR53, ⟨hX2, f2, ht⟩, hr53⟩ := hR
            have hkb38 := hkb38.q f2 ht
            have hcb39 := hcb39.q f2 ht
            have hkb40 := hkb40.q f2 ht
            have hra := hra.q f2 ht
            have hrb := hrb.q f2 ht
            have hcb43 := hcb43.q f2 ht
            have hr52 := hr52.q f2 ht
            have hs := hs.fr f2 (fun r hr e => by have := (hX.lt r e).1; omega)
            have hf := hf.trans' f2 (fun r hr e => by have := (hX.lt r e).1; omega)
            have hX := hX2
            clear hX2 f2 ht
            obtain ⟨pr53, cr53, hv53, _, hl53⟩ := hr53.src
            subst hv53
            have heR53 : decide (R53 = Rb) = true := decide_eq_true (hiR53.uniq hiRb)
            refine env_put (d := 91) (v := .slice (prb) Rb.length crb) E rfl (by decide) rfl (w_yes (g := 8) (s := 87) E rfl rfl (by decide) (E.get 3 rfl)) (run_move rfl (E.get 34 rfl)) fun a E => ?_
            refine env_call (d := 92) (v := .bool true) E rfl (by decide) rfl (w_yes (g := 8) (s := 87) E rfl rfl (by decide) (E.get 4 rfl)) (run_call2 (enters_of Try.func18 (by kernel_rfl) rfl) rfl rfl (E.get 1 rfl) (E.get 0 rfl)) ((same_rw hr53 hrb).mono fun e w h => ⟨h.1.trans (by rw [heR53]), h.2⟩) fun a w1 f1 E => ?_
            have hs := hs.fr f1 (fun _ _ h => h)
            have hkb38 := hkb38.fr f1
            have hcb39 := hcb39.fr f1
            have hkb40 := hkb40.fr f1
            have hX := Ix.fr hX f1 (fun _ _ h => h)
            have hra := hra.fr f1
            have hrb := hrb.fr f1
            have hcb43 := hcb43.fr f1
            have hr52 := hr52.fr f1
            have hr53 := hr53.fr f1
            have hf := hf.trans f1
            clear f1
            refine env_put (d := 93) (v := .bool true) E rfl (by decide) rfl (wanted_none rfl _) (run_pick_t rfl (E.get 5 rfl) (E.get 0 rfl)) fun a E => ?_
            refine env_set (d := 8) (v := .bool true) E rfl (by decide) (wanted_none rfl _) (run_assign rfl (E.get 0 rfl)) fun a E => ?_
            refine wpList_nil ?_
            refine then_n ?_
            refine wp_ret ?_
            exact ret_tmp (t := 8) rfl E (E.get 0 rfl) ⟨rfl, hf⟩
        | some c =>
          refine wp_region_lit ?_
          refine env_put (d := 38) (v := .pointer (some ⟨q, 0, none⟩)) E rfl (by decide) rfl (wanted_none rfl _) (run_move rfl (E.get 2 rfl)) fun a E => ?_
          refine env_put (d := 39) (v := .pointer (some ⟨b38, 1, none⟩)) E rfl (by decide) rfl (wanted_none rfl _) (fa35_1 rfl (E.get 20 rfl)) fun a E => ?_
          refine env_put (d := 40) (v := .string o.2.1) E rfl (by decide) rfl (wanted_none rfl _) (run_lds rfl (E.get 0 rfl) (bx hkb38.1 1 rfl)) fun a E => ?_
          refine env_call (d := 41) (v := .tuple #[.agg (bxC c), .bool true]) E rfl (by decide) rfl (wanted_none rfl _) (run_call2 (enters_of Try.func16 (by kernel_rfl) rfl) rfl rfl (E.get 2 rfl) (E.get 0 rfl)) ((ix_box hX o.2.1 hsz).mono fun e w8 h => ⟨h.1.trans (by rw [hmo]; rfl), h.2⟩) fun a w1 f1 E => ?_
          have hs := hs.fr f1 (fun _ _ h => h)
          have hkb38 := hkb38.fr f1
          have hcb39 := hcb39.fr f1
          have hkb40 := hkb40.fr f1
          have hX := Ix.fr hX f1 (fun _ _ h => h)
          have hra := hra.fr f1
          have hrb := hrb.fr f1
          have hf := hf.trans f1
          clear f1
          refine env_put (d := 37) (v := .tuple #[.agg (bxC c), .bool true]) E rfl (by decide) rfl (wanted_none rfl _) (run_move rfl (E.get 0 rfl)) fun a E => ?_
          refine env_put (d := 42) (v := .agg (bxC c)) E rfl (by decide) rfl (wanted_none rfl _) (run_ext0 rfl (E.get 0 rfl)) fun a E => ?_
          refine env_put (d := 43) (v := .bool true) E rfl (by decide) rfl (wanted_none rfl _) (run_ext1 rfl (E.get 1 rfl)) fun a E => ?_
          have hTl := (fun k hk => (hX.lt k hk).2 : ∀ k, T5 k → k < w1.heap.size)
          refine env_alloc26 (d := 13) E rfl (by decide) rfl (wanted_none rfl _) rfl fun a w1 b54 eb54 hb54 f1 E => ?_
          refine env_st26 E rfl (wanted_none rfl _) rfl (E.get 0 rfl) (E.get 2 rfl) hb54 fun w1 hb54 f2 E => ?_
          have f1 := f1.trans' f2 (fun r hr e => by omega)
          clear f2
          have hcb54 : Cw w1 T5 b54 c := ⟨hb54, fun ht => by have := hTl b54 ht; omega⟩
          have hs := hs.fr f1 (fun _ _ h => h)
          have hkb38 := hkb38.fr f1
          have hcb39 := hcb39.fr f1
          have hkb40 := hkb40.fr f1
          have hX := Ix.fr hX f1 (fun _ _ h => h)
          have hra := hra.fr f1
          have hrb := hrb.fr f1
          have hf := hf.trans f1
          clear f1
          clear hb54 hTl eb54
          refine env_put (d := 14) (v := .bool true) E rfl (by decide) rfl (wanted_none rfl _) (run_assign rfl (E.get 1 rfl)) fun a E => ?_
          refine wpList_nil ?_
          refine then_n ?_
          refine wp_seq ?_
          cases ho : o.1 with
          | false =>
            cases hq9 : decide (okB o.2.2) with
            | false =>
              have hk9 := of_decide_eq_false hq9
              have hde : doE m o = 1 := by unfold doE putE; rw [ho, if_neg hk9]; rfl
              have hdm : doM m o = m := by unfold doM; rw [ho, if_neg (by decide)]; unfold putM; rw [if_neg (fun h => hk9 h.1)]
              refine wp_region_lit ?_
              refine env_put (d := 44) (v := .pointer (some ⟨q, 0, none⟩)) E rfl (by decide) rfl (wanted_none rfl _) (run_move rfl (E.get 11 rfl)) fun a E => ?_
              refine env_put (d := 45) (v := .agg (opC o)) E rfl (by decide) rfl (wanted_none rfl _) (run_ld35 rfl (E.get 29 rfl) (op_rng hkb38.1)) fun a E => ?_
              refine env_call (d := 46) (v := .int .i64 1) (F := fun w8 => IxW w1 w.heap.size q (l.length + 1) T5 (doM m o) w8) E rfl (by decide) rfl (wanted_none rfl _) (run_call2 (enters_of Try.func15 (by kernel_rfl) rfl) rfl rfl (E.get 1 rfl) (E.get 0 rfl)) ((do_calls hX hN9 o hsz).mono fun e w8 h => ⟨h.1.trans (by rw [hde]), h.2⟩) fun a ww55 hW E => ?_
              obtain ⟨hX2, f2⟩ := hW
              have ht := TT.refl w1 T5
              have hkb38 := hkb38.q f2 ht
              have hcb39 := hcb39.q f2 ht
              have hkb40 := hkb40.q f2 ht
              have hra := hra.q f2 ht
              have hrb := hrb.q f2 ht
              have hcb54 := hcb54.q f2 ht
              have hs := hs.fr f2 (fun r hr e => by have := (hX.lt r e).1; omega)
              have hf := hf.trans' f2 (fun r hr e => by have := (hX.lt r e).1; omega)
              have hX := hX2
              clear hX2 f2 ht
              rw [hdm] at hX
              refine env_put (d := 15) (v := .int .i64 1) E rfl (by decide) rfl (wanted_none rfl _) (run_assign rfl (E.get 0 rfl)) fun a E => ?_
              refine wpList_nil ?_
              refine then_n ?_
              refine wp_seq ?_
              refine wp_seq ?_
              refine wp_region_lit ?_
              refine env_put (d := 47) (v := .int .i64 1) E rfl (by decide) rfl (wanted_none rfl _) (run_move rfl (E.get 0 rfl)) fun a E => ?_
              refine env_put (d := 48) (v := .bool false) E rfl (by decide) rfl (wanted_none rfl _) (run_ieql (m := 1) (n := 0) (E.get 0 rfl) rfl Try.underlying33 rfl) fun a E => ?_
              refine env_put (d := 49) (v := .bool false) E rfl (by decide) rfl (wanted_none rfl _) (run_move rfl (E.get 0 rfl)) fun a E => ?_
              refine env_skip (d := 50) (g := 2) (s := 49) E rfl (by decide) rfl rfl rfl (by decide) (E.get 0 rfl) fun a E => ?_
              refine env_skip (d := 51) (g := 2) (s := 49) E rfl (by decide) rfl rfl rfl (by decide) (E.get 1 rfl) fun a E => ?_
              refine env_skip (d := 52) (g := 2) (s := 49) E rfl (by decide) rfl rfl rfl (by decide) (E.get 2 rfl) fun a E => ?_
              refine env_put (d := 53) (v := .bool false) E rfl (by decide) rfl (wanted_none rfl _) (run_pick_f rfl (E.get 3 rfl) rfl) fun a E => ?_
              refine wpList_nil ?_
              refine then_n ?_
              refine wp_cond_false (E.get 0 rfl) ?_
              refine wp_skip ?_
              refine then_n ?_
              refine wp_seq ?_
              refine wp_seq ?_
              refine wp_region_lit ?_
              refine env_put (d := 62) (v := .int .i64 1) E rfl (by decide) rfl (wanted_none rfl _) (run_move rfl (E.get 7 rfl)) fun a E => ?_
              refine env_put (d := 63) (v := .bool false) E rfl (by decide) rfl (wanted_none rfl _) (run_ieql (m := 1) (n := 0) (E.get 0 rfl) rfl Try.underlying33 rfl) fun a E => ?_
              refine wpList_nil ?_
              refine then_n ?_
              refine wp_cond_false (E.get 0 rfl) ?_
              refine wp_skip ?_
              refine then_n ?_
              refine wp_seq ?_
              refine wp_region_lit ?_
              refine env_put (d := 79) (v := .bool true) E rfl (by decide) rfl (wanted_none rfl _) (run_move rfl (E.get 36 rfl)) fun a E => ?_
              refine env_put (d := 80) (v := .bool true) E rfl (by decide) rfl (wanted_none rfl _) (run_move rfl (E.get 0 rfl)) fun a E => ?_
              refine env_put (d := 81) (v := .pointer (some ⟨q, 0, none⟩)) E rfl (by decide) rfl (w_yes (g := 1) (s := 80) E rfl rfl (by decide) (E.get 0 rfl)) (run_move rfl (E.get 26 rfl)) fun a E => ?_
              refine env_put (d := 82) (v := .agg (bxC b)) E rfl (by decide) rfl (w_yes (g := 1) (s := 80) E rfl rfl (by decide) (E.get 1 rfl)) (run_ld26 rfl (E.get 43 rfl) (rng4 (p := b) hcb39.1 0 rfl rfl rfl rfl)) fun a E => ?_
              refine env_callv (d := 83) (R := fun u w8 => ∃ R T9, InS m b R ∧ IxS ww55 w.heap.size q (l.length + 1) T5 m T9 w8 ∧ Rw w8 T9 u R) E rfl (by decide) rfl (w_yes (g := 1) (s := 80) E rfl rfl (by decide) (E.get 2 rfl)) (run_call2 (enters_of Try.func19 (by kernel_rfl) rfl) rfl rfl (E.get 1 rfl) (E.get 0 rfl)) (in_q hX (by omega) b) fun a w1 v56 hR E => ?_
              obtain ⟨R56, T56, hiR56, ⟨hX2, f2, ht⟩, hr56⟩ := hR
              have hkb38 := hkb38.q f2 ht
              have hcb39 := hcb39.q f2 ht
              have hkb40 := hkb40.q f2 ht
              have hra := hra.q f2 ht
              have hrb := hrb.q f2 ht
              have hcb54 := hcb54.q f2 ht
              have hs := hs.fr f2 (fun r hr e => by have := (hX.lt r e).1; omega)
              have hf := hf.trans' f2 (fun r hr e => by have := (hX.lt r e).1; omega)
              have hX := hX2
              clear hX2 f2 ht
              obtain ⟨pr56, cr56, hv56, _, hl56⟩ := hr56.src
              subst hv56
              have heR56 : decide (R56 = Ra) = true := decide_eq_true (hiR56.uniq hiRa)
              refine env_put (d := 84) (v := .slice (pra) Ra.length cra) E rfl (by decide) rfl (w_yes (g := 1) (s := 80) E rfl rfl (by decide) (E.get 3 rfl)) (run_move rfl (E.get 28 rfl)) fun a E => ?_
              refine env_call (d := 85) (v := .bool true) E rfl (by decide) rfl (w_yes (g := 1) (s := 80) E rfl rfl (by decide) (E.get 4 rfl)) (run_call2 (enters_of Try.func18 (by kernel_rfl) rfl) rfl rfl (E.get 1 rfl) (E.get 0 rfl)) ((same_rw hr56 hra).mono fun e w h => ⟨h.1.trans (by rw [heR56]), h.2⟩) fun a w1 f1 E => ?_
              have hs := hs.fr f1 (fun _ _ h => h)
              have hkb38 := hkb38.fr f1
              have hcb39 := hcb39.fr f1
              have hkb40 := hkb40.fr f1
              have hX := Ix.fr hX f1 (fun _ _ h => h)
              have hra := hra.fr f1
              have hrb := hrb.fr f1
              have hcb54 := hcb54.fr f1
              have hr56 := hr56.fr f1
              have hf := hf.trans f1
              clear f1
              refine env_put (d := 86) (v := .bool true) E rfl (by decide) rfl (wanted_none rfl _) (run_pick_t rfl (E.get 5 rfl) (E.get 0 rfl)) fun a E => ?_
              refine env_put (d := 87) (v := .bool true) E rfl (by decide) rfl (wanted_none rfl _) (run_move rfl (E.get 0 rfl)) fun a E => ?_
              refine env_put (d := 88) (v := .pointer (some ⟨q, 0, none⟩)) E rfl (by decide) rfl (w_yes (g := 8) (s := 87) E rfl rfl (by decide) (E.get 0 rfl)) (run_move rfl (E.get 33 rfl)) fun a E => ?_
              refine env_put (d := 89) (v := .agg (ptC pt)) E rfl (by decide) rfl (w_yes (g := 8) (s := 87) E rfl rfl (by decide) (E.get 1 rfl)) (run_ld24 rfl (E.get 49 rfl) (rng2 (p := pt) hkb40.1 0 rfl rfl)) fun a E => ?_
              refine env_callv (d := 90) (R := fun u w8 => ∃ R T9, NearS m pt 100 R ∧ IxS w1 w.heap.size q (l.length + 1) T56 m T9 w8 ∧ Rw w8 T9 u R) E rfl (by decide) rfl (w_yes (g := 8) (s := 87) E rfl rfl (by decide) (E.get 2 rfl)) (run_call3 (enters_of Try.func21 (by kernel_rfl) rfl) rfl rfl (E.get 1 rfl) (E.get 0 rfl) rfl) (near_q hX (by omega) pt 100) fun a w1 v57 hR E => ?_
              obtain ⟨R57, T57, hiR57, ⟨hX2, f2, ht⟩, hr57⟩ := hR
              have hkb38 := hkb38.q f2 ht
              have hcb39 := hcb39.q f2 ht
              have hkb40 := hkb40.q f2 ht
              have hra := hra.q f2 ht
              have hrb := hrb.q f2 ht
              have hcb54 := hcb54.q f2 ht
              have hr56 := hr56.q f2 ht
              have hs := hs.fr f2 (fun r hr e => by have := (hX.lt r e).1; omega)
              have hf := hf.trans' f2 (fun r hr e => by have := (hX.lt r e).1; omega)
              have hX := hX2
              clear hX2 f2 ht
              obtain ⟨pr57, cr57, hv57, _, hl57⟩ := hr57.src
              subst hv57
              have heR57 : decide (R57 = Rb) = true := decide_eq_true (hiR57.uniq hiRb)
              refine env_put (d := 91) (v := .slice (prb) Rb.length crb) E rfl (by decide) rfl (w_yes (g := 8) (s := 87) E rfl rfl (by decide) (E.get 3 rfl)) (run_move rfl (E.get 34 rfl)) fun a E => ?_
              refine env_call (d := 92) (v := .bool true) E rfl (by decide) rfl (w_yes (g := 8) (s := 87) E rfl rfl (by decide) (E.get 4 rfl)) (run_call2 (enters_of Try.func18 (by kernel_rfl) rfl) rfl rfl (E.get 1 rfl) (E.get 0 rfl)) ((same_rw hr57 hrb).mono fun e w h => ⟨h.1.trans (by rw [heR57]), h.2⟩) fun a w1 f1 E => ?_
              have hs := hs.fr f1 (fun _ _ h => h)
              have hkb38 := hkb38.fr f1
              have hcb39 := hcb39.fr f1
              have hkb40 := hkb40.fr f1
              have hX := Ix.fr hX f1 (fun _ _ h => h)
              have hra := hra.fr f1
              have hrb := hrb.fr f1
              have hcb54 := hcb54.fr f1
              have hr56 := hr56.fr f1
              have hr57 := hr57.fr f1
              have hf := hf.trans f1
              clear f1
              refine env_put (d := 93) (v := .bool true) E rfl (by decide) rfl (wanted_none rfl _) (run_pick_t rfl (E.get 5 rfl) (E.get 0 rfl)) fun a E => ?_
              refine env_set (d := 8) (v := .bool true) E rfl (by decide) (wanted_none rfl _) (run_assign rfl (E.get 0 rfl)) fun a E => ?_
              refine wpList_nil ?_
              refine then_n ?_
              refine wp_ret ?_
              exact ret_tmp (t := 8) rfl E (E.get 0 rfl) ⟨rfl, hf⟩
            | true =>
              have hk9 := of_decide_eq_true hq9
              have hde : doE m o = 9 := by unfold doE putE; rw [ho, if_pos hk9, hmo]; rfl
              have hdm : doM m o = m := by unfold doM; rw [ho, if_neg (by decide)]; unfold putM; rw [if_neg (fun h => by rw [hmo] at h; cases h.2)]
              refine wp_region_lit ?_
              refine env_put (d := 44) (v := .pointer (some ⟨q, 0, none⟩)) E rfl (by decide) rfl (wanted_none rfl _) (run_move rfl (E.get 11 rfl)) fun a E => ?_
              refine env_put (d := 45) (v := .agg (opC o)) E rfl (by decide) rfl (wanted_none rfl _) (run_ld35 rfl (E.get 29 rfl) (op_rng hkb38.1)) fun a E => ?_
              refine env_call (d := 46) (v := .int .i64 9) (F := fun w8 => IxW w1 w.heap.size q (l.length + 1) T5 (doM m o) w8) E rfl (by decide) rfl (wanted_none rfl _) (run_call2 (enters_of Try.func15 (by kernel_rfl) rfl) rfl rfl (E.get 1 rfl) (E.get 0 rfl)) ((do_calls hX hN9 o hsz).mono fun e w8 h => ⟨h.1.trans (by rw [hde]), h.2⟩) fun a ww58 hW E => ?_
              obtain ⟨hX2, f2⟩ := hW
              have ht := TT.refl w1 T5
              have hkb38 := hkb38.q f2 ht
              have hcb39 := hcb39.q f2 ht
              have hkb40 := hkb40.q f2 ht
              have hra := hra.q f2 ht
              have hrb := hrb.q f2 ht
              have hcb54 := hcb54.q f2 ht
              have hs := hs.fr f2 (fun r hr e => by have := (hX.lt r e).1; omega)
              have hf := hf.trans' f2 (fun r hr e => by have := (hX.lt r e).1; omega)
              have hX := hX2
              clear hX2 f2 ht
              rw [hdm] at hX
              refine env_put (d := 15) (v := .int .i64 9) E rfl (by decide) rfl (wanted_none rfl _) (run_assign rfl (E.get 0 rfl)) fun a E => ?_
              refine wpList_nil ?_
              refine then_n ?_
              refine wp_seq ?_
              refine wp_seq ?_
              refine wp_region_lit ?_
              refine env_put (d := 47) (v := .int .i64 9) E rfl (by decide) rfl (wanted_none rfl _) (run_move rfl (E.get 0 rfl)) fun a E => ?_
              refine env_put (d := 48) (v := .bool false) E rfl (by decide) rfl (wanted_none rfl _) (run_ieql (m := 9) (n := 0) (E.get 0 rfl) rfl Try.underlying33 rfl) fun a E => ?_
              refine env_put (d := 49) (v := .bool false) E rfl (by decide) rfl (wanted_none rfl _) (run_move rfl (E.get 0 rfl)) fun a E => ?_
              refine env_skip (d := 50) (g := 2) (s := 49) E rfl (by decide) rfl rfl rfl (by decide) (E.get 0 rfl) fun a E => ?_
              refine env_skip (d := 51) (g := 2) (s := 49) E rfl (by decide) rfl rfl rfl (by decide) (E.get 1 rfl) fun a E => ?_
              refine env_skip (d := 52) (g := 2) (s := 49) E rfl (by decide) rfl rfl rfl (by decide) (E.get 2 rfl) fun a E => ?_
              refine env_put (d := 53) (v := .bool false) E rfl (by decide) rfl (wanted_none rfl _) (run_pick_f rfl (E.get 3 rfl) rfl) fun a E => ?_
              refine wpList_nil ?_
              refine then_n ?_
              refine wp_cond_false (E.get 0 rfl) ?_
              refine wp_skip ?_
              refine then_n ?_
              refine wp_seq ?_
              refine wp_seq ?_
              refine wp_region_lit ?_
              refine env_put (d := 62) (v := .int .i64 9) E rfl (by decide) rfl (wanted_none rfl _) (run_move rfl (E.get 7 rfl)) fun a E => ?_
              refine env_put (d := 63) (v := .bool false) E rfl (by decide) rfl (wanted_none rfl _) (run_ieql (m := 9) (n := 0) (E.get 0 rfl) rfl Try.underlying33 rfl) fun a E => ?_
              refine wpList_nil ?_
              refine then_n ?_
              refine wp_cond_false (E.get 0 rfl) ?_
              refine wp_skip ?_
              refine then_n ?_
              refine wp_seq ?_
              refine wp_region_lit ?_
              refine env_put (d := 79) (v := .bool true) E rfl (by decide) rfl (wanted_none rfl _) (run_move rfl (E.get 36 rfl)) fun a E => ?_
              refine env_put (d := 80) (v := .bool true) E rfl (by decide) rfl (wanted_none rfl _) (run_move rfl (E.get 0 rfl)) fun a E => ?_
              refine env_put (d := 81) (v := .pointer (some ⟨q, 0, none⟩)) E rfl (by decide) rfl (w_yes (g := 1) (s := 80) E rfl rfl (by decide) (E.get 0 rfl)) (run_move rfl (E.get 26 rfl)) fun a E => ?_
              refine env_put (d := 82) (v := .agg (bxC b)) E rfl (by decide) rfl (w_yes (g := 1) (s := 80) E rfl rfl (by decide) (E.get 1 rfl)) (run_ld26 rfl (E.get 43 rfl) (rng4 (p := b) hcb39.1 0 rfl rfl rfl rfl)) fun a E => ?_
              refine env_callv (d := 83) (R := fun u w8 => ∃ R T9, InS m b R ∧ IxS ww58 w.heap.size q (l.length + 1) T5 m T9 w8 ∧ Rw w8 T9 u R) E rfl (by decide) rfl (w_yes (g := 1) (s := 80) E rfl rfl (by decide) (E.get 2 rfl)) (run_call2 (enters_of Try.func19 (by kernel_rfl) rfl) rfl rfl (E.get 1 rfl) (E.get 0 rfl)) (in_q hX (by omega) b) fun a w1 v59 hR E => ?_
              obtain ⟨R59, T59, hiR59, ⟨hX2, f2, ht⟩, hr59⟩ := hR
              have hkb38 := hkb38.q f2 ht
              have hcb39 := hcb39.q f2 ht
              have hkb40 := hkb40.q f2 ht
              have hra := hra.q f2 ht
              have hrb := hrb.q f2 ht
              have hcb54 := hcb54.q f2 ht
              have hs := hs.fr f2 (fun r hr e => by have := (hX.lt r e).1; omega)
              have hf := hf.trans' f2 (fun r hr e => by have := (hX.lt r e).1; omega)
              have hX := hX2
              clear hX2 f2 ht
              obtain ⟨pr59, cr59, hv59, _, hl59⟩ := hr59.src
              subst hv59
              have heR59 : decide (R59 = Ra) = true := decide_eq_true (hiR59.uniq hiRa)
              refine env_put (d := 84) (v := .slice (pra) Ra.length cra) E rfl (by decide) rfl (w_yes (g := 1) (s := 80) E rfl rfl (by decide) (E.get 3 rfl)) (run_move rfl (E.get 28 rfl)) fun a E => ?_
              refine env_call (d := 85) (v := .bool true) E rfl (by decide) rfl (w_yes (g := 1) (s := 80) E rfl rfl (by decide) (E.get 4 rfl)) (run_call2 (enters_of Try.func18 (by kernel_rfl) rfl) rfl rfl (E.get 1 rfl) (E.get 0 rfl)) ((same_rw hr59 hra).mono fun e w h => ⟨h.1.trans (by rw [heR59]), h.2⟩) fun a w1 f1 E => ?_
              have hs := hs.fr f1 (fun _ _ h => h)
              have hkb38 := hkb38.fr f1
              have hcb39 := hcb39.fr f1
              have hkb40 := hkb40.fr f1
              have hX := Ix.fr hX f1 (fun _ _ h => h)
              have hra := hra.fr f1
              have hrb := hrb.fr f1
              have hcb54 := hcb54.fr f1
              have hr59 := hr59.fr f1
              have hf := hf.trans f1
              clear f1
              refine env_put (d := 86) (v := .bool true) E rfl (by decide) rfl (wanted_none rfl _) (run_pick_t rfl (E.get 5 rfl) (E.get 0 rfl)) fun a E => ?_
              refine env_put (d := 87) (v := .bool true) E rfl (by decide) rfl (wanted_none rfl _) (run_move rfl (E.get 0 rfl)) fun a E => ?_
              refine env_put (d := 88) (v := .pointer (some ⟨q, 0, none⟩)) E rfl (by decide) rfl (w_yes (g := 8) (s := 87) E rfl rfl (by decide) (E.get 0 rfl)) (run_move rfl (E.get 33 rfl)) fun a E => ?_
              refine env_put (d := 89) (v := .agg (ptC pt)) E rfl (by decide) rfl (w_yes (g := 8) (s := 87) E rfl rfl (by decide) (E.get 1 rfl)) (run_ld24 rfl (E.get 49 rfl) (rng2 (p := pt) hkb40.1 0 rfl rfl)) fun a E => ?_
              refine env_callv (d := 90) (R := fun u w8 => ∃ R T9, NearS m pt 100 R ∧ IxS w1 w.heap.size q (l.length + 1) T59 m T9 w8 ∧ Rw w8 T9 u R) E rfl (by decide) rfl (w_yes (g := 8) (s := 87) E rfl rfl (by decide) (E.get 2 rfl)) (run_call3 (enters_of Try.func21 (by kernel_rfl) rfl) rfl rfl (E.get 1 rfl) (E.get 0 rfl) rfl) (near_q hX (by omega) pt 100) fun a w1 v60 hR E => ?_
              obtain ⟨R60, T60, hiR60, ⟨hX2, f2, ht⟩, hr60⟩ := hR
              have hkb38 := hkb38.q f2 ht
              have hcb39 := hcb39.q f2 ht
              have hkb40 := hkb40.q f2 ht
              have hra := hra.q f2 ht
              have hrb := hrb.q f2 ht
              have hcb54 := hcb54.q f2 ht
              have hr59 := hr59.q f2 ht
              have hs := hs.fr f2 (fun r hr e => by have := (hX.lt r e).1; omega)
              have hf := hf.trans' f2 (fun r hr e => by have := (hX.lt r e).1; omega)
              have hX := hX2
              clear hX2 f2 ht
              obtain ⟨pr60, cr60, hv60, _, hl60⟩ := hr60.src
              subst hv60
              have heR60 : decide (R60 = Rb) = true := decide_eq_true (hiR60.uniq hiRb)
              refine env_put (d := 91) (v := .slice (prb) Rb.length crb) E rfl (by decide) rfl (w_yes (g := 8) (s := 87) E rfl rfl (by decide) (E.get 3 rfl)) (run_move rfl (E.get 34 rfl)) fun a E => ?_
              refine env_call (d := 92) (v := .bool true) E rfl (by decide) rfl (w_yes (g := 8) (s := 87) E rfl rfl (by decide) (E.get 4 rfl)) (run_call2 (enters_of Try.func18 (by kernel_rfl) rfl) rfl rfl (E.get 1 rfl) (E.get 0 rfl)) ((same_rw hr60 hrb).mono fun e w h => ⟨h.1.trans (by rw [heR60]), h.2⟩) fun a w1 f1 E => ?_
              have hs := hs.fr f1 (fun _ _ h => h)
              have hkb38 := hkb38.fr f1
              have hcb39 := hcb39.fr f1
              have hkb40 := hkb40.fr f1
              have hX := Ix.fr hX f1 (fun _ _ h => h)
              have hra := hra.fr f1
              have hrb := hrb.fr f1
              have hcb54 := hcb54.fr f1
              have hr59 := hr59.fr f1
              have hr60 := hr60.fr f1
              have hf := hf.trans f1
              clear f1
              refine env_put (d := 93) (v := .bool true) E rfl (by decide) rfl (wanted_none rfl _) (run_pick_t rfl (E.get 5 rfl) (E.get 0 rfl)) fun a E => ?_
              refine env_set (d := 8) (v := .bool true) E rfl (by decide) (wanted_none rfl _) (run_assign rfl (E.get 0 rfl)) fun a E => ?_
              refine wpList_nil ?_
              refine then_n ?_
              refine wp_ret ?_
              exact ret_tmp (t := 8) rfl E (E.get 0 rfl) ⟨rfl, hf⟩
          | true =>
            have hde : doE m o = 0 := by unfold doE dropE; rw [ho, hmo]; rfl
            have hdm : doM m o = delB m o.2.1 := by unfold doM; rw [ho]; rfl
            refine wp_region_lit ?_
            refine env_put (d := 44) (v := .pointer (some ⟨q, 0, none⟩)) E rfl (by decide) rfl (wanted_none rfl _) (run_move rfl (E.get 11 rfl)) fun a E => ?_
            refine env_put (d := 45) (v := .agg (opC o)) E rfl (by decide) rfl (wanted_none rfl _) (run_ld35 rfl (E.get 29 rfl) (op_rng hkb38.1)) fun a E => ?_
            refine env_call (d := 46) (v := .int .i64 0) (F := fun w8 => IxW w1 w.heap.size q (l.length + 1) T5 (doM m o) w8) E rfl (by decide) rfl (wanted_none rfl _) (run_call2 (enters_of Try.func15 (by kernel_rfl) rfl) rfl rfl (E.get 1 rfl) (E.get 0 rfl)) ((do_calls hX hN9 o hsz).mono fun e w8 h => ⟨h.1.trans (by rw [hde]), h.2⟩) fun a ww61 hW E => ?_
            obtain ⟨hX2, f2⟩ := hW
            have ht := TT.refl w1 T5
            have hkb38 := hkb38.q f2 ht
            have hcb39 := hcb39.q f2 ht
            have hkb40 := hkb40.q f2 ht
            have hra := hra.q f2 ht
            have hrb := hrb.q f2 ht
            have hcb54 := hcb54.q f2 ht
            have hs := hs.fr f2 (fun r hr e => by have := (hX.lt r e).1; omega)
            have hf := hf.trans' f2 (fun r hr e => by have := (hX.lt r e).1; omega)
            have hX := hX2
            clear hX2 f2 ht
            rw [hdm] at hX
            have hmn : delB m o.2.1 o.2.1 = none := by unfold delB; rw [if_pos rfl]
            refine env_put (d := 15) (v := .int .i64 0) E rfl (by decide) rfl (wanted_none rfl _) (run_assign rfl (E.get 0 rfl)) fun a E => ?_
            refine wpList_nil ?_
            refine then_n ?_
            refine wp_seq ?_
            refine wp_seq ?_
            refine wp_region_lit ?_
            refine env_put (d := 47) (v := .int .i64 0) E rfl (by decide) rfl (wanted_none rfl _) (run_move rfl (E.get 0 rfl)) fun a E => ?_
            refine env_put (d := 48) (v := .bool true) E rfl (by decide) rfl (wanted_none rfl _) (run_ieql (m := 0) (n := 0) (E.get 0 rfl) rfl Try.underlying33 rfl) fun a E => ?_
            refine env_put (d := 49) (v := .bool true) E rfl (by decide) rfl (wanted_none rfl _) (run_move rfl (E.get 0 rfl)) fun a E => ?_
            refine env_put (d := 50) (v := .pointer (some ⟨b38, 0, none⟩)) E rfl (by decide) rfl (w_yes (g := 2) (s := 49) E rfl rfl (by decide) (E.get 0 rfl)) (fa35_0 rfl (E.get 35 rfl)) fun a E => ?_
            refine env_put (d := 51) (v := .bool true) E rfl (by decide) rfl (w_yes (g := 2) (s := 49) E rfl rfl (by decide) (E.get 1 rfl)) ((run_ldb rfl (E.get 0 rfl) (bx hkb38.1 0 rfl)).trans (by rw [ho] <;> rfl)) fun a E => ?_
            refine env_put (d := 52) (v := .bool false) E rfl (by decide) rfl (w_yes (g := 2) (s := 49) E rfl rfl (by decide) (E.get 2 rfl)) (run_not rfl (E.get 0 rfl)) fun a E => ?_
            refine env_put (d := 53) (v := .bool false) E rfl (by decide) rfl (wanted_none rfl _) (run_pick_t rfl (E.get 3 rfl) (E.get 0 rfl)) fun a E => ?_
            refine wpList_nil ?_
            refine then_n ?_
            refine wp_cond_false (E.get 0 rfl) ?_
            refine wp_skip ?_
            refine then_n ?_
            refine wp_seq ?_
            refine wp_seq ?_
            refine wp_region_lit ?_
            refine env_put (d := 62) (v := .int .i64 0) E rfl (by decide) rfl (wanted_none rfl _) (run_move rfl (E.get 7 rfl)) fun a E => ?_
            refine env_put (d := 63) (v := .bool true) E rfl (by decide) rfl (wanted_none rfl _) (run_ieql (m := 0) (n := 0) (E.get 0 rfl) rfl Try.underlying33 rfl) fun a E => ?_
            refine wpList_nil ?_
            refine then_n ?_
            refine wp_cond_true (E.get 0 rfl) ?_
            refine wp_seq ?_
            refine wp_region_lit ?_
            refine env_put (d := 65) (v := .pointer (some ⟨q, 0, none⟩)) E rfl (by decide) rfl (wanted_none rfl _) (run_move rfl (E.get 24 rfl)) fun a E => ?_
            refine env_put (d := 66) (v := .pointer (some ⟨b38, 1, none⟩)) E rfl (by decide) rfl (wanted_none rfl _) (fa35_1 rfl (E.get 42 rfl)) fun a E => ?_
            refine env_put (d := 67) (v := .string o.2.1) E rfl (by decide) rfl (wanted_none rfl _) (run_lds rfl (E.get 0 rfl) (bx hkb38.1 1 rfl)) fun a E => ?_
            refine env_call (d := 68) (v := .tuple #[.agg (bxC ((0, 0), (0, 0))), .bool false]) E rfl (by decide) rfl (wanted_none rfl _) (run_call2 (enters_of Try.func16 (by kernel_rfl) rfl) rfl rfl (E.get 2 rfl) (E.get 0 rfl)) ((ix_box hX o.2.1 hsz).mono fun e w8 h => ⟨h.1.trans (by rw [hmn]; rfl), h.2⟩) fun a w1 f1 E => ?_
            have hs := hs.fr f1 (fun _ _ h => h)
            have hkb38 := hkb38.fr f1
            have hcb39 := hcb39.fr f1
            have hkb40 := hkb40.fr f1
            have hX := Ix.fr hX f1 (fun _ _ h => h)
            have hra := hra.fr f1
            have hrb := hrb.fr f1
            have hcb54 := hcb54.fr f1
            have hf := hf.trans f1
            clear f1
            refine env_put (d := 64) (v := .tuple #[.agg (bxC ((0, 0), (0, 0))), .bool false]) E rfl (by decide) rfl (wanted_none rfl _) (run_move rfl (E.get 0 rfl)) fun a E => ?_
            refine env_put (d := 69) (v := .agg (bxC ((0, 0), (0, 0)))) E rfl (by decide) rfl (wanted_none rfl _) (run_ext0 rfl (E.get 0 rfl)) fun a E => ?_
            refine env_put (d := 70) (v := .bool false) E rfl (by decide) rfl (wanted_none rfl _) (run_ext1 rfl (E.get 1 rfl)) fun a E => ?_
            have hTl := (fun k hk => (hX.lt k hk).2 : ∀ k, T5 k → k < w1.heap.size)
            refine env_alloc26 (d := 16) E rfl (by decide) rfl (wanted_none rfl _) rfl fun a w1 b62 eb62 hb62 f1 E => ?_
            refine env_st26 E rfl (wanted_none rfl _) rfl (E.get 0 rfl) (E.get 2 rfl) hb62 fun w1 hb62 f2 E => ?_
            have f1 := f1.trans' f2 (fun r hr e => by omega)
            clear f2
            have hcb62 : Cw w1 T5 b62 ((0, 0), (0, 0)) := ⟨hb62, fun ht => by have := hTl b62 ht; omega⟩
            have hs := hs.fr f1 (fun _ _ h => h)
            have hkb38 := hkb38.fr f1
            have hcb39 := hcb39.fr f1
            have hkb40 := hkb40.fr f1
            have hX := Ix.fr hX f1 (fun _ _ h => h)
            have hra := hra.fr f1
            have hrb := hrb.fr f1
            have hcb54 := hcb54.fr f1
            have hf := hf.trans f1
            clear f1
            clear hb62 hTl eb62
            refine env_put (d := 17) (v := .bool false) E rfl (by decide) rfl (wanted_none rfl _) (run_assign rfl (E.get 1 rfl)) fun a E => ?_
            refine wpList_nil ?_
            refine then_n ?_
            refine wp_seq ?_
            refine wp_region_lit ?_
            refine env_put (d := 71) (v := .bool true) E rfl (by decide) rfl (wanted_none rfl _) (run_move rfl (E.get 45 rfl)) fun a E => ?_
            refine env_put (d := 72) (v := .bool true) E rfl (by decide) rfl (wanted_none rfl _) (run_move rfl (E.get 0 rfl)) fun a E => ?_
            refine env_put (d := 73) (v := .bool true) E rfl (by decide) rfl (w_yes (g := 1) (s := 72) E rfl rfl (by decide) (E.get 0 rfl)) (run_move rfl (E.get 24 rfl)) fun a E => ?_
            refine env_put (d := 74) (v := .bool true) E rfl (by decide) rfl (wanted_none rfl _) (run_pick_t rfl (E.get 1 rfl) (E.get 0 rfl)) fun a E => ?_
            refine env_put (d := 75) (v := .bool true) E rfl (by decide) rfl (wanted_none rfl _) (run_move rfl (E.get 0 rfl)) fun a E => ?_
            refine env_put (d := 76) (v := .bool false) E rfl (by decide) rfl (w_yes (g := 4) (s := 75) E rfl rfl (by decide) (E.get 0 rfl)) (run_move rfl (E.get 5 rfl)) fun a E => ?_
            refine env_put (d := 77) (v := .bool true) E rfl (by decide) rfl (w_yes (g := 4) (s := 75) E rfl rfl (by decide) (E.get 1 rfl)) (run_not rfl (E.get 0 rfl)) fun a E => ?_
            refine env_put (d := 78) (v := .bool true) E rfl (by decide) rfl (wanted_none rfl _) (run_pick_t rfl (E.get 2 rfl) (E.get 0 rfl)) fun a E => ?_
            refine env_set (d := 8) (v := .bool true) E rfl (by decide) (wanted_none rfl _) (run_assign rfl (E.get 0 rfl)) fun a E => ?_
            refine wpList_nil ?_
            refine then_n ?_
            refine wp_ret ?_
            refine then_r ?_
            exact ret_tmp (t := 8) rfl E (E.get 0 rfl) ⟨rfl, hf⟩
end Go.Proofs.Ytcafnanbdmapgaa
