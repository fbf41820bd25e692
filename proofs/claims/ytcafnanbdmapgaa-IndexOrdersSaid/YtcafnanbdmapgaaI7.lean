/- The reference index: Drop. -/
import Derived.Test.YtcafnanbdmapgaaI6
set_option linter.unusedVariables false
set_option linter.unusedSimpArgs false
namespace Go.Proofs.Ytcafnanbdmapgaa
open Go.RowKit Go.Pl

/-- Drop of the reference. -/
def rdrop (I : List ByteArray) (J : List Bx) (s : ByteArray) : Int × List ByteArray × List Bx :=
  if !(hasL I s) then (11, I, J) else (0, I.take (atL I s) ++ I.drop (atL I s + 1), J.take (atL I s) ++ J.drop (atL I s + 1))
theorem hasL_lt {I : List ByteArray} {s : ByteArray} (h : hasL I s = true) : atL I s < I.length := by
  unfold hasL at h
  cases h2 : I[atL I s]? with
  | none => rw [h2] at h; cases h
  | some y => exact (List.getElem?_eq_some_iff.1 h2).1
set_option maxRecDepth 100000 in
set_option maxHeartbeats 4000000 in
theorem rdrop_calls {w : World} {r : Nat} {σ : Nat → Prop} {I : List ByteArray} {J : List Bx} {iv bv : Value} (h : RIAt w r σ I J iv bv) (hIJ : I.length = J.length) (hI : I.length ≤ 100000) (s0 : ByteArray) : Calls Try.prog 13 #[.pointer (some ⟨r, 0, none⟩), .string s0] w (RIPost r σ (rdrop I J s0).2.1 (rdrop I J s0).2.2 (.int .i64 (rdrop I J s0).1) w) := by
  refine wp_start2 Try.func13 rfl rfl (n := 53) (by decide) fun a E => ?_
  have hT : Fr σ w w := Fr.refl _ _
  have hS : ∀ k, k < w.heap.size → σ k → σ k := fun _ _ h => h
  obtain ⟨p0, cp0, hv0, hle0, hcap0, hs0, hz0⟩ := h.isrc
  rw [hv0] at h
  obtain ⟨p1, cp1, hv1, hle1, hcap1, hs1, hz1⟩ := h.jsrc
  rw [hv1] at h
  clear hs0 hs1
  refine wp_seq ?_
  refine wp_region_lit ?_
  refine env_put (d := 4) (v := .int .i64 0) E rfl (by decide) rfl (wanted_none rfl _) (run_assign rfl rfl) fun a E => ?_
  refine wpList_nil ?_
  refine then_n ?_
  refine wp_seq ?_
  refine wp_seq ?_
  refine wp_region_lit ?_
  refine env_put (d := 6) (v := .pointer (some ⟨r, 0, none⟩)) E rfl (by decide) rfl (wanted_none rfl _) (run_move rfl (E.get 1 rfl)) fun a E => ?_
  refine env_put (d := 7) (v := .bool false) E rfl (by decide) rfl (wanted_none rfl _) (run_pnil31 rfl (E.get 0 rfl) rfl) fun a E => ?_
  refine wpList_nil ?_
  refine then_n ?_
  refine wp_cond_false (E.get 0 rfl) ?_
  refine wp_skip ?_
  refine then_n ?_
  refine wp_seq ?_
  refine wp_seq ?_
  refine wp_region_lit ?_
  refine env_put (d := 8) (v := .pointer (some ⟨r, 0, none⟩)) E rfl (by decide) rfl (wanted_none rfl _) (run_move rfl (E.get 3 rfl)) fun a E => ?_
  refine env_put (d := 9) (v := .string s0) E rfl (by decide) rfl (wanted_none rfl _) (run_move rfl (E.get 5 rfl)) fun a E => ?_
  refine env_call (d := 10) (v := .bool (hasL I s0)) E rfl (by decide) rfl (wanted_none rfl _) (run_call2 (enters_of Try.func32 (by kernel_rfl) rfl) rfl rfl (E.get 1 rfl) (E.get 0 rfl)) (hasx_calls h s0) fun a w1 f1 E => ?_
  have h := RIAt.fr h f1 (fun _ _ h => h)
  have hT := hT.trans' f1 (fun _ _ h => h.elim)
  clear f1
  refine env_put (d := 11) (v := .bool (!(hasL I s0))) E rfl (by decide) rfl (wanted_none rfl _) (run_not rfl (E.get 0 rfl)) fun a E => ?_
  refine wpList_nil ?_
  refine then_n ?_
  cases hq22 : (hasL I s0) with
  | false =>
    rw [hq22] at E
    refine wp_cond_true (E.get 0 rfl) ?_
    refine wp_seq ?_
    refine wp_region_lit ?_
    refine env_set (d := 4) (v := .int .i64 11) E rfl (by decide) (wanted_none rfl _) (run_assign rfl rfl) fun a E => ?_
    refine wpList_nil ?_
    refine then_n ?_
    refine wp_ret ?_
    refine then_r ?_
    have hr : rdrop I J s0 = (11, I, J) := by simp [rdrop, hq22]
    refine ret_tmp (t := 4) rfl E (E.get 0 rfl) ⟨by rw [hr], _, ?_, hT, hS⟩
    rw [hr]
    exact ⟨_, _, h⟩
  | true =>
    rw [hq22] at E
    have hk1 : atL I s0 < I.length := hasL_lt hq22
    have hk := Nat.le_of_lt hk1
    have hkJ : atL I s0 + 1 ≤ J.length := by omega
    have hkJ0 : atL I s0 ≤ J.length := by omega
    refine wp_cond_false (E.get 0 rfl) ?_
    refine wp_skip ?_
    refine then_n ?_
    refine wp_seq ?_
    refine wp_region_lit ?_
    refine env_put (d := 12) (v := .pointer (some ⟨r, 0, none⟩)) E rfl (by decide) rfl (wanted_none rfl _) (run_move rfl (E.get 7 rfl)) fun a E => ?_
    refine env_put (d := 13) (v := .string s0) E rfl (by decide) rfl (wanted_none rfl _) (run_move rfl (E.get 9 rfl)) fun a E => ?_
    refine env_call (d := 14) (v := .int .i64 (atL I s0 : Int)) E rfl (by decide) rfl (wanted_none rfl _) (run_call2 (enters_of Try.func33 (by kernel_rfl) rfl) rfl rfl (E.get 1 rfl) (E.get 0 rfl)) (at_calls h s0) fun a w1 f1 E => ?_
    have h := RIAt.fr h f1 (fun _ _ h => h)
    have hT := hT.trans' f1 (fun _ _ h => h.elim)
    clear f1
    refine env_put (d := 5) (v := .int .i64 (atL I s0 : Int)) E rfl (by decide) rfl (wanted_none rfl _) (run_assign rfl (E.get 0 rfl)) fun a E => ?_
    refine wpList_nil ?_
    refine then_n ?_
    refine wp_seq ?_
    obtain ⟨B, hB⟩ : ∃ B, B = w1.heap.size := ⟨_, rfl⟩
    have hBs : B ≤ w1.heap.size := by omega
    have h0 := h
    have hσ : ∀ k, σ k → k < B := fun k hk => by have := h.lt k hk; omega
    obtain ⟨p0q, cp0q, hv0q, hle0q, hcap0q, hs0, hz0q⟩ := h.isrc
    cases hv0q
    have hs0 := hs0.mono (G' := B) (by omega)
    have hst := hs0.take (atL I s0)
    obtain ⟨pd0, cd0, hrd, hsd, hzd⟩ := src_drop42 (i := atL I s0 + 1) hs0 hz0 hle0 hk1
    clear hs0
    refine wp_region_invx (G := Nat × Value × Value) (0, undef, undef) (n := 53) (base := [(5, .int .i64 (atL I s0 : Int)), (14, .int .i64 (atL I s0 : Int)), (13, .string s0), (12, .pointer (some ⟨r, 0, none⟩)), (11, .bool false), (10, .bool true), (9, .string s0), (8, .pointer (some ⟨r, 0, none⟩)), (7, .bool false), (6, .pointer (some ⟨r, 0, none⟩)), (4, .int .i64 0), (0, .pointer (some ⟨r, 0, none⟩)), (1, .string s0)]) (U := []) (T := fun γ => [some (15, .pointer (some ⟨r, 0, none⟩)), some (16, .slice (some ⟨γ.1, 0, none⟩) 0 0), some (17, .pointer (some ⟨r, 0, none⟩)), some (18, .pointer (some ⟨r, 0, none⟩)), some (19, .pointer (some ⟨r, 0, none⟩)), some (20, .slice (p0) I.length cp0), some (21, .int .i64 (atL I s0 : Int)), some (22, .slice (p0) (I.take (atL I s0)).length cp0), some (23, γ.2.1), some (24, .pointer (some ⟨r, 0, none⟩)), some (25, .pointer (some ⟨r, 0, none⟩)), some (26, .pointer (some ⟨r, 0, none⟩)), some (27, .slice (p0) I.length cp0), some (28, .int .i64 (atL I s0 : Int)), some (29, .int .i64 ((atL I s0 : Int) + 1)), some (30, .slice (pd0) (I.drop (atL I s0 + 1)).length cd0), some (31, γ.2.2), some (32, .pointer (some ⟨r, 0, none⟩)), some (33, .pointer (some ⟨r, 0, none⟩)), none]) (M := fun γ ls9 wm => (ls9 19 = false → Fr (fun k => B ≤ k) w1 wm ∧ (ls9 1 = true → ls9 8 = false → oStr wm B (.slice (some ⟨γ.1, 0, none⟩) 0 0) []) ∧ (ls9 8 = true → ls9 16 = false → oStr wm B (γ.2.1) ([] ++ (I.take (atL I s0)))) ∧ (ls9 16 = true → oStr wm B (γ.2.2) (([] ++ (I.take (atL I s0))) ++ (I.drop (atL I s0 + 1))))) ∧ (ls9 19 = true → ∃ σ9, RIAt wm r σ9 ((([] : List ByteArray) ++ (I.take (atL I s0))) ++ (I.drop (atL I s0 + 1))) J γ.2.2 (.slice p1 J.length cp1) ∧ Fr σ w1 wm ∧ ∀ k, k < w1.heap.size → σ9 k → σ k)) (by kernel_rfl) (by kernel_rfl) (fun _ => by kernel_rfl) (E.of ⟨E.get 0 rfl, E.get 1 rfl, E.get 2 rfl, E.get 3 rfl, E.get 4 rfl, E.get 5 rfl, E.get 6 rfl, E.get 7 rfl, E.get 8 rfl, E.get 9 rfl, E.get 10 rfl, E.get 11 rfl, E.get 12 rfl, trivial⟩) (fun x hx => by cases hx) ⟨fun _ => ⟨(Fr.refl _ _).drew, fun h _ => absurd h Bool.false_ne_true, fun h _ => absurd h Bool.false_ne_true, fun h => absurd h Bool.false_ne_true⟩, fun h => absurd h Bool.false_ne_true⟩ ?_ ?_
    · intro j9 o9 γ ls9 a w5 ho hl E D DL DL2 hB hMM
      match j9, ho, hl, D, DL, hB with
      | 0, ho, hl, D, DL, hB =>
        have h7 : ls9 19 = false := by
          cases h9 : ls9 19 with
          | false => rfl
          | true => exact absurd (hl.symm.trans (DL2 17 0 rfl (DL2 18 17 rfl (DL2 19 18 rfl h9)))) (by decide)
        have hM := hMM.1 h7
        have h := RIAt.fr h hM.1 (fun k hk e => by have := hσ k hk; omega)
        have hst := hst.fr hM.1 (fun r hr e => by omega)
        have hsd := hsd.fr hM.1 (fun r hr e => by omega)
        obtain rfl := Option.some.inj ho
        exact ⟨fun _ => valx rfl (run_move rfl (E.get 11 rfl)) rfl ⟨fun _ => hM, fun h => absurd (h7.symm.trans h) (by decide)⟩, fun h => by rw [wanted_none rfl] at h; cases h⟩
      | 1, ho, hl, D, DL, hB =>
        have h7 : ls9 19 = false := by
          cases h9 : ls9 19 with
          | false => rfl
          | true => exact absurd (hl.symm.trans (DL2 8 1 rfl (DL2 16 8 rfl (DL2 19 16 rfl h9)))) (by decide)
        have hM := hMM.1 h7
        have h := RIAt.fr h hM.1 (fun k hk e => by have := hσ k hk; omega)
        have hst := hst.fr hM.1 (fun r hr e => by omega)
        have hsd := hsd.fr hM.1 (fun r hr e => by omega)
        obtain rfl := Option.some.inj ho
        exact ⟨fun _ => valxw (w5.heap.size, γ.2.1, γ.2.2) rfl (run_emp42 rfl) rfl (fun j hj => match j, hj with | 0, _ => rfl | 1, hj => absurd (hl.symm.trans hj) (by decide) | 2, _ => rfl | 3, _ => rfl | 4, _ => rfl | 5, _ => rfl | 6, _ => rfl | 7, _ => rfl | 8, _ => rfl | 9, _ => rfl | 10, _ => rfl | 11, _ => rfl | 12, _ => rfl | 13, _ => rfl | 14, _ => rfl | 15, _ => rfl | 16, _ => rfl | 17, _ => rfl | 18, _ => rfl | 19, _ => rfl | e9 + 20, _ => rfl) (⟨fun _ => ⟨hM.1.trans' ((Fr.refl (fun _ => False) w5).alloc _) (fun _ _ h => h.elim), fun _ _ => ow_empty w5 (Nat.le_trans hBs hM.1.size), fun h h2 => ow.fr (hM.2.2.1 h h2) ((Fr.refl (fun _ => False) w5).alloc _) (fun _ _ h => h), fun h => ow.fr (hM.2.2.2 h) ((Fr.refl (fun _ => False) w5).alloc _) (fun _ _ h => h)⟩, fun h => absurd (h7.symm.trans h) (by decide)⟩), fun h => by rw [wanted_none rfl] at h; cases h⟩
      | 2, ho, hl, D, DL, hB =>
        have h7 : ls9 19 = false := by
          cases h9 : ls9 19 with
          | false => rfl
          | true => exact absurd (hl.symm.trans (DL2 3 2 rfl (DL2 4 3 rfl (DL2 5 4 rfl (DL2 7 5 rfl (DL2 8 7 rfl (DL2 16 8 rfl (DL2 19 16 rfl h9)))))))) (by decide)
        have hM := hMM.1 h7
        have h := RIAt.fr h hM.1 (fun k hk e => by have := hσ k hk; omega)
        have hst := hst.fr hM.1 (fun r hr e => by omega)
        have hsd := hsd.fr hM.1 (fun r hr e => by omega)
        obtain rfl := Option.some.inj ho
        exact ⟨fun _ => valx rfl (run_move rfl (E.get 11 rfl)) rfl ⟨fun _ => hM, fun h => absurd (h7.symm.trans h) (by decide)⟩, fun h => by rw [wanted_none rfl] at h; cases h⟩
      | 3, ho, hl, D, DL, hB =>
        have h7 : ls9 19 = false := by
          cases h9 : ls9 19 with
          | false => rfl
          | true => exact absurd (hl.symm.trans (DL2 4 3 rfl (DL2 5 4 rfl (DL2 7 5 rfl (DL2 8 7 rfl (DL2 16 8 rfl (DL2 19 16 rfl h9))))))) (by decide)
        have hM := hMM.1 h7
        have h := RIAt.fr h hM.1 (fun k hk e => by have := hσ k hk; omega)
        have hst := hst.fr hM.1 (fun r hr e => by omega)
        have hsd := hsd.fr hM.1 (fun r hr e => by omega)
        obtain rfl := Option.some.inj ho
        exact ⟨fun _ => valx rfl (run_nilchk rfl (D 2 _ rfl rfl)) rfl ⟨fun _ => hM, fun h => absurd (h7.symm.trans h) (by decide)⟩, fun h => by rw [wanted_none rfl] at h; cases h⟩
      | 4, ho, hl, D, DL, hB =>
        have h7 : ls9 19 = false := by
          cases h9 : ls9 19 with
          | false => rfl
          | true => exact absurd (hl.symm.trans (DL2 5 4 rfl (DL2 7 5 rfl (DL2 8 7 rfl (DL2 16 8 rfl (DL2 19 16 rfl h9)))))) (by decide)
        have hM := hMM.1 h7
        have h := RIAt.fr h hM.1 (fun k hk e => by have := hσ k hk; omega)
        have hst := hst.fr hM.1 (fun r hr e => by omega)
        have hsd := hsd.fr hM.1 (fun r hr e => by omega)
        obtain rfl := Option.some.inj ho
        exact ⟨fun _ => valx rfl (fa64_0 rfl (D 3 _ rfl rfl)) rfl ⟨fun _ => hM, fun h => absurd (h7.symm.trans h) (by decide)⟩, fun h => by rw [wanted_none rfl] at h; cases h⟩
      | 5, ho, hl, D, DL, hB =>
        have h7 : ls9 19 = false := by
          cases h9 : ls9 19 with
          | false => rfl
          | true => exact absurd (hl.symm.trans (DL2 7 5 rfl (DL2 8 7 rfl (DL2 16 8 rfl (DL2 19 16 rfl h9))))) (by decide)
        have hM := hMM.1 h7
        have h := RIAt.fr h hM.1 (fun k hk e => by have := hσ k hk; omega)
        have hst := hst.fr hM.1 (fun r hr e => by omega)
        have hsd := hsd.fr hM.1 (fun r hr e => by omega)
        obtain rfl := Option.some.inj ho
        exact ⟨fun _ => valx rfl (run_ld42 rfl (D 4 _ rfl rfl) h.c0) rfl ⟨fun _ => hM, fun h => absurd (h7.symm.trans h) (by decide)⟩, fun h => by rw [wanted_none rfl] at h; cases h⟩
      | 6, ho, hl, D, DL, hB =>
        have h7 : ls9 19 = false := by
          cases h9 : ls9 19 with
          | false => rfl
          | true => exact absurd (hl.symm.trans (DL2 7 6 rfl (DL2 8 7 rfl (DL2 16 8 rfl (DL2 19 16 rfl h9))))) (by decide)
        have hM := hMM.1 h7
        have h := RIAt.fr h hM.1 (fun k hk e => by have := hσ k hk; omega)
        have hst := hst.fr hM.1 (fun r hr e => by omega)
        have hsd := hsd.fr hM.1 (fun r hr e => by omega)
        obtain rfl := Option.some.inj ho
        exact ⟨fun _ => valx rfl (run_move rfl (E.get 0 rfl)) rfl ⟨fun _ => hM, fun h => absurd (h7.symm.trans h) (by decide)⟩, fun h => by rw [wanted_none rfl] at h; cases h⟩
      | 7, ho, hl, D, DL, hB =>
        have h7 : ls9 19 = false := by
          cases h9 : ls9 19 with
          | false => rfl
          | true => exact absurd (hl.symm.trans (DL2 8 7 rfl (DL2 16 8 rfl (DL2 19 16 rfl h9)))) (by decide)
        have hM := hMM.1 h7
        have h := RIAt.fr h hM.1 (fun k hk e => by have := hσ k hk; omega)
        have hst := hst.fr hM.1 (fun r hr e => by omega)
        have hsd := hsd.fr hM.1 (fun r hr e => by omega)
        obtain rfl := Option.some.inj ho
        exact ⟨fun _ => valx rfl (run_sto42 rfl (D 5 _ rfl rfl) (D 6 _ rfl rfl) hle0 hk) rfl ⟨fun _ => hM, fun h => absurd (h7.symm.trans h) (by decide)⟩, fun h => by rw [wanted_none rfl] at h; cases h⟩
      | 8, ho, hl, D, DL, hB =>
        have h7 : ls9 19 = false := by
          cases h9 : ls9 19 with
          | false => rfl
          | true => exact absurd (hl.symm.trans (DL2 16 8 rfl (DL2 19 16 rfl h9))) (by decide)
        have hM := hMM.1 h7
        have h := RIAt.fr h hM.1 (fun k hk e => by have := hσ k hk; omega)
        have hst := hst.fr hM.1 (fun r hr e => by omega)
        have hsd := hsd.fr hM.1 (fun r hr e => by omega)
        have hO := hM.2.1 (DL 1 rfl) hl
        obtain ⟨v9, w9, c0, c1, c2, c3⟩ := app42 (o := o9) (ρ := a.eval) (congrArg Oper.op (Option.some.inj ho)).symm (D 1 _ rfl rfl) (D 7 _ rfl rfl) hO hst hz0 (by simp only [List.length_append, List.length_cons, List.length_nil, List.length_take, List.length_drop]; omega) (Nat.le_trans hBs hM.1.size)
        obtain rfl := Option.some.inj ho
        exact ⟨fun _ => valxw (γ.1, v9, γ.2.2) rfl c0 rfl (fun j hj => match j, hj with | 0, _ => rfl | 1, _ => rfl | 2, _ => rfl | 3, _ => rfl | 4, _ => rfl | 5, _ => rfl | 6, _ => rfl | 7, _ => rfl | 8, hj => absurd (hl.symm.trans hj) (by decide) | 9, _ => rfl | 10, _ => rfl | 11, _ => rfl | 12, _ => rfl | 13, _ => rfl | 14, _ => rfl | 15, _ => rfl | 16, _ => rfl | 17, _ => rfl | 18, _ => rfl | 19, _ => rfl | e9 + 20, _ => rfl) (⟨fun _ => ⟨hM.1.trans' c2 (fun r _ e => (hO.lt e).1), fun _ h => by simp at h, fun _ _ => c1, fun h => absurd (hl.symm.trans ((DL2 16 8 rfl (by simpa using h)))) (by decide)⟩, fun h => absurd (h7.symm.trans h) (by decide)⟩), fun h => by rw [wanted_none rfl] at h; cases h⟩
      | 9, ho, hl, D, DL, hB =>
        have h7 : ls9 19 = false := by
          cases h9 : ls9 19 with
          | false => rfl
          | true => exact absurd (hl.symm.trans (DL2 10 9 rfl (DL2 11 10 rfl (DL2 12 11 rfl (DL2 15 12 rfl (DL2 16 15 rfl (DL2 19 16 rfl h9))))))) (by decide)
        have hM := hMM.1 h7
        have h := RIAt.fr h hM.1 (fun k hk e => by have := hσ k hk; omega)
        have hst := hst.fr hM.1 (fun r hr e => by omega)
        have hsd := hsd.fr hM.1 (fun r hr e => by omega)
        obtain rfl := Option.some.inj ho
        exact ⟨fun _ => valx rfl (run_move rfl (E.get 11 rfl)) rfl ⟨fun _ => hM, fun h => absurd (h7.symm.trans h) (by decide)⟩, fun h => by rw [wanted_none rfl] at h; cases h⟩
      | 10, ho, hl, D, DL, hB =>
        have h7 : ls9 19 = false := by
          cases h9 : ls9 19 with
          | false => rfl
          | true => exact absurd (hl.symm.trans (DL2 11 10 rfl (DL2 12 11 rfl (DL2 15 12 rfl (DL2 16 15 rfl (DL2 19 16 rfl h9)))))) (by decide)
        have hM := hMM.1 h7
        have h := RIAt.fr h hM.1 (fun k hk e => by have := hσ k hk; omega)
        have hst := hst.fr hM.1 (fun r hr e => by omega)
        have hsd := hsd.fr hM.1 (fun r hr e => by omega)
        obtain rfl := Option.some.inj ho
        exact ⟨fun _ => valx rfl (run_nilchk rfl (D 9 _ rfl rfl)) rfl ⟨fun _ => hM, fun h => absurd (h7.symm.trans h) (by decide)⟩, fun h => by rw [wanted_none rfl] at h; cases h⟩
      | 11, ho, hl, D, DL, hB =>
        have h7 : ls9 19 = false := by
          cases h9 : ls9 19 with
          | false => rfl
          | true => exact absurd (hl.symm.trans (DL2 12 11 rfl (DL2 15 12 rfl (DL2 16 15 rfl (DL2 19 16 rfl h9))))) (by decide)
        have hM := hMM.1 h7
        have h := RIAt.fr h hM.1 (fun k hk e => by have := hσ k hk; omega)
        have hst := hst.fr hM.1 (fun r hr e => by omega)
        have hsd := hsd.fr hM.1 (fun r hr e => by omega)
        obtain rfl := Option.some.inj ho
        exact ⟨fun _ => valx rfl (fa64_0 rfl (D 10 _ rfl rfl)) rfl ⟨fun _ => hM, fun h => absurd (h7.symm.trans h) (by decide)⟩, fun h => by rw [wanted_none rfl] at h; cases h⟩
      | 12, ho, hl, D, DL, hB =>
        have h7 : ls9 19 = false := by
          cases h9 : ls9 19 with
          | false => rfl
          | true => exact absurd (hl.symm.trans (DL2 15 12 rfl (DL2 16 15 rfl (DL2 19 16 rfl h9)))) (by decide)
        have hM := hMM.1 h7
        have h := RIAt.fr h hM.1 (fun k hk e => by have := hσ k hk; omega)
        have hst := hst.fr hM.1 (fun r hr e => by omega)
        have hsd := hsd.fr hM.1 (fun r hr e => by omega)
        obtain rfl := Option.some.inj ho
        exact ⟨fun _ => valx rfl (run_ld42 rfl (D 11 _ rfl rfl) h.c0) rfl ⟨fun _ => hM, fun h => absurd (h7.symm.trans h) (by decide)⟩, fun h => by rw [wanted_none rfl] at h; cases h⟩
      | 13, ho, hl, D, DL, hB =>
        have h7 : ls9 19 = false := by
          cases h9 : ls9 19 with
          | false => rfl
          | true => exact absurd (hl.symm.trans (DL2 14 13 rfl (DL2 15 14 rfl (DL2 16 15 rfl (DL2 19 16 rfl h9))))) (by decide)
        have hM := hMM.1 h7
        have h := RIAt.fr h hM.1 (fun k hk e => by have := hσ k hk; omega)
        have hst := hst.fr hM.1 (fun r hr e => by omega)
        have hsd := hsd.fr hM.1 (fun r hr e => by omega)
        obtain rfl := Option.some.inj ho
        exact ⟨fun _ => valx rfl (run_move rfl (E.get 0 rfl)) rfl ⟨fun _ => hM, fun h => absurd (h7.symm.trans h) (by decide)⟩, fun h => by rw [wanted_none rfl] at h; cases h⟩
      | 14, ho, hl, D, DL, hB =>
        have h7 : ls9 19 = false := by
          cases h9 : ls9 19 with
          | false => rfl
          | true => exact absurd (hl.symm.trans (DL2 15 14 rfl (DL2 16 15 rfl (DL2 19 16 rfl h9)))) (by decide)
        have hM := hMM.1 h7
        have h := RIAt.fr h hM.1 (fun k hk e => by have := hσ k hk; omega)
        have hst := hst.fr hM.1 (fun r hr e => by omega)
        have hsd := hsd.fr hM.1 (fun r hr e => by omega)
        obtain rfl := Option.some.inj ho
        exact ⟨fun _ => valx rfl (run_iadd Try.underlying3 (D 13 _ rfl rfl) rfl (by omega) (by omega) rfl) rfl ⟨fun _ => hM, fun h => absurd (h7.symm.trans h) (by decide)⟩, fun h => by rw [wanted_none rfl] at h; cases h⟩
      | 15, ho, hl, D, DL, hB =>
        have h7 : ls9 19 = false := by
          cases h9 : ls9 19 with
          | false => rfl
          | true => exact absurd (hl.symm.trans (DL2 16 15 rfl (DL2 19 16 rfl h9))) (by decide)
        have hM := hMM.1 h7
        have h := RIAt.fr h hM.1 (fun k hk e => by have := hσ k hk; omega)
        have hst := hst.fr hM.1 (fun r hr e => by omega)
        have hsd := hsd.fr hM.1 (fun r hr e => by omega)
        obtain rfl := Option.some.inj ho
        exact ⟨fun _ => valx rfl (hrd _ _ _ _ _ rfl (D 12 _ rfl rfl) (D 14 _ rfl rfl)) rfl ⟨fun _ => hM, fun h => absurd (h7.symm.trans h) (by decide)⟩, fun h => by rw [wanted_none rfl] at h; cases h⟩
      | 16, ho, hl, D, DL, hB =>
        have h7 : ls9 19 = false := by
          cases h9 : ls9 19 with
          | false => rfl
          | true => exact absurd (hl.symm.trans (DL2 19 16 rfl h9)) (by decide)
        have hM := hMM.1 h7
        have h := RIAt.fr h hM.1 (fun k hk e => by have := hσ k hk; omega)
        have hst := hst.fr hM.1 (fun r hr e => by omega)
        have hsd := hsd.fr hM.1 (fun r hr e => by omega)
        have hO := hM.2.2.1 (DL 8 rfl) hl
        obtain ⟨v9, w9, c0, c1, c2, c3⟩ := app42 (o := o9) (ρ := a.eval) (congrArg Oper.op (Option.some.inj ho)).symm (D 8 _ rfl rfl) (D 15 _ rfl rfl) hO hsd hzd (by simp only [List.length_append, List.length_cons, List.length_nil, List.length_take, List.length_drop]; omega) (Nat.le_trans hBs hM.1.size)
        obtain rfl := Option.some.inj ho
        exact ⟨fun _ => valxw (γ.1, γ.2.1, v9) rfl c0 rfl (fun j hj => match j, hj with | 0, _ => rfl | 1, _ => rfl | 2, _ => rfl | 3, _ => rfl | 4, _ => rfl | 5, _ => rfl | 6, _ => rfl | 7, _ => rfl | 8, _ => rfl | 9, _ => rfl | 10, _ => rfl | 11, _ => rfl | 12, _ => rfl | 13, _ => rfl | 14, _ => rfl | 15, _ => rfl | 16, hj => absurd (hl.symm.trans hj) (by decide) | 17, _ => rfl | 18, _ => rfl | 19, _ => rfl | e9 + 20, _ => rfl) (⟨fun _ => ⟨hM.1.trans' c2 (fun r _ e => (hO.lt e).1), fun h h2 => absurd (h2.symm.trans (by simp; exact DL 8 rfl)) (by decide), fun _ h => by simp at h, fun _ => c1⟩, fun h => absurd (h7.symm.trans h) (by decide)⟩), fun h => by rw [wanted_none rfl] at h; cases h⟩
      | 17, ho, hl, D, DL, hB =>
        have h7 : ls9 19 = false := by
          cases h9 : ls9 19 with
          | false => rfl
          | true => exact absurd (hl.symm.trans (DL2 18 17 rfl (DL2 19 18 rfl h9))) (by decide)
        have hM := hMM.1 h7
        have h := RIAt.fr h hM.1 (fun k hk e => by have := hσ k hk; omega)
        have hst := hst.fr hM.1 (fun r hr e => by omega)
        have hsd := hsd.fr hM.1 (fun r hr e => by omega)
        obtain rfl := Option.some.inj ho
        exact ⟨fun _ => valx rfl (run_nilchk rfl (D 0 _ rfl rfl)) rfl ⟨fun _ => hM, fun h => absurd (h7.symm.trans h) (by decide)⟩, fun h => by rw [wanted_none rfl] at h; cases h⟩
      | 18, ho, hl, D, DL, hB =>
        have h7 : ls9 19 = false := by
          cases h9 : ls9 19 with
          | false => rfl
          | true => exact absurd (hl.symm.trans (DL2 19 18 rfl h9)) (by decide)
        have hM := hMM.1 h7
        have h := RIAt.fr h hM.1 (fun k hk e => by have := hσ k hk; omega)
        have hst := hst.fr hM.1 (fun r hr e => by omega)
        have hsd := hsd.fr hM.1 (fun r hr e => by omega)
        obtain rfl := Option.some.inj ho
        exact ⟨fun _ => valx rfl (fa64_0 rfl (D 17 _ rfl rfl)) rfl ⟨fun _ => hM, fun h => absurd (h7.symm.trans h) (by decide)⟩, fun h => by rw [wanted_none rfl] at h; cases h⟩
      | 19, ho, hl, D, DL, hB =>
        have hM := hMM.1 hl
        have h := RIAt.fr h hM.1 (fun k hk e => by have := hσ k hk; omega)
        have hst := hst.fr hM.1 (fun r hr e => by omega)
        have hsd := hsd.fr hM.1 (fun r hr e => by omega)
        have hg := (Fr.refl (fun _ => False) w1).trans' hM.1 (fun r hr e => by omega)
        have hO := hM.2.2.2 (DL 16 rfl)
        obtain ⟨⟨pn, nn, cn, hvv⟩, ⟨d1, d2⟩, σ9, hR1, f2, hs2⟩ := h0.setI hg hO (by omega)
        obtain rfl := Option.some.inj ho
        exact ⟨fun _ => storex rfl (run_st42 hvv rfl (D 18 _ rfl rfl) (D 16 _ rfl rfl) d1 d2) rfl ⟨fun h => by simp at h, fun _ => ⟨σ9, hR1, f2, hs2⟩⟩, fun h => by rw [wanted_none rfl] at h; cases h⟩
      | j9 + 20, ho, hl, D, DL, hB => exact absurd ho (by simp)
    · rintro ⟨γ24a, γ24b, γ24c⟩ a we0 E V hM
      clear V
      obtain ⟨σ9, hR1, f2, hs2⟩ := hM.2 rfl
      have hS' := fun k (hk : k < w.heap.size) h => hS k hk (hs2 k (Nat.lt_of_lt_of_le hk hT.size) h)
      have hT' := hT.trans' f2 (fun r hr h => hS r hr h)
      clear hS h0 hσ hst hsd hrd hzd hM f2 hs2 h hB hT
      have h := hR1
      have hT := hT'
      have hS := hS'
      clear hR1 hS' hT'
      clear hBs B
      generalize hI1 : (([] : List ByteArray) ++ (I.take (atL I s0))) ++ (I.drop (atL I s0 + 1)) = I1 at h
      obtain ⟨iv1, hiv1⟩ : ∃ v, v = γ24c := ⟨_, rfl⟩
      rw [← hiv1] at h
      obtain ⟨σ1, hσ1⟩ : ∃ s, s = σ9 := ⟨_, rfl⟩
      rw [← hσ1] at h hS
      clear hσ1 hiv1
      refine then_n ?_
      refine wp_seq ?_
      obtain ⟨B, hB⟩ : ∃ B, B = we0.heap.size := ⟨_, rfl⟩
      have hBs : B ≤ we0.heap.size := by omega
      have h0 := h
      have hσ : ∀ k, σ1 k → k < B := fun k hk => by have := h.lt k hk; omega
      obtain ⟨p1q, cp1q, hv1q, hle1q, hcap1q, hs1, hz1q⟩ := h.jsrc
      cases hv1q
      have hs1 := hs1.mono (G' := B) (by omega)
      have hst := hs1.take (atL I s0)
      obtain ⟨pd1, cd1, hrd, hsd, hzd⟩ := src_drop62 (i := atL I s0 + 1) hs1 hz1 hle1 hkJ
      clear hs1
      refine wp_region_invx (G := Nat × Value × Value) (0, undef, undef) (n := 53) (base := [(5, .int .i64 (atL I s0 : Int)), (14, .int .i64 (atL I s0 : Int)), (13, .string s0), (12, .pointer (some ⟨r, 0, none⟩)), (11, .bool false), (10, .bool true), (9, .string s0), (8, .pointer (some ⟨r, 0, none⟩)), (7, .bool false), (6, .pointer (some ⟨r, 0, none⟩)), (4, .int .i64 0), (0, .pointer (some ⟨r, 0, none⟩)), (1, .string s0)]) (U := []) (T := fun γ => [some (34, .pointer (some ⟨r, 0, none⟩)), some (35, .slice (some ⟨γ.1, 0, none⟩) 0 0), some (36, .pointer (some ⟨r, 0, none⟩)), some (37, .pointer (some ⟨r, 0, none⟩)), some (38, .pointer (some ⟨r, 1, none⟩)), some (39, .slice (p1) J.length cp1), some (40, .int .i64 (atL I s0 : Int)), some (41, .slice (p1) (J.take (atL I s0)).length cp1), some (42, γ.2.1), some (43, .pointer (some ⟨r, 0, none⟩)), some (44, .pointer (some ⟨r, 0, none⟩)), some (45, .pointer (some ⟨r, 1, none⟩)), some (46, .slice (p1) J.length cp1), some (47, .int .i64 (atL I s0 : Int)), some (48, .int .i64 ((atL I s0 : Int) + 1)), some (49, .slice (pd1) (J.drop (atL I s0 + 1)).length cd1), some (50, γ.2.2), some (51, .pointer (some ⟨r, 0, none⟩)), some (52, .pointer (some ⟨r, 1, none⟩)), none]) (M := fun γ ls9 wm => (ls9 19 = false → Fr (fun k => B ≤ k) we0 wm ∧ (ls9 1 = true → ls9 8 = false → oBx wm B (.slice (some ⟨γ.1, 0, none⟩) 0 0) []) ∧ (ls9 8 = true → ls9 16 = false → oBx wm B (γ.2.1) ([] ++ (J.take (atL I s0)))) ∧ (ls9 16 = true → oBx wm B (γ.2.2) (([] ++ (J.take (atL I s0))) ++ (J.drop (atL I s0 + 1))))) ∧ (ls9 19 = true → ∃ σ9, RIAt wm r σ9 I1 ((([] : List Bx) ++ (J.take (atL I s0))) ++ (J.drop (atL I s0 + 1))) iv1 γ.2.2 ∧ Fr σ1 we0 wm ∧ ∀ k, k < we0.heap.size → σ9 k → σ1 k)) (by kernel_rfl) (by kernel_rfl) (fun _ => by kernel_rfl) (E.of ⟨E.get 0 rfl, E.get 1 rfl, E.get 2 rfl, E.get 3 rfl, E.get 4 rfl, E.get 5 rfl, E.get 6 rfl, E.get 7 rfl, E.get 8 rfl, E.get 9 rfl, E.get 10 rfl, E.get 11 rfl, E.get 12 rfl, trivial⟩) (fun x hx => by cases hx) ⟨fun _ => ⟨(Fr.refl _ _).drew, fun h _ => absurd h Bool.false_ne_true, fun h _ => absurd h Bool.false_ne_true, fun h => absurd h Bool.false_ne_true⟩, fun h => absurd h Bool.false_ne_true⟩ ?_ ?_
      · intro j9 o9 γ ls9 a w5 ho hl E D DL DL2 hB hMM
        match j9, ho, hl, D, DL, hB with
        | 0, ho, hl, D, DL, hB =>
          have h7 : ls9 19 = false := by
            cases h9 : ls9 19 with
            | false => rfl
            | true => exact absurd (hl.symm.trans (DL2 17 0 rfl (DL2 18 17 rfl (DL2 19 18 rfl h9)))) (by decide)
          have hM := hMM.1 h7
          have h := RIAt.fr h hM.1 (fun k hk e => by have := hσ k hk; omega)
          have hst := hst.fr hM.1 (fun r hr e => by omega)
          have hsd := hsd.fr hM.1 (fun r hr e => by omega)
          obtain rfl := Option.some.inj ho
          exact ⟨fun _ => valx rfl (run_move rfl (E.get 11 rfl)) rfl ⟨fun _ => hM, fun h => absurd (h7.symm.trans h) (by decide)⟩, fun h => by rw [wanted_none rfl] at h; cases h⟩
        | 1, ho, hl, D, DL, hB =>
          have h7 : ls9 19 = false := by
            cases h9 : ls9 19 with
            | false => rfl
            | true => exact absurd (hl.symm.trans (DL2 8 1 rfl (DL2 16 8 rfl (DL2 19 16 rfl h9)))) (by decide)
          have hM := hMM.1 h7
          have h := RIAt.fr h hM.1 (fun k hk e => by have := hσ k hk; omega)
          have hst := hst.fr hM.1 (fun r hr e => by omega)
          have hsd := hsd.fr hM.1 (fun r hr e => by omega)
          obtain rfl := Option.some.inj ho
          exact ⟨fun _ => valxw (w5.heap.size, γ.2.1, γ.2.2) rfl (run_emp62 rfl) rfl (fun j hj => match j, hj with | 0, _ => rfl | 1, hj => absurd (hl.symm.trans hj) (by decide) | 2, _ => rfl | 3, _ => rfl | 4, _ => rfl | 5, _ => rfl | 6, _ => rfl | 7, _ => rfl | 8, _ => rfl | 9, _ => rfl | 10, _ => rfl | 11, _ => rfl | 12, _ => rfl | 13, _ => rfl | 14, _ => rfl | 15, _ => rfl | 16, _ => rfl | 17, _ => rfl | 18, _ => rfl | 19, _ => rfl | e9 + 20, _ => rfl) (⟨fun _ => ⟨hM.1.trans' ((Fr.refl (fun _ => False) w5).alloc _) (fun _ _ h => h.elim), fun _ _ => ow_empty w5 (Nat.le_trans hBs hM.1.size), fun h h2 => ow.fr (hM.2.2.1 h h2) ((Fr.refl (fun _ => False) w5).alloc _) (fun _ _ h => h), fun h => ow.fr (hM.2.2.2 h) ((Fr.refl (fun _ => False) w5).alloc _) (fun _ _ h => h)⟩, fun h => absurd (h7.symm.trans h) (by decide)⟩), fun h => by rw [wanted_none rfl] at h; cases h⟩
        | 2, ho, hl, D, DL, hB =>
          have h7 : ls9 19 = false := by
            cases h9 : ls9 19 with
            | false => rfl
            | true => exact absurd (hl.symm.trans (DL2 3 2 rfl (DL2 4 3 rfl (DL2 5 4 rfl (DL2 7 5 rfl (DL2 8 7 rfl (DL2 16 8 rfl (DL2 19 16 rfl h9)))))))) (by decide)
          have hM := hMM.1 h7
          have h := RIAt.fr h hM.1 (fun k hk e => by have := hσ k hk; omega)
          have hst := hst.fr hM.1 (fun r hr e => by omega)
          have hsd := hsd.fr hM.1 (fun r hr e => by omega)
          obtain rfl := Option.some.inj ho
          exact ⟨fun _ => valx rfl (run_move rfl (E.get 11 rfl)) rfl ⟨fun _ => hM, fun h => absurd (h7.symm.trans h) (by decide)⟩, fun h => by rw [wanted_none rfl] at h; cases h⟩
        | 3, ho, hl, D, DL, hB =>
          have h7 : ls9 19 = false := by
            cases h9 : ls9 19 with
            | false => rfl
            | true => exact absurd (hl.symm.trans (DL2 4 3 rfl (DL2 5 4 rfl (DL2 7 5 rfl (DL2 8 7 rfl (DL2 16 8 rfl (DL2 19 16 rfl h9))))))) (by decide)
          have hM := hMM.1 h7
          have h := RIAt.fr h hM.1 (fun k hk e => by have := hσ k hk; omega)
          have hst := hst.fr hM.1 (fun r hr e => by omega)
          have hsd := hsd.fr hM.1 (fun r hr e => by omega)
          obtain rfl := Option.some.inj ho
          exact ⟨fun _ => valx rfl (run_nilchk rfl (D 2 _ rfl rfl)) rfl ⟨fun _ => hM, fun h => absurd (h7.symm.trans h) (by decide)⟩, fun h => by rw [wanted_none rfl] at h; cases h⟩
        | 4, ho, hl, D, DL, hB =>
          have h7 : ls9 19 = false := by
            cases h9 : ls9 19 with
            | false => rfl
            | true => exact absurd (hl.symm.trans (DL2 5 4 rfl (DL2 7 5 rfl (DL2 8 7 rfl (DL2 16 8 rfl (DL2 19 16 rfl h9)))))) (by decide)
          have hM := hMM.1 h7
          have h := RIAt.fr h hM.1 (fun k hk e => by have := hσ k hk; omega)
          have hst := hst.fr hM.1 (fun r hr e => by omega)
          have hsd := hsd.fr hM.1 (fun r hr e => by omega)
          obtain rfl := Option.some.inj ho
          exact ⟨fun _ => valx rfl (fa64_1 rfl (D 3 _ rfl rfl)) rfl ⟨fun _ => hM, fun h => absurd (h7.symm.trans h) (by decide)⟩, fun h => by rw [wanted_none rfl] at h; cases h⟩
        | 5, ho, hl, D, DL, hB =>
          have h7 : ls9 19 = false := by
            cases h9 : ls9 19 with
            | false => rfl
            | true => exact absurd (hl.symm.trans (DL2 7 5 rfl (DL2 8 7 rfl (DL2 16 8 rfl (DL2 19 16 rfl h9))))) (by decide)
          have hM := hMM.1 h7
          have h := RIAt.fr h hM.1 (fun k hk e => by have := hσ k hk; omega)
          have hst := hst.fr hM.1 (fun r hr e => by omega)
          have hsd := hsd.fr hM.1 (fun r hr e => by omega)
          obtain rfl := Option.some.inj ho
          exact ⟨fun _ => valx rfl (run_ld62 rfl (D 4 _ rfl rfl) h.c1) rfl ⟨fun _ => hM, fun h => absurd (h7.symm.trans h) (by decide)⟩, fun h => by rw [wanted_none rfl] at h; cases h⟩
        | 6, ho, hl, D, DL, hB =>
          have h7 : ls9 19 = false := by
            cases h9 : ls9 19 with
            | false => rfl
            | true => exact absurd (hl.symm.trans (DL2 7 6 rfl (DL2 8 7 rfl (DL2 16 8 rfl (DL2 19 16 rfl h9))))) (by decide)
          have hM := hMM.1 h7
          have h := RIAt.fr h hM.1 (fun k hk e => by have := hσ k hk; omega)
          have hst := hst.fr hM.1 (fun r hr e => by omega)
          have hsd := hsd.fr hM.1 (fun r hr e => by omega)
          obtain rfl := Option.some.inj ho
          exact ⟨fun _ => valx rfl (run_move rfl (E.get 0 rfl)) rfl ⟨fun _ => hM, fun h => absurd (h7.symm.trans h) (by decide)⟩, fun h => by rw [wanted_none rfl] at h; cases h⟩
        | 7, ho, hl, D, DL, hB =>
          have h7 : ls9 19 = false := by
            cases h9 : ls9 19 with
            | false => rfl
            | true => exact absurd (hl.symm.trans (DL2 8 7 rfl (DL2 16 8 rfl (DL2 19 16 rfl h9)))) (by decide)
          have hM := hMM.1 h7
          have h := RIAt.fr h hM.1 (fun k hk e => by have := hσ k hk; omega)
          have hst := hst.fr hM.1 (fun r hr e => by omega)
          have hsd := hsd.fr hM.1 (fun r hr e => by omega)
          obtain rfl := Option.some.inj ho
          exact ⟨fun _ => valx rfl (run_sto62 rfl (D 5 _ rfl rfl) (D 6 _ rfl rfl) hle1 hkJ0) rfl ⟨fun _ => hM, fun h => absurd (h7.symm.trans h) (by decide)⟩, fun h => by rw [wanted_none rfl] at h; cases h⟩
        | 8, ho, hl, D, DL, hB =>
          have h7 : ls9 19 = false := by
            cases h9 : ls9 19 with
            | false => rfl
            | true => exact absurd (hl.symm.trans (DL2 16 8 rfl (DL2 19 16 rfl h9))) (by decide)
          have hM := hMM.1 h7
          have h := RIAt.fr h hM.1 (fun k hk e => by have := hσ k hk; omega)
          have hst := hst.fr hM.1 (fun r hr e => by omega)
          have hsd := hsd.fr hM.1 (fun r hr e => by omega)
          have hO := hM.2.1 (DL 1 rfl) hl
          obtain ⟨v9, w9, c0, c1, c2, c3⟩ := app62 (o := o9) (ρ := a.eval) (congrArg Oper.op (Option.some.inj ho)).symm (D 1 _ rfl rfl) (D 7 _ rfl rfl) hO hst hz1 (by simp only [List.length_append, List.length_cons, List.length_nil, List.length_take, List.length_drop]; omega) (Nat.le_trans hBs hM.1.size)
          obtain rfl := Option.some.inj ho
          exact ⟨fun _ => valxw (γ.1, v9, γ.2.2) rfl c0 rfl (fun j hj => match j, hj with | 0, _ => rfl | 1, _ => rfl | 2, _ => rfl | 3, _ => rfl | 4, _ => rfl | 5, _ => rfl | 6, _ => rfl | 7, _ => rfl | 8, hj => absurd (hl.symm.trans hj) (by decide) | 9, _ => rfl | 10, _ => rfl | 11, _ => rfl | 12, _ => rfl | 13, _ => rfl | 14, _ => rfl | 15, _ => rfl | 16, _ => rfl | 17, _ => rfl | 18, _ => rfl | 19, _ => rfl | e9 + 20, _ => rfl) (⟨fun _ => ⟨hM.1.trans' c2 (fun r _ e => (hO.lt e).1), fun _ h => by simp at h, fun _ _ => c1, fun h => absurd (hl.symm.trans ((DL2 16 8 rfl (by simpa using h)))) (by decide)⟩, fun h => absurd (h7.symm.trans h) (by decide)⟩), fun h => by rw [wanted_none rfl] at h; cases h⟩
        | 9, ho, hl, D, DL, hB =>
          have h7 : ls9 19 = false := by
            cases h9 : ls9 19 with
            | false => rfl
            | true => exact absurd (hl.symm.trans (DL2 10 9 rfl (DL2 11 10 rfl (DL2 12 11 rfl (DL2 15 12 rfl (DL2 16 15 rfl (DL2 19 16 rfl h9))))))) (by decide)
          have hM := hMM.1 h7
          have h := RIAt.fr h hM.1 (fun k hk e => by have := hσ k hk; omega)
          have hst := hst.fr hM.1 (fun r hr e => by omega)
          have hsd := hsd.fr hM.1 (fun r hr e => by omega)
          obtain rfl := Option.some.inj ho
          exact ⟨fun _ => valx rfl (run_move rfl (E.get 11 rfl)) rfl ⟨fun _ => hM, fun h => absurd (h7.symm.trans h) (by decide)⟩, fun h => by rw [wanted_none rfl] at h; cases h⟩
        | 10, ho, hl, D, DL, hB =>
          have h7 : ls9 19 = false := by
            cases h9 : ls9 19 with
            | false => rfl
            | true => exact absurd (hl.symm.trans (DL2 11 10 rfl (DL2 12 11 rfl (DL2 15 12 rfl (DL2 16 15 rfl (DL2 19 16 rfl h9)))))) (by decide)
          have hM := hMM.1 h7
          have h := RIAt.fr h hM.1 (fun k hk e => by have := hσ k hk; omega)
          have hst := hst.fr hM.1 (fun r hr e => by omega)
          have hsd := hsd.fr hM.1 (fun r hr e => by omega)
          obtain rfl := Option.some.inj ho
          exact ⟨fun _ => valx rfl (run_nilchk rfl (D 9 _ rfl rfl)) rfl ⟨fun _ => hM, fun h => absurd (h7.symm.trans h) (by decide)⟩, fun h => by rw [wanted_none rfl] at h; cases h⟩
        | 11, ho, hl, D, DL, hB =>
          have h7 : ls9 19 = false := by
            cases h9 : ls9 19 with
            | false => rfl
            | true => exact absurd (hl.symm.trans (DL2 12 11 rfl (DL2 15 12 rfl (DL2 16 15 rfl (DL2 19 16 rfl h9))))) (by decide)
          have hM := hMM.1 h7
          have h := RIAt.fr h hM.1 (fun k hk e => by have := hσ k hk; omega)
          have hst := hst.fr hM.1 (fun r hr e => by omega)
          have hsd := hsd.fr hM.1 (fun r hr e => by omega)
          obtain rfl := Option.some.inj ho
          exact ⟨fun _ => valx rfl (fa64_1 rfl (D 10 _ rfl rfl)) rfl ⟨fun _ => hM, fun h => absurd (h7.symm.trans h) (by decide)⟩, fun h => by rw [wanted_none rfl] at h; cases h⟩
        | 12, ho, hl, D, DL, hB =>
          have h7 : ls9 19 = false := by
            cases h9 : ls9 19 with
            | false => rfl
            | true => exact absurd (hl.symm.trans (DL2 15 12 rfl (DL2 16 15 rfl (DL2 19 16 rfl h9)))) (by decide)
          have hM := hMM.1 h7
          have h := RIAt.fr h hM.1 (fun k hk e => by have := hσ k hk; omega)
          have hst := hst.fr hM.1 (fun r hr e => by omega)
          have hsd := hsd.fr hM.1 (fun r hr e => by omega)
          obtain rfl := Option.some.inj ho
          exact ⟨fun _ => valx rfl (run_ld62 rfl (D 11 _ rfl rfl) h.c1) rfl ⟨fun _ => hM, fun h => absurd (h7.symm.trans h) (by decide)⟩, fun h => by rw [wanted_none rfl] at h; cases h⟩
        | 13, ho, hl, D, DL, hB =>
          have h7 : ls9 19 = false := by
            cases h9 : ls9 19 with
            | false => rfl
            | true => exact absurd (hl.symm.trans (DL2 14 13 rfl (DL2 15 14 rfl (DL2 16 15 rfl (DL2 19 16 rfl h9))))) (by decide)
          have hM := hMM.1 h7
          have h := RIAt.fr h hM.1 (fun k hk e => by have := hσ k hk; omega)
          have hst := hst.fr hM.1 (fun r hr e => by omega)
          have hsd := hsd.fr hM.1 (fun r hr e => by omega)
          obtain rfl := Option.some.inj ho
          exact ⟨fun _ => valx rfl (run_move rfl (E.get 0 rfl)) rfl ⟨fun _ => hM, fun h => absurd (h7.symm.trans h) (by decide)⟩, fun h => by rw [wanted_none rfl] at h; cases h⟩
        | 14, ho, hl, D, DL, hB =>
          have h7 : ls9 19 = false := by
            cases h9 : ls9 19 with
            | false => rfl
            | true => exact absurd (hl.symm.trans (DL2 15 14 rfl (DL2 16 15 rfl (DL2 19 16 rfl h9)))) (by decide)
          have hM := hMM.1 h7
          have h := RIAt.fr h hM.1 (fun k hk e => by have := hσ k hk; omega)
          have hst := hst.fr hM.1 (fun r hr e => by omega)
          have hsd := hsd.fr hM.1 (fun r hr e => by omega)
          obtain rfl := Option.some.inj ho
          exact ⟨fun _ => valx rfl (run_iadd Try.underlying3 (D 13 _ rfl rfl) rfl (by omega) (by omega) rfl) rfl ⟨fun _ => hM, fun h => absurd (h7.symm.trans h) (by decide)⟩, fun h => by rw [wanted_none rfl] at h; cases h⟩
        | 15, ho, hl, D, DL, hB =>
          have h7 : ls9 19 = false := by
            cases h9 : ls9 19 with
            | false => rfl
            | true => exact absurd (hl.symm.trans (DL2 16 15 rfl (DL2 19 16 rfl h9))) (by decide)
          have hM := hMM.1 h7
          have h := RIAt.fr h hM.1 (fun k hk e => by have := hσ k hk; omega)
          have hst := hst.fr hM.1 (fun r hr e => by omega)
          have hsd := hsd.fr hM.1 (fun r hr e => by omega)
          obtain rfl := Option.some.inj ho
          exact ⟨fun _ => valx rfl (hrd _ _ _ _ _ rfl (D 12 _ rfl rfl) (D 14 _ rfl rfl)) rfl ⟨fun _ => hM, fun h => absurd (h7.symm.trans h) (by decide)⟩, fun h => by rw [wanted_none rfl] at h; cases h⟩
        | 16, ho, hl, D, DL, hB =>
          have h7 : ls9 19 = false := by
            cases h9 : ls9 19 with
            | false => rfl
            | true => exact absurd (hl.symm.trans (DL2 19 16 rfl h9)) (by decide)
          have hM := hMM.1 h7
          have h := RIAt.fr h hM.1 (fun k hk e => by have := hσ k hk; omega)
          have hst := hst.fr hM.1 (fun r hr e => by omega)
          have hsd := hsd.fr hM.1 (fun r hr e => by omega)
          have hO := hM.2.2.1 (DL 8 rfl) hl
          obtain ⟨v9, w9, c0, c1, c2, c3⟩ := app62 (o := o9) (ρ := a.eval) (congrArg Oper.op (Option.some.inj ho)).symm (D 8 _ rfl rfl) (D 15 _ rfl rfl) hO hsd hzd (by simp only [List.length_append, List.length_cons, List.length_nil, List.length_take, List.length_drop]; omega) (Nat.le_trans hBs hM.1.size)
          obtain rfl := Option.some.inj ho
          exact ⟨fun _ => valxw (γ.1, γ.2.1, v9) rfl c0 rfl (fun j hj => match j, hj with | 0, _ => rfl | 1, _ => rfl | 2, _ => rfl | 3, _ => rfl | 4, _ => rfl | 5, _ => rfl | 6, _ => rfl | 7, _ => rfl | 8, _ => rfl | 9, _ => rfl | 10, _ => rfl | 11, _ => rfl | 12, _ => rfl | 13, _ => rfl | 14, _ => rfl | 15, _ => rfl | 16, hj => absurd (hl.symm.trans hj) (by decide) | 17, _ => rfl | 18, _ => rfl | 19, _ => rfl | e9 + 20, _ => rfl) (⟨fun _ => ⟨hM.1.trans' c2 (fun r _ e => (hO.lt e).1), fun h h2 => absurd (h2.symm.trans (by simp; exact DL 8 rfl)) (by decide), fun _ h => by simp at h, fun _ => c1⟩, fun h => absurd (h7.symm.trans h) (by decide)⟩), fun h => by rw [wanted_none rfl] at h; cases h⟩
        | 17, ho, hl, D, DL, hB =>
          have h7 : ls9 19 = false := by
            cases h9 : ls9 19 with
            | false => rfl
            | true => exact absurd (hl.symm.trans (DL2 18 17 rfl (DL2 19 18 rfl h9))) (by decide)
          have hM := hMM.1 h7
          have h := RIAt.fr h hM.1 (fun k hk e => by have := hσ k hk; omega)
          have hst := hst.fr hM.1 (fun r hr e => by omega)
          have hsd := hsd.fr hM.1 (fun r hr e => by omega)
          obtain rfl := Option.some.inj ho
          exact ⟨fun _ => valx rfl (run_nilchk rfl (D 0 _ rfl rfl)) rfl ⟨fun _ => hM, fun h => absurd (h7.symm.trans h) (by decide)⟩, fun h => by rw [wanted_none rfl] at h; cases h⟩
        | 18, ho, hl, D, DL, hB =>
          have h7 : ls9 19 = false := by
            cases h9 : ls9 19 with
            | false => rfl
            | true => exact absurd (hl.symm.trans (DL2 19 18 rfl h9)) (by decide)
          have hM := hMM.1 h7
          have h := RIAt.fr h hM.1 (fun k hk e => by have := hσ k hk; omega)
          have hst := hst.fr hM.1 (fun r hr e => by omega)
          have hsd := hsd.fr hM.1 (fun r hr e => by omega)
          obtain rfl := Option.some.inj ho
          exact ⟨fun _ => valx rfl (fa64_1 rfl (D 17 _ rfl rfl)) rfl ⟨fun _ => hM, fun h => absurd (h7.symm.trans h) (by decide)⟩, fun h => by rw [wanted_none rfl] at h; cases h⟩
        | 19, ho, hl, D, DL, hB =>
          have hM := hMM.1 hl
          have h := RIAt.fr h hM.1 (fun k hk e => by have := hσ k hk; omega)
          have hst := hst.fr hM.1 (fun r hr e => by omega)
          have hsd := hsd.fr hM.1 (fun r hr e => by omega)
          have hg := (Fr.refl (fun _ => False) we0).trans' hM.1 (fun r hr e => by omega)
          have hO := hM.2.2.2 (DL 16 rfl)
          obtain ⟨⟨pn, nn, cn, hvv⟩, ⟨d1, d2⟩, σ9, hR1, f2, hs2⟩ := h0.setJ hg hO (by omega)
          obtain rfl := Option.some.inj ho
          exact ⟨fun _ => storex rfl (run_st62 hvv rfl (D 18 _ rfl rfl) (D 16 _ rfl rfl) d1 d2) rfl ⟨fun h => by simp at h, fun _ => ⟨σ9, hR1, f2, hs2⟩⟩, fun h => by rw [wanted_none rfl] at h; cases h⟩
        | j9 + 20, ho, hl, D, DL, hB => exact absurd ho (by simp)
      · rintro ⟨γ26a, γ26b, γ26c⟩ a we1 E V hM
        clear V
        obtain ⟨σ9, hR1, f2, hs2⟩ := hM.2 rfl
        have hS' := fun k (hk : k < w.heap.size) h => hS k hk (hs2 k (Nat.lt_of_lt_of_le hk hT.size) h)
        have hT' := hT.trans' f2 (fun r hr h => hS r hr h)
        clear hS h0 hσ hst hsd hrd hzd hM f2 hs2 h hB hT
        have h := hR1
        have hT := hT'
        have hS := hS'
        clear hR1 hS' hT'
        clear hBs B
        refine then_n ?_
        refine wp_seq ?_
        refine wp_region_lit ?_
        refine env_set (d := 4) (v := .int .i64 0) E rfl (by decide) (wanted_none rfl _) (run_assign rfl rfl) fun a E => ?_
        refine wpList_nil ?_
        refine then_n ?_
        refine wp_ret ?_
        have hr : rdrop I J s0 = (0, I.take (atL I s0) ++ I.drop (atL I s0 + 1), J.take (atL I s0) ++ J.drop (atL I s0 + 1)) := by simp [rdrop, hq22]
        subst hI1
        simp only [List.nil_append] at h
        refine ret_tmp (t := 4) rfl E (E.get 0 rfl) ⟨by rw [hr], _, ?_, hT, hS⟩
        rw [hr]
        exact ⟨_, _, h⟩
end Go.Proofs.Ytcafnanbdmapgaa
