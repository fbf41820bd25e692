/- The walk of In over the tree. -/
import Derived.Test.YtcafnanbdmapgaaK1
set_option linter.unusedVariables false
set_option linter.unusedSimpArgs false
namespace Go.Proofs.Ytcafnanbdmapgaa
open Go.RowKit Go.Pl

theorem mtIds_le (L : List En) (q : Bx) : (mtIds L q).length ≤ L.length := by unfold mtIds; rw [List.length_map]; exact List.length_filter_le _ _
theorem len_ok {C : List (Nat × Bx × List En)} {i : Nat} {c : Nat × Bx × List En} {A : List ByteArray} {q : Bx} (hl : A.length + (C.flatMap (·.2.2)).length ≤ 100000) (hc : C[i]? = some c) : (A ++ mtIds ((C.take i).flatMap (·.2.2)) q).length + c.2.2.length ≤ 100000 := by
  have hi := (List.getElem?_eq_some_iff.1 hc).1
  have e : C = C.take i ++ c :: C.drop (i + 1) := by
    have h := (List.getElem?_eq_some_iff.1 hc).2
    rw [← h, List.getElem_cons_drop, List.take_append_drop]
  have h2 := congrArg (fun l : List (Nat × Bx × List En) => (l.flatMap (·.2.2)).length) e
  simp only [List.flatMap_append, List.length_append, List.flatMap_cons] at h2
  have h3 := mtIds_le ((C.take i).flatMap (·.2.2)) q
  rw [List.length_append]; omega
/-- How the walk ends. -/
def WkP (w : World) (bo B : Nat) (A : List ByteArray) (L : List En) (q : Bx) (e : Ending) (w' : World) : Prop :=
  e = .returned (.tuple #[]) ∧ ∃ v', w'.heap[bo]? = some (.cells #[v'] 42 (0, 0)) ∧ oStr w' B v' (A ++ mtIds L q) ∧ Fr (fun k => k = bo ∨ B ≤ k) w w'
set_option maxRecDepth 100000 in
set_option maxHeartbeats 4000000 in
theorem walk_calls {S : Nat → Prop} {B bq bo bw : Nat} {q : Bx} (hbo : bo < B) (hbq : bq < B) (hbw : bw < B) (nq : bq ≠ bo) (nw : bw ≠ bo) (hS : ∀ k, S k → k < B ∧ k ≠ bo) : ∀ (n : Nat) {w : World} {p : Nat} {b : Bx} {L : List En} (hN : NdAt w S n p b L) {v : Value} {A : List ByteArray} (hq : bxB w bq q) (hu : w.heap[bo]? = some (.cells #[v] 42 (0, 0))) (hO : oStr w B v A) (hw : w.heap[bw]? = some (.cells #[(.func (.func 35) #[] #[.pointer (some ⟨bq, 0, none⟩), .pointer (some ⟨bo, 0, none⟩), .pointer (some ⟨bw, 0, none⟩)])] 68 (0, 0))) (hBs : B ≤ w.heap.size) (hl : A.length + L.length ≤ 100000), Calls Try.prog 35 #[.pointer (some ⟨p, 0, none⟩), .pointer (some ⟨bq, 0, none⟩), .pointer (some ⟨bo, 0, none⟩), .pointer (some ⟨bw, 0, none⟩)] w (WkP w bo B A L q) := by
  intro n
  induction n with
  | zero =>
    intro w p b L hN v A hq hu hO hw hBs hl
    obtain ⟨hSp, id1, hp, hL⟩ := hN
    subst hL
    have hp0 := hS p hSp.1
    have hT : Fr (fun k => k = bo ∨ B ≤ k) w w := Fr.refl _ _
    have hl9 : A.length ≤ 100000 := by omega
    clear hl
    refine wp_start4 Try.func35 rfl rfl (n := 43) (by decide) fun a E => ?_
    refine wp_seq ?_
    refine wp_seq ?_
    refine wp_region_invg (n := 43) (base := [(0, .pointer (some ⟨p, 0, none⟩)), (1, .pointer (some ⟨bq, 0, none⟩)), (2, .pointer (some ⟨bo, 0, none⟩)), (3, .pointer (some ⟨bw, 0, none⟩))]) (T := [some (7, .pointer (some ⟨p, 0, none⟩)), some (8, .bool false), some (9, .bool false), some (10, .pointer (some ⟨p, 0, none⟩)), some (11, .pointer (some ⟨p, 0, none⟩)), some (12, .pointer (some ⟨p, 0, none⟩)), some (13, .agg (bxC b)), some (14, .agg (bxC q)), some (15, .bool (decide (mtB b q))), some (16, .bool (!(decide (mtB b q)))), some (17, .bool (!(decide (mtB b q))))]) (M := fun _ wm => Fr (fun _ => False) w wm) (by kernel_rfl) (by kernel_rfl) (by kernel_rfl) (E.of ⟨E.get 0 rfl, E.get 1 rfl, E.get 2 rfl, E.get 3 rfl, trivial⟩) (Fr.refl _ _).drew ?_ ?_
    · intro j9 o9 t9 ls9 a w5 ho hT0 hl E D DL hM
      have hp := hM.obj hp id
      have hq := hM.obj hq id
      have hu := hM.obj hu id
      have hw := hM.obj hw id
      have hO := ow.fr hO hM (fun _ _ h => h)
      have hBs := Nat.le_trans hBs hM.size
      have hT := hT.trans' hM (fun _ _ h => h.elim)
      match j9, ho, hT0, hl, D, DL with
      | 0, ho, hT0, hl, D, DL =>
        obtain rfl := Option.some.inj ho
        obtain rfl := Option.some.inj hT0
        clear ho hT0
        exact ⟨fun _ => val_wp (run_move rfl (E.get 0 rfl)) rfl hM, fun h => by rw [wanted_none rfl] at h; cases h⟩
      | 1, ho, hT0, hl, D, DL =>
        obtain rfl := Option.some.inj ho
        obtain rfl := Option.some.inj hT0
        clear ho hT0
        exact ⟨fun _ => val_wp (run_pn59 rfl (D 0 _ rfl rfl) rfl) rfl hM, fun h => by rw [wanted_none rfl] at h; cases h⟩
      | 2, ho, hT0, hl, D, DL =>
        obtain rfl := Option.some.inj ho
        obtain rfl := Option.some.inj hT0
        clear ho hT0
        exact ⟨fun _ => val_wp (run_move rfl (D 1 _ rfl rfl)) rfl hM, fun h => by rw [wanted_none rfl] at h; cases h⟩
      | 3, ho, hT0, hl, D, DL =>
        obtain rfl := Option.some.inj ho
        obtain rfl := Option.some.inj hT0
        clear ho hT0
        exact ⟨fun _ => val_wp (run_move rfl (E.get 0 rfl)) rfl hM, fun h => by rw [w_yes (g := 2) (s := 9) (b := false) E rfl rfl (by decide) (D 2 _ rfl rfl)] at h; cases h⟩
      | 4, ho, hT0, hl, D, DL =>
        obtain rfl := Option.some.inj ho
        obtain rfl := Option.some.inj hT0
        clear ho hT0
        exact ⟨fun _ => val_wp (run_nilchk rfl (D 3 _ rfl rfl)) rfl hM, fun h => by rw [w_yes (g := 2) (s := 9) (b := false) E rfl rfl (by decide) (D 2 _ rfl rfl)] at h; cases h⟩
      | 5, ho, hT0, hl, D, DL =>
        obtain rfl := Option.some.inj ho
        obtain rfl := Option.some.inj hT0
        clear ho hT0
        exact ⟨fun _ => val_wp (fa71_0 rfl (D 4 _ rfl rfl)) rfl hM, fun h => by rw [w_yes (g := 2) (s := 9) (b := false) E rfl rfl (by decide) (D 2 _ rfl rfl)] at h; cases h⟩
      | 6, ho, hT0, hl, D, DL =>
        obtain rfl := Option.some.inj ho
        obtain rfl := Option.some.inj hT0
        clear ho hT0
        exact ⟨fun _ => val_wp (run_ld26 rfl (D 5 _ rfl rfl) (rng4 (p := b) hp 0 rfl rfl rfl rfl)) rfl hM, fun h => by rw [w_yes (g := 2) (s := 9) (b := false) E rfl rfl (by decide) (D 2 _ rfl rfl)] at h; cases h⟩
      | 7, ho, hT0, hl, D, DL =>
        obtain rfl := Option.some.inj ho
        obtain rfl := Option.some.inj hT0
        clear ho hT0
        exact ⟨fun _ => val_wp (run_ld26 rfl (E.get 1 rfl) (rng4 (p := q) hq 0 rfl rfl rfl rfl)) rfl hM, fun h => by rw [w_yes (g := 2) (s := 9) (b := false) E rfl rfl (by decide) (D 2 _ rfl rfl)] at h; cases h⟩
      | 8, ho, hT0, hl, D, DL =>
        obtain rfl := Option.some.inj ho
        obtain rfl := Option.some.inj hT0
        clear ho hT0
        exact ⟨fun _ => call_wp (run_call2 (enters_of Try.func36 (by kernel_rfl) rfl) rfl rfl (D 6 _ rfl rfl) (D 7 _ rfl rfl)) (pmeet_calls _ _ _) rfl fun w9 f1 => (hM.trans f1), fun h => by rw [w_yes (g := 2) (s := 9) (b := false) E rfl rfl (by decide) (D 2 _ rfl rfl)] at h; cases h⟩
      | 9, ho, hT0, hl, D, DL =>
        obtain rfl := Option.some.inj ho
        obtain rfl := Option.some.inj hT0
        clear ho hT0
        exact ⟨fun _ => val_wp (run_not rfl (D 8 _ rfl rfl)) rfl hM, fun h => by rw [w_yes (g := 2) (s := 9) (b := false) E rfl rfl (by decide) (D 2 _ rfl rfl)] at h; cases h⟩
      | 10, ho, hT0, hl, D, DL =>
        obtain rfl := Option.some.inj ho
        obtain rfl := Option.some.inj hT0
        clear ho hT0
        exact ⟨fun _ => val_wp (run_pick_f rfl (D 2 _ rfl rfl) (D 9 _ rfl rfl)) rfl hM, fun h => by rw [wanted_none rfl] at h; cases h⟩
      | j9 + 11, ho, hT0, hl, D, DL => exact absurd hT0 (by simp)
    · intro a w5 E V hM
      have E := E.add (V 10 _ rfl)
      clear V
      have hp := hM.obj hp id
      have hq := hM.obj hq id
      have hu := hM.obj hu id
      have hw := hM.obj hw id
      have hO := ow.fr hO hM (fun _ _ h => h)
      have hBs := Nat.le_trans hBs hM.size
      have hT := hT.trans' hM (fun _ _ h => h.elim)
      clear hM
      refine then_n ?_
      cases hq32 : (decide (mtB b q)) with
      | false =>
        rw [hq32] at E
        refine wp_cond_true (E.get 0 rfl) ?_
        refine wp_ret ?_
        refine then_r ?_
        refine (ret_nil rfl E ⟨rfl, v, hu, ?_, hT⟩).1
        rw [mtIds_none (b := b) (fun x hx => by simp at hx; subst hx; simp [inB]) (of_decide_eq_false hq32), List.append_nil]
        exact hO
      | true =>
        rw [hq32] at E
        refine wp_cond_false (E.get 0 rfl) ?_
        refine wp_skip ?_
        refine then_n ?_
        refine wp_seq ?_
        refine wp_seq ?_
        refine wp_region_lit ?_
        refine env_put (d := 18) (v := .pointer (some ⟨p, 0, none⟩)) E rfl (by decide) rfl (wanted_none rfl _) (run_move rfl (E.get 1 rfl)) fun a E => ?_
        refine env_put (d := 19) (v := .pointer (some ⟨p, 0, none⟩)) E rfl (by decide) rfl (wanted_none rfl _) (run_nilchk rfl (E.get 0 rfl)) fun a E => ?_
        refine env_put (d := 20) (v := .pointer (some ⟨p, 5, none⟩)) E rfl (by decide) rfl (wanted_none rfl _) (fa71_2 rfl (E.get 0 rfl)) fun a E => ?_
        refine env_put (d := 21) (v := .slice none 0 0) E rfl (by decide) rfl (wanted_none rfl _) (run_ld69 rfl (E.get 0 rfl) (bx hp 5 rfl)) fun a E => ?_
        refine env_put (d := 22) (v := .bool true) E rfl (by decide) rfl (wanted_none rfl _) (run_snil69 rfl (E.get 0 rfl) rfl) fun a E => ?_
        refine wpList_nil ?_
        refine then_n ?_
        refine wp_cond_true (E.get 0 rfl) ?_
        have hOlt : ∀ k, v.ownBlock = some k → k < w5.heap.size := fun k hk => (hO.lt hk).2
        refine wp_region_invx (G := Nat × Value) (0, undef) (n := 43) (base := [(22, .bool true), (21, .slice none 0 0), (20, .pointer (some ⟨p, 5, none⟩)), (19, .pointer (some ⟨p, 0, none⟩)), (18, .pointer (some ⟨p, 0, none⟩)), (17, .bool false), (0, .pointer (some ⟨p, 0, none⟩)), (1, .pointer (some ⟨bq, 0, none⟩)), (2, .pointer (some ⟨bo, 0, none⟩)), (3, .pointer (some ⟨bw, 0, none⟩))]) (U := []) (T := fun γ => [some (23, v), some (24, .pointer (some ⟨p, 0, none⟩)), some (25, .pointer (some ⟨p, 0, none⟩)), some (26, .pointer (some ⟨p, 4, none⟩)), some (27, .string id1), some (28, .slice (some ⟨γ.1, 0, none⟩) 1 1), some (29, γ.2), none]) (M := fun γ ls9 wm => (ls9 7 = false → Fr (fun k => B ≤ k) w5 wm ∧ (ls9 5 = true → w5.heap.size ≤ γ.1 ∧ wm.heap[γ.1]? = some (.cells #[.string id1] 9 (0, 0))) ∧ (ls9 6 = false → oStr wm B (v) A) ∧ (ls9 6 = true → oStr wm B γ.2 (A ++ [id1]))) ∧ (ls9 7 = true → ∃ v9, wm.heap[bo]? = some (.cells #[v9] 42 (0, 0)) ∧ oStr wm B v9 (A ++ [id1]) ∧ Fr (fun k => k = bo ∨ B ≤ k) w5 wm)) (by kernel_rfl) (by kernel_rfl) (fun _ => by kernel_rfl) (E.of ⟨E.get 0 rfl, E.get 1 rfl, E.get 2 rfl, E.get 3 rfl, E.get 4 rfl, E.get 5 rfl, E.get 6 rfl, E.get 7 rfl, E.get 8 rfl, E.get 9 rfl, trivial⟩) (fun x hx => by cases hx) ⟨fun _ => ⟨(Fr.refl _ _).drew, fun h => absurd h Bool.false_ne_true, fun _ => ow.fr hO ((Fr.refl (fun _ => False) _).drew) (fun _ _ h => h), fun h => absurd h Bool.false_ne_true⟩, fun h => absurd h Bool.false_ne_true⟩ ?_ ?_
        · intro j9 o9 γ ls9 a w5 ho hl E D DL DL2 hB hMM
          match j9, ho, hl, D, DL, hB with
          | 0, ho, hl, D, DL, hB =>
            have h7 : ls9 7 = false := by
              cases h9 : ls9 7 with
              | false => rfl
              | true => exact absurd (hl.symm.trans (DL2 6 0 rfl (DL2 7 6 rfl h9))) (by decide)
            have hM := hMM.1 h7
            have hp := hM.1.obj hp (fun e => by omega)
            have hu := hM.1.obj hu (fun e => by omega)
            obtain rfl := Option.some.inj ho
            exact ⟨fun _ => valx rfl (run_ld42 rfl (E.get 8 rfl) (bx hu 0 rfl)) rfl ⟨fun _ => hM, fun h => absurd (h7.symm.trans h) (by decide)⟩, fun h => by rw [wanted_none rfl] at h; cases h⟩
          | 1, ho, hl, D, DL, hB =>
            have h7 : ls9 7 = false := by
              cases h9 : ls9 7 with
              | false => rfl
              | true => exact absurd (hl.symm.trans (DL2 2 1 rfl (DL2 3 2 rfl (DL2 4 3 rfl (DL2 5 4 rfl (DL2 6 5 rfl (DL2 7 6 rfl h9))))))) (by decide)
            have hM := hMM.1 h7
            have hp := hM.1.obj hp (fun e => by omega)
            have hu := hM.1.obj hu (fun e => by omega)
            obtain rfl := Option.some.inj ho
            exact ⟨fun _ => valx rfl (run_move rfl (E.get 6 rfl)) rfl ⟨fun _ => hM, fun h => absurd (h7.symm.trans h) (by decide)⟩, fun h => by rw [wanted_none rfl] at h; cases h⟩
          | 2, ho, hl, D, DL, hB =>
            have h7 : ls9 7 = false := by
              cases h9 : ls9 7 with
              | false => rfl
              | true => exact absurd (hl.symm.trans (DL2 3 2 rfl (DL2 4 3 rfl (DL2 5 4 rfl (DL2 6 5 rfl (DL2 7 6 rfl h9)))))) (by decide)
            have hM := hMM.1 h7
            have hp := hM.1.obj hp (fun e => by omega)
            have hu := hM.1.obj hu (fun e => by omega)
            obtain rfl := Option.some.inj ho
            exact ⟨fun _ => valx rfl (run_nilchk rfl (D 1 _ rfl rfl)) rfl ⟨fun _ => hM, fun h => absurd (h7.symm.trans h) (by decide)⟩, fun h => by rw [wanted_none rfl] at h; cases h⟩
          | 3, ho, hl, D, DL, hB =>
            have h7 : ls9 7 = false := by
              cases h9 : ls9 7 with
              | false => rfl
              | true => exact absurd (hl.symm.trans (DL2 4 3 rfl (DL2 5 4 rfl (DL2 6 5 rfl (DL2 7 6 rfl h9))))) (by decide)
            have hM := hMM.1 h7
            have hp := hM.1.obj hp (fun e => by omega)
            have hu := hM.1.obj hu (fun e => by omega)
            obtain rfl := Option.some.inj ho
            exact ⟨fun _ => valx rfl (fa71_1 rfl (D 2 _ rfl rfl)) rfl ⟨fun _ => hM, fun h => absurd (h7.symm.trans h) (by decide)⟩, fun h => by rw [wanted_none rfl] at h; cases h⟩
          | 4, ho, hl, D, DL, hB =>
            have h7 : ls9 7 = false := by
              cases h9 : ls9 7 with
              | false => rfl
              | true => exact absurd (hl.symm.trans (DL2 5 4 rfl (DL2 6 5 rfl (DL2 7 6 rfl h9)))) (by decide)
            have hM := hMM.1 h7
            have hp := hM.1.obj hp (fun e => by omega)
            have hu := hM.1.obj hu (fun e => by omega)
            obtain rfl := Option.some.inj ho
            exact ⟨fun _ => valx rfl (run_lds rfl (D 3 _ rfl rfl) (bx hp 4 rfl)) rfl ⟨fun _ => hM, fun h => absurd (h7.symm.trans h) (by decide)⟩, fun h => by rw [wanted_none rfl] at h; cases h⟩
          | 5, ho, hl, D, DL, hB =>
            have h7 : ls9 7 = false := by
              cases h9 : ls9 7 with
              | false => rfl
              | true => exact absurd (hl.symm.trans (DL2 6 5 rfl (DL2 7 6 rfl h9))) (by decide)
            have hM := hMM.1 h7
            have hp := hM.1.obj hp (fun e => by omega)
            have hu := hM.1.obj hu (fun e => by omega)
            obtain rfl := Option.some.inj ho
            exact ⟨fun _ => valxw (w5.heap.size, γ.2) rfl (run_one42 rfl (D 4 _ rfl rfl)) rfl (fun j hj => match j, hj with | 0, _ => rfl | 1, _ => rfl | 2, _ => rfl | 3, _ => rfl | 4, _ => rfl | 5, hj => absurd (hl.symm.trans hj) (by decide) | 6, _ => rfl | 7, _ => rfl | e9 + 8, _ => rfl) (⟨fun _ => ⟨hM.1.trans' ((Fr.refl (fun _ => False) w5).alloc _) (fun _ _ h => h.elim), fun _ => ⟨hM.1.size, blk_alloc_new _ _⟩, fun h => ow.fr (hM.2.2.1 h) ((Fr.refl (fun _ => False) w5).alloc _) (fun _ _ h => h), fun h => ow.fr (hM.2.2.2 h) ((Fr.refl (fun _ => False) w5).alloc _) (fun _ _ h => h)⟩, fun h => absurd (h7.symm.trans h) (by decide)⟩), fun h => by rw [wanted_none rfl] at h; cases h⟩
          | 6, ho, hl, D, DL, hB =>
            have h7 : ls9 7 = false := by
              cases h9 : ls9 7 with
              | false => rfl
              | true => exact absurd (hl.symm.trans (DL2 7 6 rfl h9)) (by decide)
            have hM := hMM.1 h7
            have hp := hM.1.obj hp (fun e => by omega)
            have hu := hM.1.obj hu (fun e => by omega)
            have hs8 := ow_srcp strC_len (ow_one42 (B := 0) ((hM.2.1 (DL 5 rfl)).2) (Nat.zero_le _))
            obtain ⟨v9, w9, c0, c1, c2, c3⟩ := app42 (o := o9) (ρ := a.eval) (congrArg Oper.op (Option.some.inj ho)).symm (D 0 _ rfl rfl) (D 5 _ rfl rfl) (hM.2.2.1 hl) hs8.1 hs8.2 (by simp only [List.length_cons, List.length_nil]; omega) (Nat.le_trans hBs hM.1.size)
            obtain rfl := Option.some.inj ho
            exact ⟨fun _ => valxw (γ.1, v9) rfl c0 rfl (fun j hj => match j, hj with | 0, _ => rfl | 1, _ => rfl | 2, _ => rfl | 3, _ => rfl | 4, _ => rfl | 5, _ => rfl | 6, hj => absurd (hl.symm.trans hj) (by decide) | 7, _ => rfl | e9 + 8, _ => rfl) (⟨fun _ => ⟨hM.1.trans' c2 (fun r _ e => ((hM.2.2.1 hl).lt e).1), fun h => ⟨(hM.2.1 h).1, c2.obj (hM.2.1 h).2 (fun e => by have h8 := (hM.2.1 h).1; have h9 := hOlt _ e; omega)⟩, fun h => by simp at h, fun _ => c1⟩, fun h => absurd (h7.symm.trans h) (by decide)⟩), fun h => by rw [wanted_none rfl] at h; cases h⟩
          | 7, ho, hl, D, DL, hB =>
            have hM := hMM.1 hl
            have hp := hM.1.obj hp (fun e => by omega)
            have hu := hM.1.obj hu (fun e => by omega)
            have hO9 := hM.2.2.2 (DL 6 rfl)
            obtain ⟨pn, cn, hvv, _⟩ := hO9.src strC_len
            obtain rfl := Option.some.inj ho
            exact ⟨fun _ => storex rfl (run_st42 hvv rfl (E.get 8 rfl) (D 6 _ rfl rfl) (bx hu 0 rfl) (free_of_blk hu 0)) rfl ⟨fun h => by simp at h, fun _ => ⟨_, blk_setCell_same (off := 0) hu _, ow_of_blk hO9 (fun k hk => blk_setCell (fun e => by have := (hO9.lt hk).1; simp only at e; omega) _), (hM.1.mono (fun k _ hk => .inr hk)).setCell (fun _ => .inl rfl) _⟩⟩, fun h => by rw [wanted_none rfl] at h; cases h⟩
          | j9 + 8, ho, hl, D, DL, hB => exact absurd ho (by simp)
        · rintro ⟨γ33a, γ33b⟩ a we E V hM
          clear V
          obtain ⟨v9, hu, hO, f2⟩ := hM.2 rfl
          have hT := hT.trans' f2 (fun _ _ h => h)
          have hp := f2.obj hp (fun e => by omega)
          clear hM f2
          refine then_n ?_
          refine wp_seq ?_
          refine wp_region_lit ?_
          refine env_put (d := 30) (v := .pointer (some ⟨p, 0, none⟩)) E rfl (by decide) rfl (wanted_none rfl _) (run_move rfl (E.get 6 rfl)) fun a E => ?_
          refine env_put (d := 31) (v := .pointer (some ⟨p, 0, none⟩)) E rfl (by decide) rfl (wanted_none rfl _) (run_nilchk rfl (E.get 0 rfl)) fun a E => ?_
          refine env_put (d := 32) (v := .pointer (some ⟨p, 5, none⟩)) E rfl (by decide) rfl (wanted_none rfl _) (fa71_2 rfl (E.get 0 rfl)) fun a E => ?_
          refine env_put (d := 33) (v := .slice none 0 0) E rfl (by decide) rfl (wanted_none rfl _) (run_ld69 rfl (E.get 0 rfl) (bx hp 5 rfl)) fun a E => ?_
          refine env_put (d := 34) (v := .int .i64 0) E rfl (by decide) rfl (wanted_none rfl _) (run_len69 rfl (E.get 0 rfl)) fun a E => ?_
          refine env_put (d := 35) (v := .int .i64 0) E rfl (by decide) rfl (wanted_none rfl _) (run_move rfl rfl) fun a E => ?_
          refine wpList_nil ?_
          refine then_n ?_
          refine wp_block ?_
          refine wp_loop (fun a w2 => Env 43 [(35, .int .i64 0), (34, .int .i64 0), (0, .pointer (some ⟨p, 0, none⟩)), (1, .pointer (some ⟨bq, 0, none⟩)), (2, .pointer (some ⟨bo, 0, none⟩)), (3, .pointer (some ⟨bw, 0, none⟩))] a ∧ w2.heap[bo]? = some (.cells #[v9] 42 (0, 0)) ∧ oStr w2 B v9 (A ++ [id1]) ∧ Fr (fun k => k = bo ∨ B ≤ k) w w2) (fun a _ => (intOf (a.eval (.tmp 35))).toNat) ?_ ?_
          · exact ⟨E.of ⟨E.get 0 rfl, E.get 1 rfl, E.get 12 rfl, E.get 13 rfl, E.get 14 rfl, E.get 15 rfl, trivial⟩, hu, hO, hT⟩
          clear E
          rintro a w2 ⟨E, hu, hO, hT⟩
          have hmu : (intOf (a.eval (.tmp 35))).toNat = 0 := by rw [E.get 0 rfl]; first | (simp [intOf]; done) | (simp only [intOf]; omega)
          rw [hmu]
          clear hmu
          refine wp_seq ?_
          refine wp_region_lit ?_
          refine env_put (d := 36) (v := .bool false) E rfl (by decide) rfl (wanted_none rfl _) (run_ilss (m := 0) (n := 0) (E.get 0 rfl) (E.get 1 rfl) Try.underlying3 rfl) fun a E => ?_
          refine wpList_nil ?_
          refine then_n ?_
          refine wp_seq ?_
          refine wp_cond_false (E.get 0 rfl) ?_
          refine wp_exit ?_
          refine then_e ?_
          refine then_e ?_
          refine blk_e ?_
          refine (ret_nil rfl E ⟨rfl, v9, hu, ?_, hT⟩).1
          rw [mtIds_one (of_decide_eq_true hq32)]
          exact hO
  | succ n ih =>
    intro w p b L hN v A hq hu hO hw hBs hl
    obtain ⟨hSp, g, off, cap, C, hp, hSg, hne, h8, hC, hL, hin⟩ := hN
    subst hL
    have hp0 := hS p hSp.1
    have hg0 := hS g hSg
    have hT : Fr (fun k => k = bo ∨ B ≤ k) w w := Fr.refl _ _
    refine wp_start4 Try.func35 rfl rfl (n := 43) (by decide) fun a E => ?_
    refine wp_seq ?_
    refine wp_seq ?_
    refine wp_region_invg (n := 43) (base := [(0, .pointer (some ⟨p, 0, none⟩)), (1, .pointer (some ⟨bq, 0, none⟩)), (2, .pointer (some ⟨bo, 0, none⟩)), (3, .pointer (some ⟨bw, 0, none⟩))]) (T := [some (7, .pointer (some ⟨p, 0, none⟩)), some (8, .bool false), some (9, .bool false), some (10, .pointer (some ⟨p, 0, none⟩)), some (11, .pointer (some ⟨p, 0, none⟩)), some (12, .pointer (some ⟨p, 0, none⟩)), some (13, .agg (bxC b)), some (14, .agg (bxC q)), some (15, .bool (decide (mtB b q))), some (16, .bool (!(decide (mtB b q)))), some (17, .bool (!(decide (mtB b q))))]) (M := fun _ wm => Fr (fun _ => False) w wm) (by kernel_rfl) (by kernel_rfl) (by kernel_rfl) (E.of ⟨E.get 0 rfl, E.get 1 rfl, E.get 2 rfl, E.get 3 rfl, trivial⟩) (Fr.refl _ _).drew ?_ ?_
    · intro j9 o9 t9 ls9 a w5 ho hT0 hl E D DL hM
      have hp := hM.obj hp id
      have hq := hM.obj hq id
      have hu := hM.obj hu id
      have hw := hM.obj hw id
      have hO := ow.fr hO hM (fun _ _ h => h)
      have hBs := Nat.le_trans hBs hM.size
      have hT := hT.trans' hM (fun _ _ h => h.elim)
      have hC := fun j c hc => (⟨hM.cell (hC j c hc).1 id, NdAt.fr hM (fun _ _ h => h) (hC j c hc).2⟩ : _ ∧ _)
      match j9, ho, hT0, hl, D, DL with
      | 0, ho, hT0, hl, D, DL =>
        obtain rfl := Option.some.inj ho
        obtain rfl := Option.some.inj hT0
        clear ho hT0
        exact ⟨fun _ => val_wp (run_move rfl (E.get 0 rfl)) rfl hM, fun h => by rw [wanted_none rfl] at h; cases h⟩
      | 1, ho, hT0, hl, D, DL =>
        obtain rfl := Option.some.inj ho
        obtain rfl := Option.some.inj hT0
        clear ho hT0
        exact ⟨fun _ => val_wp (run_pn59 rfl (D 0 _ rfl rfl) rfl) rfl hM, fun h => by rw [wanted_none rfl] at h; cases h⟩
      | 2, ho, hT0, hl, D, DL =>
        obtain rfl := Option.some.inj ho
        obtain rfl := Option.some.inj hT0
        clear ho hT0
        exact ⟨fun _ => val_wp (run_move rfl (D 1 _ rfl rfl)) rfl hM, fun h => by rw [wanted_none rfl] at h; cases h⟩
      | 3, ho, hT0, hl, D, DL =>
        obtain rfl := Option.some.inj ho
        obtain rfl := Option.some.inj hT0
        clear ho hT0
        exact ⟨fun _ => val_wp (run_move rfl (E.get 0 rfl)) rfl hM, fun h => by rw [w_yes (g := 2) (s := 9) (b := false) E rfl rfl (by decide) (D 2 _ rfl rfl)] at h; cases h⟩
      | 4, ho, hT0, hl, D, DL =>
        obtain rfl := Option.some.inj ho
        obtain rfl := Option.some.inj hT0
        clear ho hT0
        exact ⟨fun _ => val_wp (run_nilchk rfl (D 3 _ rfl rfl)) rfl hM, fun h => by rw [w_yes (g := 2) (s := 9) (b := false) E rfl rfl (by decide) (D 2 _ rfl rfl)] at h; cases h⟩
      | 5, ho, hT0, hl, D, DL =>
        obtain rfl := Option.some.inj ho
        obtain rfl := Option.some.inj hT0
        clear ho hT0
        exact ⟨fun _ => val_wp (fa71_0 rfl (D 4 _ rfl rfl)) rfl hM, fun h => by rw [w_yes (g := 2) (s := 9) (b := false) E rfl rfl (by decide) (D 2 _ rfl rfl)] at h; cases h⟩
      | 6, ho, hT0, hl, D, DL =>
        obtain rfl := Option.some.inj ho
        obtain rfl := Option.some.inj hT0
        clear ho hT0
        exact ⟨fun _ => val_wp (run_ld26 rfl (D 5 _ rfl rfl) (rng4 (p := b) hp 0 rfl rfl rfl rfl)) rfl hM, fun h => by rw [w_yes (g := 2) (s := 9) (b := false) E rfl rfl (by decide) (D 2 _ rfl rfl)] at h; cases h⟩
      | 7, ho, hT0, hl, D, DL =>
        obtain rfl := Option.some.inj ho
        obtain rfl := Option.some.inj hT0
        clear ho hT0
        exact ⟨fun _ => val_wp (run_ld26 rfl (E.get 1 rfl) (rng4 (p := q) hq 0 rfl rfl rfl rfl)) rfl hM, fun h => by rw [w_yes (g := 2) (s := 9) (b := false) E rfl rfl (by decide) (D 2 _ rfl rfl)] at h; cases h⟩
      | 8, ho, hT0, hl, D, DL =>
        obtain rfl := Option.some.inj ho
        obtain rfl := Option.some.inj hT0
        clear ho hT0
        exact ⟨fun _ => call_wp (run_call2 (enters_of Try.func36 (by kernel_rfl) rfl) rfl rfl (D 6 _ rfl rfl) (D 7 _ rfl rfl)) (pmeet_calls _ _ _) rfl fun w9 f1 => (hM.trans f1), fun h => by rw [w_yes (g := 2) (s := 9) (b := false) E rfl rfl (by decide) (D 2 _ rfl rfl)] at h; cases h⟩
      | 9, ho, hT0, hl, D, DL =>
        obtain rfl := Option.some.inj ho
        obtain rfl := Option.some.inj hT0
        clear ho hT0
        exact ⟨fun _ => val_wp (run_not rfl (D 8 _ rfl rfl)) rfl hM, fun h => by rw [w_yes (g := 2) (s := 9) (b := false) E rfl rfl (by decide) (D 2 _ rfl rfl)] at h; cases h⟩
      | 10, ho, hT0, hl, D, DL =>
        obtain rfl := Option.some.inj ho
        obtain rfl := Option.some.inj hT0
        clear ho hT0
        exact ⟨fun _ => val_wp (run_pick_f rfl (D 2 _ rfl rfl) (D 9 _ rfl rfl)) rfl hM, fun h => by rw [wanted_none rfl] at h; cases h⟩
      | j9 + 11, ho, hT0, hl, D, DL => exact absurd hT0 (by simp)
    · intro a w5 E V hM
      have E := E.add (V 10 _ rfl)
      clear V
      have hp := hM.obj hp id
      have hq := hM.obj hq id
      have hu := hM.obj hu id
      have hw := hM.obj hw id
      have hO := ow.fr hO hM (fun _ _ h => h)
      have hBs := Nat.le_trans hBs hM.size
      have hT := hT.trans' hM (fun _ _ h => h.elim)
      have hC := fun j c hc => (⟨hM.cell (hC j c hc).1 id, NdAt.fr hM (fun _ _ h => h) (hC j c hc).2⟩ : _ ∧ _)
      clear hM
      refine then_n ?_
      cases hq36 : (decide (mtB b q)) with
      | false =>
        rw [hq36] at E
        refine wp_cond_true (E.get 0 rfl) ?_
        refine wp_ret ?_
        refine then_r ?_
        refine (ret_nil rfl E ⟨rfl, v, hu, ?_, hT⟩).1
        rw [mtIds_none (b := b) hin (of_decide_eq_false hq36), List.append_nil]
        exact hO
      | true =>
        rw [hq36] at E
        refine wp_cond_false (E.get 0 rfl) ?_
        refine wp_skip ?_
        refine then_n ?_
        refine wp_seq ?_
        refine wp_seq ?_
        refine wp_region_lit ?_
        refine env_put (d := 18) (v := .pointer (some ⟨p, 0, none⟩)) E rfl (by decide) rfl (wanted_none rfl _) (run_move rfl (E.get 1 rfl)) fun a E => ?_
        refine env_put (d := 19) (v := .pointer (some ⟨p, 0, none⟩)) E rfl (by decide) rfl (wanted_none rfl _) (run_nilchk rfl (E.get 0 rfl)) fun a E => ?_
        refine env_put (d := 20) (v := .pointer (some ⟨p, 5, none⟩)) E rfl (by decide) rfl (wanted_none rfl _) (fa71_2 rfl (E.get 0 rfl)) fun a E => ?_
        refine env_put (d := 21) (v := .slice (some ⟨g, off, none⟩) C.length cap) E rfl (by decide) rfl (wanted_none rfl _) (run_ld69 rfl (E.get 0 rfl) (bx hp 5 rfl)) fun a E => ?_
        refine env_put (d := 22) (v := .bool false) E rfl (by decide) rfl (wanted_none rfl _) (run_snn69 rfl (E.get 0 rfl) rfl) fun a E => ?_
        refine wpList_nil ?_
        refine then_n ?_
        refine wp_cond_false (E.get 0 rfl) ?_
        refine wp_skip ?_
        refine then_n ?_
        refine wp_seq ?_
        refine wp_region_lit ?_
        refine env_put (d := 30) (v := .pointer (some ⟨p, 0, none⟩)) E rfl (by decide) rfl (wanted_none rfl _) (run_move rfl (E.get 6 rfl)) fun a E => ?_
        refine env_put (d := 31) (v := .pointer (some ⟨p, 0, none⟩)) E rfl (by decide) rfl (wanted_none rfl _) (run_nilchk rfl (E.get 0 rfl)) fun a E => ?_
        refine env_put (d := 32) (v := .pointer (some ⟨p, 5, none⟩)) E rfl (by decide) rfl (wanted_none rfl _) (fa71_2 rfl (E.get 0 rfl)) fun a E => ?_
        refine env_put (d := 33) (v := .slice (some ⟨g, off, none⟩) C.length cap) E rfl (by decide) rfl (wanted_none rfl _) (run_ld69 rfl (E.get 0 rfl) (bx hp 5 rfl)) fun a E => ?_
        refine env_put (d := 34) (v := .int .i64 (C.length : Int)) E rfl (by decide) rfl (wanted_none rfl _) (run_len69 rfl (E.get 0 rfl)) fun a E => ?_
        refine env_put (d := 35) (v := .int .i64 0) E rfl (by decide) rfl (wanted_none rfl _) (run_move rfl rfl) fun a E => ?_
        refine wpList_nil ?_
        refine then_n ?_
        refine wp_block ?_
        refine wp_loop (fun a w2 => ∃ (i : Nat) (v : Value), Env 43 [(35, .int .i64 (i : Int)), (34, .int .i64 (C.length : Int)), (33, .slice (some ⟨g, off, none⟩) C.length cap), (0, .pointer (some ⟨p, 0, none⟩)), (1, .pointer (some ⟨bq, 0, none⟩)), (2, .pointer (some ⟨bo, 0, none⟩)), (3, .pointer (some ⟨bw, 0, none⟩))] a ∧ i ≤ C.length ∧ bxB w2 bq q ∧ w2.heap[bo]? = some (.cells #[v] 42 (0, 0)) ∧ w2.heap[bw]? = some (.cells #[(.func (.func 35) #[] #[.pointer (some ⟨bq, 0, none⟩), .pointer (some ⟨bo, 0, none⟩), .pointer (some ⟨bw, 0, none⟩)])] 68 (0, 0)) ∧ oStr w2 B v (A ++ mtIds ((C.take i).flatMap (·.2.2)) q) ∧ (∀ (j : Nat) c, C[j]? = some c → w2.cell? ⟨g, off + j, none⟩ = some (.pointer (some ⟨c.1, 0, none⟩)) ∧ NdAt w2 S n c.1 c.2.1 c.2.2) ∧ B ≤ w2.heap.size ∧ Fr (fun k => k = bo ∨ B ≤ k) w w2) (fun a _ => C.length - (intOf (a.eval (.tmp 35))).toNat) ?_ ?_
        · exact ⟨0, v, E.of ⟨E.get 0 rfl, E.get 1 rfl, E.get 2 rfl, E.get 12 rfl, E.get 13 rfl, E.get 14 rfl, E.get 15 rfl, trivial⟩, Nat.zero_le _, hq, hu, hw, by simpa [mtIds] using hO, hC, hBs, hT⟩
        clear E
        rintro a w2 ⟨i, v, E, hi, hq, hu, hw, hO, hC, hBs, hT⟩
        have hmu : C.length - (intOf (a.eval (.tmp 35))).toNat = C.length - i := by rw [E.get 0 rfl]; first | (simp [intOf]; done) | (simp only [intOf]; omega)
        rw [hmu]
        clear hmu
        refine wp_seq ?_
        refine wp_region_lit ?_
        refine env_put (d := 36) (v := .bool (decide ((i : Int) < (C.length : Int)))) E rfl (by decide) rfl (wanted_none rfl _) (run_ilss (E.get 0 rfl) (E.get 1 rfl) Try.underlying3 rfl) fun a E => ?_
        refine wpList_nil ?_
        refine then_n ?_
        refine wp_seq ?_
        cases hq38 : (decide ((i : Int) < (C.length : Int))) with
        | false =>
          rw [hq38] at E
          have hie : i = C.length := by have := of_decide_eq_false hq38; omega
          rw [hie, List.take_length] at hO
          refine wp_cond_false (E.get 0 rfl) ?_
          refine wp_exit ?_
          refine then_e ?_
          refine then_e ?_
          refine blk_e ?_
          exact (ret_nil rfl E ⟨rfl, v, hu, hO, hT⟩).1
        | true =>
          rw [hq38] at E
          have hlt : i < C.length := by have := of_decide_eq_true hq38; omega
          obtain ⟨c, hc⟩ : ∃ c, C[i]? = some c := ⟨_, List.getElem?_eq_getElem hlt⟩
          have hlen := len_ok (q := q) hl hc
          have hrow := (hC i c hc).1
          refine wp_cond_true (E.get 0 rfl) ?_
          refine wp_skip ?_
          refine then_n ?_
          refine wp_seq ?_
          refine wp_block ?_
          refine wp_seq ?_
          refine wp_region_lit ?_
          refine env_put (d := 37) (v := .pointer (some ⟨g, (off + i), none⟩)) E rfl (by decide) rfl (wanted_none rfl _) (run_index69 (i := i) rfl (E.get 3 rfl) (E.get 1 rfl) hlt) fun a E => ?_
          refine env_put (d := 38) (v := .pointer (some ⟨c.1, 0, none⟩)) E rfl (by decide) rfl (wanted_none rfl _) (run_ld59 rfl (E.get 0 rfl) hrow) fun a E => ?_
          refine env_put (d := 6) (v := .pointer (some ⟨c.1, 0, none⟩)) E rfl (by decide) rfl (wanted_none rfl _) (run_assign rfl (E.get 0 rfl)) fun a E => ?_
          refine wpList_nil ?_
          refine then_n ?_
          refine wp_region_lit ?_
          refine env_put (d := 39) (v := (.func (.func 35) #[] #[.pointer (some ⟨bq, 0, none⟩), .pointer (some ⟨bo, 0, none⟩), .pointer (some ⟨bw, 0, none⟩)])) E rfl (by decide) rfl (wanted_none rfl _) (run_ld68 rfl (E.get 10 rfl) (bx hw 0 rfl)) fun a E => ?_
          refine env_put (d := 40) (v := .pointer (some ⟨c.1, 0, none⟩)) E rfl (by decide) rfl (wanted_none rfl _) (run_move rfl (E.get 1 rfl)) fun a E => ?_
          refine env_callv (d := 41) (R := fun u w8 => ∃ v9, w8.heap[bo]? = some (.cells #[v9] 42 (0, 0)) ∧ oStr w8 B v9 ((A ++ mtIds ((C.take i).flatMap (·.2.2)) q) ++ mtIds c.2.2 q) ∧ Fr (fun k => k = bo ∨ B ≤ k) w2 w8) E rfl (by decide) rfl (wanted_none rfl _) (run_callf1c (enters_of Try.func35 (by kernel_rfl) rfl) rfl (E.get 1 rfl) (E.get 0 rfl)) ((ih (hC i c hc).2 hq hu hO hw hBs hlen).mono fun e w8 h => ⟨_, h.1, h.2⟩) fun a w1 u9 hR E => ?_
          obtain ⟨v9, hu, hO, f1⟩ := hR
          have hq := f1.obj hq (fun e => by omega)
          have hw := f1.obj hw (fun e => by omega)
          have hC := fun j c hc => (⟨f1.cell (hC j c hc).1 (fun (e : g = bo ∨ B ≤ g) => by omega), NdAt.fr f1 (fun k hk e => by have := hS k hk; omega) (hC j c hc).2⟩ : _ ∧ _)
          have hBs := Nat.le_trans hBs f1.size
          have hT := hT.trans' f1 (fun _ _ h => h)
          clear f1
          refine wpList_nil ?_
          refine blk_n ?_
          refine then_n ?_
          refine wp_region_lit ?_
          refine env_put (d := 42) (v := .int .i64 ((i : Int) + 1)) E rfl (by decide) rfl (wanted_none rfl _) (run_iadd Try.underlying3 (E.get 7 rfl) rfl (by omega) (by omega) rfl) fun a E => ?_
          refine env_set (d := 35) (v := .int .i64 ((i : Int) + 1)) E rfl (by decide) (wanted_none rfl _) (run_move rfl (E.get 0 rfl)) fun a E => ?_
          refine wpList_nil ?_
          refine then_n ?_
          refine ⟨⟨i + 1, v9, E.of ⟨E.get 0 rfl, E.get 9 rfl, E.get 10 rfl, E.get 11 rfl, E.get 12 rfl, E.get 13 rfl, E.get 14 rfl, trivial⟩, hlt, hq, hu, hw, ?_, hC, hBs, hT⟩, ?_⟩
          · rw [mtIds_flat C q i hc]
            rw [List.append_assoc] at hO; exact hO
          · rw [E.get 0 rfl]; simp only [intOf]; omega
end Go.Proofs.Ytcafnanbdmapgaa
