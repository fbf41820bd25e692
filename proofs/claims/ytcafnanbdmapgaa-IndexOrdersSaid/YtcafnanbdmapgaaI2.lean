/- The Index chapter: distances, lists of Ids. -/
import Derived.Test.YtcafnanbdmapgaaI1
set_option linter.unusedVariables false
set_option linter.unusedSimpArgs false
namespace Go.Proofs.Ytcafnanbdmapgaa
open Go.RowKit Go.Pl

theorem dx_bd {lo hi p : Int} (h1 : isI lo) (h2 : isI hi) (h3 : isI p) : 0 ≤ dx lo hi p ∧ dx lo hi p ≤ 4194304 := by unfold isI at *; unfold dx; omega
theorem sq_bd {x : Int} (h0 : 0 ≤ x) (h1 : x ≤ 4194304) : 0 ≤ x * x ∧ x * x ≤ 17592186044416 := by
  refine ⟨Int.mul_nonneg h0 h0, ?_⟩
  have := Int.mul_le_mul h1 h1 h0 (by omega : (0 : Int) ≤ 4194304)
  omega
theorem okB.isI {b : Bx} (h : okB b) : (Ytcafnanbdmapgaa.isI b.1.1 ∧ Ytcafnanbdmapgaa.isI b.1.2) ∧ Ytcafnanbdmapgaa.isI b.2.1 ∧ Ytcafnanbdmapgaa.isI b.2.2 := ⟨h.1, h.2.1⟩
set_option maxRecDepth 100000 in
set_option maxHeartbeats 4000000 in
theorem rdist_calls (b : Bx) (p : Pt) (w : World) (hb : okB b) (hp : isP p) : Calls Try.prog 28 #[.agg (bxC b), .agg (ptC p)] w fun e w' => e = .returned (.int .i64 (dsB b p)) ∧ Fr (fun _ => False) w w' := by
  refine wp_start2 Try.func28 rfl rfl (n := 40) (by decide) fun a E => ?_
  have hf : Fr (fun _ => False) w w := Fr.refl _ _
  obtain ⟨⟨i1, i2⟩, i3, i4⟩ := hb.isI
  obtain ⟨i5, i6⟩ := hp
  have s1 := dx_bd i1 i3 i5
  have s2 := dx_bd i2 i4 i6
  have q1 := sq_bd s1.1 s1.2
  have q2 := sq_bd s2.1 s2.2
  have n1 : (-2097152 ≤ b.1.1 ∧ b.1.1 ≤ 2097152) ∧ (-2097152 ≤ b.1.2 ∧ b.1.2 ≤ 2097152) := ⟨i1, i2⟩
  have n2 : (-2097152 ≤ b.2.1 ∧ b.2.1 ≤ 2097152) ∧ (-2097152 ≤ b.2.2 ∧ b.2.2 ≤ 2097152) := ⟨i3, i4⟩
  have n3 : (-2097152 ≤ p.1 ∧ p.1 ≤ 2097152) ∧ (-2097152 ≤ p.2 ∧ p.2 ≤ 2097152) := ⟨i5, i6⟩
  clear i1 i2 i3 i4 i5 i6
  refine wp_seq ?_
  refine wp_region_lit ?_
  refine env_box26 (d := 2) E rfl (by decide) rfl (wanted_none rfl _) rfl (E.get 0 rfl) fun a w1 b1 eb1 hb1 f1 E => ?_
  have hf := hf.trans f1
  clear f1
  refine env_box24 (d := 3) E rfl (by decide) rfl (wanted_none rfl _) rfl (E.get 2 rfl) fun a w1 b2 eb2 hb2 f1 E => ?_
  have hb1 := f1.obj hb1 id
  have hf := hf.trans f1
  clear f1
  refine env_put (d := 4) (v := .int .i64 0) E rfl (by decide) rfl (wanted_none rfl _) (run_assign rfl rfl) fun a E => ?_
  refine wpList_nil ?_
  refine then_n ?_
  refine wp_seq ?_
  refine wp_region_lit ?_
  refine env_put (d := 7) (v := .pointer (some ⟨b1, 0, none⟩)) E rfl (by decide) rfl (wanted_none rfl _) (fa26_0 rfl (E.get 2 rfl)) fun a E => ?_
  refine env_put (d := 8) (v := .pointer (some ⟨b1, 0, none⟩)) E rfl (by decide) rfl (wanted_none rfl _) (fa24_0 rfl (E.get 0 rfl)) fun a E => ?_
  refine env_put (d := 9) (v := .int .i64 b.1.1) E rfl (by decide) rfl (wanted_none rfl _) (run_ldi rfl (E.get 0 rfl) (bx hb1 0 rfl)) fun a E => ?_
  refine env_put (d := 10) (v := .pointer (some ⟨b2, 0, none⟩)) E rfl (by decide) rfl (wanted_none rfl _) (fa24_0 rfl (E.get 4 rfl)) fun a E => ?_
  refine env_put (d := 11) (v := .int .i64 p.1) E rfl (by decide) rfl (wanted_none rfl _) (run_ldi rfl (E.get 0 rfl) (bx hb2 0 rfl)) fun a E => ?_
  refine env_put (d := 12) (v := .int .i64 (b.1.1 - p.1)) E rfl (by decide) rfl (wanted_none rfl _) (run_isub Try.underlying3 (E.get 2 rfl) (E.get 0 rfl) (by omega) (by omega) rfl) fun a E => ?_
  refine env_put (d := 13) (v := .pointer (some ⟨b2, 0, none⟩)) E rfl (by decide) rfl (wanted_none rfl _) (fa24_0 rfl (E.get 7 rfl)) fun a E => ?_
  refine env_put (d := 14) (v := .int .i64 p.1) E rfl (by decide) rfl (wanted_none rfl _) (run_ldi rfl (E.get 0 rfl) (bx hb2 0 rfl)) fun a E => ?_
  refine env_put (d := 15) (v := .pointer (some ⟨b1, 2, none⟩)) E rfl (by decide) rfl (wanted_none rfl _) (fa26_1 rfl (E.get 10 rfl)) fun a E => ?_
  refine env_put (d := 16) (v := .pointer (some ⟨b1, 2, none⟩)) E rfl (by decide) rfl (wanted_none rfl _) (fa24_0 rfl (E.get 0 rfl)) fun a E => ?_
  refine env_put (d := 17) (v := .int .i64 b.2.1) E rfl (by decide) rfl (wanted_none rfl _) (run_ldi rfl (E.get 0 rfl) (bx hb1 2 rfl)) fun a E => ?_
  refine env_put (d := 18) (v := .int .i64 (p.1 - b.2.1)) E rfl (by decide) rfl (wanted_none rfl _) (run_isub Try.underlying3 (E.get 3 rfl) (E.get 0 rfl) (by omega) (by omega) rfl) fun a E => ?_
  refine env_put (d := 19) (v := .int .i64 (max (max (b.1.1 - p.1) (p.1 - b.2.1)) 0)) E rfl (by decide) rfl (wanted_none rfl _) (run_max3 rfl (E.get 6 rfl) (E.get 0 rfl) rfl) fun a E => ?_
  refine env_put (d := 5) (v := .int .i64 (max (max (b.1.1 - p.1) (p.1 - b.2.1)) 0)) E rfl (by decide) rfl (wanted_none rfl _) (run_assign rfl (E.get 0 rfl)) fun a E => ?_
  refine wpList_nil ?_
  refine then_n ?_
  refine wp_seq ?_
  refine wp_region_lit ?_
  refine env_put (d := 20) (v := .pointer (some ⟨b1, 0, none⟩)) E rfl (by decide) rfl (wanted_none rfl _) (fa26_0 rfl (E.get 16 rfl)) fun a E => ?_
  refine env_put (d := 21) (v := .pointer (some ⟨b1, 1, none⟩)) E rfl (by decide) rfl (wanted_none rfl _) (fa24_1 rfl (E.get 0 rfl)) fun a E => ?_
  refine env_put (d := 22) (v := .int .i64 b.1.2) E rfl (by decide) rfl (wanted_none rfl _) (run_ldi rfl (E.get 0 rfl) (bx hb1 1 rfl)) fun a E => ?_
  refine env_put (d := 23) (v := .pointer (some ⟨b2, 1, none⟩)) E rfl (by decide) rfl (wanted_none rfl _) (fa24_1 rfl (E.get 18 rfl)) fun a E => ?_
  refine env_put (d := 24) (v := .int .i64 p.2) E rfl (by decide) rfl (wanted_none rfl _) (run_ldi rfl (E.get 0 rfl) (bx hb2 1 rfl)) fun a E => ?_
  refine env_put (d := 25) (v := .int .i64 (b.1.2 - p.2)) E rfl (by decide) rfl (wanted_none rfl _) (run_isub Try.underlying3 (E.get 2 rfl) (E.get 0 rfl) (by omega) (by omega) rfl) fun a E => ?_
  refine env_put (d := 26) (v := .pointer (some ⟨b2, 1, none⟩)) E rfl (by decide) rfl (wanted_none rfl _) (fa24_1 rfl (E.get 21 rfl)) fun a E => ?_
  refine env_put (d := 27) (v := .int .i64 p.2) E rfl (by decide) rfl (wanted_none rfl _) (run_ldi rfl (E.get 0 rfl) (bx hb2 1 rfl)) fun a E => ?_
  refine env_put (d := 28) (v := .pointer (some ⟨b1, 2, none⟩)) E rfl (by decide) rfl (wanted_none rfl _) (fa26_1 rfl (E.get 24 rfl)) fun a E => ?_
  refine env_put (d := 29) (v := .pointer (some ⟨b1, 3, none⟩)) E rfl (by decide) rfl (wanted_none rfl _) (fa24_1 rfl (E.get 0 rfl)) fun a E => ?_
  refine env_put (d := 30) (v := .int .i64 b.2.2) E rfl (by decide) rfl (wanted_none rfl _) (run_ldi rfl (E.get 0 rfl) (bx hb1 3 rfl)) fun a E => ?_
  refine env_put (d := 31) (v := .int .i64 (p.2 - b.2.2)) E rfl (by decide) rfl (wanted_none rfl _) (run_isub Try.underlying3 (E.get 3 rfl) (E.get 0 rfl) (by omega) (by omega) rfl) fun a E => ?_
  refine env_put (d := 32) (v := .int .i64 (max (max (b.1.2 - p.2) (p.2 - b.2.2)) 0)) E rfl (by decide) rfl (wanted_none rfl _) (run_max3 rfl (E.get 6 rfl) (E.get 0 rfl) rfl) fun a E => ?_
  refine env_put (d := 6) (v := .int .i64 (max (max (b.1.2 - p.2) (p.2 - b.2.2)) 0)) E rfl (by decide) rfl (wanted_none rfl _) (run_assign rfl (E.get 0 rfl)) fun a E => ?_
  refine wpList_nil ?_
  refine then_n ?_
  refine wp_seq ?_
  refine wp_region_lit ?_
  refine env_put (d := 33) (v := .int .i64 (max (max (b.1.1 - p.1) (p.1 - b.2.1)) 0)) E rfl (by decide) rfl (wanted_none rfl _) (run_move rfl (E.get 14 rfl)) fun a E => ?_
  refine env_put (d := 34) (v := .int .i64 (max (max (b.1.1 - p.1) (p.1 - b.2.1)) 0)) E rfl (by decide) rfl (wanted_none rfl _) (run_move rfl (E.get 15 rfl)) fun a E => ?_
  refine env_put (d := 35) (v := .int .i64 ((max (max (b.1.1 - p.1) (p.1 - b.2.1)) 0) * (max (max (b.1.1 - p.1) (p.1 - b.2.1)) 0))) E rfl (by decide) rfl (wanted_none rfl _) (run_imul Try.underlying3 (E.get 1 rfl) (E.get 0 rfl) (Int.le_trans (by decide) q1.1) (Int.le_trans q1.2 (by decide)) rfl) fun a E => ?_
  refine env_put (d := 36) (v := .int .i64 (max (max (b.1.2 - p.2) (p.2 - b.2.2)) 0)) E rfl (by decide) rfl (wanted_none rfl _) (run_move rfl (E.get 3 rfl)) fun a E => ?_
  refine env_put (d := 37) (v := .int .i64 (max (max (b.1.2 - p.2) (p.2 - b.2.2)) 0)) E rfl (by decide) rfl (wanted_none rfl _) (run_move rfl (E.get 4 rfl)) fun a E => ?_
  refine env_put (d := 38) (v := .int .i64 ((max (max (b.1.2 - p.2) (p.2 - b.2.2)) 0) * (max (max (b.1.2 - p.2) (p.2 - b.2.2)) 0))) E rfl (by decide) rfl (wanted_none rfl _) (run_imul Try.underlying3 (E.get 1 rfl) (E.get 0 rfl) (Int.le_trans (by decide) q2.1) (Int.le_trans q2.2 (by decide)) rfl) fun a E => ?_
  refine env_put (d := 39) (v := .int .i64 (((max (max (b.1.1 - p.1) (p.1 - b.2.1)) 0) * (max (max (b.1.1 - p.1) (p.1 - b.2.1)) 0)) + ((max (max (b.1.2 - p.2) (p.2 - b.2.2)) 0) * (max (max (b.1.2 - p.2) (p.2 - b.2.2)) 0)))) E rfl (by decide) rfl (wanted_none rfl _) (run_iadd Try.underlying3 (E.get 3 rfl) (E.get 0 rfl) (Int.le_trans (by decide) (Int.add_nonneg q1.1 q2.1)) (Int.le_trans (Int.add_le_add q1.2 q2.2) (by decide)) rfl) fun a E => ?_
  refine env_set (d := 4) (v := .int .i64 (((max (max (b.1.1 - p.1) (p.1 - b.2.1)) 0) * (max (max (b.1.1 - p.1) (p.1 - b.2.1)) 0)) + ((max (max (b.1.2 - p.2) (p.2 - b.2.2)) 0) * (max (max (b.1.2 - p.2) (p.2 - b.2.2)) 0)))) E rfl (by decide) (wanted_none rfl _) (run_assign rfl (E.get 0 rfl)) fun a E => ?_
  refine wpList_nil ?_
  refine then_n ?_
  refine wp_ret ?_
  exact ret_tmp (t := 4) rfl E (E.get 0 rfl) ⟨rfl, hf⟩
set_option maxRecDepth 100000 in
set_option maxHeartbeats 4000000 in
theorem pdist_calls (b : Bx) (p : Pt) (w : World) (hb : okB b) (hp : isP p) : Calls Try.prog 41 #[.agg (bxC b), .agg (ptC p)] w fun e w' => e = .returned (.int .i64 (dsB b p)) ∧ Fr (fun _ => False) w w' := by
  refine wp_start2 Try.func41 rfl rfl (n := 40) (by decide) fun a E => ?_
  have hf : Fr (fun _ => False) w w := Fr.refl _ _
  obtain ⟨⟨i1, i2⟩, i3, i4⟩ := hb.isI
  obtain ⟨i5, i6⟩ := hp
  have s1 := dx_bd i1 i3 i5
  have s2 := dx_bd i2 i4 i6
  have q1 := sq_bd s1.1 s1.2
  have q2 := sq_bd s2.1 s2.2
  have n1 : (-2097152 ≤ b.1.1 ∧ b.1.1 ≤ 2097152) ∧ (-2097152 ≤ b.1.2 ∧ b.1.2 ≤ 2097152) := ⟨i1, i2⟩
  have n2 : (-2097152 ≤ b.2.1 ∧ b.2.1 ≤ 2097152) ∧ (-2097152 ≤ b.2.2 ∧ b.2.2 ≤ 2097152) := ⟨i3, i4⟩
  have n3 : (-2097152 ≤ p.1 ∧ p.1 ≤ 2097152) ∧ (-2097152 ≤ p.2 ∧ p.2 ≤ 2097152) := ⟨i5, i6⟩
  clear i1 i2 i3 i4 i5 i6
  refine wp_seq ?_
  refine wp_region_lit ?_
  refine env_box26 (d := 2) E rfl (by decide) rfl (wanted_none rfl _) rfl (E.get 0 rfl) fun a w1 b3 eb3 hb3 f1 E => ?_
  have hf := hf.trans f1
  clear f1
  refine env_box24 (d := 3) E rfl (by decide) rfl (wanted_none rfl _) rfl (E.get 2 rfl) fun a w1 b4 eb4 hb4 f1 E => ?_
  have hb3 := f1.obj hb3 id
  have hf := hf.trans f1
  clear f1
  refine env_put (d := 4) (v := .int .i64 0) E rfl (by decide) rfl (wanted_none rfl _) (run_assign rfl rfl) fun a E => ?_
  refine wpList_nil ?_
  refine then_n ?_
  refine wp_seq ?_
  refine wp_region_inv (n := 40) (base := [(4, .int .i64 0), (3, .pointer (some ⟨b4, 0, none⟩)), (2, .pointer (some ⟨b3, 0, none⟩)), (0, .agg (bxC b)), (1, .agg (ptC p))]) (T := [some (7, .pointer (some ⟨b3, 0, none⟩)), some (8, .pointer (some ⟨b3, 0, none⟩)), some (9, .int .i64 b.1.1), some (10, .pointer (some ⟨b4, 0, none⟩)), some (11, .int .i64 p.1), some (12, .int .i64 (b.1.1 - p.1)), some (13, .pointer (some ⟨b4, 0, none⟩)), some (14, .int .i64 p.1), some (15, .pointer (some ⟨b3, 2, none⟩)), some (16, .pointer (some ⟨b3, 2, none⟩)), some (17, .int .i64 b.2.1), some (18, .int .i64 (p.1 - b.2.1)), some (19, .int .i64 (max (max (b.1.1 - p.1) (p.1 - b.2.1)) 0)), some (20, .pointer (some ⟨b3, 0, none⟩)), some (21, .pointer (some ⟨b3, 1, none⟩)), some (22, .int .i64 b.1.2), some (23, .pointer (some ⟨b4, 1, none⟩)), some (24, .int .i64 p.2), some (25, .int .i64 (b.1.2 - p.2)), some (26, .pointer (some ⟨b4, 1, none⟩)), some (27, .int .i64 p.2), some (28, .pointer (some ⟨b3, 2, none⟩)), some (29, .pointer (some ⟨b3, 3, none⟩)), some (30, .int .i64 b.2.2), some (31, .int .i64 (p.2 - b.2.2)), some (32, .int .i64 (max (max (b.1.2 - p.2) (p.2 - b.2.2)) 0)), some (5, .int .i64 (max (max (b.1.1 - p.1) (p.1 - b.2.1)) 0)), some (6, .int .i64 (max (max (b.1.2 - p.2) (p.2 - b.2.2)) 0))]) (M := fun _ wm => Fr (fun _ => False) w1 wm) (by kernel_rfl) (by kernel_rfl) (by kernel_rfl) (E.of ⟨E.get 0 rfl, E.get 1 rfl, E.get 2 rfl, E.get 3 rfl, E.get 4 rfl, trivial⟩) (Fr.refl _ _).drew ?_ ?_
  · intro j9 o9 t9 ls9 a w5 ho hT0 hl E D DL hM
    have hb3 := hM.obj hb3 id
    have hb4 := hM.obj hb4 id
    match j9, ho, hT0, hl, D, DL with
    | 0, ho, hT0, hl, D, DL =>
      obtain rfl := Option.some.inj ho
      obtain rfl := Option.some.inj hT0
      clear ho hT0
      exact val_wp (fa26_0 rfl (E.get 2 rfl)) rfl hM
    | 1, ho, hT0, hl, D, DL =>
      obtain rfl := Option.some.inj ho
      obtain rfl := Option.some.inj hT0
      clear ho hT0
      exact val_wp (fa24_0 rfl (D 0 _ rfl rfl)) rfl hM
    | 2, ho, hT0, hl, D, DL =>
      obtain rfl := Option.some.inj ho
      obtain rfl := Option.some.inj hT0
      clear ho hT0
      exact val_wp (run_ldi rfl (D 1 _ rfl rfl) (bx hb3 0 rfl)) rfl hM
    | 3, ho, hT0, hl, D, DL =>
      obtain rfl := Option.some.inj ho
      obtain rfl := Option.some.inj hT0
      clear ho hT0
      exact val_wp (fa24_0 rfl (E.get 1 rfl)) rfl hM
    | 4, ho, hT0, hl, D, DL =>
      obtain rfl := Option.some.inj ho
      obtain rfl := Option.some.inj hT0
      clear ho hT0
      exact val_wp (run_ldi rfl (D 3 _ rfl rfl) (bx hb4 0 rfl)) rfl hM
    | 5, ho, hT0, hl, D, DL =>
      obtain rfl := Option.some.inj ho
      obtain rfl := Option.some.inj hT0
      clear ho hT0
      exact val_wp (run_isub Try.underlying3 (D 2 _ rfl rfl) (D 4 _ rfl rfl) (by omega) (by omega) rfl) rfl hM
    | 6, ho, hT0, hl, D, DL =>
      obtain rfl := Option.some.inj ho
      obtain rfl := Option.some.inj hT0
      clear ho hT0
      exact val_wp (fa24_0 rfl (E.get 1 rfl)) rfl hM
    | 7, ho, hT0, hl, D, DL =>
      obtain rfl := Option.some.inj ho
      obtain rfl := Option.some.inj hT0
      clear ho hT0
      exact val_wp (run_ldi rfl (D 6 _ rfl rfl) (bx hb4 0 rfl)) rfl hM
    | 8, ho, hT0, hl, D, DL =>
      obtain rfl := Option.some.inj ho
      obtain rfl := Option.some.inj hT0
      clear ho hT0
      exact val_wp (fa26_1 rfl (E.get 2 rfl)) rfl hM
    | 9, ho, hT0, hl, D, DL =>
      obtain rfl := Option.some.inj ho
      obtain rfl := Option.some.inj hT0
      clear ho hT0
      exact val_wp (fa24_0 rfl (D 8 _ rfl rfl)) rfl hM
    | 10, ho, hT0, hl, D, DL =>
      obtain rfl := Option.some.inj ho
      obtain rfl := Option.some.inj hT0
      clear ho hT0
      exact val_wp (run_ldi rfl (D 9 _ rfl rfl) (bx hb3 2 rfl)) rfl hM
    | 11, ho, hT0, hl, D, DL =>
      obtain rfl := Option.some.inj ho
      obtain rfl := Option.some.inj hT0
      clear ho hT0
      exact val_wp (run_isub Try.underlying3 (D 7 _ rfl rfl) (D 10 _ rfl rfl) (by omega) (by omega) rfl) rfl hM
    | 12, ho, hT0, hl, D, DL =>
      obtain rfl := Option.some.inj ho
      obtain rfl := Option.some.inj hT0
      clear ho hT0
      exact val_wp (run_max3 rfl (D 5 _ rfl rfl) (D 11 _ rfl rfl) rfl) rfl hM
    | 13, ho, hT0, hl, D, DL =>
      obtain rfl := Option.some.inj ho
      obtain rfl := Option.some.inj hT0
      clear ho hT0
      exact val_wp (fa26_0 rfl (E.get 2 rfl)) rfl hM
    | 14, ho, hT0, hl, D, DL =>
      obtain rfl := Option.some.inj ho
      obtain rfl := Option.some.inj hT0
      clear ho hT0
      exact val_wp (fa24_1 rfl (D 13 _ rfl rfl)) rfl hM
    | 15, ho, hT0, hl, D, DL =>
      obtain rfl := Option.some.inj ho
      obtain rfl := Option.some.inj hT0
      clear ho hT0
      exact val_wp (run_ldi rfl (D 14 _ rfl rfl) (bx hb3 1 rfl)) rfl hM
    | 16, ho, hT0, hl, D, DL =>
      obtain rfl := Option.some.inj ho
      obtain rfl := Option.some.inj hT0
      clear ho hT0
      exact val_wp (fa24_1 rfl (E.get 1 rfl)) rfl hM
    | 17, ho, hT0, hl, D, DL =>
      obtain rfl := Option.some.inj ho
      obtain rfl := Option.some.inj hT0
      clear ho hT0
      exact val_wp (run_ldi rfl (D 16 _ rfl rfl) (bx hb4 1 rfl)) rfl hM
    | 18, ho, hT0, hl, D, DL =>
      obtain rfl := Option.some.inj ho
      obtain rfl := Option.some.inj hT0
      clear ho hT0
      exact val_wp (run_isub Try.underlying3 (D 15 _ rfl rfl) (D 17 _ rfl rfl) (by omega) (by omega) rfl) rfl hM
    | 19, ho, hT0, hl, D, DL =>
      obtain rfl := Option.some.inj ho
      obtain rfl := Option.some.inj hT0
      clear ho hT0
      exact val_wp (fa24_1 rfl (E.get 1 rfl)) rfl hM
    | 20, ho, hT0, hl, D, DL =>
      obtain rfl := Option.some.inj ho
      obtain rfl := Option.some.inj hT0
      clear ho hT0
      exact val_wp (run_ldi rfl (D 19 _ rfl rfl) (bx hb4 1 rfl)) rfl hM
    | 21, ho, hT0, hl, D, DL =>
      obtain rfl := Option.some.inj ho
      obtain rfl := Option.some.inj hT0
      clear ho hT0
      exact val_wp (fa26_1 rfl (E.get 2 rfl)) rfl hM
    | 22, ho, hT0, hl, D, DL =>
      obtain rfl := Option.some.inj ho
      obtain rfl := Option.some.inj hT0
      clear ho hT0
      exact val_wp (fa24_1 rfl (D 21 _ rfl rfl)) rfl hM
    | 23, ho, hT0, hl, D, DL =>
      obtain rfl := Option.some.inj ho
      obtain rfl := Option.some.inj hT0
      clear ho hT0
      exact val_wp (run_ldi rfl (D 22 _ rfl rfl) (bx hb3 3 rfl)) rfl hM
    | 24, ho, hT0, hl, D, DL =>
      obtain rfl := Option.some.inj ho
      obtain rfl := Option.some.inj hT0
      clear ho hT0
      exact val_wp (run_isub Try.underlying3 (D 20 _ rfl rfl) (D 23 _ rfl rfl) (by omega) (by omega) rfl) rfl hM
    | 25, ho, hT0, hl, D, DL =>
      obtain rfl := Option.some.inj ho
      obtain rfl := Option.some.inj hT0
      clear ho hT0
      exact val_wp (run_max3 rfl (D 18 _ rfl rfl) (D 24 _ rfl rfl) rfl) rfl hM
    | 26, ho, hT0, hl, D, DL =>
      obtain rfl := Option.some.inj ho
      obtain rfl := Option.some.inj hT0
      clear ho hT0
      exact val_wp (run_assign rfl (D 12 _ rfl rfl)) rfl hM
    | 27, ho, hT0, hl, D, DL =>
      obtain rfl := Option.some.inj ho
      obtain rfl := Option.some.inj hT0
      clear ho hT0
      exact val_wp (run_assign rfl (D 25 _ rfl rfl)) rfl hM
    | j9 + 28, ho, hT0, hl, D, DL => exact absurd hT0 (by simp)
  · intro a w5 E V hM
    have E := E.add (V 26 _ rfl)
    have E := E.add (V 27 _ rfl)
    clear V
    have hb3 := hM.obj hb3 id
    have hb4 := hM.obj hb4 id
    have hf := hf.trans hM
    clear hM
    refine then_n ?_
    refine wp_seq ?_
    refine wp_region_lit ?_
    refine env_put (d := 33) (v := .int .i64 (max (max (b.1.1 - p.1) (p.1 - b.2.1)) 0)) E rfl (by decide) rfl (wanted_none rfl _) (run_move rfl (E.get 1 rfl)) fun a E => ?_
    refine env_put (d := 34) (v := .int .i64 (max (max (b.1.1 - p.1) (p.1 - b.2.1)) 0)) E rfl (by decide) rfl (wanted_none rfl _) (run_move rfl (E.get 2 rfl)) fun a E => ?_
    refine env_put (d := 35) (v := .int .i64 ((max (max (b.1.1 - p.1) (p.1 - b.2.1)) 0) * (max (max (b.1.1 - p.1) (p.1 - b.2.1)) 0))) E rfl (by decide) rfl (wanted_none rfl _) (run_imul Try.underlying3 (E.get 1 rfl) (E.get 0 rfl) (Int.le_trans (by decide) q1.1) (Int.le_trans q1.2 (by decide)) rfl) fun a E => ?_
    refine env_put (d := 36) (v := .int .i64 (max (max (b.1.2 - p.2) (p.2 - b.2.2)) 0)) E rfl (by decide) rfl (wanted_none rfl _) (run_move rfl (E.get 3 rfl)) fun a E => ?_
    refine env_put (d := 37) (v := .int .i64 (max (max (b.1.2 - p.2) (p.2 - b.2.2)) 0)) E rfl (by decide) rfl (wanted_none rfl _) (run_move rfl (E.get 4 rfl)) fun a E => ?_
    refine env_put (d := 38) (v := .int .i64 ((max (max (b.1.2 - p.2) (p.2 - b.2.2)) 0) * (max (max (b.1.2 - p.2) (p.2 - b.2.2)) 0))) E rfl (by decide) rfl (wanted_none rfl _) (run_imul Try.underlying3 (E.get 1 rfl) (E.get 0 rfl) (Int.le_trans (by decide) q2.1) (Int.le_trans q2.2 (by decide)) rfl) fun a E => ?_
    refine env_put (d := 39) (v := .int .i64 (((max (max (b.1.1 - p.1) (p.1 - b.2.1)) 0) * (max (max (b.1.1 - p.1) (p.1 - b.2.1)) 0)) + ((max (max (b.1.2 - p.2) (p.2 - b.2.2)) 0) * (max (max (b.1.2 - p.2) (p.2 - b.2.2)) 0)))) E rfl (by decide) rfl (wanted_none rfl _) (run_iadd Try.underlying3 (E.get 3 rfl) (E.get 0 rfl) (Int.le_trans (by decide) (Int.add_nonneg q1.1 q2.1)) (Int.le_trans (Int.add_le_add q1.2 q2.2) (by decide)) rfl) fun a E => ?_
    refine env_set (d := 4) (v := .int .i64 (((max (max (b.1.1 - p.1) (p.1 - b.2.1)) 0) * (max (max (b.1.1 - p.1) (p.1 - b.2.1)) 0)) + ((max (max (b.1.2 - p.2) (p.2 - b.2.2)) 0) * (max (max (b.1.2 - p.2) (p.2 - b.2.2)) 0)))) E rfl (by decide) (wanted_none rfl _) (run_assign rfl (E.get 0 rfl)) fun a E => ?_
    refine wpList_nil ?_
    refine then_n ?_
    refine wp_ret ?_
    exact ret_tmp (t := 4) rfl E (E.get 0 rfl) ⟨rfl, hf⟩
abbrev strC (s : ByteArray) : List Value := [.string s]
abbrev inC (n : Int) : List Value := [.int .i64 n]
def inL (L : List ByteArray) (s : ByteArray) : Bool := L.any fun y => decide (y = s)
theorem inL_iff {L : List ByteArray} {s : ByteArray} : inL L s = true ↔ s ∈ L := by simp [inL]
theorem str_at {w : World} {g off i : Nat} {y : ByteArray} (h : w.rangeAt g (off + i * 1) (strC y)) : w.cell? ⟨g, off + i, none⟩ = some (.string y) := by have := h 0 _ rfl; rwa [Nat.mul_one] at this
theorem int_at {w : World} {g off i : Nat} {y : Int} (h : w.rangeAt g (off + i * 1) (inC y)) : w.cell? ⟨g, off + i, none⟩ = some (.int .i64 y) := by have := h 0 _ rfl; rwa [Nat.mul_one] at this
set_option maxRecDepth 100000 in
set_option maxHeartbeats 4000000 in
theorem has_calls {w : World} {G cap : Nat} {p : Option Addr} {L : List ByteArray} (hs : srcAt strC 1 w G p L) (hb : L.length ≤ 4611686018427387904) (s0 : ByteArray) : Calls Try.prog 26 #[.slice p L.length cap, .string s0] w fun e w' => e = .returned (.bool (inL L s0)) ∧ Fr (fun _ => False) w w' := by
  refine wp_start2 Try.func26 rfl rfl (n := 18) (by decide) fun a E => ?_
  have hf : Fr (fun _ => False) w w := Fr.refl _ _
  refine wp_seq ?_
  refine wp_region_lit ?_
  refine env_put (d := 4) (v := .bool false) E rfl (by decide) rfl (wanted_none rfl _) (run_assign rfl rfl) fun a E => ?_
  refine wpList_nil ?_
  refine then_n ?_
  refine wp_seq ?_
  refine wp_seq ?_
  refine wp_region_lit ?_
  refine env_put (d := 5) (v := .int .i64 0) E rfl (by decide) rfl (wanted_none rfl _) (run_assign rfl rfl) fun a E => ?_
  refine wpList_nil ?_
  refine then_n ?_
  refine wp_block ?_
  refine wp_loop (fun a w2 => ∃ (i : Nat), Env 18 [(5, .int .i64 (i : Int)), (0, .slice (p) L.length cap), (1, .string s0)] a ∧ i ≤ L.length ∧ Hid (∀ (t : Nat) (z : ByteArray), t < i → L[t]? = some z → z ≠ s0) ∧ srcAt strC 1 w2 G p L ∧ Fr (fun _ => False) w w2) (fun a _ => L.length - (intOf (a.eval (.tmp 5))).toNat) ?_ ?_
  · exact ⟨0, E.of ⟨E.get 0 rfl, E.get 2 rfl, E.get 3 rfl, trivial⟩, Nat.zero_le _, fun t z h => absurd h (Nat.not_lt_zero _), hs, hf⟩
  clear E
  rintro a w2 ⟨i, E, hi, hpre, hs, hf⟩
  have hmu : L.length - (intOf (a.eval (.tmp 5))).toNat = L.length - i := by rw [E.get 0 rfl]; first | (simp [intOf]; done) | (simp only [intOf]; omega)
  rw [hmu]
  clear hmu
  refine wp_seq ?_
  refine wp_seq ?_
  refine wp_region_lit ?_
  refine env_put (d := 6) (v := .int .i64 (i : Int)) E rfl (by decide) rfl (wanted_none rfl _) (run_move rfl (E.get 0 rfl)) fun a E => ?_
  refine env_put (d := 7) (v := .slice (p) L.length cap) E rfl (by decide) rfl (wanted_none rfl _) (run_move rfl (E.get 2 rfl)) fun a E => ?_
  refine env_put (d := 8) (v := .int .i64 (L.length : Int)) E rfl (by decide) rfl (wanted_none rfl _) (run_len42 rfl (E.get 0 rfl)) fun a E => ?_
  refine env_put (d := 9) (v := .bool (decide ((i : Int) < (L.length : Int)))) E rfl (by decide) rfl (wanted_none rfl _) (run_ilss (E.get 2 rfl) (E.get 0 rfl) Try.underlying3 rfl) fun a E => ?_
  refine wpList_nil ?_
  refine then_n ?_
  cases hq7 : (decide ((i : Int) < (L.length : Int))) with
  | false =>
    rw [hq7] at E
    refine wp_cond_false (E.get 0 rfl) ?_
    refine wp_exit ?_
    refine then_e ?_
    refine then_e ?_
    refine blk_e ?_
    refine then_n ?_
    refine wp_seq ?_
    refine wp_region_lit ?_
    refine env_put (d := 4) (v := .bool false) E rfl (by decide) rfl (wanted_none rfl _) (run_assign rfl rfl) fun a E => ?_
    refine wpList_nil ?_
    refine then_n ?_
    refine wp_ret ?_
    refine ret_tmp (t := 4) rfl E (E.get 0 rfl) ⟨?_, hf⟩
    have hge : L.length ≤ i := by have := of_decide_eq_false hq7; omega
    rw [show inL L s0 = false from Bool.eq_false_iff.2 fun h => ?_]
    rw [inL_iff] at h
    have hm := h
    obtain ⟨t, ht, hte⟩ := List.getElem_of_mem hm
    exact hpre.out t s0 (by omega) (by rw [List.getElem?_eq_getElem ht, hte]) rfl
  | true =>
    rw [hq7] at E
    have hlt : i < L.length := by have := of_decide_eq_true hq7; omega
    obtain ⟨y, hy⟩ : ∃ y, L[i]? = some y := ⟨_, List.getElem?_eq_getElem hlt⟩
    obtain ⟨g, off, hpe, hgl, hrow⟩ := hs.at hlt
    replace hrow := hrow i y hy
    refine wp_cond_true (E.get 0 rfl) ?_
    refine wp_skip ?_
    refine then_n ?_
    refine wp_seq ?_
    refine wp_block ?_
    refine wp_seq ?_
    refine wp_region_lit ?_
    refine env_put (d := 12) (v := .slice (p) L.length cap) E rfl (by decide) rfl (wanted_none rfl _) (run_move rfl (E.get 5 rfl)) fun a E => ?_
    refine env_put (d := 13) (v := .int .i64 (i : Int)) E rfl (by decide) rfl (wanted_none rfl _) (run_move rfl (E.get 5 rfl)) fun a E => ?_
    refine env_put (d := 14) (v := .pointer (some ⟨g, (off + i), none⟩)) E rfl (by decide) rfl (wanted_none rfl _) (run_index42 (i := i) rfl ((E.get 1 rfl).trans (by rw [hpe])) (E.get 0 rfl) hlt) fun a E => ?_
    refine env_put (d := 15) (v := .string y) E rfl (by decide) rfl (wanted_none rfl _) (run_lds rfl (E.get 0 rfl) (str_at hrow)) fun a E => ?_
    refine env_put (d := 16) (v := .string s0) E rfl (by decide) rfl (wanted_none rfl _) (run_move rfl (E.get 10 rfl)) fun a E => ?_
    refine env_put (d := 17) (v := .bool (decide (y = s0))) E rfl (by decide) rfl (wanted_none rfl _) (run_seql (E.get 1 rfl) (E.get 0 rfl) rfl) fun a E => ?_
    refine wpList_nil ?_
    refine then_n ?_
    cases hq8 : (decide (y = s0)) with
    | false =>
      rw [hq8] at E
      refine wp_cond_false (E.get 0 rfl) ?_
      refine wp_skip ?_
      refine blk_n ?_
      refine then_n ?_
      refine wp_region_lit ?_
      refine env_put (d := 10) (v := .int .i64 (i : Int)) E rfl (by decide) rfl (wanted_none rfl _) (run_move rfl (E.get 10 rfl)) fun a E => ?_
      refine env_put (d := 11) (v := .int .i64 ((i : Int) + 1)) E rfl (by decide) rfl (wanted_none rfl _) (run_iadd Try.underlying3 (E.get 0 rfl) rfl (by omega) (by omega) rfl) fun a E => ?_
      refine env_set (d := 5) (v := .int .i64 ((i : Int) + 1)) E rfl (by decide) (wanted_none rfl _) (run_assign rfl (E.get 0 rfl)) fun a E => ?_
      refine wpList_nil ?_
      refine then_n ?_
      refine ⟨⟨i + 1, E.of ⟨E.get 0 rfl, E.get 13 rfl, E.get 14 rfl, trivial⟩, hlt, fun t z ht hz => ?_, hs, hf⟩, ?_⟩
      · by_cases hti : t < i
        · exact hpre.out t z hti hz
        · obtain rfl : t = i := by omega
          rw [hy] at hz; obtain rfl := Option.some.inj hz
          exact of_decide_eq_false hq8
      · rw [E.get 0 rfl]; simp only [intOf]; omega
    | true =>
      rw [hq8] at E
      refine wp_cond_true (E.get 0 rfl) ?_
      refine wp_seq ?_
      refine wp_region_lit ?_
      refine env_put (d := 4) (v := .bool true) E rfl (by decide) rfl (wanted_none rfl _) (run_assign rfl rfl) fun a E => ?_
      refine wpList_nil ?_
      refine then_n ?_
      refine wp_ret ?_
      refine blk_r ?_
      refine then_r ?_
      refine then_r ?_
      refine blk_r ?_
      refine then_r ?_
      refine ret_tmp (t := 4) rfl E (E.get 0 rfl) ⟨?_, hf⟩
      rw [inL_iff.2 (by have := List.mem_of_getElem? hy; rwa [of_decide_eq_true hq8] at this)]
set_option maxRecDepth 100000 in
set_option maxHeartbeats 4000000 in
theorem same_calls {w : World} {G G2 cap cap2 : Nat} {p q : Option Addr} {L M : List ByteArray} (hs : srcAt strC 1 w G p L) (hq : srcAt strC 1 w G2 q M) (hb : L.length ≤ 4611686018427387904) : Calls Try.prog 18 #[.slice p L.length cap, .slice q M.length cap2] w fun e w' => e = .returned (.bool (decide (L = M))) ∧ Fr (fun _ => False) w w' := by
  refine wp_start2 Try.func18 rfl rfl (n := 26) (by decide) fun a E => ?_
  have hf : Fr (fun _ => False) w w := Fr.refl _ _
  refine wp_seq ?_
  refine wp_region_lit ?_
  refine env_put (d := 4) (v := .bool false) E rfl (by decide) rfl (wanted_none rfl _) (run_assign rfl rfl) fun a E => ?_
  refine wpList_nil ?_
  refine then_n ?_
  refine wp_seq ?_
  refine wp_seq ?_
  refine wp_region_lit ?_
  refine env_put (d := 6) (v := .slice (p) L.length cap) E rfl (by decide) rfl (wanted_none rfl _) (run_move rfl (E.get 1 rfl)) fun a E => ?_
  refine env_put (d := 7) (v := .int .i64 (L.length : Int)) E rfl (by decide) rfl (wanted_none rfl _) (run_len42 rfl (E.get 0 rfl)) fun a E => ?_
  refine env_put (d := 8) (v := .slice (q) M.length cap2) E rfl (by decide) rfl (wanted_none rfl _) (run_move rfl (E.get 4 rfl)) fun a E => ?_
  refine env_put (d := 9) (v := .int .i64 (M.length : Int)) E rfl (by decide) rfl (wanted_none rfl _) (run_len42 rfl (E.get 0 rfl)) fun a E => ?_
  refine env_put (d := 10) (v := .bool ((L.length : Int) != (M.length : Int))) E rfl (by decide) rfl (wanted_none rfl _) (run_ineq (E.get 2 rfl) (E.get 0 rfl) Try.underlying3 rfl) fun a E => ?_
  refine wpList_nil ?_
  refine then_n ?_
  cases hq9 : ((L.length : Int) != (M.length : Int)) with
  | false =>
    rw [hq9] at E
    have hlen : L.length = M.length := by have := hq9; simp at this; omega
    refine wp_cond_false (E.get 0 rfl) ?_
    refine wp_skip ?_
    refine then_n ?_
    refine wp_seq ?_
    refine wp_seq ?_
    refine wp_region_lit ?_
    refine env_put (d := 5) (v := .int .i64 0) E rfl (by decide) rfl (wanted_none rfl _) (run_assign rfl rfl) fun a E => ?_
    refine wpList_nil ?_
    refine then_n ?_
    refine wp_block ?_
    refine wp_loop (fun a w2 => ∃ (i : Nat), Env 26 [(5, .int .i64 (i : Int)), (0, .slice (p) L.length cap), (1, .slice (q) M.length cap2)] a ∧ i ≤ L.length ∧ Hid (∀ t, t < i → L[t]? = M[t]?) ∧ srcAt strC 1 w2 G p L ∧ srcAt strC 1 w2 G2 q M ∧ Fr (fun _ => False) w w2) (fun a _ => L.length - (intOf (a.eval (.tmp 5))).toNat) ?_ ?_
    · exact ⟨0, E.of ⟨E.get 0 rfl, E.get 7 rfl, E.get 8 rfl, trivial⟩, Nat.zero_le _, fun t h => absurd h (Nat.not_lt_zero _), hs, hq, hf⟩
    clear E
    rintro a w2 ⟨i, E, hi, hpre, hs, hq, hf⟩
    have hmu : L.length - (intOf (a.eval (.tmp 5))).toNat = L.length - i := by rw [E.get 0 rfl]; first | (simp [intOf]; done) | (simp only [intOf]; omega)
    rw [hmu]
    clear hmu
    refine wp_seq ?_
    refine wp_seq ?_
    refine wp_region_lit ?_
    refine env_put (d := 11) (v := .int .i64 (i : Int)) E rfl (by decide) rfl (wanted_none rfl _) (run_move rfl (E.get 0 rfl)) fun a E => ?_
    refine env_put (d := 12) (v := .slice (p) L.length cap) E rfl (by decide) rfl (wanted_none rfl _) (run_move rfl (E.get 2 rfl)) fun a E => ?_
    refine env_put (d := 13) (v := .int .i64 (L.length : Int)) E rfl (by decide) rfl (wanted_none rfl _) (run_len42 rfl (E.get 0 rfl)) fun a E => ?_
    refine env_put (d := 14) (v := .bool (decide ((i : Int) < (L.length : Int)))) E rfl (by decide) rfl (wanted_none rfl _) (run_ilss (E.get 2 rfl) (E.get 0 rfl) Try.underlying3 rfl) fun a E => ?_
    refine wpList_nil ?_
    refine then_n ?_
    cases hq11 : (decide ((i : Int) < (L.length : Int))) with
    | false =>
      rw [hq11] at E
      refine wp_cond_false (E.get 0 rfl) ?_
      refine wp_exit ?_
      refine then_e ?_
      refine then_e ?_
      refine blk_e ?_
      refine then_n ?_
      refine wp_seq ?_
      refine wp_region_lit ?_
      refine env_put (d := 4) (v := .bool true) E rfl (by decide) rfl (wanted_none rfl _) (run_assign rfl rfl) fun a E => ?_
      refine wpList_nil ?_
      refine then_n ?_
      refine wp_ret ?_
      refine ret_tmp (t := 4) rfl E (E.get 0 rfl) ⟨?_, hf⟩
      have hge : L.length ≤ i := by have := of_decide_eq_false hq11; omega
      rw [decide_eq_true]
      apply List.ext_getElem?
      intro t
      by_cases ht : t < i
      · exact hpre.out t ht
      · rw [List.getElem?_eq_none (by omega), List.getElem?_eq_none (by omega)]
    | true =>
      rw [hq11] at E
      have hlt : i < L.length := by have := of_decide_eq_true hq11; omega
      have hlm : i < M.length := by omega
      obtain ⟨y, hy⟩ : ∃ y, L[i]? = some y := ⟨_, List.getElem?_eq_getElem hlt⟩
      obtain ⟨z, hz⟩ : ∃ z, M[i]? = some z := ⟨_, List.getElem?_eq_getElem hlm⟩
      obtain ⟨g1, off1, hpe, hgl, hrow⟩ := hs.at hlt
      obtain ⟨g2, off2, hpe2, hgl2, hrow2⟩ := hq.at hlm
      replace hrow := hrow i y hy
      replace hrow2 := hrow2 i z hz
      refine wp_cond_true (E.get 0 rfl) ?_
      refine wp_skip ?_
      refine then_n ?_
      refine wp_seq ?_
      refine wp_block ?_
      refine wp_seq ?_
      refine wp_region_inv (n := 26) (base := [(14, .bool true), (13, .int .i64 (L.length : Int)), (12, .slice (p) L.length cap), (11, .int .i64 (i : Int)), (5, .int .i64 (i : Int)), (0, .slice (p) L.length cap), (1, .slice (q) M.length cap2)]) (T := [some (17, .slice (p) L.length cap), some (18, .int .i64 (i : Int)), some (19, .pointer (some ⟨g1, (off1 + i), none⟩)), some (20, .string y), some (21, .slice (q) M.length cap2), some (22, .int .i64 (i : Int)), some (23, .pointer (some ⟨g2, (off2 + i), none⟩)), some (24, .string z), some (25, .bool (!(decide (y = z))))]) (M := fun _ wm => Fr (fun _ => False) w2 wm) (by kernel_rfl) (by kernel_rfl) (by kernel_rfl) (E.of ⟨E.get 0 rfl, E.get 1 rfl, E.get 2 rfl, E.get 3 rfl, E.get 4 rfl, E.get 5 rfl, E.get 6 rfl, trivial⟩) (Fr.refl _ _).drew ?_ ?_
      · intro j9 o9 t9 ls9 a w5 ho hT0 hl E D DL hM
        have hs := hs.fr hM (fun _ _ h => h)
        have hq := hq.fr hM (fun _ _ h => h)
        have hrow := fun j u hu => hM.cell (hrow j u hu) id
        have hrow2 := fun j u hu => hM.cell (hrow2 j u hu) id
        match j9, ho, hT0, hl, D, DL with
        | 0, ho, hT0, hl, D, DL =>
          obtain rfl := Option.some.inj ho
          obtain rfl := Option.some.inj hT0
          clear ho hT0
          exact val_wp (run_move rfl (E.get 5 rfl)) rfl hM
        | 1, ho, hT0, hl, D, DL =>
          obtain rfl := Option.some.inj ho
          obtain rfl := Option.some.inj hT0
          clear ho hT0
          exact val_wp (run_move rfl (E.get 4 rfl)) rfl hM
        | 2, ho, hT0, hl, D, DL =>
          obtain rfl := Option.some.inj ho
          obtain rfl := Option.some.inj hT0
          clear ho hT0
          exact val_wp (run_index42 (i := i) rfl ((D 0 _ rfl rfl).trans (by rw [hpe])) (D 1 _ rfl rfl) hlt) rfl hM
        | 3, ho, hT0, hl, D, DL =>
          obtain rfl := Option.some.inj ho
          obtain rfl := Option.some.inj hT0
          clear ho hT0
          exact val_wp (run_lds rfl (D 2 _ rfl rfl) (str_at hrow)) rfl hM
        | 4, ho, hT0, hl, D, DL =>
          obtain rfl := Option.some.inj ho
          obtain rfl := Option.some.inj hT0
          clear ho hT0
          exact val_wp (run_move rfl (E.get 6 rfl)) rfl hM
        | 5, ho, hT0, hl, D, DL =>
          obtain rfl := Option.some.inj ho
          obtain rfl := Option.some.inj hT0
          clear ho hT0
          exact val_wp (run_move rfl (E.get 4 rfl)) rfl hM
        | 6, ho, hT0, hl, D, DL =>
          obtain rfl := Option.some.inj ho
          obtain rfl := Option.some.inj hT0
          clear ho hT0
          exact val_wp (run_index42 (i := i) rfl ((D 4 _ rfl rfl).trans (by rw [hpe2])) (D 5 _ rfl rfl) hlm) rfl hM
        | 7, ho, hT0, hl, D, DL =>
          obtain rfl := Option.some.inj ho
          obtain rfl := Option.some.inj hT0
          clear ho hT0
          exact val_wp (run_lds rfl (D 6 _ rfl rfl) (str_at hrow2)) rfl hM
        | 8, ho, hT0, hl, D, DL =>
          obtain rfl := Option.some.inj ho
          obtain rfl := Option.some.inj hT0
          clear ho hT0
          exact val_wp (run_sneq (D 3 _ rfl rfl) (D 7 _ rfl rfl) rfl) rfl hM
        | j9 + 9, ho, hT0, hl, D, DL => exact absurd hT0 (by simp)
      · intro a w5 E V hM
        have E := E.add (V 8 _ rfl)
        clear V
        have hs := hs.fr hM (fun _ _ h => h)
        have hq := hq.fr hM (fun _ _ h => h)
        have hrow := fun j u hu => hM.cell (hrow j u hu) id
        have hrow2 := fun j u hu => hM.cell (hrow2 j u hu) id
        have hf := hf.trans hM
        clear hM
        refine then_n ?_
        cases hq13 : (decide (y = z)) with
        | false =>
          rw [hq13] at E
          refine wp_cond_true (E.get 0 rfl) ?_
          refine wp_seq ?_
          refine wp_region_lit ?_
          refine env_put (d := 4) (v := .bool false) E rfl (by decide) rfl (wanted_none rfl _) (run_assign rfl rfl) fun a E => ?_
          refine wpList_nil ?_
          refine then_n ?_
          refine wp_ret ?_
          refine blk_r ?_
          refine then_r ?_
          refine then_r ?_
          refine blk_r ?_
          refine then_r ?_
          refine ret_tmp (t := 4) rfl E (E.get 0 rfl) ⟨?_, hf⟩
          rw [decide_eq_false]; rintro rfl; rw [hy] at hz; exact of_decide_eq_false hq13 (Option.some.inj hz)
        | true =>
          rw [hq13] at E
          refine wp_cond_false (E.get 0 rfl) ?_
          refine wp_skip ?_
          refine blk_n ?_
          refine then_n ?_
          refine wp_region_lit ?_
          refine env_put (d := 15) (v := .int .i64 (i : Int)) E rfl (by decide) rfl (wanted_none rfl _) (run_move rfl (E.get 5 rfl)) fun a E => ?_
          refine env_put (d := 16) (v := .int .i64 ((i : Int) + 1)) E rfl (by decide) rfl (wanted_none rfl _) (run_iadd Try.underlying3 (E.get 0 rfl) rfl (by omega) (by omega) rfl) fun a E => ?_
          refine env_set (d := 5) (v := .int .i64 ((i : Int) + 1)) E rfl (by decide) (wanted_none rfl _) (run_assign rfl (E.get 0 rfl)) fun a E => ?_
          refine wpList_nil ?_
          refine then_n ?_
          refine ⟨⟨i + 1, E.of ⟨E.get 0 rfl, E.get 8 rfl, E.get 9 rfl, trivial⟩, hlt, fun t ht => ?_, hs, hq, hf⟩, ?_⟩
          · by_cases hti : t < i
            · exact hpre.out t hti
            · obtain rfl : t = i := by omega
              rw [hy, hz, of_decide_eq_true hq13]
          · rw [E.get 0 rfl]; simp only [intOf]; omega
  | true =>
    rw [hq9] at E
    refine wp_cond_true (E.get 0 rfl) ?_
    refine wp_seq ?_
    refine wp_region_lit ?_
    refine env_set (d := 4) (v := .bool false) E rfl (by decide) (wanted_none rfl _) (run_assign rfl rfl) fun a E => ?_
    refine wpList_nil ?_
    refine then_n ?_
    refine wp_ret ?_
    refine then_r ?_
    refine ret_tmp (t := 4) rfl E (E.get 0 rfl) ⟨?_, hf⟩
    rw [decide_eq_false]; rintro rfl; have := hq9; simp at this
end Go.Proofs.Ytcafnanbdmapgaa
