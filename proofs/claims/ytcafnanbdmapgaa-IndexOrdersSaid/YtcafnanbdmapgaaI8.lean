/- The reference index: In. -/
import Derived.Test.YtcafnanbdmapgaaI7
set_option linter.unusedVariables false
set_option linter.unusedSimpArgs false
namespace Go.Proofs.Ytcafnanbdmapgaa
open Go.RowKit Go.Pl

theorem ow_srcp {α : Type} {f : α → List Value} {c : Nat} {E : TypeId} (hf : ∀ x, (f x).length = c) {w : World} {B : Nat} {p : Option Addr} {n cap : Nat} {L : List α} (h : ow f c E w B (.slice p n cap) L) : srcAt f c w w.heap.size p L ∧ (p = none → cap = 0) := by
  obtain ⟨p', cap', h1, _, _, h2, h3⟩ := h.src hf
  cases h1; exact ⟨h2, h3⟩
/-- The rows of Ids whose boxes meet. -/
def rinL (I : List ByteArray) (J : List Bx) (q : Bx) : List ByteArray := ((I.zip J).filter fun x => decide (mtB x.2 q)).map (·.1)
theorem zip_get {I : List ByteArray} {J : List Bx} {i : Nat} {y : ByteArray} {z : Bx} (h1 : I[i]? = some y) (h2 : J[i]? = some z) : (I.zip J)[i]? = some (y, z) := by
  rw [List.getElem?_zip_eq_some]; exact ⟨h1, h2⟩
theorem rin_step {I : List ByteArray} {J : List Bx} {q : Bx} {i : Nat} {y : ByteArray} {z : Bx} (h1 : I[i]? = some y) (h2 : J[i]? = some z) : (((I.zip J).take (i + 1)).filter fun x => decide (mtB x.2 q)).map (·.1) = (((I.zip J).take i).filter fun x => decide (mtB x.2 q)).map (·.1) ++ (if decide (mtB z q) then [y] else []) := by
  rw [List.take_add_one, zip_get h1 h2, List.filter_append, List.map_append]
  cases h : decide (mtB z q) <;> simp [h]

set_option maxRecDepth 100000 in
set_option maxHeartbeats 4000000 in
theorem rin_calls {w : World} {r : Nat} {σ : Nat → Prop} {I : List ByteArray} {J : List Bx} {iv bv : Value} (h : RIAt w r σ I J iv bv) (hIJ : I.length = J.length) (hI : I.length ≤ 100000) (q : Bx) : Calls Try.prog 20 #[.pointer (some ⟨r, 0, none⟩), .agg (bxC q)] w fun e w' => ∃ v, e = .returned v ∧ oStr w' w.heap.size v (if okB q then rinL I J q else []) ∧ Fr (fun _ => False) w w' := by
  refine wp_start2 Try.func20 rfl rfl (n := 44) (by decide) fun a E => ?_
  have hf : Fr (fun _ => False) w w := Fr.refl _ _
  obtain ⟨p0, cp0, hv0, hle0, hcap0, hs0, hz0⟩ := h.isrc
  rw [hv0] at h
  obtain ⟨p1, cp1, hv1, hle1, hcap1, hs1, hz1⟩ := h.jsrc
  rw [hv1] at h
  clear hs0 hs1
  refine wp_seq ?_
  refine wp_region_lit ?_
  refine env_box26 (d := 3) E rfl (by decide) rfl (wanted_none rfl _) rfl (E.get 1 rfl) fun a w1 b22 eb22 hb22 f1 E => ?_
  have h := RIAt.fr h f1 (fun _ _ h => h)
  have hf := hf.trans f1
  clear f1
  refine env_put (d := 4) (v := .slice none 0 0) E rfl (by decide) rfl (wanted_none rfl _) (run_assign rfl rfl) fun a E => ?_
  refine wpList_nil ?_
  refine then_n ?_
  refine wp_seq ?_
  refine wp_region_lit ?_
  refine env_put (d := 5) (v := .slice none 0 0) E rfl (by decide) rfl (wanted_none rfl _) (run_assign rfl rfl) fun a E => ?_
  refine wpList_nil ?_
  refine then_n ?_
  refine wp_seq ?_
  refine wp_seq ?_
  refine wp_region_lit ?_
  refine env_put (d := 7) (v := .pointer (some ⟨r, 0, none⟩)) E rfl (by decide) rfl (wanted_none rfl _) (run_move rfl (E.get 3 rfl)) fun a E => ?_
  refine env_put (d := 8) (v := .bool false) E rfl (by decide) rfl (wanted_none rfl _) (run_pnil31 rfl (E.get 0 rfl) rfl) fun a E => ?_
  refine env_put (d := 9) (v := .bool false) E rfl (by decide) rfl (wanted_none rfl _) (run_move rfl (E.get 0 rfl)) fun a E => ?_
  refine env_put (d := 10) (v := .agg (bxC q)) E rfl (by decide) rfl (w_yes (g := 2) (s := 9) E rfl rfl (by decide) (E.get 0 rfl)) (run_ld26 rfl (E.get 5 rfl) (rng4 (p := q) hb22 0 rfl rfl rfl rfl)) fun a E => ?_
  refine env_call (d := 11) (v := .bool (decide (okB q))) E rfl (by decide) rfl (w_yes (g := 2) (s := 9) E rfl rfl (by decide) (E.get 1 rfl)) (run_call1 (enters_of Try.func24 (by kernel_rfl) rfl) rfl rfl (E.get 0 rfl)) (valid_calls _ _) fun a w1 f1 E => ?_
  have h := RIAt.fr h f1 (fun _ _ h => h)
  have hb22 := f1.obj hb22 id
  have hf := hf.trans f1
  clear f1
  refine env_put (d := 12) (v := .bool (!(decide (okB q)))) E rfl (by decide) rfl (w_yes (g := 2) (s := 9) E rfl rfl (by decide) (E.get 2 rfl)) (run_not rfl (E.get 0 rfl)) fun a E => ?_
  refine env_put (d := 13) (v := .bool (!(decide (okB q)))) E rfl (by decide) rfl (wanted_none rfl _) (run_pick_f rfl (E.get 3 rfl) (E.get 0 rfl)) fun a E => ?_
  refine wpList_nil ?_
  refine then_n ?_
  cases hq23 : (decide (okB q)) with
  | false =>
    rw [hq23] at E
    refine wp_cond_true (E.get 0 rfl) ?_
    refine wp_seq ?_
    refine wp_region_lit ?_
    refine env_put (d := 14) (v := .slice none 0 0) E rfl (by decide) rfl (wanted_none rfl _) (run_move rfl (E.get 7 rfl)) fun a E => ?_
    refine env_set (d := 4) (v := .slice none 0 0) E rfl (by decide) (wanted_none rfl _) (run_assign rfl (E.get 0 rfl)) fun a E => ?_
    refine wpList_nil ?_
    refine then_n ?_
    refine wp_ret ?_
    refine then_r ?_
    refine ret_tmp (t := 4) rfl E (E.get 0 rfl) ⟨_, rfl, ?_, hf⟩
    rw [if_neg (of_decide_eq_false hq23)]
    exact ow_nil _
  | true =>
    rw [hq23] at E
    refine wp_cond_false (E.get 0 rfl) ?_
    refine wp_skip ?_
    refine then_n ?_
    refine wp_seq ?_
    refine wp_seq ?_
    refine wp_region_lit ?_
    refine env_put (d := 6) (v := .int .i64 0) E rfl (by decide) rfl (wanted_none rfl _) (run_assign rfl rfl) fun a E => ?_
    refine wpList_nil ?_
    refine then_n ?_
    refine wp_block ?_
    obtain ⟨B, hB⟩ : ∃ B, B = w1.heap.size := ⟨_, rfl⟩
    have hBs : B ≤ w1.heap.size := by omega
    have hbB : b22 < B := by have := lt_of_blk hb22; omega
    have hσ : ∀ k, σ k → k < B := fun k hk => by have := h.lt k hk; omega
    have hwB : w.heap.size ≤ B := by have := hf.size; omega
    clear hB
    have hO : oStr w1 B (.slice none 0 0) [] := ow_nil _
    refine wp_loop (fun a w2 => ∃ (i : Nat) (dv : Value), Env 44 [(6, .int .i64 (i : Int)), (5, dv), (0, .pointer (some ⟨r, 0, none⟩)), (3, .pointer (some ⟨b22, 0, none⟩))] a ∧ i ≤ I.length ∧ oStr w2 B dv ((((I.zip J).take i).filter fun x => decide (mtB x.2 q)).map (·.1)) ∧ RIAt w2 r σ I J (.slice p0 I.length cp0) (.slice p1 J.length cp1) ∧ w2.heap[b22]? = some (.cells (bxC q) 26 (0, 0)) ∧ Fr (fun _ => False) w w2 ∧ B ≤ w2.heap.size) (fun a _ => I.length - (intOf (a.eval (.tmp 6))).toNat) ?_ ?_
    · exact ⟨0, .slice none 0 0, E.of ⟨E.get 0 rfl, E.get 8 rfl, E.get 11 rfl, E.get 10 rfl, trivial⟩, Nat.zero_le _, hO, h, hb22, hf, hBs⟩
    clear E
    rintro a w2 ⟨i, dv, E, hi, hO, h, hb22, hf, hBs⟩
    have hmu : I.length - (intOf (a.eval (.tmp 6))).toNat = I.length - i := by rw [E.get 0 rfl]; first | (simp [intOf]; done) | (simp only [intOf]; omega)
    rw [hmu]
    clear hmu
    refine wp_seq ?_
    refine wp_seq ?_
    refine wp_region_lit ?_
    refine env_put (d := 15) (v := .int .i64 (i : Int)) E rfl (by decide) rfl (wanted_none rfl _) (run_move rfl (E.get 0 rfl)) fun a E => ?_
    refine env_put (d := 16) (v := .pointer (some ⟨r, 0, none⟩)) E rfl (by decide) rfl (wanted_none rfl _) (run_move rfl (E.get 3 rfl)) fun a E => ?_
    refine env_put (d := 17) (v := .pointer (some ⟨r, 0, none⟩)) E rfl (by decide) rfl (wanted_none rfl _) (run_nilchk rfl (E.get 0 rfl)) fun a E => ?_
    refine env_put (d := 18) (v := .pointer (some ⟨r, 0, none⟩)) E rfl (by decide) rfl (wanted_none rfl _) (fa64_0 rfl (E.get 0 rfl)) fun a E => ?_
    refine env_put (d := 19) (v := .slice (p0) I.length cp0) E rfl (by decide) rfl (wanted_none rfl _) (run_ld42 rfl (E.get 0 rfl) h.c0) fun a E => ?_
    refine env_put (d := 20) (v := .int .i64 (I.length : Int)) E rfl (by decide) rfl (wanted_none rfl _) (run_len42 rfl (E.get 0 rfl)) fun a E => ?_
    refine env_put (d := 21) (v := .bool (decide ((i : Int) < (I.length : Int)))) E rfl (by decide) rfl (wanted_none rfl _) (run_ilss (E.get 5 rfl) (E.get 0 rfl) Try.underlying3 rfl) fun a E => ?_
    refine wpList_nil ?_
    refine then_n ?_
    cases hq25 : (decide ((i : Int) < (I.length : Int))) with
    | false =>
      rw [hq25] at E
      have hie : i = I.length := by have := of_decide_eq_false hq25; omega
      refine wp_cond_false (E.get 0 rfl) ?_
      refine wp_exit ?_
      refine then_e ?_
      refine then_e ?_
      refine blk_e ?_
      refine then_n ?_
      refine wp_seq ?_
      refine wp_region_lit ?_
      refine env_put (d := 43) (v := dv) E rfl (by decide) rfl (wanted_none rfl _) (run_move rfl (E.get 8 rfl)) fun a E => ?_
      refine env_put (d := 4) (v := dv) E rfl (by decide) rfl (wanted_none rfl _) (run_assign rfl (E.get 0 rfl)) fun a E => ?_
      refine wpList_nil ?_
      refine then_n ?_
      refine wp_ret ?_
      refine ret_tmp (t := 4) rfl E (E.get 0 rfl) ⟨_, rfl, ?_, hf⟩
      rw [if_pos (of_decide_eq_true hq23)]
      rw [hie, List.take_of_length_le (by rw [List.length_zip]; omega)] at hO
      exact hO.base hwB
    | true =>
      rw [hq25] at E
      have hlt : i < I.length := by have := of_decide_eq_true hq25; omega
      obtain ⟨y, hy⟩ : ∃ y, I[i]? = some y := ⟨_, List.getElem?_eq_getElem hlt⟩
      have hltJ : i < J.length := by omega
      obtain ⟨z, hz9⟩ : ∃ z, J[i]? = some z := ⟨_, List.getElem?_eq_getElem hltJ⟩
      obtain ⟨p0q, cp0q, hv0q, hle0q, hcap0q, hs0, hz0q⟩ := h.isrc
      cases hv0q
      obtain ⟨g, off, hpe, hgl, hrow⟩ := hs0.at hlt
      replace hrow := hrow _ y hy
      obtain ⟨p1q, cp1q, hv1q, hle1q, hcap1q, hs1, hz1q⟩ := h.jsrc
      cases hv1q
      obtain ⟨g2, off2, hpe2, hgl2, hrow2⟩ := hs1.at hltJ
      replace hrow2 := hrow2 _ z hz9
      clear hs0 hs1
      have hfl : ((((I.zip J).take i).filter fun x => decide (mtB x.2 q)).map (·.1)).length ≤ 100000 := by have h1 := List.length_filter_le (fun x : ByteArray × Bx => decide (mtB x.2 q)) ((I.zip J).take i); rw [List.length_map]; simp only [List.length_take, List.length_zip] at h1; omega
      refine wp_cond_true (E.get 0 rfl) ?_
      refine wp_skip ?_
      refine then_n ?_
      refine wp_seq ?_
      refine wp_block ?_
      refine wp_seq ?_
      refine wp_region_inv (n := 44) (base := [(21, .bool true), (20, .int .i64 (I.length : Int)), (19, .slice (p0) I.length cp0), (18, .pointer (some ⟨r, 0, none⟩)), (17, .pointer (some ⟨r, 0, none⟩)), (16, .pointer (some ⟨r, 0, none⟩)), (15, .int .i64 (i : Int)), (6, .int .i64 (i : Int)), (5, dv), (0, .pointer (some ⟨r, 0, none⟩)), (3, .pointer (some ⟨b22, 0, none⟩))]) (T := [some (24, .pointer (some ⟨r, 0, none⟩)), some (25, .pointer (some ⟨r, 0, none⟩)), some (26, .pointer (some ⟨r, 1, none⟩)), some (27, .slice (p1) J.length cp1), some (28, .int .i64 (i : Int)), some (29, .pointer (some ⟨g2, (off2 + i * 4), none⟩)), some (30, .agg (bxC z)), some (31, .agg (bxC q)), some (32, .bool (decide (mtB z q)))]) (M := fun _ wm => Fr (fun _ => False) w2 wm) (by kernel_rfl) (by kernel_rfl) (by kernel_rfl) (E.of ⟨E.get 0 rfl, E.get 1 rfl, E.get 2 rfl, E.get 3 rfl, E.get 4 rfl, E.get 5 rfl, E.get 6 rfl, E.get 7 rfl, E.get 8 rfl, E.get 9 rfl, E.get 10 rfl, trivial⟩) (Fr.refl _ _).drew ?_ ?_
      · intro j9 o9 t9 ls9 a w5 ho hT0 hl E D DL hM
        have h := RIAt.fr h hM (fun _ _ h => h)
        have hb22 := hM.obj hb22 id
        have hBs := Nat.le_trans hBs hM.size
        have hO := ow.fr hO hM (fun _ _ h => h)
        have hrow := fun j u hu => hM.cell (hrow j u hu) id
        have hrow2 := fun j u hu => hM.cell (hrow2 j u hu) id
        match j9, ho, hT0, hl, D, DL with
        | 0, ho, hT0, hl, D, DL =>
          obtain rfl := Option.some.inj ho
          obtain rfl := Option.some.inj hT0
          clear ho hT0
          exact val_wp (run_move rfl (E.get 9 rfl)) rfl hM
        | 1, ho, hT0, hl, D, DL =>
          obtain rfl := Option.some.inj ho
          obtain rfl := Option.some.inj hT0
          clear ho hT0
          exact val_wp (run_nilchk rfl (D 0 _ rfl rfl)) rfl hM
        | 2, ho, hT0, hl, D, DL =>
          obtain rfl := Option.some.inj ho
          obtain rfl := Option.some.inj hT0
          clear ho hT0
          exact val_wp (fa64_1 rfl (D 1 _ rfl rfl)) rfl hM
        | 3, ho, hT0, hl, D, DL =>
          obtain rfl := Option.some.inj ho
          obtain rfl := Option.some.inj hT0
          clear ho hT0
          exact val_wp (run_ld62 rfl (D 2 _ rfl rfl) h.c1) rfl hM
        | 4, ho, hT0, hl, D, DL =>
          obtain rfl := Option.some.inj ho
          obtain rfl := Option.some.inj hT0
          clear ho hT0
          exact val_wp (run_move rfl (E.get 7 rfl)) rfl hM
        | 5, ho, hT0, hl, D, DL =>
          obtain rfl := Option.some.inj ho
          obtain rfl := Option.some.inj hT0
          clear ho hT0
          exact val_wp (run_index62 (i := i) rfl ((D 3 _ rfl rfl).trans (by rw [hpe2])) (D 4 _ rfl rfl) hltJ) rfl hM
        | 6, ho, hT0, hl, D, DL =>
          obtain rfl := Option.some.inj ho
          obtain rfl := Option.some.inj hT0
          clear ho hT0
          exact val_wp (run_ld26 rfl (D 5 _ rfl rfl) hrow2) rfl hM
        | 7, ho, hT0, hl, D, DL =>
          obtain rfl := Option.some.inj ho
          obtain rfl := Option.some.inj hT0
          clear ho hT0
          exact val_wp (run_ld26 rfl (E.get 10 rfl) (rng4 (p := q) hb22 0 rfl rfl rfl rfl)) rfl hM
        | 8, ho, hT0, hl, D, DL =>
          obtain rfl := Option.some.inj ho
          obtain rfl := Option.some.inj hT0
          clear ho hT0
          exact call_wp (run_call2 (enters_of Try.func25 (by kernel_rfl) rfl) rfl rfl (D 6 _ rfl rfl) (D 7 _ rfl rfl)) (rmeet_calls _ _ _) rfl fun w9 f1 => (hM.trans f1)
        | j9 + 9, ho, hT0, hl, D, DL => exact absurd hT0 (by simp)
      · intro a w5 E V hM
        have E := E.add (V 8 _ rfl)
        clear V
        have h := RIAt.fr h hM (fun _ _ h => h)
        have hb22 := hM.obj hb22 id
        have hBs := Nat.le_trans hBs hM.size
        have hO := ow.fr hO hM (fun _ _ h => h)
        have hrow := fun j u hu => hM.cell (hrow j u hu) id
        have hrow2 := fun j u hu => hM.cell (hrow2 j u hu) id
        have hf := hf.trans hM
        clear hM
        refine then_n ?_
        cases hq27 : (decide (mtB z q)) with
        | false =>
          rw [hq27] at E
          refine wp_cond_false (E.get 0 rfl) ?_
          refine wp_skip ?_
          refine blk_n ?_
          refine then_n ?_
          refine wp_region_lit ?_
          refine env_put (d := 22) (v := .int .i64 (i : Int)) E rfl (by decide) rfl (wanted_none rfl _) (run_move rfl (E.get 8 rfl)) fun a E => ?_
          refine env_put (d := 23) (v := .int .i64 ((i : Int) + 1)) E rfl (by decide) rfl (wanted_none rfl _) (run_iadd Try.underlying3 (E.get 0 rfl) rfl (by omega) (by omega) rfl) fun a E => ?_
          refine env_set (d := 6) (v := .int .i64 ((i : Int) + 1)) E rfl (by decide) (wanted_none rfl _) (run_assign rfl (E.get 0 rfl)) fun a E => ?_
          refine wpList_nil ?_
          refine then_n ?_
          refine ⟨⟨i + 1, dv, E.of ⟨E.get 0 rfl, E.get 11 rfl, E.get 12 rfl, E.get 13 rfl, trivial⟩, hlt, ?_, h, hb22, hf, hBs⟩, ?_⟩
          · rw [rin_step hy hz9, hq27]
            simpa using hO
          · rw [E.get 0 rfl]; simp only [intOf]; omega
        | true =>
          rw [hq27] at E
          refine wp_cond_true (E.get 0 rfl) ?_
          refine wp_region_lit ?_
          refine env_put (d := 33) (v := dv) E rfl (by decide) rfl (wanted_none rfl _) (run_move rfl (E.get 9 rfl)) fun a E => ?_
          refine env_put (d := 34) (v := .pointer (some ⟨r, 0, none⟩)) E rfl (by decide) rfl (wanted_none rfl _) (run_move rfl (E.get 11 rfl)) fun a E => ?_
          refine env_put (d := 35) (v := .pointer (some ⟨r, 0, none⟩)) E rfl (by decide) rfl (wanted_none rfl _) (run_nilchk rfl (E.get 0 rfl)) fun a E => ?_
          refine env_put (d := 36) (v := .pointer (some ⟨r, 0, none⟩)) E rfl (by decide) rfl (wanted_none rfl _) (fa64_0 rfl (E.get 0 rfl)) fun a E => ?_
          refine env_put (d := 37) (v := .slice (p0) I.length cp0) E rfl (by decide) rfl (wanted_none rfl _) (run_ld42 rfl (E.get 0 rfl) h.c0) fun a E => ?_
          refine env_put (d := 38) (v := .int .i64 (i : Int)) E rfl (by decide) rfl (wanted_none rfl _) (run_move rfl (E.get 13 rfl)) fun a E => ?_
          refine env_put (d := 39) (v := .pointer (some ⟨g, (off + i), none⟩)) E rfl (by decide) rfl (wanted_none rfl _) (run_index42 (i := i) rfl ((E.get 1 rfl).trans (by rw [hpe])) (E.get 0 rfl) hlt) fun a E => ?_
          refine env_put (d := 40) (v := .string y) E rfl (by decide) rfl (wanted_none rfl _) (run_lds rfl (E.get 0 rfl) (str_at hrow)) fun a E => ?_
          refine env_one42 (B := B) (d := 41) E rfl (by decide) rfl (wanted_none rfl _) rfl (E.get 0 rfl) hBs fun a w1 b28 eb28 h1b28 f1 E => ?_
          have h := RIAt.fr h f1 (fun _ _ h => h)
          have hb22 := f1.obj hb22 id
          have hBs := Nat.le_trans hBs f1.size
          have hO := ow.fr hO f1 (fun _ _ h => h)
          have hrow := fun j u hu => f1.cell (hrow j u hu) id
          have hrow2 := fun j u hu => f1.cell (hrow2 j u hu) id
          have hf := hf.trans f1
          clear f1
          have hSb28 := ow_srcp strC_len h1b28
          clear h1b28 eb28
          refine env_app42 (d := 42) E rfl (by decide) rfl rfl rfl (E.get 8 rfl) hO (E.get 0 rfl) hSb28.1 hSb28.2 (by simp only [List.length_cons, List.length_nil]; omega) hBs fun a w1 ov29 hO2 f1 hloc E => ?_
          have h := RIAt.fr h f1 (fun k hk e => by have := (hO.lt e).1; have := hσ k hk; omega)
          have hb22 := f1.obj hb22 (fun e => by have := (hO.lt e).1; omega)
          have hBs := Nat.le_trans hBs f1.size
          have hf := hf.trans' f1 (fun r hr e => by have := (hO.lt e).1; omega)
          clear f1
          replace hO := hO2
          clear hloc
          refine env_set (d := 5) (v := ov29) E rfl (by decide) (wanted_none rfl _) (run_assign rfl (E.get 0 rfl)) fun a E => ?_
          refine wpList_nil ?_
          refine blk_n ?_
          refine then_n ?_
          refine wp_region_lit ?_
          refine env_put (d := 22) (v := .int .i64 (i : Int)) E rfl (by decide) rfl (wanted_none rfl _) (run_move rfl (E.get 19 rfl)) fun a E => ?_
          refine env_put (d := 23) (v := .int .i64 ((i : Int) + 1)) E rfl (by decide) rfl (wanted_none rfl _) (run_iadd Try.underlying3 (E.get 0 rfl) rfl (by omega) (by omega) rfl) fun a E => ?_
          refine env_set (d := 6) (v := .int .i64 ((i : Int) + 1)) E rfl (by decide) (wanted_none rfl _) (run_assign rfl (E.get 0 rfl)) fun a E => ?_
          refine wpList_nil ?_
          refine then_n ?_
          refine ⟨⟨i + 1, ov29, E.of ⟨E.get 0 rfl, E.get 3 rfl, E.get 22 rfl, E.get 23 rfl, trivial⟩, hlt, ?_, h, hb22, hf, hBs⟩, ?_⟩
          · rw [rin_step hy hz9, hq27]
            simpa using hO
          · rw [E.get 0 rfl]; simp only [intOf]; omega
end Go.Proofs.Ytcafnanbdmapgaa
