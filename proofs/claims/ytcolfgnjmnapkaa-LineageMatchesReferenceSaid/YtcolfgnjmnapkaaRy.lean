/- LineageMatchesReference: the walk. -/
import Derived.Test.YtcolfgnjmnapkaaRx
set_option linter.unusedVariables false
set_option linter.unusedSimpArgs false
namespace Go.Proofs.Ytcolfgnjmnapkaa
open Go.RowKit Go.Pl

set_option maxRecDepth 100000 in
set_option maxHeartbeats 8000000 in
theorem matches_walk (sa : Option Addr) (b0 off cap : Nat) (es : List Edt) (w : World) (hV : EdtsV w (.slice sa es.length cap) sa b0 off cap es) (idv : ByteArray) : Calls Try.prog 3 #[.slice sa es.length cap, .string idv] w fun e w' => e = .returned (.bool true) ∧ Fr (fun _ => False) w w' := by
  refine wp_start2 Try.func3 rfl rfl (n := 106) (by decide) fun a E => ?_
  have hf : Fr (fun _ => False) w w := Fr.refl _ _
  refine wp_seq ?_
  refine wp_region_lit ?_
  refine env_put (d := 4) (v := .bool false) E rfl (by decide) rfl (wanted_none rfl _) (run_assign rfl rfl) fun a E => ?_
  refine wpList_nil ?_
  refine then_n ?_
  refine wp_seq ?_
  refine wp_region_lit ?_
  refine env_call (d := 11) (v := .bool true) E rfl (by decide) rfl (wanted_none rfl _) (run_call0 (enters_of Try.func10 (by kernel_rfl) rfl) rfl rfl) (head_calls _) fun a w1 f1 E => ?_
  have hf := hf.trans f1
  clear f1
  refine env_put (d := 5) (v := .bool true) E rfl (by decide) rfl (wanted_none rfl _) (run_assign rfl (E.get 0 rfl)) fun a E => ?_
  refine wpList_nil ?_
  refine then_n ?_
  refine wp_seq ?_
  refine wp_seq ?_
  refine wp_region_lit ?_
  refine env_put (d := 12) (v := .slice (sa) es.length cap) E rfl (by decide) rfl (wanted_none rfl _) (run_move rfl (E.get 3 rfl)) fun a E => ?_
  refine env_call (d := 13) (v := .bool (fewE es 40)) E rfl (by decide) rfl (wanted_none rfl _) (run_call2 (enters_of Try.func11 (by kernel_rfl) rfl) rfl rfl (E.get 0 rfl) rfl) ((few_calls sa b0 off cap es 40 (by decide) _ hV.ix (hV.at_.fr hf id) hV.le hV.sz).mono fun e w8 h => ⟨h.1, (show Fr (fun _ => False) w1 w8 from h.2 ▸ Fr.refl _ _)⟩) fun a w1 f1 E => ?_
  have hf := hf.trans f1
  clear f1
  refine env_put (d := 14) (v := .bool (!(fewE es 40))) E rfl (by decide) rfl (wanted_none rfl _) (run_not rfl (E.get 0 rfl)) fun a E => ?_
  refine env_put (d := 15) (v := .bool (!(fewE es 40))) E rfl (by decide) rfl (wanted_none rfl _) (run_move rfl (E.get 0 rfl)) fun a E => ?_
  cases hq1 : (fewE es 40) with
  | false =>
    rw [hq1] at E
    refine env_skip (d := 16) (g := 3) (s := 15) E rfl (by decide) rfl rfl rfl (by decide) (E.get 0 rfl) fun a E => ?_
    refine env_skip (d := 17) (g := 3) (s := 15) E rfl (by decide) rfl rfl rfl (by decide) (E.get 1 rfl) fun a E => ?_
    refine env_skip (d := 18) (g := 3) (s := 15) E rfl (by decide) rfl rfl rfl (by decide) (E.get 2 rfl) fun a E => ?_
    refine env_put (d := 19) (v := .bool true) E rfl (by decide) rfl (wanted_none rfl _) (run_pick_t rfl (E.get 3 rfl) rfl) fun a E => ?_
    refine wpList_nil ?_
    refine then_n ?_
    refine wp_cond_true (E.get 0 rfl) ?_
    refine wp_seq ?_
    refine wp_region_lit ?_
    refine env_put (d := 20) (v := .bool true) E rfl (by decide) rfl (wanted_none rfl _) (run_move rfl (E.get 8 rfl)) fun a E => ?_
    refine env_set (d := 4) (v := .bool true) E rfl (by decide) (wanted_none rfl _) (run_assign rfl (E.get 0 rfl)) fun a E => ?_
    refine wpList_nil ?_
    refine then_n ?_
    refine wp_ret ?_
    refine then_r ?_
    exact ret_tmp (t := 4) rfl E (E.get 0 rfl) ⟨rfl, hf⟩
  | true =>
    rw [hq1] at E
    have hl40 : es.length ≤ 40 := by have h3 := hq1; simp [fewE] at h3; exact h3.2
    refine env_put (d := 16) (v := .string idv) E rfl (by decide) rfl (w_yes (g := 3) (s := 15) E rfl rfl (by decide) (E.get 0 rfl)) (run_move rfl (E.get 8 rfl)) fun a E => ?_
    refine env_put (d := 17) (v := .int .i64 (idv.size : Int)) E rfl (by decide) rfl (w_yes (g := 3) (s := 15) E rfl rfl (by decide) (E.get 1 rfl)) (run_slen rfl (E.get 0 rfl)) fun a E => ?_
    refine env_put (d := 18) (v := .bool (decide (100 < (idv.size : Int)))) E rfl (by decide) rfl (w_yes (g := 3) (s := 15) E rfl rfl (by decide) (E.get 2 rfl)) (run_igtr (E.get 0 rfl) rfl Try.underlying3 rfl) fun a E => ?_
    refine env_put (d := 19) (v := .bool (decide (100 < (idv.size : Int)))) E rfl (by decide) rfl (wanted_none rfl _) (run_pick_f rfl (E.get 3 rfl) (E.get 0 rfl)) fun a E => ?_
    refine wpList_nil ?_
    refine then_n ?_
    cases hq2 : (decide (100 < (idv.size : Int))) with
    | false =>
      rw [hq2] at E
      have hid : idv.size ≤ maxLen := by have := of_decide_eq_false hq2; unfold maxLen; omega
      refine wp_cond_false (E.get 0 rfl) ?_
      refine wp_skip ?_
      refine then_n ?_
      refine wp_seq ?_
      refine wp_region_lit ?_
      refine env_callv (d := 21) (R := fun u w8 => ∃ p ρ, u = .pointer (some ⟨p, 0, none⟩) ∧ Mine w w8 p 1 ρ LinS.new) E rfl (by decide) rfl (wanted_none rfl _) (run_call0 (enters_of Try.func12 (by kernel_rfl) rfl) rfl rfl) ((new_calls _).mono fun e w8 h => by obtain ⟨p, ρ, h1, h2, h3⟩ := h.mine hf; exact ⟨_, h1, p, ρ, rfl, h2⟩) fun a w1 v9 hR E => ?_
      obtain ⟨p, ρ0, rfl, hm⟩ := hR
      have hf := hm.fr
      refine env_put (d := 6) (v := .pointer (some ⟨p, 0, none⟩)) E rfl (by decide) rfl (wanted_none rfl _) (run_assign rfl (E.get 0 rfl)) fun a E => ?_
      refine wpList_nil ?_
      refine then_n ?_
      refine wp_seq ?_
      refine wp_region_lit ?_
      refine env_callv (d := 22) (R := fun u w8 => ∃ r, u = .pointer (some ⟨r, 0, none⟩) ∧ Pr w w8 p 1 LinS.new r ⟨[], []⟩) E rfl (by decide) rfl (wanted_none rfl _) (run_call0 (enters_of Try.func13 (by kernel_rfl) rfl) rfl rfl) ((rnew_calls _).mono fun e w8 h => by obtain ⟨r, σ, h1, h2, h3, h4⟩ := h; exact ⟨_, h1, r, rfl, Pr.new hm h3 h2 h4⟩) fun a w1 v9 hR E => ?_
      obtain ⟨r, rfl, hP⟩ := hR
      rw [← linR_new] at hP
      have hI := Inv.new
      have hFi : Fine (linR ⟨[], []⟩) := by rw [linR_new]; exact Fine.new
      clear hm hf
      refine env_put (d := 7) (v := .pointer (some ⟨r, 0, none⟩)) E rfl (by decide) rfl (wanted_none rfl _) (run_assign rfl (E.get 0 rfl)) fun a E => ?_
      refine wpList_nil ?_
      refine then_n ?_
      refine wp_seq ?_
      refine wp_seq ?_
      refine wp_region_lit ?_
      refine env_put (d := 8) (v := .int .i64 0) E rfl (by decide) rfl (wanted_none rfl _) (run_assign rfl rfl) fun a E => ?_
      refine wpList_nil ?_
      refine then_n ?_
      refine wp_block ?_
      refine wp_loop (fun a w2 => ∃ (i : Nat) (R : RefS), Env 106 [(8, .int .i64 (i : Int)), (7, .pointer (some ⟨r, 0, none⟩)), (6, .pointer (some ⟨p, 0, none⟩)), (5, .bool true), (1, .string idv), (0, .slice (sa) es.length cap)] a ∧ i ≤ es.length ∧ Pr w w2 p (1 + 3 * i) (linR R) r R ∧ Inv R ∧ Fine (linR R) ∧ R.ms.length ≤ 2 * i ∧ R.ps.length ≤ 100 * i) (fun a _ => es.length - (intOf (a.eval (.tmp 8))).toNat) ?_ ?_
      · exact ⟨0, ⟨[], []⟩, E.of ⟨E.get 0 rfl, E.get 1 rfl, E.get 3 rfl, E.get 13 rfl, E.get 17 rfl, E.get 16 rfl, trivial⟩, Nat.zero_le _, hP, hI, hFi, Nat.zero_le _, Nat.zero_le _⟩
      clear E
      rintro a w2 ⟨i, R, E, hi, hP, hI, hFi, hms, hps⟩
      have hmu : es.length - (intOf (a.eval (.tmp 8))).toNat = es.length - i := by rw [E.get 0 rfl]; first | (simp [intOf]; done) | (simp only [intOf]; omega)
      rw [hmu]
      clear hmu
      refine wp_seq ?_
      refine wp_seq ?_
      refine wp_region_lit ?_
      refine env_put (d := 23) (v := .int .i64 (i : Int)) E rfl (by decide) rfl (wanted_none rfl _) (run_move rfl (E.get 0 rfl)) fun a E => ?_
      refine env_put (d := 24) (v := .slice (sa) es.length cap) E rfl (by decide) rfl (wanted_none rfl _) (run_move rfl (E.get 6 rfl)) fun a E => ?_
      refine env_put (d := 25) (v := .int .i64 (es.length : Int)) E rfl (by decide) rfl (wanted_none rfl _) (run_len22 rfl (E.get 0 rfl)) fun a E => ?_
      refine env_put (d := 26) (v := .bool (decide ((i : Int) < (es.length : Int)))) E rfl (by decide) rfl (wanted_none rfl _) (run_ilss (E.get 2 rfl) (E.get 0 rfl) Try.underlying3 rfl) fun a E => ?_
      refine wpList_nil ?_
      refine then_n ?_
      cases hq4 : (decide ((i : Int) < (es.length : Int))) with
      | false =>
        rw [hq4] at E
        refine wp_cond_false (E.get 0 rfl) ?_
        refine wp_exit ?_
        refine then_e ?_
        refine then_e ?_
        refine blk_e ?_
        refine then_n ?_
        refine wp_seq ?_
        refine wp_region_lit ?_
        refine env_put (d := 105) (v := .bool true) E rfl (by decide) rfl (wanted_none rfl _) (run_move rfl (E.get 7 rfl)) fun a E => ?_
        refine env_put (d := 4) (v := .bool true) E rfl (by decide) rfl (wanted_none rfl _) (run_assign rfl (E.get 0 rfl)) fun a E => ?_
        refine wpList_nil ?_
        refine then_n ?_
        refine wp_ret ?_
        exact ret_tmp (t := 4) rfl E (E.get 0 rfl) ⟨rfl, hP.fr⟩
      | true =>
        rw [hq4] at E
        have hlt : i < es.length := by have := of_decide_eq_true hq4; omega
        obtain ⟨e, he⟩ : ∃ e, es[i]? = some e := ⟨_, List.getElem?_eq_getElem hlt⟩
        have hsz := hV.sz e (List.mem_of_getElem? he)
        have hix := hV.ix i hlt
        obtain ⟨hag, hI2⟩ := ag_next hI e
        have hF2 : Fine (linR (refN R e)) := by rw [hag]; exact hFi.follow e
        have hm2 := refN_ms R e
        have hp2 := refN_ps R e
        have hee : (refE R e != refE R e) = false := by simp
        refine wp_cond_true (E.get 0 rfl) ?_
        refine wp_skip ?_
        refine then_n ?_
        refine wp_seq ?_
        refine wp_block ?_
        refine wp_seq ?_
        refine wp_seq ?_
        refine wp_region_invx (G := Unit) () (n := 106) (base := [(26, .bool true), (25, .int .i64 (es.length : Int)), (24, .slice (sa) es.length cap), (23, .int .i64 (i : Int)), (8, .int .i64 (i : Int)), (7, .pointer (some ⟨r, 0, none⟩)), (6, .pointer (some ⟨p, 0, none⟩)), (5, .bool true), (1, .string idv), (0, .slice (sa) es.length cap)]) (U := []) (T := fun γ => [some (29, .pointer (some ⟨p, 0, none⟩)), some (30, .slice (sa) es.length cap), some (31, .int .i64 (i : Int)), some (32, .pointer (some ⟨b0, (off + i * 15), none⟩)), some (33, .agg e.cells), some (34, .int .i64 (refE R e)), some (35, .pointer (some ⟨r, 0, none⟩)), some (36, .slice (sa) es.length cap), some (37, .int .i64 (i : Int)), some (38, .pointer (some ⟨b0, (off + i * 15), none⟩)), some (39, .agg e.cells), some (40, .int .i64 (refE R e)), some (41, .bool false)]) (M := fun γ ls9 wm => Pr w wm p (bif ls9 5 then 1 + 3 * i + 3 else 1 + 3 * i) (bif ls9 5 then followS (linR R) e else linR R) r (bif ls9 11 then refN R e else R)) (by kernel_rfl) (by kernel_rfl) (fun _ => by kernel_rfl) (E.of ⟨E.get 0 rfl, E.get 1 rfl, E.get 2 rfl, E.get 3 rfl, E.get 4 rfl, E.get 5 rfl, E.get 6 rfl, E.get 7 rfl, E.get 8 rfl, E.get 9 rfl, trivial⟩) (fun x hx => by cases hx) (hP.quiet (Fr.refl _ _).drew) ?_ ?_
        · intro j9 o9 γ ls9 a w5 ho hl E D DL DL2 hB hM
          match j9, ho, hl, D, DL, hB with
          | 0, ho, hl, D, DL, hB =>
            obtain rfl := Option.some.inj ho
            clear ho
            exact ⟨fun _ => valx rfl (run_move rfl (E.get 6 rfl)) rfl hM, fun h => by rw [wanted_none rfl] at h; cases h⟩
          | 1, ho, hl, D, DL, hB =>
            obtain rfl := Option.some.inj ho
            clear ho
            exact ⟨fun _ => valx rfl (run_move rfl (E.get 9 rfl)) rfl hM, fun h => by rw [wanted_none rfl] at h; cases h⟩
          | 2, ho, hl, D, DL, hB =>
            obtain rfl := Option.some.inj ho
            clear ho
            exact ⟨fun _ => valx rfl (run_move rfl (E.get 4 rfl)) rfl hM, fun h => by rw [wanted_none rfl] at h; cases h⟩
          | 3, ho, hl, D, DL, hB =>
            obtain rfl := Option.some.inj ho
            clear ho
            exact ⟨fun _ => valx rfl (run_index22 (i := i) rfl ((D 1 _ rfl rfl).trans (by rw [hix])) (D 2 _ rfl rfl) hlt) rfl hM, fun h => by rw [wanted_none rfl] at h; cases h⟩
          | 4, ho, hl, D, DL, hB =>
            obtain rfl := Option.some.inj ho
            clear ho
            exact ⟨fun _ => valx rfl (run_ld38 rfl (D 3 _ rfl rfl) ((hV.at_.fr (Pr.fr hM) id).rng he)) rfl hM, fun h => by rw [wanted_none rfl] at h; cases h⟩
          | 5, ho, hl, D, DL, hB =>
            obtain rfl := Option.some.inj ho
            clear ho
            simp only [hl, cond_false] at hM
            exact ⟨fun _ => callx rfl (run_call2 (enters_of Try.func14 (by kernel_rfl) rfl) rfl rfl (D 0 _ rfl rfl) (D 4 _ rfl rfl)) (hM.follow e hsz) rfl fun w9 f9 => f9, fun h => by rw [wanted_none rfl] at h; cases h⟩
          | 6, ho, hl, D, DL, hB =>
            obtain rfl := Option.some.inj ho
            clear ho
            exact ⟨fun _ => valx rfl (run_move rfl (E.get 5 rfl)) rfl hM, fun h => by rw [wanted_none rfl] at h; cases h⟩
          | 7, ho, hl, D, DL, hB =>
            obtain rfl := Option.some.inj ho
            clear ho
            exact ⟨fun _ => valx rfl (run_move rfl (E.get 9 rfl)) rfl hM, fun h => by rw [wanted_none rfl] at h; cases h⟩
          | 8, ho, hl, D, DL, hB =>
            obtain rfl := Option.some.inj ho
            clear ho
            exact ⟨fun _ => valx rfl (run_move rfl (E.get 4 rfl)) rfl hM, fun h => by rw [wanted_none rfl] at h; cases h⟩
          | 9, ho, hl, D, DL, hB =>
            obtain rfl := Option.some.inj ho
            clear ho
            exact ⟨fun _ => valx rfl (run_index22 (i := i) rfl ((D 7 _ rfl rfl).trans (by rw [hix])) (D 8 _ rfl rfl) hlt) rfl hM, fun h => by rw [wanted_none rfl] at h; cases h⟩
          | 10, ho, hl, D, DL, hB =>
            obtain rfl := Option.some.inj ho
            clear ho
            exact ⟨fun _ => valx rfl (run_ld38 rfl (D 9 _ rfl rfl) ((hV.at_.fr (Pr.fr hM) id).rng he)) rfl hM, fun h => by rw [wanted_none rfl] at h; cases h⟩
          | 11, ho, hl, D, DL, hB =>
            obtain rfl := Option.some.inj ho
            clear ho
            simp only [hl, cond_false] at hM
            exact ⟨fun _ => callx rfl (run_call2 (enters_of Try.func15 (by kernel_rfl) rfl) rfl rfl (D 6 _ rfl rfl) (D 10 _ rfl rfl)) (hM.rfollow (by omega) (by omega) e) rfl fun w9 f9 => f9, fun h => by rw [wanted_none rfl] at h; cases h⟩
          | 12, ho, hl, D, DL, hB =>
            obtain rfl := Option.some.inj ho
            clear ho
            exact ⟨fun _ => valx rfl ((run_ineq (D 5 _ rfl rfl) (D 11 _ rfl rfl) Try.underlying29 rfl).trans (by rw [hee] <;> rfl)) rfl hM, fun h => by rw [wanted_none rfl] at h; cases h⟩
          | j9 + 13, ho, hl, D, DL, hB => exact absurd ho (by simp)
        · rintro _ a w5 E V hM
          have E := E.add (v := .bool false) (V 12 _ rfl)
          clear V
          replace hP : Pr w w5 p (1 + 3 * i + 3) (followS (linR R) e) r (refN R e) := hM
          rw [← hag] at hP
          clear hM
          obtain ⟨R2, hR2⟩ : ∃ R2, R2 = refN R e := ⟨_, rfl⟩
          rw [← hR2] at hP hI2 hF2 hm2 hp2 hag
          refine then_n ?_
          refine wp_cond_false (E.get 0 rfl) ?_
          refine wp_skip ?_
          refine then_n ?_
          refine wp_seq ?_
          refine wp_region_invx (G := Nat) 0 (n := 106) (base := [(41, .bool false), (26, .bool true), (25, .int .i64 (es.length : Int)), (24, .slice (sa) es.length cap), (23, .int .i64 (i : Int)), (8, .int .i64 (i : Int)), (7, .pointer (some ⟨r, 0, none⟩)), (6, .pointer (some ⟨p, 0, none⟩)), (5, .bool true), (1, .string idv), (0, .slice (sa) es.length cap)]) (U := []) (T := fun γ => [some (42, .string idv), some (43, .slice (sa) es.length cap), some (44, .int .i64 (i : Int)), some (45, .pointer (some ⟨b0, (off + i * 15), none⟩)), some (46, .pointer (some ⟨b0, ((off + i * 15) + 1), none⟩)), some (47, .string e.id), some (48, .slice (sa) es.length cap), some (49, .int .i64 (i : Int)), some (50, .pointer (some ⟨b0, (off + i * 15), none⟩)), some (51, .pointer (some ⟨b0, ((off + i * 15) + 2), none⟩)), some (52, .string e.other), some (53, .slice (some ⟨γ, 0, none⟩) 3 3), some (9, .slice (some ⟨γ, 0, none⟩) 3 3)]) (M := fun γ ls9 wm => Fr (fun _ => False) w5 wm ∧ (ls9 11 = true → wm.heap[γ]? = some (.cells #[.string idv, .string e.id, .string e.other] 9 (0, 0)))) (by kernel_rfl) (by kernel_rfl) (fun _ => by kernel_rfl) (E.of ⟨E.get 0 rfl, E.get 1 rfl, E.get 2 rfl, E.get 3 rfl, E.get 4 rfl, E.get 5 rfl, E.get 6 rfl, E.get 7 rfl, E.get 8 rfl, E.get 9 rfl, E.get 10 rfl, trivial⟩) (fun x hx => by cases hx) ⟨(Fr.refl _ _).drew, fun h => absurd h Bool.false_ne_true⟩ ?_ ?_
          · intro j9 o9 γ ls9 a w5 ho hl E D DL DL2 hB hM
            have hP := hP.quiet hM.1
            match j9, ho, hl, D, DL, hB with
            | 0, ho, hl, D, DL, hB =>
              obtain rfl := Option.some.inj ho
              clear ho
              exact ⟨fun _ => valx rfl (run_move rfl (E.get 9 rfl)) rfl hM, fun h => by rw [wanted_none rfl] at h; cases h⟩
            | 1, ho, hl, D, DL, hB =>
              obtain rfl := Option.some.inj ho
              clear ho
              exact ⟨fun _ => valx rfl (run_move rfl (E.get 10 rfl)) rfl hM, fun h => by rw [wanted_none rfl] at h; cases h⟩
            | 2, ho, hl, D, DL, hB =>
              obtain rfl := Option.some.inj ho
              clear ho
              exact ⟨fun _ => valx rfl (run_move rfl (E.get 5 rfl)) rfl hM, fun h => by rw [wanted_none rfl] at h; cases h⟩
            | 3, ho, hl, D, DL, hB =>
              obtain rfl := Option.some.inj ho
              clear ho
              exact ⟨fun _ => valx rfl (run_index22 (i := i) rfl ((D 1 _ rfl rfl).trans (by rw [hix])) (D 2 _ rfl rfl) hlt) rfl hM, fun h => by rw [wanted_none rfl] at h; cases h⟩
            | 4, ho, hl, D, DL, hB =>
              obtain rfl := Option.some.inj ho
              clear ho
              exact ⟨fun _ => valx rfl (fa38_at (by decide) rfl (D 3 _ rfl rfl)) rfl hM, fun h => by rw [wanted_none rfl] at h; cases h⟩
            | 5, ho, hl, D, DL, hB =>
              obtain rfl := Option.some.inj ho
              clear ho
              exact ⟨fun _ => valx rfl (run_lds rfl (D 4 _ rfl rfl) ((hV.at_.fr (Pr.fr hP) id).rng he 1 _ rfl)) rfl hM, fun h => by rw [wanted_none rfl] at h; cases h⟩
            | 6, ho, hl, D, DL, hB =>
              obtain rfl := Option.some.inj ho
              clear ho
              exact ⟨fun _ => valx rfl (run_move rfl (E.get 10 rfl)) rfl hM, fun h => by rw [wanted_none rfl] at h; cases h⟩
            | 7, ho, hl, D, DL, hB =>
              obtain rfl := Option.some.inj ho
              clear ho
              exact ⟨fun _ => valx rfl (run_move rfl (E.get 5 rfl)) rfl hM, fun h => by rw [wanted_none rfl] at h; cases h⟩
            | 8, ho, hl, D, DL, hB =>
              obtain rfl := Option.some.inj ho
              clear ho
              exact ⟨fun _ => valx rfl (run_index22 (i := i) rfl ((D 6 _ rfl rfl).trans (by rw [hix])) (D 7 _ rfl rfl) hlt) rfl hM, fun h => by rw [wanted_none rfl] at h; cases h⟩
            | 9, ho, hl, D, DL, hB =>
              obtain rfl := Option.some.inj ho
              clear ho
              exact ⟨fun _ => valx rfl (fa38_at (by decide) rfl (D 8 _ rfl rfl)) rfl hM, fun h => by rw [wanted_none rfl] at h; cases h⟩
            | 10, ho, hl, D, DL, hB =>
              obtain rfl := Option.some.inj ho
              clear ho
              exact ⟨fun _ => valx rfl (run_lds rfl (D 9 _ rfl rfl) ((hV.at_.fr (Pr.fr hP) id).rng he 2 _ rfl)) rfl hM, fun h => by rw [wanted_none rfl] at h; cases h⟩
            | 11, ho, hl, D, DL, hB =>
              obtain rfl := Option.some.inj ho
              clear ho
              exact ⟨fun _ => valxw w5.heap.size rfl (run_three33 rfl (D 0 _ rfl rfl) (D 5 _ rfl rfl) (D 10 _ rfl rfl)) rfl (fun j hj => match j, hj with | 0, _ => rfl | 1, _ => rfl | 2, _ => rfl | 3, _ => rfl | 4, _ => rfl | 5, _ => rfl | 6, _ => rfl | 7, _ => rfl | 8, _ => rfl | 9, _ => rfl | 10, _ => rfl | 11, hj => absurd (hl.symm.trans hj) (by decide) | 12, hj => absurd (hl.symm.trans (DL2 12 11 rfl hj)) (by decide) | e9 + 13, _ => rfl) ⟨hM.1.trans' ((Fr.refl (fun _ => False) w5).alloc _) (fun _ _ h => h.elim), fun _ => blk_alloc_new _ _⟩, fun h => by rw [wanted_none rfl] at h; cases h⟩
            | 12, ho, hl, D, DL, hB =>
              obtain rfl := Option.some.inj ho
              clear ho
              exact ⟨fun _ => valx rfl (run_assign rfl (D 11 _ rfl rfl)) rfl hM, fun h => by rw [wanted_none rfl] at h; cases h⟩
            | j9 + 13, ho, hl, D, DL, hB => exact absurd ho (by simp)
          · rintro γ5a a w5 E V hM
            have E := E.add (v := .slice (some ⟨γ5a, 0, none⟩) 3 3) (V 12 _ rfl)
            clear V
            have hP := hP.quiet hM.1
            have h3 := hM.2 rfl
            clear hM
            generalize γ5a = b3 at E h3
            refine then_n ?_
            refine wp_seq ?_
            refine wp_region_lit ?_
            refine env_put (d := 10) (v := .int .i64 0) E rfl (by decide) rfl (wanted_none rfl _) (run_assign rfl rfl) fun a E => ?_
            refine wpList_nil ?_
            refine then_n ?_
            refine wp_block ?_
            refine wp_loop (fun a w2 => ∃ (k : Nat), Env 106 [(10, .int .i64 (k : Int)), (9, .slice (some ⟨b3, 0, none⟩) 3 3), (8, .int .i64 (i : Int)), (7, .pointer (some ⟨r, 0, none⟩)), (6, .pointer (some ⟨p, 0, none⟩)), (5, .bool true), (1, .string idv), (0, .slice (sa) es.length cap)] a ∧ k ≤ 3 ∧ Pr w w2 p (1 + 3 * i + 3) (linR R2) r R2 ∧ w2.heap[b3]? = some (.cells #[.string idv, .string e.id, .string e.other] 9 (0, 0))) (fun a _ => 3 - (intOf (a.eval (.tmp 10))).toNat) ?_ ?_
            · exact ⟨0, E.of ⟨E.get 0 rfl, E.get 1 rfl, E.get 7 rfl, E.get 8 rfl, E.get 9 rfl, E.get 10 rfl, E.get 11 rfl, E.get 12 rfl, trivial⟩, Nat.zero_le _, hP, h3⟩
            clear E
            rintro a w2 ⟨k, E, hk, hP, h3⟩
            have hmu : 3 - (intOf (a.eval (.tmp 10))).toNat = 3 - k := by rw [E.get 0 rfl]; first | (simp [intOf]; done) | (simp only [intOf]; omega)
            rw [hmu]
            clear hmu
            refine wp_seq ?_
            refine wp_seq ?_
            refine wp_region_lit ?_
            refine env_put (d := 54) (v := .int .i64 (k : Int)) E rfl (by decide) rfl (wanted_none rfl _) (run_move rfl (E.get 0 rfl)) fun a E => ?_
            refine env_put (d := 55) (v := .slice (some ⟨b3, 0, none⟩) 3 3) E rfl (by decide) rfl (wanted_none rfl _) (run_move rfl (E.get 2 rfl)) fun a E => ?_
            refine env_put (d := 56) (v := .int .i64 3) E rfl (by decide) rfl (wanted_none rfl _) (run_len33 rfl (E.get 0 rfl)) fun a E => ?_
            refine env_put (d := 57) (v := .bool (decide ((k : Int) < 3))) E rfl (by decide) rfl (wanted_none rfl _) (run_ilss (E.get 2 rfl) (E.get 0 rfl) Try.underlying3 rfl) fun a E => ?_
            refine wpList_nil ?_
            refine then_n ?_
            cases hq7 : (decide ((k : Int) < 3)) with
            | false =>
              rw [hq7] at E
              refine wp_cond_false (E.get 0 rfl) ?_
              refine wp_exit ?_
              refine then_e ?_
              refine then_e ?_
              refine blk_e ?_
              refine blk_n ?_
              refine then_n ?_
              refine wp_region_lit ?_
              refine env_put (d := 27) (v := .int .i64 (i : Int)) E rfl (by decide) rfl (wanted_none rfl _) (run_move rfl (E.get 6 rfl)) fun a E => ?_
              refine env_put (d := 28) (v := .int .i64 ((i : Int) + 1)) E rfl (by decide) rfl (wanted_none rfl _) (run_iadd (E.get 0 rfl) rfl (by omega) (by omega) rfl) fun a E => ?_
              refine env_set (d := 8) (v := .int .i64 ((i : Int) + 1)) E rfl (by decide) (wanted_none rfl _) (run_assign rfl (E.get 0 rfl)) fun a E => ?_
              refine wpList_nil ?_
              refine then_n ?_
              refine ⟨⟨i + 1, R2, E.of ⟨E.get 0 rfl, E.get 9 rfl, E.get 10 rfl, E.get 11 rfl, E.get 12 rfl, E.get 13 rfl, trivial⟩, hlt, hP, hI2, hF2, by omega, by omega⟩, ?_⟩
              rw [E.get 0 rfl]; simp only [intOf]; omega
            | true =>
              rw [hq7] at E
              have hk3 : k < 3 := by have := of_decide_eq_true hq7; omega
              obtain ⟨y, hy, hyz⟩ : ∃ y, (#[.string idv, .string e.id, .string e.other] : Array Value)[0 + k]? = some (.string y) ∧ y.size ≤ maxLen := by
                match k, hk3 with
                | 0, _ => exact ⟨idv, rfl, hid⟩
                | 1, _ => exact ⟨e.id, rfl, hsz.id⟩
                | 2, _ => exact ⟨e.other, rfl, hsz.other⟩
              have hgg : ((((nowR R2 y).length : Int) == 0) != (((nowR R2 y).length : Int) == 0)) = false := by simp
              refine wp_cond_true (E.get 0 rfl) ?_
              refine wp_skip ?_
              refine then_n ?_
              refine wp_seq ?_
              refine wp_block ?_
              refine wp_seq ?_
              refine wp_region_invx (G := Value × Value × Value × Value) (undef, undef, undef, undef) (n := 106) (base := [(57, .bool true), (56, .int .i64 3), (55, .slice (some ⟨b3, 0, none⟩) 3 3), (54, .int .i64 (k : Int)), (10, .int .i64 (k : Int)), (9, .slice (some ⟨b3, 0, none⟩) 3 3), (8, .int .i64 (i : Int)), (7, .pointer (some ⟨r, 0, none⟩)), (6, .pointer (some ⟨p, 0, none⟩)), (5, .bool true), (1, .string idv), (0, .slice (sa) es.length cap)]) (U := []) (T := fun γ => [some (60, .pointer (some ⟨p, 0, none⟩)), some (61, .slice (some ⟨b3, 0, none⟩) 3 3), some (62, .int .i64 (k : Int)), some (63, .pointer (some ⟨b3, (0 + k), none⟩)), some (64, .string y), some (65, γ.1), some (66, .pointer (some ⟨r, 0, none⟩)), some (67, .slice (some ⟨b3, 0, none⟩) 3 3), some (68, .int .i64 (k : Int)), some (69, .pointer (some ⟨b3, (0 + k), none⟩)), some (70, .string y), some (71, γ.2.1), some (72, .bool true), some (73, .bool false), some (74, .bool false), some (75, .pointer (some ⟨p, 0, none⟩)), some (76, .slice (some ⟨b3, 0, none⟩) 3 3), some (77, .int .i64 (k : Int)), some (78, .pointer (some ⟨b3, (0 + k), none⟩)), some (79, .string y), some (80, γ.2.2.1), some (81, .pointer (some ⟨r, 0, none⟩)), some (82, .slice (some ⟨b3, 0, none⟩) 3 3), some (83, .int .i64 (k : Int)), some (84, .pointer (some ⟨b3, (0 + k), none⟩)), some (85, .string y), some (86, γ.2.2.2), some (87, .bool true), some (88, .bool false), some (89, .bool false), some (90, .bool false), some (91, .pointer (some ⟨p, 0, none⟩)), some (92, .slice (some ⟨b3, 0, none⟩) 3 3), some (93, .int .i64 (k : Int)), some (94, .pointer (some ⟨b3, (0 + k), none⟩)), some (95, .string y), some (96, .bool (((nowR R2 y).length : Int) == 0)), some (97, .pointer (some ⟨r, 0, none⟩)), some (98, .slice (some ⟨b3, 0, none⟩) 3 3), some (99, .int .i64 (k : Int)), some (100, .pointer (some ⟨b3, (0 + k), none⟩)), some (101, .string y), some (102, .bool (((nowR R2 y).length : Int) == 0)), some (103, .bool false), some (104, .bool false)]) (M := fun γ ls9 wm => Fr (fun _ => False) w2 wm ∧ (ls9 5 = true → oStr wm 0 γ.1 (nowR R2 y)) ∧ (ls9 11 = true → oStr wm 0 γ.2.1 (nowR R2 y)) ∧ (ls9 20 = true → oStr wm 0 γ.2.2.1 (thenR R2 y)) ∧ (ls9 26 = true → oStr wm 0 γ.2.2.2 (thenR R2 y))) (by kernel_rfl) (by kernel_rfl) (fun _ => by kernel_rfl) (E.of ⟨E.get 0 rfl, E.get 1 rfl, E.get 2 rfl, E.get 3 rfl, E.get 4 rfl, E.get 5 rfl, E.get 6 rfl, E.get 7 rfl, E.get 8 rfl, E.get 9 rfl, E.get 10 rfl, E.get 11 rfl, trivial⟩) (fun x hx => by cases hx) ⟨(Fr.refl _ _).drew, fun h => absurd h Bool.false_ne_true, fun h => absurd h Bool.false_ne_true, fun h => absurd h Bool.false_ne_true, fun h => absurd h Bool.false_ne_true⟩ ?_ ?_
              · intro j9 o9 γ ls9 a w5 ho hl E D DL DL2 hB hM
                have hP := hP.quiet hM.1
                have h3 := hM.1.obj h3 id
                match j9, ho, hl, D, DL, hB with
                | 0, ho, hl, D, DL, hB =>
                  obtain rfl := Option.some.inj ho
                  clear ho
                  exact ⟨fun _ => valx rfl (run_move rfl (E.get 8 rfl)) rfl hM, fun h => by rw [wanted_none rfl] at h; cases h⟩
                | 1, ho, hl, D, DL, hB =>
                  obtain rfl := Option.some.inj ho
                  clear ho
                  exact ⟨fun _ => valx rfl (run_move rfl (E.get 5 rfl)) rfl hM, fun h => by rw [wanted_none rfl] at h; cases h⟩
                | 2, ho, hl, D, DL, hB =>
                  obtain rfl := Option.some.inj ho
                  clear ho
                  exact ⟨fun _ => valx rfl (run_move rfl (E.get 4 rfl)) rfl hM, fun h => by rw [wanted_none rfl] at h; cases h⟩
                | 3, ho, hl, D, DL, hB =>
                  obtain rfl := Option.some.inj ho
                  clear ho
                  exact ⟨fun _ => valx rfl (run_index33 (i := k) rfl (D 1 _ rfl rfl) (D 2 _ rfl rfl) hk3) rfl hM, fun h => by rw [wanted_none rfl] at h; cases h⟩
                | 4, ho, hl, D, DL, hB =>
                  obtain rfl := Option.some.inj ho
                  clear ho
                  exact ⟨fun _ => valx rfl (run_lds rfl (D 3 _ rfl rfl) (bx h3 (0 + k) hy)) rfl hM, fun h => by rw [wanted_none rfl] at h; cases h⟩
                | 5, ho, hl, D, DL, hB =>
                  obtain rfl := Option.some.inj ho
                  clear ho
                  exact ⟨fun _ => callxw (run_call2 (enters_of Try.func17 (by kernel_rfl) rfl) rfl rfl (D 0 _ rfl rfl) (D 4 _ rfl rfl)) ((hP.now hI2 (by omega) hyz).mono fun e9 w9 ⟨v9, h8, h9⟩ => ⟨v9, h8, h9⟩) rfl fun v9 w9 f9 => ⟨(v9, γ.2.1, γ.2.2.1, γ.2.2.2), rfl, (fun j hj => match j, hj with | 0, _ => rfl | 1, _ => rfl | 2, _ => rfl | 3, _ => rfl | 4, _ => rfl | 5, hj => absurd (hl.symm.trans hj) (by decide) | 6, _ => rfl | 7, _ => rfl | 8, _ => rfl | 9, _ => rfl | 10, _ => rfl | 11, _ => rfl | 12, _ => rfl | 13, _ => rfl | 14, _ => rfl | 15, _ => rfl | 16, _ => rfl | 17, _ => rfl | 18, _ => rfl | 19, _ => rfl | 20, _ => rfl | 21, _ => rfl | 22, _ => rfl | 23, _ => rfl | 24, _ => rfl | 25, _ => rfl | 26, _ => rfl | 27, _ => rfl | 28, _ => rfl | 29, _ => rfl | 30, _ => rfl | 31, _ => rfl | 32, _ => rfl | 33, _ => rfl | 34, _ => rfl | 35, _ => rfl | 36, _ => rfl | 37, _ => rfl | 38, _ => rfl | 39, _ => rfl | 40, _ => rfl | 41, _ => rfl | 42, _ => rfl | 43, _ => rfl | 44, _ => rfl | e9 + 45, _ => rfl), ⟨hM.1.trans' f9.2 (fun _ _ h => h.elim), fun _ => f9.1, fun h => ow.fr (hM.2.2.1 h) f9.2 (fun _ _ h => h), fun h => ow.fr (hM.2.2.2.1 h) f9.2 (fun _ _ h => h), fun h => ow.fr (hM.2.2.2.2 h) f9.2 (fun _ _ h => h)⟩⟩, fun h => by rw [wanted_none rfl] at h; cases h⟩
                | 6, ho, hl, D, DL, hB =>
                  obtain rfl := Option.some.inj ho
                  clear ho
                  exact ⟨fun _ => valx rfl (run_move rfl (E.get 7 rfl)) rfl hM, fun h => by rw [wanted_none rfl] at h; cases h⟩
                | 7, ho, hl, D, DL, hB =>
                  obtain rfl := Option.some.inj ho
                  clear ho
                  exact ⟨fun _ => valx rfl (run_move rfl (E.get 5 rfl)) rfl hM, fun h => by rw [wanted_none rfl] at h; cases h⟩
                | 8, ho, hl, D, DL, hB =>
                  obtain rfl := Option.some.inj ho
                  clear ho
                  exact ⟨fun _ => valx rfl (run_move rfl (E.get 4 rfl)) rfl hM, fun h => by rw [wanted_none rfl] at h; cases h⟩
                | 9, ho, hl, D, DL, hB =>
                  obtain rfl := Option.some.inj ho
                  clear ho
                  exact ⟨fun _ => valx rfl (run_index33 (i := k) rfl (D 7 _ rfl rfl) (D 8 _ rfl rfl) hk3) rfl hM, fun h => by rw [wanted_none rfl] at h; cases h⟩
                | 10, ho, hl, D, DL, hB =>
                  obtain rfl := Option.some.inj ho
                  clear ho
                  exact ⟨fun _ => valx rfl (run_lds rfl (D 9 _ rfl rfl) (bx h3 (0 + k) hy)) rfl hM, fun h => by rw [wanted_none rfl] at h; cases h⟩
                | 11, ho, hl, D, DL, hB =>
                  obtain rfl := Option.some.inj ho
                  clear ho
                  exact ⟨fun _ => callxw (run_call2 (enters_of Try.func18 (by kernel_rfl) rfl) rfl rfl (D 6 _ rfl rfl) (D 10 _ rfl rfl)) ((hP.rnow (by omega) y).mono fun e9 w9 ⟨v9, h8, h9⟩ => ⟨v9, h8, h9⟩) rfl fun v9 w9 f9 => ⟨(γ.1, v9, γ.2.2.1, γ.2.2.2), rfl, (fun j hj => match j, hj with | 0, _ => rfl | 1, _ => rfl | 2, _ => rfl | 3, _ => rfl | 4, _ => rfl | 5, _ => rfl | 6, _ => rfl | 7, _ => rfl | 8, _ => rfl | 9, _ => rfl | 10, _ => rfl | 11, hj => absurd (hl.symm.trans hj) (by decide) | 12, _ => rfl | 13, _ => rfl | 14, _ => rfl | 15, _ => rfl | 16, _ => rfl | 17, _ => rfl | 18, _ => rfl | 19, _ => rfl | 20, _ => rfl | 21, _ => rfl | 22, _ => rfl | 23, _ => rfl | 24, _ => rfl | 25, _ => rfl | 26, _ => rfl | 27, _ => rfl | 28, _ => rfl | 29, _ => rfl | 30, _ => rfl | 31, _ => rfl | 32, _ => rfl | 33, _ => rfl | 34, _ => rfl | 35, _ => rfl | 36, _ => rfl | 37, _ => rfl | 38, _ => rfl | 39, _ => rfl | 40, _ => rfl | 41, _ => rfl | 42, _ => rfl | 43, _ => rfl | 44, _ => rfl | e9 + 45, _ => rfl), ⟨hM.1.trans' f9.2 (fun _ _ h => h.elim), fun h => ow.fr (hM.2.1 h) f9.2 (fun _ _ h => h), fun _ => f9.1, fun h => ow.fr (hM.2.2.2.1 h) f9.2 (fun _ _ h => h), fun h => ow.fr (hM.2.2.2.2 h) f9.2 (fun _ _ h => h)⟩⟩, fun h => by rw [wanted_none rfl] at h; cases h⟩
                | 12, ho, hl, D, DL, hB =>
                  obtain rfl := Option.some.inj ho
                  clear ho
                  exact ⟨fun _ => callx rfl (run_call2 (enters_of Try.func16 (by kernel_rfl) rfl) rfl rfl (D 5 _ rfl rfl) (D 11 _ rfl rfl)) (same_ok (hM.2.1 (DL 5 rfl)) (hM.2.2.1 (DL 11 rfl))) rfl fun w9 f1 => ⟨hM.1.trans' f1 (fun _ _ h => h.elim), fun h => ow.fr (hM.2.1 h) f1 (fun _ _ h => h), fun h => ow.fr (hM.2.2.1 h) f1 (fun _ _ h => h), fun h => ow.fr (hM.2.2.2.1 h) f1 (fun _ _ h => h), fun h => ow.fr (hM.2.2.2.2 h) f1 (fun _ _ h => h)⟩, fun h => by rw [wanted_none rfl] at h; cases h⟩
                | 13, ho, hl, D, DL, hB =>
                  obtain rfl := Option.some.inj ho
                  clear ho
                  exact ⟨fun _ => valx rfl (run_not rfl (D 12 _ rfl rfl)) rfl hM, fun h => by rw [wanted_none rfl] at h; cases h⟩
                | 14, ho, hl, D, DL, hB =>
                  obtain rfl := Option.some.inj ho
                  clear ho
                  exact ⟨fun _ => valx rfl (run_move rfl (D 13 _ rfl rfl)) rfl hM, fun h => by rw [wanted_none rfl] at h; cases h⟩
                | 15, ho, hl, D, DL, hB =>
                  obtain rfl := Option.some.inj ho
                  clear ho
                  exact ⟨fun _ => valx rfl (run_move rfl (E.get 8 rfl)) rfl hM, fun h => by rw [w_yes (g := 14) (s := 74) (b := false) E rfl rfl (by decide) (D 14 _ rfl rfl)] at h; cases h⟩
                | 16, ho, hl, D, DL, hB =>
                  obtain rfl := Option.some.inj ho
                  clear ho
                  exact ⟨fun _ => valx rfl (run_move rfl (E.get 5 rfl)) rfl hM, fun h => by rw [w_yes (g := 14) (s := 74) (b := false) E rfl rfl (by decide) (D 14 _ rfl rfl)] at h; cases h⟩
                | 17, ho, hl, D, DL, hB =>
                  obtain rfl := Option.some.inj ho
                  clear ho
                  exact ⟨fun _ => valx rfl (run_move rfl (E.get 4 rfl)) rfl hM, fun h => by rw [w_yes (g := 14) (s := 74) (b := false) E rfl rfl (by decide) (D 14 _ rfl rfl)] at h; cases h⟩
                | 18, ho, hl, D, DL, hB =>
                  obtain rfl := Option.some.inj ho
                  clear ho
                  exact ⟨fun _ => valx rfl (run_index33 (i := k) rfl (D 16 _ rfl rfl) (D 17 _ rfl rfl) hk3) rfl hM, fun h => by rw [w_yes (g := 14) (s := 74) (b := false) E rfl rfl (by decide) (D 14 _ rfl rfl)] at h; cases h⟩
                | 19, ho, hl, D, DL, hB =>
                  obtain rfl := Option.some.inj ho
                  clear ho
                  exact ⟨fun _ => valx rfl (run_lds rfl (D 18 _ rfl rfl) (bx h3 (0 + k) hy)) rfl hM, fun h => by rw [w_yes (g := 14) (s := 74) (b := false) E rfl rfl (by decide) (D 14 _ rfl rfl)] at h; cases h⟩
                | 20, ho, hl, D, DL, hB =>
                  obtain rfl := Option.some.inj ho
                  clear ho
                  exact ⟨fun _ => callxw (run_call2 (enters_of Try.func19 (by kernel_rfl) rfl) rfl rfl (D 15 _ rfl rfl) (D 19 _ rfl rfl)) ((hP.then_ hI2 hF2 (by omega) hyz).mono fun e9 w9 ⟨v9, h8, h9⟩ => ⟨v9, h8, h9⟩) rfl fun v9 w9 f9 => ⟨(γ.1, γ.2.1, v9, γ.2.2.2), rfl, (fun j hj => match j, hj with | 0, _ => rfl | 1, _ => rfl | 2, _ => rfl | 3, _ => rfl | 4, _ => rfl | 5, _ => rfl | 6, _ => rfl | 7, _ => rfl | 8, _ => rfl | 9, _ => rfl | 10, _ => rfl | 11, _ => rfl | 12, _ => rfl | 13, _ => rfl | 14, _ => rfl | 15, _ => rfl | 16, _ => rfl | 17, _ => rfl | 18, _ => rfl | 19, _ => rfl | 20, hj => absurd (hl.symm.trans hj) (by decide) | 21, _ => rfl | 22, _ => rfl | 23, _ => rfl | 24, _ => rfl | 25, _ => rfl | 26, _ => rfl | 27, _ => rfl | 28, _ => rfl | 29, _ => rfl | 30, _ => rfl | 31, _ => rfl | 32, _ => rfl | 33, _ => rfl | 34, _ => rfl | 35, _ => rfl | 36, _ => rfl | 37, _ => rfl | 38, _ => rfl | 39, _ => rfl | 40, _ => rfl | 41, _ => rfl | 42, _ => rfl | 43, _ => rfl | 44, _ => rfl | e9 + 45, _ => rfl), ⟨hM.1.trans' f9.2 (fun _ _ h => h.elim), fun h => ow.fr (hM.2.1 h) f9.2 (fun _ _ h => h), fun h => ow.fr (hM.2.2.1 h) f9.2 (fun _ _ h => h), fun _ => f9.1, fun h => ow.fr (hM.2.2.2.2 h) f9.2 (fun _ _ h => h)⟩⟩, fun h => by rw [w_yes (g := 14) (s := 74) (b := false) E rfl rfl (by decide) (D 14 _ rfl rfl)] at h; cases h⟩
                | 21, ho, hl, D, DL, hB =>
                  obtain rfl := Option.some.inj ho
                  clear ho
                  exact ⟨fun _ => valx rfl (run_move rfl (E.get 7 rfl)) rfl hM, fun h => by rw [w_yes (g := 14) (s := 74) (b := false) E rfl rfl (by decide) (D 14 _ rfl rfl)] at h; cases h⟩
                | 22, ho, hl, D, DL, hB =>
                  obtain rfl := Option.some.inj ho
                  clear ho
                  exact ⟨fun _ => valx rfl (run_move rfl (E.get 5 rfl)) rfl hM, fun h => by rw [w_yes (g := 14) (s := 74) (b := false) E rfl rfl (by decide) (D 14 _ rfl rfl)] at h; cases h⟩
                | 23, ho, hl, D, DL, hB =>
                  obtain rfl := Option.some.inj ho
                  clear ho
                  exact ⟨fun _ => valx rfl (run_move rfl (E.get 4 rfl)) rfl hM, fun h => by rw [w_yes (g := 14) (s := 74) (b := false) E rfl rfl (by decide) (D 14 _ rfl rfl)] at h; cases h⟩
                | 24, ho, hl, D, DL, hB =>
                  obtain rfl := Option.some.inj ho
                  clear ho
                  exact ⟨fun _ => valx rfl (run_index33 (i := k) rfl (D 22 _ rfl rfl) (D 23 _ rfl rfl) hk3) rfl hM, fun h => by rw [w_yes (g := 14) (s := 74) (b := false) E rfl rfl (by decide) (D 14 _ rfl rfl)] at h; cases h⟩
                | 25, ho, hl, D, DL, hB =>
                  obtain rfl := Option.some.inj ho
                  clear ho
                  exact ⟨fun _ => valx rfl (run_lds rfl (D 24 _ rfl rfl) (bx h3 (0 + k) hy)) rfl hM, fun h => by rw [w_yes (g := 14) (s := 74) (b := false) E rfl rfl (by decide) (D 14 _ rfl rfl)] at h; cases h⟩
                | 26, ho, hl, D, DL, hB =>
                  obtain rfl := Option.some.inj ho
                  clear ho
                  exact ⟨fun _ => callxw (run_call2 (enters_of Try.func20 (by kernel_rfl) rfl) rfl rfl (D 21 _ rfl rfl) (D 25 _ rfl rfl)) ((hP.rthen (by omega) y).mono fun e9 w9 ⟨v9, h8, h9⟩ => ⟨v9, h8, h9⟩) rfl fun v9 w9 f9 => ⟨(γ.1, γ.2.1, γ.2.2.1, v9), rfl, (fun j hj => match j, hj with | 0, _ => rfl | 1, _ => rfl | 2, _ => rfl | 3, _ => rfl | 4, _ => rfl | 5, _ => rfl | 6, _ => rfl | 7, _ => rfl | 8, _ => rfl | 9, _ => rfl | 10, _ => rfl | 11, _ => rfl | 12, _ => rfl | 13, _ => rfl | 14, _ => rfl | 15, _ => rfl | 16, _ => rfl | 17, _ => rfl | 18, _ => rfl | 19, _ => rfl | 20, _ => rfl | 21, _ => rfl | 22, _ => rfl | 23, _ => rfl | 24, _ => rfl | 25, _ => rfl | 26, hj => absurd (hl.symm.trans hj) (by decide) | 27, _ => rfl | 28, _ => rfl | 29, _ => rfl | 30, _ => rfl | 31, _ => rfl | 32, _ => rfl | 33, _ => rfl | 34, _ => rfl | 35, _ => rfl | 36, _ => rfl | 37, _ => rfl | 38, _ => rfl | 39, _ => rfl | 40, _ => rfl | 41, _ => rfl | 42, _ => rfl | 43, _ => rfl | 44, _ => rfl | e9 + 45, _ => rfl), ⟨hM.1.trans' f9.2 (fun _ _ h => h.elim), fun h => ow.fr (hM.2.1 h) f9.2 (fun _ _ h => h), fun h => ow.fr (hM.2.2.1 h) f9.2 (fun _ _ h => h), fun h => ow.fr (hM.2.2.2.1 h) f9.2 (fun _ _ h => h), fun _ => f9.1⟩⟩, fun h => by rw [w_yes (g := 14) (s := 74) (b := false) E rfl rfl (by decide) (D 14 _ rfl rfl)] at h; cases h⟩
                | 27, ho, hl, D, DL, hB =>
                  obtain rfl := Option.some.inj ho
                  clear ho
                  exact ⟨fun _ => callx rfl (run_call2 (enters_of Try.func16 (by kernel_rfl) rfl) rfl rfl (D 20 _ rfl rfl) (D 26 _ rfl rfl)) (same_ok (hM.2.2.2.1 (DL 20 rfl)) (hM.2.2.2.2 (DL 26 rfl))) rfl fun w9 f1 => ⟨hM.1.trans' f1 (fun _ _ h => h.elim), fun h => ow.fr (hM.2.1 h) f1 (fun _ _ h => h), fun h => ow.fr (hM.2.2.1 h) f1 (fun _ _ h => h), fun h => ow.fr (hM.2.2.2.1 h) f1 (fun _ _ h => h), fun h => ow.fr (hM.2.2.2.2 h) f1 (fun _ _ h => h)⟩, fun h => by rw [w_yes (g := 14) (s := 74) (b := false) E rfl rfl (by decide) (D 14 _ rfl rfl)] at h; cases h⟩
                | 28, ho, hl, D, DL, hB =>
                  obtain rfl := Option.some.inj ho
                  clear ho
                  exact ⟨fun _ => valx rfl (run_not rfl (D 27 _ rfl rfl)) rfl hM, fun h => by rw [w_yes (g := 14) (s := 74) (b := false) E rfl rfl (by decide) (D 14 _ rfl rfl)] at h; cases h⟩
                | 29, ho, hl, D, DL, hB =>
                  obtain rfl := Option.some.inj ho
                  clear ho
                  exact ⟨fun _ => valx rfl (run_pick_f rfl (D 14 _ rfl rfl) (D 28 _ rfl rfl)) rfl hM, fun h => by rw [wanted_none rfl] at h; cases h⟩
                | 30, ho, hl, D, DL, hB =>
                  obtain rfl := Option.some.inj ho
                  clear ho
                  exact ⟨fun _ => valx rfl (run_move rfl (D 29 _ rfl rfl)) rfl hM, fun h => by rw [wanted_none rfl] at h; cases h⟩
                | 31, ho, hl, D, DL, hB =>
                  obtain rfl := Option.some.inj ho
                  clear ho
                  exact ⟨fun _ => valx rfl (run_move rfl (E.get 8 rfl)) rfl hM, fun h => by rw [w_yes (g := 30) (s := 90) (b := false) E rfl rfl (by decide) (D 30 _ rfl rfl)] at h; cases h⟩
                | 32, ho, hl, D, DL, hB =>
                  obtain rfl := Option.some.inj ho
                  clear ho
                  exact ⟨fun _ => valx rfl (run_move rfl (E.get 5 rfl)) rfl hM, fun h => by rw [w_yes (g := 30) (s := 90) (b := false) E rfl rfl (by decide) (D 30 _ rfl rfl)] at h; cases h⟩
                | 33, ho, hl, D, DL, hB =>
                  obtain rfl := Option.some.inj ho
                  clear ho
                  exact ⟨fun _ => valx rfl (run_move rfl (E.get 4 rfl)) rfl hM, fun h => by rw [w_yes (g := 30) (s := 90) (b := false) E rfl rfl (by decide) (D 30 _ rfl rfl)] at h; cases h⟩
                | 34, ho, hl, D, DL, hB =>
                  obtain rfl := Option.some.inj ho
                  clear ho
                  exact ⟨fun _ => valx rfl (run_index33 (i := k) rfl (D 32 _ rfl rfl) (D 33 _ rfl rfl) hk3) rfl hM, fun h => by rw [w_yes (g := 30) (s := 90) (b := false) E rfl rfl (by decide) (D 30 _ rfl rfl)] at h; cases h⟩
                | 35, ho, hl, D, DL, hB =>
                  obtain rfl := Option.some.inj ho
                  clear ho
                  exact ⟨fun _ => valx rfl (run_lds rfl (D 34 _ rfl rfl) (bx h3 (0 + k) hy)) rfl hM, fun h => by rw [w_yes (g := 30) (s := 90) (b := false) E rfl rfl (by decide) (D 30 _ rfl rfl)] at h; cases h⟩
                | 36, ho, hl, D, DL, hB =>
                  obtain rfl := Option.some.inj ho
                  clear ho
                  exact ⟨fun _ => callx rfl (run_call2 (enters_of Try.func21 (by kernel_rfl) rfl) rfl rfl (D 31 _ rfl rfl) (D 35 _ rfl rfl)) (hP.gone hI2 hyz) rfl fun w9 f1 => ⟨hM.1.trans' f1 (fun _ _ h => h.elim), fun h => ow.fr (hM.2.1 h) f1 (fun _ _ h => h), fun h => ow.fr (hM.2.2.1 h) f1 (fun _ _ h => h), fun h => ow.fr (hM.2.2.2.1 h) f1 (fun _ _ h => h), fun h => ow.fr (hM.2.2.2.2 h) f1 (fun _ _ h => h)⟩, fun h => by rw [w_yes (g := 30) (s := 90) (b := false) E rfl rfl (by decide) (D 30 _ rfl rfl)] at h; cases h⟩
                | 37, ho, hl, D, DL, hB =>
                  obtain rfl := Option.some.inj ho
                  clear ho
                  exact ⟨fun _ => valx rfl (run_move rfl (E.get 7 rfl)) rfl hM, fun h => by rw [w_yes (g := 30) (s := 90) (b := false) E rfl rfl (by decide) (D 30 _ rfl rfl)] at h; cases h⟩
                | 38, ho, hl, D, DL, hB =>
                  obtain rfl := Option.some.inj ho
                  clear ho
                  exact ⟨fun _ => valx rfl (run_move rfl (E.get 5 rfl)) rfl hM, fun h => by rw [w_yes (g := 30) (s := 90) (b := false) E rfl rfl (by decide) (D 30 _ rfl rfl)] at h; cases h⟩
                | 39, ho, hl, D, DL, hB =>
                  obtain rfl := Option.some.inj ho
                  clear ho
                  exact ⟨fun _ => valx rfl (run_move rfl (E.get 4 rfl)) rfl hM, fun h => by rw [w_yes (g := 30) (s := 90) (b := false) E rfl rfl (by decide) (D 30 _ rfl rfl)] at h; cases h⟩
                | 40, ho, hl, D, DL, hB =>
                  obtain rfl := Option.some.inj ho
                  clear ho
                  exact ⟨fun _ => valx rfl (run_index33 (i := k) rfl (D 38 _ rfl rfl) (D 39 _ rfl rfl) hk3) rfl hM, fun h => by rw [w_yes (g := 30) (s := 90) (b := false) E rfl rfl (by decide) (D 30 _ rfl rfl)] at h; cases h⟩
                | 41, ho, hl, D, DL, hB =>
                  obtain rfl := Option.some.inj ho
                  clear ho
                  exact ⟨fun _ => valx rfl (run_lds rfl (D 40 _ rfl rfl) (bx h3 (0 + k) hy)) rfl hM, fun h => by rw [w_yes (g := 30) (s := 90) (b := false) E rfl rfl (by decide) (D 30 _ rfl rfl)] at h; cases h⟩
                | 42, ho, hl, D, DL, hB =>
                  obtain rfl := Option.some.inj ho
                  clear ho
                  exact ⟨fun _ => callx rfl (run_call2 (enters_of Try.func22 (by kernel_rfl) rfl) rfl rfl (D 37 _ rfl rfl) (D 41 _ rfl rfl)) (hP.rgone (by omega) y) rfl fun w9 f1 => ⟨hM.1.trans' f1 (fun _ _ h => h.elim), fun h => ow.fr (hM.2.1 h) f1 (fun _ _ h => h), fun h => ow.fr (hM.2.2.1 h) f1 (fun _ _ h => h), fun h => ow.fr (hM.2.2.2.1 h) f1 (fun _ _ h => h), fun h => ow.fr (hM.2.2.2.2 h) f1 (fun _ _ h => h)⟩, fun h => by rw [w_yes (g := 30) (s := 90) (b := false) E rfl rfl (by decide) (D 30 _ rfl rfl)] at h; cases h⟩
                | 43, ho, hl, D, DL, hB =>
                  obtain rfl := Option.some.inj ho
                  clear ho
                  exact ⟨fun _ => valx rfl ((run_bneq (D 36 _ rfl rfl) (D 42 _ rfl rfl) rfl).trans (by rw [hgg] <;> rfl)) rfl hM, fun h => by rw [w_yes (g := 30) (s := 90) (b := false) E rfl rfl (by decide) (D 30 _ rfl rfl)] at h; cases h⟩
                | 44, ho, hl, D, DL, hB =>
                  obtain rfl := Option.some.inj ho
                  clear ho
                  exact ⟨fun _ => valx rfl (run_pick_f rfl (D 30 _ rfl rfl) (D 43 _ rfl rfl)) rfl hM, fun h => by rw [wanted_none rfl] at h; cases h⟩
                | j9 + 45, ho, hl, D, DL, hB => exact absurd ho (by simp)
              · rintro ⟨γ8a, γ8b, γ8c, γ8d⟩ a w5 E V hM
                have E := E.add (v := .bool false) (V 44 _ rfl)
                clear V
                have hP := hP.quiet hM.1
                have h3 := hM.1.obj h3 id
                clear hM
                refine then_n ?_
                refine wp_cond_false (E.get 0 rfl) ?_
                refine wp_skip ?_
                refine blk_n ?_
                refine then_n ?_
                refine wp_region_lit ?_
                refine env_put (d := 58) (v := .int .i64 (k : Int)) E rfl (by decide) rfl (wanted_none rfl _) (run_move rfl (E.get 5 rfl)) fun a E => ?_
                refine env_put (d := 59) (v := .int .i64 ((k : Int) + 1)) E rfl (by decide) rfl (wanted_none rfl _) (run_iadd (E.get 0 rfl) rfl (by omega) (by omega) rfl) fun a E => ?_
                refine env_set (d := 10) (v := .int .i64 ((k : Int) + 1)) E rfl (by decide) (wanted_none rfl _) (run_assign rfl (E.get 0 rfl)) fun a E => ?_
                refine wpList_nil ?_
                refine then_n ?_
                refine ⟨⟨k + 1, E.of ⟨E.get 0 rfl, E.get 8 rfl, E.get 9 rfl, E.get 10 rfl, E.get 11 rfl, E.get 12 rfl, E.get 13 rfl, E.get 14 rfl, trivial⟩, hk3, hP, h3⟩, ?_⟩
                rw [E.get 0 rfl]; simp only [intOf]; omega
    | true =>
      rw [hq2] at E
      refine wp_cond_true (E.get 0 rfl) ?_
      refine wp_seq ?_
      refine wp_region_lit ?_
      refine env_put (d := 20) (v := .bool true) E rfl (by decide) rfl (wanted_none rfl _) (run_move rfl (E.get 8 rfl)) fun a E => ?_
      refine env_set (d := 4) (v := .bool true) E rfl (by decide) (wanted_none rfl _) (run_assign rfl (E.get 0 rfl)) fun a E => ?_
      refine wpList_nil ?_
      refine then_n ?_
      refine wp_ret ?_
      refine then_r ?_
      exact ret_tmp (t := 4) rfl E (E.get 0 rfl) ⟨rfl, hf⟩
end Go.Proofs.Ytcolfgnjmnapkaa
