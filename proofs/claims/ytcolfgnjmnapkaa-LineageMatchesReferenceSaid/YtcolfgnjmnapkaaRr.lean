/- The reference lineage: Now, Then, Gone. -/
import Derived.Test.YtcolfgnjmnapkaaRq
set_option linter.unusedVariables false
set_option linter.unusedSimpArgs false
namespace Go.Proofs.Ytcolfgnjmnapkaa
open Go.RowKit Go.Pl

theorem putL_len (L : List ByteArray) (s : ByteArray) : (putL L s).length = L.length + 1 := by
  unfold putL
  have := congrArg List.length (List.takeWhile_append_dropWhile (p := fun x : ByteArray => Op.bytesLess x.toList s.toList) (l := L))
  rw [List.length_append] at this
  rw [List.length_append, List.length_cons]; omega
theorem putL_fold : ∀ (l L : List ByteArray), (l.foldl putL L).length = L.length + l.length
  | [], L => rfl
  | s :: l, L => by rw [List.foldl_cons, putL_fold l, putL_len, List.length_cons]; omega
noncomputable def nowR (R : RefS) (a0 : ByteArray) : List ByteArray := if inB R.ms a0 = true then ((R.ps.filter (fun x => decide (x.1 = a0))).map (·.2)).foldl putL [] else [a0]
set_option maxRecDepth 100000 in
set_option maxHeartbeats 4000000 in
theorem rnow_calls {w : World} {r : Nat} {σ : Nat → Prop} {R : RefS} {pv mv : Value} (h : RefAt w r σ R pv mv) (hb2 : R.ps.length ≤ 100000) (a0 : ByteArray) : Calls Try.prog 18 #[.pointer (some ⟨r, 0, none⟩), .string a0] w fun e w' => ∃ v, e = .returned v ∧ oStr w' w.heap.size v (nowR R a0) ∧ Fr (fun _ => False) w w' := by
  refine wp_start2 Try.func18 rfl rfl (n := 49) (by decide) fun a E => ?_
  have hf : Fr (fun _ => False) w w := Fr.refl _ _
  obtain ⟨p1, cp1, hv1, hle1, hcap1, hs1, hz1⟩ := h.msrc
  subst hv1
  obtain ⟨p0, cp0, hv0, hle0, hcap0, hs0, hz0⟩ := h.psrc
  subst hv0
  refine wp_seq ?_
  refine wp_region_lit ?_
  refine env_put (d := 4) (v := .slice none 0 0) E rfl (by decide) rfl (wanted_none rfl _) (run_assign rfl rfl) fun a E => ?_
  refine wpList_nil ?_
  refine then_n ?_
  refine wp_seq ?_
  refine wp_region_lit ?_
  refine env_put (d := 5) (v := .slice none 0 0) E rfl (by decide) rfl (wanted_none rfl _) (run_assign rfl rfl) fun a E => ?_
  refine wpList_nil ?_
  refine then_n ?_
  refine wp_seq ?_
  refine wp_seq ?_
  refine wp_region_lit ?_
  refine env_put (d := 7) (v := .pointer (some ⟨r, 0, none⟩)) E rfl (by decide) rfl (wanted_none rfl _) (run_move rfl (E.get 2 rfl)) fun a E => ?_
  refine env_put (d := 8) (v := .bool false) E rfl (by decide) rfl (wanted_none rfl _) (run_pnil rfl (E.get 0 rfl) rfl) fun a E => ?_
  refine wpList_nil ?_
  refine then_n ?_
  refine wp_cond_false (E.get 0 rfl) ?_
  refine wp_skip ?_
  refine then_n ?_
  refine wp_seq ?_
  refine wp_seq ?_
  refine wp_region_lit ?_
  refine env_put (d := 10) (v := .pointer (some ⟨r, 0, none⟩)) E rfl (by decide) rfl (wanted_none rfl _) (run_move rfl (E.get 4 rfl)) fun a E => ?_
  refine env_put (d := 11) (v := .pointer (some ⟨r, 0, none⟩)) E rfl (by decide) rfl (wanted_none rfl _) (run_nilchk rfl (E.get 0 rfl)) fun a E => ?_
  refine env_put (d := 12) (v := .pointer (some ⟨r, 1, none⟩)) E rfl (by decide) rfl (wanted_none rfl _) (fa58_at (by decide) rfl (E.get 0 rfl)) fun a E => ?_
  refine env_put (d := 13) (v := .slice (p1) R.ms.length cp1) E rfl (by decide) rfl (wanted_none rfl _) (run_ld33 rfl (E.get 0 rfl) h.c1) fun a E => ?_
  refine env_put (d := 14) (v := .string a0) E rfl (by decide) rfl (wanted_none rfl _) (run_move rfl (E.get 9 rfl)) fun a E => ?_
  refine env_call (d := 15) (v := .bool (inB R.ms a0)) E rfl (by decide) rfl (wanted_none rfl _) (run_call2 (enters_of Try.func24 (by kernel_rfl) rfl) rfl rfl (E.get 1 rfl) (E.get 0 rfl)) (h.inC _) fun a w1 f1 E => ?_
  have h := RefAt.fr h f1 (fun _ _ h => h)
  have hs0 := hs0.fr f1 (fun _ _ h => h)
  have hf := hf.trans f1
  clear f1
  refine env_put (d := 16) (v := .bool (!(inB R.ms a0))) E rfl (by decide) rfl (wanted_none rfl _) (run_not rfl (E.get 0 rfl)) fun a E => ?_
  refine wpList_nil ?_
  refine then_n ?_
  cases hq1 : (inB R.ms a0) with
  | false =>
    rw [hq1] at E
    refine wp_cond_true (E.get 0 rfl) ?_
    refine wp_seq ?_
    refine wp_region_lit ?_
    refine env_put (d := 17) (v := .string a0) E rfl (by decide) rfl (wanted_none rfl _) (run_move rfl (E.get 12 rfl)) fun a E => ?_
    refine env_one33 (d := 18) E rfl (by decide) rfl (wanted_none rfl _) rfl (E.get 0 rfl) fun a w1 b1 eb1 hb1 f1 E => ?_
    have hO := ow_one33 (B := w.heap.size) hb1 (by have := hf.size; omega)
    clear eb1 hb1
    have h := RefAt.fr h f1 (fun _ _ h => h)
    have hs0 := hs0.fr f1 (fun _ _ h => h)
    have hf := hf.trans f1
    clear f1
    refine env_set (d := 4) (v := .slice (some ⟨b1, 0, none⟩) 1 1) E rfl (by decide) (wanted_none rfl _) (run_assign rfl (E.get 0 rfl)) fun a E => ?_
    refine wpList_nil ?_
    refine then_n ?_
    refine wp_ret ?_
    refine then_r ?_
    refine ret_tmp (t := 4) rfl E (E.get 0 rfl) ⟨_, rfl, ?_, hf⟩
    unfold nowR; rw [if_neg (by rw [hq1]; simp)]; exact hO
  | true =>
    rw [hq1] at E
    refine wp_cond_false (E.get 0 rfl) ?_
    refine wp_skip ?_
    refine then_n ?_
    refine wp_seq ?_
    refine wp_seq ?_
    refine wp_region_lit ?_
    refine env_put (d := 6) (v := .int .i64 0) E rfl (by decide) rfl (wanted_none rfl _) (run_assign rfl rfl) fun a E => ?_
    refine wpList_nil ?_
    refine then_n ?_
    refine wp_block ?_
    refine wp_loop (fun a w2 => ∃ (i : Nat) (ov : Value), Env 49 [(6, .int .i64 (i : Int)), (5, ov), (1, .string a0), (0, .pointer (some ⟨r, 0, none⟩))] a ∧ i ≤ R.ps.length ∧ oStr w2 w.heap.size ov ((((R.ps.take i).filter (fun x => decide (x.1 = a0))).map (·.2)).foldl putL []) ∧ RefAt w2 r σ R (.slice p0 R.ps.length cp0) (.slice p1 R.ms.length cp1) ∧ srcAt scells 2 w2 w.heap.size p0 R.ps ∧ Fr (fun _ => False) w w2) (fun a _ => R.ps.length - (intOf (a.eval (.tmp 6))).toNat) ?_ ?_
    · exact ⟨0, .slice none 0 0, E.of ⟨E.get 0 rfl, E.get 10 rfl, E.get 13 rfl, E.get 12 rfl, trivial⟩, Nat.zero_le _, ow_nil _, h, hs0, hf⟩
    clear E
    rintro a w2 ⟨i, ov, E, hi, hO, h, hs0, hf⟩
    have hmu : R.ps.length - (intOf (a.eval (.tmp 6))).toNat = R.ps.length - i := by rw [E.get 0 rfl]; first | (simp [intOf]; done) | (simp only [intOf]; omega)
    rw [hmu]
    clear hmu
    refine wp_seq ?_
    refine wp_seq ?_
    refine wp_region_lit ?_
    refine env_put (d := 19) (v := .int .i64 (i : Int)) E rfl (by decide) rfl (wanted_none rfl _) (run_move rfl (E.get 0 rfl)) fun a E => ?_
    refine env_put (d := 20) (v := .pointer (some ⟨r, 0, none⟩)) E rfl (by decide) rfl (wanted_none rfl _) (run_move rfl (E.get 4 rfl)) fun a E => ?_
    refine env_put (d := 21) (v := .pointer (some ⟨r, 0, none⟩)) E rfl (by decide) rfl (wanted_none rfl _) (run_nilchk rfl (E.get 0 rfl)) fun a E => ?_
    refine env_put (d := 22) (v := .pointer (some ⟨r, 0, none⟩)) E rfl (by decide) rfl (wanted_none rfl _) (fa58_at (by decide) rfl (E.get 0 rfl)) fun a E => ?_
    refine env_put (d := 23) (v := .slice (p0) R.ps.length cp0) E rfl (by decide) rfl (wanted_none rfl _) (run_ld56 rfl (E.get 0 rfl) h.c0) fun a E => ?_
    refine env_put (d := 24) (v := .int .i64 (R.ps.length : Int)) E rfl (by decide) rfl (wanted_none rfl _) (run_len56 rfl (E.get 0 rfl)) fun a E => ?_
    refine env_put (d := 25) (v := .bool (decide ((i : Int) < (R.ps.length : Int)))) E rfl (by decide) rfl (wanted_none rfl _) (run_ilss (E.get 5 rfl) (E.get 0 rfl) Try.underlying3 rfl) fun a E => ?_
    refine wpList_nil ?_
    refine then_n ?_
    cases hq3 : (decide ((i : Int) < (R.ps.length : Int))) with
    | false =>
      rw [hq3] at E
      have hie : i = R.ps.length := by have := of_decide_eq_false hq3; omega
      rw [hie, List.take_length] at hO
      refine wp_cond_false (E.get 0 rfl) ?_
      refine wp_exit ?_
      refine then_e ?_
      refine then_e ?_
      refine blk_e ?_
      refine then_n ?_
      refine wp_seq ?_
      refine wp_region_lit ?_
      refine env_put (d := 48) (v := ov) E rfl (by decide) rfl (wanted_none rfl _) (run_move rfl (E.get 8 rfl)) fun a E => ?_
      refine env_put (d := 4) (v := ov) E rfl (by decide) rfl (wanted_none rfl _) (run_assign rfl (E.get 0 rfl)) fun a E => ?_
      refine wpList_nil ?_
      refine then_n ?_
      refine wp_ret ?_
      refine ret_tmp (t := 4) rfl E (E.get 0 rfl) ⟨_, rfl, ?_, hf⟩
      unfold nowR; rw [if_pos hq1]; exact hO
    | true =>
      rw [hq3] at E
      have hlt : i < R.ps.length := by have := of_decide_eq_true hq3; omega
      obtain ⟨y, hy⟩ : ∃ y, R.ps[i]? = some y := ⟨_, List.getElem?_eq_getElem hlt⟩
      obtain ⟨g, off, hpe, hgl, hrow⟩ := hs0.at hlt
      replace hrow := hrow i y hy
      refine wp_cond_true (E.get 0 rfl) ?_
      refine wp_skip ?_
      refine then_n ?_
      refine wp_seq ?_
      refine wp_block ?_
      refine wp_seq ?_
      refine wp_region_lit ?_
      refine env_put (d := 28) (v := .pointer (some ⟨r, 0, none⟩)) E rfl (by decide) rfl (wanted_none rfl _) (run_move rfl (E.get 10 rfl)) fun a E => ?_
      refine env_put (d := 29) (v := .pointer (some ⟨r, 0, none⟩)) E rfl (by decide) rfl (wanted_none rfl _) (run_nilchk rfl (E.get 0 rfl)) fun a E => ?_
      refine env_put (d := 30) (v := .pointer (some ⟨r, 0, none⟩)) E rfl (by decide) rfl (wanted_none rfl _) (fa58_at (by decide) rfl (E.get 0 rfl)) fun a E => ?_
      refine env_put (d := 31) (v := .slice (p0) R.ps.length cp0) E rfl (by decide) rfl (wanted_none rfl _) (run_ld56 rfl (E.get 0 rfl) h.c0) fun a E => ?_
      refine env_put (d := 32) (v := .int .i64 (i : Int)) E rfl (by decide) rfl (wanted_none rfl _) (run_move rfl (E.get 11 rfl)) fun a E => ?_
      refine env_put (d := 33) (v := .pointer (some ⟨g, (off + i * 2), none⟩)) E rfl (by decide) rfl (wanted_none rfl _) (run_index56 (i := i) rfl ((E.get 1 rfl).trans (by rw [hpe])) (E.get 0 rfl) hlt) fun a E => ?_
      refine env_put (d := 34) (v := .pointer (some ⟨g, ((off + i * 2) + 0), none⟩)) E rfl (by decide) rfl (wanted_none rfl _) (run_index70 (i := 0) rfl (E.get 0 rfl) rfl (by decide)) fun a E => ?_
      refine env_put (d := 35) (v := .string y.1) E rfl (by decide) rfl (wanted_none rfl _) (run_lds rfl (E.get 0 rfl) (hrow 0 _ rfl)) fun a E => ?_
      refine env_put (d := 36) (v := .string a0) E rfl (by decide) rfl (wanted_none rfl _) (run_move rfl (E.get 17 rfl)) fun a E => ?_
      refine env_put (d := 37) (v := .bool (decide (y.1 = a0))) E rfl (by decide) rfl (wanted_none rfl _) (run_seql (E.get 1 rfl) (E.get 0 rfl) rfl) fun a E => ?_
      refine wpList_nil ?_
      refine then_n ?_
      cases hq4 : (decide (y.1 = a0)) with
      | false =>
        rw [hq4] at E
        refine wp_cond_false (E.get 0 rfl) ?_
        refine wp_skip ?_
        refine blk_n ?_
        refine then_n ?_
        refine wp_region_lit ?_
        refine env_put (d := 26) (v := .int .i64 (i : Int)) E rfl (by decide) rfl (wanted_none rfl _) (run_move rfl (E.get 17 rfl)) fun a E => ?_
        refine env_put (d := 27) (v := .int .i64 ((i : Int) + 1)) E rfl (by decide) rfl (wanted_none rfl _) (run_iadd (E.get 0 rfl) rfl (by omega) (by omega) rfl) fun a E => ?_
        refine env_set (d := 6) (v := .int .i64 ((i : Int) + 1)) E rfl (by decide) (wanted_none rfl _) (run_assign rfl (E.get 0 rfl)) fun a E => ?_
        refine wpList_nil ?_
        refine then_n ?_
        refine ⟨⟨i + 1, ov, E.of ⟨E.get 0 rfl, E.get 20 rfl, E.get 21 rfl, E.get 22 rfl, trivial⟩, hlt, ?_, h, hs0, hf⟩, ?_⟩
        · rw [List.take_add_one, hy, List.filter_append]
          simp only [Option.toList_some, List.filter_cons, hq4, Bool.false_eq_true, if_false, List.filter_nil, List.append_nil]
          exact hO
        · rw [E.get 0 rfl]; simp only [intOf]; omega
      | true =>
        rw [hq4] at E
        obtain ⟨po, co, hvo, hlo, _, hso, hzo⟩ := hO.src strC_len
        subst hvo
        have hol : ((((R.ps.take i).filter (fun x => decide (x.1 = a0))).map (·.2)).foldl putL []).length ≤ 100000 := by have h1 := putL_fold ((((R.ps.take i).filter (fun x => decide (x.1 = a0))).map (·.2))) []; have h2 := List.length_filter_le (fun x : ByteArray × ByteArray => decide (x.1 = a0)) (R.ps.take i); rw [List.length_take] at h2; rw [List.length_map] at h1; simp only [List.length_nil] at h1; omega
        refine wp_cond_true (E.get 0 rfl) ?_
        refine wp_region_lit ?_
        refine env_put (d := 38) (v := .slice (po) ((((R.ps.take i).filter (fun x => decide (x.1 = a0))).map (·.2)).foldl putL []).length co) E rfl (by decide) rfl (wanted_none rfl _) (run_move rfl (E.get 18 rfl)) fun a E => ?_
        refine env_put (d := 39) (v := .pointer (some ⟨r, 0, none⟩)) E rfl (by decide) rfl (wanted_none rfl _) (run_move rfl (E.get 21 rfl)) fun a E => ?_
        refine env_put (d := 40) (v := .pointer (some ⟨r, 0, none⟩)) E rfl (by decide) rfl (wanted_none rfl _) (run_nilchk rfl (E.get 0 rfl)) fun a E => ?_
        refine env_put (d := 41) (v := .pointer (some ⟨r, 0, none⟩)) E rfl (by decide) rfl (wanted_none rfl _) (fa58_at (by decide) rfl (E.get 0 rfl)) fun a E => ?_
        refine env_put (d := 42) (v := .slice (p0) R.ps.length cp0) E rfl (by decide) rfl (wanted_none rfl _) (run_ld56 rfl (E.get 0 rfl) h.c0) fun a E => ?_
        refine env_put (d := 43) (v := .int .i64 (i : Int)) E rfl (by decide) rfl (wanted_none rfl _) (run_move rfl (E.get 22 rfl)) fun a E => ?_
        refine env_put (d := 44) (v := .pointer (some ⟨g, (off + i * 2), none⟩)) E rfl (by decide) rfl (wanted_none rfl _) (run_index56 (i := i) rfl ((E.get 1 rfl).trans (by rw [hpe])) (E.get 0 rfl) hlt) fun a E => ?_
        refine env_put (d := 45) (v := .pointer (some ⟨g, ((off + i * 2) + 1), none⟩)) E rfl (by decide) rfl (wanted_none rfl _) (run_index70 (i := 1) rfl (E.get 0 rfl) rfl (by decide)) fun a E => ?_
        refine env_put (d := 46) (v := .string y.2) E rfl (by decide) rfl (wanted_none rfl _) (run_lds rfl (E.get 0 rfl) (hrow 1 _ rfl)) fun a E => ?_
        refine env_callv (d := 47) (R := fun u w8 => oStr w8 w2.heap.size u (putL ((((R.ps.take i).filter (fun x => decide (x.1 = a0))).map (·.2)).foldl putL []) y.2) ∧ Fr (fun _ => False) w2 w8) E rfl (by decide) rfl (wanted_none rfl _) (run_call2 (enters_of Try.func38 (by kernel_rfl) rfl) rfl rfl (E.get 8 rfl) (E.get 0 rfl)) ((rput_calls (hso.mono (G' := w2.heap.size) (Nat.le_refl _)) hzo hlo (Nat.le_refl _) hol _).mono fun e w8 ⟨v, h1, h2⟩ => ⟨v, h1, h2⟩) fun a w1 rv5 hR E => ?_
        obtain ⟨hO2, f1⟩ := hR
        replace hO := hO2.base (C := w.heap.size) hf.size
        clear hO2
        have h := RefAt.fr h f1 (fun _ _ h => h)
        have hs0 := hs0.fr f1 (fun _ _ h => h)
        have hrow := fun j u hu => f1.cell (hrow j u hu) id
        have hso := hso.fr f1 (fun _ _ h => h)
        have hf := hf.trans f1
        clear f1
        refine env_set (d := 5) (v := rv5) E rfl (by decide) (wanted_none rfl _) (run_assign rfl (E.get 0 rfl)) fun a E => ?_
        refine wpList_nil ?_
        refine blk_n ?_
        refine then_n ?_
        refine wp_region_lit ?_
        refine env_put (d := 26) (v := .int .i64 (i : Int)) E rfl (by decide) rfl (wanted_none rfl _) (run_move rfl (E.get 28 rfl)) fun a E => ?_
        refine env_put (d := 27) (v := .int .i64 ((i : Int) + 1)) E rfl (by decide) rfl (wanted_none rfl _) (run_iadd (E.get 0 rfl) rfl (by omega) (by omega) rfl) fun a E => ?_
        refine env_set (d := 6) (v := .int .i64 ((i : Int) + 1)) E rfl (by decide) (wanted_none rfl _) (run_assign rfl (E.get 0 rfl)) fun a E => ?_
        refine wpList_nil ?_
        refine then_n ?_
        refine ⟨⟨i + 1, rv5, E.of ⟨E.get 0 rfl, E.get 3 rfl, E.get 31 rfl, E.get 32 rfl, trivial⟩, hlt, ?_, h, hs0, hf⟩, ?_⟩
        · rw [List.take_add_one, hy, List.filter_append]
          simp only [Option.toList_some, List.filter_cons, hq4, if_true, List.filter_nil, List.map_append, List.map_cons, List.map_nil, List.foldl_append, List.foldl_cons, List.foldl_nil]
          exact hO
        · rw [E.get 0 rfl]; simp only [intOf]; omega
noncomputable def thenR (R : RefS) (a0 : ByteArray) : List ByteArray := if inB R.ms a0 = true then ((R.ps.filter (fun x => decide (x.2 = a0))).map (·.1)).foldl putL [] else [a0]
set_option maxRecDepth 100000 in
set_option maxHeartbeats 4000000 in
theorem rthen_calls {w : World} {r : Nat} {σ : Nat → Prop} {R : RefS} {pv mv : Value} (h : RefAt w r σ R pv mv) (hb2 : R.ps.length ≤ 100000) (a0 : ByteArray) : Calls Try.prog 20 #[.pointer (some ⟨r, 0, none⟩), .string a0] w fun e w' => ∃ v, e = .returned v ∧ oStr w' w.heap.size v (thenR R a0) ∧ Fr (fun _ => False) w w' := by
  refine wp_start2 Try.func20 rfl rfl (n := 49) (by decide) fun a E => ?_
  have hf : Fr (fun _ => False) w w := Fr.refl _ _
  obtain ⟨p1, cp1, hv1, hle1, hcap1, hs1, hz1⟩ := h.msrc
  subst hv1
  obtain ⟨p0, cp0, hv0, hle0, hcap0, hs0, hz0⟩ := h.psrc
  subst hv0
  refine wp_seq ?_
  refine wp_region_lit ?_
  refine env_put (d := 4) (v := .slice none 0 0) E rfl (by decide) rfl (wanted_none rfl _) (run_assign rfl rfl) fun a E => ?_
  refine wpList_nil ?_
  refine then_n ?_
  refine wp_seq ?_
  refine wp_region_lit ?_
  refine env_put (d := 5) (v := .slice none 0 0) E rfl (by decide) rfl (wanted_none rfl _) (run_assign rfl rfl) fun a E => ?_
  refine wpList_nil ?_
  refine then_n ?_
  refine wp_seq ?_
  refine wp_seq ?_
  refine wp_region_lit ?_
  refine env_put (d := 7) (v := .pointer (some ⟨r, 0, none⟩)) E rfl (by decide) rfl (wanted_none rfl _) (run_move rfl (E.get 2 rfl)) fun a E => ?_
  refine env_put (d := 8) (v := .bool false) E rfl (by decide) rfl (wanted_none rfl _) (run_pnil rfl (E.get 0 rfl) rfl) fun a E => ?_
  refine wpList_nil ?_
  refine then_n ?_
  refine wp_cond_false (E.get 0 rfl) ?_
  refine wp_skip ?_
  refine then_n ?_
  refine wp_seq ?_
  refine wp_seq ?_
  refine wp_region_lit ?_
  refine env_put (d := 10) (v := .pointer (some ⟨r, 0, none⟩)) E rfl (by decide) rfl (wanted_none rfl _) (run_move rfl (E.get 4 rfl)) fun a E => ?_
  refine env_put (d := 11) (v := .pointer (some ⟨r, 0, none⟩)) E rfl (by decide) rfl (wanted_none rfl _) (run_nilchk rfl (E.get 0 rfl)) fun a E => ?_
  refine env_put (d := 12) (v := .pointer (some ⟨r, 1, none⟩)) E rfl (by decide) rfl (wanted_none rfl _) (fa58_at (by decide) rfl (E.get 0 rfl)) fun a E => ?_
  refine env_put (d := 13) (v := .slice (p1) R.ms.length cp1) E rfl (by decide) rfl (wanted_none rfl _) (run_ld33 rfl (E.get 0 rfl) h.c1) fun a E => ?_
  refine env_put (d := 14) (v := .string a0) E rfl (by decide) rfl (wanted_none rfl _) (run_move rfl (E.get 9 rfl)) fun a E => ?_
  refine env_call (d := 15) (v := .bool (inB R.ms a0)) E rfl (by decide) rfl (wanted_none rfl _) (run_call2 (enters_of Try.func24 (by kernel_rfl) rfl) rfl rfl (E.get 1 rfl) (E.get 0 rfl)) (h.inC _) fun a w1 f1 E => ?_
  have h := RefAt.fr h f1 (fun _ _ h => h)
  have hs0 := hs0.fr f1 (fun _ _ h => h)
  have hf := hf.trans f1
  clear f1
  refine env_put (d := 16) (v := .bool (!(inB R.ms a0))) E rfl (by decide) rfl (wanted_none rfl _) (run_not rfl (E.get 0 rfl)) fun a E => ?_
  refine wpList_nil ?_
  refine then_n ?_
  cases hq6 : (inB R.ms a0) with
  | false =>
    rw [hq6] at E
    refine wp_cond_true (E.get 0 rfl) ?_
    refine wp_seq ?_
    refine wp_region_lit ?_
    refine env_put (d := 17) (v := .string a0) E rfl (by decide) rfl (wanted_none rfl _) (run_move rfl (E.get 12 rfl)) fun a E => ?_
    refine env_one33 (d := 18) E rfl (by decide) rfl (wanted_none rfl _) rfl (E.get 0 rfl) fun a w1 b1 eb1 hb1 f1 E => ?_
    have hO := ow_one33 (B := w.heap.size) hb1 (by have := hf.size; omega)
    clear eb1 hb1
    have h := RefAt.fr h f1 (fun _ _ h => h)
    have hs0 := hs0.fr f1 (fun _ _ h => h)
    have hf := hf.trans f1
    clear f1
    refine env_set (d := 4) (v := .slice (some ⟨b1, 0, none⟩) 1 1) E rfl (by decide) (wanted_none rfl _) (run_assign rfl (E.get 0 rfl)) fun a E => ?_
    refine wpList_nil ?_
    refine then_n ?_
    refine wp_ret ?_
    refine then_r ?_
    refine ret_tmp (t := 4) rfl E (E.get 0 rfl) ⟨_, rfl, ?_, hf⟩
    unfold thenR; rw [if_neg (by rw [hq6]; simp)]; exact hO
  | true =>
    rw [hq6] at E
    refine wp_cond_false (E.get 0 rfl) ?_
    refine wp_skip ?_
    refine then_n ?_
    refine wp_seq ?_
    refine wp_seq ?_
    refine wp_region_lit ?_
    refine env_put (d := 6) (v := .int .i64 0) E rfl (by decide) rfl (wanted_none rfl _) (run_assign rfl rfl) fun a E => ?_
    refine wpList_nil ?_
    refine then_n ?_
    refine wp_block ?_
    refine wp_loop (fun a w2 => ∃ (i : Nat) (ov : Value), Env 49 [(6, .int .i64 (i : Int)), (5, ov), (1, .string a0), (0, .pointer (some ⟨r, 0, none⟩))] a ∧ i ≤ R.ps.length ∧ oStr w2 w.heap.size ov ((((R.ps.take i).filter (fun x => decide (x.2 = a0))).map (·.1)).foldl putL []) ∧ RefAt w2 r σ R (.slice p0 R.ps.length cp0) (.slice p1 R.ms.length cp1) ∧ srcAt scells 2 w2 w.heap.size p0 R.ps ∧ Fr (fun _ => False) w w2) (fun a _ => R.ps.length - (intOf (a.eval (.tmp 6))).toNat) ?_ ?_
    · exact ⟨0, .slice none 0 0, E.of ⟨E.get 0 rfl, E.get 10 rfl, E.get 13 rfl, E.get 12 rfl, trivial⟩, Nat.zero_le _, ow_nil _, h, hs0, hf⟩
    clear E
    rintro a w2 ⟨i, ov, E, hi, hO, h, hs0, hf⟩
    have hmu : R.ps.length - (intOf (a.eval (.tmp 6))).toNat = R.ps.length - i := by rw [E.get 0 rfl]; first | (simp [intOf]; done) | (simp only [intOf]; omega)
    rw [hmu]
    clear hmu
    refine wp_seq ?_
    refine wp_seq ?_
    refine wp_region_lit ?_
    refine env_put (d := 19) (v := .int .i64 (i : Int)) E rfl (by decide) rfl (wanted_none rfl _) (run_move rfl (E.get 0 rfl)) fun a E => ?_
    refine env_put (d := 20) (v := .pointer (some ⟨r, 0, none⟩)) E rfl (by decide) rfl (wanted_none rfl _) (run_move rfl (E.get 4 rfl)) fun a E => ?_
    refine env_put (d := 21) (v := .pointer (some ⟨r, 0, none⟩)) E rfl (by decide) rfl (wanted_none rfl _) (run_nilchk rfl (E.get 0 rfl)) fun a E => ?_
    refine env_put (d := 22) (v := .pointer (some ⟨r, 0, none⟩)) E rfl (by decide) rfl (wanted_none rfl _) (fa58_at (by decide) rfl (E.get 0 rfl)) fun a E => ?_
    refine env_put (d := 23) (v := .slice (p0) R.ps.length cp0) E rfl (by decide) rfl (wanted_none rfl _) (run_ld56 rfl (E.get 0 rfl) h.c0) fun a E => ?_
    refine env_put (d := 24) (v := .int .i64 (R.ps.length : Int)) E rfl (by decide) rfl (wanted_none rfl _) (run_len56 rfl (E.get 0 rfl)) fun a E => ?_
    refine env_put (d := 25) (v := .bool (decide ((i : Int) < (R.ps.length : Int)))) E rfl (by decide) rfl (wanted_none rfl _) (run_ilss (E.get 5 rfl) (E.get 0 rfl) Try.underlying3 rfl) fun a E => ?_
    refine wpList_nil ?_
    refine then_n ?_
    cases hq8 : (decide ((i : Int) < (R.ps.length : Int))) with
    | false =>
      rw [hq8] at E
      have hie : i = R.ps.length := by have := of_decide_eq_false hq8; omega
      rw [hie, List.take_length] at hO
      refine wp_cond_false (E.get 0 rfl) ?_
      refine wp_exit ?_
      refine then_e ?_
      refine then_e ?_
      refine blk_e ?_
      refine then_n ?_
      refine wp_seq ?_
      refine wp_region_lit ?_
      refine env_put (d := 48) (v := ov) E rfl (by decide) rfl (wanted_none rfl _) (run_move rfl (E.get 8 rfl)) fun a E => ?_
      refine env_put (d := 4) (v := ov) E rfl (by decide) rfl (wanted_none rfl _) (run_assign rfl (E.get 0 rfl)) fun a E => ?_
      refine wpList_nil ?_
      refine then_n ?_
      refine wp_ret ?_
      refine ret_tmp (t := 4) rfl E (E.get 0 rfl) ⟨_, rfl, ?_, hf⟩
      unfold thenR; rw [if_pos hq6]; exact hO
    | true =>
      rw [hq8] at E
      have hlt : i < R.ps.length := by have := of_decide_eq_true hq8; omega
      obtain ⟨y, hy⟩ : ∃ y, R.ps[i]? = some y := ⟨_, List.getElem?_eq_getElem hlt⟩
      obtain ⟨g, off, hpe, hgl, hrow⟩ := hs0.at hlt
      replace hrow := hrow i y hy
      refine wp_cond_true (E.get 0 rfl) ?_
      refine wp_skip ?_
      refine then_n ?_
      refine wp_seq ?_
      refine wp_block ?_
      refine wp_seq ?_
      refine wp_region_lit ?_
      refine env_put (d := 28) (v := .pointer (some ⟨r, 0, none⟩)) E rfl (by decide) rfl (wanted_none rfl _) (run_move rfl (E.get 10 rfl)) fun a E => ?_
      refine env_put (d := 29) (v := .pointer (some ⟨r, 0, none⟩)) E rfl (by decide) rfl (wanted_none rfl _) (run_nilchk rfl (E.get 0 rfl)) fun a E => ?_
      refine env_put (d := 30) (v := .pointer (some ⟨r, 0, none⟩)) E rfl (by decide) rfl (wanted_none rfl _) (fa58_at (by decide) rfl (E.get 0 rfl)) fun a E => ?_
      refine env_put (d := 31) (v := .slice (p0) R.ps.length cp0) E rfl (by decide) rfl (wanted_none rfl _) (run_ld56 rfl (E.get 0 rfl) h.c0) fun a E => ?_
      refine env_put (d := 32) (v := .int .i64 (i : Int)) E rfl (by decide) rfl (wanted_none rfl _) (run_move rfl (E.get 11 rfl)) fun a E => ?_
      refine env_put (d := 33) (v := .pointer (some ⟨g, (off + i * 2), none⟩)) E rfl (by decide) rfl (wanted_none rfl _) (run_index56 (i := i) rfl ((E.get 1 rfl).trans (by rw [hpe])) (E.get 0 rfl) hlt) fun a E => ?_
      refine env_put (d := 34) (v := .pointer (some ⟨g, ((off + i * 2) + 1), none⟩)) E rfl (by decide) rfl (wanted_none rfl _) (run_index70 (i := 1) rfl (E.get 0 rfl) rfl (by decide)) fun a E => ?_
      refine env_put (d := 35) (v := .string y.2) E rfl (by decide) rfl (wanted_none rfl _) (run_lds rfl (E.get 0 rfl) (hrow 1 _ rfl)) fun a E => ?_
      refine env_put (d := 36) (v := .string a0) E rfl (by decide) rfl (wanted_none rfl _) (run_move rfl (E.get 17 rfl)) fun a E => ?_
      refine env_put (d := 37) (v := .bool (decide (y.2 = a0))) E rfl (by decide) rfl (wanted_none rfl _) (run_seql (E.get 1 rfl) (E.get 0 rfl) rfl) fun a E => ?_
      refine wpList_nil ?_
      refine then_n ?_
      cases hq9 : (decide (y.2 = a0)) with
      | false =>
        rw [hq9] at E
        refine wp_cond_false (E.get 0 rfl) ?_
        refine wp_skip ?_
        refine blk_n ?_
        refine then_n ?_
        refine wp_region_lit ?_
        refine env_put (d := 26) (v := .int .i64 (i : Int)) E rfl (by decide) rfl (wanted_none rfl _) (run_move rfl (E.get 17 rfl)) fun a E => ?_
        refine env_put (d := 27) (v := .int .i64 ((i : Int) + 1)) E rfl (by decide) rfl (wanted_none rfl _) (run_iadd (E.get 0 rfl) rfl (by omega) (by omega) rfl) fun a E => ?_
        refine env_set (d := 6) (v := .int .i64 ((i : Int) + 1)) E rfl (by decide) (wanted_none rfl _) (run_assign rfl (E.get 0 rfl)) fun a E => ?_
        refine wpList_nil ?_
        refine then_n ?_
        refine ⟨⟨i + 1, ov, E.of ⟨E.get 0 rfl, E.get 20 rfl, E.get 21 rfl, E.get 22 rfl, trivial⟩, hlt, ?_, h, hs0, hf⟩, ?_⟩
        · rw [List.take_add_one, hy, List.filter_append]
          simp only [Option.toList_some, List.filter_cons, hq9, Bool.false_eq_true, if_false, List.filter_nil, List.append_nil]
          exact hO
        · rw [E.get 0 rfl]; simp only [intOf]; omega
      | true =>
        rw [hq9] at E
        obtain ⟨po, co, hvo, hlo, _, hso, hzo⟩ := hO.src strC_len
        subst hvo
        have hol : ((((R.ps.take i).filter (fun x => decide (x.2 = a0))).map (·.1)).foldl putL []).length ≤ 100000 := by have h1 := putL_fold ((((R.ps.take i).filter (fun x => decide (x.2 = a0))).map (·.1))) []; have h2 := List.length_filter_le (fun x : ByteArray × ByteArray => decide (x.2 = a0)) (R.ps.take i); rw [List.length_take] at h2; rw [List.length_map] at h1; simp only [List.length_nil] at h1; omega
        refine wp_cond_true (E.get 0 rfl) ?_
        refine wp_region_lit ?_
        refine env_put (d := 38) (v := .slice (po) ((((R.ps.take i).filter (fun x => decide (x.2 = a0))).map (·.1)).foldl putL []).length co) E rfl (by decide) rfl (wanted_none rfl _) (run_move rfl (E.get 18 rfl)) fun a E => ?_
        refine env_put (d := 39) (v := .pointer (some ⟨r, 0, none⟩)) E rfl (by decide) rfl (wanted_none rfl _) (run_move rfl (E.get 21 rfl)) fun a E => ?_
        refine env_put (d := 40) (v := .pointer (some ⟨r, 0, none⟩)) E rfl (by decide) rfl (wanted_none rfl _) (run_nilchk rfl (E.get 0 rfl)) fun a E => ?_
        refine env_put (d := 41) (v := .pointer (some ⟨r, 0, none⟩)) E rfl (by decide) rfl (wanted_none rfl _) (fa58_at (by decide) rfl (E.get 0 rfl)) fun a E => ?_
        refine env_put (d := 42) (v := .slice (p0) R.ps.length cp0) E rfl (by decide) rfl (wanted_none rfl _) (run_ld56 rfl (E.get 0 rfl) h.c0) fun a E => ?_
        refine env_put (d := 43) (v := .int .i64 (i : Int)) E rfl (by decide) rfl (wanted_none rfl _) (run_move rfl (E.get 22 rfl)) fun a E => ?_
        refine env_put (d := 44) (v := .pointer (some ⟨g, (off + i * 2), none⟩)) E rfl (by decide) rfl (wanted_none rfl _) (run_index56 (i := i) rfl ((E.get 1 rfl).trans (by rw [hpe])) (E.get 0 rfl) hlt) fun a E => ?_
        refine env_put (d := 45) (v := .pointer (some ⟨g, ((off + i * 2) + 0), none⟩)) E rfl (by decide) rfl (wanted_none rfl _) (run_index70 (i := 0) rfl (E.get 0 rfl) rfl (by decide)) fun a E => ?_
        refine env_put (d := 46) (v := .string y.1) E rfl (by decide) rfl (wanted_none rfl _) (run_lds rfl (E.get 0 rfl) (hrow 0 _ rfl)) fun a E => ?_
        refine env_callv (d := 47) (R := fun u w8 => oStr w8 w2.heap.size u (putL ((((R.ps.take i).filter (fun x => decide (x.2 = a0))).map (·.1)).foldl putL []) y.1) ∧ Fr (fun _ => False) w2 w8) E rfl (by decide) rfl (wanted_none rfl _) (run_call2 (enters_of Try.func38 (by kernel_rfl) rfl) rfl rfl (E.get 8 rfl) (E.get 0 rfl)) ((rput_calls (hso.mono (G' := w2.heap.size) (Nat.le_refl _)) hzo hlo (Nat.le_refl _) hol _).mono fun e w8 ⟨v, h1, h2⟩ => ⟨v, h1, h2⟩) fun a w1 rv10 hR E => ?_
        obtain ⟨hO2, f1⟩ := hR
        replace hO := hO2.base (C := w.heap.size) hf.size
        clear hO2
        have h := RefAt.fr h f1 (fun _ _ h => h)
        have hs0 := hs0.fr f1 (fun _ _ h => h)
        have hrow := fun j u hu => f1.cell (hrow j u hu) id
        have hso := hso.fr f1 (fun _ _ h => h)
        have hf := hf.trans f1
        clear f1
        refine env_set (d := 5) (v := rv10) E rfl (by decide) (wanted_none rfl _) (run_assign rfl (E.get 0 rfl)) fun a E => ?_
        refine wpList_nil ?_
        refine blk_n ?_
        refine then_n ?_
        refine wp_region_lit ?_
        refine env_put (d := 26) (v := .int .i64 (i : Int)) E rfl (by decide) rfl (wanted_none rfl _) (run_move rfl (E.get 28 rfl)) fun a E => ?_
        refine env_put (d := 27) (v := .int .i64 ((i : Int) + 1)) E rfl (by decide) rfl (wanted_none rfl _) (run_iadd (E.get 0 rfl) rfl (by omega) (by omega) rfl) fun a E => ?_
        refine env_set (d := 6) (v := .int .i64 ((i : Int) + 1)) E rfl (by decide) (wanted_none rfl _) (run_assign rfl (E.get 0 rfl)) fun a E => ?_
        refine wpList_nil ?_
        refine then_n ?_
        refine ⟨⟨i + 1, rv10, E.of ⟨E.get 0 rfl, E.get 3 rfl, E.get 31 rfl, E.get 32 rfl, trivial⟩, hlt, ?_, h, hs0, hf⟩, ?_⟩
        · rw [List.take_add_one, hy, List.filter_append]
          simp only [Option.toList_some, List.filter_cons, hq9, if_true, List.filter_nil, List.map_append, List.map_cons, List.map_nil, List.foldl_append, List.foldl_cons, List.foldl_nil]
          exact hO
        · rw [E.get 0 rfl]; simp only [intOf]; omega
set_option maxRecDepth 100000 in
set_option maxHeartbeats 4000000 in
theorem rgone_calls {w : World} {r : Nat} {σ : Nat → Prop} {R : RefS} {pv mv : Value} (h : RefAt w r σ R pv mv) (hb2 : R.ps.length ≤ 100000) (a0 : ByteArray) : Calls Try.prog 22 #[.pointer (some ⟨r, 0, none⟩), .string a0] w fun e w' => e = .returned (.bool (((nowR R a0).length : Int) == 0)) ∧ Fr (fun _ => False) w w' := by
  refine wp_start2 Try.func22 rfl rfl (n := 14) (by decide) fun a E => ?_
  have hf : Fr (fun _ => False) w w := Fr.refl _ _
  refine wp_seq ?_
  refine wp_region_lit ?_
  refine env_put (d := 4) (v := .bool false) E rfl (by decide) rfl (wanted_none rfl _) (run_assign rfl rfl) fun a E => ?_
  refine wpList_nil ?_
  refine then_n ?_
  refine wp_seq ?_
  refine wp_region_lit ?_
  refine env_put (d := 5) (v := .pointer (some ⟨r, 0, none⟩)) E rfl (by decide) rfl (wanted_none rfl _) (run_move rfl (E.get 1 rfl)) fun a E => ?_
  refine env_put (d := 6) (v := .bool true) E rfl (by decide) rfl (wanted_none rfl _) (run_pnne rfl (E.get 0 rfl) rfl) fun a E => ?_
  refine env_put (d := 7) (v := .bool true) E rfl (by decide) rfl (wanted_none rfl _) (run_move rfl (E.get 0 rfl)) fun a E => ?_
  refine env_put (d := 8) (v := .pointer (some ⟨r, 0, none⟩)) E rfl (by decide) rfl (w_yes (g := 2) (s := 7) E rfl rfl (by decide) (E.get 0 rfl)) (run_move rfl (E.get 4 rfl)) fun a E => ?_
  refine env_put (d := 9) (v := .string a0) E rfl (by decide) rfl (w_yes (g := 2) (s := 7) E rfl rfl (by decide) (E.get 1 rfl)) (run_move rfl (E.get 6 rfl)) fun a E => ?_
  refine env_callv (d := 10) (R := fun u w8 => oStr w8 w.heap.size u (nowR R a0) ∧ Fr (fun _ => False) w w8) E rfl (by decide) rfl (w_yes (g := 2) (s := 7) E rfl rfl (by decide) (E.get 2 rfl)) (run_call2 (enters_of Try.func18 (by kernel_rfl) rfl) rfl rfl (E.get 1 rfl) (E.get 0 rfl)) ((rnow_calls h hb2 _).mono fun e w8 ⟨v, h1, h2⟩ => ⟨v, h1, h2⟩) fun a w1 rv hR E => ?_
  obtain ⟨hO, f1⟩ := hR
  obtain ⟨po, co, hvo, _⟩ := hO.src strC_len
  subst hvo
  have hf := hf.trans f1
  clear f1
  refine env_put (d := 11) (v := .int .i64 ((nowR R a0).length : Int)) E rfl (by decide) rfl (w_yes (g := 2) (s := 7) E rfl rfl (by decide) (E.get 3 rfl)) (run_len33 rfl (E.get 0 rfl)) fun a E => ?_
  refine env_put (d := 12) (v := .bool (((nowR R a0).length : Int) == 0)) E rfl (by decide) rfl (w_yes (g := 2) (s := 7) E rfl rfl (by decide) (E.get 4 rfl)) (run_ieql (E.get 0 rfl) rfl Try.underlying3 rfl) fun a E => ?_
  refine env_put (d := 13) (v := .bool (((nowR R a0).length : Int) == 0)) E rfl (by decide) rfl (wanted_none rfl _) (run_pick_t rfl (E.get 5 rfl) (E.get 0 rfl)) fun a E => ?_
  refine env_set (d := 4) (v := .bool (((nowR R a0).length : Int) == 0)) E rfl (by decide) (wanted_none rfl _) (run_assign rfl (E.get 0 rfl)) fun a E => ?_
  refine wpList_nil ?_
  refine then_n ?_
  refine wp_ret ?_
  exact ret_tmp (t := 4) rfl E (E.get 0 rfl) ⟨rfl, hf⟩
end Go.Proofs.Ytcolfgnjmnapkaa
