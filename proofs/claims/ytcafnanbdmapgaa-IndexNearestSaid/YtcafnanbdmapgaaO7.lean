/- The laws of the index: IndexNearest. -/
import Derived.Test.YtcafnanbdmapgaaO5
set_option linter.unusedVariables false
set_option linter.unusedSimpArgs false
namespace Go.Proofs.Ytcafnanbdmapgaa
open Go.RowKit Go.Pl

theorem NearR.two {m : ByteArray → Option Bx} {pt : Pt} {n n' : Int} {R R' : List ByteArray} (h : NearR m pt n R) (k : NearR m pt n' R') : ∃ K : List En, K.Pairwise (ns pt) ∧ (∀ s b, (s, b) ∈ K ↔ m s = some b) ∧ R = (K.take n.toNat).map (·.1) ∧ R' = (K.take n'.toNat).map (·.1) := by
  obtain ⟨L, h1, rfl⟩ := h
  obtain ⟨L', k1, rfl⟩ := k
  have e : srtN pt L = srtN pt L' := srt_unique (fun _ _ => ns_asymm) (srtN_srt h1.1) (srtN_srt k1.1) fun x => by
    rw [(srtN_perm pt L).mem_iff, (srtN_perm pt L').mem_iff]
    exact (h1.2 x.1 x.2).trans (k1.2 x.1 x.2).symm
  exact ⟨srtN pt L, srtN_srt h1.1, fun s b => (srtN_perm pt L).mem_iff.trans (h1.2 s b), rfl, by rw [e]⟩
theorem near_get {K : List En} {n i : Nat} {R : List ByteArray} {s : ByteArray} (hR : R = (K.take n).map (·.1)) (hs : R[i]? = some s) : ∃ c, K[i]? = some (s, c) := by
  subst hR
  rw [List.getElem?_map] at hs
  cases h : (K.take n)[i]? with
  | none => rw [h] at hs; cases hs
  | some x =>
    rw [h] at hs
    rw [List.getElem?_take] at h
    split at h
    · obtain ⟨s', c⟩ := x
      simp at hs; subst hs
      exact ⟨c, h⟩
    · cases h
theorem near_ns {K : List En} {pt : Pt} {i j : Nat} {d e : En} (hK : K.Pairwise (ns pt)) (h1 : K[i]? = some d) (h2 : K[j]? = some e) (hij : i < j) : ns pt d e := by
  obtain ⟨a1, a2⟩ := List.getElem?_eq_some_iff.1 h1
  obtain ⟨b1, b2⟩ := List.getElem?_eq_some_iff.1 h2
  have := List.pairwise_iff_getElem.1 hK i j a1 b1 hij
  rwa [a2, b2] at this
theorem near_out {K : List En} {pt : Pt} {n : Nat} {R : List ByteArray} {s : ByteArray} {c : Bx} (hK : K.Pairwise (ns pt)) (hR : R = (K.take n).map (·.1)) (hm : (s, c) ∈ K) (hn : s ∉ R) : R.length = n ∧ ∀ i d, i < R.length → K[i]? = some d → ns pt d (s, c) := by
  obtain ⟨j, hj, e⟩ := List.mem_iff_getElem.1 hm
  have hj2 : K[j]? = some (s, c) := by rw [List.getElem?_eq_getElem hj, e]
  have hnj : n ≤ j := by
    apply Classical.byContradiction
    intro h
    apply hn
    rw [hR]
    exact List.mem_map.2 ⟨(s, c), List.mem_of_getElem? ((List.getElem?_take_of_lt (show j < n by omega)).trans hj2), rfl⟩
  have hl : R.length = n := by rw [hR, List.length_map, List.length_take]; omega
  exact ⟨hl, fun i d hi hd => near_ns hK hd hj2 (by omega)⟩
theorem Rw.cap {w : World} {T : Nat → Prop} {p : Option Addr} {n cap : Nat} {R : List ByteArray} (h : Rw w T (.slice p n cap) R) : R.length ≤ cap := by
  obtain ⟨_, C, h2, _⟩ := h
  obtain ⟨p', cap', h3, h4, _⟩ := h2.src strC_len
  cases h3; exact h4
theorem same_take {w : World} {T : Nat → Prop} {p q : Option Addr} {cap cap2 : Nat} {R R' : List ByteArray} (h : Rw w T (.slice p R.length cap) R) (k : Rw w T (.slice q R'.length cap2) R') (i : Nat) : Calls Try.prog 18 #[.slice p R.length cap, .slice q (R'.take i).length cap2] w fun e w' => e = .returned (.bool (decide (R = R'.take i))) ∧ Fr (fun _ => False) w w' := by
  obtain ⟨p', c', h0, h1, h2⟩ := h.src
  obtain ⟨q', c2', k0, k1, _⟩ := k.src
  cases h0; cases k0
  exact same_calls h1 (k1.take i) (by omega)

set_option maxRecDepth 100000 in
set_option maxHeartbeats 16000000 in
theorem nearest_calls {w : World} {cap : Nat} {p : Option Addr} {l : List Wo} (hs : srcAt opL 6 w w.heap.size p l) (hb : l.length ≤ 9223372036854775807) (pt : Pt) (n0 m0 : Int) : Calls Try.prog 5 #[.slice p l.length cap, .agg (ptC pt), .int .i64 n0, .int .i64 m0] w fun e w' => e = .returned (.bool true) ∧ Fr (fun _ => False) w w' := by
  refine wp_start4 Try.func5 rfl rfl (n := 182) (by decide) fun a E => ?_
  have hf : Fr (fun _ => False) w w := Fr.refl _ _
  refine wp_seq ?_
  refine wp_region_lit ?_
  have hTl := (fun k hk => hk.elim : ∀ k, (fun _ : Nat => False) k → k < w.heap.size)
  refine env_box24 (d := 5) E rfl (by decide) rfl (wanted_none rfl _) rfl (E.get 1 rfl) fun a w1 b38 eb38 hb38 f1 E => ?_
  have hkb38 : Kw w1 (fun _ => False) b38 (ptC pt) 24 := ⟨hb38, fun ht => by have := hTl b38 ht; omega⟩
  have hs := hs.fr f1 (fun _ _ h => h)
  have hf := hf.trans f1
  clear f1
  clear hb38 hTl eb38
  refine env_put (d := 8) (v := .bool false) E rfl (by decide) rfl (wanted_none rfl _) (run_assign rfl rfl) fun a E => ?_
  refine wpList_nil ?_
  refine then_n ?_
  refine wp_seq ?_
  refine wp_region_lit ?_
  refine env_call (d := 25) (v := .bool true) E rfl (by decide) rfl (wanted_none rfl _) (run_call0 (enters_of Try.func9 (by kernel_rfl) rfl) rfl rfl) (head_calls _) fun a w1 f1 E => ?_
  have hs := hs.fr f1 (fun _ _ h => h)
  have hkb38 := hkb38.fr f1
  have hf := hf.trans f1
  clear f1
  refine env_put (d := 9) (v := .bool true) E rfl (by decide) rfl (wanted_none rfl _) (run_assign rfl (E.get 0 rfl)) fun a E => ?_
  refine wpList_nil ?_
  refine then_n ?_
  refine wp_seq ?_
  refine wp_seq ?_
  refine wp_region_lit ?_
  refine env_put (d := 26) (v := .slice (p) l.length cap) E rfl (by decide) rfl (wanted_none rfl _) (run_move rfl (E.get 4 rfl)) fun a E => ?_
  refine env_call (d := 27) (v := .bool (shB l 80)) E rfl (by decide) rfl (wanted_none rfl _) (run_call2 (enters_of Try.func10 (by kernel_rfl) rfl) rfl rfl (E.get 0 rfl) rfl) (short_calls hs hb 80) fun a w1 f1 E => ?_
  have hs := hs.fr f1 (fun _ _ h => h)
  have hkb38 := hkb38.fr f1
  have hf := hf.trans f1
  clear f1
  refine env_put (d := 28) (v := .bool (!(shB l 80))) E rfl (by decide) rfl (wanted_none rfl _) (run_not rfl (E.get 0 rfl)) fun a E => ?_
  refine env_put (d := 29) (v := .bool (!(shB l 80))) E rfl (by decide) rfl (wanted_none rfl _) (run_move rfl (E.get 0 rfl)) fun a E => ?_
  cases hq39 : (shB l 80) with
  | false =>
    rw [hq39] at E
    refine env_skip (d := 30) (g := 3) (s := 29) E rfl (by decide) rfl rfl rfl (by decide) (E.get 0 rfl) fun a E => ?_
    refine env_skip (d := 31) (g := 3) (s := 29) E rfl (by decide) rfl rfl rfl (by decide) (E.get 1 rfl) fun a E => ?_
    refine env_skip (d := 32) (g := 3) (s := 29) E rfl (by decide) rfl rfl rfl (by decide) (E.get 2 rfl) fun a E => ?_
    refine env_put (d := 33) (v := .bool true) E rfl (by decide) rfl (wanted_none rfl _) (run_pick_t rfl (E.get 3 rfl) rfl) fun a E => ?_
    refine wpList_nil ?_
    refine then_n ?_
    refine wp_cond_true (E.get 0 rfl) ?_
    refine wp_seq ?_
    refine wp_region_lit ?_
    refine env_put (d := 34) (v := .bool true) E rfl (by decide) rfl (wanted_none rfl _) (run_move rfl (E.get 8 rfl)) fun a E => ?_
    refine env_set (d := 8) (v := .bool true) E rfl (by decide) (wanted_none rfl _) (run_assign rfl (E.get 0 rfl)) fun a E => ?_
    refine wpList_nil ?_
    refine then_n ?_
    refine wp_ret ?_
    refine then_r ?_
    exact ret_tmp (t := 8) rfl E (E.get 0 rfl) ⟨rfl, hf⟩
  | true =>
    rw [hq39] at E
    have hlen := shB.len hq39
    have hN9 : l.length ≤ 100000 := by omega
    refine env_put (d := 30) (v := .agg (ptC pt)) E rfl (by decide) rfl (w_yes (g := 3) (s := 29) E rfl rfl (by decide) (E.get 0 rfl)) (run_ld24 rfl (E.get 7 rfl) (rng2 (p := pt) hkb38.1 0 rfl rfl)) fun a E => ?_
    refine env_call (d := 31) (v := .bool (decide (isP pt))) E rfl (by decide) rfl (w_yes (g := 3) (s := 29) E rfl rfl (by decide) (E.get 1 rfl)) (run_call1 (enters_of Try.func27 (by kernel_rfl) rfl) rfl rfl (E.get 0 rfl)) (point_calls _ _) fun a w1 f1 E => ?_
    have hs := hs.fr f1 (fun _ _ h => h)
    have hkb38 := hkb38.fr f1
    have hf := hf.trans f1
    clear f1
    refine env_put (d := 32) (v := .bool (!(decide (isP pt)))) E rfl (by decide) rfl (w_yes (g := 3) (s := 29) E rfl rfl (by decide) (E.get 2 rfl)) (run_not rfl (E.get 0 rfl)) fun a E => ?_
    refine env_put (d := 33) (v := .bool (!(decide (isP pt)))) E rfl (by decide) rfl (wanted_none rfl _) (run_pick_f rfl (E.get 3 rfl) (E.get 0 rfl)) fun a E => ?_
    refine wpList_nil ?_
    refine then_n ?_
    cases hq40 : (decide (isP pt)) with
    | false =>
      rw [hq40] at E
      refine wp_cond_true (E.get 0 rfl) ?_
      refine wp_seq ?_
      refine wp_region_lit ?_
      refine env_put (d := 34) (v := .bool true) E rfl (by decide) rfl (wanted_none rfl _) (run_move rfl (E.get 8 rfl)) fun a E => ?_
      refine env_set (d := 8) (v := .bool true) E rfl (by decide) (wanted_none rfl _) (run_assign rfl (E.get 0 rfl)) fun a E => ?_
      refine wpList_nil ?_
      refine then_n ?_
      refine wp_ret ?_
      refine then_r ?_
      exact ret_tmp (t := 8) rfl E (E.get 0 rfl) ⟨rfl, hf⟩
    | true =>
      rw [hq40] at E
      refine wp_cond_false (E.get 0 rfl) ?_
      refine wp_skip ?_
      refine then_n ?_
      refine wp_seq ?_
      refine wp_region_lit ?_
      refine env_put (d := 35) (v := .slice (p) l.length cap) E rfl (by decide) rfl (wanted_none rfl _) (run_move rfl (E.get 12 rfl)) fun a E => ?_
      have hz0 := hf.size
      refine env_callv (d := 36) (R := fun u w8 => ∃ q T, u = .pointer (some ⟨q, 0, none⟩) ∧ Ix w8 w1.heap.size q l.length T (mOf l) ∧ Fr (fun _ => False) w1 w8) E rfl (by decide) rfl (wanted_none rfl _) (run_call1 (enters_of Try.func23 (by kernel_rfl) rfl) rfl rfl (E.get 0 rfl)) ((built_calls (hs.mono hz0) hq39).mono fun e w8 ⟨q, T, h1, h2, h3⟩ => ⟨_, h1, q, T, rfl, h2, h3⟩) fun a wb1 u9 hR E => ?_
      obtain ⟨q, T, rfl, hX, f1⟩ := hR
      have ht : TT w1 (fun _ => False) T := fun k hk => .inr (hX.lt k hk).1
      have hs := hs.fr f1 (fun _ _ h => h)
      have hkb38 := hkb38.q (f1.mono fun _ _ h => h) ht
      have hf := hf.trans f1
      have hX := hX.base hz0
      clear f1 ht hz0
      have hmi : ∀ s c, mOf l s = some c → s.size ≤ maxLen := mOf_size hq39
      obtain ⟨m, hm⟩ : ∃ m, m = mOf l := ⟨_, rfl⟩
      rw [← hm] at hX hmi
      have hok := hX.ok
      refine env_put (d := 10) (v := .pointer (some ⟨q, 0, none⟩)) E rfl (by decide) rfl (wanted_none rfl _) (run_assign rfl (E.get 0 rfl)) fun a E => ?_
      refine wpList_nil ?_
      refine then_n ?_
      refine wp_seq ?_
      have fd := (Fr.refl (fun _ => False) wb1).drew
      refine wp_region_invx (G := Value × Value) (undef, undef) (n := 182) (base := [(10, .pointer (some ⟨q, 0, none⟩)), (36, .pointer (some ⟨q, 0, none⟩)), (35, .slice (p) l.length cap), (33, .bool false), (32, .bool false), (31, .bool true), (30, .agg (ptC pt)), (29, .bool false), (28, .bool false), (27, .bool true), (26, .slice (p) l.length cap), (9, .bool true), (25, .bool true), (8, .bool false), (5, .pointer (some ⟨b38, 0, none⟩)), (0, .slice (p) l.length cap), (1, .agg (ptC pt)), (2, .int .i64 n0), (3, .int .i64 m0)]) (U := []) (T := fun γ => [some (37, .pointer (some ⟨q, 0, none⟩)), some (38, .agg (ptC pt)), some (39, .int .i64 n0), some (40, .int .i64 m0), some (41, .int .i64 (min n0 m0)), some (42, γ.1), some (43, .pointer (some ⟨q, 0, none⟩)), some (44, .agg (ptC pt)), some (45, .int .i64 n0), some (46, .int .i64 m0), some (47, .int .i64 (max n0 m0)), some (48, γ.2), some (11, γ.1), some (12, γ.2)]) (M := fun γ ls9 wm => Fr (fun _ => False) w wm ∧ srcAt opL 6 wm w.heap.size p l ∧ ∃ T5, Ix wm w.heap.size q l.length T5 m ∧ (Kw wm T5 b38 (ptC pt) 24) ∧ (ls9 5 = true → ∃ R, NearS m pt (min n0 m0) R ∧ Rw wm T5 γ.1 R) ∧ (ls9 11 = true → ∃ R, NearS m pt (max n0 m0) R ∧ Rw wm T5 γ.2 R)) (by kernel_rfl) (by kernel_rfl) (fun _ => by kernel_rfl) (E.of ⟨E.get 0 rfl, E.get 1 rfl, E.get 2 rfl, E.get 3 rfl, E.get 4 rfl, E.get 5 rfl, E.get 6 rfl, E.get 7 rfl, E.get 8 rfl, E.get 9 rfl, E.get 10 rfl, E.get 11 rfl, E.get 12 rfl, E.get 13 rfl, E.get 14 rfl, E.get 15 rfl, E.get 16 rfl, E.get 17 rfl, E.get 18 rfl, trivial⟩) (fun x hx => by cases hx) ⟨hf.drew, hs.fr fd (fun _ _ h => h), T, hX.fr fd (fun _ _ h => h), hkb38.fr fd, fun e => absurd e Bool.false_ne_true, fun e => absurd e Bool.false_ne_true⟩ ?_ ?_
      · intro j9 o9 γ ls9 a w5 ho hl E D DL DL2 hB hM
        obtain ⟨m1, m2, T5, hX5, k0, r0, r1⟩ := hM
        match j9, ho, hl, D, DL, hB with
        | 0, ho, hl, D, DL, hB =>
          obtain rfl := Option.some.inj ho
          exact ⟨fun _ => valx rfl (run_move rfl (E.get 0 rfl)) rfl ⟨m1, m2, T5, hX5, k0, r0, r1⟩, fun h => by rw [wanted_none rfl] at h; cases h⟩
        | 1, ho, hl, D, DL, hB =>
          obtain rfl := Option.some.inj ho
          exact ⟨fun _ => valx rfl (run_ld24 rfl (E.get 14 rfl) (rng2 (p := pt) k0.1 0 rfl rfl)) rfl ⟨m1, m2, T5, hX5, k0, r0, r1⟩, fun h => by rw [wanted_none rfl] at h; cases h⟩
        | 2, ho, hl, D, DL, hB =>
          obtain rfl := Option.some.inj ho
          exact ⟨fun _ => valx rfl (run_move rfl (E.get 17 rfl)) rfl ⟨m1, m2, T5, hX5, k0, r0, r1⟩, fun h => by rw [wanted_none rfl] at h; cases h⟩
        | 3, ho, hl, D, DL, hB =>
          obtain rfl := Option.some.inj ho
          exact ⟨fun _ => valx rfl (run_move rfl (E.get 18 rfl)) rfl ⟨m1, m2, T5, hX5, k0, r0, r1⟩, fun h => by rw [wanted_none rfl] at h; cases h⟩
        | 4, ho, hl, D, DL, hB =>
          obtain rfl := Option.some.inj ho
          exact ⟨fun _ => valx rfl (run_min rfl (D 2 _ rfl rfl) (D 3 _ rfl rfl)) rfl ⟨m1, m2, T5, hX5, k0, r0, r1⟩, fun h => by rw [wanted_none rfl] at h; cases h⟩
        | 5, ho, hl, D, DL, hB =>
          obtain rfl := Option.some.inj ho
          refine ⟨fun _ => callxw (run_call3 (enters_of Try.func21 (by kernel_rfl) rfl) rfl rfl (D 0 _ rfl rfl) (D 1 _ rfl rfl) (D 4 _ rfl rfl)) (near_q hX5 hN9 pt (min n0 m0)) rfl fun v9 w9 f9 => ?_, fun h => by rw [wanted_none rfl] at h; cases h⟩
          obtain ⟨R9, T9, hi9, ⟨hX9, f2, ht⟩, hr9⟩ := f9
          exact ⟨(v9, γ.2), rfl, (fun j hj => match j, hj with | 0, _ => rfl | 1, _ => rfl | 2, _ => rfl | 3, _ => rfl | 4, _ => rfl | 5, hj => absurd (hl.symm.trans hj) (by decide) | 6, _ => rfl | 7, _ => rfl | 8, _ => rfl | 9, _ => rfl | 10, _ => rfl | 11, _ => rfl | 12, hj => absurd (hl.symm.trans (DL2 12 5 rfl hj)) (by decide) | 13, _ => rfl | j9 + 14, _ => rfl), ⟨m1.trans' f2 (fun r hr e => by have := (hX5.lt r e).1; omega), m2.fr f2 (fun r hr e => by have := (hX5.lt r e).1; omega), T9, hX9, k0.q f2 ht, fun _ => ⟨R9, hi9, hr9⟩, fun h => (r1 h).elim fun R h => ⟨R, h.1, h.2.q f2 ht⟩⟩⟩
        | 6, ho, hl, D, DL, hB =>
          obtain rfl := Option.some.inj ho
          exact ⟨fun _ => valx rfl (run_move rfl (E.get 0 rfl)) rfl ⟨m1, m2, T5, hX5, k0, r0, r1⟩, fun h => by rw [wanted_none rfl] at h; cases h⟩
        | 7, ho, hl, D, DL, hB =>
          obtain rfl := Option.some.inj ho
          exact ⟨fun _ => valx rfl (run_ld24 rfl (E.get 14 rfl) (rng2 (p := pt) k0.1 0 rfl rfl)) rfl ⟨m1, m2, T5, hX5, k0, r0, r1⟩, fun h => by rw [wanted_none rfl] at h; cases h⟩
        | 8, ho, hl, D, DL, hB =>
          obtain rfl := Option.some.inj ho
          exact ⟨fun _ => valx rfl (run_move rfl (E.get 17 rfl)) rfl ⟨m1, m2, T5, hX5, k0, r0, r1⟩, fun h => by rw [wanted_none rfl] at h; cases h⟩
        | 9, ho, hl, D, DL, hB =>
          obtain rfl := Option.some.inj ho
          exact ⟨fun _ => valx rfl (run_move rfl (E.get 18 rfl)) rfl ⟨m1, m2, T5, hX5, k0, r0, r1⟩, fun h => by rw [wanted_none rfl] at h; cases h⟩
        | 10, ho, hl, D, DL, hB =>
          obtain rfl := Option.some.inj ho
          exact ⟨fun _ => valx rfl (run_max rfl (D 8 _ rfl rfl) (D 9 _ rfl rfl)) rfl ⟨m1, m2, T5, hX5, k0, r0, r1⟩, fun h => by rw [wanted_none rfl] at h; cases h⟩
        | 11, ho, hl, D, DL, hB =>
          obtain rfl := Option.some.inj ho
          refine ⟨fun _ => callxw (run_call3 (enters_of Try.func21 (by kernel_rfl) rfl) rfl rfl (D 6 _ rfl rfl) (D 7 _ rfl rfl) (D 10 _ rfl rfl)) (near_q hX5 hN9 pt (max n0 m0)) rfl fun v9 w9 f9 => ?_, fun h => by rw [wanted_none rfl] at h; cases h⟩
          obtain ⟨R9, T9, hi9, ⟨hX9, f2, ht⟩, hr9⟩ := f9
          exact ⟨(γ.1, v9), rfl, (fun j hj => match j, hj with | 0, _ => rfl | 1, _ => rfl | 2, _ => rfl | 3, _ => rfl | 4, _ => rfl | 5, _ => rfl | 6, _ => rfl | 7, _ => rfl | 8, _ => rfl | 9, _ => rfl | 10, _ => rfl | 11, hj => absurd (hl.symm.trans hj) (by decide) | 12, _ => rfl | 13, hj => absurd (hl.symm.trans (DL2 13 11 rfl hj)) (by decide) | j9 + 14, _ => rfl), ⟨m1.trans' f2 (fun r hr e => by have := (hX5.lt r e).1; omega), m2.fr f2 (fun r hr e => by have := (hX5.lt r e).1; omega), T9, hX9, k0.q f2 ht, fun h => (r0 h).elim fun R h => ⟨R, h.1, h.2.q f2 ht⟩, fun _ => ⟨R9, hi9, hr9⟩⟩⟩
        | 12, ho, hl, D, DL, hB =>
          obtain rfl := Option.some.inj ho
          exact ⟨fun _ => valx rfl (run_assign rfl (D 5 _ rfl rfl)) rfl ⟨m1, m2, T5, hX5, k0, r0, r1⟩, fun h => by rw [wanted_none rfl] at h; cases h⟩
        | 13, ho, hl, D, DL, hB =>
          obtain rfl := Option.some.inj ho
          exact ⟨fun _ => valx rfl (run_assign rfl (D 11 _ rfl rfl)) rfl ⟨m1, m2, T5, hX5, k0, r0, r1⟩, fun h => by rw [wanted_none rfl] at h; cases h⟩
        | j9 + 14, ho, hl, D, DL, hB => exact absurd ho (by simp)
      · rintro ⟨γa, γb⟩ a w9 E V hM
        have E := E.add (v := γa) (V 12 _ rfl)
        have E := E.add (v := γb) (V 13 _ rfl)
        clear V
        obtain ⟨m1, m2, T5, hX5, gk0, r0, r1⟩ := hM
        have hf := m1
        have hs := m2
        have hX := hX5
        have hkb38 := gk0
        obtain ⟨Ra, hiRa, hra⟩ := r0 rfl
        obtain ⟨pra, cra, hva, _, hla⟩ := hra.src
        subst hva
        obtain ⟨Rb, hiRb, hrb⟩ := r1 rfl
        obtain ⟨prb, crb, hvb, _, hlb⟩ := hrb.src
        subst hvb
        clear hX5 m1 m2 fd gk0
        refine then_n ?_
        refine wp_seq ?_
        refine wp_seq ?_
        have hptP : isP pt := of_decide_eq_true hq40
        have hNa : NearR m pt (min n0 m0) Ra := by unfold NearS at hiRa; rwa [if_pos hptP] at hiRa
        have hNb : NearR m pt (max n0 m0) Rb := by unfold NearS at hiRb; rwa [if_pos hptP] at hiRb
        obtain ⟨K, hKs, hKm, hRa, hRb⟩ := hNa.two hNb
        have hla : Ra.length = min (min n0 m0).toNat K.length := by rw [hRa, List.length_map, List.length_take]
        have hlb : Rb.length = min (max n0 m0).toNat K.length := by rw [hRb, List.length_map, List.length_take]
        have hk1 : (decide ((max (min n0 m0) 0) < (Ra.length : Int))) = false := decide_eq_false (by omega)
        have hk2 : (decide ((Rb.length : Int) < (Ra.length : Int))) = false := decide_eq_false (by omega)
        have hk3 : (decide (Ra = Rb.take Ra.length)) = true := decide_eq_true (by rw [hRb, ← List.map_take, List.take_take, hRa, List.length_map, List.length_take]; congr 1; rw [show min (min (min n0 m0).toNat K.length) (max n0 m0).toNat = min (min n0 m0).toNat K.length by omega]; rw [← List.take_take, List.take_length])
        have hcapb := hrb.cap
        refine wp_region_lit ?_
        refine env_put (d := 49) (v := .slice (pra) Ra.length cra) E rfl (by decide) rfl (wanted_none rfl _) (run_move rfl (E.get 1 rfl)) fun a E => ?_
        refine env_put (d := 50) (v := .int .i64 (Ra.length : Int)) E rfl (by decide) rfl (wanted_none rfl _) (run_len42 rfl (E.get 0 rfl)) fun a E => ?_
        refine env_put (d := 51) (v := .int .i64 n0) E rfl (by decide) rfl (wanted_none rfl _) (run_move rfl (E.get 21 rfl)) fun a E => ?_
        refine env_put (d := 52) (v := .int .i64 m0) E rfl (by decide) rfl (wanted_none rfl _) (run_move rfl (E.get 23 rfl)) fun a E => ?_
        refine env_put (d := 53) (v := .int .i64 (min n0 m0)) E rfl (by decide) rfl (wanted_none rfl _) (run_min rfl (E.get 1 rfl) (E.get 0 rfl)) fun a E => ?_
        refine env_put (d := 54) (v := .int .i64 (max (min n0 m0) 0)) E rfl (by decide) rfl (wanted_none rfl _) (run_max rfl (E.get 0 rfl) rfl) fun a E => ?_
        refine env_put (d := 55) (v := .bool false) E rfl (by decide) rfl (wanted_none rfl _) ((run_igtr (E.get 4 rfl) (E.get 0 rfl) Try.underlying3 rfl).trans (by rw [hk1] <;> rfl)) fun a E => ?_
        refine env_put (d := 56) (v := .bool false) E rfl (by decide) rfl (wanted_none rfl _) (run_move rfl (E.get 0 rfl)) fun a E => ?_
        refine env_put (d := 57) (v := .slice (pra) Ra.length cra) E rfl (by decide) rfl (w_yes (g := 7) (s := 56) E rfl rfl (by decide) (E.get 0 rfl)) (run_move rfl (E.get 9 rfl)) fun a E => ?_
        refine env_put (d := 58) (v := .int .i64 (Ra.length : Int)) E rfl (by decide) rfl (w_yes (g := 7) (s := 56) E rfl rfl (by decide) (E.get 1 rfl)) (run_len42 rfl (E.get 0 rfl)) fun a E => ?_
        refine env_put (d := 59) (v := .slice (prb) Rb.length crb) E rfl (by decide) rfl (w_yes (g := 7) (s := 56) E rfl rfl (by decide) (E.get 2 rfl)) (run_move rfl (E.get 10 rfl)) fun a E => ?_
        refine env_put (d := 60) (v := .int .i64 (Rb.length : Int)) E rfl (by decide) rfl (w_yes (g := 7) (s := 56) E rfl rfl (by decide) (E.get 3 rfl)) (run_len42 rfl (E.get 0 rfl)) fun a E => ?_
        refine env_put (d := 61) (v := .bool false) E rfl (by decide) rfl (w_yes (g := 7) (s := 56) E rfl rfl (by decide) (E.get 4 rfl)) ((run_igtr (E.get 2 rfl) (E.get 0 rfl) Try.underlying3 rfl).trans (by rw [hk2] <;> rfl)) fun a E => ?_
        refine env_put (d := 62) (v := .bool false) E rfl (by decide) rfl (wanted_none rfl _) (run_pick_f rfl (E.get 5 rfl) (E.get 0 rfl)) fun a E => ?_
        refine env_put (d := 63) (v := .bool false) E rfl (by decide) rfl (wanted_none rfl _) (run_move rfl (E.get 0 rfl)) fun a E => ?_
        refine env_put (d := 64) (v := .slice (pra) Ra.length cra) E rfl (by decide) rfl (w_yes (g := 14) (s := 63) E rfl rfl (by decide) (E.get 0 rfl)) (run_move rfl (E.get 16 rfl)) fun a E => ?_
        refine env_put (d := 65) (v := .slice (prb) Rb.length crb) E rfl (by decide) rfl (w_yes (g := 14) (s := 63) E rfl rfl (by decide) (E.get 1 rfl)) (run_move rfl (E.get 16 rfl)) fun a E => ?_
        refine env_put (d := 66) (v := .slice (pra) Ra.length cra) E rfl (by decide) rfl (w_yes (g := 14) (s := 63) E rfl rfl (by decide) (E.get 2 rfl)) (run_move rfl (E.get 18 rfl)) fun a E => ?_
        refine env_put (d := 67) (v := .int .i64 (Ra.length : Int)) E rfl (by decide) rfl (w_yes (g := 14) (s := 63) E rfl rfl (by decide) (E.get 3 rfl)) (run_len42 rfl (E.get 0 rfl)) fun a E => ?_
        refine env_put (d := 68) (v := .slice (prb) (Rb.take Ra.length).length crb) E rfl (by decide) rfl (w_yes (g := 14) (s := 63) E rfl rfl (by decide) (E.get 4 rfl)) (run_sto42 rfl (E.get 2 rfl) (E.get 0 rfl) hcapb (by omega)) fun a E => ?_
        refine env_call (d := 69) (v := .bool true) E rfl (by decide) rfl (w_yes (g := 14) (s := 63) E rfl rfl (by decide) (E.get 5 rfl)) (run_call2 (enters_of Try.func18 (by kernel_rfl) rfl) rfl rfl (E.get 4 rfl) (E.get 0 rfl)) ((same_take hra hrb Ra.length).mono fun e w h => ⟨h.1.trans (by rw [hk3]), h.2⟩) fun a w1 f1 E => ?_
        have hs := hs.fr f1 (fun _ _ h => h)
        have hkb38 := hkb38.fr f1
        have hX := Ix.fr hX f1 (fun _ _ h => h)
        have hra := hra.fr f1
        have hrb := hrb.fr f1
        have hf := hf.trans f1
        clear f1
        refine env_put (d := 70) (v := .bool false) E rfl (by decide) rfl (w_yes (g := 14) (s := 63) E rfl rfl (by decide) (E.get 6 rfl)) (run_not rfl (E.get 0 rfl)) fun a E => ?_
        refine env_put (d := 71) (v := .bool false) E rfl (by decide) rfl (wanted_none rfl _) (run_pick_f rfl (E.get 7 rfl) (E.get 0 rfl)) fun a E => ?_
        refine wpList_nil ?_
        refine then_n ?_
        refine wp_cond_false (E.get 0 rfl) ?_
        refine wp_skip ?_
        refine then_n ?_
        refine wp_seq ?_
        refine wp_seq ?_
        refine wp_region_lit ?_
        refine env_put (d := 13) (v := .int .i64 0) E rfl (by decide) rfl (wanted_none rfl _) (run_assign rfl rfl) fun a E => ?_
        refine wpList_nil ?_
        refine then_n ?_
        refine wp_block ?_
        refine wp_loop (fun a w2 => ∃ (i : Nat), Env 182 [(13, .int .i64 (i : Int)), (12, .slice (prb) Rb.length crb), (10, .pointer (some ⟨q, 0, none⟩)), (9, .bool true), (5, .pointer (some ⟨b38, 0, none⟩)), (2, .int .i64 n0), (3, .int .i64 m0), (0, .slice (p) l.length cap)] a ∧ i ≤ Rb.length ∧ Ix w2 w.heap.size q l.length T5 m ∧ srcAt opL 6 w2 w.heap.size p l ∧ Fr (fun _ => False) w w2 ∧ Kw w2 T5 b38 (ptC pt) 24 ∧ Rw w2 T5 (.slice prb Rb.length crb) Rb) (fun a _ => Rb.length - (intOf (a.eval (.tmp 13))).toNat) ?_ ?_
        · exact ⟨0, E.of ⟨E.get 0 rfl, E.get 24 rfl, E.get 26 rfl, E.get 37 rfl, E.get 40 rfl, E.get 43 rfl, E.get 44 rfl, E.get 41 rfl, trivial⟩, Nat.zero_le _, hX, hs, hf, hkb38, hrb⟩
        clear E
        rintro a w2 ⟨i, E, hii, hX, hs, hf, hkb38, hrb⟩
        have hmu : Rb.length - (intOf (a.eval (.tmp 13))).toNat = Rb.length - i := by rw [E.get 0 rfl]; first | rfl | (simp [intOf]; done) | (simp only [intOf]; omega)
        rw [hmu]
        clear hmu
        refine wp_seq ?_
        refine wp_seq ?_
        refine wp_region_lit ?_
        refine env_put (d := 72) (v := .int .i64 (i : Int)) E rfl (by decide) rfl (wanted_none rfl _) (run_move rfl (E.get 0 rfl)) fun a E => ?_
        refine env_put (d := 73) (v := .slice (prb) Rb.length crb) E rfl (by decide) rfl (wanted_none rfl _) (run_move rfl (E.get 2 rfl)) fun a E => ?_
        refine env_put (d := 74) (v := .int .i64 (Rb.length : Int)) E rfl (by decide) rfl (wanted_none rfl _) (run_len42 rfl (E.get 0 rfl)) fun a E => ?_
        refine env_put (d := 75) (v := .bool (decide ((i : Int) < (Rb.length : Int)))) E rfl (by decide) rfl (wanted_none rfl _) (run_ilss (E.get 2 rfl) (E.get 0 rfl) Try.underlying3 rfl) fun a E => ?_
        refine wpList_nil ?_
        refine then_n ?_
        cases hq43 : (decide ((i : Int) < (Rb.length : Int))) with
        | false =>
          rw [hq43] at E
          refine wp_cond_false (E.get 0 rfl) ?_
          refine wp_exit ?_
          refine then_e ?_
          refine then_e ?_
          refine blk_e ?_
          refine then_n ?_
          refine wp_seq ?_
          refine wp_seq ?_
          refine wp_region_lit ?_
          refine env_put (d := 20) (v := .int .i64 0) E rfl (by decide) rfl (wanted_none rfl _) (run_assign rfl rfl) fun a E => ?_
          refine wpList_nil ?_
          refine then_n ?_
          refine wp_block ?_
          refine wp_loop (fun a w2 => ∃ (j : Nat), Env 182 [(20, .int .i64 (j : Int)), (12, .slice (prb) Rb.length crb), (10, .pointer (some ⟨q, 0, none⟩)), (9, .bool true), (5, .pointer (some ⟨b38, 0, none⟩)), (2, .int .i64 n0), (3, .int .i64 m0), (0, .slice (p) l.length cap)] a ∧ j ≤ l.length ∧ Ix w2 w.heap.size q l.length T5 m ∧ srcAt opL 6 w2 w.heap.size p l ∧ Fr (fun _ => False) w w2 ∧ Kw w2 T5 b38 (ptC pt) 24 ∧ Rw w2 T5 (.slice prb Rb.length crb) Rb) (fun a _ => l.length - (intOf (a.eval (.tmp 20))).toNat) ?_ ?_
          · exact ⟨0, E.of ⟨E.get 0 rfl, E.get 6 rfl, E.get 7 rfl, E.get 8 rfl, E.get 9 rfl, E.get 10 rfl, E.get 11 rfl, E.get 12 rfl, trivial⟩, Nat.zero_le _, hX, hs, hf, hkb38, hrb⟩
          clear E
          rintro a w2 ⟨j, E, hij, hX, hs, hf, hkb38, hrb⟩
          have hmu : l.length - (intOf (a.eval (.tmp 20))).toNat = l.length - j := by rw [E.get 0 rfl]; first | rfl | (simp [intOf]; done) | (simp only [intOf]; omega)
          rw [hmu]
          clear hmu
          refine wp_seq ?_
          refine wp_seq ?_
          refine wp_region_lit ?_
          refine env_put (d := 127) (v := .int .i64 (j : Int)) E rfl (by decide) rfl (wanted_none rfl _) (run_move rfl (E.get 0 rfl)) fun a E => ?_
          refine env_put (d := 128) (v := .slice (p) l.length cap) E rfl (by decide) rfl (wanted_none rfl _) (run_move rfl (E.get 8 rfl)) fun a E => ?_
          refine env_put (d := 129) (v := .int .i64 (l.length : Int)) E rfl (by decide) rfl (wanted_none rfl _) (run_len22 rfl (E.get 0 rfl)) fun a E => ?_
          refine env_put (d := 130) (v := .bool (decide ((j : Int) < (l.length : Int)))) E rfl (by decide) rfl (wanted_none rfl _) (run_ilss (E.get 2 rfl) (E.get 0 rfl) Try.underlying3 rfl) fun a E => ?_
          refine wpList_nil ?_
          refine then_n ?_
          cases hq45 : (decide ((j : Int) < (l.length : Int))) with
          | false =>
            rw [hq45] at E
            refine wp_cond_false (E.get 0 rfl) ?_
            refine wp_exit ?_
            refine then_e ?_
            refine then_e ?_
            refine blk_e ?_
            refine then_n ?_
            refine wp_seq ?_
            refine wp_region_lit ?_
            refine env_put (d := 181) (v := .bool true) E rfl (by decide) rfl (wanted_none rfl _) (run_move rfl (E.get 7 rfl)) fun a E => ?_
            refine env_put (d := 8) (v := .bool true) E rfl (by decide) rfl (wanted_none rfl _) (run_assign rfl (E.get 0 rfl)) fun a E => ?_
            refine wpList_nil ?_
            refine then_n ?_
            refine wp_ret ?_
            exact ret_tmp (t := 8) rfl E (E.get 0 rfl) ⟨rfl, hf⟩
          | true =>
            rw [hq45] at E
            have hlt : j < l.length := by have := of_decide_eq_true hq45; omega
            obtain ⟨y, hy⟩ : ∃ y, l[j]? = some y := ⟨_, List.getElem?_eq_getElem hlt⟩
            obtain ⟨g, off, hpe, hgl, hrow⟩ := hs.at hlt
            replace hrow := hrow _ y hy
            have hszy : y.2.1.size ≤ maxLen := by have := shB.id hq39 y (List.mem_of_getElem? hy); unfold maxLen; omega
            refine wp_cond_true (E.get 0 rfl) ?_
            refine wp_skip ?_
            refine then_n ?_
            refine wp_seq ?_
            refine wp_block ?_
            refine wp_seq ?_
            cases hmy : m y.2.1 with
            | none =>
              refine wp_region_lit ?_
              refine env_put (d := 134) (v := .pointer (some ⟨q, 0, none⟩)) E rfl (by decide) rfl (wanted_none rfl _) (run_move rfl (E.get 6 rfl)) fun a E => ?_
              refine env_put (d := 135) (v := .slice (p) l.length cap) E rfl (by decide) rfl (wanted_none rfl _) (run_move rfl (E.get 12 rfl)) fun a E => ?_
              refine env_put (d := 136) (v := .int .i64 (j : Int)) E rfl (by decide) rfl (wanted_none rfl _) (run_move rfl (E.get 6 rfl)) fun a E => ?_
              refine env_put (d := 137) (v := .pointer (some ⟨g, (off + j * 6), none⟩)) E rfl (by decide) rfl (wanted_none rfl _) (run_index22 (i := j) rfl ((E.get 1 rfl).trans (by rw [hpe])) (E.get 0 rfl) hlt) fun a E => ?_
              refine env_put (d := 138) (v := .pointer (some ⟨g, ((off + j * 6) + 1), none⟩)) E rfl (by decide) rfl (wanted_none rfl _) (fa35_1 rfl (E.get 0 rfl)) fun a E => ?_
              refine env_put (d := 139) (v := .string y.2.1) E rfl (by decide) rfl (wanted_none rfl _) (run_lds rfl (E.get 0 rfl) (hrow 1 _ rfl)) fun a E => ?_
              refine env_call (d := 140) (v := .tuple #[.agg (bxC ((0, 0), (0, 0))), .bool false]) E rfl (by decide) rfl (wanted_none rfl _) (run_call2 (enters_of Try.func16 (by kernel_rfl) rfl) rfl rfl (E.get 5 rfl) (E.get 0 rfl)) ((ix_box hX y.2.1 hszy).mono fun e w8 h => ⟨h.1.trans (by rw [hmy]; rfl), h.2⟩) fun a w1 f1 E => ?_
              have hs := hs.fr f1 (fun _ _ h => h)
              have hkb38 := hkb38.fr f1
              have hX := Ix.fr hX f1 (fun _ _ h => h)
              have hrb := hrb.fr f1
              have hrow := fun j u hu => f1.cell (hrow j u hu) id
              have hf := hf.trans f1
              clear f1
              refine env_put (d := 133) (v := .tuple #[.agg (bxC ((0, 0), (0, 0))), .bool false]) E rfl (by decide) rfl (wanted_none rfl _) (run_move rfl (E.get 0 rfl)) fun a E => ?_
              refine env_put (d := 141) (v := .agg (bxC ((0, 0), (0, 0)))) E rfl (by decide) rfl (wanted_none rfl _) (run_ext0 rfl (E.get 0 rfl)) fun a E => ?_
              refine env_put (d := 142) (v := .bool false) E rfl (by decide) rfl (wanted_none rfl _) (run_ext1 rfl (E.get 1 rfl)) fun a E => ?_
              have hTl := (fun k hk => (hX.lt k hk).2 : ∀ k, T5 k → k < w1.heap.size)
              refine env_alloc26 (d := 21) E rfl (by decide) rfl (wanted_none rfl _) rfl fun a w1 b46 eb46 hb46 f1 E => ?_
              refine env_st26 E rfl (wanted_none rfl _) rfl (E.get 0 rfl) (E.get 2 rfl) hb46 fun w1 hb46 f2 E => ?_
              have f1 := f1.trans' f2 (fun r hr e => by omega)
              clear f2
              have hcb46 : Cw w1 T5 b46 ((0, 0), (0, 0)) := ⟨hb46, fun ht => by have := hTl b46 ht; omega⟩
              have hs := hs.fr f1 (fun _ _ h => h)
              have hkb38 := hkb38.fr f1
              have hX := Ix.fr hX f1 (fun _ _ h => h)
              have hrb := hrb.fr f1
              have hrow := fun j u hu => f1.cell (hrow j u hu) id
              have hf := hf.trans f1
              clear f1
              clear hb46 hTl eb46
              refine env_put (d := 22) (v := .bool false) E rfl (by decide) rfl (wanted_none rfl _) (run_assign rfl (E.get 1 rfl)) fun a E => ?_
              refine wpList_nil ?_
              refine then_n ?_
              refine wp_seq ?_
              refine wp_seq ?_
              refine wp_region_lit ?_
              refine env_put (d := 143) (v := .bool false) E rfl (by decide) rfl (wanted_none rfl _) (run_move rfl (E.get 0 rfl)) fun a E => ?_
              refine env_put (d := 144) (v := .bool true) E rfl (by decide) rfl (wanted_none rfl _) (run_not rfl (E.get 0 rfl)) fun a E => ?_
              refine env_put (d := 145) (v := .bool true) E rfl (by decide) rfl (wanted_none rfl _) (run_move rfl (E.get 0 rfl)) fun a E => ?_
              refine env_skip (d := 146) (g := 2) (s := 145) E rfl (by decide) rfl rfl rfl (by decide) (E.get 0 rfl) fun a E => ?_
              refine env_skip (d := 147) (g := 2) (s := 145) E rfl (by decide) rfl rfl rfl (by decide) (E.get 1 rfl) fun a E => ?_
              refine env_skip (d := 148) (g := 2) (s := 145) E rfl (by decide) rfl rfl rfl (by decide) (E.get 2 rfl) fun a E => ?_
              refine env_skip (d := 149) (g := 2) (s := 145) E rfl (by decide) rfl rfl rfl (by decide) (E.get 3 rfl) fun a E => ?_
              refine env_skip (d := 150) (g := 2) (s := 145) E rfl (by decide) rfl rfl rfl (by decide) (E.get 4 rfl) fun a E => ?_
              refine env_skip (d := 151) (g := 2) (s := 145) E rfl (by decide) rfl rfl rfl (by decide) (E.get 5 rfl) fun a E => ?_
              refine env_skip (d := 152) (g := 2) (s := 145) E rfl (by decide) rfl rfl rfl (by decide) (E.get 6 rfl) fun a E => ?_
              refine env_put (d := 153) (v := .bool true) E rfl (by decide) rfl (wanted_none rfl _) (run_pick_t rfl (E.get 7 rfl) rfl) fun a E => ?_
              refine wpList_nil ?_
              refine then_n ?_
              refine wp_cond_true (E.get 0 rfl) ?_
              refine wp_exit ?_
              refine then_e ?_
              refine blk_e ?_
              refine then_n ?_
              refine wp_region_lit ?_
              refine env_put (d := 131) (v := .int .i64 (j : Int)) E rfl (by decide) rfl (wanted_none rfl _) (run_move rfl (E.get 27 rfl)) fun a E => ?_
              refine env_put (d := 132) (v := .int .i64 ((j : Int) + 1)) E rfl (by decide) rfl (wanted_none rfl _) (run_iadd Try.underlying3 (E.get 0 rfl) rfl (by omega) (by omega) rfl) fun a E => ?_
              refine env_set (d := 20) (v := .int .i64 ((j : Int) + 1)) E rfl (by decide) (wanted_none rfl _) (run_assign rfl (E.get 0 rfl)) fun a E => ?_
              refine wpList_nil ?_
              refine then_n ?_
              refine ⟨⟨j + 1, E.of ⟨E.get 0 rfl, E.get 30 rfl, E.get 31 rfl, E.get 32 rfl, E.get 33 rfl, E.get 34 rfl, E.get 35 rfl, E.get 36 rfl, trivial⟩, by omega, hX, hs, hf, hkb38, hrb⟩, ?_⟩
              rw [E.get 0 rfl]; simp only [intOf]; omega
            | some c =>
              have hokc := hok _ _ hmy
              refine wp_region_lit ?_
              refine env_put (d := 134) (v := .pointer (some ⟨q, 0, none⟩)) E rfl (by decide) rfl (wanted_none rfl _) (run_move rfl (E.get 6 rfl)) fun a E => ?_
              refine env_put (d := 135) (v := .slice (p) l.length cap) E rfl (by decide) rfl (wanted_none rfl _) (run_move rfl (E.get 12 rfl)) fun a E => ?_
              refine env_put (d := 136) (v := .int .i64 (j : Int)) E rfl (by decide) rfl (wanted_none rfl _) (run_move rfl (E.get 6 rfl)) fun a E => ?_
              refine env_put (d := 137) (v := .pointer (some ⟨g, (off + j * 6), none⟩)) E rfl (by decide) rfl (wanted_none rfl _) (run_index22 (i := j) rfl ((E.get 1 rfl).trans (by rw [hpe])) (E.get 0 rfl) hlt) fun a E => ?_
              refine env_put (d := 138) (v := .pointer (some ⟨g, ((off + j * 6) + 1), none⟩)) E rfl (by decide) rfl (wanted_none rfl _) (fa35_1 rfl (E.get 0 rfl)) fun a E => ?_
              refine env_put (d := 139) (v := .string y.2.1) E rfl (by decide) rfl (wanted_none rfl _) (run_lds rfl (E.get 0 rfl) (hrow 1 _ rfl)) fun a E => ?_
              refine env_call (d := 140) (v := .tuple #[.agg (bxC c), .bool true]) E rfl (by decide) rfl (wanted_none rfl _) (run_call2 (enters_of Try.func16 (by kernel_rfl) rfl) rfl rfl (E.get 5 rfl) (E.get 0 rfl)) ((ix_box hX y.2.1 hszy).mono fun e w8 h => ⟨h.1.trans (by rw [hmy]; rfl), h.2⟩) fun a w1 f1 E => ?_
              have hs := hs.fr f1 (fun _ _ h => h)
              have hkb38 := hkb38.fr f1
              have hX := Ix.fr hX f1 (fun _ _ h => h)
              have hrb := hrb.fr f1
              have hrow := fun j u hu => f1.cell (hrow j u hu) id
              have hf := hf.trans f1
              clear f1
              refine env_put (d := 133) (v := .tuple #[.agg (bxC c), .bool true]) E rfl (by decide) rfl (wanted_none rfl _) (run_move rfl (E.get 0 rfl)) fun a E => ?_
              refine env_put (d := 141) (v := .agg (bxC c)) E rfl (by decide) rfl (wanted_none rfl _) (run_ext0 rfl (E.get 0 rfl)) fun a E => ?_
              refine env_put (d := 142) (v := .bool true) E rfl (by decide) rfl (wanted_none rfl _) (run_ext1 rfl (E.get 1 rfl)) fun a E => ?_
              have hTl := (fun k hk => (hX.lt k hk).2 : ∀ k, T5 k → k < w1.heap.size)
              refine env_alloc26 (d := 21) E rfl (by decide) rfl (wanted_none rfl _) rfl fun a w1 b47 eb47 hb47 f1 E => ?_
              refine env_st26 E rfl (wanted_none rfl _) rfl (E.get 0 rfl) (E.get 2 rfl) hb47 fun w1 hb47 f2 E => ?_
              have f1 := f1.trans' f2 (fun r hr e => by omega)
              clear f2
              have hcb47 : Cw w1 T5 b47 c := ⟨hb47, fun ht => by have := hTl b47 ht; omega⟩
              have hs := hs.fr f1 (fun _ _ h => h)
              have hkb38 := hkb38.fr f1
              have hX := Ix.fr hX f1 (fun _ _ h => h)
              have hrb := hrb.fr f1
              have hrow := fun j u hu => f1.cell (hrow j u hu) id
              have hf := hf.trans f1
              clear f1
              clear hb47 hTl eb47
              refine env_put (d := 22) (v := .bool true) E rfl (by decide) rfl (wanted_none rfl _) (run_assign rfl (E.get 1 rfl)) fun a E => ?_
              refine wpList_nil ?_
              refine then_n ?_
              refine wp_seq ?_
              refine wp_seq ?_
              refine wp_region_lit ?_
              refine env_put (d := 143) (v := .bool true) E rfl (by decide) rfl (wanted_none rfl _) (run_move rfl (E.get 0 rfl)) fun a E => ?_
              refine env_put (d := 144) (v := .bool false) E rfl (by decide) rfl (wanted_none rfl _) (run_not rfl (E.get 0 rfl)) fun a E => ?_
              refine env_put (d := 145) (v := .bool false) E rfl (by decide) rfl (wanted_none rfl _) (run_move rfl (E.get 0 rfl)) fun a E => ?_
              refine env_put (d := 146) (v := .slice (prb) Rb.length crb) E rfl (by decide) rfl (w_yes (g := 2) (s := 145) E rfl rfl (by decide) (E.get 0 rfl)) (run_move rfl (E.get 20 rfl)) fun a E => ?_
              refine env_put (d := 147) (v := .slice (p) l.length cap) E rfl (by decide) rfl (w_yes (g := 2) (s := 145) E rfl rfl (by decide) (E.get 1 rfl)) (run_move rfl (E.get 27 rfl)) fun a E => ?_
              refine env_put (d := 148) (v := .int .i64 (j : Int)) E rfl (by decide) rfl (w_yes (g := 2) (s := 145) E rfl rfl (by decide) (E.get 2 rfl)) (run_move rfl (E.get 21 rfl)) fun a E => ?_
              refine env_put (d := 149) (v := .pointer (some ⟨g, (off + j * 6), none⟩)) E rfl (by decide) rfl (w_yes (g := 2) (s := 145) E rfl rfl (by decide) (E.get 3 rfl)) (run_index22 (i := j) rfl ((E.get 1 rfl).trans (by rw [hpe])) (E.get 0 rfl) hlt) fun a E => ?_
              refine env_put (d := 150) (v := .pointer (some ⟨g, ((off + j * 6) + 1), none⟩)) E rfl (by decide) rfl (w_yes (g := 2) (s := 145) E rfl rfl (by decide) (E.get 4 rfl)) (fa35_1 rfl (E.get 0 rfl)) fun a E => ?_
              refine env_put (d := 151) (v := .string y.2.1) E rfl (by decide) rfl (w_yes (g := 2) (s := 145) E rfl rfl (by decide) (E.get 5 rfl)) (run_lds rfl (E.get 0 rfl) (hrow 1 _ rfl)) fun a E => ?_
              refine env_call (d := 152) (v := .bool (inL Rb y.2.1)) E rfl (by decide) rfl (w_yes (g := 2) (s := 145) E rfl rfl (by decide) (E.get 6 rfl)) (run_call2 (enters_of Try.func26 (by kernel_rfl) rfl) rfl rfl (E.get 5 rfl) (E.get 0 rfl)) (has_rw hrb y.2.1) fun a w1 f1 E => ?_
              have hs := hs.fr f1 (fun _ _ h => h)
              have hkb38 := hkb38.fr f1
              have hX := Ix.fr hX f1 (fun _ _ h => h)
              have hrb := hrb.fr f1
              have hrow := fun j u hu => f1.cell (hrow j u hu) id
              have hcb47 := hcb47.fr f1
              have hf := hf.trans f1
              clear f1
              refine env_put (d := 153) (v := .bool (inL Rb y.2.1)) E rfl (by decide) rfl (wanted_none rfl _) (run_pick_f rfl (E.get 7 rfl) (E.get 0 rfl)) fun a E => ?_
              refine wpList_nil ?_
              refine then_n ?_
              cases hq48 : (inL Rb y.2.1) with
              | false =>
                rw [hq48] at E
                have hni : y.2.1 ∉ Rb := fun h9 => by have := inL_iff.2 h9; rw [hq48] at this; cases this
                obtain ⟨hln, hall⟩ := near_out hKs hRb ((hKm _ _).2 hmy) hni
                have hk4 : (decide ((Rb.length : Int) < (max n0 m0))) = false := decide_eq_false (by omega)
                refine wp_cond_false (E.get 0 rfl) ?_
                refine wp_skip ?_
                refine then_n ?_
                refine wp_seq ?_
                refine wp_seq ?_
                refine wp_region_lit ?_
                refine env_put (d := 154) (v := .slice (prb) Rb.length crb) E rfl (by decide) rfl (wanted_none rfl _) (run_move rfl (E.get 28 rfl)) fun a E => ?_
                refine env_put (d := 155) (v := .int .i64 (Rb.length : Int)) E rfl (by decide) rfl (wanted_none rfl _) (run_len42 rfl (E.get 0 rfl)) fun a E => ?_
                refine env_put (d := 156) (v := .int .i64 n0) E rfl (by decide) rfl (wanted_none rfl _) (run_move rfl (E.get 34 rfl)) fun a E => ?_
                refine env_put (d := 157) (v := .int .i64 m0) E rfl (by decide) rfl (wanted_none rfl _) (run_move rfl (E.get 36 rfl)) fun a E => ?_
                refine env_put (d := 158) (v := .int .i64 (max n0 m0)) E rfl (by decide) rfl (wanted_none rfl _) (run_max rfl (E.get 1 rfl) (E.get 0 rfl)) fun a E => ?_
                refine env_put (d := 159) (v := .bool false) E rfl (by decide) rfl (wanted_none rfl _) ((run_ilss (E.get 3 rfl) (E.get 0 rfl) Try.underlying3 rfl).trans (by rw [hk4] <;> rfl)) fun a E => ?_
                refine wpList_nil ?_
                refine then_n ?_
                refine wp_cond_false (E.get 0 rfl) ?_
                refine wp_skip ?_
                refine then_n ?_
                refine wp_seq ?_
                refine wp_region_lit ?_
                refine env_put (d := 160) (v := .slice (prb) Rb.length crb) E rfl (by decide) rfl (wanted_none rfl _) (run_move rfl (E.get 34 rfl)) fun a E => ?_
                refine env_put (d := 161) (v := .int .i64 (Rb.length : Int)) E rfl (by decide) rfl (wanted_none rfl _) (run_len42 rfl (E.get 0 rfl)) fun a E => ?_
                refine env_put (d := 162) (v := .bool (decide (0 < (Rb.length : Int)))) E rfl (by decide) rfl (wanted_none rfl _) (run_igtr (E.get 0 rfl) rfl Try.underlying3 rfl) fun a E => ?_
                refine wpList_nil ?_
                refine then_n ?_
                cases hq49 : (decide (0 < (Rb.length : Int))) with
                | false =>
                  rw [hq49] at E
                  refine wp_cond_false (E.get 0 rfl) ?_
                  refine wp_skip ?_
                  refine blk_n ?_
                  refine then_n ?_
                  refine wp_region_lit ?_
                  refine env_put (d := 131) (v := .int .i64 (j : Int)) E rfl (by decide) rfl (wanted_none rfl _) (run_move rfl (E.get 36 rfl)) fun a E => ?_
                  refine env_put (d := 132) (v := .int .i64 ((j : Int) + 1)) E rfl (by decide) rfl (wanted_none rfl _) (run_iadd Try.underlying3 (E.get 0 rfl) rfl (by omega) (by omega) rfl) fun a E => ?_
                  refine env_set (d := 20) (v := .int .i64 ((j : Int) + 1)) E rfl (by decide) (wanted_none rfl _) (run_assign rfl (E.get 0 rfl)) fun a E => ?_
                  refine wpList_nil ?_
                  refine then_n ?_
                  refine ⟨⟨j + 1, E.of ⟨E.get 0 rfl, E.get 39 rfl, E.get 40 rfl, E.get 41 rfl, E.get 42 rfl, E.get 43 rfl, E.get 44 rfl, E.get 45 rfl, trivial⟩, by omega, hX, hs, hf, hkb38, hrb⟩, ?_⟩
                  rw [E.get 0 rfl]; simp only [intOf]; omega
                | true =>
                  rw [hq49] at E
                  have hpos : 0 < Rb.length := by have := of_decide_eq_true hq49; omega
                  have hltz : Rb.length - 1 < Rb.length := by omega
                  obtain ⟨z, hyz⟩ : ∃ z, Rb[Rb.length - 1]? = some z := ⟨_, List.getElem?_eq_getElem hltz⟩
                  obtain ⟨p9, c9, hv9, hsr, _⟩ := hrb.src
                  cases hv9
                  obtain ⟨gz, offgz, hpegz, hglgz, hrowgz⟩ := hsr.at hltz
                  replace hrowgz := hrowgz _ z hyz
                  clear hsr
                  obtain ⟨c2, hkc2⟩ := near_get hRb hyz
                  have hmc2 : m z = some c2 := (hKm _ _).1 (List.mem_of_getElem? hkc2)
                  have hszz := hmi z c2 hmc2
                  have hokc2 := hok z c2 hmc2
                  have hns := hall _ _ hltz hkc2
                  have hgt : (decide ((dsB c pt) < (dsB c2 pt))) = false := decide_eq_false (by unfold ns at hns; simp only at hns; omega)
                  refine wp_cond_true (E.get 0 rfl) ?_
                  refine wp_seq ?_
                  refine wp_region_lit ?_
                  refine env_put (d := 164) (v := .pointer (some ⟨q, 0, none⟩)) E rfl (by decide) rfl (wanted_none rfl _) (run_move rfl (E.get 38 rfl)) fun a E => ?_
                  refine env_put (d := 165) (v := .slice (prb) Rb.length crb) E rfl (by decide) rfl (wanted_none rfl _) (run_move rfl (E.get 38 rfl)) fun a E => ?_
                  refine env_put (d := 166) (v := .slice (prb) Rb.length crb) E rfl (by decide) rfl (wanted_none rfl _) (run_move rfl (E.get 39 rfl)) fun a E => ?_
                  refine env_put (d := 167) (v := .int .i64 (Rb.length : Int)) E rfl (by decide) rfl (wanted_none rfl _) (run_len42 rfl (E.get 0 rfl)) fun a E => ?_
                  refine env_put (d := 168) (v := .int .i64 ((Rb.length : Int) - 1)) E rfl (by decide) rfl (wanted_none rfl _) (run_isub Try.underlying3 (E.get 0 rfl) rfl (by omega) (by omega) rfl) fun a E => ?_
                  refine env_put (d := 169) (v := .pointer (some ⟨gz, (offgz + (Rb.length - 1)), none⟩)) E rfl (by decide) rfl (wanted_none rfl _) (run_index42z (i := (Rb.length - 1)) (by omega) rfl ((E.get 3 rfl).trans (by rw [hpegz])) (E.get 0 rfl) hltz) fun a E => ?_
                  refine env_put (d := 170) (v := .string z) E rfl (by decide) rfl (wanted_none rfl _) (run_lds rfl (E.get 0 rfl) (str_at hrowgz)) fun a E => ?_
                  refine env_call (d := 171) (v := .tuple #[.agg (bxC c2), .bool true]) E rfl (by decide) rfl (wanted_none rfl _) (run_call2 (enters_of Try.func16 (by kernel_rfl) rfl) rfl rfl (E.get 6 rfl) (E.get 0 rfl)) ((ix_box hX z hszz).mono fun e w8 h => ⟨h.1.trans (by rw [hmc2]; rfl), h.2⟩) fun a w1 f1 E => ?_
                  have hs := hs.fr f1 (fun _ _ h => h)
                  have hkb38 := hkb38.fr f1
                  have hX := Ix.fr hX f1 (fun _ _ h => h)
                  have hrb := hrb.fr f1
                  have hrow := fun j u hu => f1.cell (hrow j u hu) id
                  have hcb47 := hcb47.fr f1
                  have hrowgz := fun j u hu => f1.cell (hrowgz j u hu) id
                  have hf := hf.trans f1
                  clear f1
                  refine env_put (d := 163) (v := .tuple #[.agg (bxC c2), .bool true]) E rfl (by decide) rfl (wanted_none rfl _) (run_move rfl (E.get 0 rfl)) fun a E => ?_
                  refine env_put (d := 172) (v := .agg (bxC c2)) E rfl (by decide) rfl (wanted_none rfl _) (run_ext0 rfl (E.get 0 rfl)) fun a E => ?_
                  refine env_put (d := 173) (v := .bool true) E rfl (by decide) rfl (wanted_none rfl _) (run_ext1 rfl (E.get 1 rfl)) fun a E => ?_
                  have hTl := (fun k hk => (hX.lt k hk).2 : ∀ k, T5 k → k < w1.heap.size)
                  refine env_alloc26 (d := 23) E rfl (by decide) rfl (wanted_none rfl _) rfl fun a w1 b50 eb50 hb50 f1 E => ?_
                  refine env_st26 E rfl (wanted_none rfl _) rfl (E.get 0 rfl) (E.get 2 rfl) hb50 fun w1 hb50 f2 E => ?_
                  have f1 := f1.trans' f2 (fun r hr e => by omega)
                  clear f2
                  have hcb50 : Cw w1 T5 b50 c2 := ⟨hb50, fun ht => by have := hTl b50 ht; omega⟩
                  have hs := hs.fr f1 (fun _ _ h => h)
                  have hkb38 := hkb38.fr f1
                  have hX := Ix.fr hX f1 (fun _ _ h => h)
                  have hrb := hrb.fr f1
                  have hrow := fun j u hu => f1.cell (hrow j u hu) id
                  have hcb47 := hcb47.fr f1
                  have hrowgz := fun j u hu => f1.cell (hrowgz j u hu) id
                  have hf := hf.trans f1
                  clear f1
                  clear hb50 hTl eb50
                  refine env_put (d := 24) (v := .bool true) E rfl (by decide) rfl (wanted_none rfl _) (run_assign rfl (E.get 1 rfl)) fun a E => ?_
                  refine wpList_nil ?_
                  refine then_n ?_
                  refine wp_seq ?_
                  refine wp_region_inv (n := 182) (base := [(23, .pointer (some ⟨b50, 0, none⟩)), (173, .bool true), (172, .agg (bxC c2)), (163, .tuple #[.agg (bxC c2), .bool true]), (171, .tuple #[.agg (bxC c2), .bool true]), (170, .string z), (169, .pointer (some ⟨gz, (offgz + (Rb.length - 1)), none⟩)), (168, .int .i64 ((Rb.length : Int) - 1)), (167, .int .i64 (Rb.length : Int)), (166, .slice (prb) Rb.length crb), (165, .slice (prb) Rb.length crb), (164, .pointer (some ⟨q, 0, none⟩)), (162, .bool true), (161, .int .i64 (Rb.length : Int)), (160, .slice (prb) Rb.length crb), (159, .bool false), (158, .int .i64 (max n0 m0)), (157, .int .i64 m0), (156, .int .i64 n0), (155, .int .i64 (Rb.length : Int)), (154, .slice (prb) Rb.length crb), (153, .bool false), (152, .bool false), (151, .string y.2.1), (150, .pointer (some ⟨g, ((off + j * 6) + 1), none⟩)), (149, .pointer (some ⟨g, (off + j * 6), none⟩)), (148, .int .i64 (j : Int)), (147, .slice (p) l.length cap), (146, .slice (prb) Rb.length crb), (145, .bool false), (144, .bool false), (143, .bool true), (22, .bool true), (21, .pointer (some ⟨b47, 0, none⟩)), (142, .bool true), (141, .agg (bxC c)), (133, .tuple #[.agg (bxC c), .bool true]), (140, .tuple #[.agg (bxC c), .bool true]), (139, .string y.2.1), (138, .pointer (some ⟨g, ((off + j * 6) + 1), none⟩)), (137, .pointer (some ⟨g, (off + j * 6), none⟩)), (136, .int .i64 (j : Int)), (135, .slice (p) l.length cap), (134, .pointer (some ⟨q, 0, none⟩)), (130, .bool true), (129, .int .i64 (l.length : Int)), (128, .slice (p) l.length cap), (127, .int .i64 (j : Int)), (20, .int .i64 (j : Int)), (12, .slice (prb) Rb.length crb), (10, .pointer (some ⟨q, 0, none⟩)), (9, .bool true), (5, .pointer (some ⟨b38, 0, none⟩)), (2, .int .i64 n0), (3, .int .i64 m0), (0, .slice (p) l.length cap)]) (T := [some (174, .agg (bxC c)), some (175, .agg (ptC pt)), some (176, .int .i64 (dsB c pt)), some (177, .agg (bxC c2)), some (178, .agg (ptC pt)), some (179, .int .i64 (dsB c2 pt)), some (180, .bool false)]) (M := fun _ wm => Fr (fun _ => False) w1 wm) (by kernel_rfl) (by kernel_rfl) (by kernel_rfl) (E.of ⟨E.get 1 rfl, E.get 2 rfl, E.get 3 rfl, E.get 4 rfl, E.get 5 rfl, E.get 6 rfl, E.get 7 rfl, E.get 8 rfl, E.get 9 rfl, E.get 10 rfl, E.get 11 rfl, E.get 12 rfl, E.get 13 rfl, E.get 14 rfl, E.get 15 rfl, E.get 16 rfl, E.get 17 rfl, E.get 18 rfl, E.get 19 rfl, E.get 20 rfl, E.get 21 rfl, E.get 22 rfl, E.get 23 rfl, E.get 24 rfl, E.get 25 rfl, E.get 26 rfl, E.get 27 rfl, E.get 28 rfl, E.get 29 rfl, E.get 30 rfl, E.get 31 rfl, E.get 32 rfl, E.get 33 rfl, E.get 34 rfl, E.get 35 rfl, E.get 36 rfl, E.get 37 rfl, E.get 38 rfl, E.get 39 rfl, E.get 40 rfl, E.get 41 rfl, E.get 42 rfl, E.get 43 rfl, E.get 44 rfl, E.get 45 rfl, E.get 46 rfl, E.get 47 rfl, E.get 48 rfl, E.get 49 rfl, E.get 50 rfl, E.get 51 rfl, E.get 52 rfl, E.get 53 rfl, E.get 54 rfl, E.get 55 rfl, E.get 56 rfl, trivial⟩) (Fr.refl _ _).drew ?_ ?_
                  · intro j9 o9 t9 ls9 a w5 ho hT0 hl E D DL hM
                    have hs := hs.fr hM (fun _ _ h => h)
                    have hkb38 := hkb38.fr hM
                    have hX := Ix.fr hX hM (fun _ _ h => h)
                    have hrb := hrb.fr hM
                    have hrow := fun j u hu => hM.cell (hrow j u hu) id
                    have hcb47 := hcb47.fr hM
                    have hrowgz := fun j u hu => hM.cell (hrowgz j u hu) id
                    have hcb50 := hcb50.fr hM
                    match j9, ho, hT0, hl, D, DL with
                    | 0, ho, hT0, hl, D, DL =>
                      obtain rfl := Option.some.inj ho
                      obtain rfl := Option.some.inj hT0
                      clear ho hT0
                      exact val_wp (run_ld26 rfl (E.get 33 rfl) (rng4 (p := c) hcb47.1 0 rfl rfl rfl rfl)) rfl hM
                    | 1, ho, hT0, hl, D, DL =>
                      obtain rfl := Option.some.inj ho
                      obtain rfl := Option.some.inj hT0
                      clear ho hT0
                      exact val_wp (run_ld24 rfl (E.get 52 rfl) (rng2 (p := pt) hkb38.1 0 rfl rfl)) rfl hM
                    | 2, ho, hT0, hl, D, DL =>
                      obtain rfl := Option.some.inj ho
                      obtain rfl := Option.some.inj hT0
                      clear ho hT0
                      exact call_wp (run_call2 (enters_of Try.func28 (by kernel_rfl) rfl) rfl rfl (D 0 _ rfl rfl) (D 1 _ rfl rfl)) (rdist_calls c pt _ hokc hptP) rfl fun w9 f1 => (hM.trans f1)
                    | 3, ho, hT0, hl, D, DL =>
                      obtain rfl := Option.some.inj ho
                      obtain rfl := Option.some.inj hT0
                      clear ho hT0
                      exact val_wp (run_ld26 rfl (E.get 0 rfl) (rng4 (p := c2) hcb50.1 0 rfl rfl rfl rfl)) rfl hM
                    | 4, ho, hT0, hl, D, DL =>
                      obtain rfl := Option.some.inj ho
                      obtain rfl := Option.some.inj hT0
                      clear ho hT0
                      exact val_wp (run_ld24 rfl (E.get 52 rfl) (rng2 (p := pt) hkb38.1 0 rfl rfl)) rfl hM
                    | 5, ho, hT0, hl, D, DL =>
                      obtain rfl := Option.some.inj ho
                      obtain rfl := Option.some.inj hT0
                      clear ho hT0
                      exact call_wp (run_call2 (enters_of Try.func28 (by kernel_rfl) rfl) rfl rfl (D 3 _ rfl rfl) (D 4 _ rfl rfl)) (rdist_calls c2 pt _ hokc2 hptP) rfl fun w9 f1 => (hM.trans f1)
                    | 6, ho, hT0, hl, D, DL =>
                      obtain rfl := Option.some.inj ho
                      obtain rfl := Option.some.inj hT0
                      clear ho hT0
                      exact val_wp ((run_ilss (D 2 _ rfl rfl) (D 5 _ rfl rfl) Try.underlying3 rfl).trans (by rw [hgt] <;> rfl)) rfl hM
                    | j9 + 7, ho, hT0, hl, D, DL => exact absurd hT0 (by simp)
                  · intro a w5 E V hM
                    have E := E.add (V 6 _ rfl)
                    clear V
                    have hs := hs.fr hM (fun _ _ h => h)
                    have hkb38 := hkb38.fr hM
                    have hX := Ix.fr hX hM (fun _ _ h => h)
                    have hrb := hrb.fr hM
                    have hrow := fun j u hu => hM.cell (hrow j u hu) id
                    have hcb47 := hcb47.fr hM
                    have hrowgz := fun j u hu => hM.cell (hrowgz j u hu) id
                    have hcb50 := hcb50.fr hM
                    have hf := hf.trans hM
                    clear hM
                    refine then_n ?_
                    refine wp_cond_false (E.get 0 rfl) ?_
                    refine wp_skip ?_
                    refine blk_n ?_
                    refine then_n ?_
                    refine wp_region_lit ?_
                    refine env_put (d := 131) (v := .int .i64 (j : Int)) E rfl (by decide) rfl (wanted_none rfl _) (run_move rfl (E.get 49 rfl)) fun a E => ?_
                    refine env_put (d := 132) (v := .int .i64 ((j : Int) + 1)) E rfl (by decide) rfl (wanted_none rfl _) (run_iadd Try.underlying3 (E.get 0 rfl) rfl (by omega) (by omega) rfl) fun a E => ?_
                    refine env_set (d := 20) (v := .int .i64 ((j : Int) + 1)) E rfl (by decide) (wanted_none rfl _) (run_assign rfl (E.get 0 rfl)) fun a E => ?_
                    refine wpList_nil ?_
                    refine then_n ?_
                    refine ⟨⟨j + 1, E.of ⟨E.get 0 rfl, E.get 52 rfl, E.get 53 rfl, E.get 54 rfl, E.get 55 rfl, E.get 56 rfl, E.get 57 rfl, E.get 58 rfl, trivial⟩, by omega, hX, hs, hf, hkb38, hrb⟩, ?_⟩
                    rw [E.get 0 rfl]; simp only [intOf]; omega
              | true =>
                rw [hq48] at E
                refine wp_cond_true (E.get 0 rfl) ?_
                refine wp_exit ?_
                refine then_e ?_
                refine blk_e ?_
                refine then_n ?_
                refine wp_region_lit ?_
                refine env_put (d := 131) (v := .int .i64 (j : Int)) E rfl (by decide) rfl (wanted_none rfl _) (run_move rfl (E.get 27 rfl)) fun a E => ?_
                refine env_put (d := 132) (v := .int .i64 ((j : Int) + 1)) E rfl (by decide) rfl (wanted_none rfl _) (run_iadd Try.underlying3 (E.get 0 rfl) rfl (by omega) (by omega) rfl) fun a E => ?_
                refine env_set (d := 20) (v := .int .i64 ((j : Int) + 1)) E rfl (by decide) (wanted_none rfl _) (run_assign rfl (E.get 0 rfl)) fun a E => ?_
                refine wpList_nil ?_
                refine then_n ?_
                refine ⟨⟨j + 1, E.of ⟨E.get 0 rfl, E.get 30 rfl, E.get 31 rfl, E.get 32 rfl, E.get 33 rfl, E.get 34 rfl, E.get 35 rfl, E.get 36 rfl, trivial⟩, by omega, hX, hs, hf, hkb38, hrb⟩, ?_⟩
                rw [E.get 0 rfl]; simp only [intOf]; omega
        | true =>
          rw [hq43] at E
          have hlts : i < Rb.length := by have := of_decide_eq_true hq43; omega
          obtain ⟨s, hys⟩ : ∃ s, Rb[i]? = some s := ⟨_, List.getElem?_eq_getElem hlts⟩
          obtain ⟨p9, c9, hv9, hsr, _⟩ := hrb.src
          cases hv9
          obtain ⟨g, offg, hpeg, hglg, hrowg⟩ := hsr.at hlts
          replace hrowg := hrowg _ s hys
          clear hsr
          obtain ⟨c, hkc⟩ := near_get hRb hys
          have hmc : m s = some c := (hKm _ _).1 (List.mem_of_getElem? hkc)
          have hszs := hmi s c hmc
          have hokc := hok s c hmc
          refine wp_cond_true (E.get 0 rfl) ?_
          refine wp_skip ?_
          refine then_n ?_
          refine wp_seq ?_
          refine wp_block ?_
          refine wp_seq ?_
          refine wp_region_lit ?_
          refine env_put (d := 79) (v := .pointer (some ⟨q, 0, none⟩)) E rfl (by decide) rfl (wanted_none rfl _) (run_move rfl (E.get 6 rfl)) fun a E => ?_
          refine env_put (d := 80) (v := .slice (prb) Rb.length crb) E rfl (by decide) rfl (wanted_none rfl _) (run_move rfl (E.get 6 rfl)) fun a E => ?_
          refine env_put (d := 81) (v := .int .i64 (i : Int)) E rfl (by decide) rfl (wanted_none rfl _) (run_move rfl (E.get 6 rfl)) fun a E => ?_
          refine env_put (d := 82) (v := .pointer (some ⟨g, (offg + i), none⟩)) E rfl (by decide) rfl (wanted_none rfl _) (run_index42 (i := i) rfl ((E.get 1 rfl).trans (by rw [hpeg])) (E.get 0 rfl) hlts) fun a E => ?_
          refine env_put (d := 83) (v := .string s) E rfl (by decide) rfl (wanted_none rfl _) (run_lds rfl (E.get 0 rfl) (str_at hrowg)) fun a E => ?_
          refine env_call (d := 84) (v := .tuple #[.agg (bxC c), .bool true]) E rfl (by decide) rfl (wanted_none rfl _) (run_call2 (enters_of Try.func16 (by kernel_rfl) rfl) rfl rfl (E.get 4 rfl) (E.get 0 rfl)) ((ix_box hX s hszs).mono fun e w8 h => ⟨h.1.trans (by rw [hmc]; rfl), h.2⟩) fun a w1 f1 E => ?_
          have hs := hs.fr f1 (fun _ _ h => h)
          have hkb38 := hkb38.fr f1
          have hX := Ix.fr hX f1 (fun _ _ h => h)
          have hrb := hrb.fr f1
          have hrowg := fun j u hu => f1.cell (hrowg j u hu) id
          have hf := hf.trans f1
          clear f1
          refine env_put (d := 78) (v := .tuple #[.agg (bxC c), .bool true]) E rfl (by decide) rfl (wanted_none rfl _) (run_move rfl (E.get 0 rfl)) fun a E => ?_
          refine env_put (d := 85) (v := .agg (bxC c)) E rfl (by decide) rfl (wanted_none rfl _) (run_ext0 rfl (E.get 0 rfl)) fun a E => ?_
          refine env_put (d := 86) (v := .bool true) E rfl (by decide) rfl (wanted_none rfl _) (run_ext1 rfl (E.get 1 rfl)) fun a E => ?_
          have hTl := (fun k hk => (hX.lt k hk).2 : ∀ k, T5 k → k < w1.heap.size)
          refine env_alloc26 (d := 14) E rfl (by decide) rfl (wanted_none rfl _) rfl fun a w1 b52 eb52 hb52 f1 E => ?_
          refine env_st26 E rfl (wanted_none rfl _) rfl (E.get 0 rfl) (E.get 2 rfl) hb52 fun w1 hb52 f2 E => ?_
          have f1 := f1.trans' f2 (fun r hr e => by omega)
          clear f2
          have hcb52 : Cw w1 T5 b52 c := ⟨hb52, fun ht => by have := hTl b52 ht; omega⟩
          have hs := hs.fr f1 (fun _ _ h => h)
          have hkb38 := hkb38.fr f1
          have hX := Ix.fr hX f1 (fun _ _ h => h)
          have hrb := hrb.fr f1
          have hrowg := fun j u hu => f1.cell (hrowg j u hu) id
          have hf := hf.trans f1
          clear f1
          clear hb52 hTl eb52
          refine env_put (d := 15) (v := .bool true) E rfl (by decide) rfl (wanted_none rfl _) (run_assign rfl (E.get 1 rfl)) fun a E => ?_
          refine wpList_nil ?_
          refine then_n ?_
          refine wp_seq ?_
          refine wp_seq ?_
          refine wp_region_lit ?_
          refine env_put (d := 87) (v := .bool true) E rfl (by decide) rfl (wanted_none rfl _) (run_move rfl (E.get 0 rfl)) fun a E => ?_
          refine env_put (d := 88) (v := .bool false) E rfl (by decide) rfl (wanted_none rfl _) (run_not rfl (E.get 0 rfl)) fun a E => ?_
          refine wpList_nil ?_
          refine then_n ?_
          refine wp_cond_false (E.get 0 rfl) ?_
          refine wp_skip ?_
          refine then_n ?_
          refine wp_seq ?_
          refine wp_seq ?_
          refine wp_region_lit ?_
          refine env_put (d := 89) (v := .int .i64 (i : Int)) E rfl (by decide) rfl (wanted_none rfl _) (run_move rfl (E.get 17 rfl)) fun a E => ?_
          refine env_put (d := 90) (v := .bool ((i : Int) == 0)) E rfl (by decide) rfl (wanted_none rfl _) (run_ieql (E.get 0 rfl) rfl Try.underlying3 rfl) fun a E => ?_
          refine wpList_nil ?_
          refine then_n ?_
          cases hq53 : ((i : Int) == 0) with
          | false =>
            rw [hq53] at E
            have hi0 : 0 < i := by have := beq_eq_false_iff_ne.1 hq53; omega
            have hltz : i - 1 < Rb.length := by omega
            obtain ⟨z, hyz⟩ : ∃ z, Rb[i - 1]? = some z := ⟨_, List.getElem?_eq_getElem hltz⟩
            obtain ⟨p9, c9, hv9, hsr, _⟩ := hrb.src
            cases hv9
            obtain ⟨gz, offgz, hpegz, hglgz, hrowgz⟩ := hsr.at hltz
            replace hrowgz := hrowgz _ z hyz
            clear hsr
            obtain ⟨c2, hkc2⟩ := near_get hRb hyz
            have hmc2 : m z = some c2 := (hKm _ _).1 (List.mem_of_getElem? hkc2)
            have hszz := hmi z c2 hmc2
            have hokc2 := hok z c2 hmc2
            have hns := near_ns hKs hkc2 hkc (by omega)
            have hgt : (decide ((dsB c pt) < (dsB c2 pt))) = false := decide_eq_false (by unfold ns at hns; simp only at hns; omega)
            refine wp_cond_false (E.get 0 rfl) ?_
            refine wp_skip ?_
            refine then_n ?_
            refine wp_seq ?_
            refine wp_region_lit ?_
            refine env_put (d := 92) (v := .pointer (some ⟨q, 0, none⟩)) E rfl (by decide) rfl (wanted_none rfl _) (run_move rfl (E.get 21 rfl)) fun a E => ?_
            refine env_put (d := 93) (v := .slice (prb) Rb.length crb) E rfl (by decide) rfl (wanted_none rfl _) (run_move rfl (E.get 21 rfl)) fun a E => ?_
            refine env_put (d := 94) (v := .int .i64 (i : Int)) E rfl (by decide) rfl (wanted_none rfl _) (run_move rfl (E.get 21 rfl)) fun a E => ?_
            refine env_put (d := 95) (v := .int .i64 ((i : Int) - 1)) E rfl (by decide) rfl (wanted_none rfl _) (run_isub Try.underlying3 (E.get 0 rfl) rfl (by omega) (by omega) rfl) fun a E => ?_
            refine env_put (d := 96) (v := .pointer (some ⟨gz, (offgz + (i - 1)), none⟩)) E rfl (by decide) rfl (wanted_none rfl _) (run_index42z (i := (i - 1)) (by omega) rfl ((E.get 2 rfl).trans (by rw [hpegz])) (E.get 0 rfl) hltz) fun a E => ?_
            refine env_put (d := 97) (v := .string z) E rfl (by decide) rfl (wanted_none rfl _) (run_lds rfl (E.get 0 rfl) (str_at hrowgz)) fun a E => ?_
            refine env_call (d := 98) (v := .tuple #[.agg (bxC c2), .bool true]) E rfl (by decide) rfl (wanted_none rfl _) (run_call2 (enters_of Try.func16 (by kernel_rfl) rfl) rfl rfl (E.get 5 rfl) (E.get 0 rfl)) ((ix_box hX z hszz).mono fun e w8 h => ⟨h.1.trans (by rw [hmc2]; rfl), h.2⟩) fun a w1 f1 E => ?_
            have hs := hs.fr f1 (fun _ _ h => h)
            have hkb38 := hkb38.fr f1
            have hX := Ix.fr hX f1 (fun _ _ h => h)
            have hrb := hrb.fr f1
            have hrowg := fun j u hu => f1.cell (hrowg j u hu) id
            have hcb52 := hcb52.fr f1
            have hrowgz := fun j u hu => f1.cell (hrowgz j u hu) id
            have hf := hf.trans f1
            clear f1
            refine env_put (d := 91) (v := .tuple #[.agg (bxC c2), .bool true]) E rfl (by decide) rfl (wanted_none rfl _) (run_move rfl (E.get 0 rfl)) fun a E => ?_
            refine env_put (d := 99) (v := .agg (bxC c2)) E rfl (by decide) rfl (wanted_none rfl _) (run_ext0 rfl (E.get 0 rfl)) fun a E => ?_
            refine env_put (d := 100) (v := .bool true) E rfl (by decide) rfl (wanted_none rfl _) (run_ext1 rfl (E.get 1 rfl)) fun a E => ?_
            have hTl := (fun k hk => (hX.lt k hk).2 : ∀ k, T5 k → k < w1.heap.size)
            refine env_alloc26 (d := 16) E rfl (by decide) rfl (wanted_none rfl _) rfl fun a w1 b54 eb54 hb54 f1 E => ?_
            refine env_st26 E rfl (wanted_none rfl _) rfl (E.get 0 rfl) (E.get 2 rfl) hb54 fun w1 hb54 f2 E => ?_
            have f1 := f1.trans' f2 (fun r hr e => by omega)
            clear f2
            have hcb54 : Cw w1 T5 b54 c2 := ⟨hb54, fun ht => by have := hTl b54 ht; omega⟩
            have hs := hs.fr f1 (fun _ _ h => h)
            have hkb38 := hkb38.fr f1
            have hX := Ix.fr hX f1 (fun _ _ h => h)
            have hrb := hrb.fr f1
            have hrowg := fun j u hu => f1.cell (hrowg j u hu) id
            have hcb52 := hcb52.fr f1
            have hrowgz := fun j u hu => f1.cell (hrowgz j u hu) id
            have hf := hf.trans f1
            clear f1
            clear hb54 hTl eb54
            refine env_put (d := 17) (v := .bool true) E rfl (by decide) rfl (wanted_none rfl _) (run_assign rfl (E.get 1 rfl)) fun a E => ?_
            refine wpList_nil ?_
            refine then_n ?_
            refine wp_seq ?_
            refine wp_region_inv (n := 182) (base := [(16, .pointer (some ⟨b54, 0, none⟩)), (100, .bool true), (99, .agg (bxC c2)), (91, .tuple #[.agg (bxC c2), .bool true]), (98, .tuple #[.agg (bxC c2), .bool true]), (97, .string z), (96, .pointer (some ⟨gz, (offgz + (i - 1)), none⟩)), (95, .int .i64 ((i : Int) - 1)), (94, .int .i64 (i : Int)), (93, .slice (prb) Rb.length crb), (92, .pointer (some ⟨q, 0, none⟩)), (90, .bool false), (89, .int .i64 (i : Int)), (88, .bool false), (87, .bool true), (15, .bool true), (14, .pointer (some ⟨b52, 0, none⟩)), (86, .bool true), (85, .agg (bxC c)), (78, .tuple #[.agg (bxC c), .bool true]), (84, .tuple #[.agg (bxC c), .bool true]), (83, .string s), (82, .pointer (some ⟨g, (offg + i), none⟩)), (81, .int .i64 (i : Int)), (80, .slice (prb) Rb.length crb), (79, .pointer (some ⟨q, 0, none⟩)), (75, .bool true), (74, .int .i64 (Rb.length : Int)), (73, .slice (prb) Rb.length crb), (72, .int .i64 (i : Int)), (13, .int .i64 (i : Int)), (12, .slice (prb) Rb.length crb), (10, .pointer (some ⟨q, 0, none⟩)), (9, .bool true), (5, .pointer (some ⟨b38, 0, none⟩)), (2, .int .i64 n0), (3, .int .i64 m0), (0, .slice (p) l.length cap)]) (T := [some (101, .agg (bxC c2)), some (102, .agg (ptC pt)), some (103, .int .i64 (dsB c2 pt)), some (104, .agg (bxC c)), some (105, .agg (ptC pt)), some (106, .int .i64 (dsB c pt)), some (18, .int .i64 (dsB c2 pt)), some (19, .int .i64 (dsB c pt))]) (M := fun _ wm => Fr (fun _ => False) w1 wm) (by kernel_rfl) (by kernel_rfl) (by kernel_rfl) (E.of ⟨E.get 1 rfl, E.get 2 rfl, E.get 3 rfl, E.get 4 rfl, E.get 5 rfl, E.get 6 rfl, E.get 7 rfl, E.get 8 rfl, E.get 9 rfl, E.get 10 rfl, E.get 11 rfl, E.get 12 rfl, E.get 13 rfl, E.get 14 rfl, E.get 15 rfl, E.get 16 rfl, E.get 17 rfl, E.get 18 rfl, E.get 19 rfl, E.get 20 rfl, E.get 21 rfl, E.get 22 rfl, E.get 23 rfl, E.get 24 rfl, E.get 25 rfl, E.get 26 rfl, E.get 27 rfl, E.get 28 rfl, E.get 29 rfl, E.get 30 rfl, E.get 31 rfl, E.get 32 rfl, E.get 33 rfl, E.get 34 rfl, E.get 35 rfl, E.get 36 rfl, E.get 37 rfl, E.get 38 rfl, trivial⟩) (Fr.refl _ _).drew ?_ ?_
            · intro j9 o9 t9 ls9 a w5 ho hT0 hl E D DL hM
              have hs := hs.fr hM (fun _ _ h => h)
              have hkb38 := hkb38.fr hM
              have hX := Ix.fr hX hM (fun _ _ h => h)
              have hrb := hrb.fr hM
              have hrowg := fun j u hu => hM.cell (hrowg j u hu) id
              have hcb52 := hcb52.fr hM
              have hrowgz := fun j u hu => hM.cell (hrowgz j u hu) id
              have hcb54 := hcb54.fr hM
              match j9, ho, hT0, hl, D, DL with
              | 0, ho, hT0, hl, D, DL =>
                obtain rfl := Option.some.inj ho
                obtain rfl := Option.some.inj hT0
                clear ho hT0
                exact val_wp (run_ld26 rfl (E.get 0 rfl) (rng4 (p := c2) hcb54.1 0 rfl rfl rfl rfl)) rfl hM
              | 1, ho, hT0, hl, D, DL =>
                obtain rfl := Option.some.inj ho
                obtain rfl := Option.some.inj hT0
                clear ho hT0
                exact val_wp (run_ld24 rfl (E.get 34 rfl) (rng2 (p := pt) hkb38.1 0 rfl rfl)) rfl hM
              | 2, ho, hT0, hl, D, DL =>
                obtain rfl := Option.some.inj ho
                obtain rfl := Option.some.inj hT0
                clear ho hT0
                exact call_wp (run_call2 (enters_of Try.func28 (by kernel_rfl) rfl) rfl rfl (D 0 _ rfl rfl) (D 1 _ rfl rfl)) (rdist_calls c2 pt _ hokc2 hptP) rfl fun w9 f1 => (hM.trans f1)
              | 3, ho, hT0, hl, D, DL =>
                obtain rfl := Option.some.inj ho
                obtain rfl := Option.some.inj hT0
                clear ho hT0
                exact val_wp (run_ld26 rfl (E.get 16 rfl) (rng4 (p := c) hcb52.1 0 rfl rfl rfl rfl)) rfl hM
              | 4, ho, hT0, hl, D, DL =>
                obtain rfl := Option.some.inj ho
                obtain rfl := Option.some.inj hT0
                clear ho hT0
                exact val_wp (run_ld24 rfl (E.get 34 rfl) (rng2 (p := pt) hkb38.1 0 rfl rfl)) rfl hM
              | 5, ho, hT0, hl, D, DL =>
                obtain rfl := Option.some.inj ho
                obtain rfl := Option.some.inj hT0
                clear ho hT0
                exact call_wp (run_call2 (enters_of Try.func28 (by kernel_rfl) rfl) rfl rfl (D 3 _ rfl rfl) (D 4 _ rfl rfl)) (rdist_calls c pt _ hokc hptP) rfl fun w9 f1 => (hM.trans f1)
              | 6, ho, hT0, hl, D, DL =>
                obtain rfl := Option.some.inj ho
                obtain rfl := Option.some.inj hT0
                clear ho hT0
                exact val_wp (run_assign rfl (D 2 _ rfl rfl)) rfl hM
              | 7, ho, hT0, hl, D, DL =>
                obtain rfl := Option.some.inj ho
                obtain rfl := Option.some.inj hT0
                clear ho hT0
                exact val_wp (run_assign rfl (D 5 _ rfl rfl)) rfl hM
              | j9 + 8, ho, hT0, hl, D, DL => exact absurd hT0 (by simp)
            · intro a w5 E V hM
              have E := E.add (V 6 _ rfl)
              have E := E.add (V 7 _ rfl)
              clear V
              have hs := hs.fr hM (fun _ _ h => h)
              have hkb38 := hkb38.fr hM
              have hX := Ix.fr hX hM (fun _ _ h => h)
              have hrb := hrb.fr hM
              have hrowg := fun j u hu => hM.cell (hrowg j u hu) id
              have hcb52 := hcb52.fr hM
              have hrowgz := fun j u hu => hM.cell (hrowgz j u hu) id
              have hcb54 := hcb54.fr hM
              have hf := hf.trans hM
              clear hM
              refine then_n ?_
              refine wp_seq ?_
              cases hq56 : ((dsB c2 pt) == (dsB c pt)) with
              | false =>
                refine wp_region_invg (n := 182) (base := [(19, .int .i64 (dsB c pt)), (18, .int .i64 (dsB c2 pt)), (16, .pointer (some ⟨b54, 0, none⟩)), (100, .bool true), (99, .agg (bxC c2)), (91, .tuple #[.agg (bxC c2), .bool true]), (98, .tuple #[.agg (bxC c2), .bool true]), (97, .string z), (96, .pointer (some ⟨gz, (offgz + (i - 1)), none⟩)), (95, .int .i64 ((i : Int) - 1)), (94, .int .i64 (i : Int)), (93, .slice (prb) Rb.length crb), (92, .pointer (some ⟨q, 0, none⟩)), (90, .bool false), (89, .int .i64 (i : Int)), (88, .bool false), (87, .bool true), (15, .bool true), (14, .pointer (some ⟨b52, 0, none⟩)), (86, .bool true), (85, .agg (bxC c)), (78, .tuple #[.agg (bxC c), .bool true]), (84, .tuple #[.agg (bxC c), .bool true]), (83, .string s), (82, .pointer (some ⟨g, (offg + i), none⟩)), (81, .int .i64 (i : Int)), (80, .slice (prb) Rb.length crb), (79, .pointer (some ⟨q, 0, none⟩)), (75, .bool true), (74, .int .i64 (Rb.length : Int)), (73, .slice (prb) Rb.length crb), (72, .int .i64 (i : Int)), (13, .int .i64 (i : Int)), (12, .slice (prb) Rb.length crb), (10, .pointer (some ⟨q, 0, none⟩)), (9, .bool true), (5, .pointer (some ⟨b38, 0, none⟩)), (2, .int .i64 n0), (3, .int .i64 m0), (0, .slice (p) l.length cap)]) (T := [some (107, .int .i64 (dsB c2 pt)), some (108, .int .i64 (dsB c pt)), some (109, .bool false), some (110, .bool false), some (111, .int .i64 (dsB c2 pt)), some (112, .int .i64 (dsB c pt)), some (113, .bool false), some (114, .bool false), some (115, undef), some (116, undef), some (117, undef), some (118, undef), some (119, undef), some (120, undef), some (121, undef), some (122, undef), some (123, undef), some (124, undef), some (125, .bool false), some (126, .bool false)]) (M := fun _ wm => Fr (fun _ => False) w5 wm) (by kernel_rfl) (by kernel_rfl) (by kernel_rfl) (E.of ⟨E.get 0 rfl, E.get 1 rfl, E.get 2 rfl, E.get 3 rfl, E.get 4 rfl, E.get 5 rfl, E.get 6 rfl, E.get 7 rfl, E.get 8 rfl, E.get 9 rfl, E.get 10 rfl, E.get 11 rfl, E.get 12 rfl, E.get 13 rfl, E.get 14 rfl, E.get 15 rfl, E.get 16 rfl, E.get 17 rfl, E.get 18 rfl, E.get 19 rfl, E.get 20 rfl, E.get 21 rfl, E.get 22 rfl, E.get 23 rfl, E.get 24 rfl, E.get 25 rfl, E.get 26 rfl, E.get 27 rfl, E.get 28 rfl, E.get 29 rfl, E.get 30 rfl, E.get 31 rfl, E.get 32 rfl, E.get 33 rfl, E.get 34 rfl, E.get 35 rfl, E.get 36 rfl, E.get 37 rfl, E.get 38 rfl, E.get 39 rfl, trivial⟩) (Fr.refl _ _).drew ?_ ?_
                · intro j9 o9 t9 ls9 a w5 ho hT0 hl E D DL hM
                  have hs := hs.fr hM (fun _ _ h => h)
                  have hkb38 := hkb38.fr hM
                  have hX := Ix.fr hX hM (fun _ _ h => h)
                  have hrb := hrb.fr hM
                  have hrowg := fun j u hu => hM.cell (hrowg j u hu) id
                  have hcb52 := hcb52.fr hM
                  have hrowgz := fun j u hu => hM.cell (hrowgz j u hu) id
                  have hcb54 := hcb54.fr hM
                  match j9, ho, hT0, hl, D, DL with
                  | 0, ho, hT0, hl, D, DL =>
                    obtain rfl := Option.some.inj ho
                    obtain rfl := Option.some.inj hT0
                    clear ho hT0
                    exact ⟨fun _ => val_wp (run_move rfl (E.get 1 rfl)) rfl hM, fun h => by rw [wanted_none rfl] at h; cases h⟩
                  | 1, ho, hT0, hl, D, DL =>
                    obtain rfl := Option.some.inj ho
                    obtain rfl := Option.some.inj hT0
                    clear ho hT0
                    exact ⟨fun _ => val_wp (run_move rfl (E.get 0 rfl)) rfl hM, fun h => by rw [wanted_none rfl] at h; cases h⟩
                  | 2, ho, hT0, hl, D, DL =>
                    obtain rfl := Option.some.inj ho
                    obtain rfl := Option.some.inj hT0
                    clear ho hT0
                    exact ⟨fun _ => val_wp ((run_igtr (D 0 _ rfl rfl) (D 1 _ rfl rfl) Try.underlying3 rfl).trans (by rw [hgt] <;> rfl)) rfl hM, fun h => by rw [wanted_none rfl] at h; cases h⟩
                  | 3, ho, hT0, hl, D, DL =>
                    obtain rfl := Option.some.inj ho
                    obtain rfl := Option.some.inj hT0
                    clear ho hT0
                    exact ⟨fun _ => val_wp (run_move rfl (D 2 _ rfl rfl)) rfl hM, fun h => by rw [wanted_none rfl] at h; cases h⟩
                  | 4, ho, hT0, hl, D, DL =>
                    obtain rfl := Option.some.inj ho
                    obtain rfl := Option.some.inj hT0
                    clear ho hT0
                    exact ⟨fun _ => val_wp (run_move rfl (E.get 1 rfl)) rfl hM, fun h => by rw [w_yes (g := 3) (s := 110) (b := false) E rfl rfl (by decide) (D 3 _ rfl rfl)] at h; cases h⟩
                  | 5, ho, hT0, hl, D, DL =>
                    obtain rfl := Option.some.inj ho
                    obtain rfl := Option.some.inj hT0
                    clear ho hT0
                    exact ⟨fun _ => val_wp (run_move rfl (E.get 0 rfl)) rfl hM, fun h => by rw [w_yes (g := 3) (s := 110) (b := false) E rfl rfl (by decide) (D 3 _ rfl rfl)] at h; cases h⟩
                  | 6, ho, hT0, hl, D, DL =>
                    obtain rfl := Option.some.inj ho
                    obtain rfl := Option.some.inj hT0
                    clear ho hT0
                    exact ⟨fun _ => val_wp ((run_ieql (D 4 _ rfl rfl) (D 5 _ rfl rfl) Try.underlying3 rfl).trans (by rw [hq56] <;> rfl)) rfl hM, fun h => by rw [w_yes (g := 3) (s := 110) (b := false) E rfl rfl (by decide) (D 3 _ rfl rfl)] at h; cases h⟩
                  | 7, ho, hT0, hl, D, DL =>
                    obtain rfl := Option.some.inj ho
                    obtain rfl := Option.some.inj hT0
                    clear ho hT0
                    exact ⟨fun _ => val_wp (run_move rfl (D 6 _ rfl rfl)) rfl hM, fun h => by rw [w_yes (g := 3) (s := 110) (b := false) E rfl rfl (by decide) (D 3 _ rfl rfl)] at h; cases h⟩
                  | 8, ho, hT0, hl, D, DL =>
                    obtain rfl := Option.some.inj ho
                    obtain rfl := Option.some.inj hT0
                    clear ho hT0
                    exact ⟨fun h => (by rw [w_no (g := 7) (s := 114) (b := true) E rfl rfl (by decide) (D 7 _ rfl rfl)] at h; cases h), fun _ => ⟨fun x hx => by cases hx; rfl, hM⟩⟩
                  | 9, ho, hT0, hl, D, DL =>
                    obtain rfl := Option.some.inj ho
                    obtain rfl := Option.some.inj hT0
                    clear ho hT0
                    exact ⟨fun h => (by rw [w_no (g := 7) (s := 114) (b := true) E rfl rfl (by decide) (D 7 _ rfl rfl)] at h; cases h), fun _ => ⟨fun x hx => by cases hx; rfl, hM⟩⟩
                  | 10, ho, hT0, hl, D, DL =>
                    obtain rfl := Option.some.inj ho
                    obtain rfl := Option.some.inj hT0
                    clear ho hT0
                    exact ⟨fun h => (by rw [w_no (g := 7) (s := 114) (b := true) E rfl rfl (by decide) (D 7 _ rfl rfl)] at h; cases h), fun _ => ⟨fun x hx => by cases hx; rfl, hM⟩⟩
                  | 11, ho, hT0, hl, D, DL =>
                    obtain rfl := Option.some.inj ho
                    obtain rfl := Option.some.inj hT0
                    clear ho hT0
                    exact ⟨fun h => (by rw [w_no (g := 7) (s := 114) (b := true) E rfl rfl (by decide) (D 7 _ rfl rfl)] at h; cases h), fun _ => ⟨fun x hx => by cases hx; rfl, hM⟩⟩
                  | 12, ho, hT0, hl, D, DL =>
                    obtain rfl := Option.some.inj ho
                    obtain rfl := Option.some.inj hT0
                    clear ho hT0
                    exact ⟨fun h => (by rw [w_no (g := 7) (s := 114) (b := true) E rfl rfl (by decide) (D 7 _ rfl rfl)] at h; cases h), fun _ => ⟨fun x hx => by cases hx; rfl, hM⟩⟩
                  | 13, ho, hT0, hl, D, DL =>
                    obtain rfl := Option.some.inj ho
                    obtain rfl := Option.some.inj hT0
                    clear ho hT0
                    exact ⟨fun h => (by rw [w_no (g := 7) (s := 114) (b := true) E rfl rfl (by decide) (D 7 _ rfl rfl)] at h; cases h), fun _ => ⟨fun x hx => by cases hx; rfl, hM⟩⟩
                  | 14, ho, hT0, hl, D, DL =>
                    obtain rfl := Option.some.inj ho
                    obtain rfl := Option.some.inj hT0
                    clear ho hT0
                    exact ⟨fun h => (by rw [w_no (g := 7) (s := 114) (b := true) E rfl rfl (by decide) (D 7 _ rfl rfl)] at h; cases h), fun _ => ⟨fun x hx => by cases hx; rfl, hM⟩⟩
                  | 15, ho, hT0, hl, D, DL =>
                    obtain rfl := Option.some.inj ho
                    obtain rfl := Option.some.inj hT0
                    clear ho hT0
                    exact ⟨fun h => (by rw [w_no (g := 7) (s := 114) (b := true) E rfl rfl (by decide) (D 7 _ rfl rfl)] at h; cases h), fun _ => ⟨fun x hx => by cases hx; rfl, hM⟩⟩
                  | 16, ho, hT0, hl, D, DL =>
                    obtain rfl := Option.some.inj ho
                    obtain rfl := Option.some.inj hT0
                    clear ho hT0
                    exact ⟨fun h => (by rw [w_no (g := 7) (s := 114) (b := true) E rfl rfl (by decide) (D 7 _ rfl rfl)] at h; cases h), fun _ => ⟨fun x hx => by cases hx; rfl, hM⟩⟩
                  | 17, ho, hT0, hl, D, DL =>
                    obtain rfl := Option.some.inj ho
                    obtain rfl := Option.some.inj hT0
                    clear ho hT0
                    exact ⟨fun h => (by rw [w_no (g := 7) (s := 114) (b := true) E rfl rfl (by decide) (D 7 _ rfl rfl)] at h; cases h), fun _ => ⟨fun x hx => by cases hx; rfl, hM⟩⟩
                  | 18, ho, hT0, hl, D, DL =>
                    obtain rfl := Option.some.inj ho
                    obtain rfl := Option.some.inj hT0
                    clear ho hT0
                    exact ⟨fun _ => val_wp (run_pick_f rfl (D 7 _ rfl rfl) rfl) rfl hM, fun h => by rw [w_yes (g := 3) (s := 110) (b := false) E rfl rfl (by decide) (D 3 _ rfl rfl)] at h; cases h⟩
                  | 19, ho, hT0, hl, D, DL =>
                    obtain rfl := Option.some.inj ho
                    obtain rfl := Option.some.inj hT0
                    clear ho hT0
                    exact ⟨fun _ => val_wp (run_pick_f rfl (D 3 _ rfl rfl) (D 18 _ rfl rfl)) rfl hM, fun h => by rw [wanted_none rfl] at h; cases h⟩
                  | j9 + 20, ho, hT0, hl, D, DL => exact absurd hT0 (by simp)
                · intro a w5 E V hM
                  have E := E.add (V 19 _ rfl)
                  clear V
                  have hs := hs.fr hM (fun _ _ h => h)
                  have hkb38 := hkb38.fr hM
                  have hX := Ix.fr hX hM (fun _ _ h => h)
                  have hrb := hrb.fr hM
                  have hrowg := fun j u hu => hM.cell (hrowg j u hu) id
                  have hcb52 := hcb52.fr hM
                  have hrowgz := fun j u hu => hM.cell (hrowgz j u hu) id
                  have hcb54 := hcb54.fr hM
                  have hf := hf.trans hM
                  clear hM
                  refine then_n ?_
                  refine wp_cond_false (E.get 0 rfl) ?_
                  refine wp_skip ?_
                  refine blk_n ?_
                  refine then_n ?_
                  refine wp_region_lit ?_
                  refine env_put (d := 76) (v := .int .i64 (i : Int)) E rfl (by decide) rfl (wanted_none rfl _) (run_move rfl (E.get 33 rfl)) fun a E => ?_
                  refine env_put (d := 77) (v := .int .i64 ((i : Int) + 1)) E rfl (by decide) rfl (wanted_none rfl _) (run_iadd Try.underlying3 (E.get 0 rfl) rfl (by omega) (by omega) rfl) fun a E => ?_
                  refine env_set (d := 13) (v := .int .i64 ((i : Int) + 1)) E rfl (by decide) (wanted_none rfl _) (run_assign rfl (E.get 0 rfl)) fun a E => ?_
                  refine wpList_nil ?_
                  refine then_n ?_
                  refine ⟨⟨i + 1, E.of ⟨E.get 0 rfl, E.get 36 rfl, E.get 37 rfl, E.get 38 rfl, E.get 39 rfl, E.get 40 rfl, E.get 41 rfl, E.get 42 rfl, trivial⟩, by omega, hX, hs, hf, hkb38, hrb⟩, ?_⟩
                  rw [E.get 0 rfl]; simp only [intOf]; omega
              | true =>
                have hsl : Op.bytesLess z.toList s.toList = true := by
                  have h9 := beq_iff_eq.1 hq56
                  unfold ns at hns
                  rcases hns with h8 | h8
                  · simp only at h8; omega
                  · exact h8.2
                refine wp_region_invg (n := 182) (base := [(19, .int .i64 (dsB c pt)), (18, .int .i64 (dsB c2 pt)), (16, .pointer (some ⟨b54, 0, none⟩)), (100, .bool true), (99, .agg (bxC c2)), (91, .tuple #[.agg (bxC c2), .bool true]), (98, .tuple #[.agg (bxC c2), .bool true]), (97, .string z), (96, .pointer (some ⟨gz, (offgz + (i - 1)), none⟩)), (95, .int .i64 ((i : Int) - 1)), (94, .int .i64 (i : Int)), (93, .slice (prb) Rb.length crb), (92, .pointer (some ⟨q, 0, none⟩)), (90, .bool false), (89, .int .i64 (i : Int)), (88, .bool false), (87, .bool true), (15, .bool true), (14, .pointer (some ⟨b52, 0, none⟩)), (86, .bool true), (85, .agg (bxC c)), (78, .tuple #[.agg (bxC c), .bool true]), (84, .tuple #[.agg (bxC c), .bool true]), (83, .string s), (82, .pointer (some ⟨g, (offg + i), none⟩)), (81, .int .i64 (i : Int)), (80, .slice (prb) Rb.length crb), (79, .pointer (some ⟨q, 0, none⟩)), (75, .bool true), (74, .int .i64 (Rb.length : Int)), (73, .slice (prb) Rb.length crb), (72, .int .i64 (i : Int)), (13, .int .i64 (i : Int)), (12, .slice (prb) Rb.length crb), (10, .pointer (some ⟨q, 0, none⟩)), (9, .bool true), (5, .pointer (some ⟨b38, 0, none⟩)), (2, .int .i64 n0), (3, .int .i64 m0), (0, .slice (p) l.length cap)]) (T := [some (107, .int .i64 (dsB c2 pt)), some (108, .int .i64 (dsB c pt)), some (109, .bool false), some (110, .bool false), some (111, .int .i64 (dsB c2 pt)), some (112, .int .i64 (dsB c pt)), some (113, .bool true), some (114, .bool true), some (115, .slice (prb) Rb.length crb), some (116, .int .i64 (i : Int)), some (117, .int .i64 ((i : Int) - 1)), some (118, .pointer (some ⟨gz, (offgz + (i - 1)), none⟩)), some (119, .string z), some (120, .slice (prb) Rb.length crb), some (121, .int .i64 (i : Int)), some (122, .pointer (some ⟨g, (offg + i), none⟩)), some (123, .string s), some (124, .bool false), some (125, .bool false), some (126, .bool false)]) (M := fun _ wm => Fr (fun _ => False) w5 wm) (by kernel_rfl) (by kernel_rfl) (by kernel_rfl) (E.of ⟨E.get 0 rfl, E.get 1 rfl, E.get 2 rfl, E.get 3 rfl, E.get 4 rfl, E.get 5 rfl, E.get 6 rfl, E.get 7 rfl, E.get 8 rfl, E.get 9 rfl, E.get 10 rfl, E.get 11 rfl, E.get 12 rfl, E.get 13 rfl, E.get 14 rfl, E.get 15 rfl, E.get 16 rfl, E.get 17 rfl, E.get 18 rfl, E.get 19 rfl, E.get 20 rfl, E.get 21 rfl, E.get 22 rfl, E.get 23 rfl, E.get 24 rfl, E.get 25 rfl, E.get 26 rfl, E.get 27 rfl, E.get 28 rfl, E.get 29 rfl, E.get 30 rfl, E.get 31 rfl, E.get 32 rfl, E.get 33 rfl, E.get 34 rfl, E.get 35 rfl, E.get 36 rfl, E.get 37 rfl, E.get 38 rfl, E.get 39 rfl, trivial⟩) (Fr.refl _ _).drew ?_ ?_
                · intro j9 o9 t9 ls9 a w5 ho hT0 hl E D DL hM
                  have hs := hs.fr hM (fun _ _ h => h)
                  have hkb38 := hkb38.fr hM
                  have hX := Ix.fr hX hM (fun _ _ h => h)
                  have hrb := hrb.fr hM
                  have hrowg := fun j u hu => hM.cell (hrowg j u hu) id
                  have hcb52 := hcb52.fr hM
                  have hrowgz := fun j u hu => hM.cell (hrowgz j u hu) id
                  have hcb54 := hcb54.fr hM
                  match j9, ho, hT0, hl, D, DL with
                  | 0, ho, hT0, hl, D, DL =>
                    obtain rfl := Option.some.inj ho
                    obtain rfl := Option.some.inj hT0
                    clear ho hT0
                    exact ⟨fun _ => val_wp (run_move rfl (E.get 1 rfl)) rfl hM, fun h => by rw [wanted_none rfl] at h; cases h⟩
                  | 1, ho, hT0, hl, D, DL =>
                    obtain rfl := Option.some.inj ho
                    obtain rfl := Option.some.inj hT0
                    clear ho hT0
                    exact ⟨fun _ => val_wp (run_move rfl (E.get 0 rfl)) rfl hM, fun h => by rw [wanted_none rfl] at h; cases h⟩
                  | 2, ho, hT0, hl, D, DL =>
                    obtain rfl := Option.some.inj ho
                    obtain rfl := Option.some.inj hT0
                    clear ho hT0
                    exact ⟨fun _ => val_wp ((run_igtr (D 0 _ rfl rfl) (D 1 _ rfl rfl) Try.underlying3 rfl).trans (by rw [hgt] <;> rfl)) rfl hM, fun h => by rw [wanted_none rfl] at h; cases h⟩
                  | 3, ho, hT0, hl, D, DL =>
                    obtain rfl := Option.some.inj ho
                    obtain rfl := Option.some.inj hT0
                    clear ho hT0
                    exact ⟨fun _ => val_wp (run_move rfl (D 2 _ rfl rfl)) rfl hM, fun h => by rw [wanted_none rfl] at h; cases h⟩
                  | 4, ho, hT0, hl, D, DL =>
                    obtain rfl := Option.some.inj ho
                    obtain rfl := Option.some.inj hT0
                    clear ho hT0
                    exact ⟨fun _ => val_wp (run_move rfl (E.get 1 rfl)) rfl hM, fun h => by rw [w_yes (g := 3) (s := 110) (b := false) E rfl rfl (by decide) (D 3 _ rfl rfl)] at h; cases h⟩
                  | 5, ho, hT0, hl, D, DL =>
                    obtain rfl := Option.some.inj ho
                    obtain rfl := Option.some.inj hT0
                    clear ho hT0
                    exact ⟨fun _ => val_wp (run_move rfl (E.get 0 rfl)) rfl hM, fun h => by rw [w_yes (g := 3) (s := 110) (b := false) E rfl rfl (by decide) (D 3 _ rfl rfl)] at h; cases h⟩
                  | 6, ho, hT0, hl, D, DL =>
                    obtain rfl := Option.some.inj ho
                    obtain rfl := Option.some.inj hT0
                    clear ho hT0
                    exact ⟨fun _ => val_wp ((run_ieql (D 4 _ rfl rfl) (D 5 _ rfl rfl) Try.underlying3 rfl).trans (by rw [hq56] <;> rfl)) rfl hM, fun h => by rw [w_yes (g := 3) (s := 110) (b := false) E rfl rfl (by decide) (D 3 _ rfl rfl)] at h; cases h⟩
                  | 7, ho, hT0, hl, D, DL =>
                    obtain rfl := Option.some.inj ho
                    obtain rfl := Option.some.inj hT0
                    clear ho hT0
                    exact ⟨fun _ => val_wp (run_move rfl (D 6 _ rfl rfl)) rfl hM, fun h => by rw [w_yes (g := 3) (s := 110) (b := false) E rfl rfl (by decide) (D 3 _ rfl rfl)] at h; cases h⟩
                  | 8, ho, hT0, hl, D, DL =>
                    obtain rfl := Option.some.inj ho
                    obtain rfl := Option.some.inj hT0
                    clear ho hT0
                    exact ⟨fun _ => val_wp (run_move rfl (E.get 33 rfl)) rfl hM, fun h => by rw [w_yes (g := 7) (s := 114) (b := true) E rfl rfl (by decide) (D 7 _ rfl rfl)] at h; cases h⟩
                  | 9, ho, hT0, hl, D, DL =>
                    obtain rfl := Option.some.inj ho
                    obtain rfl := Option.some.inj hT0
                    clear ho hT0
                    exact ⟨fun _ => val_wp (run_move rfl (E.get 32 rfl)) rfl hM, fun h => by rw [w_yes (g := 7) (s := 114) (b := true) E rfl rfl (by decide) (D 7 _ rfl rfl)] at h; cases h⟩
                  | 10, ho, hT0, hl, D, DL =>
                    obtain rfl := Option.some.inj ho
                    obtain rfl := Option.some.inj hT0
                    clear ho hT0
                    exact ⟨fun _ => val_wp (run_isub Try.underlying3 (D 9 _ rfl rfl) rfl (by omega) (by omega) rfl) rfl hM, fun h => by rw [w_yes (g := 7) (s := 114) (b := true) E rfl rfl (by decide) (D 7 _ rfl rfl)] at h; cases h⟩
                  | 11, ho, hT0, hl, D, DL =>
                    obtain rfl := Option.some.inj ho
                    obtain rfl := Option.some.inj hT0
                    clear ho hT0
                    exact ⟨fun _ => val_wp (run_index42z (i := (i - 1)) (by omega) rfl ((D 8 _ rfl rfl).trans (by rw [hpegz])) (D 10 _ rfl rfl) hltz) rfl hM, fun h => by rw [w_yes (g := 7) (s := 114) (b := true) E rfl rfl (by decide) (D 7 _ rfl rfl)] at h; cases h⟩
                  | 12, ho, hT0, hl, D, DL =>
                    obtain rfl := Option.some.inj ho
                    obtain rfl := Option.some.inj hT0
                    clear ho hT0
                    exact ⟨fun _ => val_wp (run_lds rfl (D 11 _ rfl rfl) (str_at hrowgz)) rfl hM, fun h => by rw [w_yes (g := 7) (s := 114) (b := true) E rfl rfl (by decide) (D 7 _ rfl rfl)] at h; cases h⟩
                  | 13, ho, hT0, hl, D, DL =>
                    obtain rfl := Option.some.inj ho
                    obtain rfl := Option.some.inj hT0
                    clear ho hT0
                    exact ⟨fun _ => val_wp (run_move rfl (E.get 33 rfl)) rfl hM, fun h => by rw [w_yes (g := 7) (s := 114) (b := true) E rfl rfl (by decide) (D 7 _ rfl rfl)] at h; cases h⟩
                  | 14, ho, hT0, hl, D, DL =>
                    obtain rfl := Option.some.inj ho
                    obtain rfl := Option.some.inj hT0
                    clear ho hT0
                    exact ⟨fun _ => val_wp (run_move rfl (E.get 32 rfl)) rfl hM, fun h => by rw [w_yes (g := 7) (s := 114) (b := true) E rfl rfl (by decide) (D 7 _ rfl rfl)] at h; cases h⟩
                  | 15, ho, hT0, hl, D, DL =>
                    obtain rfl := Option.some.inj ho
                    obtain rfl := Option.some.inj hT0
                    clear ho hT0
                    exact ⟨fun _ => val_wp (run_index42 (i := i) rfl ((D 13 _ rfl rfl).trans (by rw [hpeg])) (D 14 _ rfl rfl) hlts) rfl hM, fun h => by rw [w_yes (g := 7) (s := 114) (b := true) E rfl rfl (by decide) (D 7 _ rfl rfl)] at h; cases h⟩
                  | 16, ho, hT0, hl, D, DL =>
                    obtain rfl := Option.some.inj ho
                    obtain rfl := Option.some.inj hT0
                    clear ho hT0
                    exact ⟨fun _ => val_wp (run_lds rfl (D 15 _ rfl rfl) (str_at hrowg)) rfl hM, fun h => by rw [w_yes (g := 7) (s := 114) (b := true) E rfl rfl (by decide) (D 7 _ rfl rfl)] at h; cases h⟩
                  | 17, ho, hT0, hl, D, DL =>
                    obtain rfl := Option.some.inj ho
                    obtain rfl := Option.some.inj hT0
                    clear ho hT0
                    exact ⟨fun _ => val_wp ((run_sgeq (D 12 _ rfl rfl) (D 16 _ rfl rfl) rfl).trans (by rw [hsl] <;> rfl)) rfl hM, fun h => by rw [w_yes (g := 7) (s := 114) (b := true) E rfl rfl (by decide) (D 7 _ rfl rfl)] at h; cases h⟩
                  | 18, ho, hT0, hl, D, DL =>
                    obtain rfl := Option.some.inj ho
                    obtain rfl := Option.some.inj hT0
                    clear ho hT0
                    exact ⟨fun _ => val_wp (run_pick_t rfl (D 7 _ rfl rfl) (D 17 _ rfl rfl)) rfl hM, fun h => by rw [w_yes (g := 3) (s := 110) (b := false) E rfl rfl (by decide) (D 3 _ rfl rfl)] at h; cases h⟩
                  | 19, ho, hT0, hl, D, DL =>
                    obtain rfl := Option.some.inj ho
                    obtain rfl := Option.some.inj hT0
                    clear ho hT0
                    exact ⟨fun _ => val_wp (run_pick_f rfl (D 3 _ rfl rfl) (D 18 _ rfl rfl)) rfl hM, fun h => by rw [wanted_none rfl] at h; cases h⟩
                  | j9 + 20, ho, hT0, hl, D, DL => exact absurd hT0 (by simp)
                · intro a w5 E V hM
                  have E := E.add (V 19 _ rfl)
                  clear V
                  have hs := hs.fr hM (fun _ _ h => h)
                  have hkb38 := hkb38.fr hM
                  have hX := Ix.fr hX hM (fun _ _ h => h)
                  have hrb := hrb.fr hM
                  have hrowg := fun j u hu => hM.cell (hrowg j u hu) id
                  have hcb52 := hcb52.fr hM
                  have hrowgz := fun j u hu => hM.cell (hrowgz j u hu) id
                  have hcb54 := hcb54.fr hM
                  have hf := hf.trans hM
                  clear hM
                  refine then_n ?_
                  refine wp_cond_false (E.get 0 rfl) ?_
                  refine wp_skip ?_
                  refine blk_n ?_
                  refine then_n ?_
                  refine wp_region_lit ?_
                  refine env_put (d := 76) (v := .int .i64 (i : Int)) E rfl (by decide) rfl (wanted_none rfl _) (run_move rfl (E.get 33 rfl)) fun a E => ?_
                  refine env_put (d := 77) (v := .int .i64 ((i : Int) + 1)) E rfl (by decide) rfl (wanted_none rfl _) (run_iadd Try.underlying3 (E.get 0 rfl) rfl (by omega) (by omega) rfl) fun a E => ?_
                  refine env_set (d := 13) (v := .int .i64 ((i : Int) + 1)) E rfl (by decide) (wanted_none rfl _) (run_assign rfl (E.get 0 rfl)) fun a E => ?_
                  refine wpList_nil ?_
                  refine then_n ?_
                  refine ⟨⟨i + 1, E.of ⟨E.get 0 rfl, E.get 36 rfl, E.get 37 rfl, E.get 38 rfl, E.get 39 rfl, E.get 40 rfl, E.get 41 rfl, E.get 42 rfl, trivial⟩, by omega, hX, hs, hf, hkb38, hrb⟩, ?_⟩
                  rw [E.get 0 rfl]; simp only [intOf]; omega
          | true =>
            rw [hq53] at E
            refine wp_cond_true (E.get 0 rfl) ?_
            refine wp_exit ?_
            refine then_e ?_
            refine blk_e ?_
            refine then_n ?_
            refine wp_region_lit ?_
            refine env_put (d := 76) (v := .int .i64 (i : Int)) E rfl (by decide) rfl (wanted_none rfl _) (run_move rfl (E.get 19 rfl)) fun a E => ?_
            refine env_put (d := 77) (v := .int .i64 ((i : Int) + 1)) E rfl (by decide) rfl (wanted_none rfl _) (run_iadd Try.underlying3 (E.get 0 rfl) rfl (by omega) (by omega) rfl) fun a E => ?_
            refine env_set (d := 13) (v := .int .i64 ((i : Int) + 1)) E rfl (by decide) (wanted_none rfl _) (run_assign rfl (E.get 0 rfl)) fun a E => ?_
            refine wpList_nil ?_
            refine then_n ?_
            refine ⟨⟨i + 1, E.of ⟨E.get 0 rfl, E.get 22 rfl, E.get 23 rfl, E.get 24 rfl, E.get 25 rfl, E.get 26 rfl, E.get 27 rfl, E.get 28 rfl, trivial⟩, by omega, hX, hs, hf, hkb38, hrb⟩, ?_⟩
            rw [E.get 0 rfl]; simp only [intOf]; omega
end Go.Proofs.Ytcafnanbdmapgaa
