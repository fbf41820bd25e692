/- The laws of the index: IndexMatchesReference. -/
import Derived.Test.YtcafnanbdmapgaaP1
set_option linter.unusedVariables false
set_option linter.unusedSimpArgs false
namespace Go.Proofs.Ytcafnanbdmapgaa
open Go.RowKit Go.Pl

theorem wp_start5 {P : Program} {f : FuncId} {fn : Func} {c : Code} {R : Ending → World → Prop} {n : Nat} {w : World} {v0 v1 v2 v3 v4 : Value} (hf : P.funcs[f]? = some fn) (hb : fn.body = some c) (hn : fn.ntmps = n) (h2 : 5 ≤ n) (k : ∀ a, Env n [(0, v0), (1, v1), (2, v2), (3, v3), (4, v4)] a → c.wp P (bodyPost P fn R) a w) : Calls P f #[v0, v1, v2, v3, v4] w R := by
  refine calls_of_wp hf hb (k _ ⟨?_, ?_, rfl⟩)
  · simp [hn]; omega
  · intro x hx
    simp only [List.mem_cons, List.not_mem_nil, or_false] at hx
    rcases hx with rfl | rfl | rfl | rfl | rfl
    · show (#[v0, v1, v2, v3, v4] ++ Array.replicate (fn.ntmps - 5) undef).getD 0 undef = v0
      rw [Array.getD_eq_getD_getElem?, Array.getElem?_append_left (by simp)]; rfl
    · show (#[v0, v1, v2, v3, v4] ++ Array.replicate (fn.ntmps - 5) undef).getD 1 undef = v1
      rw [Array.getD_eq_getD_getElem?, Array.getElem?_append_left (by simp)]; rfl
    · show (#[v0, v1, v2, v3, v4] ++ Array.replicate (fn.ntmps - 5) undef).getD 2 undef = v2
      rw [Array.getD_eq_getD_getElem?, Array.getElem?_append_left (by simp)]; rfl
    · show (#[v0, v1, v2, v3, v4] ++ Array.replicate (fn.ntmps - 5) undef).getD 3 undef = v3
      rw [Array.getD_eq_getD_getElem?, Array.getElem?_append_left (by simp)]; rfl
    · show (#[v0, v1, v2, v3, v4] ++ Array.replicate (fn.ntmps - 5) undef).getD 4 undef = v4
      rw [Array.getD_eq_getD_getElem?, Array.getElem?_append_left (by simp)]; rfl
theorem run_beqb {o : Oper} {w : World} {ρ : Operand → Value} {x y : Operand} {b c : Bool} (hx : ρ x = .bool b) (hy : ρ y = .bool c) (ho : o.op = .binOp .eql 4 x y 4) : (execOp ρ o).run Try.prog w = .ok (.value (.bool (b == c))) w := by
  cases b <;> cases c <;> simp [execOp, ho, hx, hy, go_sem]
set_option maxRecDepth 100000 in
set_option maxHeartbeats 16000000 in
theorem matches_calls {w : World} {cap : Nat} {p : Option Addr} {l : List Wo} (hs : srcAt opL 6 w w.heap.size p l) (hb : l.length ≤ 9223372036854775807) (b : Bx) (pt : Pt) (n : Int) (id : ByteArray) : Calls Try.prog 3 #[.slice p l.length cap, .agg (bxC b), .agg (ptC pt), .int .i64 n, .string id] w fun e w' => e = .returned (.bool true) ∧ Fr (fun _ => False) w w' := by
  refine wp_start5 Try.func3 rfl rfl (n := 113) (by decide) fun a E => ?_
  have hf : Fr (fun _ => False) w w := Fr.refl _ _
  refine wp_seq ?_
  refine wp_region_lit ?_
  have hTl := (fun k hk => hk.elim : ∀ k, (fun _ : Nat => False) k → k < w.heap.size)
  refine env_box26 (d := 6) E rfl (by decide) rfl (wanted_none rfl _) rfl (E.get 1 rfl) fun a w1 b38 eb38 hb38 f1 E => ?_
  have hcb38 : Cw w1 (fun _ => False) b38 b := ⟨hb38, fun ht => by have := hTl b38 ht; omega⟩
  have hs := hs.fr f1 (fun _ _ h => h)
  have hf := hf.trans f1
  clear f1
  clear hb38 hTl eb38
  have hTl := (fun k hk => hk.elim : ∀ k, (fun _ : Nat => False) k → k < w1.heap.size)
  refine env_box24 (d := 7) E rfl (by decide) rfl (wanted_none rfl _) rfl (E.get 3 rfl) fun a w1 b39 eb39 hb39 f1 E => ?_
  have hkb39 : Kw w1 (fun _ => False) b39 (ptC pt) 24 := ⟨hb39, fun ht => by have := hTl b39 ht; omega⟩
  have hs := hs.fr f1 (fun _ _ h => h)
  have hcb38 := hcb38.fr f1
  have hf := hf.trans f1
  clear f1
  clear hb39 hTl eb39
  refine env_put (d := 10) (v := .bool false) E rfl (by decide) rfl (wanted_none rfl _) (run_assign rfl rfl) fun a E => ?_
  refine wpList_nil ?_
  refine then_n ?_
  refine wp_seq ?_
  refine wp_region_lit ?_
  refine env_call (d := 20) (v := .bool true) E rfl (by decide) rfl (wanted_none rfl _) (run_call0 (enters_of Try.func9 (by kernel_rfl) rfl) rfl rfl) (head_calls _) fun a w1 f1 E => ?_
  have hs := hs.fr f1 (fun _ _ h => h)
  have hcb38 := hcb38.fr f1
  have hkb39 := hkb39.fr f1
  have hf := hf.trans f1
  clear f1
  refine env_put (d := 11) (v := .bool true) E rfl (by decide) rfl (wanted_none rfl _) (run_assign rfl (E.get 0 rfl)) fun a E => ?_
  refine wpList_nil ?_
  refine then_n ?_
  refine wp_seq ?_
  refine wp_seq ?_
  refine wp_region_lit ?_
  refine env_put (d := 21) (v := .slice (p) l.length cap) E rfl (by decide) rfl (wanted_none rfl _) (run_move rfl (E.get 5 rfl)) fun a E => ?_
  refine env_call (d := 22) (v := .bool (shB l 80)) E rfl (by decide) rfl (wanted_none rfl _) (run_call2 (enters_of Try.func10 (by kernel_rfl) rfl) rfl rfl (E.get 0 rfl) rfl) (short_calls hs hb 80) fun a w1 f1 E => ?_
  have hs := hs.fr f1 (fun _ _ h => h)
  have hcb38 := hcb38.fr f1
  have hkb39 := hkb39.fr f1
  have hf := hf.trans f1
  clear f1
  refine env_put (d := 23) (v := .bool (!(shB l 80))) E rfl (by decide) rfl (wanted_none rfl _) (run_not rfl (E.get 0 rfl)) fun a E => ?_
  refine env_put (d := 24) (v := .bool (!(shB l 80))) E rfl (by decide) rfl (wanted_none rfl _) (run_move rfl (E.get 0 rfl)) fun a E => ?_
  cases hq40 : (shB l 80) with
  | false =>
    rw [hq40] at E
    refine env_skip (d := 25) (g := 3) (s := 24) E rfl (by decide) rfl rfl rfl (by decide) (E.get 0 rfl) fun a E => ?_
    refine env_skip (d := 26) (g := 3) (s := 24) E rfl (by decide) rfl rfl rfl (by decide) (E.get 1 rfl) fun a E => ?_
    refine env_skip (d := 27) (g := 3) (s := 24) E rfl (by decide) rfl rfl rfl (by decide) (E.get 2 rfl) fun a E => ?_
    refine env_put (d := 28) (v := .bool true) E rfl (by decide) rfl (wanted_none rfl _) (run_pick_t rfl (E.get 3 rfl) rfl) fun a E => ?_
    refine wpList_nil ?_
    refine then_n ?_
    refine wp_cond_true (E.get 0 rfl) ?_
    refine wp_seq ?_
    refine wp_region_lit ?_
    refine env_put (d := 29) (v := .bool true) E rfl (by decide) rfl (wanted_none rfl _) (run_move rfl (E.get 8 rfl)) fun a E => ?_
    refine env_set (d := 10) (v := .bool true) E rfl (by decide) (wanted_none rfl _) (run_assign rfl (E.get 0 rfl)) fun a E => ?_
    refine wpList_nil ?_
    refine then_n ?_
    refine wp_ret ?_
    refine then_r ?_
    exact ret_tmp (t := 10) rfl E (E.get 0 rfl) ⟨rfl, hf⟩
  | true =>
    rw [hq40] at E
    have hlen := shB.len hq40
    have hN9 : l.length ≤ 100000 := by omega
    refine env_put (d := 25) (v := .string id) E rfl (by decide) rfl (w_yes (g := 3) (s := 24) E rfl rfl (by decide) (E.get 0 rfl)) (run_move rfl (E.get 13 rfl)) fun a E => ?_
    refine env_put (d := 26) (v := .int .i64 (id.size : Int)) E rfl (by decide) rfl (w_yes (g := 3) (s := 24) E rfl rfl (by decide) (E.get 1 rfl)) (run_len9 rfl (E.get 0 rfl)) fun a E => ?_
    refine env_put (d := 27) (v := .bool (decide (100 < (id.size : Int)))) E rfl (by decide) rfl (w_yes (g := 3) (s := 24) E rfl rfl (by decide) (E.get 2 rfl)) (run_igtr (E.get 0 rfl) rfl Try.underlying3 rfl) fun a E => ?_
    refine env_put (d := 28) (v := .bool (decide (100 < (id.size : Int)))) E rfl (by decide) rfl (wanted_none rfl _) (run_pick_f rfl (E.get 3 rfl) (E.get 0 rfl)) fun a E => ?_
    refine wpList_nil ?_
    refine then_n ?_
    cases hq41 : (decide (100 < (id.size : Int))) with
    | false =>
      rw [hq41] at E
      refine wp_cond_false (E.get 0 rfl) ?_
      refine wp_skip ?_
      refine then_n ?_
      refine wp_seq ?_
      refine wp_region_lit ?_
      have hz0 := hf.size
      refine env_callv (d := 30) (R := fun u w8 => ∃ q T, u = .pointer (some ⟨q, 0, none⟩) ∧ Ix w8 w1.heap.size q 0 T (fun _ => none) ∧ Fr (fun _ => False) w1 w8) E rfl (by decide) rfl (wanted_none rfl _) (run_call0 (enters_of Try.func11 (by kernel_rfl) rfl) rfl rfl) ((ix_new w1).mono fun e w8 ⟨q, T, h1, h2, h3⟩ => ⟨_, h1, q, T, rfl, h2, h3⟩) fun a wb1 u9 hR E => ?_
      obtain ⟨q, T, rfl, hX, f1⟩ := hR
      have ht : TT w1 (fun _ => False) T := fun k hk => .inr (hX.lt k hk).1
      have hs := hs.fr f1 (fun _ _ h => h)
      have hcb38 := hcb38.q f1 ht
      have hkb39 := hkb39.q f1 ht
      have hf := hf.trans f1
      have hX := hX.base hz0
      clear f1 ht hz0
      refine env_put (d := 12) (v := .pointer (some ⟨q, 0, none⟩)) E rfl (by decide) rfl (wanted_none rfl _) (run_assign rfl (E.get 0 rfl)) fun a E => ?_
      refine wpList_nil ?_
      refine then_n ?_
      refine wp_seq ?_
      refine wp_region_lit ?_
      refine env_callv (d := 31) (R := fun u w8 => ∃ r U9, u = .pointer (some ⟨r, 0, none⟩) ∧ Two w8 w.heap.size q 0 (fun _ => none) r [] [] U9 ∧ Fr T wb1 w8 ∧ TT wb1 T U9) E rfl (by decide) rfl (wanted_none rfl _) (run_call0 (enters_of Try.func12 (by kernel_rfl) rfl) rfl rfl) (two_new hX hf.size) fun a wy u9 hR E => ?_
      obtain ⟨r, U, rfl, hX2, f2, ht⟩ := hR
      have hcb38 := hcb38.q f2 ht
      have hkb39 := hkb39.q f2 ht
      have hs := hs.fr f2 (fun r hr e => by have := (hX.lt r e).1; omega)
      have hf := hf.trans' f2 (fun r hr e => by have := (hX.lt r e).1; omega)
      have hX := hX2
      clear hX2 f2 ht
      have hF := RefOf.new
      refine env_put (d := 13) (v := .pointer (some ⟨r, 0, none⟩)) E rfl (by decide) rfl (wanted_none rfl _) (run_assign rfl (E.get 0 rfl)) fun a E => ?_
      refine wpList_nil ?_
      refine then_n ?_
      refine wp_seq ?_
      refine wp_seq ?_
      refine wp_region_lit ?_
      refine env_put (d := 14) (v := .int .i64 0) E rfl (by decide) rfl (wanted_none rfl _) (run_assign rfl rfl) fun a E => ?_
      refine wpList_nil ?_
      refine then_n ?_
      refine wp_block ?_
      refine wp_loop (fun a w2 => ∃ (i : Nat) (I : List ByteArray) (J : List Bx) (U : Nat → Prop), Env 113 [(14, .int .i64 (i : Int)), (12, .pointer (some ⟨q, 0, none⟩)), (13, .pointer (some ⟨r, 0, none⟩)), (11, .bool true), (6, .pointer (some ⟨b38, 0, none⟩)), (7, .pointer (some ⟨b39, 0, none⟩)), (3, .int .i64 n), (4, .string id), (0, .slice (p) l.length cap)] a ∧ i ≤ l.length ∧ Two w2 w.heap.size q i (mOf (l.take i)) r I J U ∧ RefOf (mOf (l.take i)) I J ∧ srcAt opL 6 w2 w.heap.size p l ∧ Fr (fun _ => False) w w2 ∧ Cw w2 U b38 b ∧ Kw w2 U b39 (ptC pt) 24) (fun a _ => l.length - (intOf (a.eval (.tmp 14))).toNat) ?_ ?_
      · exact ⟨0, [], [], U, E.of ⟨E.get 0 rfl, E.get 3 rfl, E.get 1 rfl, E.get 13 rfl, E.get 17 rfl, E.get 16 rfl, E.get 21 rfl, E.get 22 rfl, E.get 18 rfl, trivial⟩, Nat.zero_le _, hX, hF, hs, hf, hcb38, hkb39⟩
      clear E
      rintro a w2 ⟨i, I, J, U, E, hii, hX, hF, hs, hf, hcb38, hkb39⟩
      have hmu : l.length - (intOf (a.eval (.tmp 14))).toNat = l.length - i := by rw [E.get 0 rfl]; first | rfl | (simp [intOf]; done) | (simp only [intOf]; omega)
      rw [hmu]
      clear hmu
      refine wp_seq ?_
      refine wp_seq ?_
      refine wp_region_lit ?_
      refine env_put (d := 32) (v := .int .i64 (i : Int)) E rfl (by decide) rfl (wanted_none rfl _) (run_move rfl (E.get 0 rfl)) fun a E => ?_
      refine env_put (d := 33) (v := .slice (p) l.length cap) E rfl (by decide) rfl (wanted_none rfl _) (run_move rfl (E.get 9 rfl)) fun a E => ?_
      refine env_put (d := 34) (v := .int .i64 (l.length : Int)) E rfl (by decide) rfl (wanted_none rfl _) (run_len22 rfl (E.get 0 rfl)) fun a E => ?_
      refine env_put (d := 35) (v := .bool (decide ((i : Int) < (l.length : Int)))) E rfl (by decide) rfl (wanted_none rfl _) (run_ilss (E.get 2 rfl) (E.get 0 rfl) Try.underlying3 rfl) fun a E => ?_
      refine wpList_nil ?_
      refine then_n ?_
      cases hq43 : (decide ((i : Int) < (l.length : Int))) with
      | false =>
        rw [hq43] at E
        have hie : i = l.length := by have := of_decide_eq_false hq43; omega
        rw [hie, List.take_of_length_le (Nat.le_refl _)] at hX hF
        have hmi : ∀ s c, mOf l s = some c → s.size ≤ maxLen := mOf_size hq40
        obtain ⟨m, hm⟩ : ∃ m, m = mOf l := ⟨_, rfl⟩
        rw [← hm] at hX hF hmi
        have hszid : id.size ≤ maxLen := by have := of_decide_eq_false hq41; unfold maxLen; omega
        refine wp_cond_false (E.get 0 rfl) ?_
        refine wp_exit ?_
        refine then_e ?_
        refine then_e ?_
        refine blk_e ?_
        refine then_n ?_
        refine wp_seq ?_
        cases hmo : m id with
        | none =>
          refine wp_region_lit ?_
          refine env_put (d := 71) (v := .pointer (some ⟨q, 0, none⟩)) E rfl (by decide) rfl (wanted_none rfl _) (run_move rfl (E.get 5 rfl)) fun a E => ?_
          refine env_put (d := 72) (v := .string id) E rfl (by decide) rfl (wanted_none rfl _) (run_move rfl (E.get 12 rfl)) fun a E => ?_
          refine env_call (d := 73) (v := .tuple #[.agg (bxC ((0, 0), (0, 0))), .bool false]) E rfl (by decide) rfl (wanted_none rfl _) (run_call2 (enters_of Try.func16 (by kernel_rfl) rfl) rfl rfl (E.get 1 rfl) (E.get 0 rfl)) ((two_box hX id hszid).mono fun e w8 h => ⟨h.1.trans (by rw [hmo]; rfl), h.2⟩) fun a w1 f1 E => ?_
          have hs := hs.fr f1 (fun _ _ h => h)
          have hcb38 := hcb38.fr f1
          have hkb39 := hkb39.fr f1
          have hX := Two.fr hX f1 (fun _ _ h => h)
          have hf := hf.trans f1
          clear f1
          refine env_put (d := 70) (v := .tuple #[.agg (bxC ((0, 0), (0, 0))), .bool false]) E rfl (by decide) rfl (wanted_none rfl _) (run_move rfl (E.get 0 rfl)) fun a E => ?_
          refine env_put (d := 74) (v := .agg (bxC ((0, 0), (0, 0)))) E rfl (by decide) rfl (wanted_none rfl _) (run_ext0 rfl (E.get 0 rfl)) fun a E => ?_
          refine env_put (d := 75) (v := .bool false) E rfl (by decide) rfl (wanted_none rfl _) (run_ext1 rfl (E.get 1 rfl)) fun a E => ?_
          have hTl := (fun k hk => (hX.lt k hk).2 : ∀ k, U k → k < w1.heap.size)
          refine env_alloc26 (d := 16) E rfl (by decide) rfl (wanted_none rfl _) rfl fun a w1 b44 eb44 hb44 f1 E => ?_
          refine env_st26 E rfl (wanted_none rfl _) rfl (E.get 0 rfl) (E.get 2 rfl) hb44 fun w1 hb44 f2 E => ?_
          have f1 := f1.trans' f2 (fun r hr e => by omega)
          clear f2
          have hcb44 : Cw w1 U b44 ((0, 0), (0, 0)) := ⟨hb44, fun ht => by have := hTl b44 ht; omega⟩
          have hs := hs.fr f1 (fun _ _ h => h)
          have hcb38 := hcb38.fr f1
          have hkb39 := hkb39.fr f1
          have hX := Two.fr hX f1 (fun _ _ h => h)
          have hf := hf.trans f1
          clear f1
          clear hb44 hTl eb44
          refine env_put (d := 17) (v := .bool false) E rfl (by decide) rfl (wanted_none rfl _) (run_assign rfl (E.get 1 rfl)) fun a E => ?_
          refine wpList_nil ?_
          refine then_n ?_
          refine wp_seq ?_
          refine wp_region_lit ?_
          refine env_put (d := 77) (v := .pointer (some ⟨r, 0, none⟩)) E rfl (by decide) rfl (wanted_none rfl _) (run_move rfl (E.get 14 rfl)) fun a E => ?_
          refine env_put (d := 78) (v := .string id) E rfl (by decide) rfl (wanted_none rfl _) (run_move rfl (E.get 20 rfl)) fun a E => ?_
          refine env_call (d := 79) (v := .tuple #[.agg (bxC ((0, 0), (0, 0))), .bool false]) E rfl (by decide) rfl (wanted_none rfl _) (run_call2 (enters_of Try.func17 (by kernel_rfl) rfl) rfl rfl (E.get 1 rfl) (E.get 0 rfl)) ((two_rbox hX hF id).mono fun e w8 h => ⟨h.1.trans (by rw [hmo]; rfl), h.2⟩) fun a w1 f1 E => ?_
          have hs := hs.fr f1 (fun _ _ h => h)
          have hcb38 := hcb38.fr f1
          have hkb39 := hkb39.fr f1
          have hX := Two.fr hX f1 (fun _ _ h => h)
          have hcb44 := hcb44.fr f1
          have hf := hf.trans f1
          clear f1
          refine env_put (d := 76) (v := .tuple #[.agg (bxC ((0, 0), (0, 0))), .bool false]) E rfl (by decide) rfl (wanted_none rfl _) (run_move rfl (E.get 0 rfl)) fun a E => ?_
          refine env_put (d := 80) (v := .agg (bxC ((0, 0), (0, 0)))) E rfl (by decide) rfl (wanted_none rfl _) (run_ext0 rfl (E.get 0 rfl)) fun a E => ?_
          refine env_put (d := 81) (v := .bool false) E rfl (by decide) rfl (wanted_none rfl _) (run_ext1 rfl (E.get 1 rfl)) fun a E => ?_
          have hTl := (fun k hk => (hX.lt k hk).2 : ∀ k, U k → k < w1.heap.size)
          refine env_alloc26 (d := 18) E rfl (by decide) rfl (wanted_none rfl _) rfl fun a w1 b45 eb45 hb45 f1 E => ?_
          refine env_st26 E rfl (wanted_none rfl _) rfl (E.get 0 rfl) (E.get 2 rfl) hb45 fun w1 hb45 f2 E => ?_
          have f1 := f1.trans' f2 (fun r hr e => by omega)
          clear f2
          have hcb45 : Cw w1 U b45 ((0, 0), (0, 0)) := ⟨hb45, fun ht => by have := hTl b45 ht; omega⟩
          have hs := hs.fr f1 (fun _ _ h => h)
          have hcb38 := hcb38.fr f1
          have hkb39 := hkb39.fr f1
          have hX := Two.fr hX f1 (fun _ _ h => h)
          have hcb44 := hcb44.fr f1
          have hf := hf.trans f1
          clear f1
          clear hb45 hTl eb45
          refine env_put (d := 19) (v := .bool false) E rfl (by decide) rfl (wanted_none rfl _) (run_assign rfl (E.get 1 rfl)) fun a E => ?_
          refine wpList_nil ?_
          refine then_n ?_
          refine wp_seq ?_
          have fd := (Fr.refl (fun _ => False) w1).drew
          refine wp_region_invx (G := Value × Value × Value × Value) (undef, undef, undef, undef) (n := 113) (base := [(19, .bool false), (18, .pointer (some ⟨b45, 0, none⟩)), (17, .bool false), (16, .pointer (some ⟨b44, 0, none⟩)), (12, .pointer (some ⟨q, 0, none⟩)), (13, .pointer (some ⟨r, 0, none⟩)), (11, .bool true), (6, .pointer (some ⟨b38, 0, none⟩)), (7, .pointer (some ⟨b39, 0, none⟩)), (3, .int .i64 n)]) (U := []) (T := fun γ => [some (82, .bool true), some (83, .bool true), some (84, .pointer (some ⟨q, 0, none⟩)), some (85, .agg (bxC b)), some (86, γ.1), some (87, .pointer (some ⟨r, 0, none⟩)), some (88, .agg (bxC b)), some (89, γ.2.1), some (90, .bool true), some (91, .bool true), some (92, .bool true), some (93, .pointer (some ⟨q, 0, none⟩)), some (94, .agg (ptC pt)), some (95, .int .i64 n), some (96, γ.2.2.1), some (97, .pointer (some ⟨r, 0, none⟩)), some (98, .agg (ptC pt)), some (99, .int .i64 n), some (100, γ.2.2.2), some (101, .bool true), some (102, .bool true), some (103, .bool true), some (104, .agg (bxC ((0, 0), (0, 0)))), some (105, .agg (bxC ((0, 0), (0, 0)))), some (106, .bool true), some (107, .bool true), some (108, .bool true), some (109, .bool false), some (110, .bool false), some (111, .bool true), some (112, .bool true), some (10, .bool true)]) (M := fun γ ls9 wm => Fr (fun _ => False) w wm ∧ ∃ U5, Two wm w.heap.size q l.length m r I J U5 ∧ (Cw wm U5 b38 b) ∧ (Kw wm U5 b39 (ptC pt) 24) ∧ (Cw wm U5 b44 ((0, 0), (0, 0))) ∧ (Cw wm U5 b45 ((0, 0), (0, 0))) ∧ (ls9 4 = true → ∃ R, InS m b R ∧ Rw wm U5 γ.1 R) ∧ (ls9 7 = true → ∃ R, InS m b R ∧ Rw wm U5 γ.2.1 R) ∧ (ls9 14 = true → ∃ R, NearS m pt n R ∧ Rw wm U5 γ.2.2.1 R) ∧ (ls9 18 = true → ∃ R, NearS m pt n R ∧ Rw wm U5 γ.2.2.2 R)) (by kernel_rfl) (by kernel_rfl) (fun _ => by kernel_rfl) (E.of ⟨E.get 0 rfl, E.get 1 rfl, E.get 8 rfl, E.get 9 rfl, E.get 21 rfl, E.get 22 rfl, E.get 23 rfl, E.get 24 rfl, E.get 25 rfl, E.get 26 rfl, trivial⟩) (fun x hx => by cases hx) ⟨hf.drew, U, hX.fr fd (fun _ _ h => h), hcb38.fr fd, hkb39.fr fd, hcb44.fr fd, hcb45.fr fd, fun e => absurd e Bool.false_ne_true, fun e => absurd e Bool.false_ne_true, fun e => absurd e Bool.false_ne_true, fun e => absurd e Bool.false_ne_true⟩ ?_ ?_
          · intro j9 o9 γ ls9 a w5 ho hl E D DL DL2 hB hM
            obtain ⟨m1, U5, hX5, k0, k1, k2, k3, r4, r7, r14, r18⟩ := hM
            match j9, ho, hl, D, DL, hB with
            | 0, ho, hl, D, DL, hB =>
              obtain rfl := Option.some.inj ho
              exact ⟨fun _ => valx rfl (run_move rfl (E.get 6 rfl)) rfl ⟨m1, U5, hX5, k0, k1, k2, k3, r4, r7, r14, r18⟩, fun h => by rw [wanted_none rfl] at h; cases h⟩
            | 1, ho, hl, D, DL, hB =>
              obtain rfl := Option.some.inj ho
              exact ⟨fun _ => valx rfl (run_move rfl (D 0 _ rfl rfl)) rfl ⟨m1, U5, hX5, k0, k1, k2, k3, r4, r7, r14, r18⟩, fun h => by rw [wanted_none rfl] at h; cases h⟩
            | 2, ho, hl, D, DL, hB =>
              obtain rfl := Option.some.inj ho
              exact ⟨fun _ => valx rfl (run_move rfl (E.get 4 rfl)) rfl ⟨m1, U5, hX5, k0, k1, k2, k3, r4, r7, r14, r18⟩, fun h => by rw [w_yes (g := 1) (s := 83) (b := true) E rfl rfl (by decide) (D 1 _ rfl rfl)] at h; cases h⟩
            | 3, ho, hl, D, DL, hB =>
              obtain rfl := Option.some.inj ho
              exact ⟨fun _ => valx rfl (run_ld26 rfl (E.get 7 rfl) (rng4 (p := b) k0.1 0 rfl rfl rfl rfl)) rfl ⟨m1, U5, hX5, k0, k1, k2, k3, r4, r7, r14, r18⟩, fun h => by rw [w_yes (g := 1) (s := 83) (b := true) E rfl rfl (by decide) (D 1 _ rfl rfl)] at h; cases h⟩
            | 4, ho, hl, D, DL, hB =>
              obtain rfl := Option.some.inj ho
              refine ⟨fun _ => callxw (run_call2 (enters_of Try.func19 (by kernel_rfl) rfl) rfl rfl (D 2 _ rfl rfl) (D 3 _ rfl rfl)) (two_in hX5 (by omega) b) rfl fun v9 w9 f9 => ?_, fun h => by rw [w_yes (g := 1) (s := 83) (b := true) E rfl rfl (by decide) (D 1 _ rfl rfl)] at h; cases h⟩
              obtain ⟨R9, T9, hi9, ⟨hX9, f2, ht⟩, hr9⟩ := f9
              exact ⟨(v9, γ.2.1, γ.2.2.1, γ.2.2.2), rfl, (fun j hj => match j, hj with | 0, _ => rfl | 1, _ => rfl | 2, _ => rfl | 3, _ => rfl | 4, hj => absurd (hl.symm.trans hj) (by decide) | 5, _ => rfl | 6, _ => rfl | 7, _ => rfl | 8, _ => rfl | 9, _ => rfl | 10, _ => rfl | 11, _ => rfl | 12, _ => rfl | 13, _ => rfl | 14, _ => rfl | 15, _ => rfl | 16, _ => rfl | 17, _ => rfl | 18, _ => rfl | 19, _ => rfl | 20, _ => rfl | 21, _ => rfl | 22, _ => rfl | 23, _ => rfl | 24, _ => rfl | 25, _ => rfl | 26, _ => rfl | 27, _ => rfl | 28, _ => rfl | 29, _ => rfl | 30, _ => rfl | 31, _ => rfl | j9 + 32, _ => rfl), ⟨m1.trans' f2 (fun r hr e => by have := (hX5.lt r e).1; omega), T9, hX9, k0.q f2 ht, k1.q f2 ht, k2.q f2 ht, k3.q f2 ht, fun _ => ⟨R9, hi9, hr9⟩, fun h => (r7 h).elim fun R h => ⟨R, h.1, h.2.q f2 ht⟩, fun h => (r14 h).elim fun R h => ⟨R, h.1, h.2.q f2 ht⟩, fun h => (r18 h).elim fun R h => ⟨R, h.1, h.2.q f2 ht⟩⟩⟩
            | 5, ho, hl, D, DL, hB =>
              obtain rfl := Option.some.inj ho
              exact ⟨fun _ => valx rfl (run_move rfl (E.get 5 rfl)) rfl ⟨m1, U5, hX5, k0, k1, k2, k3, r4, r7, r14, r18⟩, fun h => by rw [w_yes (g := 1) (s := 83) (b := true) E rfl rfl (by decide) (D 1 _ rfl rfl)] at h; cases h⟩
            | 6, ho, hl, D, DL, hB =>
              obtain rfl := Option.some.inj ho
              exact ⟨fun _ => valx rfl (run_ld26 rfl (E.get 7 rfl) (rng4 (p := b) k0.1 0 rfl rfl rfl rfl)) rfl ⟨m1, U5, hX5, k0, k1, k2, k3, r4, r7, r14, r18⟩, fun h => by rw [w_yes (g := 1) (s := 83) (b := true) E rfl rfl (by decide) (D 1 _ rfl rfl)] at h; cases h⟩
            | 7, ho, hl, D, DL, hB =>
              obtain rfl := Option.some.inj ho
              refine ⟨fun _ => callxw (run_call2 (enters_of Try.func20 (by kernel_rfl) rfl) rfl rfl (D 5 _ rfl rfl) (D 6 _ rfl rfl)) (two_rin hX5 hF (by omega) b) rfl fun v9 w9 f9 => ?_, fun h => by rw [w_yes (g := 1) (s := 83) (b := true) E rfl rfl (by decide) (D 1 _ rfl rfl)] at h; cases h⟩
              obtain ⟨R9, T9, hi9, ⟨hX9, f2, ht⟩, hr9⟩ := f9
              exact ⟨(γ.1, v9, γ.2.2.1, γ.2.2.2), rfl, (fun j hj => match j, hj with | 0, _ => rfl | 1, _ => rfl | 2, _ => rfl | 3, _ => rfl | 4, _ => rfl | 5, _ => rfl | 6, _ => rfl | 7, hj => absurd (hl.symm.trans hj) (by decide) | 8, _ => rfl | 9, _ => rfl | 10, _ => rfl | 11, _ => rfl | 12, _ => rfl | 13, _ => rfl | 14, _ => rfl | 15, _ => rfl | 16, _ => rfl | 17, _ => rfl | 18, _ => rfl | 19, _ => rfl | 20, _ => rfl | 21, _ => rfl | 22, _ => rfl | 23, _ => rfl | 24, _ => rfl | 25, _ => rfl | 26, _ => rfl | 27, _ => rfl | 28, _ => rfl | 29, _ => rfl | 30, _ => rfl | 31, _ => rfl | j9 + 32, _ => rfl), ⟨m1.trans' f2 (fun r hr e => by have := (hX5.lt r e).1; omega), T9, hX9, k0.q f2 ht, k1.q f2 ht, k2.q f2 ht, k3.q f2 ht, fun h => (r4 h).elim fun R h => ⟨R, h.1, h.2.q f2 ht⟩, fun _ => ⟨R9, hi9, hr9⟩, fun h => (r14 h).elim fun R h => ⟨R, h.1, h.2.q f2 ht⟩, fun h => (r18 h).elim fun R h => ⟨R, h.1, h.2.q f2 ht⟩⟩⟩
            | 8, ho, hl, D, DL, hB =>
              obtain ⟨R1, hi1, hr1⟩ := r4 (DL 4 rfl)
              obtain ⟨R2, hi2, hr2⟩ := r7 (DL 7 rfl)
              obtain rfl := Option.some.inj ho
              exact ⟨fun _ => callx rfl (run_call2 (enters_of Try.func18 (by kernel_rfl) rfl) rfl rfl (D 4 _ rfl rfl) (D 7 _ rfl rfl)) ((same_rw hr1 hr2).mono fun e w8 h => ⟨h.1.trans (by rw [decide_eq_true (hi1.uniq hi2)]), h.2⟩) rfl fun w9 f1 => ⟨m1.trans f1, U5, hX5.fr f1 (fun _ _ h => h), k0.fr f1, k1.fr f1, k2.fr f1, k3.fr f1, fun h => (r4 h).elim fun R h => ⟨R, h.1, h.2.fr f1⟩, fun h => (r7 h).elim fun R h => ⟨R, h.1, h.2.fr f1⟩, fun h => (r14 h).elim fun R h => ⟨R, h.1, h.2.fr f1⟩, fun h => (r18 h).elim fun R h => ⟨R, h.1, h.2.fr f1⟩⟩, fun h => by rw [w_yes (g := 1) (s := 83) (b := true) E rfl rfl (by decide) (D 1 _ rfl rfl)] at h; cases h⟩
            | 9, ho, hl, D, DL, hB =>
              obtain rfl := Option.some.inj ho
              exact ⟨fun _ => valx rfl (run_pick_t rfl (D 1 _ rfl rfl) (D 8 _ rfl rfl)) rfl ⟨m1, U5, hX5, k0, k1, k2, k3, r4, r7, r14, r18⟩, fun h => by rw [wanted_none rfl] at h; cases h⟩
            | 10, ho, hl, D, DL, hB =>
              obtain rfl := Option.some.inj ho
              exact ⟨fun _ => valx rfl (run_move rfl (D 9 _ rfl rfl)) rfl ⟨m1, U5, hX5, k0, k1, k2, k3, r4, r7, r14, r18⟩, fun h => by rw [wanted_none rfl] at h; cases h⟩
            | 11, ho, hl, D, DL, hB =>
              obtain rfl := Option.some.inj ho
              exact ⟨fun _ => valx rfl (run_move rfl (E.get 4 rfl)) rfl ⟨m1, U5, hX5, k0, k1, k2, k3, r4, r7, r14, r18⟩, fun h => by rw [w_yes (g := 10) (s := 92) (b := true) E rfl rfl (by decide) (D 10 _ rfl rfl)] at h; cases h⟩
            | 12, ho, hl, D, DL, hB =>
              obtain rfl := Option.some.inj ho
              exact ⟨fun _ => valx rfl (run_ld24 rfl (E.get 8 rfl) (rng2 (p := pt) k1.1 0 rfl rfl)) rfl ⟨m1, U5, hX5, k0, k1, k2, k3, r4, r7, r14, r18⟩, fun h => by rw [w_yes (g := 10) (s := 92) (b := true) E rfl rfl (by decide) (D 10 _ rfl rfl)] at h; cases h⟩
            | 13, ho, hl, D, DL, hB =>
              obtain rfl := Option.some.inj ho
              exact ⟨fun _ => valx rfl (run_move rfl (E.get 9 rfl)) rfl ⟨m1, U5, hX5, k0, k1, k2, k3, r4, r7, r14, r18⟩, fun h => by rw [w_yes (g := 10) (s := 92) (b := true) E rfl rfl (by decide) (D 10 _ rfl rfl)] at h; cases h⟩
            | 14, ho, hl, D, DL, hB =>
              obtain rfl := Option.some.inj ho
              refine ⟨fun _ => callxw (run_call3 (enters_of Try.func21 (by kernel_rfl) rfl) rfl rfl (D 11 _ rfl rfl) (D 12 _ rfl rfl) (D 13 _ rfl rfl)) (two_near hX5 (by omega) pt n) rfl fun v9 w9 f9 => ?_, fun h => by rw [w_yes (g := 10) (s := 92) (b := true) E rfl rfl (by decide) (D 10 _ rfl rfl)] at h; cases h⟩
              obtain ⟨R9, T9, hi9, ⟨hX9, f2, ht⟩, hr9⟩ := f9
              exact ⟨(γ.1, γ.2.1, v9, γ.2.2.2), rfl, (fun j hj => match j, hj with | 0, _ => rfl | 1, _ => rfl | 2, _ => rfl | 3, _ => rfl | 4, _ => rfl | 5, _ => rfl | 6, _ => rfl | 7, _ => rfl | 8, _ => rfl | 9, _ => rfl | 10, _ => rfl | 11, _ => rfl | 12, _ => rfl | 13, _ => rfl | 14, hj => absurd (hl.symm.trans hj) (by decide) | 15, _ => rfl | 16, _ => rfl | 17, _ => rfl | 18, _ => rfl | 19, _ => rfl | 20, _ => rfl | 21, _ => rfl | 22, _ => rfl | 23, _ => rfl | 24, _ => rfl | 25, _ => rfl | 26, _ => rfl | 27, _ => rfl | 28, _ => rfl | 29, _ => rfl | 30, _ => rfl | 31, _ => rfl | j9 + 32, _ => rfl), ⟨m1.trans' f2 (fun r hr e => by have := (hX5.lt r e).1; omega), T9, hX9, k0.q f2 ht, k1.q f2 ht, k2.q f2 ht, k3.q f2 ht, fun h => (r4 h).elim fun R h => ⟨R, h.1, h.2.q f2 ht⟩, fun h => (r7 h).elim fun R h => ⟨R, h.1, h.2.q f2 ht⟩, fun _ => ⟨R9, hi9, hr9⟩, fun h => (r18 h).elim fun R h => ⟨R, h.1, h.2.q f2 ht⟩⟩⟩
            | 15, ho, hl, D, DL, hB =>
              obtain rfl := Option.some.inj ho
              exact ⟨fun _ => valx rfl (run_move rfl (E.get 5 rfl)) rfl ⟨m1, U5, hX5, k0, k1, k2, k3, r4, r7, r14, r18⟩, fun h => by rw [w_yes (g := 10) (s := 92) (b := true) E rfl rfl (by decide) (D 10 _ rfl rfl)] at h; cases h⟩
            | 16, ho, hl, D, DL, hB =>
              obtain rfl := Option.some.inj ho
              exact ⟨fun _ => valx rfl (run_ld24 rfl (E.get 8 rfl) (rng2 (p := pt) k1.1 0 rfl rfl)) rfl ⟨m1, U5, hX5, k0, k1, k2, k3, r4, r7, r14, r18⟩, fun h => by rw [w_yes (g := 10) (s := 92) (b := true) E rfl rfl (by decide) (D 10 _ rfl rfl)] at h; cases h⟩
            | 17, ho, hl, D, DL, hB =>
              obtain rfl := Option.some.inj ho
              exact ⟨fun _ => valx rfl (run_move rfl (E.get 9 rfl)) rfl ⟨m1, U5, hX5, k0, k1, k2, k3, r4, r7, r14, r18⟩, fun h => by rw [w_yes (g := 10) (s := 92) (b := true) E rfl rfl (by decide) (D 10 _ rfl rfl)] at h; cases h⟩
            | 18, ho, hl, D, DL, hB =>
              obtain rfl := Option.some.inj ho
              refine ⟨fun _ => callxw (run_call3 (enters_of Try.func22 (by kernel_rfl) rfl) rfl rfl (D 15 _ rfl rfl) (D 16 _ rfl rfl) (D 17 _ rfl rfl)) (two_rnear hX5 hF (by omega) pt n) rfl fun v9 w9 f9 => ?_, fun h => by rw [w_yes (g := 10) (s := 92) (b := true) E rfl rfl (by decide) (D 10 _ rfl rfl)] at h; cases h⟩
              obtain ⟨R9, T9, hi9, ⟨hX9, f2, ht⟩, hr9⟩ := f9
              exact ⟨(γ.1, γ.2.1, γ.2.2.1, v9), rfl, (fun j hj => match j, hj with | 0, _ => rfl | 1, _ => rfl | 2, _ => rfl | 3, _ => rfl | 4, _ => rfl | 5, _ => rfl | 6, _ => rfl | 7, _ => rfl | 8, _ => rfl | 9, _ => rfl | 10, _ => rfl | 11, _ => rfl | 12, _ => rfl | 13, _ => rfl | 14, _ => rfl | 15, _ => rfl | 16, _ => rfl | 17, _ => rfl | 18, hj => absurd (hl.symm.trans hj) (by decide) | 19, _ => rfl | 20, _ => rfl | 21, _ => rfl | 22, _ => rfl | 23, _ => rfl | 24, _ => rfl | 25, _ => rfl | 26, _ => rfl | 27, _ => rfl | 28, _ => rfl | 29, _ => rfl | 30, _ => rfl | 31, _ => rfl | j9 + 32, _ => rfl), ⟨m1.trans' f2 (fun r hr e => by have := (hX5.lt r e).1; omega), T9, hX9, k0.q f2 ht, k1.q f2 ht, k2.q f2 ht, k3.q f2 ht, fun h => (r4 h).elim fun R h => ⟨R, h.1, h.2.q f2 ht⟩, fun h => (r7 h).elim fun R h => ⟨R, h.1, h.2.q f2 ht⟩, fun h => (r14 h).elim fun R h => ⟨R, h.1, h.2.q f2 ht⟩, fun _ => ⟨R9, hi9, hr9⟩⟩⟩
            | 19, ho, hl, D, DL, hB =>
              obtain ⟨R1, hi1, hr1⟩ := r14 (DL 14 rfl)
              obtain ⟨R2, hi2, hr2⟩ := r18 (DL 18 rfl)
              obtain rfl := Option.some.inj ho
              exact ⟨fun _ => callx rfl (run_call2 (enters_of Try.func18 (by kernel_rfl) rfl) rfl rfl (D 14 _ rfl rfl) (D 18 _ rfl rfl)) ((same_rw hr1 hr2).mono fun e w8 h => ⟨h.1.trans (by rw [decide_eq_true (hi1.uniq hi2)]), h.2⟩) rfl fun w9 f1 => ⟨m1.trans f1, U5, hX5.fr f1 (fun _ _ h => h), k0.fr f1, k1.fr f1, k2.fr f1, k3.fr f1, fun h => (r4 h).elim fun R h => ⟨R, h.1, h.2.fr f1⟩, fun h => (r7 h).elim fun R h => ⟨R, h.1, h.2.fr f1⟩, fun h => (r14 h).elim fun R h => ⟨R, h.1, h.2.fr f1⟩, fun h => (r18 h).elim fun R h => ⟨R, h.1, h.2.fr f1⟩⟩, fun h => by rw [w_yes (g := 10) (s := 92) (b := true) E rfl rfl (by decide) (D 10 _ rfl rfl)] at h; cases h⟩
            | 20, ho, hl, D, DL, hB =>
              obtain rfl := Option.some.inj ho
              exact ⟨fun _ => valx rfl (run_pick_t rfl (D 10 _ rfl rfl) (D 19 _ rfl rfl)) rfl ⟨m1, U5, hX5, k0, k1, k2, k3, r4, r7, r14, r18⟩, fun h => by rw [wanted_none rfl] at h; cases h⟩
            | 21, ho, hl, D, DL, hB =>
              obtain rfl := Option.some.inj ho
              exact ⟨fun _ => valx rfl (run_move rfl (D 20 _ rfl rfl)) rfl ⟨m1, U5, hX5, k0, k1, k2, k3, r4, r7, r14, r18⟩, fun h => by rw [wanted_none rfl] at h; cases h⟩
            | 22, ho, hl, D, DL, hB =>
              obtain rfl := Option.some.inj ho
              exact ⟨fun _ => valx rfl (run_ld26 rfl (E.get 3 rfl) (rng4 (p := ((0, 0), (0, 0))) k2.1 0 rfl rfl rfl rfl)) rfl ⟨m1, U5, hX5, k0, k1, k2, k3, r4, r7, r14, r18⟩, fun h => by rw [w_yes (g := 21) (s := 103) (b := true) E rfl rfl (by decide) (D 21 _ rfl rfl)] at h; cases h⟩
            | 23, ho, hl, D, DL, hB =>
              obtain rfl := Option.some.inj ho
              exact ⟨fun _ => valx rfl (run_ld26 rfl (E.get 1 rfl) (rng4 (p := ((0, 0), (0, 0))) k3.1 0 rfl rfl rfl rfl)) rfl ⟨m1, U5, hX5, k0, k1, k2, k3, r4, r7, r14, r18⟩, fun h => by rw [w_yes (g := 21) (s := 103) (b := true) E rfl rfl (by decide) (D 21 _ rfl rfl)] at h; cases h⟩
            | 24, ho, hl, D, DL, hB =>
              obtain rfl := Option.some.inj ho
              exact ⟨fun _ => valx rfl (run_bx26 rfl (D 22 _ rfl rfl) (D 23 _ rfl rfl)) rfl ⟨m1, U5, hX5, k0, k1, k2, k3, r4, r7, r14, r18⟩, fun h => by rw [w_yes (g := 21) (s := 103) (b := true) E rfl rfl (by decide) (D 21 _ rfl rfl)] at h; cases h⟩
            | 25, ho, hl, D, DL, hB =>
              obtain rfl := Option.some.inj ho
              exact ⟨fun _ => valx rfl (run_pick_t rfl (D 21 _ rfl rfl) (D 24 _ rfl rfl)) rfl ⟨m1, U5, hX5, k0, k1, k2, k3, r4, r7, r14, r18⟩, fun h => by rw [wanted_none rfl] at h; cases h⟩
            | 26, ho, hl, D, DL, hB =>
              obtain rfl := Option.some.inj ho
              exact ⟨fun _ => valx rfl (run_move rfl (D 25 _ rfl rfl)) rfl ⟨m1, U5, hX5, k0, k1, k2, k3, r4, r7, r14, r18⟩, fun h => by rw [wanted_none rfl] at h; cases h⟩
            | 27, ho, hl, D, DL, hB =>
              obtain rfl := Option.some.inj ho
              exact ⟨fun _ => valx rfl (run_move rfl (E.get 2 rfl)) rfl ⟨m1, U5, hX5, k0, k1, k2, k3, r4, r7, r14, r18⟩, fun h => by rw [w_yes (g := 26) (s := 108) (b := true) E rfl rfl (by decide) (D 26 _ rfl rfl)] at h; cases h⟩
            | 28, ho, hl, D, DL, hB =>
              obtain rfl := Option.some.inj ho
              exact ⟨fun _ => valx rfl (run_move rfl (E.get 0 rfl)) rfl ⟨m1, U5, hX5, k0, k1, k2, k3, r4, r7, r14, r18⟩, fun h => by rw [w_yes (g := 26) (s := 108) (b := true) E rfl rfl (by decide) (D 26 _ rfl rfl)] at h; cases h⟩
            | 29, ho, hl, D, DL, hB =>
              obtain rfl := Option.some.inj ho
              exact ⟨fun _ => valx rfl (run_beqb (D 27 _ rfl rfl) (D 28 _ rfl rfl) rfl) rfl ⟨m1, U5, hX5, k0, k1, k2, k3, r4, r7, r14, r18⟩, fun h => by rw [w_yes (g := 26) (s := 108) (b := true) E rfl rfl (by decide) (D 26 _ rfl rfl)] at h; cases h⟩
            | 30, ho, hl, D, DL, hB =>
              obtain rfl := Option.some.inj ho
              exact ⟨fun _ => valx rfl (run_pick_t rfl (D 26 _ rfl rfl) (D 29 _ rfl rfl)) rfl ⟨m1, U5, hX5, k0, k1, k2, k3, r4, r7, r14, r18⟩, fun h => by rw [wanted_none rfl] at h; cases h⟩
            | 31, ho, hl, D, DL, hB =>
              obtain rfl := Option.some.inj ho
              exact ⟨fun _ => valx rfl (run_assign rfl (D 30 _ rfl rfl)) rfl ⟨m1, U5, hX5, k0, k1, k2, k3, r4, r7, r14, r18⟩, fun h => by rw [wanted_none rfl] at h; cases h⟩
            | j9 + 32, ho, hl, D, DL, hB => exact absurd ho (by simp)
          · rintro ⟨γa, γb, γc, γd⟩ a w9 E V hM
            have E := E.add (v := .bool true) (V 31 _ rfl)
            clear V
            have hf := hM.1
            refine then_n ?_
            refine wp_ret ?_
            exact ret_tmp (t := 10) rfl E (E.get 0 rfl) ⟨rfl, hf⟩
        | some c =>
          refine wp_region_lit ?_
          refine env_put (d := 71) (v := .pointer (some ⟨q, 0, none⟩)) E rfl (by decide) rfl (wanted_none rfl _) (run_move rfl (E.get 5 rfl)) fun a E => ?_
          refine env_put (d := 72) (v := .string id) E rfl (by decide) rfl (wanted_none rfl _) (run_move rfl (E.get 12 rfl)) fun a E => ?_
          refine env_call (d := 73) (v := .tuple #[.agg (bxC c), .bool true]) E rfl (by decide) rfl (wanted_none rfl _) (run_call2 (enters_of Try.func16 (by kernel_rfl) rfl) rfl rfl (E.get 1 rfl) (E.get 0 rfl)) ((two_box hX id hszid).mono fun e w8 h => ⟨h.1.trans (by rw [hmo]; rfl), h.2⟩) fun a w1 f1 E => ?_
          have hs := hs.fr f1 (fun _ _ h => h)
          have hcb38 := hcb38.fr f1
          have hkb39 := hkb39.fr f1
          have hX := Two.fr hX f1 (fun _ _ h => h)
          have hf := hf.trans f1
          clear f1
          refine env_put (d := 70) (v := .tuple #[.agg (bxC c), .bool true]) E rfl (by decide) rfl (wanted_none rfl _) (run_move rfl (E.get 0 rfl)) fun a E => ?_
          refine env_put (d := 74) (v := .agg (bxC c)) E rfl (by decide) rfl (wanted_none rfl _) (run_ext0 rfl (E.get 0 rfl)) fun a E => ?_
          refine env_put (d := 75) (v := .bool true) E rfl (by decide) rfl (wanted_none rfl _) (run_ext1 rfl (E.get 1 rfl)) fun a E => ?_
          have hTl := (fun k hk => (hX.lt k hk).2 : ∀ k, U k → k < w1.heap.size)
          refine env_alloc26 (d := 16) E rfl (by decide) rfl (wanted_none rfl _) rfl fun a w1 b46 eb46 hb46 f1 E => ?_
          refine env_st26 E rfl (wanted_none rfl _) rfl (E.get 0 rfl) (E.get 2 rfl) hb46 fun w1 hb46 f2 E => ?_
          have f1 := f1.trans' f2 (fun r hr e => by omega)
          clear f2
          have hcb46 : Cw w1 U b46 c := ⟨hb46, fun ht => by have := hTl b46 ht; omega⟩
          have hs := hs.fr f1 (fun _ _ h => h)
          have hcb38 := hcb38.fr f1
          have hkb39 := hkb39.fr f1
          have hX := Two.fr hX f1 (fun _ _ h => h)
          have hf := hf.trans f1
          clear f1
          clear hb46 hTl eb46
          refine env_put (d := 17) (v := .bool true) E rfl (by decide) rfl (wanted_none rfl _) (run_assign rfl (E.get 1 rfl)) fun a E => ?_
          refine wpList_nil ?_
          refine then_n ?_
          refine wp_seq ?_
          refine wp_region_lit ?_
          refine env_put (d := 77) (v := .pointer (some ⟨r, 0, none⟩)) E rfl (by decide) rfl (wanted_none rfl _) (run_move rfl (E.get 14 rfl)) fun a E => ?_
          refine env_put (d := 78) (v := .string id) E rfl (by decide) rfl (wanted_none rfl _) (run_move rfl (E.get 20 rfl)) fun a E => ?_
          refine env_call (d := 79) (v := .tuple #[.agg (bxC c), .bool true]) E rfl (by decide) rfl (wanted_none rfl _) (run_call2 (enters_of Try.func17 (by kernel_rfl) rfl) rfl rfl (E.get 1 rfl) (E.get 0 rfl)) ((two_rbox hX hF id).mono fun e w8 h => ⟨h.1.trans (by rw [hmo]; rfl), h.2⟩) fun a w1 f1 E => ?_
          have hs := hs.fr f1 (fun _ _ h => h)
          have hcb38 := hcb38.fr f1
          have hkb39 := hkb39.fr f1
          have hX := Two.fr hX f1 (fun _ _ h => h)
          have hcb46 := hcb46.fr f1
          have hf := hf.trans f1
          clear f1
          refine env_put (d := 76) (v := .tuple #[.agg (bxC c), .bool true]) E rfl (by decide) rfl (wanted_none rfl _) (run_move rfl (E.get 0 rfl)) fun a E => ?_
          refine env_put (d := 80) (v := .agg (bxC c)) E rfl (by decide) rfl (wanted_none rfl _) (run_ext0 rfl (E.get 0 rfl)) fun a E => ?_
          refine env_put (d := 81) (v := .bool true) E rfl (by decide) rfl (wanted_none rfl _) (run_ext1 rfl (E.get 1 rfl)) fun a E => ?_
          have hTl := (fun k hk => (hX.lt k hk).2 : ∀ k, U k → k < w1.heap.size)
          refine env_alloc26 (d := 18) E rfl (by decide) rfl (wanted_none rfl _) rfl fun a w1 b47 eb47 hb47 f1 E => ?_
          refine env_st26 E rfl (wanted_none rfl _) rfl (E.get 0 rfl) (E.get 2 rfl) hb47 fun w1 hb47 f2 E => ?_
          have f1 := f1.trans' f2 (fun r hr e => by omega)
          clear f2
          have hcb47 : Cw w1 U b47 c := ⟨hb47, fun ht => by have := hTl b47 ht; omega⟩
          have hs := hs.fr f1 (fun _ _ h => h)
          have hcb38 := hcb38.fr f1
          have hkb39 := hkb39.fr f1
          have hX := Two.fr hX f1 (fun _ _ h => h)
          have hcb46 := hcb46.fr f1
          have hf := hf.trans f1
          clear f1
          clear hb47 hTl eb47
          refine env_put (d := 19) (v := .bool true) E rfl (by decide) rfl (wanted_none rfl _) (run_assign rfl (E.get 1 rfl)) fun a E => ?_
          refine wpList_nil ?_
          refine then_n ?_
          refine wp_seq ?_
          have fd := (Fr.refl (fun _ => False) w1).drew
          refine wp_region_invx (G := Value × Value × Value × Value) (undef, undef, undef, undef) (n := 113) (base := [(19, .bool true), (18, .pointer (some ⟨b47, 0, none⟩)), (17, .bool true), (16, .pointer (some ⟨b46, 0, none⟩)), (12, .pointer (some ⟨q, 0, none⟩)), (13, .pointer (some ⟨r, 0, none⟩)), (11, .bool true), (6, .pointer (some ⟨b38, 0, none⟩)), (7, .pointer (some ⟨b39, 0, none⟩)), (3, .int .i64 n)]) (U := []) (T := fun γ => [some (82, .bool true), some (83, .bool true), some (84, .pointer (some ⟨q, 0, none⟩)), some (85, .agg (bxC b)), some (86, γ.1), some (87, .pointer (some ⟨r, 0, none⟩)), some (88, .agg (bxC b)), some (89, γ.2.1), some (90, .bool true), some (91, .bool true), some (92, .bool true), some (93, .pointer (some ⟨q, 0, none⟩)), some (94, .agg (ptC pt)), some (95, .int .i64 n), some (96, γ.2.2.1), some (97, .pointer (some ⟨r, 0, none⟩)), some (98, .agg (ptC pt)), some (99, .int .i64 n), some (100, γ.2.2.2), some (101, .bool true), some (102, .bool true), some (103, .bool true), some (104, .agg (bxC c)), some (105, .agg (bxC c)), some (106, .bool true), some (107, .bool true), some (108, .bool true), some (109, .bool true), some (110, .bool true), some (111, .bool true), some (112, .bool true), some (10, .bool true)]) (M := fun γ ls9 wm => Fr (fun _ => False) w wm ∧ ∃ U5, Two wm w.heap.size q l.length m r I J U5 ∧ (Cw wm U5 b38 b) ∧ (Kw wm U5 b39 (ptC pt) 24) ∧ (Cw wm U5 b46 c) ∧ (Cw wm U5 b47 c) ∧ (ls9 4 = true → ∃ R, InS m b R ∧ Rw wm U5 γ.1 R) ∧ (ls9 7 = true → ∃ R, InS m b R ∧ Rw wm U5 γ.2.1 R) ∧ (ls9 14 = true → ∃ R, NearS m pt n R ∧ Rw wm U5 γ.2.2.1 R) ∧ (ls9 18 = true → ∃ R, NearS m pt n R ∧ Rw wm U5 γ.2.2.2 R)) (by kernel_rfl) (by kernel_rfl) (fun _ => by kernel_rfl) (E.of ⟨E.get 0 rfl, E.get 1 rfl, E.get 8 rfl, E.get 9 rfl, E.get 21 rfl, E.get 22 rfl, E.get 23 rfl, E.get 24 rfl, E.get 25 rfl, E.get 26 rfl, trivial⟩) (fun x hx => by cases hx) ⟨hf.drew, U, hX.fr fd (fun _ _ h => h), hcb38.fr fd, hkb39.fr fd, hcb46.fr fd, hcb47.fr fd, fun e => absurd e Bool.false_ne_true, fun e => absurd e Bool.false_ne_true, fun e => absurd e Bool.false_ne_true, fun e => absurd e Bool.false_ne_true⟩ ?_ ?_
          · intro j9 o9 γ ls9 a w5 ho hl E D DL DL2 hB hM
            obtain ⟨m1, U5, hX5, k0, k1, k2, k3, r4, r7, r14, r18⟩ := hM
            match j9, ho, hl, D, DL, hB with
            | 0, ho, hl, D, DL, hB =>
              obtain rfl := Option.some.inj ho
              exact ⟨fun _ => valx rfl (run_move rfl (E.get 6 rfl)) rfl ⟨m1, U5, hX5, k0, k1, k2, k3, r4, r7, r14, r18⟩, fun h => by rw [wanted_none rfl] at h; cases h⟩
            | 1, ho, hl, D, DL, hB =>
              obtain rfl := Option.some.inj ho
              exact ⟨fun _ => valx rfl (run_move rfl (D 0 _ rfl rfl)) rfl ⟨m1, U5, hX5, k0, k1, k2, k3, r4, r7, r14, r18⟩, fun h => by rw [wanted_none rfl] at h; cases h⟩
            | 2, ho, hl, D, DL, hB =>
              obtain rfl := Option.some.inj ho
              exact ⟨fun _ => valx rfl (run_move rfl (E.get 4 rfl)) rfl ⟨m1, U5, hX5, k0, k1, k2, k3, r4, r7, r14, r18⟩, fun h => by rw [w_yes (g := 1) (s := 83) (b := true) E rfl rfl (by decide) (D 1 _ rfl rfl)] at h; cases h⟩
            | 3, ho, hl, D, DL, hB =>
              obtain rfl := Option.some.inj ho
              exact ⟨fun _ => valx rfl (run_ld26 rfl (E.get 7 rfl) (rng4 (p := b) k0.1 0 rfl rfl rfl rfl)) rfl ⟨m1, U5, hX5, k0, k1, k2, k3, r4, r7, r14, r18⟩, fun h => by rw [w_yes (g := 1) (s := 83) (b := true) E rfl rfl (by decide) (D 1 _ rfl rfl)] at h; cases h⟩
            | 4, ho, hl, D, DL, hB =>
              obtain rfl := Option.some.inj ho
              refine ⟨fun _ => callxw (run_call2 (enters_of Try.func19 (by kernel_rfl) rfl) rfl rfl (D 2 _ rfl rfl) (D 3 _ rfl rfl)) (two_in hX5 (by omega) b) rfl fun v9 w9 f9 => ?_, fun h => by rw [w_yes (g := 1) (s := 83) (b := true) E rfl rfl (by decide) (D 1 _ rfl rfl)] at h; cases h⟩
              obtain ⟨R9, T9, hi9, ⟨hX9, f2, ht⟩, hr9⟩ := f9
              exact ⟨(v9, γ.2.1, γ.2.2.1, γ.2.2.2), rfl, (fun j hj => match j, hj with | 0, _ => rfl | 1, _ => rfl | 2, _ => rfl | 3, _ => rfl | 4, hj => absurd (hl.symm.trans hj) (by decide) | 5, _ => rfl | 6, _ => rfl | 7, _ => rfl | 8, _ => rfl | 9, _ => rfl | 10, _ => rfl | 11, _ => rfl | 12, _ => rfl | 13, _ => rfl | 14, _ => rfl | 15, _ => rfl | 16, _ => rfl | 17, _ => rfl | 18, _ => rfl | 19, _ => rfl | 20, _ => rfl | 21, _ => rfl | 22, _ => rfl | 23, _ => rfl | 24, _ => rfl | 25, _ => rfl | 26, _ => rfl | 27, _ => rfl | 28, _ => rfl | 29, _ => rfl | 30, _ => rfl | 31, _ => rfl | j9 + 32, _ => rfl), ⟨m1.trans' f2 (fun r hr e => by have := (hX5.lt r e).1; omega), T9, hX9, k0.q f2 ht, k1.q f2 ht, k2.q f2 ht, k3.q f2 ht, fun _ => ⟨R9, hi9, hr9⟩, fun h => (r7 h).elim fun R h => ⟨R, h.1, h.2.q f2 ht⟩, fun h => (r14 h).elim fun R h => ⟨R, h.1, h.2.q f2 ht⟩, fun h => (r18 h).elim fun R h => ⟨R, h.1, h.2.q f2 ht⟩⟩⟩
            | 5, ho, hl, D, DL, hB =>
              obtain rfl := Option.some.inj ho
              exact ⟨fun _ => valx rfl (run_move rfl (E.get 5 rfl)) rfl ⟨m1, U5, hX5, k0, k1, k2, k3, r4, r7, r14, r18⟩, fun h => by rw [w_yes (g := 1) (s := 83) (b := true) E rfl rfl (by decide) (D 1 _ rfl rfl)] at h; cases h⟩
            | 6, ho, hl, D, DL, hB =>
              obtain rfl := Option.some.inj ho
              exact ⟨fun _ => valx rfl (run_ld26 rfl (E.get 7 rfl) (rng4 (p := b) k0.1 0 rfl rfl rfl rfl)) rfl ⟨m1, U5, hX5, k0, k1, k2, k3, r4, r7, r14, r18⟩, fun h => by rw [w_yes (g := 1) (s := 83) (b := true) E rfl rfl (by decide) (D 1 _ rfl rfl)] at h; cases h⟩
            | 7, ho, hl, D, DL, hB =>
              obtain rfl := Option.some.inj ho
              refine ⟨fun _ => callxw (run_call2 (enters_of Try.func20 (by kernel_rfl) rfl) rfl rfl (D 5 _ rfl rfl) (D 6 _ rfl rfl)) (two_rin hX5 hF (by omega) b) rfl fun v9 w9 f9 => ?_, fun h => by rw [w_yes (g := 1) (s := 83) (b := true) E rfl rfl (by decide) (D 1 _ rfl rfl)] at h; cases h⟩
              obtain ⟨R9, T9, hi9, ⟨hX9, f2, ht⟩, hr9⟩ := f9
              exact ⟨(γ.1, v9, γ.2.2.1, γ.2.2.2), rfl, (fun j hj => match j, hj with | 0, _ => rfl | 1, _ => rfl | 2, _ => rfl | 3, _ => rfl | 4, _ => rfl | 5, _ => rfl | 6, _ => rfl | 7, hj => absurd (hl.symm.trans hj) (by decide) | 8, _ => rfl | 9, _ => rfl | 10, _ => rfl | 11, _ => rfl | 12, _ => rfl | 13, _ => rfl | 14, _ => rfl | 15, _ => rfl | 16, _ => rfl | 17, _ => rfl | 18, _ => rfl | 19, _ => rfl | 20, _ => rfl | 21, _ => rfl | 22, _ => rfl | 23, _ => rfl | 24, _ => rfl | 25, _ => rfl | 26, _ => rfl | 27, _ => rfl | 28, _ => rfl | 29, _ => rfl | 30, _ => rfl | 31, _ => rfl | j9 + 32, _ => rfl), ⟨m1.trans' f2 (fun r hr e => by have := (hX5.lt r e).1; omega), T9, hX9, k0.q f2 ht, k1.q f2 ht, k2.q f2 ht, k3.q f2 ht, fun h => (r4 h).elim fun R h => ⟨R, h.1, h.2.q f2 ht⟩, fun _ => ⟨R9, hi9, hr9⟩, fun h => (r14 h).elim fun R h => ⟨R, h.1, h.2.q f2 ht⟩, fun h => (r18 h).elim fun R h => ⟨R, h.1, h.2.q f2 ht⟩⟩⟩
            | 8, ho, hl, D, DL, hB =>
              obtain ⟨R1, hi1, hr1⟩ := r4 (DL 4 rfl)
              obtain ⟨R2, hi2, hr2⟩ := r7 (DL 7 rfl)
              obtain rfl := Option.some.inj ho
              exact ⟨fun _ => callx rfl (run_call2 (enters_of Try.func18 (by kernel_rfl) rfl) rfl rfl (D 4 _ rfl rfl) (D 7 _ rfl rfl)) ((same_rw hr1 hr2).mono fun e w8 h => ⟨h.1.trans (by rw [decide_eq_true (hi1.uniq hi2)]), h.2⟩) rfl fun w9 f1 => ⟨m1.trans f1, U5, hX5.fr f1 (fun _ _ h => h), k0.fr f1, k1.fr f1, k2.fr f1, k3.fr f1, fun h => (r4 h).elim fun R h => ⟨R, h.1, h.2.fr f1⟩, fun h => (r7 h).elim fun R h => ⟨R, h.1, h.2.fr f1⟩, fun h => (r14 h).elim fun R h => ⟨R, h.1, h.2.fr f1⟩, fun h => (r18 h).elim fun R h => ⟨R, h.1, h.2.fr f1⟩⟩, fun h => by rw [w_yes (g := 1) (s := 83) (b := true) E rfl rfl (by decide) (D 1 _ rfl rfl)] at h; cases h⟩
            | 9, ho, hl, D, DL, hB =>
              obtain rfl := Option.some.inj ho
              exact ⟨fun _ => valx rfl (run_pick_t rfl (D 1 _ rfl rfl) (D 8 _ rfl rfl)) rfl ⟨m1, U5, hX5, k0, k1, k2, k3, r4, r7, r14, r18⟩, fun h => by rw [wanted_none rfl] at h; cases h⟩
            | 10, ho, hl, D, DL, hB =>
              obtain rfl := Option.some.inj ho
              exact ⟨fun _ => valx rfl (run_move rfl (D 9 _ rfl rfl)) rfl ⟨m1, U5, hX5, k0, k1, k2, k3, r4, r7, r14, r18⟩, fun h => by rw [wanted_none rfl] at h; cases h⟩
            | 11, ho, hl, D, DL, hB =>
              obtain rfl := Option.some.inj ho
              exact ⟨fun _ => valx rfl (run_move rfl (E.get 4 rfl)) rfl ⟨m1, U5, hX5, k0, k1, k2, k3, r4, r7, r14, r18⟩, fun h => by rw [w_yes (g := 10) (s := 92) (b := true) E rfl rfl (by decide) (D 10 _ rfl rfl)] at h; cases h⟩
            | 12, ho, hl, D, DL, hB =>
              obtain rfl := Option.some.inj ho
              exact ⟨fun _ => valx rfl (run_ld24 rfl (E.get 8 rfl) (rng2 (p := pt) k1.1 0 rfl rfl)) rfl ⟨m1, U5, hX5, k0, k1, k2, k3, r4, r7, r14, r18⟩, fun h => by rw [w_yes (g := 10) (s := 92) (b := true) E rfl rfl (by decide) (D 10 _ rfl rfl)] at h; cases h⟩
            | 13, ho, hl, D, DL, hB =>
              obtain rfl := Option.some.inj ho
              exact ⟨fun _ => valx rfl (run_move rfl (E.get 9 rfl)) rfl ⟨m1, U5, hX5, k0, k1, k2, k3, r4, r7, r14, r18⟩, fun h => by rw [w_yes (g := 10) (s := 92) (b := true) E rfl rfl (by decide) (D 10 _ rfl rfl)] at h; cases h⟩
            | 14, ho, hl, D, DL, hB =>
              obtain rfl := Option.some.inj ho
              refine ⟨fun _ => callxw (run_call3 (enters_of Try.func21 (by kernel_rfl) rfl) rfl rfl (D 11 _ rfl rfl) (D 12 _ rfl rfl) (D 13 _ rfl rfl)) (two_near hX5 (by omega) pt n) rfl fun v9 w9 f9 => ?_, fun h => by rw [w_yes (g := 10) (s := 92) (b := true) E rfl rfl (by decide) (D 10 _ rfl rfl)] at h; cases h⟩
              obtain ⟨R9, T9, hi9, ⟨hX9, f2, ht⟩, hr9⟩ := f9
              exact ⟨(γ.1, γ.2.1, v9, γ.2.2.2), rfl, (fun j hj => match j, hj with | 0, _ => rfl | 1, _ => rfl | 2, _ => rfl | 3, _ => rfl | 4, _ => rfl | 5, _ => rfl | 6, _ => rfl | 7, _ => rfl | 8, _ => rfl | 9, _ => rfl | 10, _ => rfl | 11, _ => rfl | 12, _ => rfl | 13, _ => rfl | 14, hj => absurd (hl.symm.trans hj) (by decide) | 15, _ => rfl | 16, _ => rfl | 17, _ => rfl | 18, _ => rfl | 19, _ => rfl | 20, _ => rfl | 21, _ => rfl | 22, _ => rfl | 23, _ => rfl | 24, _ => rfl | 25, _ => rfl | 26, _ => rfl | 27, _ => rfl | 28, _ => rfl | 29, _ => rfl | 30, _ => rfl | 31, _ => rfl | j9 + 32, _ => rfl), ⟨m1.trans' f2 (fun r hr e => by have := (hX5.lt r e).1; omega), T9, hX9, k0.q f2 ht, k1.q f2 ht, k2.q f2 ht, k3.q f2 ht, fun h => (r4 h).elim fun R h => ⟨R, h.1, h.2.q f2 ht⟩, fun h => (r7 h).elim fun R h => ⟨R, h.1, h.2.q f2 ht⟩, fun _ => ⟨R9, hi9, hr9⟩, fun h => (r18 h).elim fun R h => ⟨R, h.1, h.2.q f2 ht⟩⟩⟩
            | 15, ho, hl, D, DL, hB =>
              obtain rfl := Option.some.inj ho
              exact ⟨fun _ => valx rfl (run_move rfl (E.get 5 rfl)) rfl ⟨m1, U5, hX5, k0, k1, k2, k3, r4, r7, r14, r18⟩, fun h => by rw [w_yes (g := 10) (s := 92) (b := true) E rfl rfl (by decide) (D 10 _ rfl rfl)] at h; cases h⟩
            | 16, ho, hl, D, DL, hB =>
              obtain rfl := Option.some.inj ho
              exact ⟨fun _ => valx rfl (run_ld24 rfl (E.get 8 rfl) (rng2 (p := pt) k1.1 0 rfl rfl)) rfl ⟨m1, U5, hX5, k0, k1, k2, k3, r4, r7, r14, r18⟩, fun h => by rw [w_yes (g := 10) (s := 92) (b := true) E rfl rfl (by decide) (D 10 _ rfl rfl)] at h; cases h⟩
            | 17, ho, hl, D, DL, hB =>
              obtain rfl := Option.some.inj ho
              exact ⟨fun _ => valx rfl (run_move rfl (E.get 9 rfl)) rfl ⟨m1, U5, hX5, k0, k1, k2, k3, r4, r7, r14, r18⟩, fun h => by rw [w_yes (g := 10) (s := 92) (b := true) E rfl rfl (by decide) (D 10 _ rfl rfl)] at h; cases h⟩
            | 18, ho, hl, D, DL, hB =>
              obtain rfl := Option.some.inj ho
              refine ⟨fun _ => callxw (run_call3 (enters_of Try.func22 (by kernel_rfl) rfl) rfl rfl (D 15 _ rfl rfl) (D 16 _ rfl rfl) (D 17 _ rfl rfl)) (two_rnear hX5 hF (by omega) pt n) rfl fun v9 w9 f9 => ?_, fun h => by rw [w_yes (g := 10) (s := 92) (b := true) E rfl rfl (by decide) (D 10 _ rfl rfl)] at h; cases h⟩
              obtain ⟨R9, T9, hi9, ⟨hX9, f2, ht⟩, hr9⟩ := f9
              exact ⟨(γ.1, γ.2.1, γ.2.2.1, v9), rfl, (fun j hj => match j, hj with | 0, _ => rfl | 1, _ => rfl | 2, _ => rfl | 3, _ => rfl | 4, _ => rfl | 5, _ => rfl | 6, _ => rfl | 7, _ => rfl | 8, _ => rfl | 9, _ => rfl | 10, _ => rfl | 11, _ => rfl | 12, _ => rfl | 13, _ => rfl | 14, _ => rfl | 15, _ => rfl | 16, _ => rfl | 17, _ => rfl | 18, hj => absurd (hl.symm.trans hj) (by decide) | 19, _ => rfl | 20, _ => rfl | 21, _ => rfl | 22, _ => rfl | 23, _ => rfl | 24, _ => rfl | 25, _ => rfl | 26, _ => rfl | 27, _ => rfl | 28, _ => rfl | 29, _ => rfl | 30, _ => rfl | 31, _ => rfl | j9 + 32, _ => rfl), ⟨m1.trans' f2 (fun r hr e => by have := (hX5.lt r e).1; omega), T9, hX9, k0.q f2 ht, k1.q f2 ht, k2.q f2 ht, k3.q f2 ht, fun h => (r4 h).elim fun R h => ⟨R, h.1, h.2.q f2 ht⟩, fun h => (r7 h).elim fun R h => ⟨R, h.1, h.2.q f2 ht⟩, fun h => (r14 h).elim fun R h => ⟨R, h.1, h.2.q f2 ht⟩, fun _ => ⟨R9, hi9, hr9⟩⟩⟩
            | 19, ho, hl, D, DL, hB =>
              obtain ⟨R1, hi1, hr1⟩ := r14 (DL 14 rfl)
              obtain ⟨R2, hi2, hr2⟩ := r18 (DL 18 rfl)
              obtain rfl := Option.some.inj ho
              exact ⟨fun _ => callx rfl (run_call2 (enters_of Try.func18 (by kernel_rfl) rfl) rfl rfl (D 14 _ rfl rfl) (D 18 _ rfl rfl)) ((same_rw hr1 hr2).mono fun e w8 h => ⟨h.1.trans (by rw [decide_eq_true (hi1.uniq hi2)]), h.2⟩) rfl fun w9 f1 => ⟨m1.trans f1, U5, hX5.fr f1 (fun _ _ h => h), k0.fr f1, k1.fr f1, k2.fr f1, k3.fr f1, fun h => (r4 h).elim fun R h => ⟨R, h.1, h.2.fr f1⟩, fun h => (r7 h).elim fun R h => ⟨R, h.1, h.2.fr f1⟩, fun h => (r14 h).elim fun R h => ⟨R, h.1, h.2.fr f1⟩, fun h => (r18 h).elim fun R h => ⟨R, h.1, h.2.fr f1⟩⟩, fun h => by rw [w_yes (g := 10) (s := 92) (b := true) E rfl rfl (by decide) (D 10 _ rfl rfl)] at h; cases h⟩
            | 20, ho, hl, D, DL, hB =>
              obtain rfl := Option.some.inj ho
              exact ⟨fun _ => valx rfl (run_pick_t rfl (D 10 _ rfl rfl) (D 19 _ rfl rfl)) rfl ⟨m1, U5, hX5, k0, k1, k2, k3, r4, r7, r14, r18⟩, fun h => by rw [wanted_none rfl] at h; cases h⟩
            | 21, ho, hl, D, DL, hB =>
              obtain rfl := Option.some.inj ho
              exact ⟨fun _ => valx rfl (run_move rfl (D 20 _ rfl rfl)) rfl ⟨m1, U5, hX5, k0, k1, k2, k3, r4, r7, r14, r18⟩, fun h => by rw [wanted_none rfl] at h; cases h⟩
            | 22, ho, hl, D, DL, hB =>
              obtain rfl := Option.some.inj ho
              exact ⟨fun _ => valx rfl (run_ld26 rfl (E.get 3 rfl) (rng4 (p := c) k2.1 0 rfl rfl rfl rfl)) rfl ⟨m1, U5, hX5, k0, k1, k2, k3, r4, r7, r14, r18⟩, fun h => by rw [w_yes (g := 21) (s := 103) (b := true) E rfl rfl (by decide) (D 21 _ rfl rfl)] at h; cases h⟩
            | 23, ho, hl, D, DL, hB =>
              obtain rfl := Option.some.inj ho
              exact ⟨fun _ => valx rfl (run_ld26 rfl (E.get 1 rfl) (rng4 (p := c) k3.1 0 rfl rfl rfl rfl)) rfl ⟨m1, U5, hX5, k0, k1, k2, k3, r4, r7, r14, r18⟩, fun h => by rw [w_yes (g := 21) (s := 103) (b := true) E rfl rfl (by decide) (D 21 _ rfl rfl)] at h; cases h⟩
            | 24, ho, hl, D, DL, hB =>
              obtain rfl := Option.some.inj ho
              exact ⟨fun _ => valx rfl (run_bx26 rfl (D 22 _ rfl rfl) (D 23 _ rfl rfl)) rfl ⟨m1, U5, hX5, k0, k1, k2, k3, r4, r7, r14, r18⟩, fun h => by rw [w_yes (g := 21) (s := 103) (b := true) E rfl rfl (by decide) (D 21 _ rfl rfl)] at h; cases h⟩
            | 25, ho, hl, D, DL, hB =>
              obtain rfl := Option.some.inj ho
              exact ⟨fun _ => valx rfl (run_pick_t rfl (D 21 _ rfl rfl) (D 24 _ rfl rfl)) rfl ⟨m1, U5, hX5, k0, k1, k2, k3, r4, r7, r14, r18⟩, fun h => by rw [wanted_none rfl] at h; cases h⟩
            | 26, ho, hl, D, DL, hB =>
              obtain rfl := Option.some.inj ho
              exact ⟨fun _ => valx rfl (run_move rfl (D 25 _ rfl rfl)) rfl ⟨m1, U5, hX5, k0, k1, k2, k3, r4, r7, r14, r18⟩, fun h => by rw [wanted_none rfl] at h; cases h⟩
            | 27, ho, hl, D, DL, hB =>
              obtain rfl := Option.some.inj ho
              exact ⟨fun _ => valx rfl (run_move rfl (E.get 2 rfl)) rfl ⟨m1, U5, hX5, k0, k1, k2, k3, r4, r7, r14, r18⟩, fun h => by rw [w_yes (g := 26) (s := 108) (b := true) E rfl rfl (by decide) (D 26 _ rfl rfl)] at h; cases h⟩
            | 28, ho, hl, D, DL, hB =>
              obtain rfl := Option.some.inj ho
              exact ⟨fun _ => valx rfl (run_move rfl (E.get 0 rfl)) rfl ⟨m1, U5, hX5, k0, k1, k2, k3, r4, r7, r14, r18⟩, fun h => by rw [w_yes (g := 26) (s := 108) (b := true) E rfl rfl (by decide) (D 26 _ rfl rfl)] at h; cases h⟩
            | 29, ho, hl, D, DL, hB =>
              obtain rfl := Option.some.inj ho
              exact ⟨fun _ => valx rfl (run_beqb (D 27 _ rfl rfl) (D 28 _ rfl rfl) rfl) rfl ⟨m1, U5, hX5, k0, k1, k2, k3, r4, r7, r14, r18⟩, fun h => by rw [w_yes (g := 26) (s := 108) (b := true) E rfl rfl (by decide) (D 26 _ rfl rfl)] at h; cases h⟩
            | 30, ho, hl, D, DL, hB =>
              obtain rfl := Option.some.inj ho
              exact ⟨fun _ => valx rfl (run_pick_t rfl (D 26 _ rfl rfl) (D 29 _ rfl rfl)) rfl ⟨m1, U5, hX5, k0, k1, k2, k3, r4, r7, r14, r18⟩, fun h => by rw [wanted_none rfl] at h; cases h⟩
            | 31, ho, hl, D, DL, hB =>
              obtain rfl := Option.some.inj ho
              exact ⟨fun _ => valx rfl (run_assign rfl (D 30 _ rfl rfl)) rfl ⟨m1, U5, hX5, k0, k1, k2, k3, r4, r7, r14, r18⟩, fun h => by rw [wanted_none rfl] at h; cases h⟩
            | j9 + 32, ho, hl, D, DL, hB => exact absurd ho (by simp)
          · rintro ⟨γa, γb, γc, γd⟩ a w9 E V hM
            have E := E.add (v := .bool true) (V 31 _ rfl)
            clear V
            have hf := hM.1
            refine then_n ?_
            refine wp_ret ?_
            exact ret_tmp (t := 10) rfl E (E.get 0 rfl) ⟨rfl, hf⟩
      | true =>
        rw [hq43] at E
        have hlt : i < l.length := by have := of_decide_eq_true hq43; omega
        obtain ⟨y, hy⟩ : ∃ y, l[i]? = some y := ⟨_, List.getElem?_eq_getElem hlt⟩
        obtain ⟨g, off, hpe, hgl, hrow⟩ := hs.at hlt
        replace hrow := hrow _ y hy
        have hszy : y.2.1.size ≤ maxLen := by have := shB.id hq40 y (List.mem_of_getElem? hy); unfold maxLen; omega
        have hIl := hX.len hF
        refine wp_cond_true (E.get 0 rfl) ?_
        refine wp_skip ?_
        refine then_n ?_
        refine wp_seq ?_
        refine wp_block ?_
        refine wp_seq ?_
        refine wp_region_lit ?_
        refine env_put (d := 15) (v := .int .i64 0) E rfl (by decide) rfl (wanted_none rfl _) (run_assign rfl rfl) fun a E => ?_
        refine wpList_nil ?_
        refine then_n ?_
        refine wp_seq ?_
        refine wp_seq ?_
        refine wp_region_lit ?_
        refine env_put (d := 38) (v := .slice (p) l.length cap) E rfl (by decide) rfl (wanted_none rfl _) (run_move rfl (E.get 13 rfl)) fun a E => ?_
        refine env_put (d := 39) (v := .int .i64 (i : Int)) E rfl (by decide) rfl (wanted_none rfl _) (run_move rfl (E.get 6 rfl)) fun a E => ?_
        refine env_put (d := 40) (v := .pointer (some ⟨g, (off + i * 6), none⟩)) E rfl (by decide) rfl (wanted_none rfl _) (run_index22 (i := i) rfl ((E.get 1 rfl).trans (by rw [hpe])) (E.get 0 rfl) hlt) fun a E => ?_
        refine env_put (d := 41) (v := .pointer (some ⟨g, ((off + i * 6) + 0), none⟩)) E rfl (by decide) rfl (wanted_none rfl _) (fa35_0 rfl (E.get 0 rfl)) fun a E => ?_
        refine env_put (d := 42) (v := .bool y.1) E rfl (by decide) rfl (wanted_none rfl _) (run_ldb rfl (E.get 0 rfl) (hrow 0 _ rfl)) fun a E => ?_
        refine wpList_nil ?_
        refine then_n ?_
        cases hq48 : y.1 with
        | false =>
          rw [hq48] at E
          refine wp_cond_false (E.get 0 rfl) ?_
          have hdp := hF.put y.2.1 y.2.2
          refine wp_region_invx (G := Unit) () (n := 113) (base := [(14, .int .i64 (i : Int)), (12, .pointer (some ⟨q, 0, none⟩)), (13, .pointer (some ⟨r, 0, none⟩)), (11, .bool true), (6, .pointer (some ⟨b38, 0, none⟩)), (7, .pointer (some ⟨b39, 0, none⟩)), (3, .int .i64 n), (4, .string id), (0, .slice (p) l.length cap)]) (U := []) (T := fun γ => [some (50, .pointer (some ⟨r, 0, none⟩)), some (51, .slice (p) l.length cap), some (52, .int .i64 (i : Int)), some (53, .pointer (some ⟨g, (off + i * 6), none⟩)), some (54, .pointer (some ⟨g, (off + i * 6 + 1), none⟩)), some (55, .string y.2.1), some (56, .slice (p) l.length cap), some (57, .int .i64 (i : Int)), some (58, .pointer (some ⟨g, (off + i * 6), none⟩)), some (59, .pointer (some ⟨g, (off + i * 6 + 2), none⟩)), some (60, .agg (bxC y.2.2)), some (61, .int .i64 (doE (mOf (l.take i)) y)), some (15, .int .i64 (doE (mOf (l.take i)) y))]) (M := fun γ ls9 wm => (ls9 11 = false → Fr (fun _ => False) w2 wm) ∧ (ls9 11 = true → ∃ U9, TwoS w2 w.heap.size q i (mOf (l.take i)) r (rput I J y.2.1 y.2.2).2.1 (rput I J y.2.1 y.2.2).2.2 U U9 wm)) (by kernel_rfl) (by kernel_rfl) (fun _ => by kernel_rfl) (E.of ⟨E.get 10 rfl, E.get 11 rfl, E.get 12 rfl, E.get 13 rfl, E.get 14 rfl, E.get 15 rfl, E.get 16 rfl, E.get 17 rfl, E.get 18 rfl, trivial⟩) (fun x hx => by cases hx) ⟨fun _ => (Fr.refl _ _).drew, fun e => absurd e Bool.false_ne_true⟩ ?_ ?_
          · intro j9 o9 γ ls9 a w5 ho hl E D DL DL2 hB hM
            obtain ⟨m1, m2⟩ := hM
            match j9, ho, hl, D, DL, hB with
            | 0, ho, hl, D, DL, hB =>
              obtain rfl := Option.some.inj ho
              exact ⟨fun _ => valx rfl (run_move rfl (E.get 2 rfl)) rfl ⟨m1, m2⟩, fun h => by rw [wanted_none rfl] at h; cases h⟩
            | 1, ho, hl, D, DL, hB =>
              obtain rfl := Option.some.inj ho
              exact ⟨fun _ => valx rfl (run_move rfl (E.get 8 rfl)) rfl ⟨m1, m2⟩, fun h => by rw [wanted_none rfl] at h; cases h⟩
            | 2, ho, hl, D, DL, hB =>
              obtain rfl := Option.some.inj ho
              exact ⟨fun _ => valx rfl (run_move rfl (E.get 0 rfl)) rfl ⟨m1, m2⟩, fun h => by rw [wanted_none rfl] at h; cases h⟩
            | 3, ho, hl, D, DL, hB =>
              obtain rfl := Option.some.inj ho
              exact ⟨fun _ => valx rfl (run_index22 (i := i) rfl ((D 1 _ rfl rfl).trans (by rw [hpe])) (D 2 _ rfl rfl) hlt) rfl ⟨m1, m2⟩, fun h => by rw [wanted_none rfl] at h; cases h⟩
            | 4, ho, hl, D, DL, hB =>
              obtain rfl := Option.some.inj ho
              exact ⟨fun _ => valx rfl (fa35_1 rfl (D 3 _ rfl rfl)) rfl ⟨m1, m2⟩, fun h => by rw [wanted_none rfl] at h; cases h⟩
            | 5, ho, hl, D, DL, hB =>
              have n11 : ls9 11 = false := by
                cases h8 : ls9 11 with
                | false => rfl
                | true => exact absurd (hl.symm.trans (DL2 11 5 rfl h8)) (by decide)
              have hrow5 := fun j u hu => (m1 n11).cell (hrow j u hu) (fun h => h)
              obtain rfl := Option.some.inj ho
              exact ⟨fun _ => valx rfl (run_lds rfl (D 4 _ rfl rfl) (hrow5 1 _ rfl)) rfl ⟨m1, m2⟩, fun h => by rw [wanted_none rfl] at h; cases h⟩
            | 6, ho, hl, D, DL, hB =>
              obtain rfl := Option.some.inj ho
              exact ⟨fun _ => valx rfl (run_move rfl (E.get 8 rfl)) rfl ⟨m1, m2⟩, fun h => by rw [wanted_none rfl] at h; cases h⟩
            | 7, ho, hl, D, DL, hB =>
              obtain rfl := Option.some.inj ho
              exact ⟨fun _ => valx rfl (run_move rfl (E.get 0 rfl)) rfl ⟨m1, m2⟩, fun h => by rw [wanted_none rfl] at h; cases h⟩
            | 8, ho, hl, D, DL, hB =>
              obtain rfl := Option.some.inj ho
              exact ⟨fun _ => valx rfl (run_index22 (i := i) rfl ((D 6 _ rfl rfl).trans (by rw [hpe])) (D 7 _ rfl rfl) hlt) rfl ⟨m1, m2⟩, fun h => by rw [wanted_none rfl] at h; cases h⟩
            | 9, ho, hl, D, DL, hB =>
              obtain rfl := Option.some.inj ho
              exact ⟨fun _ => valx rfl (fa35_2 rfl (D 8 _ rfl rfl)) rfl ⟨m1, m2⟩, fun h => by rw [wanted_none rfl] at h; cases h⟩
            | 10, ho, hl, D, DL, hB =>
              have n11 : ls9 11 = false := by
                cases h8 : ls9 11 with
                | false => rfl
                | true => exact absurd (hl.symm.trans (DL2 11 10 rfl h8)) (by decide)
              have hrow5 : w5.rangeAt g (off + i * 6) (opL y) := fun j u hu => (m1 n11).cell (hrow j u hu) (fun h => h)
              obtain rfl := Option.some.inj ho
              exact ⟨fun _ => valx rfl (run_ld26 rfl (D 9 _ rfl rfl) (op_bx hrow5)) rfl ⟨m1, m2⟩, fun h => by rw [wanted_none rfl] at h; cases h⟩
            | 11, ho, hl, D, DL, hB =>
              have hX5 := hX.fr (m1 hl) (fun _ _ h => h)
              obtain rfl := Option.some.inj ho
              refine ⟨fun _ => callx rfl (run_call3 (enters_of Try.func14 (by kernel_rfl) rfl) rfl rfl (D 0 _ rfl rfl) (D 5 _ rfl rfl) (D 10 _ rfl rfl)) ((two_put hX5 hF.len (by omega) y.2.1 y.2.2).mono fun e w8 h => ⟨h.1.trans (by rw [hdp.1]; unfold doE; rw [if_neg (by rw [hq48]; decide)]), h.2⟩) rfl fun w9 f9 => ?_, fun h => by rw [wanted_none rfl] at h; cases h⟩
              obtain ⟨U9, k1, k2, k3⟩ := f9
              exact ⟨fun h => by simp at h, fun _ => ⟨U9, k1, ((m1 hl).mono fun _ _ h => h.elim).trans k2, fun k hk => by rcases k3 k hk with h | h; exact .inl h; exact .inr (by have := (m1 hl).size; omega)⟩⟩
            | 12, ho, hl, D, DL, hB =>
              obtain rfl := Option.some.inj ho
              exact ⟨fun _ => valx rfl (run_assign rfl (D 11 _ rfl rfl)) rfl ⟨m1, m2⟩, fun h => by rw [wanted_none rfl] at h; cases h⟩
            | j9 + 13, ho, hl, D, DL, hB => exact absurd ho (by simp)
          · rintro _ a wd E V hM
            have E := E.add (v := .int .i64 (doE (mOf (l.take i)) y)) (V 12 _ rfl)
            clear V
            obtain ⟨_, m2⟩ := hM
            have hY2 := m2 rfl
            clear m2
            obtain ⟨U2, hX2, f2, ht⟩ := hY2
            have hcb38 := hcb38.q f2 ht
            have hkb39 := hkb39.q f2 ht
            have hrow := fun j u hu => f2.cell (hrow j u hu) (fun e => by have := (hX.lt _ e).1; simp only at this; omega)
            have hs := hs.fr f2 (fun r hr e => by have := (hX.lt r e).1; omega)
            have hf := hf.trans' f2 (fun r hr e => by have := (hX.lt r e).1; omega)
            have hX := hX2
            clear hX2 f2 ht
            have hF2 : RefOf (doM (mOf (l.take i)) y) (rput I J y.2.1 y.2.2).2.1 (rput I J y.2.1 y.2.2).2.2 := by have h9 := hdp.2; unfold doM; rw [if_neg (by rw [hq48]; decide)]; exact h9
            obtain ⟨I2, hI2⟩ : ∃ I2, I2 = (rput I J y.2.1 y.2.2).2.1 := ⟨_, rfl⟩
            obtain ⟨J2, hJ2⟩ : ∃ J2, J2 = (rput I J y.2.1 y.2.2).2.2 := ⟨_, rfl⟩
            rw [← hI2, ← hJ2] at hX
            rw [← hI2, ← hJ2] at hF2
            clear hI2 hJ2 hdp
            refine then_n ?_
            refine wp_seq ?_
            refine wp_region_lit ?_
            refine env_put (d := 62) (v := .pointer (some ⟨q, 0, none⟩)) E rfl (by decide) rfl (wanted_none rfl _) (run_move rfl (E.get 2 rfl)) fun a E => ?_
            refine env_put (d := 63) (v := .slice (p) l.length cap) E rfl (by decide) rfl (wanted_none rfl _) (run_move rfl (E.get 10 rfl)) fun a E => ?_
            refine env_put (d := 64) (v := .int .i64 (i : Int)) E rfl (by decide) rfl (wanted_none rfl _) (run_move rfl (E.get 3 rfl)) fun a E => ?_
            refine env_put (d := 65) (v := .pointer (some ⟨g, (off + i * 6), none⟩)) E rfl (by decide) rfl (wanted_none rfl _) (run_index22 (i := i) rfl ((E.get 1 rfl).trans (by rw [hpe])) (E.get 0 rfl) hlt) fun a E => ?_
            refine env_put (d := 66) (v := .agg (opC y)) E rfl (by decide) rfl (wanted_none rfl _) (run_ld35 rfl (E.get 0 rfl) hrow) fun a E => ?_
            refine env_call (d := 67) (v := .int .i64 (doE (mOf (l.take i)) y)) (F := fun w8 => ∃ U9, TwoS wd w.heap.size q (i + 1) (doM (mOf (l.take i)) y) r I2 J2 U2 U9 w8) E rfl (by decide) rfl (wanted_none rfl _) (run_call2 (enters_of Try.func15 (by kernel_rfl) rfl) rfl rfl (E.get 4 rfl) (E.get 0 rfl)) (two_do hX (by omega) y hszy) fun a we hY2 E => ?_
            obtain ⟨U3, hX2, f2, ht⟩ := hY2
            have hcb38 := hcb38.q f2 ht
            have hkb39 := hkb39.q f2 ht
            have hs := hs.fr f2 (fun r hr e => by have := (hX.lt r e).1; omega)
            have hf := hf.trans' f2 (fun r hr e => by have := (hX.lt r e).1; omega)
            have hX := hX2
            clear hX2 f2 ht
            have hF := hF2
            rw [← mOf_step hy] at hX hF
            have hne : ((doE (mOf (l.take i)) y) != (doE (mOf (l.take i)) y)) = false := by simp
            refine env_put (d := 68) (v := .int .i64 (doE (mOf (l.take i)) y)) E rfl (by decide) rfl (wanted_none rfl _) (run_move rfl (E.get 6 rfl)) fun a E => ?_
            refine env_put (d := 69) (v := .bool false) E rfl (by decide) rfl (wanted_none rfl _) ((run_ineq (E.get 1 rfl) (E.get 0 rfl) Try.underlying33 rfl).trans (by rw [hne] <;> rfl)) fun a E => ?_
            refine wpList_nil ?_
            refine then_n ?_
            refine wp_cond_false (E.get 0 rfl) ?_
            refine wp_skip ?_
            refine blk_n ?_
            refine then_n ?_
            refine wp_region_lit ?_
            refine env_put (d := 36) (v := .int .i64 (i : Int)) E rfl (by decide) rfl (wanted_none rfl _) (run_move rfl (E.get 9 rfl)) fun a E => ?_
            refine env_put (d := 37) (v := .int .i64 ((i : Int) + 1)) E rfl (by decide) rfl (wanted_none rfl _) (run_iadd Try.underlying3 (E.get 0 rfl) rfl (by omega) (by omega) rfl) fun a E => ?_
            refine env_set (d := 14) (v := .int .i64 ((i : Int) + 1)) E rfl (by decide) (wanted_none rfl _) (run_assign rfl (E.get 0 rfl)) fun a E => ?_
            refine wpList_nil ?_
            refine then_n ?_
            refine ⟨⟨i + 1, _, _, _, E.of ⟨E.get 0 rfl, E.get 12 rfl, E.get 13 rfl, E.get 14 rfl, E.get 15 rfl, E.get 16 rfl, E.get 17 rfl, E.get 18 rfl, E.get 19 rfl, trivial⟩, by omega, hX, hF, hs, hf, hcb38, hkb39⟩, ?_⟩
            rw [E.get 0 rfl]; simp only [intOf]; omega
        | true =>
          rw [hq48] at E
          refine wp_cond_true (E.get 0 rfl) ?_
          refine wp_region_lit ?_
          refine env_put (d := 43) (v := .pointer (some ⟨r, 0, none⟩)) E rfl (by decide) rfl (wanted_none rfl _) (run_move rfl (E.get 12 rfl)) fun a E => ?_
          refine env_put (d := 44) (v := .slice (p) l.length cap) E rfl (by decide) rfl (wanted_none rfl _) (run_move rfl (E.get 19 rfl)) fun a E => ?_
          refine env_put (d := 45) (v := .int .i64 (i : Int)) E rfl (by decide) rfl (wanted_none rfl _) (run_move rfl (E.get 12 rfl)) fun a E => ?_
          refine env_put (d := 46) (v := .pointer (some ⟨g, (off + i * 6), none⟩)) E rfl (by decide) rfl (wanted_none rfl _) (run_index22 (i := i) rfl ((E.get 1 rfl).trans (by rw [hpe])) (E.get 0 rfl) hlt) fun a E => ?_
          refine env_put (d := 47) (v := .pointer (some ⟨g, ((off + i * 6) + 1), none⟩)) E rfl (by decide) rfl (wanted_none rfl _) (fa35_1 rfl (E.get 0 rfl)) fun a E => ?_
          refine env_put (d := 48) (v := .string y.2.1) E rfl (by decide) rfl (wanted_none rfl _) (run_lds rfl (E.get 0 rfl) (hrow 1 _ rfl)) fun a E => ?_
          have hdp := hF.drop y.2.1
          refine env_call (d := 49) (v := .int .i64 (doE (mOf (l.take i)) y)) (F := fun w8 => ∃ U9, TwoS w2 w.heap.size q i (mOf (l.take i)) r (rdrop I J y.2.1).2.1 (rdrop I J y.2.1).2.2 U U9 w8) E rfl (by decide) rfl (wanted_none rfl _) (run_call2 (enters_of Try.func13 (by kernel_rfl) rfl) rfl rfl (E.get 5 rfl) (E.get 0 rfl)) ((two_drop hX hF.len (by omega) y.2.1).mono fun e w8 h => ⟨h.1.trans (by rw [hdp.1]; unfold doE; rw [if_pos hq48]), h.2⟩) fun a wd hY2 E => ?_
          obtain ⟨U2, hX2, f2, ht⟩ := hY2
          have hcb38 := hcb38.q f2 ht
          have hkb39 := hkb39.q f2 ht
          have hrow := fun j u hu => f2.cell (hrow j u hu) (fun e => by have := (hX.lt _ e).1; simp only at this; omega)
          have hs := hs.fr f2 (fun r hr e => by have := (hX.lt r e).1; omega)
          have hf := hf.trans' f2 (fun r hr e => by have := (hX.lt r e).1; omega)
          have hX := hX2
          clear hX2 f2 ht
          have hF2 : RefOf (doM (mOf (l.take i)) y) (rdrop I J y.2.1).2.1 (rdrop I J y.2.1).2.2 := by have h9 := hdp.2; unfold doM; rw [if_pos hq48]; exact h9
          obtain ⟨I2, hI2⟩ : ∃ I2, I2 = (rdrop I J y.2.1).2.1 := ⟨_, rfl⟩
          obtain ⟨J2, hJ2⟩ : ∃ J2, J2 = (rdrop I J y.2.1).2.2 := ⟨_, rfl⟩
          rw [← hI2, ← hJ2] at hX
          rw [← hI2, ← hJ2] at hF2
          clear hI2 hJ2 hdp
          refine env_set (d := 15) (v := .int .i64 (doE (mOf (l.take i)) y)) E rfl (by decide) (wanted_none rfl _) (run_assign rfl (E.get 0 rfl)) fun a E => ?_
          refine wpList_nil ?_
          refine then_n ?_
          refine wp_seq ?_
          refine wp_region_lit ?_
          refine env_put (d := 62) (v := .pointer (some ⟨q, 0, none⟩)) E rfl (by decide) rfl (wanted_none rfl _) (run_move rfl (E.get 18 rfl)) fun a E => ?_
          refine env_put (d := 63) (v := .slice (p) l.length cap) E rfl (by decide) rfl (wanted_none rfl _) (run_move rfl (E.get 26 rfl)) fun a E => ?_
          refine env_put (d := 64) (v := .int .i64 (i : Int)) E rfl (by decide) rfl (wanted_none rfl _) (run_move rfl (E.get 19 rfl)) fun a E => ?_
          refine env_put (d := 65) (v := .pointer (some ⟨g, (off + i * 6), none⟩)) E rfl (by decide) rfl (wanted_none rfl _) (run_index22 (i := i) rfl ((E.get 1 rfl).trans (by rw [hpe])) (E.get 0 rfl) hlt) fun a E => ?_
          refine env_put (d := 66) (v := .agg (opC y)) E rfl (by decide) rfl (wanted_none rfl _) (run_ld35 rfl (E.get 0 rfl) hrow) fun a E => ?_
          refine env_call (d := 67) (v := .int .i64 (doE (mOf (l.take i)) y)) (F := fun w8 => ∃ U9, TwoS wd w.heap.size q (i + 1) (doM (mOf (l.take i)) y) r I2 J2 U2 U9 w8) E rfl (by decide) rfl (wanted_none rfl _) (run_call2 (enters_of Try.func15 (by kernel_rfl) rfl) rfl rfl (E.get 4 rfl) (E.get 0 rfl)) (two_do hX (by omega) y hszy) fun a we hY2 E => ?_
          obtain ⟨U3, hX2, f2, ht⟩ := hY2
          have hcb38 := hcb38.q f2 ht
          have hkb39 := hkb39.q f2 ht
          have hs := hs.fr f2 (fun r hr e => by have := (hX.lt r e).1; omega)
          have hf := hf.trans' f2 (fun r hr e => by have := (hX.lt r e).1; omega)
          have hX := hX2
          clear hX2 f2 ht
          have hF := hF2
          rw [← mOf_step hy] at hX hF
          have hne : ((doE (mOf (l.take i)) y) != (doE (mOf (l.take i)) y)) = false := by simp
          refine env_put (d := 68) (v := .int .i64 (doE (mOf (l.take i)) y)) E rfl (by decide) rfl (wanted_none rfl _) (run_move rfl (E.get 6 rfl)) fun a E => ?_
          refine env_put (d := 69) (v := .bool false) E rfl (by decide) rfl (wanted_none rfl _) ((run_ineq (E.get 1 rfl) (E.get 0 rfl) Try.underlying33 rfl).trans (by rw [hne] <;> rfl)) fun a E => ?_
          refine wpList_nil ?_
          refine then_n ?_
          refine wp_cond_false (E.get 0 rfl) ?_
          refine wp_skip ?_
          refine blk_n ?_
          refine then_n ?_
          refine wp_region_lit ?_
          refine env_put (d := 36) (v := .int .i64 (i : Int)) E rfl (by decide) rfl (wanted_none rfl _) (run_move rfl (E.get 25 rfl)) fun a E => ?_
          refine env_put (d := 37) (v := .int .i64 ((i : Int) + 1)) E rfl (by decide) rfl (wanted_none rfl _) (run_iadd Try.underlying3 (E.get 0 rfl) rfl (by omega) (by omega) rfl) fun a E => ?_
          refine env_set (d := 14) (v := .int .i64 ((i : Int) + 1)) E rfl (by decide) (wanted_none rfl _) (run_assign rfl (E.get 0 rfl)) fun a E => ?_
          refine wpList_nil ?_
          refine then_n ?_
          refine ⟨⟨i + 1, _, _, _, E.of ⟨E.get 0 rfl, E.get 28 rfl, E.get 29 rfl, E.get 30 rfl, E.get 31 rfl, E.get 32 rfl, E.get 33 rfl, E.get 34 rfl, E.get 35 rfl, trivial⟩, by omega, hX, hF, hs, hf, hcb38, hkb39⟩, ?_⟩
          rw [E.get 0 rfl]; simp only [intOf]; omega
    | true =>
      rw [hq41] at E
      refine wp_cond_true (E.get 0 rfl) ?_
      refine wp_seq ?_
      refine wp_region_lit ?_
      refine env_put (d := 29) (v := .bool true) E rfl (by decide) rfl (wanted_none rfl _) (run_move rfl (E.get 8 rfl)) fun a E => ?_
      refine env_set (d := 10) (v := .bool true) E rfl (by decide) (wanted_none rfl _) (run_assign rfl (E.get 0 rfl)) fun a E => ?_
      refine wpList_nil ?_
      refine then_n ?_
      refine wp_ret ?_
      refine then_r ?_
      exact ret_tmp (t := 10) rfl E (E.get 0 rfl) ⟨rfl, hf⟩
end Go.Proofs.Ytcafnanbdmapgaa
