/- The laws of the index: IndexExact. -/
import Derived.Test.YtcafnanbdmapgaaO3
set_option linter.unusedVariables false
set_option linter.unusedSimpArgs false
namespace Go.Proofs.Ytcafnanbdmapgaa
open Go.RowKit Go.Pl

section
variable {o : Oper} {w : World} {ρ : Operand → Value} {x y : Operand} {g off n cap i : Nat}
theorem run_index42z {z : Int} (hz : z = (i : Int)) (ho : o.op = .indexAddr 42 x y) (hx : ρ x = .slice (some ⟨g, off, none⟩) n cap) (hy : ρ y = .int .i64 z) (hi : i < n) : (execOp ρ o).run Try.prog w = .ok (.value (.pointer (some ⟨g, off + i, none⟩))) w := by
  subst hz; exact run_index42 ho hx hy hi
end
theorem doM_id {m : ByteArray → Option Bx} {o : Wo} {s : ByteArray} {b : Bx} (h : doM m o s = some b) : m s = some b ∨ s = o.2.1 := by
  unfold doM at h
  split at h
  · unfold delB at h; split at h
    · cases h
    · exact .inl h
  · unfold putM at h; split at h
    · unfold updB at h; split at h
      · rename_i e; exact .inr e
      · exact .inl h
    · exact .inl h
theorem fold_id : ∀ (l : List Wo) (m : ByteArray → Option Bx) {s : ByteArray} {b : Bx}, l.foldl doM m s = some b → (∃ c, m s = some c) ∨ ∃ o ∈ l, o.2.1 = s
  | [], m, s, b, h => .inl ⟨b, h⟩
  | o :: l, m, s, b, h => by
    rcases fold_id l (doM m o) h with ⟨c, hc⟩ | ⟨o', h1, h2⟩
    · rcases doM_id hc with h3 | h3
      · exact .inl ⟨c, h3⟩
      · exact .inr ⟨o, by simp, h3.symm⟩
    · exact .inr ⟨o', by simp [h1], h2⟩
theorem mOf_id {l : List Wo} {s : ByteArray} {b : Bx} (h : mOf l s = some b) : ∃ o ∈ l, o.2.1 = s := by
  rcases fold_id l _ h with ⟨c, hc⟩ | h
  · cases hc
  · exact h
theorem mOf_size {l : List Wo} {n : Int} (hsh : shB l n = true) (s : ByteArray) (b : Bx) (h : mOf l s = some b) : s.size ≤ maxLen := by
  obtain ⟨o, h1, rfl⟩ := mOf_id h
  have := shB.id hsh o h1
  unfold maxLen; omega

set_option maxRecDepth 100000 in
set_option maxHeartbeats 16000000 in
theorem exact_calls {w : World} {cap : Nat} {p : Option Addr} {l : List Wo} (hs : srcAt opL 6 w w.heap.size p l) (hb : l.length ≤ 9223372036854775807) (b : Bx) : Calls Try.prog 4 #[.slice p l.length cap, .agg (bxC b)] w fun e w' => e = .returned (.bool true) ∧ Fr (fun _ => False) w w' := by
  refine wp_start2 Try.func4 rfl rfl (n := 105) (by decide) fun a E => ?_
  have hf : Fr (fun _ => False) w w := Fr.refl _ _
  refine wp_seq ?_
  refine wp_region_lit ?_
  have hTl := (fun k hk => hk.elim : ∀ k, (fun _ : Nat => False) k → k < w.heap.size)
  refine env_box26 (d := 3) E rfl (by decide) rfl (wanted_none rfl _) rfl (E.get 1 rfl) fun a w1 b38 eb38 hb38 f1 E => ?_
  have hcb38 : Cw w1 (fun _ => False) b38 b := ⟨hb38, fun ht => by have := hTl b38 ht; omega⟩
  have hs := hs.fr f1 (fun _ _ h => h)
  have hf := hf.trans f1
  clear f1
  clear hb38 hTl eb38
  refine env_put (d := 4) (v := .bool false) E rfl (by decide) rfl (wanted_none rfl _) (run_assign rfl rfl) fun a E => ?_
  refine wpList_nil ?_
  refine then_n ?_
  refine wp_seq ?_
  refine wp_region_lit ?_
  refine env_call (d := 14) (v := .bool true) E rfl (by decide) rfl (wanted_none rfl _) (run_call0 (enters_of Try.func9 (by kernel_rfl) rfl) rfl rfl) (head_calls _) fun a w1 f1 E => ?_
  have hs := hs.fr f1 (fun _ _ h => h)
  have hcb38 := hcb38.fr f1
  have hf := hf.trans f1
  clear f1
  refine env_put (d := 5) (v := .bool true) E rfl (by decide) rfl (wanted_none rfl _) (run_assign rfl (E.get 0 rfl)) fun a E => ?_
  refine wpList_nil ?_
  refine then_n ?_
  refine wp_seq ?_
  refine wp_seq ?_
  refine wp_region_lit ?_
  refine env_put (d := 15) (v := .slice (p) l.length cap) E rfl (by decide) rfl (wanted_none rfl _) (run_move rfl (E.get 4 rfl)) fun a E => ?_
  refine env_call (d := 16) (v := .bool (shB l 80)) E rfl (by decide) rfl (wanted_none rfl _) (run_call2 (enters_of Try.func10 (by kernel_rfl) rfl) rfl rfl (E.get 0 rfl) rfl) (short_calls hs hb 80) fun a w1 f1 E => ?_
  have hs := hs.fr f1 (fun _ _ h => h)
  have hcb38 := hcb38.fr f1
  have hf := hf.trans f1
  clear f1
  refine env_put (d := 17) (v := .bool (!(shB l 80))) E rfl (by decide) rfl (wanted_none rfl _) (run_not rfl (E.get 0 rfl)) fun a E => ?_
  refine wpList_nil ?_
  refine then_n ?_
  cases hq39 : (shB l 80) with
  | false =>
    rw [hq39] at E
    refine wp_cond_true (E.get 0 rfl) ?_
    refine wp_seq ?_
    refine wp_region_lit ?_
    refine env_put (d := 18) (v := .bool true) E rfl (by decide) rfl (wanted_none rfl _) (run_move rfl (E.get 3 rfl)) fun a E => ?_
    refine env_set (d := 4) (v := .bool true) E rfl (by decide) (wanted_none rfl _) (run_assign rfl (E.get 0 rfl)) fun a E => ?_
    refine wpList_nil ?_
    refine then_n ?_
    refine wp_ret ?_
    refine then_r ?_
    exact ret_tmp (t := 4) rfl E (E.get 0 rfl) ⟨rfl, hf⟩
  | true =>
    rw [hq39] at E
    have hlen := shB.len hq39
    have hN9 : l.length ≤ 100000 := by omega
    refine wp_cond_false (E.get 0 rfl) ?_
    refine wp_skip ?_
    refine then_n ?_
    refine wp_seq ?_
    refine wp_region_lit ?_
    refine env_put (d := 19) (v := .slice (p) l.length cap) E rfl (by decide) rfl (wanted_none rfl _) (run_move rfl (E.get 7 rfl)) fun a E => ?_
    have hz0 := hf.size
    refine env_callv (d := 20) (R := fun u w8 => ∃ q T, u = .pointer (some ⟨q, 0, none⟩) ∧ Ix w8 w1.heap.size q l.length T (mOf l) ∧ Fr (fun _ => False) w1 w8) E rfl (by decide) rfl (wanted_none rfl _) (run_call1 (enters_of Try.func23 (by kernel_rfl) rfl) rfl rfl (E.get 0 rfl)) ((built_calls (hs.mono hz0) hq39).mono fun e w8 ⟨q, T, h1, h2, h3⟩ => ⟨_, h1, q, T, rfl, h2, h3⟩) fun a wb1 u9 hR E => ?_
    obtain ⟨q, T, rfl, hX, f1⟩ := hR
    have ht : TT w1 (fun _ => False) T := fun k hk => .inr (hX.lt k hk).1
    have hs := hs.fr f1 (fun _ _ h => h)
    have hcb38 := hcb38.q (f1.mono fun _ _ h => h) ht
    have hf := hf.trans f1
    have hX := hX.base hz0
    clear f1 ht hz0
    have hmi : ∀ s c, mOf l s = some c → s.size ≤ maxLen := mOf_size hq39
    obtain ⟨m, hm⟩ : ∃ m, m = mOf l := ⟨_, rfl⟩
    rw [← hm] at hX hmi
    have hok := hX.ok
    refine env_put (d := 6) (v := .pointer (some ⟨q, 0, none⟩)) E rfl (by decide) rfl (wanted_none rfl _) (run_assign rfl (E.get 0 rfl)) fun a E => ?_
    refine wpList_nil ?_
    refine then_n ?_
    refine wp_seq ?_
    refine wp_region_lit ?_
    refine env_put (d := 21) (v := .pointer (some ⟨q, 0, none⟩)) E rfl (by decide) rfl (wanted_none rfl _) (run_move rfl (E.get 0 rfl)) fun a E => ?_
    refine env_put (d := 22) (v := .agg (bxC b)) E rfl (by decide) rfl (wanted_none rfl _) (run_ld26 rfl (E.get 10 rfl) (rng4 (p := b) hcb38.1 0 rfl rfl rfl rfl)) fun a E => ?_
    refine env_callv (d := 23) (R := fun u w8 => ∃ R T9, InS m b R ∧ IxS wb1 w.heap.size q l.length T m T9 w8 ∧ Rw w8 T9 u R) E rfl (by decide) rfl (wanted_none rfl _) (run_call2 (enters_of Try.func19 (by kernel_rfl) rfl) rfl rfl (E.get 1 rfl) (E.get 0 rfl)) (in_q hX hN9 b) fun a w1 v40 hR E => ?_
    obtain ⟨R40, T40, hiR40, ⟨hX2, f2, ht⟩, hr40⟩ := hR
    have hcb38 := hcb38.q f2 ht
    have hs := hs.fr f2 (fun r hr e => by have := (hX.lt r e).1; omega)
    have hf := hf.trans' f2 (fun r hr e => by have := (hX.lt r e).1; omega)
    have hX := hX2
    clear hX2 f2 ht
    obtain ⟨pr40, cr40, hv40, _, hl40⟩ := hr40.src
    subst hv40
    refine env_put (d := 7) (v := .slice (pr40) R40.length cr40) E rfl (by decide) rfl (wanted_none rfl _) (run_assign rfl (E.get 0 rfl)) fun a E => ?_
    refine wpList_nil ?_
    refine then_n ?_
    refine wp_seq ?_
    refine wp_seq ?_
    refine wp_region_lit ?_
    refine env_put (d := 24) (v := .agg (bxC b)) E rfl (by decide) rfl (wanted_none rfl _) (run_ld26 rfl (E.get 13 rfl) (rng4 (p := b) hcb38.1 0 rfl rfl rfl rfl)) fun a E => ?_
    refine env_call (d := 25) (v := .bool (decide (okB b))) E rfl (by decide) rfl (wanted_none rfl _) (run_call1 (enters_of Try.func24 (by kernel_rfl) rfl) rfl rfl (E.get 0 rfl)) (valid_calls _ _) fun a w1 f1 E => ?_
    have hs := hs.fr f1 (fun _ _ h => h)
    have hcb38 := hcb38.fr f1
    have hX := Ix.fr hX f1 (fun _ _ h => h)
    have hr40 := hr40.fr f1
    have hf := hf.trans f1
    clear f1
    refine env_put (d := 26) (v := .bool (!(decide (okB b)))) E rfl (by decide) rfl (wanted_none rfl _) (run_not rfl (E.get 0 rfl)) fun a E => ?_
    refine wpList_nil ?_
    refine then_n ?_
    cases hq41 : (decide (okB b)) with
    | false =>
      rw [hq41] at E
      have hR0 : R40 = [] := by unfold InS at hiR40; rwa [if_neg (of_decide_eq_false hq41)] at hiR40
      refine wp_cond_true (E.get 0 rfl) ?_
      refine wp_seq ?_
      refine wp_region_lit ?_
      refine env_put (d := 27) (v := .bool true) E rfl (by decide) rfl (wanted_none rfl _) (run_move rfl (E.get 13 rfl)) fun a E => ?_
      refine env_put (d := 28) (v := .bool true) E rfl (by decide) rfl (wanted_none rfl _) (run_move rfl (E.get 0 rfl)) fun a E => ?_
      refine env_put (d := 29) (v := .slice (pr40) R40.length cr40) E rfl (by decide) rfl (w_yes (g := 1) (s := 28) E rfl rfl (by decide) (E.get 0 rfl)) (run_move rfl (E.get 5 rfl)) fun a E => ?_
      refine env_put (d := 30) (v := .int .i64 (R40.length : Int)) E rfl (by decide) rfl (w_yes (g := 1) (s := 28) E rfl rfl (by decide) (E.get 1 rfl)) (run_len42 rfl (E.get 0 rfl)) fun a E => ?_
      refine env_put (d := 31) (v := .bool ((R40.length : Int) == 0)) E rfl (by decide) rfl (w_yes (g := 1) (s := 28) E rfl rfl (by decide) (E.get 2 rfl)) (run_ieql (E.get 0 rfl) rfl Try.underlying3 rfl) fun a E => ?_
      refine env_put (d := 32) (v := .bool ((R40.length : Int) == 0)) E rfl (by decide) rfl (wanted_none rfl _) (run_pick_t rfl (E.get 3 rfl) (E.get 0 rfl)) fun a E => ?_
      refine env_set (d := 4) (v := .bool ((R40.length : Int) == 0)) E rfl (by decide) (wanted_none rfl _) (run_assign rfl (E.get 0 rfl)) fun a E => ?_
      refine wpList_nil ?_
      refine then_n ?_
      refine wp_ret ?_
      refine then_r ?_
      exact ret_tmp (t := 4) rfl E (E.get 0 rfl) ⟨by rw [hR0]; rfl, hf⟩
    | true =>
      rw [hq41] at E
      have hI : InR m b R40 := by unfold InS at hiR40; rwa [if_pos (of_decide_eq_true hq41)] at hiR40
      refine wp_cond_false (E.get 0 rfl) ?_
      refine wp_skip ?_
      refine then_n ?_
      refine wp_seq ?_
      refine wp_seq ?_
      refine wp_region_lit ?_
      refine env_put (d := 8) (v := .int .i64 0) E rfl (by decide) rfl (wanted_none rfl _) (run_assign rfl rfl) fun a E => ?_
      refine wpList_nil ?_
      refine then_n ?_
      refine wp_block ?_
      refine wp_loop (fun a w2 => ∃ (i : Nat), Env 105 [(8, .int .i64 (i : Int)), (7, .slice (pr40) R40.length cr40), (6, .pointer (some ⟨q, 0, none⟩)), (5, .bool true), (3, .pointer (some ⟨b38, 0, none⟩)), (0, .slice (p) l.length cap)] a ∧ i ≤ R40.length ∧ Ix w2 w.heap.size q l.length T40 m ∧ srcAt opL 6 w2 w.heap.size p l ∧ Fr (fun _ => False) w w2 ∧ Cw w2 T40 b38 b ∧ Rw w2 T40 (.slice pr40 R40.length cr40) R40) (fun a _ => R40.length - (intOf (a.eval (.tmp 8))).toNat) ?_ ?_
      · exact ⟨0, E.of ⟨E.get 0 rfl, E.get 4 rfl, E.get 8 rfl, E.get 14 rfl, E.get 17 rfl, E.get 18 rfl, trivial⟩, Nat.zero_le _, hX, hs, hf, hcb38, hr40⟩
      clear E
      rintro a w2 ⟨i, E, hii, hX, hs, hf, hcb38, hr40⟩
      have hmu : R40.length - (intOf (a.eval (.tmp 8))).toNat = R40.length - i := by rw [E.get 0 rfl]; first | rfl | (simp [intOf]; done) | (simp only [intOf]; omega)
      rw [hmu]
      clear hmu
      refine wp_seq ?_
      refine wp_seq ?_
      refine wp_region_lit ?_
      refine env_put (d := 33) (v := .int .i64 (i : Int)) E rfl (by decide) rfl (wanted_none rfl _) (run_move rfl (E.get 0 rfl)) fun a E => ?_
      refine env_put (d := 34) (v := .slice (pr40) R40.length cr40) E rfl (by decide) rfl (wanted_none rfl _) (run_move rfl (E.get 2 rfl)) fun a E => ?_
      refine env_put (d := 35) (v := .int .i64 (R40.length : Int)) E rfl (by decide) rfl (wanted_none rfl _) (run_len42 rfl (E.get 0 rfl)) fun a E => ?_
      refine env_put (d := 36) (v := .bool (decide ((i : Int) < (R40.length : Int)))) E rfl (by decide) rfl (wanted_none rfl _) (run_ilss (E.get 2 rfl) (E.get 0 rfl) Try.underlying3 rfl) fun a E => ?_
      refine wpList_nil ?_
      refine then_n ?_
      cases hq43 : (decide ((i : Int) < (R40.length : Int))) with
      | false =>
        rw [hq43] at E
        refine wp_cond_false (E.get 0 rfl) ?_
        refine wp_exit ?_
        refine then_e ?_
        refine then_e ?_
        refine blk_e ?_
        refine then_n ?_
        refine wp_seq ?_
        refine wp_seq ?_
        refine wp_region_lit ?_
        refine env_put (d := 11) (v := .int .i64 0) E rfl (by decide) rfl (wanted_none rfl _) (run_assign rfl rfl) fun a E => ?_
        refine wpList_nil ?_
        refine then_n ?_
        refine wp_block ?_
        refine wp_loop (fun a w2 => ∃ (j : Nat), Env 105 [(11, .int .i64 (j : Int)), (7, .slice (pr40) R40.length cr40), (6, .pointer (some ⟨q, 0, none⟩)), (5, .bool true), (3, .pointer (some ⟨b38, 0, none⟩)), (0, .slice (p) l.length cap)] a ∧ j ≤ l.length ∧ Ix w2 w.heap.size q l.length T40 m ∧ srcAt opL 6 w2 w.heap.size p l ∧ Fr (fun _ => False) w w2 ∧ Cw w2 T40 b38 b ∧ Rw w2 T40 (.slice pr40 R40.length cr40) R40) (fun a _ => l.length - (intOf (a.eval (.tmp 11))).toNat) ?_ ?_
        · exact ⟨0, E.of ⟨E.get 0 rfl, E.get 6 rfl, E.get 7 rfl, E.get 8 rfl, E.get 9 rfl, E.get 10 rfl, trivial⟩, Nat.zero_le _, hX, hs, hf, hcb38, hr40⟩
        clear E
        rintro a w2 ⟨j, E, hij, hX, hs, hf, hcb38, hr40⟩
        have hmu : l.length - (intOf (a.eval (.tmp 11))).toNat = l.length - j := by rw [E.get 0 rfl]; first | rfl | (simp [intOf]; done) | (simp only [intOf]; omega)
        rw [hmu]
        clear hmu
        refine wp_seq ?_
        refine wp_seq ?_
        refine wp_region_lit ?_
        refine env_put (d := 72) (v := .int .i64 (j : Int)) E rfl (by decide) rfl (wanted_none rfl _) (run_move rfl (E.get 0 rfl)) fun a E => ?_
        refine env_put (d := 73) (v := .slice (p) l.length cap) E rfl (by decide) rfl (wanted_none rfl _) (run_move rfl (E.get 6 rfl)) fun a E => ?_
        refine env_put (d := 74) (v := .int .i64 (l.length : Int)) E rfl (by decide) rfl (wanted_none rfl _) (run_len22 rfl (E.get 0 rfl)) fun a E => ?_
        refine env_put (d := 75) (v := .bool (decide ((j : Int) < (l.length : Int)))) E rfl (by decide) rfl (wanted_none rfl _) (run_ilss (E.get 2 rfl) (E.get 0 rfl) Try.underlying3 rfl) fun a E => ?_
        refine wpList_nil ?_
        refine then_n ?_
        cases hq45 : (decide ((j : Int) < (l.length : Int))) with
        | false =>
          rw [hq45] at E
          refine wp_cond_false (E.get 0 rfl) ?_
          refine wp_exit ?_
          refine then_e ?_
          refine then_e ?_
          refine blk_e ?_
          refine then_n ?_
          refine wp_seq ?_
          refine wp_region_lit ?_
          refine env_put (d := 104) (v := .bool true) E rfl (by decide) rfl (wanted_none rfl _) (run_move rfl (E.get 7 rfl)) fun a E => ?_
          refine env_put (d := 4) (v := .bool true) E rfl (by decide) rfl (wanted_none rfl _) (run_assign rfl (E.get 0 rfl)) fun a E => ?_
          refine wpList_nil ?_
          refine then_n ?_
          refine wp_ret ?_
          exact ret_tmp (t := 4) rfl E (E.get 0 rfl) ⟨rfl, hf⟩
        | true =>
          rw [hq45] at E
          have hlt : j < l.length := by have := of_decide_eq_true hq45; omega
          obtain ⟨y, hy⟩ : ∃ y, l[j]? = some y := ⟨_, List.getElem?_eq_getElem hlt⟩
          obtain ⟨g, off, hpe, hgl, hrow⟩ := hs.at hlt
          replace hrow := hrow _ y hy
          have hsz : y.2.1.size ≤ maxLen := by have := shB.id hq39 y (List.mem_of_getElem? hy); unfold maxLen; omega
          refine wp_cond_true (E.get 0 rfl) ?_
          refine wp_skip ?_
          refine then_n ?_
          refine wp_seq ?_
          refine wp_block ?_
          refine wp_seq ?_
          cases hmy : m y.2.1 with
          | none =>
            refine wp_region_lit ?_
            refine env_put (d := 79) (v := .pointer (some ⟨q, 0, none⟩)) E rfl (by decide) rfl (wanted_none rfl _) (run_move rfl (E.get 6 rfl)) fun a E => ?_
            refine env_put (d := 80) (v := .slice (p) l.length cap) E rfl (by decide) rfl (wanted_none rfl _) (run_move rfl (E.get 10 rfl)) fun a E => ?_
            refine env_put (d := 81) (v := .int .i64 (j : Int)) E rfl (by decide) rfl (wanted_none rfl _) (run_move rfl (E.get 6 rfl)) fun a E => ?_
            refine env_put (d := 82) (v := .pointer (some ⟨g, (off + j * 6), none⟩)) E rfl (by decide) rfl (wanted_none rfl _) (run_index22 (i := j) rfl ((E.get 1 rfl).trans (by rw [hpe])) (E.get 0 rfl) hlt) fun a E => ?_
            refine env_put (d := 83) (v := .pointer (some ⟨g, ((off + j * 6) + 1), none⟩)) E rfl (by decide) rfl (wanted_none rfl _) (fa35_1 rfl (E.get 0 rfl)) fun a E => ?_
            refine env_put (d := 84) (v := .string y.2.1) E rfl (by decide) rfl (wanted_none rfl _) (run_lds rfl (E.get 0 rfl) (hrow 1 _ rfl)) fun a E => ?_
            refine env_call (d := 85) (v := .tuple #[.agg (bxC ((0, 0), (0, 0))), .bool false]) E rfl (by decide) rfl (wanted_none rfl _) (run_call2 (enters_of Try.func16 (by kernel_rfl) rfl) rfl rfl (E.get 5 rfl) (E.get 0 rfl)) ((ix_box hX y.2.1 hsz).mono fun e w8 h => ⟨h.1.trans (by rw [hmy]; rfl), h.2⟩) fun a w1 f1 E => ?_
            have hs := hs.fr f1 (fun _ _ h => h)
            have hcb38 := hcb38.fr f1
            have hX := Ix.fr hX f1 (fun _ _ h => h)
            have hr40 := hr40.fr f1
            have hrow := fun j u hu => f1.cell (hrow j u hu) id
            have hf := hf.trans f1
            clear f1
            refine env_put (d := 78) (v := .tuple #[.agg (bxC ((0, 0), (0, 0))), .bool false]) E rfl (by decide) rfl (wanted_none rfl _) (run_move rfl (E.get 0 rfl)) fun a E => ?_
            refine env_put (d := 86) (v := .agg (bxC ((0, 0), (0, 0)))) E rfl (by decide) rfl (wanted_none rfl _) (run_ext0 rfl (E.get 0 rfl)) fun a E => ?_
            refine env_put (d := 87) (v := .bool false) E rfl (by decide) rfl (wanted_none rfl _) (run_ext1 rfl (E.get 1 rfl)) fun a E => ?_
            have hTl := (fun k hk => (hX.lt k hk).2 : ∀ k, T40 k → k < w1.heap.size)
            refine env_alloc26 (d := 12) E rfl (by decide) rfl (wanted_none rfl _) rfl fun a w1 b46 eb46 hb46 f1 E => ?_
            refine env_st26 E rfl (wanted_none rfl _) rfl (E.get 0 rfl) (E.get 2 rfl) hb46 fun w1 hb46 f2 E => ?_
            have f1 := f1.trans' f2 (fun r hr e => by omega)
            clear f2
            have hcb46 : Cw w1 T40 b46 ((0, 0), (0, 0)) := ⟨hb46, fun ht => by have := hTl b46 ht; omega⟩
            have hs := hs.fr f1 (fun _ _ h => h)
            have hcb38 := hcb38.fr f1
            have hX := Ix.fr hX f1 (fun _ _ h => h)
            have hr40 := hr40.fr f1
            have hrow := fun j u hu => f1.cell (hrow j u hu) id
            have hf := hf.trans f1
            clear f1
            clear hb46 hTl eb46
            refine env_put (d := 13) (v := .bool false) E rfl (by decide) rfl (wanted_none rfl _) (run_assign rfl (E.get 1 rfl)) fun a E => ?_
            refine wpList_nil ?_
            refine then_n ?_
            refine wp_seq ?_
            refine wp_region_lit ?_
            refine env_put (d := 88) (v := .bool false) E rfl (by decide) rfl (wanted_none rfl _) (run_move rfl (E.get 0 rfl)) fun a E => ?_
            refine env_put (d := 89) (v := .bool false) E rfl (by decide) rfl (wanted_none rfl _) (run_move rfl (E.get 0 rfl)) fun a E => ?_
            refine env_skip (d := 90) (g := 1) (s := 89) E rfl (by decide) rfl rfl rfl (by decide) (E.get 0 rfl) fun a E => ?_
            refine env_skip (d := 91) (g := 1) (s := 89) E rfl (by decide) rfl rfl rfl (by decide) (E.get 1 rfl) fun a E => ?_
            refine env_skip (d := 92) (g := 1) (s := 89) E rfl (by decide) rfl rfl rfl (by decide) (E.get 2 rfl) fun a E => ?_
            refine env_put (d := 93) (v := .bool false) E rfl (by decide) rfl (wanted_none rfl _) (run_pick_f rfl (E.get 3 rfl) rfl) fun a E => ?_
            refine env_put (d := 94) (v := .bool false) E rfl (by decide) rfl (wanted_none rfl _) (run_move rfl (E.get 0 rfl)) fun a E => ?_
            refine env_skip (d := 95) (g := 6) (s := 94) E rfl (by decide) rfl rfl rfl (by decide) (E.get 0 rfl) fun a E => ?_
            refine env_skip (d := 96) (g := 6) (s := 94) E rfl (by decide) rfl rfl rfl (by decide) (E.get 1 rfl) fun a E => ?_
            refine env_skip (d := 97) (g := 6) (s := 94) E rfl (by decide) rfl rfl rfl (by decide) (E.get 2 rfl) fun a E => ?_
            refine env_skip (d := 98) (g := 6) (s := 94) E rfl (by decide) rfl rfl rfl (by decide) (E.get 3 rfl) fun a E => ?_
            refine env_skip (d := 99) (g := 6) (s := 94) E rfl (by decide) rfl rfl rfl (by decide) (E.get 4 rfl) fun a E => ?_
            refine env_skip (d := 100) (g := 6) (s := 94) E rfl (by decide) rfl rfl rfl (by decide) (E.get 5 rfl) fun a E => ?_
            refine env_skip (d := 101) (g := 6) (s := 94) E rfl (by decide) rfl rfl rfl (by decide) (E.get 6 rfl) fun a E => ?_
            refine env_skip (d := 102) (g := 6) (s := 94) E rfl (by decide) rfl rfl rfl (by decide) (E.get 7 rfl) fun a E => ?_
            refine env_put (d := 103) (v := .bool false) E rfl (by decide) rfl (wanted_none rfl _) (run_pick_f rfl (E.get 8 rfl) rfl) fun a E => ?_
            refine wpList_nil ?_
            refine then_n ?_
            refine wp_cond_false (E.get 0 rfl) ?_
            refine wp_skip ?_
            refine blk_n ?_
            refine then_n ?_
            refine wp_region_lit ?_
            refine env_put (d := 76) (v := .int .i64 (j : Int)) E rfl (by decide) rfl (wanted_none rfl _) (run_move rfl (E.get 32 rfl)) fun a E => ?_
            refine env_put (d := 77) (v := .int .i64 ((j : Int) + 1)) E rfl (by decide) rfl (wanted_none rfl _) (run_iadd Try.underlying3 (E.get 0 rfl) rfl (by omega) (by omega) rfl) fun a E => ?_
            refine env_set (d := 11) (v := .int .i64 ((j : Int) + 1)) E rfl (by decide) (wanted_none rfl _) (run_assign rfl (E.get 0 rfl)) fun a E => ?_
            refine wpList_nil ?_
            refine then_n ?_
            refine ⟨⟨j + 1, E.of ⟨E.get 0 rfl, E.get 35 rfl, E.get 36 rfl, E.get 37 rfl, E.get 38 rfl, E.get 39 rfl, trivial⟩, by omega, hX, hs, hf, hcb38, hr40⟩, ?_⟩
            rw [E.get 0 rfl]; simp only [intOf]; omega
          | some c =>
            refine wp_region_lit ?_
            refine env_put (d := 79) (v := .pointer (some ⟨q, 0, none⟩)) E rfl (by decide) rfl (wanted_none rfl _) (run_move rfl (E.get 6 rfl)) fun a E => ?_
            refine env_put (d := 80) (v := .slice (p) l.length cap) E rfl (by decide) rfl (wanted_none rfl _) (run_move rfl (E.get 10 rfl)) fun a E => ?_
            refine env_put (d := 81) (v := .int .i64 (j : Int)) E rfl (by decide) rfl (wanted_none rfl _) (run_move rfl (E.get 6 rfl)) fun a E => ?_
            refine env_put (d := 82) (v := .pointer (some ⟨g, (off + j * 6), none⟩)) E rfl (by decide) rfl (wanted_none rfl _) (run_index22 (i := j) rfl ((E.get 1 rfl).trans (by rw [hpe])) (E.get 0 rfl) hlt) fun a E => ?_
            refine env_put (d := 83) (v := .pointer (some ⟨g, ((off + j * 6) + 1), none⟩)) E rfl (by decide) rfl (wanted_none rfl _) (fa35_1 rfl (E.get 0 rfl)) fun a E => ?_
            refine env_put (d := 84) (v := .string y.2.1) E rfl (by decide) rfl (wanted_none rfl _) (run_lds rfl (E.get 0 rfl) (hrow 1 _ rfl)) fun a E => ?_
            refine env_call (d := 85) (v := .tuple #[.agg (bxC c), .bool true]) E rfl (by decide) rfl (wanted_none rfl _) (run_call2 (enters_of Try.func16 (by kernel_rfl) rfl) rfl rfl (E.get 5 rfl) (E.get 0 rfl)) ((ix_box hX y.2.1 hsz).mono fun e w8 h => ⟨h.1.trans (by rw [hmy]; rfl), h.2⟩) fun a w1 f1 E => ?_
            have hs := hs.fr f1 (fun _ _ h => h)
            have hcb38 := hcb38.fr f1
            have hX := Ix.fr hX f1 (fun _ _ h => h)
            have hr40 := hr40.fr f1
            have hrow := fun j u hu => f1.cell (hrow j u hu) id
            have hf := hf.trans f1
            clear f1
            refine env_put (d := 78) (v := .tuple #[.agg (bxC c), .bool true]) E rfl (by decide) rfl (wanted_none rfl _) (run_move rfl (E.get 0 rfl)) fun a E => ?_
            refine env_put (d := 86) (v := .agg (bxC c)) E rfl (by decide) rfl (wanted_none rfl _) (run_ext0 rfl (E.get 0 rfl)) fun a E => ?_
            refine env_put (d := 87) (v := .bool true) E rfl (by decide) rfl (wanted_none rfl _) (run_ext1 rfl (E.get 1 rfl)) fun a E => ?_
            have hTl := (fun k hk => (hX.lt k hk).2 : ∀ k, T40 k → k < w1.heap.size)
            refine env_alloc26 (d := 12) E rfl (by decide) rfl (wanted_none rfl _) rfl fun a w1 b47 eb47 hb47 f1 E => ?_
            refine env_st26 E rfl (wanted_none rfl _) rfl (E.get 0 rfl) (E.get 2 rfl) hb47 fun w1 hb47 f2 E => ?_
            have f1 := f1.trans' f2 (fun r hr e => by omega)
            clear f2
            have hcb47 : Cw w1 T40 b47 c := ⟨hb47, fun ht => by have := hTl b47 ht; omega⟩
            have hs := hs.fr f1 (fun _ _ h => h)
            have hcb38 := hcb38.fr f1
            have hX := Ix.fr hX f1 (fun _ _ h => h)
            have hr40 := hr40.fr f1
            have hrow := fun j u hu => f1.cell (hrow j u hu) id
            have hf := hf.trans f1
            clear f1
            clear hb47 hTl eb47
            refine env_put (d := 13) (v := .bool true) E rfl (by decide) rfl (wanted_none rfl _) (run_assign rfl (E.get 1 rfl)) fun a E => ?_
            refine wpList_nil ?_
            refine then_n ?_
            refine wp_seq ?_
            refine wp_region_lit ?_
            refine env_put (d := 88) (v := .bool true) E rfl (by decide) rfl (wanted_none rfl _) (run_move rfl (E.get 0 rfl)) fun a E => ?_
            refine env_put (d := 89) (v := .bool true) E rfl (by decide) rfl (wanted_none rfl _) (run_move rfl (E.get 0 rfl)) fun a E => ?_
            refine env_put (d := 90) (v := .agg (bxC c)) E rfl (by decide) rfl (w_yes (g := 1) (s := 89) E rfl rfl (by decide) (E.get 0 rfl)) (run_ld26 rfl (E.get 3 rfl) (rng4 (p := c) hcb47.1 0 rfl rfl rfl rfl)) fun a E => ?_
            refine env_put (d := 91) (v := .agg (bxC b)) E rfl (by decide) rfl (w_yes (g := 1) (s := 89) E rfl rfl (by decide) (E.get 1 rfl)) (run_ld26 rfl (E.get 23 rfl) (rng4 (p := b) hcb38.1 0 rfl rfl rfl rfl)) fun a E => ?_
            refine env_call (d := 92) (v := .bool (decide (mtB c b))) E rfl (by decide) rfl (w_yes (g := 1) (s := 89) E rfl rfl (by decide) (E.get 2 rfl)) (run_call2 (enters_of Try.func25 (by kernel_rfl) rfl) rfl rfl (E.get 1 rfl) (E.get 0 rfl)) (rmeet_calls c b _) fun a w1 f1 E => ?_
            have hs := hs.fr f1 (fun _ _ h => h)
            have hcb38 := hcb38.fr f1
            have hX := Ix.fr hX f1 (fun _ _ h => h)
            have hr40 := hr40.fr f1
            have hrow := fun j u hu => f1.cell (hrow j u hu) id
            have hcb47 := hcb47.fr f1
            have hf := hf.trans f1
            clear f1
            refine env_put (d := 93) (v := .bool (decide (mtB c b))) E rfl (by decide) rfl (wanted_none rfl _) (run_pick_t rfl (E.get 3 rfl) (E.get 0 rfl)) fun a E => ?_
            refine env_put (d := 94) (v := .bool (decide (mtB c b))) E rfl (by decide) rfl (wanted_none rfl _) (run_move rfl (E.get 0 rfl)) fun a E => ?_
            cases hq48 : (decide (mtB c b)) with
            | false =>
              rw [hq48] at E
              refine env_skip (d := 95) (g := 6) (s := 94) E rfl (by decide) rfl rfl rfl (by decide) (E.get 0 rfl) fun a E => ?_
              refine env_skip (d := 96) (g := 6) (s := 94) E rfl (by decide) rfl rfl rfl (by decide) (E.get 1 rfl) fun a E => ?_
              refine env_skip (d := 97) (g := 6) (s := 94) E rfl (by decide) rfl rfl rfl (by decide) (E.get 2 rfl) fun a E => ?_
              refine env_skip (d := 98) (g := 6) (s := 94) E rfl (by decide) rfl rfl rfl (by decide) (E.get 3 rfl) fun a E => ?_
              refine env_skip (d := 99) (g := 6) (s := 94) E rfl (by decide) rfl rfl rfl (by decide) (E.get 4 rfl) fun a E => ?_
              refine env_skip (d := 100) (g := 6) (s := 94) E rfl (by decide) rfl rfl rfl (by decide) (E.get 5 rfl) fun a E => ?_
              refine env_skip (d := 101) (g := 6) (s := 94) E rfl (by decide) rfl rfl rfl (by decide) (E.get 6 rfl) fun a E => ?_
              refine env_skip (d := 102) (g := 6) (s := 94) E rfl (by decide) rfl rfl rfl (by decide) (E.get 7 rfl) fun a E => ?_
              refine env_put (d := 103) (v := .bool false) E rfl (by decide) rfl (wanted_none rfl _) (run_pick_f rfl (E.get 8 rfl) rfl) fun a E => ?_
              refine wpList_nil ?_
              refine then_n ?_
              refine wp_cond_false (E.get 0 rfl) ?_
              refine wp_skip ?_
              refine blk_n ?_
              refine then_n ?_
              refine wp_region_lit ?_
              refine env_put (d := 76) (v := .int .i64 (j : Int)) E rfl (by decide) rfl (wanted_none rfl _) (run_move rfl (E.get 32 rfl)) fun a E => ?_
              refine env_put (d := 77) (v := .int .i64 ((j : Int) + 1)) E rfl (by decide) rfl (wanted_none rfl _) (run_iadd Try.underlying3 (E.get 0 rfl) rfl (by omega) (by omega) rfl) fun a E => ?_
              refine env_set (d := 11) (v := .int .i64 ((j : Int) + 1)) E rfl (by decide) (wanted_none rfl _) (run_assign rfl (E.get 0 rfl)) fun a E => ?_
              refine wpList_nil ?_
              refine then_n ?_
              refine ⟨⟨j + 1, E.of ⟨E.get 0 rfl, E.get 35 rfl, E.get 36 rfl, E.get 37 rfl, E.get 38 rfl, E.get 39 rfl, trivial⟩, by omega, hX, hs, hf, hcb38, hr40⟩, ?_⟩
              rw [E.get 0 rfl]; simp only [intOf]; omega
            | true =>
              rw [hq48] at E
              have hin : inL R40 y.2.1 = true := inL_iff.2 ((hI.2 _).2 ⟨c, hmy, of_decide_eq_true hq48⟩)
              refine env_put (d := 95) (v := .slice (pr40) R40.length cr40) E rfl (by decide) rfl (w_yes (g := 6) (s := 94) E rfl rfl (by decide) (E.get 0 rfl)) (run_move rfl (E.get 24 rfl)) fun a E => ?_
              refine env_put (d := 96) (v := .slice (p) l.length cap) E rfl (by decide) rfl (w_yes (g := 6) (s := 94) E rfl rfl (by decide) (E.get 1 rfl)) (run_move rfl (E.get 29 rfl)) fun a E => ?_
              refine env_put (d := 97) (v := .int .i64 (j : Int)) E rfl (by decide) rfl (w_yes (g := 6) (s := 94) E rfl rfl (by decide) (E.get 2 rfl)) (run_move rfl (E.get 25 rfl)) fun a E => ?_
              refine env_put (d := 98) (v := .pointer (some ⟨g, (off + j * 6), none⟩)) E rfl (by decide) rfl (w_yes (g := 6) (s := 94) E rfl rfl (by decide) (E.get 3 rfl)) (run_index22 (i := j) rfl ((E.get 1 rfl).trans (by rw [hpe])) (E.get 0 rfl) hlt) fun a E => ?_
              refine env_put (d := 99) (v := .pointer (some ⟨g, ((off + j * 6) + 1), none⟩)) E rfl (by decide) rfl (w_yes (g := 6) (s := 94) E rfl rfl (by decide) (E.get 4 rfl)) (fa35_1 rfl (E.get 0 rfl)) fun a E => ?_
              refine env_put (d := 100) (v := .string y.2.1) E rfl (by decide) rfl (w_yes (g := 6) (s := 94) E rfl rfl (by decide) (E.get 5 rfl)) (run_lds rfl (E.get 0 rfl) (hrow 1 _ rfl)) fun a E => ?_
              refine env_call (d := 101) (v := .bool true) E rfl (by decide) rfl (w_yes (g := 6) (s := 94) E rfl rfl (by decide) (E.get 6 rfl)) (run_call2 (enters_of Try.func26 (by kernel_rfl) rfl) rfl rfl (E.get 5 rfl) (E.get 0 rfl)) ((has_rw hr40 y.2.1).mono fun e w h => ⟨h.1.trans (by rw [hin]), h.2⟩) fun a w1 f1 E => ?_
              have hs := hs.fr f1 (fun _ _ h => h)
              have hcb38 := hcb38.fr f1
              have hX := Ix.fr hX f1 (fun _ _ h => h)
              have hr40 := hr40.fr f1
              have hrow := fun j u hu => f1.cell (hrow j u hu) id
              have hcb47 := hcb47.fr f1
              have hf := hf.trans f1
              clear f1
              refine env_put (d := 102) (v := .bool false) E rfl (by decide) rfl (w_yes (g := 6) (s := 94) E rfl rfl (by decide) (E.get 7 rfl)) (run_not rfl (E.get 0 rfl)) fun a E => ?_
              refine env_put (d := 103) (v := .bool false) E rfl (by decide) rfl (wanted_none rfl _) (run_pick_t rfl (E.get 8 rfl) (E.get 0 rfl)) fun a E => ?_
              refine wpList_nil ?_
              refine then_n ?_
              refine wp_cond_false (E.get 0 rfl) ?_
              refine wp_skip ?_
              refine blk_n ?_
              refine then_n ?_
              refine wp_region_lit ?_
              refine env_put (d := 76) (v := .int .i64 (j : Int)) E rfl (by decide) rfl (wanted_none rfl _) (run_move rfl (E.get 32 rfl)) fun a E => ?_
              refine env_put (d := 77) (v := .int .i64 ((j : Int) + 1)) E rfl (by decide) rfl (wanted_none rfl _) (run_iadd Try.underlying3 (E.get 0 rfl) rfl (by omega) (by omega) rfl) fun a E => ?_
              refine env_set (d := 11) (v := .int .i64 ((j : Int) + 1)) E rfl (by decide) (wanted_none rfl _) (run_assign rfl (E.get 0 rfl)) fun a E => ?_
              refine wpList_nil ?_
              refine then_n ?_
              refine ⟨⟨j + 1, E.of ⟨E.get 0 rfl, E.get 35 rfl, E.get 36 rfl, E.get 37 rfl, E.get 38 rfl, E.get 39 rfl, trivial⟩, by omega, hX, hs, hf, hcb38, hr40⟩, ?_⟩
              rw [E.get 0 rfl]; simp only [intOf]; omega
      | true =>
        rw [hq43] at E
        have hlts : i < R40.length := by have := of_decide_eq_true hq43; omega
        obtain ⟨s, hys⟩ : ∃ s, R40[i]? = some s := ⟨_, List.getElem?_eq_getElem hlts⟩
        obtain ⟨p9, c9, hv9, hsr, _⟩ := hr40.src
        cases hv9
        obtain ⟨g, offg, hpeg, hglg, hrowg⟩ := hsr.at hlts
        replace hrowg := hrowg _ s hys
        clear hsr
        obtain ⟨c, hmc, hmt⟩ := (hI.2 s).1 (List.mem_of_getElem? hys)
        have hdm : decide (mtB c b) = true := decide_eq_true hmt
        have hsz := hmi s c hmc
        refine wp_cond_true (E.get 0 rfl) ?_
        refine wp_skip ?_
        refine then_n ?_
        refine wp_seq ?_
        refine wp_block ?_
        refine wp_seq ?_
        refine wp_region_lit ?_
        refine env_put (d := 40) (v := .pointer (some ⟨q, 0, none⟩)) E rfl (by decide) rfl (wanted_none rfl _) (run_move rfl (E.get 6 rfl)) fun a E => ?_
        refine env_put (d := 41) (v := .slice (pr40) R40.length cr40) E rfl (by decide) rfl (wanted_none rfl _) (run_move rfl (E.get 6 rfl)) fun a E => ?_
        refine env_put (d := 42) (v := .int .i64 (i : Int)) E rfl (by decide) rfl (wanted_none rfl _) (run_move rfl (E.get 6 rfl)) fun a E => ?_
        refine env_put (d := 43) (v := .pointer (some ⟨g, (offg + i), none⟩)) E rfl (by decide) rfl (wanted_none rfl _) (run_index42 (i := i) rfl ((E.get 1 rfl).trans (by rw [hpeg])) (E.get 0 rfl) hlts) fun a E => ?_
        refine env_put (d := 44) (v := .string s) E rfl (by decide) rfl (wanted_none rfl _) (run_lds rfl (E.get 0 rfl) (str_at hrowg)) fun a E => ?_
        refine env_call (d := 45) (v := .tuple #[.agg (bxC c), .bool true]) E rfl (by decide) rfl (wanted_none rfl _) (run_call2 (enters_of Try.func16 (by kernel_rfl) rfl) rfl rfl (E.get 4 rfl) (E.get 0 rfl)) ((ix_box hX s hsz).mono fun e w8 h => ⟨h.1.trans (by rw [hmc]; rfl), h.2⟩) fun a w1 f1 E => ?_
        have hs := hs.fr f1 (fun _ _ h => h)
        have hcb38 := hcb38.fr f1
        have hX := Ix.fr hX f1 (fun _ _ h => h)
        have hr40 := hr40.fr f1
        have hrowg := fun j u hu => f1.cell (hrowg j u hu) id
        have hf := hf.trans f1
        clear f1
        refine env_put (d := 39) (v := .tuple #[.agg (bxC c), .bool true]) E rfl (by decide) rfl (wanted_none rfl _) (run_move rfl (E.get 0 rfl)) fun a E => ?_
        refine env_put (d := 46) (v := .agg (bxC c)) E rfl (by decide) rfl (wanted_none rfl _) (run_ext0 rfl (E.get 0 rfl)) fun a E => ?_
        refine env_put (d := 47) (v := .bool true) E rfl (by decide) rfl (wanted_none rfl _) (run_ext1 rfl (E.get 1 rfl)) fun a E => ?_
        have hTl := (fun k hk => (hX.lt k hk).2 : ∀ k, T40 k → k < w1.heap.size)
        refine env_alloc26 (d := 9) E rfl (by decide) rfl (wanted_none rfl _) rfl fun a w1 b49 eb49 hb49 f1 E => ?_
        refine env_st26 E rfl (wanted_none rfl _) rfl (E.get 0 rfl) (E.get 2 rfl) hb49 fun w1 hb49 f2 E => ?_
        have f1 := f1.trans' f2 (fun r hr e => by omega)
        clear f2
        have hcb49 : Cw w1 T40 b49 c := ⟨hb49, fun ht => by have := hTl b49 ht; omega⟩
        have hs := hs.fr f1 (fun _ _ h => h)
        have hcb38 := hcb38.fr f1
        have hX := Ix.fr hX f1 (fun _ _ h => h)
        have hr40 := hr40.fr f1
        have hrowg := fun j u hu => f1.cell (hrowg j u hu) id
        have hf := hf.trans f1
        clear f1
        clear hb49 hTl eb49
        refine env_put (d := 10) (v := .bool true) E rfl (by decide) rfl (wanted_none rfl _) (run_assign rfl (E.get 1 rfl)) fun a E => ?_
        refine wpList_nil ?_
        refine then_n ?_
        refine wp_seq ?_
        cases hq50 : (decide (0 < (i : Int))) with
        | false =>
          refine wp_region_invg (n := 105) (base := [(10, .bool true), (9, .pointer (some ⟨b49, 0, none⟩)), (47, .bool true), (46, .agg (bxC c)), (39, .tuple #[.agg (bxC c), .bool true]), (45, .tuple #[.agg (bxC c), .bool true]), (44, .string s), (43, .pointer (some ⟨g, (offg + i), none⟩)), (42, .int .i64 (i : Int)), (41, .slice (pr40) R40.length cr40), (40, .pointer (some ⟨q, 0, none⟩)), (36, .bool true), (35, .int .i64 (R40.length : Int)), (34, .slice (pr40) R40.length cr40), (33, .int .i64 (i : Int)), (8, .int .i64 (i : Int)), (7, .slice (pr40) R40.length cr40), (6, .pointer (some ⟨q, 0, none⟩)), (5, .bool true), (3, .pointer (some ⟨b38, 0, none⟩)), (0, .slice (p) l.length cap)]) (T := [some (48, .bool true), some (49, .bool false), some (50, .bool false), some (51, .agg (bxC c)), some (52, .agg (bxC b)), some (53, .bool true), some (54, .bool false), some (55, .bool false), some (56, .bool false), some (57, .int .i64 (i : Int)), some (58, .bool false), some (59, .bool false), some (60, undef), some (61, undef), some (62, undef), some (63, undef), some (64, undef), some (65, undef), some (66, undef), some (67, undef), some (68, undef), some (69, undef), some (70, .bool false), some (71, .bool false)]) (M := fun _ wm => Fr (fun _ => False) w1 wm) (by kernel_rfl) (by kernel_rfl) (by kernel_rfl) (E.of ⟨E.get 0 rfl, E.get 1 rfl, E.get 2 rfl, E.get 3 rfl, E.get 4 rfl, E.get 5 rfl, E.get 6 rfl, E.get 7 rfl, E.get 8 rfl, E.get 9 rfl, E.get 10 rfl, E.get 11 rfl, E.get 12 rfl, E.get 13 rfl, E.get 14 rfl, E.get 15 rfl, E.get 16 rfl, E.get 17 rfl, E.get 18 rfl, E.get 19 rfl, E.get 20 rfl, trivial⟩) (Fr.refl _ _).drew ?_ ?_
          · intro j9 o9 t9 ls9 a w5 ho hT0 hl E D DL hM
            have hs := hs.fr hM (fun _ _ h => h)
            have hcb38 := hcb38.fr hM
            have hX := Ix.fr hX hM (fun _ _ h => h)
            have hr40 := hr40.fr hM
            have hrowg := fun j u hu => hM.cell (hrowg j u hu) id
            have hcb49 := hcb49.fr hM
            match j9, ho, hT0, hl, D, DL with
            | 0, ho, hT0, hl, D, DL =>
              obtain rfl := Option.some.inj ho
              obtain rfl := Option.some.inj hT0
              clear ho hT0
              exact ⟨fun _ => val_wp (run_move rfl (E.get 0 rfl)) rfl hM, fun h => by rw [wanted_none rfl] at h; cases h⟩
            | 1, ho, hT0, hl, D, DL =>
              obtain rfl := Option.some.inj ho
              obtain rfl := Option.some.inj hT0
              clear ho hT0
              exact ⟨fun _ => val_wp (run_not rfl (D 0 _ rfl rfl)) rfl hM, fun h => by rw [wanted_none rfl] at h; cases h⟩
            | 2, ho, hT0, hl, D, DL =>
              obtain rfl := Option.some.inj ho
              obtain rfl := Option.some.inj hT0
              clear ho hT0
              exact ⟨fun _ => val_wp (run_move rfl (D 1 _ rfl rfl)) rfl hM, fun h => by rw [wanted_none rfl] at h; cases h⟩
            | 3, ho, hT0, hl, D, DL =>
              obtain rfl := Option.some.inj ho
              obtain rfl := Option.some.inj hT0
              clear ho hT0
              exact ⟨fun _ => val_wp (run_ld26 rfl (E.get 1 rfl) (rng4 (p := c) hcb49.1 0 rfl rfl rfl rfl)) rfl hM, fun h => by rw [w_yes (g := 2) (s := 50) (b := false) E rfl rfl (by decide) (D 2 _ rfl rfl)] at h; cases h⟩
            | 4, ho, hT0, hl, D, DL =>
              obtain rfl := Option.some.inj ho
              obtain rfl := Option.some.inj hT0
              clear ho hT0
              exact ⟨fun _ => val_wp (run_ld26 rfl (E.get 19 rfl) (rng4 (p := b) hcb38.1 0 rfl rfl rfl rfl)) rfl hM, fun h => by rw [w_yes (g := 2) (s := 50) (b := false) E rfl rfl (by decide) (D 2 _ rfl rfl)] at h; cases h⟩
            | 5, ho, hT0, hl, D, DL =>
              obtain rfl := Option.some.inj ho
              obtain rfl := Option.some.inj hT0
              clear ho hT0
              exact ⟨fun _ => call_wp (run_call2 (enters_of Try.func25 (by kernel_rfl) rfl) rfl rfl (D 3 _ rfl rfl) (D 4 _ rfl rfl)) ((rmeet_calls c b _).mono fun e w h => ⟨h.1.trans (by rw [hdm]), h.2⟩) rfl fun w9 f1 => (hM.trans f1), fun h => by rw [w_yes (g := 2) (s := 50) (b := false) E rfl rfl (by decide) (D 2 _ rfl rfl)] at h; cases h⟩
            | 6, ho, hT0, hl, D, DL =>
              obtain rfl := Option.some.inj ho
              obtain rfl := Option.some.inj hT0
              clear ho hT0
              exact ⟨fun _ => val_wp (run_not rfl (D 5 _ rfl rfl)) rfl hM, fun h => by rw [w_yes (g := 2) (s := 50) (b := false) E rfl rfl (by decide) (D 2 _ rfl rfl)] at h; cases h⟩
            | 7, ho, hT0, hl, D, DL =>
              obtain rfl := Option.some.inj ho
              obtain rfl := Option.some.inj hT0
              clear ho hT0
              exact ⟨fun _ => val_wp (run_pick_f rfl (D 2 _ rfl rfl) (D 6 _ rfl rfl)) rfl hM, fun h => by rw [wanted_none rfl] at h; cases h⟩
            | 8, ho, hT0, hl, D, DL =>
              obtain rfl := Option.some.inj ho
              obtain rfl := Option.some.inj hT0
              clear ho hT0
              exact ⟨fun _ => val_wp (run_move rfl (D 7 _ rfl rfl)) rfl hM, fun h => by rw [wanted_none rfl] at h; cases h⟩
            | 9, ho, hT0, hl, D, DL =>
              obtain rfl := Option.some.inj ho
              obtain rfl := Option.some.inj hT0
              clear ho hT0
              exact ⟨fun _ => val_wp (run_move rfl (E.get 15 rfl)) rfl hM, fun h => by rw [w_yes (g := 8) (s := 56) (b := false) E rfl rfl (by decide) (D 8 _ rfl rfl)] at h; cases h⟩
            | 10, ho, hT0, hl, D, DL =>
              obtain rfl := Option.some.inj ho
              obtain rfl := Option.some.inj hT0
              clear ho hT0
              exact ⟨fun _ => val_wp ((run_igtr (D 9 _ rfl rfl) rfl Try.underlying3 rfl).trans (by rw [hq50] <;> rfl)) rfl hM, fun h => by rw [w_yes (g := 8) (s := 56) (b := false) E rfl rfl (by decide) (D 8 _ rfl rfl)] at h; cases h⟩
            | 11, ho, hT0, hl, D, DL =>
              obtain rfl := Option.some.inj ho
              obtain rfl := Option.some.inj hT0
              clear ho hT0
              exact ⟨fun _ => val_wp (run_move rfl (D 10 _ rfl rfl)) rfl hM, fun h => by rw [w_yes (g := 8) (s := 56) (b := false) E rfl rfl (by decide) (D 8 _ rfl rfl)] at h; cases h⟩
            | 12, ho, hT0, hl, D, DL =>
              obtain rfl := Option.some.inj ho
              obtain rfl := Option.some.inj hT0
              clear ho hT0
              exact ⟨fun h => (by rw [w_no (g := 11) (s := 59) (b := true) E rfl rfl (by decide) (D 11 _ rfl rfl)] at h; cases h), fun _ => ⟨fun x hx => by cases hx; rfl, hM⟩⟩
            | 13, ho, hT0, hl, D, DL =>
              obtain rfl := Option.some.inj ho
              obtain rfl := Option.some.inj hT0
              clear ho hT0
              exact ⟨fun h => (by rw [w_no (g := 11) (s := 59) (b := true) E rfl rfl (by decide) (D 11 _ rfl rfl)] at h; cases h), fun _ => ⟨fun x hx => by cases hx; rfl, hM⟩⟩
            | 14, ho, hT0, hl, D, DL =>
              obtain rfl := Option.some.inj ho
              obtain rfl := Option.some.inj hT0
              clear ho hT0
              exact ⟨fun h => (by rw [w_no (g := 11) (s := 59) (b := true) E rfl rfl (by decide) (D 11 _ rfl rfl)] at h; cases h), fun _ => ⟨fun x hx => by cases hx; rfl, hM⟩⟩
            | 15, ho, hT0, hl, D, DL =>
              obtain rfl := Option.some.inj ho
              obtain rfl := Option.some.inj hT0
              clear ho hT0
              exact ⟨fun h => (by rw [w_no (g := 11) (s := 59) (b := true) E rfl rfl (by decide) (D 11 _ rfl rfl)] at h; cases h), fun _ => ⟨fun x hx => by cases hx; rfl, hM⟩⟩
            | 16, ho, hT0, hl, D, DL =>
              obtain rfl := Option.some.inj ho
              obtain rfl := Option.some.inj hT0
              clear ho hT0
              exact ⟨fun h => (by rw [w_no (g := 11) (s := 59) (b := true) E rfl rfl (by decide) (D 11 _ rfl rfl)] at h; cases h), fun _ => ⟨fun x hx => by cases hx; rfl, hM⟩⟩
            | 17, ho, hT0, hl, D, DL =>
              obtain rfl := Option.some.inj ho
              obtain rfl := Option.some.inj hT0
              clear ho hT0
              exact ⟨fun h => (by rw [w_no (g := 11) (s := 59) (b := true) E rfl rfl (by decide) (D 11 _ rfl rfl)] at h; cases h), fun _ => ⟨fun x hx => by cases hx; rfl, hM⟩⟩
            | 18, ho, hT0, hl, D, DL =>
              obtain rfl := Option.some.inj ho
              obtain rfl := Option.some.inj hT0
              clear ho hT0
              exact ⟨fun h => (by rw [w_no (g := 11) (s := 59) (b := true) E rfl rfl (by decide) (D 11 _ rfl rfl)] at h; cases h), fun _ => ⟨fun x hx => by cases hx; rfl, hM⟩⟩
            | 19, ho, hT0, hl, D, DL =>
              obtain rfl := Option.some.inj ho
              obtain rfl := Option.some.inj hT0
              clear ho hT0
              exact ⟨fun h => (by rw [w_no (g := 11) (s := 59) (b := true) E rfl rfl (by decide) (D 11 _ rfl rfl)] at h; cases h), fun _ => ⟨fun x hx => by cases hx; rfl, hM⟩⟩
            | 20, ho, hT0, hl, D, DL =>
              obtain rfl := Option.some.inj ho
              obtain rfl := Option.some.inj hT0
              clear ho hT0
              exact ⟨fun h => (by rw [w_no (g := 11) (s := 59) (b := true) E rfl rfl (by decide) (D 11 _ rfl rfl)] at h; cases h), fun _ => ⟨fun x hx => by cases hx; rfl, hM⟩⟩
            | 21, ho, hT0, hl, D, DL =>
              obtain rfl := Option.some.inj ho
              obtain rfl := Option.some.inj hT0
              clear ho hT0
              exact ⟨fun h => (by rw [w_no (g := 11) (s := 59) (b := true) E rfl rfl (by decide) (D 11 _ rfl rfl)] at h; cases h), fun _ => ⟨fun x hx => by cases hx; rfl, hM⟩⟩
            | 22, ho, hT0, hl, D, DL =>
              obtain rfl := Option.some.inj ho
              obtain rfl := Option.some.inj hT0
              clear ho hT0
              exact ⟨fun _ => val_wp (run_pick_f rfl (D 11 _ rfl rfl) rfl) rfl hM, fun h => by rw [w_yes (g := 8) (s := 56) (b := false) E rfl rfl (by decide) (D 8 _ rfl rfl)] at h; cases h⟩
            | 23, ho, hT0, hl, D, DL =>
              obtain rfl := Option.some.inj ho
              obtain rfl := Option.some.inj hT0
              clear ho hT0
              exact ⟨fun _ => val_wp (run_pick_f rfl (D 8 _ rfl rfl) (D 22 _ rfl rfl)) rfl hM, fun h => by rw [wanted_none rfl] at h; cases h⟩
            | j9 + 24, ho, hT0, hl, D, DL => exact absurd hT0 (by simp)
          · intro a w5 E V hM
            have E := E.add (V 23 _ rfl)
            clear V
            have hs := hs.fr hM (fun _ _ h => h)
            have hcb38 := hcb38.fr hM
            have hX := Ix.fr hX hM (fun _ _ h => h)
            have hr40 := hr40.fr hM
            have hrowg := fun j u hu => hM.cell (hrowg j u hu) id
            have hcb49 := hcb49.fr hM
            have hf := hf.trans hM
            clear hM
            refine then_n ?_
            refine wp_cond_false (E.get 0 rfl) ?_
            refine wp_skip ?_
            refine blk_n ?_
            refine then_n ?_
            refine wp_region_lit ?_
            refine env_put (d := 37) (v := .int .i64 (i : Int)) E rfl (by decide) rfl (wanted_none rfl _) (run_move rfl (E.get 16 rfl)) fun a E => ?_
            refine env_put (d := 38) (v := .int .i64 ((i : Int) + 1)) E rfl (by decide) rfl (wanted_none rfl _) (run_iadd Try.underlying3 (E.get 0 rfl) rfl (by omega) (by omega) rfl) fun a E => ?_
            refine env_set (d := 8) (v := .int .i64 ((i : Int) + 1)) E rfl (by decide) (wanted_none rfl _) (run_assign rfl (E.get 0 rfl)) fun a E => ?_
            refine wpList_nil ?_
            refine then_n ?_
            refine ⟨⟨i + 1, E.of ⟨E.get 0 rfl, E.get 19 rfl, E.get 20 rfl, E.get 21 rfl, E.get 22 rfl, E.get 23 rfl, trivial⟩, by omega, hX, hs, hf, hcb38, hr40⟩, ?_⟩
            rw [E.get 0 rfl]; simp only [intOf]; omega
        | true =>
          have hi0 : 0 < i := by have := of_decide_eq_true hq50; omega
          have hltz : i - 1 < R40.length := by omega
          obtain ⟨z, hyz⟩ : ∃ z, R40[i - 1]? = some z := ⟨_, List.getElem?_eq_getElem hltz⟩
          obtain ⟨p9, c9, hv9, hsr, _⟩ := hr40.src
          cases hv9
          obtain ⟨gz, offgz, hpegz, hglgz, hrowgz⟩ := hsr.at hltz
          replace hrowgz := hrowgz _ z hyz
          clear hsr
          have hsl : Op.bytesLess z.toList s.toList = true := by
            have h9 := List.pairwise_iff_getElem.1 hI.1 (i - 1) i hltz hlts (by omega)
            rw [(List.getElem?_eq_some_iff.1 hyz).2, (List.getElem?_eq_some_iff.1 hys).2] at h9
            exact h9
          refine wp_region_invg (n := 105) (base := [(10, .bool true), (9, .pointer (some ⟨b49, 0, none⟩)), (47, .bool true), (46, .agg (bxC c)), (39, .tuple #[.agg (bxC c), .bool true]), (45, .tuple #[.agg (bxC c), .bool true]), (44, .string s), (43, .pointer (some ⟨g, (offg + i), none⟩)), (42, .int .i64 (i : Int)), (41, .slice (pr40) R40.length cr40), (40, .pointer (some ⟨q, 0, none⟩)), (36, .bool true), (35, .int .i64 (R40.length : Int)), (34, .slice (pr40) R40.length cr40), (33, .int .i64 (i : Int)), (8, .int .i64 (i : Int)), (7, .slice (pr40) R40.length cr40), (6, .pointer (some ⟨q, 0, none⟩)), (5, .bool true), (3, .pointer (some ⟨b38, 0, none⟩)), (0, .slice (p) l.length cap)]) (T := [some (48, .bool true), some (49, .bool false), some (50, .bool false), some (51, .agg (bxC c)), some (52, .agg (bxC b)), some (53, .bool true), some (54, .bool false), some (55, .bool false), some (56, .bool false), some (57, .int .i64 (i : Int)), some (58, .bool true), some (59, .bool true), some (60, .slice (pr40) R40.length cr40), some (61, .int .i64 (i : Int)), some (62, .int .i64 ((i : Int) - 1)), some (63, .pointer (some ⟨gz, (offgz + (i - 1)), none⟩)), some (64, .string z), some (65, .slice (pr40) R40.length cr40), some (66, .int .i64 (i : Int)), some (67, .pointer (some ⟨g, (offg + i), none⟩)), some (68, .string s), some (69, .bool false), some (70, .bool false), some (71, .bool false)]) (M := fun _ wm => Fr (fun _ => False) w1 wm) (by kernel_rfl) (by kernel_rfl) (by kernel_rfl) (E.of ⟨E.get 0 rfl, E.get 1 rfl, E.get 2 rfl, E.get 3 rfl, E.get 4 rfl, E.get 5 rfl, E.get 6 rfl, E.get 7 rfl, E.get 8 rfl, E.get 9 rfl, E.get 10 rfl, E.get 11 rfl, E.get 12 rfl, E.get 13 rfl, E.get 14 rfl, E.get 15 rfl, E.get 16 rfl, E.get 17 rfl, E.get 18 rfl, E.get 19 rfl, E.get 20 rfl, trivial⟩) (Fr.refl _ _).drew ?_ ?_
          · intro j9 o9 t9 ls9 a w5 ho hT0 hl E D DL hM
            have hs := hs.fr hM (fun _ _ h => h)
            have hcb38 := hcb38.fr hM
            have hX := Ix.fr hX hM (fun _ _ h => h)
            have hr40 := hr40.fr hM
            have hrowg := fun j u hu => hM.cell (hrowg j u hu) id
            have hcb49 := hcb49.fr hM
            have hrowgz := fun j u hu => hM.cell (hrowgz j u hu) id
            match j9, ho, hT0, hl, D, DL with
            | 0, ho, hT0, hl, D, DL =>
              obtain rfl := Option.some.inj ho
              obtain rfl := Option.some.inj hT0
              clear ho hT0
              exact ⟨fun _ => val_wp (run_move rfl (E.get 0 rfl)) rfl hM, fun h => by rw [wanted_none rfl] at h; cases h⟩
            | 1, ho, hT0, hl, D, DL =>
              obtain rfl := Option.some.inj ho
              obtain rfl := Option.some.inj hT0
              clear ho hT0
              exact ⟨fun _ => val_wp (run_not rfl (D 0 _ rfl rfl)) rfl hM, fun h => by rw [wanted_none rfl] at h; cases h⟩
            | 2, ho, hT0, hl, D, DL =>
              obtain rfl := Option.some.inj ho
              obtain rfl := Option.some.inj hT0
              clear ho hT0
              exact ⟨fun _ => val_wp (run_move rfl (D 1 _ rfl rfl)) rfl hM, fun h => by rw [wanted_none rfl] at h; cases h⟩
            | 3, ho, hT0, hl, D, DL =>
              obtain rfl := Option.some.inj ho
              obtain rfl := Option.some.inj hT0
              clear ho hT0
              exact ⟨fun _ => val_wp (run_ld26 rfl (E.get 1 rfl) (rng4 (p := c) hcb49.1 0 rfl rfl rfl rfl)) rfl hM, fun h => by rw [w_yes (g := 2) (s := 50) (b := false) E rfl rfl (by decide) (D 2 _ rfl rfl)] at h; cases h⟩
            | 4, ho, hT0, hl, D, DL =>
              obtain rfl := Option.some.inj ho
              obtain rfl := Option.some.inj hT0
              clear ho hT0
              exact ⟨fun _ => val_wp (run_ld26 rfl (E.get 19 rfl) (rng4 (p := b) hcb38.1 0 rfl rfl rfl rfl)) rfl hM, fun h => by rw [w_yes (g := 2) (s := 50) (b := false) E rfl rfl (by decide) (D 2 _ rfl rfl)] at h; cases h⟩
            | 5, ho, hT0, hl, D, DL =>
              obtain rfl := Option.some.inj ho
              obtain rfl := Option.some.inj hT0
              clear ho hT0
              exact ⟨fun _ => call_wp (run_call2 (enters_of Try.func25 (by kernel_rfl) rfl) rfl rfl (D 3 _ rfl rfl) (D 4 _ rfl rfl)) ((rmeet_calls c b _).mono fun e w h => ⟨h.1.trans (by rw [hdm]), h.2⟩) rfl fun w9 f1 => (hM.trans f1), fun h => by rw [w_yes (g := 2) (s := 50) (b := false) E rfl rfl (by decide) (D 2 _ rfl rfl)] at h; cases h⟩
            | 6, ho, hT0, hl, D, DL =>
              obtain rfl := Option.some.inj ho
              obtain rfl := Option.some.inj hT0
              clear ho hT0
              exact ⟨fun _ => val_wp (run_not rfl (D 5 _ rfl rfl)) rfl hM, fun h => by rw [w_yes (g := 2) (s := 50) (b := false) E rfl rfl (by decide) (D 2 _ rfl rfl)] at h; cases h⟩
            | 7, ho, hT0, hl, D, DL =>
              obtain rfl := Option.some.inj ho
              obtain rfl := Option.some.inj hT0
              clear ho hT0
              exact ⟨fun _ => val_wp (run_pick_f rfl (D 2 _ rfl rfl) (D 6 _ rfl rfl)) rfl hM, fun h => by rw [wanted_none rfl] at h; cases h⟩
            | 8, ho, hT0, hl, D, DL =>
              obtain rfl := Option.some.inj ho
              obtain rfl := Option.some.inj hT0
              clear ho hT0
              exact ⟨fun _ => val_wp (run_move rfl (D 7 _ rfl rfl)) rfl hM, fun h => by rw [wanted_none rfl] at h; cases h⟩
            | 9, ho, hT0, hl, D, DL =>
              obtain rfl := Option.some.inj ho
              obtain rfl := Option.some.inj hT0
              clear ho hT0
              exact ⟨fun _ => val_wp (run_move rfl (E.get 15 rfl)) rfl hM, fun h => by rw [w_yes (g := 8) (s := 56) (b := false) E rfl rfl (by decide) (D 8 _ rfl rfl)] at h; cases h⟩
            | 10, ho, hT0, hl, D, DL =>
              obtain rfl := Option.some.inj ho
              obtain rfl := Option.some.inj hT0
              clear ho hT0
              exact ⟨fun _ => val_wp ((run_igtr (D 9 _ rfl rfl) rfl Try.underlying3 rfl).trans (by rw [hq50] <;> rfl)) rfl hM, fun h => by rw [w_yes (g := 8) (s := 56) (b := false) E rfl rfl (by decide) (D 8 _ rfl rfl)] at h; cases h⟩
            | 11, ho, hT0, hl, D, DL =>
              obtain rfl := Option.some.inj ho
              obtain rfl := Option.some.inj hT0
              clear ho hT0
              exact ⟨fun _ => val_wp (run_move rfl (D 10 _ rfl rfl)) rfl hM, fun h => by rw [w_yes (g := 8) (s := 56) (b := false) E rfl rfl (by decide) (D 8 _ rfl rfl)] at h; cases h⟩
            | 12, ho, hT0, hl, D, DL =>
              obtain rfl := Option.some.inj ho
              obtain rfl := Option.some.inj hT0
              clear ho hT0
              exact ⟨fun _ => val_wp (run_move rfl (E.get 16 rfl)) rfl hM, fun h => by rw [w_yes (g := 11) (s := 59) (b := true) E rfl rfl (by decide) (D 11 _ rfl rfl)] at h; cases h⟩
            | 13, ho, hT0, hl, D, DL =>
              obtain rfl := Option.some.inj ho
              obtain rfl := Option.some.inj hT0
              clear ho hT0
              exact ⟨fun _ => val_wp (run_move rfl (E.get 15 rfl)) rfl hM, fun h => by rw [w_yes (g := 11) (s := 59) (b := true) E rfl rfl (by decide) (D 11 _ rfl rfl)] at h; cases h⟩
            | 14, ho, hT0, hl, D, DL =>
              obtain rfl := Option.some.inj ho
              obtain rfl := Option.some.inj hT0
              clear ho hT0
              exact ⟨fun _ => val_wp (run_isub Try.underlying3 (D 13 _ rfl rfl) rfl (by omega) (by omega) rfl) rfl hM, fun h => by rw [w_yes (g := 11) (s := 59) (b := true) E rfl rfl (by decide) (D 11 _ rfl rfl)] at h; cases h⟩
            | 15, ho, hT0, hl, D, DL =>
              obtain rfl := Option.some.inj ho
              obtain rfl := Option.some.inj hT0
              clear ho hT0
              exact ⟨fun _ => val_wp (run_index42z (i := (i - 1)) (by omega) rfl ((D 12 _ rfl rfl).trans (by rw [hpegz])) (D 14 _ rfl rfl) hltz) rfl hM, fun h => by rw [w_yes (g := 11) (s := 59) (b := true) E rfl rfl (by decide) (D 11 _ rfl rfl)] at h; cases h⟩
            | 16, ho, hT0, hl, D, DL =>
              obtain rfl := Option.some.inj ho
              obtain rfl := Option.some.inj hT0
              clear ho hT0
              exact ⟨fun _ => val_wp (run_lds rfl (D 15 _ rfl rfl) (str_at hrowgz)) rfl hM, fun h => by rw [w_yes (g := 11) (s := 59) (b := true) E rfl rfl (by decide) (D 11 _ rfl rfl)] at h; cases h⟩
            | 17, ho, hT0, hl, D, DL =>
              obtain rfl := Option.some.inj ho
              obtain rfl := Option.some.inj hT0
              clear ho hT0
              exact ⟨fun _ => val_wp (run_move rfl (E.get 16 rfl)) rfl hM, fun h => by rw [w_yes (g := 11) (s := 59) (b := true) E rfl rfl (by decide) (D 11 _ rfl rfl)] at h; cases h⟩
            | 18, ho, hT0, hl, D, DL =>
              obtain rfl := Option.some.inj ho
              obtain rfl := Option.some.inj hT0
              clear ho hT0
              exact ⟨fun _ => val_wp (run_move rfl (E.get 15 rfl)) rfl hM, fun h => by rw [w_yes (g := 11) (s := 59) (b := true) E rfl rfl (by decide) (D 11 _ rfl rfl)] at h; cases h⟩
            | 19, ho, hT0, hl, D, DL =>
              obtain rfl := Option.some.inj ho
              obtain rfl := Option.some.inj hT0
              clear ho hT0
              exact ⟨fun _ => val_wp (run_index42 (i := i) rfl ((D 17 _ rfl rfl).trans (by rw [hpeg])) (D 18 _ rfl rfl) hlts) rfl hM, fun h => by rw [w_yes (g := 11) (s := 59) (b := true) E rfl rfl (by decide) (D 11 _ rfl rfl)] at h; cases h⟩
            | 20, ho, hT0, hl, D, DL =>
              obtain rfl := Option.some.inj ho
              obtain rfl := Option.some.inj hT0
              clear ho hT0
              exact ⟨fun _ => val_wp (run_lds rfl (D 19 _ rfl rfl) (str_at hrowg)) rfl hM, fun h => by rw [w_yes (g := 11) (s := 59) (b := true) E rfl rfl (by decide) (D 11 _ rfl rfl)] at h; cases h⟩
            | 21, ho, hT0, hl, D, DL =>
              obtain rfl := Option.some.inj ho
              obtain rfl := Option.some.inj hT0
              clear ho hT0
              exact ⟨fun _ => val_wp ((run_sgeq (D 16 _ rfl rfl) (D 20 _ rfl rfl) rfl).trans (by rw [hsl] <;> rfl)) rfl hM, fun h => by rw [w_yes (g := 11) (s := 59) (b := true) E rfl rfl (by decide) (D 11 _ rfl rfl)] at h; cases h⟩
            | 22, ho, hT0, hl, D, DL =>
              obtain rfl := Option.some.inj ho
              obtain rfl := Option.some.inj hT0
              clear ho hT0
              exact ⟨fun _ => val_wp (run_pick_t rfl (D 11 _ rfl rfl) (D 21 _ rfl rfl)) rfl hM, fun h => by rw [w_yes (g := 8) (s := 56) (b := false) E rfl rfl (by decide) (D 8 _ rfl rfl)] at h; cases h⟩
            | 23, ho, hT0, hl, D, DL =>
              obtain rfl := Option.some.inj ho
              obtain rfl := Option.some.inj hT0
              clear ho hT0
              exact ⟨fun _ => val_wp (run_pick_f rfl (D 8 _ rfl rfl) (D 22 _ rfl rfl)) rfl hM, fun h => by rw [wanted_none rfl] at h; cases h⟩
            | j9 + 24, ho, hT0, hl, D, DL => exact absurd hT0 (by simp)
          · intro a w5 E V hM
            have E := E.add (V 23 _ rfl)
            clear V
            have hs := hs.fr hM (fun _ _ h => h)
            have hcb38 := hcb38.fr hM
            have hX := Ix.fr hX hM (fun _ _ h => h)
            have hr40 := hr40.fr hM
            have hrowg := fun j u hu => hM.cell (hrowg j u hu) id
            have hcb49 := hcb49.fr hM
            have hrowgz := fun j u hu => hM.cell (hrowgz j u hu) id
            have hf := hf.trans hM
            clear hM
            refine then_n ?_
            refine wp_cond_false (E.get 0 rfl) ?_
            refine wp_skip ?_
            refine blk_n ?_
            refine then_n ?_
            refine wp_region_lit ?_
            refine env_put (d := 37) (v := .int .i64 (i : Int)) E rfl (by decide) rfl (wanted_none rfl _) (run_move rfl (E.get 16 rfl)) fun a E => ?_
            refine env_put (d := 38) (v := .int .i64 ((i : Int) + 1)) E rfl (by decide) rfl (wanted_none rfl _) (run_iadd Try.underlying3 (E.get 0 rfl) rfl (by omega) (by omega) rfl) fun a E => ?_
            refine env_set (d := 8) (v := .int .i64 ((i : Int) + 1)) E rfl (by decide) (wanted_none rfl _) (run_assign rfl (E.get 0 rfl)) fun a E => ?_
            refine wpList_nil ?_
            refine then_n ?_
            refine ⟨⟨i + 1, E.of ⟨E.get 0 rfl, E.get 19 rfl, E.get 20 rfl, E.get 21 rfl, E.get 22 rfl, E.get 23 rfl, trivial⟩, by omega, hX, hs, hf, hcb38, hr40⟩, ?_⟩
            rw [E.get 0 rfl]; simp only [intOf]; omega
end Go.Proofs.Ytcafnanbdmapgaa
