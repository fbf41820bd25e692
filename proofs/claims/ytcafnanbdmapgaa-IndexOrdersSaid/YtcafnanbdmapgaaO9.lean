/- The laws of the index: IndexOrders. -/
import Derived.Test.YtcafnanbdmapgaaP2
set_option linter.unusedVariables false
set_option linter.unusedSimpArgs false
namespace Go.Proofs.Ytcafnanbdmapgaa
open Go.RowKit Go.Pl

def strOf : Value → ByteArray
  | .string s => s
  | _ => ByteArray.empty
theorem shB_up {l : List Wo} (h : shB l 60 = true) : shB l 80 = true := by
  unfold shB at *
  rw [Bool.and_eq_true] at *
  exact ⟨decide_eq_true (by have := of_decide_eq_true h.1; omega), h.2⟩
theorem run_index22z {o : Oper} {w : World} {ρ : Operand → Value} {x y : Operand} {g off n cap i : Nat} {z : Int} (hz : z = (i : Int)) (ho : o.op = .indexAddr 22 x y) (hx : ρ x = .slice (some ⟨g, off, none⟩) n cap) (hy : ρ y = .int .i64 z) (hi : i < n) : (execOp ρ o).run Try.prog w = .ok (.value (.pointer (some ⟨g, off + i * 6, none⟩))) w := by
  subst hz; exact run_index22 ho hx hy hi
set_option maxRecDepth 100000 in
set_option maxHeartbeats 16000000 in
theorem orders_calls {w : World} {cap : Nat} {p : Option Addr} {l : List Wo} (hs : srcAt opL 6 w w.heap.size p l) (hb : l.length ≤ 9223372036854775807) (b : Bx) (pt : Pt) (n : Int) : Calls Try.prog 6 #[.slice p l.length cap, .agg (bxC b), .agg (ptC pt), .int .i64 n] w fun e w' => e = .returned (.bool true) ∧ Fr (fun _ => False) w w' := by
  refine wp_start4 Try.func6 rfl rfl (n := 135) (by decide) fun a E => ?_
  have hf : Fr (fun _ => False) w w := Fr.refl _ _
  refine wp_seq ?_
  refine wp_region_lit ?_
  have hTl := (fun k hk => hk.elim : ∀ k, (fun _ : Nat => False) k → k < w.heap.size)
  refine env_box26 (d := 5) E rfl (by decide) rfl (wanted_none rfl _) rfl (E.get 1 rfl) fun a w1 b38 eb38 hb38 f1 E => ?_
  have hcb38 : Cw w1 (fun _ => False) b38 b := ⟨hb38, fun ht => by have := hTl b38 ht; omega⟩
  have hs := hs.fr f1 (fun _ _ h => h)
  have hf := hf.trans f1
  clear f1
  clear hb38 hTl eb38
  have hTl := (fun k hk => hk.elim : ∀ k, (fun _ : Nat => False) k → k < w1.heap.size)
  refine env_box24 (d := 6) E rfl (by decide) rfl (wanted_none rfl _) rfl (E.get 3 rfl) fun a w1 b39 eb39 hb39 f1 E => ?_
  have hkb39 : Kw w1 (fun _ => False) b39 (ptC pt) 24 := ⟨hb39, fun ht => by have := hTl b39 ht; omega⟩
  have hs := hs.fr f1 (fun _ _ h => h)
  have hcb38 := hcb38.fr f1
  have hf := hf.trans f1
  clear f1
  clear hb39 hTl eb39
  refine env_put (d := 8) (v := .bool false) E rfl (by decide) rfl (wanted_none rfl _) (run_assign rfl rfl) fun a E => ?_
  refine wpList_nil ?_
  refine then_n ?_
  refine wp_seq ?_
  refine wp_region_lit ?_
  refine env_call (d := 20) (v := .bool true) E rfl (by decide) rfl (wanted_none rfl _) (run_call0 (enters_of Try.func9 (by kernel_rfl) rfl) rfl rfl) (head_calls _) fun a w1 f1 E => ?_
  have hs := hs.fr f1 (fun _ _ h => h)
  have hcb38 := hcb38.fr f1
  have hkb39 := hkb39.fr f1
  have hf := hf.trans f1
  clear f1
  refine env_put (d := 9) (v := .bool true) E rfl (by decide) rfl (wanted_none rfl _) (run_assign rfl (E.get 0 rfl)) fun a E => ?_
  refine wpList_nil ?_
  refine then_n ?_
  refine wp_seq ?_
  refine wp_seq ?_
  refine wp_region_lit ?_
  refine env_put (d := 21) (v := .slice (p) l.length cap) E rfl (by decide) rfl (wanted_none rfl _) (run_move rfl (E.get 5 rfl)) fun a E => ?_
  refine env_call (d := 22) (v := .bool (shB l 60)) E rfl (by decide) rfl (wanted_none rfl _) (run_call2 (enters_of Try.func10 (by kernel_rfl) rfl) rfl rfl (E.get 0 rfl) rfl) (short_calls hs hb 60) fun a w1 f1 E => ?_
  have hs := hs.fr f1 (fun _ _ h => h)
  have hcb38 := hcb38.fr f1
  have hkb39 := hkb39.fr f1
  have hf := hf.trans f1
  clear f1
  refine env_put (d := 23) (v := .bool (!(shB l 60))) E rfl (by decide) rfl (wanted_none rfl _) (run_not rfl (E.get 0 rfl)) fun a E => ?_
  refine wpList_nil ?_
  refine then_n ?_
  cases hq40 : (shB l 60) with
  | false =>
    rw [hq40] at E
    refine wp_cond_true (E.get 0 rfl) ?_
    refine wp_seq ?_
    refine wp_region_lit ?_
    refine env_put (d := 24) (v := .bool true) E rfl (by decide) rfl (wanted_none rfl _) (run_move rfl (E.get 3 rfl)) fun a E => ?_
    refine env_set (d := 8) (v := .bool true) E rfl (by decide) (wanted_none rfl _) (run_assign rfl (E.get 0 rfl)) fun a E => ?_
    refine wpList_nil ?_
    refine then_n ?_
    refine wp_ret ?_
    refine then_r ?_
    exact ret_tmp (t := 8) rfl E (E.get 0 rfl) ⟨rfl, hf⟩
  | true =>
    rw [hq40] at E
    have hsh80 := shB_up hq40
    have hlen := shB.len hq40
    have hN9 : l.length ≤ 100000 := by omega
    refine wp_cond_false (E.get 0 rfl) ?_
    refine wp_skip ?_
    refine then_n ?_
    refine wp_seq ?_
    refine wp_region_lit ?_
    refine env_put (d := 25) (v := .slice (p) l.length cap) E rfl (by decide) rfl (wanted_none rfl _) (run_move rfl (E.get 8 rfl)) fun a E => ?_
    have hz0 := hf.size
    refine env_callv (d := 26) (R := fun u w8 => ∃ q T, u = .pointer (some ⟨q, 0, none⟩) ∧ Ix w8 w1.heap.size q l.length T (mOf l) ∧ Fr (fun _ => False) w1 w8) E rfl (by decide) rfl (wanted_none rfl _) (run_call1 (enters_of Try.func23 (by kernel_rfl) rfl) rfl rfl (E.get 0 rfl)) ((built_calls (hs.mono hz0) hsh80).mono fun e w8 ⟨q, T, h1, h2, h3⟩ => ⟨_, h1, q, T, rfl, h2, h3⟩) fun a wb1 u9 hR E => ?_
    obtain ⟨q, T, rfl, hX, f1⟩ := hR
    have ht : TT w1 (fun _ => False) T := fun k hk => .inr (hX.lt k hk).1
    have hs := hs.fr f1 (fun _ _ h => h)
    have hcb38 := hcb38.q (f1.mono fun _ _ h => h) ht
    have hkb39 := hkb39.q (f1.mono fun _ _ h => h) ht
    have hf := hf.trans f1
    have hX := hX.base hz0
    clear f1 ht hz0
    have hmi : ∀ s c, mOf l s = some c → s.size ≤ maxLen := mOf_size hsh80
    obtain ⟨m, hm⟩ : ∃ m, m = mOf l := ⟨_, rfl⟩
    rw [← hm] at hX hmi
    have hok := hX.ok
    refine env_put (d := 10) (v := .pointer (some ⟨q, 0, none⟩)) E rfl (by decide) rfl (wanted_none rfl _) (run_assign rfl (E.get 0 rfl)) fun a E => ?_
    refine wpList_nil ?_
    refine then_n ?_
    refine wp_seq ?_
    refine wp_region_lit ?_
    refine env_callv (d := 27) (R := fun u w8 => ∃ r U9, u = .pointer (some ⟨r, 0, none⟩) ∧ Xx w8 w.heap.size q l.length m r 0 (fun _ => none) U9 ∧ Fr T wb1 w8 ∧ TT wb1 T U9) E rfl (by decide) rfl (wanted_none rfl _) (run_call0 (enters_of Try.func11 (by kernel_rfl) rfl) rfl rfl) (xx_new hX hf.size) fun a wy u9 hR E => ?_
    obtain ⟨r, U, rfl, hX2, f2, ht⟩ := hR
    have hcb38 := hcb38.q f2 ht
    have hkb39 := hkb39.q f2 ht
    have hs := hs.fr f2 (fun r hr e => by have := (hX.lt r e).1; omega)
    have hf := hf.trans' f2 (fun r hr e => by have := (hX.lt r e).1; omega)
    have hX := hX2
    clear hX2 f2 ht
    have hA : OA l ⟨#[43]⟩ (fun _ => none) := fun s b h => by cases h
    refine env_put (d := 11) (v := .pointer (some ⟨r, 0, none⟩)) E rfl (by decide) rfl (wanted_none rfl _) (run_assign rfl (E.get 0 rfl)) fun a E => ?_
    refine wpList_nil ?_
    refine then_n ?_
    refine wp_seq ?_
    refine wp_region_lit ?_
    refine env_put (d := 12) (v := (Value.string { data := #[43] })) E rfl (by decide) rfl (wanted_none rfl _) (run_assign rfl rfl) fun a E => ?_
    refine wpList_nil ?_
    refine then_n ?_
    refine wp_seq ?_
    refine wp_block ?_
    refine wp_loop (fun a w2 => ∃ (oth : ByteArray) (U : Nat → Prop), Env 135 [(12, .string oth), (10, .pointer (some ⟨q, 0, none⟩)), (11, .pointer (some ⟨r, 0, none⟩)), (9, .bool true), (5, .pointer (some ⟨b38, 0, none⟩)), (6, .pointer (some ⟨b39, 0, none⟩)), (3, .int .i64 n), (0, .slice (p) l.length cap)] a ∧ oth.size ≤ 101 ∧ Xx w2 w.heap.size q l.length m r 0 (fun _ => none) U ∧ srcAt opL 6 w2 w.heap.size p l ∧ Fr (fun _ => False) w w2 ∧ Cw w2 U b38 b ∧ Kw w2 U b39 (ptC pt) 24) (fun a _ => 101 - (strOf (a.eval (.tmp 12))).size) ?_ ?_
    · exact ⟨⟨#[43]⟩, U, E.of ⟨E.get 0 rfl, E.get 3 rfl, E.get 1 rfl, E.get 9 rfl, E.get 13 rfl, E.get 12 rfl, E.get 17 rfl, E.get 14 rfl, trivial⟩, by decide, hX, hs, hf, hcb38, hkb39⟩
    clear E
    rintro a w2 ⟨oth, U, E, ho1, hX, hs, hf, hcb38, hkb39⟩
    have hmu : 101 - (strOf (a.eval (.tmp 12))).size = 101 - oth.size := by rw [E.get 0 rfl]; first | rfl | (simp [intOf]; done) | (simp only [intOf]; omega)
    rw [hmu]
    clear hmu
    have h91 : (⟨#[43]⟩ : ByteArray).size = 1 := rfl
    refine wp_seq ?_
    refine wp_seq ?_
    refine wp_region_lit ?_
    refine env_put (d := 28) (v := .string oth) E rfl (by decide) rfl (wanted_none rfl _) (run_move rfl (E.get 0 rfl)) fun a E => ?_
    refine env_put (d := 29) (v := .int .i64 (oth.size : Int)) E rfl (by decide) rfl (wanted_none rfl _) (run_len9 rfl (E.get 0 rfl)) fun a E => ?_
    refine env_put (d := 30) (v := .bool (decide ((oth.size : Int) < 101))) E rfl (by decide) rfl (wanted_none rfl _) (run_ilss (E.get 0 rfl) rfl Try.underlying3 rfl) fun a E => ?_
    refine wpList_nil ?_
    refine then_n ?_
    cases hq42 : (decide ((oth.size : Int) < 101)) with
    | false =>
      rw [hq42] at E
      have hoth : oth.size = 101 := by have := of_decide_eq_false hq42; omega
      refine wp_cond_false (E.get 0 rfl) ?_
      refine wp_exit ?_
      refine then_e ?_
      refine then_e ?_
      refine blk_e ?_
      refine then_n ?_
      refine wp_seq ?_
      refine wp_seq ?_
      refine wp_region_lit ?_
      refine env_put (d := 13) (v := .int .i64 0) E rfl (by decide) rfl (wanted_none rfl _) (run_assign rfl rfl) fun a E => ?_
      refine wpList_nil ?_
      refine then_n ?_
      refine wp_block ?_
      refine wp_loop (fun a w2 => ∃ (i : Nat) (my : ByteArray → Option Bx) (U : Nat → Prop), Env 135 [(13, .int .i64 (i : Int)), (12, .string oth), (10, .pointer (some ⟨q, 0, none⟩)), (11, .pointer (some ⟨r, 0, none⟩)), (9, .bool true), (5, .pointer (some ⟨b38, 0, none⟩)), (6, .pointer (some ⟨b39, 0, none⟩)), (3, .int .i64 n), (0, .slice (p) l.length cap)] a ∧ i ≤ l.length ∧ Xx w2 w.heap.size q l.length m r i my U ∧ OA l oth my ∧ (∀ s : ByteArray, s.size ≤ 100 → my s = none) ∧ srcAt opL 6 w2 w.heap.size p l ∧ Fr (fun _ => False) w w2 ∧ Cw w2 U b38 b ∧ Kw w2 U b39 (ptC pt) 24) (fun a _ => l.length - (intOf (a.eval (.tmp 13))).toNat) ?_ ?_
      · exact ⟨0, _, U, E.of ⟨E.get 0 rfl, E.get 4 rfl, E.get 5 rfl, E.get 6 rfl, E.get 7 rfl, E.get 8 rfl, E.get 9 rfl, E.get 10 rfl, E.get 11 rfl, trivial⟩, Nat.zero_le _, hX, (fun s b h => by cases h), (fun _ _ => rfl), hs, hf, hcb38, hkb39⟩
      clear E
      rintro a w2 ⟨i, my, U, E, hii, hX, hA, h0, hs, hf, hcb38, hkb39⟩
      have hmu : l.length - (intOf (a.eval (.tmp 13))).toNat = l.length - i := by rw [E.get 0 rfl]; first | rfl | (simp [intOf]; done) | (simp only [intOf]; omega)
      rw [hmu]
      clear hmu
      refine wp_seq ?_
      refine wp_seq ?_
      refine wp_region_lit ?_
      refine env_put (d := 33) (v := .int .i64 (i : Int)) E rfl (by decide) rfl (wanted_none rfl _) (run_move rfl (E.get 0 rfl)) fun a E => ?_
      refine env_put (d := 34) (v := .slice (p) l.length cap) E rfl (by decide) rfl (wanted_none rfl _) (run_move rfl (E.get 9 rfl)) fun a E => ?_
      refine env_put (d := 35) (v := .int .i64 (l.length : Int)) E rfl (by decide) rfl (wanted_none rfl _) (run_len22 rfl (E.get 0 rfl)) fun a E => ?_
      refine env_put (d := 36) (v := .bool (decide ((i : Int) < (l.length : Int)))) E rfl (by decide) rfl (wanted_none rfl _) (run_ilss (E.get 2 rfl) (E.get 0 rfl) Try.underlying3 rfl) fun a E => ?_
      refine wpList_nil ?_
      refine then_n ?_
      cases hq44 : (decide ((i : Int) < (l.length : Int))) with
      | false =>
        rw [hq44] at E
        have hiei : i = l.length := by have := of_decide_eq_false hq44; omega
        refine wp_cond_false (E.get 0 rfl) ?_
        refine wp_exit ?_
        refine then_e ?_
        refine then_e ?_
        refine blk_e ?_
        refine then_n ?_
        refine wp_seq ?_
        refine wp_region_lit ?_
        refine env_put (d := 53) (v := .pointer (some ⟨r, 0, none⟩)) E rfl (by decide) rfl (wanted_none rfl _) (run_move rfl (E.get 7 rfl)) fun a E => ?_
        refine env_put (d := 54) (v := .agg (bxC b)) E rfl (by decide) rfl (wanted_none rfl _) (run_ld26 rfl (E.get 10 rfl) (rng4 (p := b) hcb38.1 0 rfl rfl rfl rfl)) fun a E => ?_
        refine env_callv (d := 55) (R := fun u w8 => ∃ R U9, InS my b R ∧ XxS w2 w.heap.size r i my q l.length m U U9 w8 ∧ Rw w8 U9 u R) E rfl (by decide) rfl (wanted_none rfl _) (run_call2 (enters_of Try.func19 (by kernel_rfl) rfl) rfl rfl (E.get 1 rfl) (E.get 0 rfl)) (xx_in hX.swap (by omega) b) fun a wi v9 hR E => ?_
        obtain ⟨R9, U2, _, hS9, _⟩ := hR
        obtain ⟨hX2, f2, ht⟩ := hS9.swap
        have hcb38 := hcb38.q f2 ht
        have hkb39 := hkb39.q f2 ht
        have hs := hs.fr f2 (fun r hr e => by have := (hX.lt r e).1; omega)
        have hf := hf.trans' f2 (fun r hr e => by have := (hX.lt r e).1; omega)
        have hX := hX2
        clear hX2 f2 ht
        refine wpList_nil ?_
        refine then_n ?_
        refine wp_seq ?_
        refine wp_seq ?_
        refine wp_region_lit ?_
        refine env_put (d := 56) (v := .slice (p) l.length cap) E rfl (by decide) rfl (wanted_none rfl _) (run_move rfl (E.get 15 rfl)) fun a E => ?_
        refine env_put (d := 57) (v := .int .i64 (l.length : Int)) E rfl (by decide) rfl (wanted_none rfl _) (run_len22 rfl (E.get 0 rfl)) fun a E => ?_
        refine env_put (d := 58) (v := .int .i64 ((l.length : Int) - 1)) E rfl (by decide) rfl (wanted_none rfl _) (run_isub Try.underlying3 (E.get 0 rfl) rfl (by omega) (by omega) rfl) fun a E => ?_
        refine env_put (d := 14) (v := .int .i64 ((l.length : Int) - 1)) E rfl (by decide) rfl (wanted_none rfl _) (run_assign rfl (E.get 0 rfl)) fun a E => ?_
        refine wpList_nil ?_
        refine then_n ?_
        refine wp_block ?_
        have hB3 : OB l oth m my l.length := OB.start hA h0
        refine wp_loop (fun a w2 => ∃ (k : Nat) (NY : Nat) (my : ByteArray → Option Bx) (U : Nat → Prop), Env 135 [(14, .int .i64 ((k : Int) - 1)), (12, .string oth), (10, .pointer (some ⟨q, 0, none⟩)), (11, .pointer (some ⟨r, 0, none⟩)), (9, .bool true), (5, .pointer (some ⟨b38, 0, none⟩)), (6, .pointer (some ⟨b39, 0, none⟩)), (3, .int .i64 n), (0, .slice (p) l.length cap)] a ∧ k ≤ l.length ∧ NY + k ≤ 200 ∧ Xx w2 w.heap.size q l.length m r NY my U ∧ OB l oth m my k ∧ srcAt opL 6 w2 w.heap.size p l ∧ Fr (fun _ => False) w w2 ∧ Cw w2 U b38 b ∧ Kw w2 U b39 (ptC pt) 24) (fun a _ => ((intOf (a.eval (.tmp 14))) + 1).toNat) ?_ ?_
        · exact ⟨l.length, i, my, U2, E.of ⟨E.get 0 rfl, E.get 12 rfl, E.get 13 rfl, E.get 14 rfl, E.get 15 rfl, E.get 16 rfl, E.get 17 rfl, E.get 18 rfl, E.get 19 rfl, trivial⟩, Nat.le_refl _, by omega, hX, hB3, hs, hf, hcb38, hkb39⟩
        clear E
        rintro a w2 ⟨k, NY, my, U, E, hkl, hNY, hX, hB3, hs, hf, hcb38, hkb39⟩
        have hmu : ((intOf (a.eval (.tmp 14))) + 1).toNat = k := by rw [E.get 0 rfl]; first | rfl | (simp [intOf]; done) | (simp only [intOf]; omega)
        rw [hmu]
        clear hmu
        refine wp_seq ?_
        refine wp_seq ?_
        refine wp_region_lit ?_
        refine env_put (d := 59) (v := .int .i64 ((k : Int) - 1)) E rfl (by decide) rfl (wanted_none rfl _) (run_move rfl (E.get 0 rfl)) fun a E => ?_
        refine env_put (d := 60) (v := .bool (decide (0 ≤ ((k : Int) - 1)))) E rfl (by decide) rfl (wanted_none rfl _) (run_igeq (E.get 0 rfl) rfl Try.underlying3 rfl) fun a E => ?_
        refine wpList_nil ?_
        refine then_n ?_
        cases hq46 : (decide (0 ≤ ((k : Int) - 1))) with
        | false =>
          rw [hq46] at E
          have hk0 : k = 0 := by have := of_decide_eq_false hq46; omega
          subst hk0
          refine wp_cond_false (E.get 0 rfl) ?_
          refine wp_exit ?_
          refine then_e ?_
          refine then_e ?_
          refine blk_e ?_
          refine then_n ?_
          refine wp_seq ?_
          refine wp_seq ?_
          refine wp_region_lit ?_
          refine env_put (d := 19) (v := .int .i64 0) E rfl (by decide) rfl (wanted_none rfl _) (run_assign rfl rfl) fun a E => ?_
          refine wpList_nil ?_
          refine then_n ?_
          refine wp_block ?_
          have hC : OC l oth m my 0 := by rw [hm] at hB3 ⊢; exact hB3.done hsh80
          refine wp_loop (fun a w2 => ∃ (j : Nat) (my : ByteArray → Option Bx) (U : Nat → Prop), Env 135 [(19, .int .i64 (j : Int)), (12, .string oth), (10, .pointer (some ⟨q, 0, none⟩)), (11, .pointer (some ⟨r, 0, none⟩)), (9, .bool true), (5, .pointer (some ⟨b38, 0, none⟩)), (6, .pointer (some ⟨b39, 0, none⟩)), (3, .int .i64 n), (0, .slice (p) l.length cap)] a ∧ j ≤ l.length ∧ Xx w2 w.heap.size q l.length m r NY my U ∧ OC l oth m my j ∧ srcAt opL 6 w2 w.heap.size p l ∧ Fr (fun _ => False) w w2 ∧ Cw w2 U b38 b ∧ Kw w2 U b39 (ptC pt) 24) (fun a _ => l.length - (intOf (a.eval (.tmp 19))).toNat) ?_ ?_
          · exact ⟨0, my, U, E.of ⟨E.get 0 rfl, E.get 4 rfl, E.get 5 rfl, E.get 6 rfl, E.get 7 rfl, E.get 8 rfl, E.get 9 rfl, E.get 10 rfl, E.get 11 rfl, trivial⟩, Nat.zero_le _, hX, hC, hs, hf, hcb38, hkb39⟩
          clear E
          rintro a w2 ⟨j, my, U, E, hjl, hX, hC, hs, hf, hcb38, hkb39⟩
          have hmu : l.length - (intOf (a.eval (.tmp 19))).toNat = l.length - j := by rw [E.get 0 rfl]; first | rfl | (simp [intOf]; done) | (simp only [intOf]; omega)
          rw [hmu]
          clear hmu
          refine wp_seq ?_
          refine wp_seq ?_
          refine wp_region_lit ?_
          refine env_put (d := 99) (v := .int .i64 (j : Int)) E rfl (by decide) rfl (wanted_none rfl _) (run_move rfl (E.get 0 rfl)) fun a E => ?_
          refine env_put (d := 100) (v := .slice (p) l.length cap) E rfl (by decide) rfl (wanted_none rfl _) (run_move rfl (E.get 9 rfl)) fun a E => ?_
          refine env_put (d := 101) (v := .int .i64 (l.length : Int)) E rfl (by decide) rfl (wanted_none rfl _) (run_len22 rfl (E.get 0 rfl)) fun a E => ?_
          refine env_put (d := 102) (v := .bool (decide ((j : Int) < (l.length : Int)))) E rfl (by decide) rfl (wanted_none rfl _) (run_ilss (E.get 2 rfl) (E.get 0 rfl) Try.underlying3 rfl) fun a E => ?_
          refine wpList_nil ?_
          refine then_n ?_
          cases hq48 : (decide ((j : Int) < (l.length : Int))) with
          | false =>
            rw [hq48] at E
            have hiej : j = l.length := by have := of_decide_eq_false hq48; omega
            refine wp_cond_false (E.get 0 rfl) ?_
            refine wp_exit ?_
            refine then_e ?_
            refine then_e ?_
            refine blk_e ?_
            refine then_n ?_
            refine wp_seq ?_
            rw [hiej, hm] at hC
            have hmy : my = m := by rw [hm]; exact hC.done hsh80
            rw [hmy] at hX
            have fd := (Fr.refl (fun _ => False) w2).drew
            refine wp_region_invx (G := Value × Value × Value × Value) (undef, undef, undef, undef) (n := 135) (base := [(10, .pointer (some ⟨q, 0, none⟩)), (11, .pointer (some ⟨r, 0, none⟩)), (9, .bool true), (5, .pointer (some ⟨b38, 0, none⟩)), (6, .pointer (some ⟨b39, 0, none⟩)), (3, .int .i64 n)]) (U := []) (T := fun γ => [some (114, .bool true), some (115, .bool true), some (116, .pointer (some ⟨q, 0, none⟩)), some (117, .agg (bxC b)), some (118, γ.1), some (119, .pointer (some ⟨r, 0, none⟩)), some (120, .agg (bxC b)), some (121, γ.2.1), some (122, .bool true), some (123, .bool true), some (124, .bool true), some (125, .pointer (some ⟨q, 0, none⟩)), some (126, .agg (ptC pt)), some (127, .int .i64 n), some (128, γ.2.2.1), some (129, .pointer (some ⟨r, 0, none⟩)), some (130, .agg (ptC pt)), some (131, .int .i64 n), some (132, γ.2.2.2), some (133, .bool true), some (134, .bool true), some (8, .bool true)]) (M := fun γ ls9 wm => Fr (fun _ => False) w wm ∧ ∃ U5, Xx wm w.heap.size q l.length m r NY m U5 ∧ (Cw wm U5 b38 b) ∧ (Kw wm U5 b39 (ptC pt) 24) ∧ (ls9 4 = true → ∃ R, InS m b R ∧ Rw wm U5 γ.1 R) ∧ (ls9 7 = true → ∃ R, InS m b R ∧ Rw wm U5 γ.2.1 R) ∧ (ls9 14 = true → ∃ R, NearS m pt n R ∧ Rw wm U5 γ.2.2.1 R) ∧ (ls9 18 = true → ∃ R, NearS m pt n R ∧ Rw wm U5 γ.2.2.2 R)) (by kernel_rfl) (by kernel_rfl) (fun _ => by kernel_rfl) (E.of ⟨E.get 6 rfl, E.get 7 rfl, E.get 8 rfl, E.get 9 rfl, E.get 10 rfl, E.get 11 rfl, trivial⟩) (fun x hx => by cases hx) ⟨hf.drew, U, hX.fr fd (fun _ _ h => h), hcb38.fr fd, hkb39.fr fd, fun e => absurd e Bool.false_ne_true, fun e => absurd e Bool.false_ne_true, fun e => absurd e Bool.false_ne_true, fun e => absurd e Bool.false_ne_true⟩ ?_ ?_
            · intro j9 o9 γ ls9 a w5 ho hl E D DL DL2 hB9 hM
              obtain ⟨m1, U5, hX5, k0, k1, r4, r7, r14, r18⟩ := hM
              match j9, ho, hl, D, DL, hB9 with
              | 0, ho, hl, D, DL, hB9 =>
                obtain rfl := Option.some.inj ho
                exact ⟨fun _ => valx rfl (run_move rfl (E.get 2 rfl)) rfl ⟨m1, U5, hX5, k0, k1, r4, r7, r14, r18⟩, fun h => by rw [wanted_none rfl] at h; cases h⟩
              | 1, ho, hl, D, DL, hB9 =>
                obtain rfl := Option.some.inj ho
                exact ⟨fun _ => valx rfl (run_move rfl (D 0 _ rfl rfl)) rfl ⟨m1, U5, hX5, k0, k1, r4, r7, r14, r18⟩, fun h => by rw [wanted_none rfl] at h; cases h⟩
              | 2, ho, hl, D, DL, hB9 =>
                obtain rfl := Option.some.inj ho
                exact ⟨fun _ => valx rfl (run_move rfl (E.get 0 rfl)) rfl ⟨m1, U5, hX5, k0, k1, r4, r7, r14, r18⟩, fun h => by rw [w_yes (g := 1) (s := 115) (b := true) E rfl rfl (by decide) (D 1 _ rfl rfl)] at h; cases h⟩
              | 3, ho, hl, D, DL, hB9 =>
                obtain rfl := Option.some.inj ho
                exact ⟨fun _ => valx rfl (run_ld26 rfl (E.get 3 rfl) (rng4 (p := b) k0.1 0 rfl rfl rfl rfl)) rfl ⟨m1, U5, hX5, k0, k1, r4, r7, r14, r18⟩, fun h => by rw [w_yes (g := 1) (s := 115) (b := true) E rfl rfl (by decide) (D 1 _ rfl rfl)] at h; cases h⟩
              | 4, ho, hl, D, DL, hB9 =>
                obtain rfl := Option.some.inj ho
                refine ⟨fun _ => callxw (run_call2 (enters_of Try.func19 (by kernel_rfl) rfl) rfl rfl (D 2 _ rfl rfl) (D 3 _ rfl rfl)) (xx_in hX5 (by omega) b) rfl fun v9 w9 f9 => ?_, fun h => by rw [w_yes (g := 1) (s := 115) (b := true) E rfl rfl (by decide) (D 1 _ rfl rfl)] at h; cases h⟩
                obtain ⟨R9, T9, hi9, hS9, hr9⟩ := f9
                obtain ⟨hX9, f2, ht⟩ := hS9
                exact ⟨(v9, γ.2.1, γ.2.2.1, γ.2.2.2), rfl, (fun j hj => match j, hj with | 0, _ => rfl | 1, _ => rfl | 2, _ => rfl | 3, _ => rfl | 4, hj => absurd (hl.symm.trans hj) (by decide) | 5, _ => rfl | 6, _ => rfl | 7, _ => rfl | 8, _ => rfl | 9, _ => rfl | 10, _ => rfl | 11, _ => rfl | 12, _ => rfl | 13, _ => rfl | 14, _ => rfl | 15, _ => rfl | 16, _ => rfl | 17, _ => rfl | 18, _ => rfl | 19, _ => rfl | 20, _ => rfl | 21, _ => rfl | j9 + 22, _ => rfl), ⟨m1.trans' f2 (fun r hr e => by have := (hX5.lt r e).1; omega), T9, hX9, k0.q f2 ht, k1.q f2 ht, fun _ => ⟨R9, hi9, hr9⟩, fun h => (r7 h).elim fun R h => ⟨R, h.1, h.2.q f2 ht⟩, fun h => (r14 h).elim fun R h => ⟨R, h.1, h.2.q f2 ht⟩, fun h => (r18 h).elim fun R h => ⟨R, h.1, h.2.q f2 ht⟩⟩⟩
              | 5, ho, hl, D, DL, hB9 =>
                obtain rfl := Option.some.inj ho
                exact ⟨fun _ => valx rfl (run_move rfl (E.get 1 rfl)) rfl ⟨m1, U5, hX5, k0, k1, r4, r7, r14, r18⟩, fun h => by rw [w_yes (g := 1) (s := 115) (b := true) E rfl rfl (by decide) (D 1 _ rfl rfl)] at h; cases h⟩
              | 6, ho, hl, D, DL, hB9 =>
                obtain rfl := Option.some.inj ho
                exact ⟨fun _ => valx rfl (run_ld26 rfl (E.get 3 rfl) (rng4 (p := b) k0.1 0 rfl rfl rfl rfl)) rfl ⟨m1, U5, hX5, k0, k1, r4, r7, r14, r18⟩, fun h => by rw [w_yes (g := 1) (s := 115) (b := true) E rfl rfl (by decide) (D 1 _ rfl rfl)] at h; cases h⟩
              | 7, ho, hl, D, DL, hB9 =>
                obtain rfl := Option.some.inj ho
                refine ⟨fun _ => callxw (run_call2 (enters_of Try.func19 (by kernel_rfl) rfl) rfl rfl (D 5 _ rfl rfl) (D 6 _ rfl rfl)) (xx_in hX5.swap (by omega) b) rfl fun v9 w9 f9 => ?_, fun h => by rw [w_yes (g := 1) (s := 115) (b := true) E rfl rfl (by decide) (D 1 _ rfl rfl)] at h; cases h⟩
                obtain ⟨R9, T9, hi9, hS9, hr9⟩ := f9
                obtain ⟨hX9, f2, ht⟩ := hS9.swap
                exact ⟨(γ.1, v9, γ.2.2.1, γ.2.2.2), rfl, (fun j hj => match j, hj with | 0, _ => rfl | 1, _ => rfl | 2, _ => rfl | 3, _ => rfl | 4, _ => rfl | 5, _ => rfl | 6, _ => rfl | 7, hj => absurd (hl.symm.trans hj) (by decide) | 8, _ => rfl | 9, _ => rfl | 10, _ => rfl | 11, _ => rfl | 12, _ => rfl | 13, _ => rfl | 14, _ => rfl | 15, _ => rfl | 16, _ => rfl | 17, _ => rfl | 18, _ => rfl | 19, _ => rfl | 20, _ => rfl | 21, _ => rfl | j9 + 22, _ => rfl), ⟨m1.trans' f2 (fun r hr e => by have := (hX5.lt r e).1; omega), T9, hX9, k0.q f2 ht, k1.q f2 ht, fun h => (r4 h).elim fun R h => ⟨R, h.1, h.2.q f2 ht⟩, fun _ => ⟨R9, hi9, hr9⟩, fun h => (r14 h).elim fun R h => ⟨R, h.1, h.2.q f2 ht⟩, fun h => (r18 h).elim fun R h => ⟨R, h.1, h.2.q f2 ht⟩⟩⟩
              | 8, ho, hl, D, DL, hB9 =>
                obtain ⟨R1, hi1, hr1⟩ := r4 (DL 4 rfl)
                obtain ⟨R2, hi2, hr2⟩ := r7 (DL 7 rfl)
                obtain rfl := Option.some.inj ho
                exact ⟨fun _ => callx rfl (run_call2 (enters_of Try.func18 (by kernel_rfl) rfl) rfl rfl (D 4 _ rfl rfl) (D 7 _ rfl rfl)) ((same_rw hr1 hr2).mono fun e w8 h => ⟨h.1.trans (by rw [decide_eq_true (hi1.uniq hi2)]), h.2⟩) rfl fun w9 f1 => ⟨m1.trans f1, U5, hX5.fr f1 (fun _ _ h => h), k0.fr f1, k1.fr f1, fun h => (r4 h).elim fun R h => ⟨R, h.1, h.2.fr f1⟩, fun h => (r7 h).elim fun R h => ⟨R, h.1, h.2.fr f1⟩, fun h => (r14 h).elim fun R h => ⟨R, h.1, h.2.fr f1⟩, fun h => (r18 h).elim fun R h => ⟨R, h.1, h.2.fr f1⟩⟩, fun h => by rw [w_yes (g := 1) (s := 115) (b := true) E rfl rfl (by decide) (D 1 _ rfl rfl)] at h; cases h⟩
              | 9, ho, hl, D, DL, hB9 =>
                obtain rfl := Option.some.inj ho
                exact ⟨fun _ => valx rfl (run_pick_t rfl (D 1 _ rfl rfl) (D 8 _ rfl rfl)) rfl ⟨m1, U5, hX5, k0, k1, r4, r7, r14, r18⟩, fun h => by rw [wanted_none rfl] at h; cases h⟩
              | 10, ho, hl, D, DL, hB9 =>
                obtain rfl := Option.some.inj ho
                exact ⟨fun _ => valx rfl (run_move rfl (D 9 _ rfl rfl)) rfl ⟨m1, U5, hX5, k0, k1, r4, r7, r14, r18⟩, fun h => by rw [wanted_none rfl] at h; cases h⟩
              | 11, ho, hl, D, DL, hB9 =>
                obtain rfl := Option.some.inj ho
                exact ⟨fun _ => valx rfl (run_move rfl (E.get 0 rfl)) rfl ⟨m1, U5, hX5, k0, k1, r4, r7, r14, r18⟩, fun h => by rw [w_yes (g := 10) (s := 124) (b := true) E rfl rfl (by decide) (D 10 _ rfl rfl)] at h; cases h⟩
              | 12, ho, hl, D, DL, hB9 =>
                obtain rfl := Option.some.inj ho
                exact ⟨fun _ => valx rfl (run_ld24 rfl (E.get 4 rfl) (rng2 (p := pt) k1.1 0 rfl rfl)) rfl ⟨m1, U5, hX5, k0, k1, r4, r7, r14, r18⟩, fun h => by rw [w_yes (g := 10) (s := 124) (b := true) E rfl rfl (by decide) (D 10 _ rfl rfl)] at h; cases h⟩
              | 13, ho, hl, D, DL, hB9 =>
                obtain rfl := Option.some.inj ho
                exact ⟨fun _ => valx rfl (run_move rfl (E.get 5 rfl)) rfl ⟨m1, U5, hX5, k0, k1, r4, r7, r14, r18⟩, fun h => by rw [w_yes (g := 10) (s := 124) (b := true) E rfl rfl (by decide) (D 10 _ rfl rfl)] at h; cases h⟩
              | 14, ho, hl, D, DL, hB9 =>
                obtain rfl := Option.some.inj ho
                refine ⟨fun _ => callxw (run_call3 (enters_of Try.func21 (by kernel_rfl) rfl) rfl rfl (D 11 _ rfl rfl) (D 12 _ rfl rfl) (D 13 _ rfl rfl)) (xx_near hX5 (by omega) pt n) rfl fun v9 w9 f9 => ?_, fun h => by rw [w_yes (g := 10) (s := 124) (b := true) E rfl rfl (by decide) (D 10 _ rfl rfl)] at h; cases h⟩
                obtain ⟨R9, T9, hi9, hS9, hr9⟩ := f9
                obtain ⟨hX9, f2, ht⟩ := hS9
                exact ⟨(γ.1, γ.2.1, v9, γ.2.2.2), rfl, (fun j hj => match j, hj with | 0, _ => rfl | 1, _ => rfl | 2, _ => rfl | 3, _ => rfl | 4, _ => rfl | 5, _ => rfl | 6, _ => rfl | 7, _ => rfl | 8, _ => rfl | 9, _ => rfl | 10, _ => rfl | 11, _ => rfl | 12, _ => rfl | 13, _ => rfl | 14, hj => absurd (hl.symm.trans hj) (by decide) | 15, _ => rfl | 16, _ => rfl | 17, _ => rfl | 18, _ => rfl | 19, _ => rfl | 20, _ => rfl | 21, _ => rfl | j9 + 22, _ => rfl), ⟨m1.trans' f2 (fun r hr e => by have := (hX5.lt r e).1; omega), T9, hX9, k0.q f2 ht, k1.q f2 ht, fun h => (r4 h).elim fun R h => ⟨R, h.1, h.2.q f2 ht⟩, fun h => (r7 h).elim fun R h => ⟨R, h.1, h.2.q f2 ht⟩, fun _ => ⟨R9, hi9, hr9⟩, fun h => (r18 h).elim fun R h => ⟨R, h.1, h.2.q f2 ht⟩⟩⟩
              | 15, ho, hl, D, DL, hB9 =>
                obtain rfl := Option.some.inj ho
                exact ⟨fun _ => valx rfl (run_move rfl (E.get 1 rfl)) rfl ⟨m1, U5, hX5, k0, k1, r4, r7, r14, r18⟩, fun h => by rw [w_yes (g := 10) (s := 124) (b := true) E rfl rfl (by decide) (D 10 _ rfl rfl)] at h; cases h⟩
              | 16, ho, hl, D, DL, hB9 =>
                obtain rfl := Option.some.inj ho
                exact ⟨fun _ => valx rfl (run_ld24 rfl (E.get 4 rfl) (rng2 (p := pt) k1.1 0 rfl rfl)) rfl ⟨m1, U5, hX5, k0, k1, r4, r7, r14, r18⟩, fun h => by rw [w_yes (g := 10) (s := 124) (b := true) E rfl rfl (by decide) (D 10 _ rfl rfl)] at h; cases h⟩
              | 17, ho, hl, D, DL, hB9 =>
                obtain rfl := Option.some.inj ho
                exact ⟨fun _ => valx rfl (run_move rfl (E.get 5 rfl)) rfl ⟨m1, U5, hX5, k0, k1, r4, r7, r14, r18⟩, fun h => by rw [w_yes (g := 10) (s := 124) (b := true) E rfl rfl (by decide) (D 10 _ rfl rfl)] at h; cases h⟩
              | 18, ho, hl, D, DL, hB9 =>
                obtain rfl := Option.some.inj ho
                refine ⟨fun _ => callxw (run_call3 (enters_of Try.func21 (by kernel_rfl) rfl) rfl rfl (D 15 _ rfl rfl) (D 16 _ rfl rfl) (D 17 _ rfl rfl)) (xx_near hX5.swap (by omega) pt n) rfl fun v9 w9 f9 => ?_, fun h => by rw [w_yes (g := 10) (s := 124) (b := true) E rfl rfl (by decide) (D 10 _ rfl rfl)] at h; cases h⟩
                obtain ⟨R9, T9, hi9, hS9, hr9⟩ := f9
                obtain ⟨hX9, f2, ht⟩ := hS9.swap
                exact ⟨(γ.1, γ.2.1, γ.2.2.1, v9), rfl, (fun j hj => match j, hj with | 0, _ => rfl | 1, _ => rfl | 2, _ => rfl | 3, _ => rfl | 4, _ => rfl | 5, _ => rfl | 6, _ => rfl | 7, _ => rfl | 8, _ => rfl | 9, _ => rfl | 10, _ => rfl | 11, _ => rfl | 12, _ => rfl | 13, _ => rfl | 14, _ => rfl | 15, _ => rfl | 16, _ => rfl | 17, _ => rfl | 18, hj => absurd (hl.symm.trans hj) (by decide) | 19, _ => rfl | 20, _ => rfl | 21, _ => rfl | j9 + 22, _ => rfl), ⟨m1.trans' f2 (fun r hr e => by have := (hX5.lt r e).1; omega), T9, hX9, k0.q f2 ht, k1.q f2 ht, fun h => (r4 h).elim fun R h => ⟨R, h.1, h.2.q f2 ht⟩, fun h => (r7 h).elim fun R h => ⟨R, h.1, h.2.q f2 ht⟩, fun h => (r14 h).elim fun R h => ⟨R, h.1, h.2.q f2 ht⟩, fun _ => ⟨R9, hi9, hr9⟩⟩⟩
              | 19, ho, hl, D, DL, hB9 =>
                obtain ⟨R1, hi1, hr1⟩ := r14 (DL 14 rfl)
                obtain ⟨R2, hi2, hr2⟩ := r18 (DL 18 rfl)
                obtain rfl := Option.some.inj ho
                exact ⟨fun _ => callx rfl (run_call2 (enters_of Try.func18 (by kernel_rfl) rfl) rfl rfl (D 14 _ rfl rfl) (D 18 _ rfl rfl)) ((same_rw hr1 hr2).mono fun e w8 h => ⟨h.1.trans (by rw [decide_eq_true (hi1.uniq hi2)]), h.2⟩) rfl fun w9 f1 => ⟨m1.trans f1, U5, hX5.fr f1 (fun _ _ h => h), k0.fr f1, k1.fr f1, fun h => (r4 h).elim fun R h => ⟨R, h.1, h.2.fr f1⟩, fun h => (r7 h).elim fun R h => ⟨R, h.1, h.2.fr f1⟩, fun h => (r14 h).elim fun R h => ⟨R, h.1, h.2.fr f1⟩, fun h => (r18 h).elim fun R h => ⟨R, h.1, h.2.fr f1⟩⟩, fun h => by rw [w_yes (g := 10) (s := 124) (b := true) E rfl rfl (by decide) (D 10 _ rfl rfl)] at h; cases h⟩
              | 20, ho, hl, D, DL, hB9 =>
                obtain rfl := Option.some.inj ho
                exact ⟨fun _ => valx rfl (run_pick_t rfl (D 10 _ rfl rfl) (D 19 _ rfl rfl)) rfl ⟨m1, U5, hX5, k0, k1, r4, r7, r14, r18⟩, fun h => by rw [wanted_none rfl] at h; cases h⟩
              | 21, ho, hl, D, DL, hB9 =>
                obtain rfl := Option.some.inj ho
                exact ⟨fun _ => valx rfl (run_assign rfl (D 20 _ rfl rfl)) rfl ⟨m1, U5, hX5, k0, k1, r4, r7, r14, r18⟩, fun h => by rw [wanted_none rfl] at h; cases h⟩
              | j9 + 22, ho, hl, D, DL, hB9 => exact absurd ho (by simp)
            · rintro ⟨γa, γb, γc, γd⟩ a w9 E V hM
              have E := E.add (v := .bool true) (V 21 _ rfl)
              clear V
              have hf := hM.1
              refine then_n ?_
              refine wp_ret ?_
              exact ret_tmp (t := 8) rfl E (E.get 0 rfl) ⟨rfl, hf⟩
          | true =>
            rw [hq48] at E
            have hlt : j < l.length := by have := of_decide_eq_true hq48; omega
            obtain ⟨y, hy⟩ : ∃ y, l[j]? = some y := ⟨_, List.getElem?_eq_getElem hlt⟩
            obtain ⟨g, off, hpe, hgl, hrow⟩ := hs.at hlt
            replace hrow := hrow _ y hy
            have hszy := shB.id hsh80 y (List.mem_of_getElem? hy)
            have hszl : (oth ++ y.2.1).size ≤ maxLen := by rw [ByteArray.size_append]; unfold maxLen; omega
            have hszm : y.2.1.size ≤ maxLen := by unfold maxLen; omega
            refine wp_cond_true (E.get 0 rfl) ?_
            refine wp_skip ?_
            refine then_n ?_
            refine wp_seq ?_
            refine wp_block ?_
            refine wp_region_lit ?_
            refine env_put (d := 105) (v := .pointer (some ⟨r, 0, none⟩)) E rfl (by decide) rfl (wanted_none rfl _) (run_move rfl (E.get 7 rfl)) fun a E => ?_
            refine env_put (d := 106) (v := .string oth) E rfl (by decide) rfl (wanted_none rfl _) (run_move rfl (E.get 6 rfl)) fun a E => ?_
            refine env_put (d := 107) (v := .slice (p) l.length cap) E rfl (by decide) rfl (wanted_none rfl _) (run_move rfl (E.get 14 rfl)) fun a E => ?_
            refine env_put (d := 108) (v := .int .i64 (j : Int)) E rfl (by decide) rfl (wanted_none rfl _) (run_move rfl (E.get 7 rfl)) fun a E => ?_
            refine env_put (d := 109) (v := .pointer (some ⟨g, (off + j * 6), none⟩)) E rfl (by decide) rfl (wanted_none rfl _) (run_index22 (i := j) rfl ((E.get 1 rfl).trans (by rw [hpe])) (E.get 0 rfl) hlt) fun a E => ?_
            refine env_put (d := 110) (v := .pointer (some ⟨g, ((off + j * 6) + 1), none⟩)) E rfl (by decide) rfl (wanted_none rfl _) (fa35_1 rfl (E.get 0 rfl)) fun a E => ?_
            refine env_put (d := 111) (v := .string y.2.1) E rfl (by decide) rfl (wanted_none rfl _) (run_lds rfl (E.get 0 rfl) (hrow 1 _ rfl)) fun a E => ?_
            refine env_put (d := 112) (v := .string (oth ++ y.2.1)) E rfl (by decide) rfl (wanted_none rfl _) (run_sadd (E.get 5 rfl) (E.get 0 rfl) (by have h9 : (⟨#[43]⟩ : ByteArray).size = 1 := rfl; omega) rfl) fun a E => ?_
            refine env_call (d := 113) (v := .int .i64 (dropE my (oth ++ y.2.1))) (F := fun w8 => ∃ U9, XxS w2 w.heap.size r NY (delB my (oth ++ y.2.1)) q l.length m U U9 w8) E rfl (by decide) rfl (wanted_none rfl _) (run_call2 (enters_of Try.func30 (by kernel_rfl) rfl) rfl rfl (E.get 7 rfl) (E.get 0 rfl)) (xx_drop hX.swap (oth ++ y.2.1) hszl) fun a we hY2 E => ?_
            obtain ⟨U2, hS9⟩ := hY2
            obtain ⟨hX2, f2, ht⟩ := hS9.swap
            have hcb38 := hcb38.q f2 ht
            have hkb39 := hkb39.q f2 ht
            have hs := hs.fr f2 (fun r hr e => by have := (hX.lt r e).1; omega)
            have hf := hf.trans' f2 (fun r hr e => by have := (hX.lt r e).1; omega)
            have hX := hX2
            clear hX2 f2 ht
            have hC := hC.drop hoth hy
            refine wpList_nil ?_
            refine blk_n ?_
            refine then_n ?_
            refine wp_region_lit ?_
            refine env_put (d := 103) (v := .int .i64 (j : Int)) E rfl (by decide) rfl (wanted_none rfl _) (run_move rfl (E.get 13 rfl)) fun a E => ?_
            refine env_put (d := 104) (v := .int .i64 ((j : Int) + 1)) E rfl (by decide) rfl (wanted_none rfl _) (run_iadd Try.underlying3 (E.get 0 rfl) rfl (by omega) (by omega) rfl) fun a E => ?_
            refine env_set (d := 19) (v := .int .i64 ((j : Int) + 1)) E rfl (by decide) (wanted_none rfl _) (run_assign rfl (E.get 0 rfl)) fun a E => ?_
            refine wpList_nil ?_
            refine then_n ?_
            refine ⟨⟨j + 1, _, _, E.of ⟨E.get 0 rfl, E.get 16 rfl, E.get 17 rfl, E.get 18 rfl, E.get 19 rfl, E.get 20 rfl, E.get 21 rfl, E.get 22 rfl, E.get 23 rfl, trivial⟩, by omega, hX, hC, hs, hf, hcb38, hkb39⟩, ?_⟩
            rw [E.get 0 rfl]; simp only [intOf]; omega
        | true =>
          rw [hq46] at E
          have hk0 : 0 < k := by have := of_decide_eq_true hq46; omega
          have hlt : k - 1 < l.length := by omega
          obtain ⟨y, hy⟩ : ∃ y, l[k - 1]? = some y := ⟨_, List.getElem?_eq_getElem hlt⟩
          obtain ⟨g, off, hpe, hgl, hrow⟩ := hs.at hlt
          replace hrow := hrow _ y hy
          have hB9 : OB l oth m my (k - 1 + 1) := by rw [show k - 1 + 1 = k by omega]; exact hB3
          have hszy := shB.id hsh80 y (List.mem_of_getElem? hy)
          have hszm : y.2.1.size ≤ maxLen := by unfold maxLen; omega
          refine wp_cond_true (E.get 0 rfl) ?_
          refine wp_skip ?_
          refine then_n ?_
          refine wp_seq ?_
          refine wp_block ?_
          refine wp_seq ?_
          cases hm9 : m y.2.1 with
          | none =>
            refine wp_region_lit ?_
            refine env_put (d := 64) (v := .pointer (some ⟨q, 0, none⟩)) E rfl (by decide) rfl (wanted_none rfl _) (run_move rfl (E.get 4 rfl)) fun a E => ?_
            refine env_put (d := 65) (v := .slice (p) l.length cap) E rfl (by decide) rfl (wanted_none rfl _) (run_move rfl (E.get 11 rfl)) fun a E => ?_
            refine env_put (d := 66) (v := .int .i64 ((k : Int) - 1)) E rfl (by decide) rfl (wanted_none rfl _) (run_move rfl (E.get 4 rfl)) fun a E => ?_
            refine env_put (d := 67) (v := .pointer (some ⟨g, (off + (k - 1) * 6), none⟩)) E rfl (by decide) rfl (wanted_none rfl _) (run_index22z (i := (k - 1)) (by omega) rfl ((E.get 1 rfl).trans (by rw [hpe])) (E.get 0 rfl) hlt) fun a E => ?_
            refine env_put (d := 68) (v := .pointer (some ⟨g, ((off + (k - 1) * 6) + 1), none⟩)) E rfl (by decide) rfl (wanted_none rfl _) (fa35_1 rfl (E.get 0 rfl)) fun a E => ?_
            refine env_put (d := 69) (v := .string y.2.1) E rfl (by decide) rfl (wanted_none rfl _) (run_lds rfl (E.get 0 rfl) (hrow 1 _ rfl)) fun a E => ?_
            refine env_call (d := 70) (v := .tuple #[.agg (bxC ((0, 0), (0, 0))), .bool false]) E rfl (by decide) rfl (wanted_none rfl _) (run_call2 (enters_of Try.func16 (by kernel_rfl) rfl) rfl rfl (E.get 5 rfl) (E.get 0 rfl)) ((xx_box hX y.2.1 hszm).mono fun e w8 h => ⟨h.1.trans (by rw [hm9]; rfl), h.2⟩) fun a w1 f1 E => ?_
            have hs := hs.fr f1 (fun _ _ h => h)
            have hcb38 := hcb38.fr f1
            have hkb39 := hkb39.fr f1
            have hX := Xx.fr hX f1 (fun _ _ h => h)
            have hrow := fun j u hu => f1.cell (hrow j u hu) (fun h => h)
            have hf := hf.trans f1
            clear f1
            refine env_put (d := 63) (v := .tuple #[.agg (bxC ((0, 0), (0, 0))), .bool false]) E rfl (by decide) rfl (wanted_none rfl _) (run_move rfl (E.get 0 rfl)) fun a E => ?_
            refine env_put (d := 71) (v := .agg (bxC ((0, 0), (0, 0)))) E rfl (by decide) rfl (wanted_none rfl _) (run_ext0 rfl (E.get 0 rfl)) fun a E => ?_
            refine env_put (d := 72) (v := .bool false) E rfl (by decide) rfl (wanted_none rfl _) (run_ext1 rfl (E.get 1 rfl)) fun a E => ?_
            have hTl := (fun k hk => (hX.lt k hk).2 : ∀ k, U k → k < w1.heap.size)
            refine env_alloc26 (d := 15) E rfl (by decide) rfl (wanted_none rfl _) rfl fun a w1 b49 eb49 hb49 f1 E => ?_
            refine env_st26 E rfl (wanted_none rfl _) rfl (E.get 0 rfl) (E.get 2 rfl) hb49 fun w1 hb49 f2 E => ?_
            have f1 := f1.trans' f2 (fun r hr e => by omega)
            clear f2
            have hcb49 : Cw w1 U b49 ((0, 0), (0, 0)) := ⟨hb49, fun ht => by have := hTl b49 ht; omega⟩
            have hs := hs.fr f1 (fun _ _ h => h)
            have hcb38 := hcb38.fr f1
            have hkb39 := hkb39.fr f1
            have hX := Xx.fr hX f1 (fun _ _ h => h)
            have hrow := fun j u hu => f1.cell (hrow j u hu) (fun h => h)
            have hf := hf.trans f1
            clear f1
            clear hb49 hTl eb49
            refine env_put (d := 16) (v := .bool false) E rfl (by decide) rfl (wanted_none rfl _) (run_assign rfl (E.get 1 rfl)) fun a E => ?_
            refine wpList_nil ?_
            refine then_n ?_
            refine wp_seq ?_
            cases hy9 : my y.2.1 with
            | none =>
              refine wp_region_lit ?_
              refine env_put (d := 74) (v := .pointer (some ⟨r, 0, none⟩)) E rfl (by decide) rfl (wanted_none rfl _) (run_move rfl (E.get 17 rfl)) fun a E => ?_
              refine env_put (d := 75) (v := .slice (p) l.length cap) E rfl (by decide) rfl (wanted_none rfl _) (run_move rfl (E.get 23 rfl)) fun a E => ?_
              refine env_put (d := 76) (v := .int .i64 ((k : Int) - 1)) E rfl (by decide) rfl (wanted_none rfl _) (run_move rfl (E.get 16 rfl)) fun a E => ?_
              refine env_put (d := 77) (v := .pointer (some ⟨g, (off + (k - 1) * 6), none⟩)) E rfl (by decide) rfl (wanted_none rfl _) (run_index22z (i := (k - 1)) (by omega) rfl ((E.get 1 rfl).trans (by rw [hpe])) (E.get 0 rfl) hlt) fun a E => ?_
              refine env_put (d := 78) (v := .pointer (some ⟨g, ((off + (k - 1) * 6) + 1), none⟩)) E rfl (by decide) rfl (wanted_none rfl _) (fa35_1 rfl (E.get 0 rfl)) fun a E => ?_
              refine env_put (d := 79) (v := .string y.2.1) E rfl (by decide) rfl (wanted_none rfl _) (run_lds rfl (E.get 0 rfl) (hrow 1 _ rfl)) fun a E => ?_
              refine env_call (d := 80) (v := .tuple #[.agg (bxC ((0, 0), (0, 0))), .bool false]) E rfl (by decide) rfl (wanted_none rfl _) (run_call2 (enters_of Try.func16 (by kernel_rfl) rfl) rfl rfl (E.get 5 rfl) (E.get 0 rfl)) ((xx_box hX.swap y.2.1 hszm).mono fun e w8 h => ⟨h.1.trans (by rw [hy9]; rfl), h.2⟩) fun a w1 f1 E => ?_
              have hs := hs.fr f1 (fun _ _ h => h)
              have hcb38 := hcb38.fr f1
              have hkb39 := hkb39.fr f1
              have hX := Xx.fr hX f1 (fun _ _ h => h)
              have hrow := fun j u hu => f1.cell (hrow j u hu) (fun h => h)
              have hcb49 := hcb49.fr f1
              have hf := hf.trans f1
              clear f1
              refine env_put (d := 73) (v := .tuple #[.agg (bxC ((0, 0), (0, 0))), .bool false]) E rfl (by decide) rfl (wanted_none rfl _) (run_move rfl (E.get 0 rfl)) fun a E => ?_
              refine env_put (d := 81) (v := .agg (bxC ((0, 0), (0, 0)))) E rfl (by decide) rfl (wanted_none rfl _) (run_ext0 rfl (E.get 0 rfl)) fun a E => ?_
              refine env_put (d := 82) (v := .bool false) E rfl (by decide) rfl (wanted_none rfl _) (run_ext1 rfl (E.get 1 rfl)) fun a E => ?_
              have hTl := (fun k hk => (hX.lt k hk).2 : ∀ k, U k → k < w1.heap.size)
              refine env_alloc26 (d := 17) E rfl (by decide) rfl (wanted_none rfl _) rfl fun a w1 b50 eb50 hb50 f1 E => ?_
              refine env_st26 E rfl (wanted_none rfl _) rfl (E.get 0 rfl) (E.get 2 rfl) hb50 fun w1 hb50 f2 E => ?_
              have f1 := f1.trans' f2 (fun r hr e => by omega)
              clear f2
              have hcb50 : Cw w1 U b50 ((0, 0), (0, 0)) := ⟨hb50, fun ht => by have := hTl b50 ht; omega⟩
              have hs := hs.fr f1 (fun _ _ h => h)
              have hcb38 := hcb38.fr f1
              have hkb39 := hkb39.fr f1
              have hX := Xx.fr hX f1 (fun _ _ h => h)
              have hrow := fun j u hu => f1.cell (hrow j u hu) (fun h => h)
              have hcb49 := hcb49.fr f1
              have hf := hf.trans f1
              clear f1
              clear hb50 hTl eb50
              refine env_put (d := 18) (v := .bool false) E rfl (by decide) rfl (wanted_none rfl _) (run_assign rfl (E.get 1 rfl)) fun a E => ?_
              refine wpList_nil ?_
              refine then_n ?_
              refine wp_seq ?_
              have hB3 := hB9.keep hy (by rcases hB9.s _ hszy with h | h; rw [h, hm9]; exact h)
              refine wp_region_invg (n := 135) (base := [(18, .bool false), (17, .pointer (some ⟨b50, 0, none⟩)), (82, .bool false), (81, .agg (bxC ((0, 0), (0, 0)))), (73, .tuple #[.agg (bxC ((0, 0), (0, 0))), .bool false]), (80, .tuple #[.agg (bxC ((0, 0), (0, 0))), .bool false]), (79, .string y.2.1), (78, .pointer (some ⟨g, ((off + (k - 1) * 6) + 1), none⟩)), (77, .pointer (some ⟨g, (off + (k - 1) * 6), none⟩)), (76, .int .i64 ((k : Int) - 1)), (75, .slice (p) l.length cap), (74, .pointer (some ⟨r, 0, none⟩)), (16, .bool false), (15, .pointer (some ⟨b49, 0, none⟩)), (72, .bool false), (71, .agg (bxC ((0, 0), (0, 0)))), (63, .tuple #[.agg (bxC ((0, 0), (0, 0))), .bool false]), (70, .tuple #[.agg (bxC ((0, 0), (0, 0))), .bool false]), (69, .string y.2.1), (68, .pointer (some ⟨g, ((off + (k - 1) * 6) + 1), none⟩)), (67, .pointer (some ⟨g, (off + (k - 1) * 6), none⟩)), (66, .int .i64 ((k : Int) - 1)), (65, .slice (p) l.length cap), (64, .pointer (some ⟨q, 0, none⟩)), (60, .bool true), (59, .int .i64 ((k : Int) - 1)), (14, .int .i64 ((k : Int) - 1)), (12, .string oth), (10, .pointer (some ⟨q, 0, none⟩)), (11, .pointer (some ⟨r, 0, none⟩)), (9, .bool true), (5, .pointer (some ⟨b38, 0, none⟩)), (6, .pointer (some ⟨b39, 0, none⟩)), (3, .int .i64 n), (0, .slice (p) l.length cap)]) (T := [some (83, .bool false), some (84, .bool false), some (85, undef), some (86, undef), some (87, .bool false), some (88, .bool false), some (89, undef), some (90, undef), some (91, undef), some (92, undef), some (93, undef), some (94, undef), some (95, undef), some (96, undef), some (97, undef), some (98, .bool false)]) (M := fun _ wm => Fr (fun _ => False) w1 wm) (by kernel_rfl) (by kernel_rfl) (by kernel_rfl) (E.of ⟨E.get 0 rfl, E.get 1 rfl, E.get 2 rfl, E.get 3 rfl, E.get 4 rfl, E.get 5 rfl, E.get 6 rfl, E.get 7 rfl, E.get 8 rfl, E.get 9 rfl, E.get 10 rfl, E.get 11 rfl, E.get 12 rfl, E.get 13 rfl, E.get 14 rfl, E.get 15 rfl, E.get 16 rfl, E.get 17 rfl, E.get 18 rfl, E.get 19 rfl, E.get 20 rfl, E.get 21 rfl, E.get 22 rfl, E.get 23 rfl, E.get 24 rfl, E.get 25 rfl, E.get 26 rfl, E.get 27 rfl, E.get 28 rfl, E.get 29 rfl, E.get 30 rfl, E.get 31 rfl, E.get 32 rfl, E.get 33 rfl, E.get 34 rfl, trivial⟩) (Fr.refl _ _).drew ?_ ?_
              · intro j9 o9 t9 ls9 a w5 ho hT0 hl E D DL hM
                have hs := hs.fr hM (fun _ _ h => h)
                have hcb38 := hcb38.fr hM
                have hkb39 := hkb39.fr hM
                have hX := Xx.fr hX hM (fun _ _ h => h)
                have hrow := fun j u hu => hM.cell (hrow j u hu) (fun h => h)
                have hcb49 := hcb49.fr hM
                have hcb50 := hcb50.fr hM
                match j9, ho, hT0, hl, D, DL with
                | 0, ho, hT0, hl, D, DL =>
                  obtain rfl := Option.some.inj ho
                  obtain rfl := Option.some.inj hT0
                  clear ho hT0
                  exact ⟨fun _ => val_wp (run_move rfl (E.get 12 rfl)) rfl hM, fun h => by rw [wanted_none rfl] at h; cases h⟩
                | 1, ho, hT0, hl, D, DL =>
                  obtain rfl := Option.some.inj ho
                  obtain rfl := Option.some.inj hT0
                  clear ho hT0
                  exact ⟨fun _ => val_wp (run_move rfl (D 0 _ rfl rfl)) rfl hM, fun h => by rw [wanted_none rfl] at h; cases h⟩
                | 2, ho, hT0, hl, D, DL =>
                  obtain rfl := Option.some.inj ho
                  obtain rfl := Option.some.inj hT0
                  clear ho hT0
                  exact ⟨fun h => (by rw [w_no (g := 1) (s := 84) (b := true) E rfl rfl (by decide) (D 1 _ rfl rfl)] at h; cases h), fun _ => ⟨fun x hx => by cases hx; rfl, hM⟩⟩
                | 3, ho, hT0, hl, D, DL =>
                  obtain rfl := Option.some.inj ho
                  obtain rfl := Option.some.inj hT0
                  clear ho hT0
                  exact ⟨fun h => (by rw [w_no (g := 1) (s := 84) (b := true) E rfl rfl (by decide) (D 1 _ rfl rfl)] at h; cases h), fun _ => ⟨fun x hx => by cases hx; rfl, hM⟩⟩
                | 4, ho, hT0, hl, D, DL =>
                  obtain rfl := Option.some.inj ho
                  obtain rfl := Option.some.inj hT0
                  clear ho hT0
                  exact ⟨fun _ => val_wp (run_pick_f rfl (D 1 _ rfl rfl) rfl) rfl hM, fun h => by rw [wanted_none rfl] at h; cases h⟩
                | 5, ho, hT0, hl, D, DL =>
                  obtain rfl := Option.some.inj ho
                  obtain rfl := Option.some.inj hT0
                  clear ho hT0
                  exact ⟨fun _ => val_wp (run_move rfl (D 4 _ rfl rfl)) rfl hM, fun h => by rw [wanted_none rfl] at h; cases h⟩
                | 6, ho, hT0, hl, D, DL =>
                  obtain rfl := Option.some.inj ho
                  obtain rfl := Option.some.inj hT0
                  clear ho hT0
                  exact ⟨fun h => (by rw [w_no (g := 5) (s := 88) (b := true) E rfl rfl (by decide) (D 5 _ rfl rfl)] at h; cases h), fun _ => ⟨fun x hx => by cases hx; rfl, hM⟩⟩
                | 7, ho, hT0, hl, D, DL =>
                  obtain rfl := Option.some.inj ho
                  obtain rfl := Option.some.inj hT0
                  clear ho hT0
                  exact ⟨fun h => (by rw [w_no (g := 5) (s := 88) (b := true) E rfl rfl (by decide) (D 5 _ rfl rfl)] at h; cases h), fun _ => ⟨fun x hx => by cases hx; rfl, hM⟩⟩
                | 8, ho, hT0, hl, D, DL =>
                  obtain rfl := Option.some.inj ho
                  obtain rfl := Option.some.inj hT0
                  clear ho hT0
                  exact ⟨fun h => (by rw [w_no (g := 5) (s := 88) (b := true) E rfl rfl (by decide) (D 5 _ rfl rfl)] at h; cases h), fun _ => ⟨fun x hx => by cases hx; rfl, hM⟩⟩
                | 9, ho, hT0, hl, D, DL =>
                  obtain rfl := Option.some.inj ho
                  obtain rfl := Option.some.inj hT0
                  clear ho hT0
                  exact ⟨fun h => (by rw [w_no (g := 5) (s := 88) (b := true) E rfl rfl (by decide) (D 5 _ rfl rfl)] at h; cases h), fun _ => ⟨fun x hx => by cases hx; rfl, hM⟩⟩
                | 10, ho, hT0, hl, D, DL =>
                  obtain rfl := Option.some.inj ho
                  obtain rfl := Option.some.inj hT0
                  clear ho hT0
                  exact ⟨fun h => (by rw [w_no (g := 5) (s := 88) (b := true) E rfl rfl (by decide) (D 5 _ rfl rfl)] at h; cases h), fun _ => ⟨fun x hx => by cases hx; rfl, hM⟩⟩
                | 11, ho, hT0, hl, D, DL =>
                  obtain rfl := Option.some.inj ho
                  obtain rfl := Option.some.inj hT0
                  clear ho hT0
                  exact ⟨fun h => (by rw [w_no (g := 5) (s := 88) (b := true) E rfl rfl (by decide) (D 5 _ rfl rfl)] at h; cases h), fun _ => ⟨fun x hx => by cases hx; rfl, hM⟩⟩
                | 12, ho, hT0, hl, D, DL =>
                  obtain rfl := Option.some.inj ho
                  obtain rfl := Option.some.inj hT0
                  clear ho hT0
                  exact ⟨fun h => (by rw [w_no (g := 5) (s := 88) (b := true) E rfl rfl (by decide) (D 5 _ rfl rfl)] at h; cases h), fun _ => ⟨fun x hx => by cases hx; rfl, hM⟩⟩
                | 13, ho, hT0, hl, D, DL =>
                  obtain rfl := Option.some.inj ho
                  obtain rfl := Option.some.inj hT0
                  clear ho hT0
                  exact ⟨fun h => (by rw [w_no (g := 5) (s := 88) (b := true) E rfl rfl (by decide) (D 5 _ rfl rfl)] at h; cases h), fun _ => ⟨fun x hx => by cases hx; rfl, hM⟩⟩
                | 14, ho, hT0, hl, D, DL =>
                  obtain rfl := Option.some.inj ho
                  obtain rfl := Option.some.inj hT0
                  clear ho hT0
                  exact ⟨fun h => (by rw [w_no (g := 5) (s := 88) (b := true) E rfl rfl (by decide) (D 5 _ rfl rfl)] at h; cases h), fun _ => ⟨fun x hx => by cases hx; rfl, hM⟩⟩
                | 15, ho, hT0, hl, D, DL =>
                  obtain rfl := Option.some.inj ho
                  obtain rfl := Option.some.inj hT0
                  clear ho hT0
                  exact ⟨fun _ => val_wp (run_pick_f rfl (D 5 _ rfl rfl) rfl) rfl hM, fun h => by rw [wanted_none rfl] at h; cases h⟩
                | j9 + 16, ho, hT0, hl, D, DL => exact absurd hT0 (by simp)
              · intro a w5 E V hM
                have E := E.add (V 15 _ rfl)
                clear V
                have hs := hs.fr hM (fun _ _ h => h)
                have hcb38 := hcb38.fr hM
                have hkb39 := hkb39.fr hM
                have hX := Xx.fr hX hM (fun _ _ h => h)
                have hrow := fun j u hu => hM.cell (hrow j u hu) (fun h => h)
                have hcb49 := hcb49.fr hM
                have hcb50 := hcb50.fr hM
                have hf := hf.trans hM
                clear hM
                refine then_n ?_
                refine wp_cond_false (E.get 0 rfl) ?_
                refine wp_skip ?_
                refine blk_n ?_
                refine then_n ?_
                refine wp_region_lit ?_
                refine env_put (d := 61) (v := .int .i64 ((k : Int) - 1)) E rfl (by decide) rfl (wanted_none rfl _) (run_move rfl (E.get 27 rfl)) fun a E => ?_
                refine env_put (d := 62) (v := .int .i64 (((k : Int) - 1) - 1)) E rfl (by decide) rfl (wanted_none rfl _) (run_isub Try.underlying3 (E.get 0 rfl) rfl (by omega) (by omega) rfl) fun a E => ?_
                refine env_set (d := 14) (v := .int .i64 (((k : Int) - 1) - 1)) E rfl (by decide) (wanted_none rfl _) (run_assign rfl (E.get 0 rfl)) fun a E => ?_
                refine wpList_nil ?_
                refine then_n ?_
                have hk1 : ((k - 1 : Nat) : Int) = (k : Int) - 1 := by omega
                rw [← hk1] at E
                refine ⟨⟨k - 1, _, _, _, E.of ⟨E.get 0 rfl, E.get 30 rfl, E.get 31 rfl, E.get 32 rfl, E.get 33 rfl, E.get 34 rfl, E.get 35 rfl, E.get 36 rfl, E.get 37 rfl, trivial⟩, by omega, by omega, hX, hB3, hs, hf, hcb38, hkb39⟩, ?_⟩
                rw [E.get 0 rfl]; simp only [intOf]; omega
            | some c2 =>
              refine wp_region_lit ?_
              refine env_put (d := 74) (v := .pointer (some ⟨r, 0, none⟩)) E rfl (by decide) rfl (wanted_none rfl _) (run_move rfl (E.get 17 rfl)) fun a E => ?_
              refine env_put (d := 75) (v := .slice (p) l.length cap) E rfl (by decide) rfl (wanted_none rfl _) (run_move rfl (E.get 23 rfl)) fun a E => ?_
              refine env_put (d := 76) (v := .int .i64 ((k : Int) - 1)) E rfl (by decide) rfl (wanted_none rfl _) (run_move rfl (E.get 16 rfl)) fun a E => ?_
              refine env_put (d := 77) (v := .pointer (some ⟨g, (off + (k - 1) * 6), none⟩)) E rfl (by decide) rfl (wanted_none rfl _) (run_index22z (i := (k - 1)) (by omega) rfl ((E.get 1 rfl).trans (by rw [hpe])) (E.get 0 rfl) hlt) fun a E => ?_
              refine env_put (d := 78) (v := .pointer (some ⟨g, ((off + (k - 1) * 6) + 1), none⟩)) E rfl (by decide) rfl (wanted_none rfl _) (fa35_1 rfl (E.get 0 rfl)) fun a E => ?_
              refine env_put (d := 79) (v := .string y.2.1) E rfl (by decide) rfl (wanted_none rfl _) (run_lds rfl (E.get 0 rfl) (hrow 1 _ rfl)) fun a E => ?_
              refine env_call (d := 80) (v := .tuple #[.agg (bxC c2), .bool true]) E rfl (by decide) rfl (wanted_none rfl _) (run_call2 (enters_of Try.func16 (by kernel_rfl) rfl) rfl rfl (E.get 5 rfl) (E.get 0 rfl)) ((xx_box hX.swap y.2.1 hszm).mono fun e w8 h => ⟨h.1.trans (by rw [hy9]; rfl), h.2⟩) fun a w1 f1 E => ?_
              have hs := hs.fr f1 (fun _ _ h => h)
              have hcb38 := hcb38.fr f1
              have hkb39 := hkb39.fr f1
              have hX := Xx.fr hX f1 (fun _ _ h => h)
              have hrow := fun j u hu => f1.cell (hrow j u hu) (fun h => h)
              have hcb49 := hcb49.fr f1
              have hf := hf.trans f1
              clear f1
              refine env_put (d := 73) (v := .tuple #[.agg (bxC c2), .bool true]) E rfl (by decide) rfl (wanted_none rfl _) (run_move rfl (E.get 0 rfl)) fun a E => ?_
              refine env_put (d := 81) (v := .agg (bxC c2)) E rfl (by decide) rfl (wanted_none rfl _) (run_ext0 rfl (E.get 0 rfl)) fun a E => ?_
              refine env_put (d := 82) (v := .bool true) E rfl (by decide) rfl (wanted_none rfl _) (run_ext1 rfl (E.get 1 rfl)) fun a E => ?_
              have hTl := (fun k hk => (hX.lt k hk).2 : ∀ k, U k → k < w1.heap.size)
              refine env_alloc26 (d := 17) E rfl (by decide) rfl (wanted_none rfl _) rfl fun a w1 b52 eb52 hb52 f1 E => ?_
              refine env_st26 E rfl (wanted_none rfl _) rfl (E.get 0 rfl) (E.get 2 rfl) hb52 fun w1 hb52 f2 E => ?_
              have f1 := f1.trans' f2 (fun r hr e => by omega)
              clear f2
              have hcb52 : Cw w1 U b52 c2 := ⟨hb52, fun ht => by have := hTl b52 ht; omega⟩
              have hs := hs.fr f1 (fun _ _ h => h)
              have hcb38 := hcb38.fr f1
              have hkb39 := hkb39.fr f1
              have hX := Xx.fr hX f1 (fun _ _ h => h)
              have hrow := fun j u hu => f1.cell (hrow j u hu) (fun h => h)
              have hcb49 := hcb49.fr f1
              have hf := hf.trans f1
              clear f1
              clear hb52 hTl eb52
              refine env_put (d := 18) (v := .bool true) E rfl (by decide) rfl (wanted_none rfl _) (run_assign rfl (E.get 1 rfl)) fun a E => ?_
              refine wpList_nil ?_
              refine then_n ?_
              refine wp_seq ?_
              have hB3 := hB9.keep hy (by rcases hB9.s _ hszy with h | h; rw [h, hm9]; exact h)
              refine wp_region_invg (n := 135) (base := [(18, .bool true), (17, .pointer (some ⟨b52, 0, none⟩)), (82, .bool true), (81, .agg (bxC c2)), (73, .tuple #[.agg (bxC c2), .bool true]), (80, .tuple #[.agg (bxC c2), .bool true]), (79, .string y.2.1), (78, .pointer (some ⟨g, ((off + (k - 1) * 6) + 1), none⟩)), (77, .pointer (some ⟨g, (off + (k - 1) * 6), none⟩)), (76, .int .i64 ((k : Int) - 1)), (75, .slice (p) l.length cap), (74, .pointer (some ⟨r, 0, none⟩)), (16, .bool false), (15, .pointer (some ⟨b49, 0, none⟩)), (72, .bool false), (71, .agg (bxC ((0, 0), (0, 0)))), (63, .tuple #[.agg (bxC ((0, 0), (0, 0))), .bool false]), (70, .tuple #[.agg (bxC ((0, 0), (0, 0))), .bool false]), (69, .string y.2.1), (68, .pointer (some ⟨g, ((off + (k - 1) * 6) + 1), none⟩)), (67, .pointer (some ⟨g, (off + (k - 1) * 6), none⟩)), (66, .int .i64 ((k : Int) - 1)), (65, .slice (p) l.length cap), (64, .pointer (some ⟨q, 0, none⟩)), (60, .bool true), (59, .int .i64 ((k : Int) - 1)), (14, .int .i64 ((k : Int) - 1)), (12, .string oth), (10, .pointer (some ⟨q, 0, none⟩)), (11, .pointer (some ⟨r, 0, none⟩)), (9, .bool true), (5, .pointer (some ⟨b38, 0, none⟩)), (6, .pointer (some ⟨b39, 0, none⟩)), (3, .int .i64 n), (0, .slice (p) l.length cap)]) (T := [some (83, .bool false), some (84, .bool false), some (85, undef), some (86, undef), some (87, .bool false), some (88, .bool false), some (89, undef), some (90, undef), some (91, undef), some (92, undef), some (93, undef), some (94, undef), some (95, undef), some (96, undef), some (97, undef), some (98, .bool false)]) (M := fun _ wm => Fr (fun _ => False) w1 wm) (by kernel_rfl) (by kernel_rfl) (by kernel_rfl) (E.of ⟨E.get 0 rfl, E.get 1 rfl, E.get 2 rfl, E.get 3 rfl, E.get 4 rfl, E.get 5 rfl, E.get 6 rfl, E.get 7 rfl, E.get 8 rfl, E.get 9 rfl, E.get 10 rfl, E.get 11 rfl, E.get 12 rfl, E.get 13 rfl, E.get 14 rfl, E.get 15 rfl, E.get 16 rfl, E.get 17 rfl, E.get 18 rfl, E.get 19 rfl, E.get 20 rfl, E.get 21 rfl, E.get 22 rfl, E.get 23 rfl, E.get 24 rfl, E.get 25 rfl, E.get 26 rfl, E.get 27 rfl, E.get 28 rfl, E.get 29 rfl, E.get 30 rfl, E.get 31 rfl, E.get 32 rfl, E.get 33 rfl, E.get 34 rfl, trivial⟩) (Fr.refl _ _).drew ?_ ?_
              · intro j9 o9 t9 ls9 a w5 ho hT0 hl E D DL hM
                have hs := hs.fr hM (fun _ _ h => h)
                have hcb38 := hcb38.fr hM
                have hkb39 := hkb39.fr hM
                have hX := Xx.fr hX hM (fun _ _ h => h)
                have hrow := fun j u hu => hM.cell (hrow j u hu) (fun h => h)
                have hcb49 := hcb49.fr hM
                have hcb52 := hcb52.fr hM
                match j9, ho, hT0, hl, D, DL with
                | 0, ho, hT0, hl, D, DL =>
                  obtain rfl := Option.some.inj ho
                  obtain rfl := Option.some.inj hT0
                  clear ho hT0
                  exact ⟨fun _ => val_wp (run_move rfl (E.get 12 rfl)) rfl hM, fun h => by rw [wanted_none rfl] at h; cases h⟩
                | 1, ho, hT0, hl, D, DL =>
                  obtain rfl := Option.some.inj ho
                  obtain rfl := Option.some.inj hT0
                  clear ho hT0
                  exact ⟨fun _ => val_wp (run_move rfl (D 0 _ rfl rfl)) rfl hM, fun h => by rw [wanted_none rfl] at h; cases h⟩
                | 2, ho, hT0, hl, D, DL =>
                  obtain rfl := Option.some.inj ho
                  obtain rfl := Option.some.inj hT0
                  clear ho hT0
                  exact ⟨fun h => (by rw [w_no (g := 1) (s := 84) (b := true) E rfl rfl (by decide) (D 1 _ rfl rfl)] at h; cases h), fun _ => ⟨fun x hx => by cases hx; rfl, hM⟩⟩
                | 3, ho, hT0, hl, D, DL =>
                  obtain rfl := Option.some.inj ho
                  obtain rfl := Option.some.inj hT0
                  clear ho hT0
                  exact ⟨fun h => (by rw [w_no (g := 1) (s := 84) (b := true) E rfl rfl (by decide) (D 1 _ rfl rfl)] at h; cases h), fun _ => ⟨fun x hx => by cases hx; rfl, hM⟩⟩
                | 4, ho, hT0, hl, D, DL =>
                  obtain rfl := Option.some.inj ho
                  obtain rfl := Option.some.inj hT0
                  clear ho hT0
                  exact ⟨fun _ => val_wp (run_pick_f rfl (D 1 _ rfl rfl) rfl) rfl hM, fun h => by rw [wanted_none rfl] at h; cases h⟩
                | 5, ho, hT0, hl, D, DL =>
                  obtain rfl := Option.some.inj ho
                  obtain rfl := Option.some.inj hT0
                  clear ho hT0
                  exact ⟨fun _ => val_wp (run_move rfl (D 4 _ rfl rfl)) rfl hM, fun h => by rw [wanted_none rfl] at h; cases h⟩
                | 6, ho, hT0, hl, D, DL =>
                  obtain rfl := Option.some.inj ho
                  obtain rfl := Option.some.inj hT0
                  clear ho hT0
                  exact ⟨fun h => (by rw [w_no (g := 5) (s := 88) (b := true) E rfl rfl (by decide) (D 5 _ rfl rfl)] at h; cases h), fun _ => ⟨fun x hx => by cases hx; rfl, hM⟩⟩
                | 7, ho, hT0, hl, D, DL =>
                  obtain rfl := Option.some.inj ho
                  obtain rfl := Option.some.inj hT0
                  clear ho hT0
                  exact ⟨fun h => (by rw [w_no (g := 5) (s := 88) (b := true) E rfl rfl (by decide) (D 5 _ rfl rfl)] at h; cases h), fun _ => ⟨fun x hx => by cases hx; rfl, hM⟩⟩
                | 8, ho, hT0, hl, D, DL =>
                  obtain rfl := Option.some.inj ho
                  obtain rfl := Option.some.inj hT0
                  clear ho hT0
                  exact ⟨fun h => (by rw [w_no (g := 5) (s := 88) (b := true) E rfl rfl (by decide) (D 5 _ rfl rfl)] at h; cases h), fun _ => ⟨fun x hx => by cases hx; rfl, hM⟩⟩
                | 9, ho, hT0, hl, D, DL =>
                  obtain rfl := Option.some.inj ho
                  obtain rfl := Option.some.inj hT0
                  clear ho hT0
                  exact ⟨fun h => (by rw [w_no (g := 5) (s := 88) (b := true) E rfl rfl (by decide) (D 5 _ rfl rfl)] at h; cases h), fun _ => ⟨fun x hx => by cases hx; rfl, hM⟩⟩
                | 10, ho, hT0, hl, D, DL =>
                  obtain rfl := Option.some.inj ho
                  obtain rfl := Option.some.inj hT0
                  clear ho hT0
                  exact ⟨fun h => (by rw [w_no (g := 5) (s := 88) (b := true) E rfl rfl (by decide) (D 5 _ rfl rfl)] at h; cases h), fun _ => ⟨fun x hx => by cases hx; rfl, hM⟩⟩
                | 11, ho, hT0, hl, D, DL =>
                  obtain rfl := Option.some.inj ho
                  obtain rfl := Option.some.inj hT0
                  clear ho hT0
                  exact ⟨fun h => (by rw [w_no (g := 5) (s := 88) (b := true) E rfl rfl (by decide) (D 5 _ rfl rfl)] at h; cases h), fun _ => ⟨fun x hx => by cases hx; rfl, hM⟩⟩
                | 12, ho, hT0, hl, D, DL =>
                  obtain rfl := Option.some.inj ho
                  obtain rfl := Option.some.inj hT0
                  clear ho hT0
                  exact ⟨fun h => (by rw [w_no (g := 5) (s := 88) (b := true) E rfl rfl (by decide) (D 5 _ rfl rfl)] at h; cases h), fun _ => ⟨fun x hx => by cases hx; rfl, hM⟩⟩
                | 13, ho, hT0, hl, D, DL =>
                  obtain rfl := Option.some.inj ho
                  obtain rfl := Option.some.inj hT0
                  clear ho hT0
                  exact ⟨fun h => (by rw [w_no (g := 5) (s := 88) (b := true) E rfl rfl (by decide) (D 5 _ rfl rfl)] at h; cases h), fun _ => ⟨fun x hx => by cases hx; rfl, hM⟩⟩
                | 14, ho, hT0, hl, D, DL =>
                  obtain rfl := Option.some.inj ho
                  obtain rfl := Option.some.inj hT0
                  clear ho hT0
                  exact ⟨fun h => (by rw [w_no (g := 5) (s := 88) (b := true) E rfl rfl (by decide) (D 5 _ rfl rfl)] at h; cases h), fun _ => ⟨fun x hx => by cases hx; rfl, hM⟩⟩
                | 15, ho, hT0, hl, D, DL =>
                  obtain rfl := Option.some.inj ho
                  obtain rfl := Option.some.inj hT0
                  clear ho hT0
                  exact ⟨fun _ => val_wp (run_pick_f rfl (D 5 _ rfl rfl) rfl) rfl hM, fun h => by rw [wanted_none rfl] at h; cases h⟩
                | j9 + 16, ho, hT0, hl, D, DL => exact absurd hT0 (by simp)
              · intro a w5 E V hM
                have E := E.add (V 15 _ rfl)
                clear V
                have hs := hs.fr hM (fun _ _ h => h)
                have hcb38 := hcb38.fr hM
                have hkb39 := hkb39.fr hM
                have hX := Xx.fr hX hM (fun _ _ h => h)
                have hrow := fun j u hu => hM.cell (hrow j u hu) (fun h => h)
                have hcb49 := hcb49.fr hM
                have hcb52 := hcb52.fr hM
                have hf := hf.trans hM
                clear hM
                refine then_n ?_
                refine wp_cond_false (E.get 0 rfl) ?_
                refine wp_skip ?_
                refine blk_n ?_
                refine then_n ?_
                refine wp_region_lit ?_
                refine env_put (d := 61) (v := .int .i64 ((k : Int) - 1)) E rfl (by decide) rfl (wanted_none rfl _) (run_move rfl (E.get 27 rfl)) fun a E => ?_
                refine env_put (d := 62) (v := .int .i64 (((k : Int) - 1) - 1)) E rfl (by decide) rfl (wanted_none rfl _) (run_isub Try.underlying3 (E.get 0 rfl) rfl (by omega) (by omega) rfl) fun a E => ?_
                refine env_set (d := 14) (v := .int .i64 (((k : Int) - 1) - 1)) E rfl (by decide) (wanted_none rfl _) (run_assign rfl (E.get 0 rfl)) fun a E => ?_
                refine wpList_nil ?_
                refine then_n ?_
                have hk1 : ((k - 1 : Nat) : Int) = (k : Int) - 1 := by omega
                rw [← hk1] at E
                refine ⟨⟨k - 1, _, _, _, E.of ⟨E.get 0 rfl, E.get 30 rfl, E.get 31 rfl, E.get 32 rfl, E.get 33 rfl, E.get 34 rfl, E.get 35 rfl, E.get 36 rfl, E.get 37 rfl, trivial⟩, by omega, by omega, hX, hB3, hs, hf, hcb38, hkb39⟩, ?_⟩
                rw [E.get 0 rfl]; simp only [intOf]; omega
          | some c =>
            refine wp_region_lit ?_
            refine env_put (d := 64) (v := .pointer (some ⟨q, 0, none⟩)) E rfl (by decide) rfl (wanted_none rfl _) (run_move rfl (E.get 4 rfl)) fun a E => ?_
            refine env_put (d := 65) (v := .slice (p) l.length cap) E rfl (by decide) rfl (wanted_none rfl _) (run_move rfl (E.get 11 rfl)) fun a E => ?_
            refine env_put (d := 66) (v := .int .i64 ((k : Int) - 1)) E rfl (by decide) rfl (wanted_none rfl _) (run_move rfl (E.get 4 rfl)) fun a E => ?_
            refine env_put (d := 67) (v := .pointer (some ⟨g, (off + (k - 1) * 6), none⟩)) E rfl (by decide) rfl (wanted_none rfl _) (run_index22z (i := (k - 1)) (by omega) rfl ((E.get 1 rfl).trans (by rw [hpe])) (E.get 0 rfl) hlt) fun a E => ?_
            refine env_put (d := 68) (v := .pointer (some ⟨g, ((off + (k - 1) * 6) + 1), none⟩)) E rfl (by decide) rfl (wanted_none rfl _) (fa35_1 rfl (E.get 0 rfl)) fun a E => ?_
            refine env_put (d := 69) (v := .string y.2.1) E rfl (by decide) rfl (wanted_none rfl _) (run_lds rfl (E.get 0 rfl) (hrow 1 _ rfl)) fun a E => ?_
            refine env_call (d := 70) (v := .tuple #[.agg (bxC c), .bool true]) E rfl (by decide) rfl (wanted_none rfl _) (run_call2 (enters_of Try.func16 (by kernel_rfl) rfl) rfl rfl (E.get 5 rfl) (E.get 0 rfl)) ((xx_box hX y.2.1 hszm).mono fun e w8 h => ⟨h.1.trans (by rw [hm9]; rfl), h.2⟩) fun a w1 f1 E => ?_
            have hs := hs.fr f1 (fun _ _ h => h)
            have hcb38 := hcb38.fr f1
            have hkb39 := hkb39.fr f1
            have hX := Xx.fr hX f1 (fun _ _ h => h)
            have hrow := fun j u hu => f1.cell (hrow j u hu) (fun h => h)
            have hf := hf.trans f1
            clear f1
            refine env_put (d := 63) (v := .tuple #[.agg (bxC c), .bool true]) E rfl (by decide) rfl (wanted_none rfl _) (run_move rfl (E.get 0 rfl)) fun a E => ?_
            refine env_put (d := 71) (v := .agg (bxC c)) E rfl (by decide) rfl (wanted_none rfl _) (run_ext0 rfl (E.get 0 rfl)) fun a E => ?_
            refine env_put (d := 72) (v := .bool true) E rfl (by decide) rfl (wanted_none rfl _) (run_ext1 rfl (E.get 1 rfl)) fun a E => ?_
            have hTl := (fun k hk => (hX.lt k hk).2 : ∀ k, U k → k < w1.heap.size)
            refine env_alloc26 (d := 15) E rfl (by decide) rfl (wanted_none rfl _) rfl fun a w1 b54 eb54 hb54 f1 E => ?_
            refine env_st26 E rfl (wanted_none rfl _) rfl (E.get 0 rfl) (E.get 2 rfl) hb54 fun w1 hb54 f2 E => ?_
            have f1 := f1.trans' f2 (fun r hr e => by omega)
            clear f2
            have hcb54 : Cw w1 U b54 c := ⟨hb54, fun ht => by have := hTl b54 ht; omega⟩
            have hs := hs.fr f1 (fun _ _ h => h)
            have hcb38 := hcb38.fr f1
            have hkb39 := hkb39.fr f1
            have hX := Xx.fr hX f1 (fun _ _ h => h)
            have hrow := fun j u hu => f1.cell (hrow j u hu) (fun h => h)
            have hf := hf.trans f1
            clear f1
            clear hb54 hTl eb54
            refine env_put (d := 16) (v := .bool true) E rfl (by decide) rfl (wanted_none rfl _) (run_assign rfl (E.get 1 rfl)) fun a E => ?_
            refine wpList_nil ?_
            refine then_n ?_
            refine wp_seq ?_
            cases hy9 : my y.2.1 with
            | none =>
              refine wp_region_lit ?_
              refine env_put (d := 74) (v := .pointer (some ⟨r, 0, none⟩)) E rfl (by decide) rfl (wanted_none rfl _) (run_move rfl (E.get 17 rfl)) fun a E => ?_
              refine env_put (d := 75) (v := .slice (p) l.length cap) E rfl (by decide) rfl (wanted_none rfl _) (run_move rfl (E.get 23 rfl)) fun a E => ?_
              refine env_put (d := 76) (v := .int .i64 ((k : Int) - 1)) E rfl (by decide) rfl (wanted_none rfl _) (run_move rfl (E.get 16 rfl)) fun a E => ?_
              refine env_put (d := 77) (v := .pointer (some ⟨g, (off + (k - 1) * 6), none⟩)) E rfl (by decide) rfl (wanted_none rfl _) (run_index22z (i := (k - 1)) (by omega) rfl ((E.get 1 rfl).trans (by rw [hpe])) (E.get 0 rfl) hlt) fun a E => ?_
              refine env_put (d := 78) (v := .pointer (some ⟨g, ((off + (k - 1) * 6) + 1), none⟩)) E rfl (by decide) rfl (wanted_none rfl _) (fa35_1 rfl (E.get 0 rfl)) fun a E => ?_
              refine env_put (d := 79) (v := .string y.2.1) E rfl (by decide) rfl (wanted_none rfl _) (run_lds rfl (E.get 0 rfl) (hrow 1 _ rfl)) fun a E => ?_
              refine env_call (d := 80) (v := .tuple #[.agg (bxC ((0, 0), (0, 0))), .bool false]) E rfl (by decide) rfl (wanted_none rfl _) (run_call2 (enters_of Try.func16 (by kernel_rfl) rfl) rfl rfl (E.get 5 rfl) (E.get 0 rfl)) ((xx_box hX.swap y.2.1 hszm).mono fun e w8 h => ⟨h.1.trans (by rw [hy9]; rfl), h.2⟩) fun a w1 f1 E => ?_
              have hs := hs.fr f1 (fun _ _ h => h)
              have hcb38 := hcb38.fr f1
              have hkb39 := hkb39.fr f1
              have hX := Xx.fr hX f1 (fun _ _ h => h)
              have hrow := fun j u hu => f1.cell (hrow j u hu) (fun h => h)
              have hcb54 := hcb54.fr f1
              have hf := hf.trans f1
              clear f1
              refine env_put (d := 73) (v := .tuple #[.agg (bxC ((0, 0), (0, 0))), .bool false]) E rfl (by decide) rfl (wanted_none rfl _) (run_move rfl (E.get 0 rfl)) fun a E => ?_
              refine env_put (d := 81) (v := .agg (bxC ((0, 0), (0, 0)))) E rfl (by decide) rfl (wanted_none rfl _) (run_ext0 rfl (E.get 0 rfl)) fun a E => ?_
              refine env_put (d := 82) (v := .bool false) E rfl (by decide) rfl (wanted_none rfl _) (run_ext1 rfl (E.get 1 rfl)) fun a E => ?_
              have hTl := (fun k hk => (hX.lt k hk).2 : ∀ k, U k → k < w1.heap.size)
              refine env_alloc26 (d := 17) E rfl (by decide) rfl (wanted_none rfl _) rfl fun a w1 b55 eb55 hb55 f1 E => ?_
              refine env_st26 E rfl (wanted_none rfl _) rfl (E.get 0 rfl) (E.get 2 rfl) hb55 fun w1 hb55 f2 E => ?_
              have f1 := f1.trans' f2 (fun r hr e => by omega)
              clear f2
              have hcb55 : Cw w1 U b55 ((0, 0), (0, 0)) := ⟨hb55, fun ht => by have := hTl b55 ht; omega⟩
              have hs := hs.fr f1 (fun _ _ h => h)
              have hcb38 := hcb38.fr f1
              have hkb39 := hkb39.fr f1
              have hX := Xx.fr hX f1 (fun _ _ h => h)
              have hrow := fun j u hu => f1.cell (hrow j u hu) (fun h => h)
              have hcb54 := hcb54.fr f1
              have hf := hf.trans f1
              clear f1
              clear hb55 hTl eb55
              refine env_put (d := 18) (v := .bool false) E rfl (by decide) rfl (wanted_none rfl _) (run_assign rfl (E.get 1 rfl)) fun a E => ?_
              refine wpList_nil ?_
              refine then_n ?_
              refine wp_seq ?_
              refine wp_region_invx (G := Unit) () (n := 135) (base := [(18, .bool false), (16, .bool true), (15, .pointer (some ⟨b54, 0, none⟩)), (14, .int .i64 ((k : Int) - 1)), (12, .string oth), (10, .pointer (some ⟨q, 0, none⟩)), (11, .pointer (some ⟨r, 0, none⟩)), (9, .bool true), (5, .pointer (some ⟨b38, 0, none⟩)), (6, .pointer (some ⟨b39, 0, none⟩)), (3, .int .i64 n), (0, .slice (p) l.length cap)]) (U := []) (T := fun γ => [some (83, .bool true), some (84, .bool true), some (85, .bool false), some (86, .bool true), some (87, .bool true), some (88, .bool true), some (89, .pointer (some ⟨r, 0, none⟩)), some (90, .slice (p) l.length cap), some (91, .int .i64 ((k : Int) - 1)), some (92, .pointer (some ⟨g, (off + (k - 1) * 6), none⟩)), some (93, .pointer (some ⟨g, (off + (k - 1) * 6 + 1), none⟩)), some (94, .string y.2.1), some (95, .agg (bxC c)), some (96, .int .i64 0), some (97, .bool false), some (98, .bool false)]) (M := fun γ ls9 wm => (ls9 13 = false → Fr (fun _ => False) w1 wm) ∧ (ls9 13 = true → ∃ U9, XxS w1 w.heap.size q l.length m r (NY + 1) (putM my y.2.1 c) U U9 wm)) (by kernel_rfl) (by kernel_rfl) (fun _ => by kernel_rfl) (E.of ⟨E.get 0 rfl, E.get 12 rfl, E.get 13 rfl, E.get 26 rfl, E.get 27 rfl, E.get 28 rfl, E.get 29 rfl, E.get 30 rfl, E.get 31 rfl, E.get 32 rfl, E.get 33 rfl, E.get 34 rfl, trivial⟩) (fun x hx => by cases hx) ⟨fun _ => (Fr.refl _ _).drew, fun e => absurd e Bool.false_ne_true⟩ ?_ ?_
              · intro j9 o9 γ ls9 a w5 ho hl E D DL DL2 hB9 hM
                obtain ⟨m1, m2⟩ := hM
                match j9, ho, hl, D, DL, hB9 with
                | 0, ho, hl, D, DL, hB9 =>
                  obtain rfl := Option.some.inj ho
                  exact ⟨fun _ => valx rfl (run_move rfl (E.get 1 rfl)) rfl ⟨m1, m2⟩, fun h => by rw [wanted_none rfl] at h; cases h⟩
                | 1, ho, hl, D, DL, hB9 =>
                  obtain rfl := Option.some.inj ho
                  exact ⟨fun _ => valx rfl (run_move rfl (D 0 _ rfl rfl)) rfl ⟨m1, m2⟩, fun h => by rw [wanted_none rfl] at h; cases h⟩
                | 2, ho, hl, D, DL, hB9 =>
                  obtain rfl := Option.some.inj ho
                  exact ⟨fun _ => valx rfl (run_move rfl (E.get 0 rfl)) rfl ⟨m1, m2⟩, fun h => by rw [w_yes (g := 1) (s := 84) (b := true) E rfl rfl (by decide) (D 1 _ rfl rfl)] at h; cases h⟩
                | 3, ho, hl, D, DL, hB9 =>
                  obtain rfl := Option.some.inj ho
                  exact ⟨fun _ => valx rfl (run_not rfl (D 2 _ rfl rfl)) rfl ⟨m1, m2⟩, fun h => by rw [w_yes (g := 1) (s := 84) (b := true) E rfl rfl (by decide) (D 1 _ rfl rfl)] at h; cases h⟩
                | 4, ho, hl, D, DL, hB9 =>
                  obtain rfl := Option.some.inj ho
                  exact ⟨fun _ => valx rfl (run_pick_t rfl (D 1 _ rfl rfl) (D 3 _ rfl rfl)) rfl ⟨m1, m2⟩, fun h => by rw [wanted_none rfl] at h; cases h⟩
                | 5, ho, hl, D, DL, hB9 =>
                  obtain rfl := Option.some.inj ho
                  exact ⟨fun _ => valx rfl (run_move rfl (D 4 _ rfl rfl)) rfl ⟨m1, m2⟩, fun h => by rw [wanted_none rfl] at h; cases h⟩
                | 6, ho, hl, D, DL, hB9 =>
                  obtain rfl := Option.some.inj ho
                  exact ⟨fun _ => valx rfl (run_move rfl (E.get 6 rfl)) rfl ⟨m1, m2⟩, fun h => by rw [w_yes (g := 5) (s := 88) (b := true) E rfl rfl (by decide) (D 5 _ rfl rfl)] at h; cases h⟩
                | 7, ho, hl, D, DL, hB9 =>
                  obtain rfl := Option.some.inj ho
                  exact ⟨fun _ => valx rfl (run_move rfl (E.get 11 rfl)) rfl ⟨m1, m2⟩, fun h => by rw [w_yes (g := 5) (s := 88) (b := true) E rfl rfl (by decide) (D 5 _ rfl rfl)] at h; cases h⟩
                | 8, ho, hl, D, DL, hB9 =>
                  obtain rfl := Option.some.inj ho
                  exact ⟨fun _ => valx rfl (run_move rfl (E.get 3 rfl)) rfl ⟨m1, m2⟩, fun h => by rw [w_yes (g := 5) (s := 88) (b := true) E rfl rfl (by decide) (D 5 _ rfl rfl)] at h; cases h⟩
                | 9, ho, hl, D, DL, hB9 =>
                  obtain rfl := Option.some.inj ho
                  exact ⟨fun _ => valx rfl (run_index22z (i := (k - 1)) (by omega) rfl ((D 7 _ rfl rfl).trans (by rw [hpe])) (D 8 _ rfl rfl) hlt) rfl ⟨m1, m2⟩, fun h => by rw [w_yes (g := 5) (s := 88) (b := true) E rfl rfl (by decide) (D 5 _ rfl rfl)] at h; cases h⟩
                | 10, ho, hl, D, DL, hB9 =>
                  obtain rfl := Option.some.inj ho
                  exact ⟨fun _ => valx rfl (fa35_1 rfl (D 9 _ rfl rfl)) rfl ⟨m1, m2⟩, fun h => by rw [w_yes (g := 5) (s := 88) (b := true) E rfl rfl (by decide) (D 5 _ rfl rfl)] at h; cases h⟩
                | 11, ho, hl, D, DL, hB9 =>
                  have n13 : ls9 13 = false := by
                    cases h8 : ls9 13 with
                    | false => rfl
                    | true => exact absurd (hl.symm.trans (DL2 13 11 rfl h8)) (by decide)
                  have hrow5 : w5.rangeAt g (off + (k - 1) * 6) (opL y) := fun j u hu => (m1 n13).cell (hrow j u hu) (fun h => h)
                  obtain rfl := Option.some.inj ho
                  exact ⟨fun _ => valx rfl (run_lds rfl (D 10 _ rfl rfl) (hrow5 1 _ rfl)) rfl ⟨m1, m2⟩, fun h => by rw [w_yes (g := 5) (s := 88) (b := true) E rfl rfl (by decide) (D 5 _ rfl rfl)] at h; cases h⟩
                | 12, ho, hl, D, DL, hB9 =>
                  have n13 : ls9 13 = false := by
                    cases h8 : ls9 13 with
                    | false => rfl
                    | true => exact absurd (hl.symm.trans (DL2 13 12 rfl h8)) (by decide)
                  have hc5 := hcb54.fr (m1 n13)
                  obtain rfl := Option.some.inj ho
                  exact ⟨fun _ => valx rfl (run_ld26 rfl (E.get 2 rfl) (rng4 (p := c) hc5.1 0 rfl rfl rfl rfl)) rfl ⟨m1, m2⟩, fun h => by rw [w_yes (g := 5) (s := 88) (b := true) E rfl rfl (by decide) (D 5 _ rfl rfl)] at h; cases h⟩
                | 13, ho, hl, D, DL, hB9 =>
                  have hX5 := hX.fr (m1 hl) (fun _ _ h => h)
                  obtain rfl := Option.some.inj ho
                  refine ⟨fun _ => callx rfl (run_call3 (enters_of Try.func29 (by kernel_rfl) rfl) rfl rfl (D 6 _ rfl rfl) (D 11 _ rfl rfl) (D 12 _ rfl rfl)) ((xx_put hX5.swap (by omega) y.2.1 hszm c).mono fun e w8 h => ⟨h.1.trans (by unfold putE; rw [if_pos (hX.ok _ _ hm9), hy9]; rfl), h.2⟩) rfl fun w9 f9 => ?_, fun h => by rw [w_yes (g := 5) (s := 88) (b := true) E rfl rfl (by decide) (D 5 _ rfl rfl)] at h; cases h⟩
                  obtain ⟨U9, k1, k2, k3⟩ := f9
                  exact ⟨fun h => by simp at h, fun _ => ⟨U9, k1.swap, ((m1 hl).mono fun _ _ h => h.elim).trans k2, fun k hk => by rcases k3 k hk with h | h; exact .inl h; exact .inr (by have := (m1 hl).size; omega)⟩⟩
                | 14, ho, hl, D, DL, hB9 =>
                  obtain rfl := Option.some.inj ho
                  exact ⟨fun _ => valx rfl (run_ineq (m := 0) (n := 0) (D 13 _ rfl rfl) rfl Try.underlying33 rfl) rfl ⟨m1, m2⟩, fun h => by rw [w_yes (g := 5) (s := 88) (b := true) E rfl rfl (by decide) (D 5 _ rfl rfl)] at h; cases h⟩
                | 15, ho, hl, D, DL, hB9 =>
                  obtain rfl := Option.some.inj ho
                  exact ⟨fun _ => valx rfl (run_pick_t rfl (D 5 _ rfl rfl) (D 14 _ rfl rfl)) rfl ⟨m1, m2⟩, fun h => by rw [wanted_none rfl] at h; cases h⟩
                | j9 + 16, ho, hl, D, DL, hB9 => exact absurd ho (by simp)
              · rintro _ a wd E V hM
                have E := E.add (v := .bool false) (V 15 _ rfl)
                clear V
                obtain ⟨_, m2⟩ := hM
                obtain ⟨U2, hX2, f2, ht⟩ := m2 rfl
                clear m2
                have hcb38 := hcb38.q f2 ht
                have hkb39 := hkb39.q f2 ht
                have hrow := fun j u hu => f2.cell (hrow j u hu) (fun e => by have := (hX.lt _ e).1; simp only at this; omega)
                have hcb54 := hcb54.q f2 ht
                have hcb55 := hcb55.q f2 ht
                have hs := hs.fr f2 (fun r hr e => by have := (hX.lt r e).1; omega)
                have hf := hf.trans' f2 (fun r hr e => by have := (hX.lt r e).1; omega)
                have hX := hX2
                clear hX2 f2 ht
                rw [show putM my y.2.1 c = updB my y.2.1 c from by unfold putM; rw [if_pos ⟨hok _ _ hm9, by rw [hy9]; rfl⟩]] at hX
                have hB3 := hB9.put hy hszy hm9
                refine then_n ?_
                refine wp_cond_false (E.get 0 rfl) ?_
                refine wp_skip ?_
                refine blk_n ?_
                refine then_n ?_
                refine wp_region_lit ?_
                refine env_put (d := 61) (v := .int .i64 ((k : Int) - 1)) E rfl (by decide) rfl (wanted_none rfl _) (run_move rfl (E.get 4 rfl)) fun a E => ?_
                refine env_put (d := 62) (v := .int .i64 (((k : Int) - 1) - 1)) E rfl (by decide) rfl (wanted_none rfl _) (run_isub Try.underlying3 (E.get 0 rfl) rfl (by omega) (by omega) rfl) fun a E => ?_
                refine env_set (d := 14) (v := .int .i64 (((k : Int) - 1) - 1)) E rfl (by decide) (wanted_none rfl _) (run_assign rfl (E.get 0 rfl)) fun a E => ?_
                refine wpList_nil ?_
                refine then_n ?_
                have hk1 : ((k - 1 : Nat) : Int) = (k : Int) - 1 := by omega
                rw [← hk1] at E
                refine ⟨⟨k - 1, _, _, _, E.of ⟨E.get 0 rfl, E.get 7 rfl, E.get 8 rfl, E.get 9 rfl, E.get 10 rfl, E.get 11 rfl, E.get 12 rfl, E.get 13 rfl, E.get 14 rfl, trivial⟩, by omega, by omega, hX, hB3, hs, hf, hcb38, hkb39⟩, ?_⟩
                rw [E.get 0 rfl]; simp only [intOf]; omega
            | some c2 =>
              refine wp_region_lit ?_
              refine env_put (d := 74) (v := .pointer (some ⟨r, 0, none⟩)) E rfl (by decide) rfl (wanted_none rfl _) (run_move rfl (E.get 17 rfl)) fun a E => ?_
              refine env_put (d := 75) (v := .slice (p) l.length cap) E rfl (by decide) rfl (wanted_none rfl _) (run_move rfl (E.get 23 rfl)) fun a E => ?_
              refine env_put (d := 76) (v := .int .i64 ((k : Int) - 1)) E rfl (by decide) rfl (wanted_none rfl _) (run_move rfl (E.get 16 rfl)) fun a E => ?_
              refine env_put (d := 77) (v := .pointer (some ⟨g, (off + (k - 1) * 6), none⟩)) E rfl (by decide) rfl (wanted_none rfl _) (run_index22z (i := (k - 1)) (by omega) rfl ((E.get 1 rfl).trans (by rw [hpe])) (E.get 0 rfl) hlt) fun a E => ?_
              refine env_put (d := 78) (v := .pointer (some ⟨g, ((off + (k - 1) * 6) + 1), none⟩)) E rfl (by decide) rfl (wanted_none rfl _) (fa35_1 rfl (E.get 0 rfl)) fun a E => ?_
              refine env_put (d := 79) (v := .string y.2.1) E rfl (by decide) rfl (wanted_none rfl _) (run_lds rfl (E.get 0 rfl) (hrow 1 _ rfl)) fun a E => ?_
              refine env_call (d := 80) (v := .tuple #[.agg (bxC c2), .bool true]) E rfl (by decide) rfl (wanted_none rfl _) (run_call2 (enters_of Try.func16 (by kernel_rfl) rfl) rfl rfl (E.get 5 rfl) (E.get 0 rfl)) ((xx_box hX.swap y.2.1 hszm).mono fun e w8 h => ⟨h.1.trans (by rw [hy9]; rfl), h.2⟩) fun a w1 f1 E => ?_
              have hs := hs.fr f1 (fun _ _ h => h)
              have hcb38 := hcb38.fr f1
              have hkb39 := hkb39.fr f1
              have hX := Xx.fr hX f1 (fun _ _ h => h)
              have hrow := fun j u hu => f1.cell (hrow j u hu) (fun h => h)
              have hcb54 := hcb54.fr f1
              have hf := hf.trans f1
              clear f1
              refine env_put (d := 73) (v := .tuple #[.agg (bxC c2), .bool true]) E rfl (by decide) rfl (wanted_none rfl _) (run_move rfl (E.get 0 rfl)) fun a E => ?_
              refine env_put (d := 81) (v := .agg (bxC c2)) E rfl (by decide) rfl (wanted_none rfl _) (run_ext0 rfl (E.get 0 rfl)) fun a E => ?_
              refine env_put (d := 82) (v := .bool true) E rfl (by decide) rfl (wanted_none rfl _) (run_ext1 rfl (E.get 1 rfl)) fun a E => ?_
              have hTl := (fun k hk => (hX.lt k hk).2 : ∀ k, U k → k < w1.heap.size)
              refine env_alloc26 (d := 17) E rfl (by decide) rfl (wanted_none rfl _) rfl fun a w1 b56 eb56 hb56 f1 E => ?_
              refine env_st26 E rfl (wanted_none rfl _) rfl (E.get 0 rfl) (E.get 2 rfl) hb56 fun w1 hb56 f2 E => ?_
              have f1 := f1.trans' f2 (fun r hr e => by omega)
              clear f2
              have hcb56 : Cw w1 U b56 c2 := ⟨hb56, fun ht => by have := hTl b56 ht; omega⟩
              have hs := hs.fr f1 (fun _ _ h => h)
              have hcb38 := hcb38.fr f1
              have hkb39 := hkb39.fr f1
              have hX := Xx.fr hX f1 (fun _ _ h => h)
              have hrow := fun j u hu => f1.cell (hrow j u hu) (fun h => h)
              have hcb54 := hcb54.fr f1
              have hf := hf.trans f1
              clear f1
              clear hb56 hTl eb56
              refine env_put (d := 18) (v := .bool true) E rfl (by decide) rfl (wanted_none rfl _) (run_assign rfl (E.get 1 rfl)) fun a E => ?_
              refine wpList_nil ?_
              refine then_n ?_
              refine wp_seq ?_
              have hB3 := hB9.keep hy (by rcases hB9.s _ hszy with h | h; rw [hy9] at h; cases h; exact h)
              refine wp_region_invg (n := 135) (base := [(18, .bool true), (17, .pointer (some ⟨b56, 0, none⟩)), (82, .bool true), (81, .agg (bxC c2)), (73, .tuple #[.agg (bxC c2), .bool true]), (80, .tuple #[.agg (bxC c2), .bool true]), (79, .string y.2.1), (78, .pointer (some ⟨g, ((off + (k - 1) * 6) + 1), none⟩)), (77, .pointer (some ⟨g, (off + (k - 1) * 6), none⟩)), (76, .int .i64 ((k : Int) - 1)), (75, .slice (p) l.length cap), (74, .pointer (some ⟨r, 0, none⟩)), (16, .bool true), (15, .pointer (some ⟨b54, 0, none⟩)), (72, .bool true), (71, .agg (bxC c)), (63, .tuple #[.agg (bxC c), .bool true]), (70, .tuple #[.agg (bxC c), .bool true]), (69, .string y.2.1), (68, .pointer (some ⟨g, ((off + (k - 1) * 6) + 1), none⟩)), (67, .pointer (some ⟨g, (off + (k - 1) * 6), none⟩)), (66, .int .i64 ((k : Int) - 1)), (65, .slice (p) l.length cap), (64, .pointer (some ⟨q, 0, none⟩)), (60, .bool true), (59, .int .i64 ((k : Int) - 1)), (14, .int .i64 ((k : Int) - 1)), (12, .string oth), (10, .pointer (some ⟨q, 0, none⟩)), (11, .pointer (some ⟨r, 0, none⟩)), (9, .bool true), (5, .pointer (some ⟨b38, 0, none⟩)), (6, .pointer (some ⟨b39, 0, none⟩)), (3, .int .i64 n), (0, .slice (p) l.length cap)]) (T := [some (83, .bool true), some (84, .bool true), some (85, .bool true), some (86, .bool false), some (87, .bool false), some (88, .bool false), some (89, undef), some (90, undef), some (91, undef), some (92, undef), some (93, undef), some (94, undef), some (95, undef), some (96, undef), some (97, undef), some (98, .bool false)]) (M := fun _ wm => Fr (fun _ => False) w1 wm) (by kernel_rfl) (by kernel_rfl) (by kernel_rfl) (E.of ⟨E.get 0 rfl, E.get 1 rfl, E.get 2 rfl, E.get 3 rfl, E.get 4 rfl, E.get 5 rfl, E.get 6 rfl, E.get 7 rfl, E.get 8 rfl, E.get 9 rfl, E.get 10 rfl, E.get 11 rfl, E.get 12 rfl, E.get 13 rfl, E.get 14 rfl, E.get 15 rfl, E.get 16 rfl, E.get 17 rfl, E.get 18 rfl, E.get 19 rfl, E.get 20 rfl, E.get 21 rfl, E.get 22 rfl, E.get 23 rfl, E.get 24 rfl, E.get 25 rfl, E.get 26 rfl, E.get 27 rfl, E.get 28 rfl, E.get 29 rfl, E.get 30 rfl, E.get 31 rfl, E.get 32 rfl, E.get 33 rfl, E.get 34 rfl, trivial⟩) (Fr.refl _ _).drew ?_ ?_
              · intro j9 o9 t9 ls9 a w5 ho hT0 hl E D DL hM
                have hs := hs.fr hM (fun _ _ h => h)
                have hcb38 := hcb38.fr hM
                have hkb39 := hkb39.fr hM
                have hX := Xx.fr hX hM (fun _ _ h => h)
                have hrow := fun j u hu => hM.cell (hrow j u hu) (fun h => h)
                have hcb54 := hcb54.fr hM
                have hcb56 := hcb56.fr hM
                match j9, ho, hT0, hl, D, DL with
                | 0, ho, hT0, hl, D, DL =>
                  obtain rfl := Option.some.inj ho
                  obtain rfl := Option.some.inj hT0
                  clear ho hT0
                  exact ⟨fun _ => val_wp (run_move rfl (E.get 12 rfl)) rfl hM, fun h => by rw [wanted_none rfl] at h; cases h⟩
                | 1, ho, hT0, hl, D, DL =>
                  obtain rfl := Option.some.inj ho
                  obtain rfl := Option.some.inj hT0
                  clear ho hT0
                  exact ⟨fun _ => val_wp (run_move rfl (D 0 _ rfl rfl)) rfl hM, fun h => by rw [wanted_none rfl] at h; cases h⟩
                | 2, ho, hT0, hl, D, DL =>
                  obtain rfl := Option.some.inj ho
                  obtain rfl := Option.some.inj hT0
                  clear ho hT0
                  exact ⟨fun _ => val_wp (run_move rfl (E.get 0 rfl)) rfl hM, fun h => by rw [w_yes (g := 1) (s := 84) (b := true) E rfl rfl (by decide) (D 1 _ rfl rfl)] at h; cases h⟩
                | 3, ho, hT0, hl, D, DL =>
                  obtain rfl := Option.some.inj ho
                  obtain rfl := Option.some.inj hT0
                  clear ho hT0
                  exact ⟨fun _ => val_wp (run_not rfl (D 2 _ rfl rfl)) rfl hM, fun h => by rw [w_yes (g := 1) (s := 84) (b := true) E rfl rfl (by decide) (D 1 _ rfl rfl)] at h; cases h⟩
                | 4, ho, hT0, hl, D, DL =>
                  obtain rfl := Option.some.inj ho
                  obtain rfl := Option.some.inj hT0
                  clear ho hT0
                  exact ⟨fun _ => val_wp (run_pick_t rfl (D 1 _ rfl rfl) (D 3 _ rfl rfl)) rfl hM, fun h => by rw [wanted_none rfl] at h; cases h⟩
                | 5, ho, hT0, hl, D, DL =>
                  obtain rfl := Option.some.inj ho
                  obtain rfl := Option.some.inj hT0
                  clear ho hT0
                  exact ⟨fun _ => val_wp (run_move rfl (D 4 _ rfl rfl)) rfl hM, fun h => by rw [wanted_none rfl] at h; cases h⟩
                | 6, ho, hT0, hl, D, DL =>
                  obtain rfl := Option.some.inj ho
                  obtain rfl := Option.some.inj hT0
                  clear ho hT0
                  exact ⟨fun h => (by rw [w_no (g := 5) (s := 88) (b := true) E rfl rfl (by decide) (D 5 _ rfl rfl)] at h; cases h), fun _ => ⟨fun x hx => by cases hx; rfl, hM⟩⟩
                | 7, ho, hT0, hl, D, DL =>
                  obtain rfl := Option.some.inj ho
                  obtain rfl := Option.some.inj hT0
                  clear ho hT0
                  exact ⟨fun h => (by rw [w_no (g := 5) (s := 88) (b := true) E rfl rfl (by decide) (D 5 _ rfl rfl)] at h; cases h), fun _ => ⟨fun x hx => by cases hx; rfl, hM⟩⟩
                | 8, ho, hT0, hl, D, DL =>
                  obtain rfl := Option.some.inj ho
                  obtain rfl := Option.some.inj hT0
                  clear ho hT0
                  exact ⟨fun h => (by rw [w_no (g := 5) (s := 88) (b := true) E rfl rfl (by decide) (D 5 _ rfl rfl)] at h; cases h), fun _ => ⟨fun x hx => by cases hx; rfl, hM⟩⟩
                | 9, ho, hT0, hl, D, DL =>
                  obtain rfl := Option.some.inj ho
                  obtain rfl := Option.some.inj hT0
                  clear ho hT0
                  exact ⟨fun h => (by rw [w_no (g := 5) (s := 88) (b := true) E rfl rfl (by decide) (D 5 _ rfl rfl)] at h; cases h), fun _ => ⟨fun x hx => by cases hx; rfl, hM⟩⟩
                | 10, ho, hT0, hl, D, DL =>
                  obtain rfl := Option.some.inj ho
                  obtain rfl := Option.some.inj hT0
                  clear ho hT0
                  exact ⟨fun h => (by rw [w_no (g := 5) (s := 88) (b := true) E rfl rfl (by decide) (D 5 _ rfl rfl)] at h; cases h), fun _ => ⟨fun x hx => by cases hx; rfl, hM⟩⟩
                | 11, ho, hT0, hl, D, DL =>
                  obtain rfl := Option.some.inj ho
                  obtain rfl := Option.some.inj hT0
                  clear ho hT0
                  exact ⟨fun h => (by rw [w_no (g := 5) (s := 88) (b := true) E rfl rfl (by decide) (D 5 _ rfl rfl)] at h; cases h), fun _ => ⟨fun x hx => by cases hx; rfl, hM⟩⟩
                | 12, ho, hT0, hl, D, DL =>
                  obtain rfl := Option.some.inj ho
                  obtain rfl := Option.some.inj hT0
                  clear ho hT0
                  exact ⟨fun h => (by rw [w_no (g := 5) (s := 88) (b := true) E rfl rfl (by decide) (D 5 _ rfl rfl)] at h; cases h), fun _ => ⟨fun x hx => by cases hx; rfl, hM⟩⟩
                | 13, ho, hT0, hl, D, DL =>
                  obtain rfl := Option.some.inj ho
                  obtain rfl := Option.some.inj hT0
                  clear ho hT0
                  exact ⟨fun h => (by rw [w_no (g := 5) (s := 88) (b := true) E rfl rfl (by decide) (D 5 _ rfl rfl)] at h; cases h), fun _ => ⟨fun x hx => by cases hx; rfl, hM⟩⟩
                | 14, ho, hT0, hl, D, DL =>
                  obtain rfl := Option.some.inj ho
                  obtain rfl := Option.some.inj hT0
                  clear ho hT0
                  exact ⟨fun h => (by rw [w_no (g := 5) (s := 88) (b := true) E rfl rfl (by decide) (D 5 _ rfl rfl)] at h; cases h), fun _ => ⟨fun x hx => by cases hx; rfl, hM⟩⟩
                | 15, ho, hT0, hl, D, DL =>
                  obtain rfl := Option.some.inj ho
                  obtain rfl := Option.some.inj hT0
                  clear ho hT0
                  exact ⟨fun _ => val_wp (run_pick_f rfl (D 5 _ rfl rfl) rfl) rfl hM, fun h => by rw [wanted_none rfl] at h; cases h⟩
                | j9 + 16, ho, hT0, hl, D, DL => exact absurd hT0 (by simp)
              · intro a w5 E V hM
                have E := E.add (V 15 _ rfl)
                clear V
                have hs := hs.fr hM (fun _ _ h => h)
                have hcb38 := hcb38.fr hM
                have hkb39 := hkb39.fr hM
                have hX := Xx.fr hX hM (fun _ _ h => h)
                have hrow := fun j u hu => hM.cell (hrow j u hu) (fun h => h)
                have hcb54 := hcb54.fr hM
                have hcb56 := hcb56.fr hM
                have hf := hf.trans hM
                clear hM
                refine then_n ?_
                refine wp_cond_false (E.get 0 rfl) ?_
                refine wp_skip ?_
                refine blk_n ?_
                refine then_n ?_
                refine wp_region_lit ?_
                refine env_put (d := 61) (v := .int .i64 ((k : Int) - 1)) E rfl (by decide) rfl (wanted_none rfl _) (run_move rfl (E.get 27 rfl)) fun a E => ?_
                refine env_put (d := 62) (v := .int .i64 (((k : Int) - 1) - 1)) E rfl (by decide) rfl (wanted_none rfl _) (run_isub Try.underlying3 (E.get 0 rfl) rfl (by omega) (by omega) rfl) fun a E => ?_
                refine env_set (d := 14) (v := .int .i64 (((k : Int) - 1) - 1)) E rfl (by decide) (wanted_none rfl _) (run_assign rfl (E.get 0 rfl)) fun a E => ?_
                refine wpList_nil ?_
                refine then_n ?_
                have hk1 : ((k - 1 : Nat) : Int) = (k : Int) - 1 := by omega
                rw [← hk1] at E
                refine ⟨⟨k - 1, _, _, _, E.of ⟨E.get 0 rfl, E.get 30 rfl, E.get 31 rfl, E.get 32 rfl, E.get 33 rfl, E.get 34 rfl, E.get 35 rfl, E.get 36 rfl, E.get 37 rfl, trivial⟩, by omega, by omega, hX, hB3, hs, hf, hcb38, hkb39⟩, ?_⟩
                rw [E.get 0 rfl]; simp only [intOf]; omega
      | true =>
        rw [hq44] at E
        have hlt : i < l.length := by have := of_decide_eq_true hq44; omega
        obtain ⟨y, hy⟩ : ∃ y, l[i]? = some y := ⟨_, List.getElem?_eq_getElem hlt⟩
        obtain ⟨g, off, hpe, hgl, hrow⟩ := hs.at hlt
        replace hrow := hrow _ y hy
        have hszy := shB.id hsh80 y (List.mem_of_getElem? hy)
        have hszl : (oth ++ y.2.1).size ≤ maxLen := by rw [ByteArray.size_append]; unfold maxLen; omega
        have hszm : y.2.1.size ≤ maxLen := by unfold maxLen; omega
        refine wp_cond_true (E.get 0 rfl) ?_
        refine wp_skip ?_
        refine then_n ?_
        refine wp_seq ?_
        refine wp_block ?_
        refine wp_region_invx (G := Unit) () (n := 135) (base := [(13, .int .i64 (i : Int)), (12, .string oth), (10, .pointer (some ⟨q, 0, none⟩)), (11, .pointer (some ⟨r, 0, none⟩)), (9, .bool true), (5, .pointer (some ⟨b38, 0, none⟩)), (6, .pointer (some ⟨b39, 0, none⟩)), (3, .int .i64 n), (0, .slice (p) l.length cap)]) (U := []) (T := fun γ => [some (39, .pointer (some ⟨r, 0, none⟩)), some (40, .string oth), some (41, .slice (p) l.length cap), some (42, .int .i64 (i : Int)), some (43, .pointer (some ⟨g, (off + i * 6), none⟩)), some (44, .pointer (some ⟨g, (off + i * 6 + 1), none⟩)), some (45, .string y.2.1), some (46, .string (oth ++ y.2.1)), some (47, .slice (p) l.length cap), some (48, .int .i64 (i : Int)), some (49, .pointer (some ⟨g, (off + i * 6), none⟩)), some (50, .pointer (some ⟨g, (off + i * 6 + 2), none⟩)), some (51, .agg (bxC y.2.2)), some (52, .int .i64 (putE my (oth ++ y.2.1) y.2.2))]) (M := fun γ ls9 wm => (ls9 13 = false → Fr (fun _ => False) w2 wm) ∧ (ls9 13 = true → ∃ U9, XxS w2 w.heap.size q l.length m r (i + 1) (putM my (oth ++ y.2.1) y.2.2) U U9 wm)) (by kernel_rfl) (by kernel_rfl) (fun _ => by kernel_rfl) (E.of ⟨E.get 4 rfl, E.get 5 rfl, E.get 6 rfl, E.get 7 rfl, E.get 8 rfl, E.get 9 rfl, E.get 10 rfl, E.get 11 rfl, E.get 12 rfl, trivial⟩) (fun x hx => by cases hx) ⟨fun _ => (Fr.refl _ _).drew, fun e => absurd e Bool.false_ne_true⟩ ?_ ?_
        · intro j9 o9 γ ls9 a w5 ho hl E D DL DL2 hB9 hM
          obtain ⟨m1, m2⟩ := hM
          match j9, ho, hl, D, DL, hB9 with
          | 0, ho, hl, D, DL, hB9 =>
            obtain rfl := Option.some.inj ho
            exact ⟨fun _ => valx rfl (run_move rfl (E.get 3 rfl)) rfl ⟨m1, m2⟩, fun h => by rw [wanted_none rfl] at h; cases h⟩
          | 1, ho, hl, D, DL, hB9 =>
            obtain rfl := Option.some.inj ho
            exact ⟨fun _ => valx rfl (run_move rfl (E.get 1 rfl)) rfl ⟨m1, m2⟩, fun h => by rw [wanted_none rfl] at h; cases h⟩
          | 2, ho, hl, D, DL, hB9 =>
            obtain rfl := Option.some.inj ho
            exact ⟨fun _ => valx rfl (run_move rfl (E.get 8 rfl)) rfl ⟨m1, m2⟩, fun h => by rw [wanted_none rfl] at h; cases h⟩
          | 3, ho, hl, D, DL, hB9 =>
            obtain rfl := Option.some.inj ho
            exact ⟨fun _ => valx rfl (run_move rfl (E.get 0 rfl)) rfl ⟨m1, m2⟩, fun h => by rw [wanted_none rfl] at h; cases h⟩
          | 4, ho, hl, D, DL, hB9 =>
            obtain rfl := Option.some.inj ho
            exact ⟨fun _ => valx rfl (run_index22z (i := i) rfl rfl ((D 2 _ rfl rfl).trans (by rw [hpe])) (D 3 _ rfl rfl) hlt) rfl ⟨m1, m2⟩, fun h => by rw [wanted_none rfl] at h; cases h⟩
          | 5, ho, hl, D, DL, hB9 =>
            obtain rfl := Option.some.inj ho
            exact ⟨fun _ => valx rfl (fa35_1 rfl (D 4 _ rfl rfl)) rfl ⟨m1, m2⟩, fun h => by rw [wanted_none rfl] at h; cases h⟩
          | 6, ho, hl, D, DL, hB9 =>
            have n13 : ls9 13 = false := by
              cases h8 : ls9 13 with
              | false => rfl
              | true => exact absurd (hl.symm.trans (DL2 7 6 rfl (DL2 13 7 rfl h8))) (by decide)
            have hrow5 : w5.rangeAt g (off + i * 6) (opL y) := fun j u hu => (m1 n13).cell (hrow j u hu) (fun h => h)
            obtain rfl := Option.some.inj ho
            exact ⟨fun _ => valx rfl (run_lds rfl (D 5 _ rfl rfl) (hrow5 1 _ rfl)) rfl ⟨m1, m2⟩, fun h => by rw [wanted_none rfl] at h; cases h⟩
          | 7, ho, hl, D, DL, hB9 =>
            obtain rfl := Option.some.inj ho
            exact ⟨fun _ => valx rfl (run_sadd (D 1 _ rfl rfl) (D 6 _ rfl rfl) (by omega) rfl) rfl ⟨m1, m2⟩, fun h => by rw [wanted_none rfl] at h; cases h⟩
          | 8, ho, hl, D, DL, hB9 =>
            obtain rfl := Option.some.inj ho
            exact ⟨fun _ => valx rfl (run_move rfl (E.get 8 rfl)) rfl ⟨m1, m2⟩, fun h => by rw [wanted_none rfl] at h; cases h⟩
          | 9, ho, hl, D, DL, hB9 =>
            obtain rfl := Option.some.inj ho
            exact ⟨fun _ => valx rfl (run_move rfl (E.get 0 rfl)) rfl ⟨m1, m2⟩, fun h => by rw [wanted_none rfl] at h; cases h⟩
          | 10, ho, hl, D, DL, hB9 =>
            obtain rfl := Option.some.inj ho
            exact ⟨fun _ => valx rfl (run_index22z (i := i) rfl rfl ((D 8 _ rfl rfl).trans (by rw [hpe])) (D 9 _ rfl rfl) hlt) rfl ⟨m1, m2⟩, fun h => by rw [wanted_none rfl] at h; cases h⟩
          | 11, ho, hl, D, DL, hB9 =>
            obtain rfl := Option.some.inj ho
            exact ⟨fun _ => valx rfl (fa35_2 rfl (D 10 _ rfl rfl)) rfl ⟨m1, m2⟩, fun h => by rw [wanted_none rfl] at h; cases h⟩
          | 12, ho, hl, D, DL, hB9 =>
            have n13 : ls9 13 = false := by
              cases h8 : ls9 13 with
              | false => rfl
              | true => exact absurd (hl.symm.trans (DL2 13 12 rfl h8)) (by decide)
            have hrow5 : w5.rangeAt g (off + i * 6) (opL y) := fun j u hu => (m1 n13).cell (hrow j u hu) (fun h => h)
            obtain rfl := Option.some.inj ho
            exact ⟨fun _ => valx rfl (run_ld26 rfl (D 11 _ rfl rfl) (op_bx hrow5)) rfl ⟨m1, m2⟩, fun h => by rw [wanted_none rfl] at h; cases h⟩
          | 13, ho, hl, D, DL, hB9 =>
            have hX5 := hX.fr (m1 hl) (fun _ _ h => h)
            obtain rfl := Option.some.inj ho
            refine ⟨fun _ => callx rfl (run_call3 (enters_of Try.func29 (by kernel_rfl) rfl) rfl rfl (D 0 _ rfl rfl) (D 7 _ rfl rfl) (D 12 _ rfl rfl)) ((xx_put hX5.swap (by omega) (oth ++ y.2.1) hszl y.2.2).mono fun e w8 h => ⟨h.1, h.2⟩) rfl fun w9 f9 => ?_, fun h => by rw [wanted_none rfl] at h; cases h⟩
            obtain ⟨U9, k1, k2, k3⟩ := f9
            exact ⟨fun h => by simp at h, fun _ => ⟨U9, k1.swap, ((m1 hl).mono fun _ _ h => h.elim).trans k2, fun k hk => by rcases k3 k hk with h | h; exact .inl h; exact .inr (by have := (m1 hl).size; omega)⟩⟩
          | j9 + 14, ho, hl, D, DL, hB9 => exact absurd ho (by simp)
        · rintro _ a wd E V hM
          clear V
          obtain ⟨_, m2⟩ := hM
          obtain ⟨U2, hX2, f2, ht⟩ := m2 rfl
          clear m2
          have hcb38 := hcb38.q f2 ht
          have hkb39 := hkb39.q f2 ht
          have hrow := fun j u hu => f2.cell (hrow j u hu) (fun e => by have := (hX.lt _ e).1; simp only at this; omega)
          have hs := hs.fr f2 (fun r hr e => by have := (hX.lt r e).1; omega)
          have hf := hf.trans' f2 (fun r hr e => by have := (hX.lt r e).1; omega)
          have hX := hX2
          clear hX2 f2 ht
          obtain ⟨hA2, h02⟩ := hA.put hoth h0 hy y.2.2
          refine blk_n ?_
          refine then_n ?_
          refine wp_region_lit ?_
          refine env_put (d := 37) (v := .int .i64 (i : Int)) E rfl (by decide) rfl (wanted_none rfl _) (run_move rfl (E.get 0 rfl)) fun a E => ?_
          refine env_put (d := 38) (v := .int .i64 ((i : Int) + 1)) E rfl (by decide) rfl (wanted_none rfl _) (run_iadd Try.underlying3 (E.get 0 rfl) rfl (by omega) (by omega) rfl) fun a E => ?_
          refine env_set (d := 13) (v := .int .i64 ((i : Int) + 1)) E rfl (by decide) (wanted_none rfl _) (run_assign rfl (E.get 0 rfl)) fun a E => ?_
          refine wpList_nil ?_
          refine then_n ?_
          refine ⟨⟨i + 1, _, _, E.of ⟨E.get 0 rfl, E.get 3 rfl, E.get 4 rfl, E.get 5 rfl, E.get 6 rfl, E.get 7 rfl, E.get 8 rfl, E.get 9 rfl, E.get 10 rfl, trivial⟩, by omega, hX, hA2, h02, hs, hf, hcb38, hkb39⟩, ?_⟩
          rw [E.get 0 rfl]; simp only [intOf]; omega
    | true =>
      rw [hq42] at E
      have ho2 : oth.size < 101 := by have := of_decide_eq_true hq42; omega
      refine wp_cond_true (E.get 0 rfl) ?_
      refine wp_skip ?_
      refine then_n ?_
      refine wp_block ?_
      refine wp_region_lit ?_
      refine env_put (d := 31) (v := .string oth) E rfl (by decide) rfl (wanted_none rfl _) (run_move rfl (E.get 3 rfl)) fun a E => ?_
      refine env_put (d := 32) (v := .string (oth ++ (⟨#[43]⟩ : ByteArray))) E rfl (by decide) rfl (wanted_none rfl _) (run_sadd (E.get 0 rfl) rfl (by have h9 : (⟨#[43]⟩ : ByteArray).size = 1 := rfl; omega) rfl) fun a E => ?_
      refine env_set (d := 12) (v := .string (oth ++ (⟨#[43]⟩ : ByteArray))) E rfl (by decide) (wanted_none rfl _) (run_assign rfl (E.get 0 rfl)) fun a E => ?_
      refine wpList_nil ?_
      refine blk_n ?_
      refine then_n ?_
      refine ⟨⟨oth ++ ⟨#[43]⟩, U, E.of ⟨E.get 0 rfl, E.get 6 rfl, E.get 7 rfl, E.get 8 rfl, E.get 9 rfl, E.get 10 rfl, E.get 11 rfl, E.get 12 rfl, trivial⟩, by rw [ByteArray.size_append, h91]; omega, hX, hs, hf, hcb38, hkb39⟩, ?_⟩
      rw [E.get 0 rfl]; show 101 - (oth ++ _).size < 101 - oth.size; rw [ByteArray.size_append, h91]; omega
end Go.Proofs.Ytcafnanbdmapgaa
