/- The reference lineage: put. -/
import Derived.Test.YtcolfgnjmnapkaaRp
set_option linter.unusedVariables false
set_option linter.unusedSimpArgs false
namespace Go.Proofs.Ytcolfgnjmnapkaa
open Go.RowKit Go.Pl

section
variable {O : Array Oper} {Q : Exit → Act → World → Prop} {rest : List Oper} {o : Oper} {a : Act} {w : World} {n d : Nat} {Ls : List (Nat × Value)} {x y : Operand}
theorem env_drop33 {G : Nat} {p : Option Addr} {L : List ByteArray} {cap i : Nat} (En : Env n Ls a) (hd : o.dst = some d) (hn : d < n) (hf : (Ls.map (·.1)).contains d = false) (hw : Region.wanted o (yielded O a.tmps) = true) (ho : o.op = .slice 33 x (some y) none none) (hx : a.eval x = .slice p L.length cap) (hy : a.eval y = .int .i64 i) (hs : srcAt strC 1 w G p L) (hz : p = none → cap = 0) (hle : L.length ≤ cap) (hi : i ≤ L.length)
    (k : ∀ a' p' c', srcAt strC 1 w G p' (L.drop i) → (p' = none → c' = 0) → Env n ((d, .slice p' (L.drop i).length c') :: Ls) a' → wpList Try.prog O Q rest a' w) : wpList Try.prog O Q (o :: rest) a w := by
  obtain ⟨p', c', h1, h2, h3⟩ := src_drop hs hz hle hi ho hx hy
  exact env_put En hd hn hf hw h1 fun a' E' => k a' p' c' h2 h3 E'
end
set_option maxRecDepth 100000 in
set_option maxHeartbeats 4000000 in
theorem rput_calls {w : World} {G cap : Nat} {p : Option Addr} {L : List ByteArray} (hs : srcAt strC 1 w G p L) (hz : p = none → cap = 0) (hle : L.length ≤ cap) (hG : G ≤ w.heap.size) (hb : L.length ≤ 100000) (s0 : ByteArray) : Calls Try.prog 38 #[.slice p L.length cap, .string s0] w fun e w' => ∃ v, e = .returned v ∧ oStr w' w.heap.size v (putL L s0) ∧ Fr (fun _ => False) w w' := by
  refine wp_start2 Try.func38 rfl rfl (n := 34) (by decide) fun a E => ?_
  have hf : Fr (fun _ => False) w w := Fr.refl _ _
  refine wp_seq ?_
  refine wp_region_lit ?_
  refine env_put (d := 4) (v := .slice none 0 0) E rfl (by decide) rfl (wanted_none rfl _) (run_assign rfl rfl) fun a E => ?_
  refine wpList_nil ?_
  refine then_n ?_
  refine wp_seq ?_
  refine wp_region_lit ?_
  refine env_put (d := 5) (v := .int .i64 0) E rfl (by decide) rfl (wanted_none rfl _) (run_assign rfl rfl) fun a E => ?_
  refine wpList_nil ?_
  refine then_n ?_
  refine wp_seq ?_
  refine wp_block ?_
  refine wp_loop (fun a w2 => ∃ (i : Nat), Env 34 [(5, .int .i64 (i : Int)), (0, .slice (p) L.length cap), (1, .string s0)] a ∧ i ≤ L.length ∧ Hid (∀ (t : Nat) (z : ByteArray), t < i → L[t]? = some z → Op.bytesLess z.toList s0.toList = true) ∧ srcAt strC 1 w2 G p L ∧ Fr (fun _ => False) w w2) (fun a _ => L.length - (intOf (a.eval (.tmp 5))).toNat) ?_ ?_
  · exact ⟨0, E.of ⟨E.get 0 rfl, E.get 2 rfl, E.get 3 rfl, trivial⟩, Nat.zero_le _, fun t z h => absurd h (Nat.not_lt_zero _), hs, hf⟩
  clear E
  rintro a w2 ⟨i, E, hi, hpre, hs, hf⟩
  have hmu : L.length - (intOf (a.eval (.tmp 5))).toNat = L.length - i := by rw [E.get 0 rfl]; first | (simp [intOf]; done) | (simp only [intOf]; omega)
  rw [hmu]
  clear hmu
  refine wp_seq ?_
  refine wp_seq ?_
  refine wp_region_lit ?_
  refine env_put (d := 7) (v := .int .i64 (i : Int)) E rfl (by decide) rfl (wanted_none rfl _) (run_move rfl (E.get 0 rfl)) fun a E => ?_
  refine env_put (d := 8) (v := .slice (p) L.length cap) E rfl (by decide) rfl (wanted_none rfl _) (run_move rfl (E.get 2 rfl)) fun a E => ?_
  refine env_put (d := 9) (v := .int .i64 (L.length : Int)) E rfl (by decide) rfl (wanted_none rfl _) (run_len33 rfl (E.get 0 rfl)) fun a E => ?_
  refine env_put (d := 10) (v := .bool (decide ((i : Int) < (L.length : Int)))) E rfl (by decide) rfl (wanted_none rfl _) (run_ilss (E.get 2 rfl) (E.get 0 rfl) Try.underlying3 rfl) fun a E => ?_
  refine env_put (d := 11) (v := .bool (decide ((i : Int) < (L.length : Int)))) E rfl (by decide) rfl (wanted_none rfl _) (run_move rfl (E.get 0 rfl)) fun a E => ?_
  cases hq2 : (decide ((i : Int) < (L.length : Int))) with
  | false =>
    rw [hq2] at E
    refine env_skip (d := 12) (g := 4) (s := 11) E rfl (by decide) rfl rfl rfl (by decide) (E.get 0 rfl) fun a E => ?_
    refine env_skip (d := 13) (g := 4) (s := 11) E rfl (by decide) rfl rfl rfl (by decide) (E.get 1 rfl) fun a E => ?_
    refine env_skip (d := 14) (g := 4) (s := 11) E rfl (by decide) rfl rfl rfl (by decide) (E.get 2 rfl) fun a E => ?_
    refine env_skip (d := 15) (g := 4) (s := 11) E rfl (by decide) rfl rfl rfl (by decide) (E.get 3 rfl) fun a E => ?_
    refine env_skip (d := 16) (g := 4) (s := 11) E rfl (by decide) rfl rfl rfl (by decide) (E.get 4 rfl) fun a E => ?_
    refine env_skip (d := 17) (g := 4) (s := 11) E rfl (by decide) rfl rfl rfl (by decide) (E.get 5 rfl) fun a E => ?_
    refine env_put (d := 18) (v := .bool false) E rfl (by decide) rfl (wanted_none rfl _) (run_pick_f rfl (E.get 6 rfl) rfl) fun a E => ?_
    refine wpList_nil ?_
    refine then_n ?_
    refine wp_cond_false (E.get 0 rfl) ?_
    refine wp_exit ?_
    refine then_e ?_
    refine then_e ?_
    refine blk_e ?_
    refine then_n ?_
    refine wp_seq ?_
    have hput := putL_of (s := s0) hpre.out (.inl (by have := of_decide_eq_false hq2; omega))
    obtain ⟨B, hB⟩ : ∃ B, B = w2.heap.size := ⟨_, rfl⟩
    have hBs : B ≤ w2.heap.size := by omega
    have hBw : w.heap.size ≤ B := by have := hf.size; omega
    have hs := hs.mono (G' := B) (by have := hf.size; omega)
    refine wp_region_lit ?_
    refine env_put (d := 21) (v := .string s0) E rfl (by decide) rfl (wanted_none rfl _) (run_move rfl (E.get 14 rfl)) fun a E => ?_
    refine env_one33 (d := 22) E rfl (by decide) rfl (wanted_none rfl _) rfl (E.get 0 rfl) fun a w1 b1 eb1 hb1 f1 E => ?_
    have hO := ow_one33 (B := B) hb1 (by omega)
    clear eb1 hb1
    have hs := hs.fr f1 (fun _ _ h => h)
    have hBs := Nat.le_trans hBs f1.size
    have hf := hf.trans f1
    clear f1
    refine env_put (d := 23) (v := .slice (p) L.length cap) E rfl (by decide) rfl (wanted_none rfl _) (run_move rfl (E.get 15 rfl)) fun a E => ?_
    refine env_put (d := 24) (v := .int .i64 (i : Int)) E rfl (by decide) rfl (wanted_none rfl _) (run_move rfl (E.get 15 rfl)) fun a E => ?_
    refine env_drop33 (d := 25) E rfl (by decide) rfl (wanted_none rfl _) rfl (E.get 1 rfl) (E.get 0 rfl) hs hz hle hi fun a pd cd hsd hzd E => ?_
    refine env_app33 (d := 26) E rfl (by decide) rfl rfl rfl (E.get 3 rfl) hO (E.get 0 rfl) hsd hzd (by simp only [List.length_append, List.length_cons, List.length_nil, List.length_take, List.length_drop]; omega) hBs fun a w1 ov3 hO2 f1 hloc E => ?_
    have hs := hs.fr f1 (fun r hr e => by have := (hO.lt e).1; omega)
    have hBs := Nat.le_trans hBs f1.size
    have hsd := hsd.fr f1 (fun r hr e => by have := (hO.lt e).1; omega)
    have hf := hf.trans' f1 (fun r hr e => by have := (hO.lt e).1; omega)
    clear f1
    replace hO := hO2
    clear hloc
    refine env_put (d := 6) (v := ov3) E rfl (by decide) rfl (wanted_none rfl _) (run_assign rfl (E.get 0 rfl)) fun a E => ?_
    refine wpList_nil ?_
    refine then_n ?_
    refine wp_seq ?_
    obtain ⟨p6, c6, hv6, _, _, hs6, hz6⟩ := hO.src strC_len
    subst hv6
    obtain ⟨B2, hB2⟩ : ∃ B2, B2 = w1.heap.size := ⟨_, rfl⟩
    rw [← hB2] at hs6
    have hs := hs.mono (G' := B2) (by omega)
    have hBw : w.heap.size ≤ B2 := by omega
    have hBs : B2 ≤ w1.heap.size := by omega
    clear hO hB hB2
    generalize B2 = B at hs hs6 hBs hBw
    refine wp_region_lit ?_
    refine env_emp33 (B := B) (d := 27) E rfl (by decide) rfl (wanted_none rfl _) rfl hBs fun a w1 b4 eb4 hO f1 E => ?_
    have hs := hs.fr f1 (fun _ _ h => h)
    have hBs := Nat.le_trans hBs f1.size
    have hs6 := hs6.fr f1 (fun _ _ h => h)
    have hf := hf.trans f1
    clear f1
    refine env_put (d := 28) (v := .slice (p) L.length cap) E rfl (by decide) rfl (wanted_none rfl _) (run_move rfl (E.get 21 rfl)) fun a E => ?_
    refine env_put (d := 29) (v := .int .i64 (i : Int)) E rfl (by decide) rfl (wanted_none rfl _) (run_move rfl (E.get 21 rfl)) fun a E => ?_
    have hst := hs.take i
    refine env_put (d := 30) (v := .slice (p) (L.take i).length cap) E rfl (by decide) rfl (wanted_none rfl _) ((run_shi33 rfl (E.get 1 rfl) (E.get 0 rfl) (by omega)).trans (by rw [List.length_take, Nat.min_eq_left hi])) fun a E => ?_
    refine env_app33 (d := 31) E rfl (by decide) rfl rfl rfl (E.get 3 rfl) hO (E.get 0 rfl) hst hz (by simp only [List.length_append, List.length_cons, List.length_nil, List.length_take, List.length_drop]; omega) hBs fun a w1 ov5 hO2 f1 hloc E => ?_
    have hs := hs.fr f1 (fun r hr e => by have := (hO.lt e).1; omega)
    have hBs := Nat.le_trans hBs f1.size
    have hs6 := hs6.fr f1 (fun r hr e => by have := (hO.lt e).1; omega)
    have hst := hst.fr f1 (fun r hr e => by have := (hO.lt e).1; omega)
    have hf := hf.trans' f1 (fun r hr e => by have := (hO.lt e).1; omega)
    clear f1
    replace hO := hO2
    clear hloc
    refine env_put (d := 32) (v := .slice (p6) ([s0] ++ L.drop i).length c6) E rfl (by decide) rfl (wanted_none rfl _) (run_move rfl (E.get 5 rfl)) fun a E => ?_
    refine env_app33 (d := 33) E rfl (by decide) rfl rfl rfl (E.get 1 rfl) hO (E.get 0 rfl) hs6 hz6 (by simp only [List.length_append, List.length_cons, List.length_nil, List.length_take, List.length_drop]; omega) hBs fun a w1 ov6 hO2 f1 hloc E => ?_
    have hs := hs.fr f1 (fun r hr e => by have := (hO.lt e).1; omega)
    have hBs := Nat.le_trans hBs f1.size
    have hs6 := hs6.fr f1 (fun r hr e => by have := (hO.lt e).1; omega)
    have hst := hst.fr f1 (fun r hr e => by have := (hO.lt e).1; omega)
    have hf := hf.trans' f1 (fun r hr e => by have := (hO.lt e).1; omega)
    clear f1
    replace hO := hO2
    clear hloc
    refine env_put (d := 4) (v := ov6) E rfl (by decide) rfl (wanted_none rfl _) (run_assign rfl (E.get 0 rfl)) fun a E => ?_
    refine wpList_nil ?_
    refine then_n ?_
    refine wp_ret ?_
    refine ret_tmp (t := 4) rfl E (E.get 0 rfl) ⟨_, rfl, ?_, hf⟩
    rw [hput]
    exact hO.base hBw
  | true =>
    rw [hq2] at E
    have hlt : i < L.length := by have := of_decide_eq_true hq2; omega
    obtain ⟨y, hy⟩ : ∃ y, L[i]? = some y := ⟨_, List.getElem?_eq_getElem hlt⟩
    obtain ⟨g, off, hpe, hgl, hrow⟩ := hs.at hlt
    replace hrow := hrow i y hy
    refine env_put (d := 12) (v := .slice (p) L.length cap) E rfl (by decide) rfl (w_yes (g := 4) (s := 11) E rfl rfl (by decide) (E.get 0 rfl)) (run_move rfl (E.get 6 rfl)) fun a E => ?_
    refine env_put (d := 13) (v := .int .i64 (i : Int)) E rfl (by decide) rfl (w_yes (g := 4) (s := 11) E rfl rfl (by decide) (E.get 1 rfl)) (run_move rfl (E.get 6 rfl)) fun a E => ?_
    refine env_put (d := 14) (v := .pointer (some ⟨g, (off + i), none⟩)) E rfl (by decide) rfl (w_yes (g := 4) (s := 11) E rfl rfl (by decide) (E.get 2 rfl)) (run_index33 (i := i) rfl ((E.get 1 rfl).trans (by rw [hpe])) (E.get 0 rfl) hlt) fun a E => ?_
    refine env_put (d := 15) (v := .string y) E rfl (by decide) rfl (w_yes (g := 4) (s := 11) E rfl rfl (by decide) (E.get 3 rfl)) (run_lds rfl (E.get 0 rfl) (by have := hrow 0 _ rfl; rwa [Nat.mul_one] at this)) fun a E => ?_
    refine env_put (d := 16) (v := .string s0) E rfl (by decide) rfl (w_yes (g := 4) (s := 11) E rfl rfl (by decide) (E.get 4 rfl)) (run_move rfl (E.get 11 rfl)) fun a E => ?_
    refine env_put (d := 17) (v := .bool (Op.bytesLess y.toList s0.toList)) E rfl (by decide) rfl (w_yes (g := 4) (s := 11) E rfl rfl (by decide) (E.get 5 rfl)) (run_slss (E.get 1 rfl) (E.get 0 rfl) rfl) fun a E => ?_
    refine env_put (d := 18) (v := .bool (Op.bytesLess y.toList s0.toList)) E rfl (by decide) rfl (wanted_none rfl _) (run_pick_t rfl (E.get 6 rfl) (E.get 0 rfl)) fun a E => ?_
    refine wpList_nil ?_
    refine then_n ?_
    cases hq7 : (Op.bytesLess y.toList s0.toList) with
    | false =>
      rw [hq7] at E
      refine wp_cond_false (E.get 0 rfl) ?_
      refine wp_exit ?_
      refine then_e ?_
      refine then_e ?_
      refine blk_e ?_
      refine then_n ?_
      refine wp_seq ?_
      have hput := putL_of (s := s0) hpre.out (.inr ⟨y, hy, hq7⟩)
      obtain ⟨B, hB⟩ : ∃ B, B = w2.heap.size := ⟨_, rfl⟩
      have hBs : B ≤ w2.heap.size := by omega
      have hBw : w.heap.size ≤ B := by have := hf.size; omega
      have hs := hs.mono (G' := B) (by have := hf.size; omega)
      refine wp_region_lit ?_
      refine env_put (d := 21) (v := .string s0) E rfl (by decide) rfl (wanted_none rfl _) (run_move rfl (E.get 14 rfl)) fun a E => ?_
      refine env_one33 (d := 22) E rfl (by decide) rfl (wanted_none rfl _) rfl (E.get 0 rfl) fun a w1 b1 eb1 hb1 f1 E => ?_
      have hO := ow_one33 (B := B) hb1 (by omega)
      clear eb1 hb1
      have hs := hs.fr f1 (fun _ _ h => h)
      have hBs := Nat.le_trans hBs f1.size
      have hf := hf.trans f1
      clear f1
      refine env_put (d := 23) (v := .slice (p) L.length cap) E rfl (by decide) rfl (wanted_none rfl _) (run_move rfl (E.get 15 rfl)) fun a E => ?_
      refine env_put (d := 24) (v := .int .i64 (i : Int)) E rfl (by decide) rfl (wanted_none rfl _) (run_move rfl (E.get 15 rfl)) fun a E => ?_
      refine env_drop33 (d := 25) E rfl (by decide) rfl (wanted_none rfl _) rfl (E.get 1 rfl) (E.get 0 rfl) hs hz hle hi fun a pd cd hsd hzd E => ?_
      refine env_app33 (d := 26) E rfl (by decide) rfl rfl rfl (E.get 3 rfl) hO (E.get 0 rfl) hsd hzd (by simp only [List.length_append, List.length_cons, List.length_nil, List.length_take, List.length_drop]; omega) hBs fun a w1 ov8 hO2 f1 hloc E => ?_
      have hs := hs.fr f1 (fun r hr e => by have := (hO.lt e).1; omega)
      have hBs := Nat.le_trans hBs f1.size
      have hsd := hsd.fr f1 (fun r hr e => by have := (hO.lt e).1; omega)
      have hf := hf.trans' f1 (fun r hr e => by have := (hO.lt e).1; omega)
      clear f1
      replace hO := hO2
      clear hloc
      refine env_put (d := 6) (v := ov8) E rfl (by decide) rfl (wanted_none rfl _) (run_assign rfl (E.get 0 rfl)) fun a E => ?_
      refine wpList_nil ?_
      refine then_n ?_
      refine wp_seq ?_
      obtain ⟨p6, c6, hv6, _, _, hs6, hz6⟩ := hO.src strC_len
      subst hv6
      obtain ⟨B2, hB2⟩ : ∃ B2, B2 = w1.heap.size := ⟨_, rfl⟩
      rw [← hB2] at hs6
      have hs := hs.mono (G' := B2) (by omega)
      have hBw : w.heap.size ≤ B2 := by omega
      have hBs : B2 ≤ w1.heap.size := by omega
      clear hO hB hB2
      generalize B2 = B at hs hs6 hBs hBw
      refine wp_region_lit ?_
      refine env_emp33 (B := B) (d := 27) E rfl (by decide) rfl (wanted_none rfl _) rfl hBs fun a w1 b9 eb9 hO f1 E => ?_
      have hs := hs.fr f1 (fun _ _ h => h)
      have hBs := Nat.le_trans hBs f1.size
      have hs6 := hs6.fr f1 (fun _ _ h => h)
      have hf := hf.trans f1
      clear f1
      refine env_put (d := 28) (v := .slice (p) L.length cap) E rfl (by decide) rfl (wanted_none rfl _) (run_move rfl (E.get 21 rfl)) fun a E => ?_
      refine env_put (d := 29) (v := .int .i64 (i : Int)) E rfl (by decide) rfl (wanted_none rfl _) (run_move rfl (E.get 21 rfl)) fun a E => ?_
      have hst := hs.take i
      refine env_put (d := 30) (v := .slice (p) (L.take i).length cap) E rfl (by decide) rfl (wanted_none rfl _) ((run_shi33 rfl (E.get 1 rfl) (E.get 0 rfl) (by omega)).trans (by rw [List.length_take, Nat.min_eq_left hi])) fun a E => ?_
      refine env_app33 (d := 31) E rfl (by decide) rfl rfl rfl (E.get 3 rfl) hO (E.get 0 rfl) hst hz (by simp only [List.length_append, List.length_cons, List.length_nil, List.length_take, List.length_drop]; omega) hBs fun a w1 ov10 hO2 f1 hloc E => ?_
      have hs := hs.fr f1 (fun r hr e => by have := (hO.lt e).1; omega)
      have hBs := Nat.le_trans hBs f1.size
      have hs6 := hs6.fr f1 (fun r hr e => by have := (hO.lt e).1; omega)
      have hst := hst.fr f1 (fun r hr e => by have := (hO.lt e).1; omega)
      have hf := hf.trans' f1 (fun r hr e => by have := (hO.lt e).1; omega)
      clear f1
      replace hO := hO2
      clear hloc
      refine env_put (d := 32) (v := .slice (p6) ([s0] ++ L.drop i).length c6) E rfl (by decide) rfl (wanted_none rfl _) (run_move rfl (E.get 5 rfl)) fun a E => ?_
      refine env_app33 (d := 33) E rfl (by decide) rfl rfl rfl (E.get 1 rfl) hO (E.get 0 rfl) hs6 hz6 (by simp only [List.length_append, List.length_cons, List.length_nil, List.length_take, List.length_drop]; omega) hBs fun a w1 ov11 hO2 f1 hloc E => ?_
      have hs := hs.fr f1 (fun r hr e => by have := (hO.lt e).1; omega)
      have hBs := Nat.le_trans hBs f1.size
      have hs6 := hs6.fr f1 (fun r hr e => by have := (hO.lt e).1; omega)
      have hst := hst.fr f1 (fun r hr e => by have := (hO.lt e).1; omega)
      have hf := hf.trans' f1 (fun r hr e => by have := (hO.lt e).1; omega)
      clear f1
      replace hO := hO2
      clear hloc
      refine env_put (d := 4) (v := ov11) E rfl (by decide) rfl (wanted_none rfl _) (run_assign rfl (E.get 0 rfl)) fun a E => ?_
      refine wpList_nil ?_
      refine then_n ?_
      refine wp_ret ?_
      refine ret_tmp (t := 4) rfl E (E.get 0 rfl) ⟨_, rfl, ?_, hf⟩
      rw [hput]
      exact hO.base hBw
    | true =>
      rw [hq7] at E
      refine wp_cond_true (E.get 0 rfl) ?_
      refine wp_skip ?_
      refine then_n ?_
      refine wp_block ?_
      refine wp_region_lit ?_
      refine env_put (d := 19) (v := .int .i64 (i : Int)) E rfl (by decide) rfl (wanted_none rfl _) (run_move rfl (E.get 12 rfl)) fun a E => ?_
      refine env_put (d := 20) (v := .int .i64 ((i : Int) + 1)) E rfl (by decide) rfl (wanted_none rfl _) (run_iadd (E.get 0 rfl) rfl (by omega) (by omega) rfl) fun a E => ?_
      refine env_set (d := 5) (v := .int .i64 ((i : Int) + 1)) E rfl (by decide) (wanted_none rfl _) (run_assign rfl (E.get 0 rfl)) fun a E => ?_
      refine wpList_nil ?_
      refine blk_n ?_
      refine then_n ?_
      refine ⟨⟨i + 1, E.of ⟨E.get 0 rfl, E.get 15 rfl, E.get 16 rfl, trivial⟩, hlt, fun t z ht hz1 => ?_, hs, hf⟩, ?_⟩
      · by_cases hti : t < i
        · exact hpre.out t z hti hz1
        · obtain rfl : t = i := by omega
          rw [hy] at hz1; obtain rfl := Option.some.inj hz1
          exact hq7
      · rw [E.get 0 rfl]; simp only [intOf]; omega
end Go.Proofs.Ytcolfgnjmnapkaa
