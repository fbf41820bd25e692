/- The index: Put. -/
import Derived.Test.YtcafnanbdmapgaaK6
set_option linter.unusedVariables false
set_option linter.unusedSimpArgs false
namespace Go.Proofs.Ytcafnanbdmapgaa
open Go.RowKit Go.Pl

section
variable {O : Array Oper} {Q : Exit → Act → World → Prop} {rest : List Oper} {o : Oper} {a : Act} {w W : World} {n d : Nat} {L : List (Nat × Value)} {x y z t : Operand} {ρ : Operand → Value}
theorem run_four87 {n0 n1 n2 n3 : Int} (ho : o.op = .buildSlice 87 4 #[(0, x), (1, y), (2, z), (3, t)]) (h0 : ρ x = .int .i64 n0) (h1 : ρ y = .int .i64 n1) (h2 : ρ z = .int .i64 n2) (h3 : ρ t = .int .i64 n3) : (execOp ρ o).run Try.prog w = .ok (.value (.slice (some ⟨w.heap.size, 0, none⟩) 4 4)) (w.alloc (.cells #[.int .i64 n0, .int .i64 n1, .int .i64 n2, .int .i64 n3] 3)) := by
  simp [execOp, ho, h0, h1, h2, h3, go_sem]
theorem src_ints {w : World} {b G : Nat} {ns : List Int} (hb : w.heap[b]? = some (.cells (ns.map fun n => (.int .i64 n : Value)).toArray 3 (0, 0))) (hG : b < G) : srcAt inC 1 w G (some ⟨b, 0, none⟩) ns := by
  refine .inr ⟨b, 0, rfl, hG, fun i y hy j u hu => ?_⟩
  have hj : j = 0 := by
    have := (List.getElem?_eq_some_iff.1 hu).1
    simpa using this
  subst hj
  simp at hu
  rw [cell_of_blk hb]
  simp [hy, hu]
theorem src_four {w : World} {b G : Nat} {n0 n1 n2 n3 : Int} (hb : w.heap[b]? = some (.cells #[.int .i64 n0, .int .i64 n1, .int .i64 n2, .int .i64 n3] 3 (0, 0))) (hG : b < G) : srcAt inC 1 w G (some ⟨b, 0, none⟩) [n0, n1, n2, n3] := src_ints hb hG
theorem env_four87 {n0 n1 n2 n3 : Int} (En : Env n L a) (hd : o.dst = some d) (hn : d < n) (hf : (L.map (·.1)).contains d = false) (hw : Region.wanted o (yielded O a.tmps) = true) (ho : o.op = .buildSlice 87 4 #[(0, x), (1, y), (2, z), (3, t)]) (h0 : a.eval x = .int .i64 n0) (h1 : a.eval y = .int .i64 n1) (h2 : a.eval z = .int .i64 n2) (h3 : a.eval t = .int .i64 n3)
    (k : ∀ a' w' b, srcAt inC 1 w' w'.heap.size (some ⟨b, 0, none⟩) [n0, n1, n2, n3] → Fr (fun _ => False) w w' → Env n ((d, .slice (some ⟨b, 0, none⟩) 4 4) :: L) a' → wpList Try.prog O Q rest a' w') : wpList Try.prog O Q (o :: rest) a w :=
  env_put En hd hn hf hw (run_four87 ho h0 h1 h2 h3) fun a' E' => k a' _ _ (src_four (blk_alloc_new _ _) (by simp)) ((Fr.refl _ _).alloc _) E'
end
theorem IxAt.mono {w : World} {p mb N N' : Nat} {S : Nat → Prop} {m : ByteArray → Option Bx} {rv : Value} {pk : Bool} (h : IxAt w p mb N S m rv pk) (hN : N ≤ N') : IxAt w p mb N' S m rv pk :=
  ⟨h.hp, h.hm.mono hN, h.ne, h.np, h.nm, h.lt, h.ok, h.rp, h.tree⟩
theorem okB_all {b : Bx} (h : okB b) : (List.all [b.1.1, b.1.2, b.2.1, b.2.2] fun n9 => decide (isI n9)) = true := by
  obtain ⟨⟨h1, h2⟩, ⟨h3, h4⟩, _⟩ := h
  simp [h1, h2, h3, h4]
theorem okB_of {b : Bx} (h : (List.all [b.1.1, b.1.2, b.2.1, b.2.2] fun n9 => decide (isI n9)) = true) (h1 : b.1.1 ≤ b.2.1) (h2 : b.1.2 ≤ b.2.2) : okB b := by
  simp at h
  exact ⟨⟨h.1, h.2.1⟩, ⟨h.2.2.1, h.2.2.2⟩, h1, h2⟩
theorem run_me58 {o : Oper} {w W : World} {ρ : Operand → Value} {x y : Operand} {b : Nat} {k v : Value} (h : (Instr.mapEntry 58 (.map (some b)) k).run Try.prog w = .ok v W) (ho : o.op = .mapEntry 58 x y) (hx : ρ x = .map (some b)) (hy : ρ y = k) : (execOp ρ o).run Try.prog w = .ok (.value v) W := by
  simp [execOp, ho, hx, hy, h, Result.andThen]
theorem run_es58 {o : Oper} {w W : World} {ρ : Operand → Value} {x y z : Operand} {b : Nat} {k v : Value} (h : (Instr.entryStore 58 (.map (some b)) k v).run Try.prog w = .ok () W) (ho : o.op = .entryStore 58 x y z) (hx : ρ x = .map (some b)) (hy : ρ y = k) (hz : ρ z = v) : (execOp ρ o).run Try.prog w = .ok .skip W := by
  simp [execOp, ho, hx, hy, hz, h, Result.andThen]

set_option maxRecDepth 100000 in
set_option maxHeartbeats 4000000 in
theorem put_calls {w : World} {p mb N : Nat} {S : Nat → Prop} {m : ByteArray → Option Bx} {rv : Value} {pk : Bool} (h : IxAt w p mb N S m rv pk) (hNb : N ≤ 100000) (s0 : ByteArray) (hsz : s0.size ≤ maxLen) (b : Bx) : Calls Try.prog 29 #[.pointer (some ⟨p, 0, none⟩), .string s0, .agg (bxC b)] w (if okB b then (if (m s0).isSome then IxPost p mb (N + 1) S m (.int .i64 9) w else IxPost p mb (N + 1) S (updB m s0 b) (.int .i64 0) w) else IxPost p mb N S m (.int .i64 1) w) := by
  refine wp_start3 Try.func29 rfl rfl (n := 73) (by decide) fun a E => ?_
  have hf : Fr (fun _ => False) w w := Fr.refl _ _
  have hpl : p < w.heap.size := lt_of_blk h.hp
  have hml : mb < w.heap.size := h.hm.lt
  have hσ : ∀ k, S k → k < w.heap.size := h.lt
  refine wp_seq ?_
  refine wp_region_lit ?_
  have hfz := hf.size
  refine env_box26 (d := 5) E rfl (by decide) rfl (wanted_none rfl _) rfl (E.get 2 rfl) fun a w1 b34 eb34 hb34 f1 E => ?_
  have h := IxAt.fr h f1 id id (fun _ _ h => h)
  have hf := hf.trans f1
  clear f1
  have hnb34 : w.heap.size ≤ b34 := by omega
  clear hfz eb34
  refine env_put (d := 6) (v := .int .i64 0) E rfl (by decide) rfl (wanted_none rfl _) (run_assign rfl rfl) fun a E => ?_
  refine wpList_nil ?_
  refine then_n ?_
  refine wp_seq ?_
  refine wp_seq ?_
  refine wp_region_lit ?_
  refine env_put (d := 9) (v := .pointer (some ⟨p, 0, none⟩)) E rfl (by decide) rfl (wanted_none rfl _) (run_move rfl (E.get 2 rfl)) fun a E => ?_
  refine env_put (d := 10) (v := .bool false) E rfl (by decide) rfl (wanted_none rfl _) (run_pn29 rfl (E.get 0 rfl) rfl) fun a E => ?_
  refine env_put (d := 11) (v := .bool false) E rfl (by decide) rfl (wanted_none rfl _) (run_move rfl (E.get 0 rfl)) fun a E => ?_
  refine env_put (d := 12) (v := .pointer (some ⟨b34, 0, none⟩)) E rfl (by decide) rfl (w_yes (g := 2) (s := 11) E rfl rfl (by decide) (E.get 0 rfl)) (fa26_0 rfl (E.get 4 rfl)) fun a E => ?_
  refine env_put (d := 13) (v := .pointer (some ⟨b34, 0, none⟩)) E rfl (by decide) rfl (w_yes (g := 2) (s := 11) E rfl rfl (by decide) (E.get 1 rfl)) (fa24_0 rfl (E.get 0 rfl)) fun a E => ?_
  refine env_put (d := 14) (v := .int .i64 b.1.1) E rfl (by decide) rfl (w_yes (g := 2) (s := 11) E rfl rfl (by decide) (E.get 2 rfl)) (run_ldi rfl (E.get 0 rfl) (bx hb34 0 rfl)) fun a E => ?_
  refine env_put (d := 15) (v := .pointer (some ⟨b34, 0, none⟩)) E rfl (by decide) rfl (w_yes (g := 2) (s := 11) E rfl rfl (by decide) (E.get 3 rfl)) (fa26_0 rfl (E.get 7 rfl)) fun a E => ?_
  refine env_put (d := 16) (v := .pointer (some ⟨b34, 1, none⟩)) E rfl (by decide) rfl (w_yes (g := 2) (s := 11) E rfl rfl (by decide) (E.get 4 rfl)) (fa24_1 rfl (E.get 0 rfl)) fun a E => ?_
  refine env_put (d := 17) (v := .int .i64 b.1.2) E rfl (by decide) rfl (w_yes (g := 2) (s := 11) E rfl rfl (by decide) (E.get 5 rfl)) (run_ldi rfl (E.get 0 rfl) (bx hb34 1 rfl)) fun a E => ?_
  refine env_put (d := 18) (v := .pointer (some ⟨b34, 2, none⟩)) E rfl (by decide) rfl (w_yes (g := 2) (s := 11) E rfl rfl (by decide) (E.get 6 rfl)) (fa26_1 rfl (E.get 10 rfl)) fun a E => ?_
  refine env_put (d := 19) (v := .pointer (some ⟨b34, 2, none⟩)) E rfl (by decide) rfl (w_yes (g := 2) (s := 11) E rfl rfl (by decide) (E.get 7 rfl)) (fa24_0 rfl (E.get 0 rfl)) fun a E => ?_
  refine env_put (d := 20) (v := .int .i64 b.2.1) E rfl (by decide) rfl (w_yes (g := 2) (s := 11) E rfl rfl (by decide) (E.get 8 rfl)) (run_ldi rfl (E.get 0 rfl) (bx hb34 2 rfl)) fun a E => ?_
  refine env_put (d := 21) (v := .pointer (some ⟨b34, 2, none⟩)) E rfl (by decide) rfl (w_yes (g := 2) (s := 11) E rfl rfl (by decide) (E.get 9 rfl)) (fa26_1 rfl (E.get 13 rfl)) fun a E => ?_
  refine env_put (d := 22) (v := .pointer (some ⟨b34, 3, none⟩)) E rfl (by decide) rfl (w_yes (g := 2) (s := 11) E rfl rfl (by decide) (E.get 10 rfl)) (fa24_1 rfl (E.get 0 rfl)) fun a E => ?_
  refine env_put (d := 23) (v := .int .i64 b.2.2) E rfl (by decide) rfl (w_yes (g := 2) (s := 11) E rfl rfl (by decide) (E.get 11 rfl)) (run_ldi rfl (E.get 0 rfl) (bx hb34 3 rfl)) fun a E => ?_
  refine env_four87 (d := 24) E rfl (by decide) rfl (w_yes (g := 2) (s := 11) E rfl rfl (by decide) (E.get 12 rfl)) rfl (E.get 9 rfl) (E.get 6 rfl) (E.get 3 rfl) (E.get 0 rfl) fun a w1 b35 hs4 f1 E => ?_
  have h := IxAt.fr h f1 id id (fun _ _ h => h)
  have hb34 := f1.obj hb34 id
  have hf := hf.trans f1
  clear f1
  refine env_call (d := 25) (v := .bool (List.all [b.1.1, b.1.2, b.2.1, b.2.2] fun n9 => decide (isI n9))) E rfl (by decide) rfl (w_yes (g := 2) (s := 11) E rfl rfl (by decide) (E.get 13 rfl)) (run_call1 (enters_of Try.func34 (by kernel_rfl) rfl) rfl rfl (E.get 0 rfl)) (val_calls hs4 (by simp)) fun a w1 f1 E => ?_
  have h := IxAt.fr h f1 id id (fun _ _ h => h)
  have hb34 := f1.obj hb34 id
  have hs4 := hs4.fr f1 (fun _ _ h => h)
  have hf := hf.trans f1
  clear f1
  refine env_put (d := 26) (v := .bool (!(List.all [b.1.1, b.1.2, b.2.1, b.2.2] fun n9 => decide (isI n9)))) E rfl (by decide) rfl (w_yes (g := 2) (s := 11) E rfl rfl (by decide) (E.get 14 rfl)) (run_not rfl (E.get 0 rfl)) fun a E => ?_
  refine env_put (d := 27) (v := .bool (!(List.all [b.1.1, b.1.2, b.2.1, b.2.2] fun n9 => decide (isI n9)))) E rfl (by decide) rfl (wanted_none rfl _) (run_pick_f rfl (E.get 15 rfl) (E.get 0 rfl)) fun a E => ?_
  refine env_put (d := 28) (v := .bool (!(List.all [b.1.1, b.1.2, b.2.1, b.2.2] fun n9 => decide (isI n9)))) E rfl (by decide) rfl (wanted_none rfl _) (run_move rfl (E.get 0 rfl)) fun a E => ?_
  cases hq36 : (List.all [b.1.1, b.1.2, b.2.1, b.2.2] fun n9 => decide (isI n9)) with
  | false =>
    rw [hq36] at E
    refine env_skip (d := 29) (g := 19) (s := 28) E rfl (by decide) rfl rfl rfl (by decide) (E.get 0 rfl) fun a E => ?_
    refine env_skip (d := 30) (g := 19) (s := 28) E rfl (by decide) rfl rfl rfl (by decide) (E.get 1 rfl) fun a E => ?_
    refine env_skip (d := 31) (g := 19) (s := 28) E rfl (by decide) rfl rfl rfl (by decide) (E.get 2 rfl) fun a E => ?_
    refine env_skip (d := 32) (g := 19) (s := 28) E rfl (by decide) rfl rfl rfl (by decide) (E.get 3 rfl) fun a E => ?_
    refine env_skip (d := 33) (g := 19) (s := 28) E rfl (by decide) rfl rfl rfl (by decide) (E.get 4 rfl) fun a E => ?_
    refine env_skip (d := 34) (g := 19) (s := 28) E rfl (by decide) rfl rfl rfl (by decide) (E.get 5 rfl) fun a E => ?_
    refine env_skip (d := 35) (g := 19) (s := 28) E rfl (by decide) rfl rfl rfl (by decide) (E.get 6 rfl) fun a E => ?_
    refine env_put (d := 36) (v := .bool true) E rfl (by decide) rfl (wanted_none rfl _) (run_pick_t rfl (E.get 7 rfl) rfl) fun a E => ?_
    refine env_put (d := 37) (v := .bool true) E rfl (by decide) rfl (wanted_none rfl _) (run_move rfl (E.get 0 rfl)) fun a E => ?_
    refine env_skip (d := 38) (g := 28) (s := 37) E rfl (by decide) rfl rfl rfl (by decide) (E.get 0 rfl) fun a E => ?_
    refine env_skip (d := 39) (g := 28) (s := 37) E rfl (by decide) rfl rfl rfl (by decide) (E.get 1 rfl) fun a E => ?_
    refine env_skip (d := 40) (g := 28) (s := 37) E rfl (by decide) rfl rfl rfl (by decide) (E.get 2 rfl) fun a E => ?_
    refine env_skip (d := 41) (g := 28) (s := 37) E rfl (by decide) rfl rfl rfl (by decide) (E.get 3 rfl) fun a E => ?_
    refine env_skip (d := 42) (g := 28) (s := 37) E rfl (by decide) rfl rfl rfl (by decide) (E.get 4 rfl) fun a E => ?_
    refine env_skip (d := 43) (g := 28) (s := 37) E rfl (by decide) rfl rfl rfl (by decide) (E.get 5 rfl) fun a E => ?_
    refine env_skip (d := 44) (g := 28) (s := 37) E rfl (by decide) rfl rfl rfl (by decide) (E.get 6 rfl) fun a E => ?_
    refine env_put (d := 45) (v := .bool true) E rfl (by decide) rfl (wanted_none rfl _) (run_pick_t rfl (E.get 7 rfl) rfl) fun a E => ?_
    refine wpList_nil ?_
    refine then_n ?_
    refine wp_cond_true (E.get 0 rfl) ?_
    refine wp_seq ?_
    refine wp_region_lit ?_
    refine env_set (d := 6) (v := .int .i64 1) E rfl (by decide) (wanted_none rfl _) (run_assign rfl rfl) fun a E => ?_
    refine wpList_nil ?_
    refine then_n ?_
    refine wp_ret ?_
    refine then_r ?_
    have hno : ¬ okB b := fun hok => by
      have hal := okB_all hok
      first | (rw [hal] at hq36; exact Bool.noConfusion hq36) | (obtain ⟨_, _, q1, q2⟩ := hok; omega)
    refine ret_tmp (t := 6) rfl E (E.get 0 rfl) ?_
    rw [if_neg hno]
    exact ⟨rfl, _, _, h, hf.mono fun _ _ h => h.elim⟩
  | true =>
    rw [hq36] at E
    refine env_put (d := 29) (v := .pointer (some ⟨b34, 0, none⟩)) E rfl (by decide) rfl (w_yes (g := 19) (s := 28) E rfl rfl (by decide) (E.get 0 rfl)) (fa26_0 rfl (E.get 21 rfl)) fun a E => ?_
    refine env_put (d := 30) (v := .pointer (some ⟨b34, 0, none⟩)) E rfl (by decide) rfl (w_yes (g := 19) (s := 28) E rfl rfl (by decide) (E.get 1 rfl)) (fa24_0 rfl (E.get 0 rfl)) fun a E => ?_
    refine env_put (d := 31) (v := .int .i64 b.1.1) E rfl (by decide) rfl (w_yes (g := 19) (s := 28) E rfl rfl (by decide) (E.get 2 rfl)) (run_ldi rfl (E.get 0 rfl) (bx hb34 0 rfl)) fun a E => ?_
    refine env_put (d := 32) (v := .pointer (some ⟨b34, 2, none⟩)) E rfl (by decide) rfl (w_yes (g := 19) (s := 28) E rfl rfl (by decide) (E.get 3 rfl)) (fa26_1 rfl (E.get 24 rfl)) fun a E => ?_
    refine env_put (d := 33) (v := .pointer (some ⟨b34, 2, none⟩)) E rfl (by decide) rfl (w_yes (g := 19) (s := 28) E rfl rfl (by decide) (E.get 4 rfl)) (fa24_0 rfl (E.get 0 rfl)) fun a E => ?_
    refine env_put (d := 34) (v := .int .i64 b.2.1) E rfl (by decide) rfl (w_yes (g := 19) (s := 28) E rfl rfl (by decide) (E.get 5 rfl)) (run_ldi rfl (E.get 0 rfl) (bx hb34 2 rfl)) fun a E => ?_
    refine env_put (d := 35) (v := .bool (decide (b.2.1 < b.1.1))) E rfl (by decide) rfl (w_yes (g := 19) (s := 28) E rfl rfl (by decide) (E.get 6 rfl)) (run_igtr (E.get 3 rfl) (E.get 0 rfl) Try.underlying3 rfl) fun a E => ?_
    refine env_put (d := 36) (v := .bool (decide (b.2.1 < b.1.1))) E rfl (by decide) rfl (wanted_none rfl _) (run_pick_f rfl (E.get 7 rfl) (E.get 0 rfl)) fun a E => ?_
    refine env_put (d := 37) (v := .bool (decide (b.2.1 < b.1.1))) E rfl (by decide) rfl (wanted_none rfl _) (run_move rfl (E.get 0 rfl)) fun a E => ?_
    cases hq37 : (decide (b.2.1 < b.1.1)) with
    | false =>
      rw [hq37] at E
      refine env_put (d := 38) (v := .pointer (some ⟨b34, 0, none⟩)) E rfl (by decide) rfl (w_yes (g := 28) (s := 37) E rfl rfl (by decide) (E.get 0 rfl)) (fa26_0 rfl (E.get 30 rfl)) fun a E => ?_
      refine env_put (d := 39) (v := .pointer (some ⟨b34, 1, none⟩)) E rfl (by decide) rfl (w_yes (g := 28) (s := 37) E rfl rfl (by decide) (E.get 1 rfl)) (fa24_1 rfl (E.get 0 rfl)) fun a E => ?_
      refine env_put (d := 40) (v := .int .i64 b.1.2) E rfl (by decide) rfl (w_yes (g := 28) (s := 37) E rfl rfl (by decide) (E.get 2 rfl)) (run_ldi rfl (E.get 0 rfl) (bx hb34 1 rfl)) fun a E => ?_
      refine env_put (d := 41) (v := .pointer (some ⟨b34, 2, none⟩)) E rfl (by decide) rfl (w_yes (g := 28) (s := 37) E rfl rfl (by decide) (E.get 3 rfl)) (fa26_1 rfl (E.get 33 rfl)) fun a E => ?_
      refine env_put (d := 42) (v := .pointer (some ⟨b34, 3, none⟩)) E rfl (by decide) rfl (w_yes (g := 28) (s := 37) E rfl rfl (by decide) (E.get 4 rfl)) (fa24_1 rfl (E.get 0 rfl)) fun a E => ?_
      refine env_put (d := 43) (v := .int .i64 b.2.2) E rfl (by decide) rfl (w_yes (g := 28) (s := 37) E rfl rfl (by decide) (E.get 5 rfl)) (run_ldi rfl (E.get 0 rfl) (bx hb34 3 rfl)) fun a E => ?_
      refine env_put (d := 44) (v := .bool (decide (b.2.2 < b.1.2))) E rfl (by decide) rfl (w_yes (g := 28) (s := 37) E rfl rfl (by decide) (E.get 6 rfl)) (run_igtr (E.get 3 rfl) (E.get 0 rfl) Try.underlying3 rfl) fun a E => ?_
      refine env_put (d := 45) (v := .bool (decide (b.2.2 < b.1.2))) E rfl (by decide) rfl (wanted_none rfl _) (run_pick_f rfl (E.get 7 rfl) (E.get 0 rfl)) fun a E => ?_
      refine wpList_nil ?_
      refine then_n ?_
      cases hq38 : (decide (b.2.2 < b.1.2)) with
      | false =>
        rw [hq38] at E
        refine wp_cond_false (E.get 0 rfl) ?_
        refine wp_skip ?_
        refine then_n ?_
        refine wp_seq ?_
        refine wp_seq ?_
        cases hms : m s0 with
        | none =>
          refine wp_region_lit ?_
          refine env_put (d := 47) (v := .pointer (some ⟨p, 0, none⟩)) E rfl (by decide) rfl (wanted_none rfl _) (run_move rfl (E.get 39 rfl)) fun a E => ?_
          refine env_put (d := 48) (v := .pointer (some ⟨p, 0, none⟩)) E rfl (by decide) rfl (wanted_none rfl _) (run_nilchk rfl (E.get 0 rfl)) fun a E => ?_
          refine env_put (d := 49) (v := .pointer (some ⟨p, 0, none⟩)) E rfl (by decide) rfl (wanted_none rfl _) (fa61_0 rfl (E.get 0 rfl)) fun a E => ?_
          refine env_put (d := 50) (v := .map (some mb)) E rfl (by decide) rfl (wanted_none rfl _) (run_ld58 rfl (E.get 0 rfl) (bx h.hp 0 rfl)) fun a E => ?_
          refine env_put (d := 51) (v := .string s0) E rfl (by decide) rfl (wanted_none rfl _) (run_move rfl (E.get 44 rfl)) fun a E => ?_
          refine env_put (d := 52) (v := .tuple #[.agg (bxC ((0, 0), (0, 0))), .bool false]) E rfl (by decide) rfl (wanted_none rfl _) ((run_look58 h.hm hsz rfl (E.get 1 rfl) (E.get 0 rfl)).trans (by rw [hms] <;> rfl)) fun a E => ?_
          refine env_put (d := 46) (v := .tuple #[.agg (bxC ((0, 0), (0, 0))), .bool false]) E rfl (by decide) rfl (wanted_none rfl _) (run_move rfl (E.get 0 rfl)) fun a E => ?_
          refine env_put (d := 53) (v := .agg (bxC ((0, 0), (0, 0)))) E rfl (by decide) rfl (wanted_none rfl _) (run_ext0 rfl (E.get 0 rfl)) fun a E => ?_
          refine env_put (d := 54) (v := .bool false) E rfl (by decide) rfl (wanted_none rfl _) (run_ext1 rfl (E.get 1 rfl)) fun a E => ?_
          have hlb34 := lt_of_blk hb34
          have hfz := hf.size
          refine env_alloc26 (d := 7) E rfl (by decide) rfl (wanted_none rfl _) rfl fun a w1 b39 eb39 hb39 f1 E => ?_
          have h := IxAt.fr h f1 id id (fun _ _ h => h)
          have hb34 := f1.obj hb34 id
          have hf := hf.trans f1
          clear f1
          have hneb34b39 : b34 < b39 := by omega
          clear hlb34
          have hnb39 : w.heap.size ≤ b39 := by omega
          clear hfz eb39
          refine env_st26 E rfl (wanted_none rfl _) rfl (E.get 0 rfl) (E.get 2 rfl) hb39 fun w1 hb39 f1 E => ?_
          have h := IxAt.fr h f1 (by omega) (by omega) (fun k hk => by have := hσ k hk; omega)
          have hb34 := f1.obj hb34 (fun e => by omega)
          have hf := hf.trans' f1 (fun r hr e => by omega)
          clear f1
          refine env_put (d := 8) (v := .bool false) E rfl (by decide) rfl (wanted_none rfl _) (run_assign rfl (E.get 1 rfl)) fun a E => ?_
          refine wpList_nil ?_
          refine then_n ?_
          refine wp_seq ?_
          refine wp_region_lit ?_
          refine env_put (d := 55) (v := .bool false) E rfl (by decide) rfl (wanted_none rfl _) (run_move rfl (E.get 0 rfl)) fun a E => ?_
          refine wpList_nil ?_
          refine then_n ?_
          refine wp_cond_false (E.get 0 rfl) ?_
          refine wp_skip ?_
          refine then_n ?_
          refine wp_seq ?_
          refine wp_seq ?_
          obtain ⟨c9, hc9, hlen⟩ := run_len58 h.hm
          refine wp_region_lit ?_
          refine env_put (d := 56) (v := .pointer (some ⟨p, 0, none⟩)) E rfl (by decide) rfl (wanted_none rfl _) (run_move rfl (E.get 51 rfl)) fun a E => ?_
          refine env_put (d := 57) (v := .pointer (some ⟨p, 0, none⟩)) E rfl (by decide) rfl (wanted_none rfl _) (run_nilchk rfl (E.get 0 rfl)) fun a E => ?_
          refine env_put (d := 58) (v := .pointer (some ⟨p, 0, none⟩)) E rfl (by decide) rfl (wanted_none rfl _) (fa61_0 rfl (E.get 0 rfl)) fun a E => ?_
          refine env_put (d := 59) (v := .map (some mb)) E rfl (by decide) rfl (wanted_none rfl _) (run_ld58 rfl (E.get 0 rfl) (bx h.hp 0 rfl)) fun a E => ?_
          refine env_put (d := 60) (v := .int .i64 (c9 : Int)) E rfl (by decide) rfl (wanted_none rfl _) (hlen _ _ _ _ (rfl) rfl (E.get 0 rfl)) fun a E => ?_
          refine env_put (d := 61) (v := .bool ((c9 : Int) == 1000000)) E rfl (by decide) rfl (wanted_none rfl _) (run_ieql (E.get 0 rfl) rfl Try.underlying3 rfl) fun a E => ?_
          refine wpList_nil ?_
          refine then_n ?_
          cases hq40 : ((c9 : Int) == 1000000) with
          | false =>
            rw [hq40] at E
            refine wp_cond_false (E.get 0 rfl) ?_
            refine wp_skip ?_
            refine then_n ?_
            refine wp_seq ?_
            obtain ⟨l9, hk9⟩ := key9 hsz
            obtain ⟨o0, ho0, hN0⟩ := MapN.obj h.hm
            obtain ⟨o1, o2, x9, s9, he1, he2, hN2⟩ := hN0.entry law9 Try.underlying58 mb hk9 zero26 (.agg (bxC b))
            have hp0 := h.hp
            have hpm := h.ne
            refine wp_region_invx (G := Unit) () (n := 73) (base := [(61, .bool false), (60, .int .i64 (c9 : Int)), (59, .map (some mb)), (58, .pointer (some ⟨p, 0, none⟩)), (57, .pointer (some ⟨p, 0, none⟩)), (56, .pointer (some ⟨p, 0, none⟩)), (55, .bool false), (8, .bool false), (7, .pointer (some ⟨b39, 0, none⟩)), (54, .bool false), (53, .agg (bxC ((0, 0), (0, 0)))), (46, .tuple #[.agg (bxC ((0, 0), (0, 0))), .bool false]), (52, .tuple #[.agg (bxC ((0, 0), (0, 0))), .bool false]), (51, .string s0), (50, .map (some mb)), (49, .pointer (some ⟨p, 0, none⟩)), (48, .pointer (some ⟨p, 0, none⟩)), (47, .pointer (some ⟨p, 0, none⟩)), (45, .bool false), (44, .bool false), (43, .int .i64 b.2.2), (42, .pointer (some ⟨b34, 3, none⟩)), (41, .pointer (some ⟨b34, 2, none⟩)), (40, .int .i64 b.1.2), (39, .pointer (some ⟨b34, 1, none⟩)), (38, .pointer (some ⟨b34, 0, none⟩)), (37, .bool false), (36, .bool false), (35, .bool false), (34, .int .i64 b.2.1), (33, .pointer (some ⟨b34, 2, none⟩)), (32, .pointer (some ⟨b34, 2, none⟩)), (31, .int .i64 b.1.1), (30, .pointer (some ⟨b34, 0, none⟩)), (29, .pointer (some ⟨b34, 0, none⟩)), (28, .bool false), (27, .bool false), (26, .bool false), (25, .bool true), (24, .slice (some ⟨b35, 0, none⟩) 4 4), (23, .int .i64 b.2.2), (22, .pointer (some ⟨b34, 3, none⟩)), (21, .pointer (some ⟨b34, 2, none⟩)), (20, .int .i64 b.2.1), (19, .pointer (some ⟨b34, 2, none⟩)), (18, .pointer (some ⟨b34, 2, none⟩)), (17, .int .i64 b.1.2), (16, .pointer (some ⟨b34, 1, none⟩)), (15, .pointer (some ⟨b34, 0, none⟩)), (14, .int .i64 b.1.1), (13, .pointer (some ⟨b34, 0, none⟩)), (12, .pointer (some ⟨b34, 0, none⟩)), (11, .bool false), (10, .bool false), (9, .pointer (some ⟨p, 0, none⟩)), (6, .int .i64 0), (5, .pointer (some ⟨b34, 0, none⟩)), (0, .pointer (some ⟨p, 0, none⟩)), (1, .string s0), (2, .agg (bxC b))]) (U := []) (T := fun γ => [some (62, .pointer (some ⟨p, 0, none⟩)), some (63, .pointer (some ⟨p, 0, none⟩)), some (64, .pointer (some ⟨p, 0, none⟩)), some (65, .map (some mb)), some (66, .string s0), some (67, .pointer (some ⟨p, 0, none⟩)), some (68, .agg (bxC b)), some (69, .tuple #[x9, .int .i64 s9]), some (70, .int .i64 s9), none, some (71, .pointer (some ⟨p, 0, none⟩)), some (72, .pointer (some ⟨p, 2, none⟩)), none]) (M := fun γ ls9 wm => Fr (fun k => k = p ∨ k = mb) w1 wm ∧ (wm.heap[mb]? = some (bif ls9 9 then o2 else bif ls9 7 then o1 else o0)) ∧ (wm.heap[p]? = some (.cells #[.map (some mb), rv, .bool (bif ls9 12 then false else pk)] 61 (0, 0)))) (by kernel_rfl) (by kernel_rfl) (fun _ => by kernel_rfl) (E.of ⟨E.get 0 rfl, E.get 1 rfl, E.get 2 rfl, E.get 3 rfl, E.get 4 rfl, E.get 5 rfl, E.get 6 rfl, E.get 7 rfl, E.get 8 rfl, E.get 9 rfl, E.get 10 rfl, E.get 11 rfl, E.get 12 rfl, E.get 13 rfl, E.get 14 rfl, E.get 15 rfl, E.get 16 rfl, E.get 17 rfl, E.get 18 rfl, E.get 19 rfl, E.get 20 rfl, E.get 21 rfl, E.get 22 rfl, E.get 23 rfl, E.get 24 rfl, E.get 25 rfl, E.get 26 rfl, E.get 27 rfl, E.get 28 rfl, E.get 29 rfl, E.get 30 rfl, E.get 31 rfl, E.get 32 rfl, E.get 33 rfl, E.get 34 rfl, E.get 35 rfl, E.get 36 rfl, E.get 37 rfl, E.get 38 rfl, E.get 39 rfl, E.get 40 rfl, E.get 41 rfl, E.get 42 rfl, E.get 43 rfl, E.get 44 rfl, E.get 45 rfl, E.get 46 rfl, E.get 47 rfl, E.get 48 rfl, E.get 49 rfl, E.get 50 rfl, E.get 51 rfl, E.get 52 rfl, E.get 53 rfl, E.get 54 rfl, E.get 55 rfl, E.get 56 rfl, E.get 57 rfl, E.get 58 rfl, E.get 59 rfl, trivial⟩) (fun x hx => by cases hx) ⟨(Fr.refl _ _).drew, ((Fr.refl (fun _ => False) _).drew.obj ho0 id), ((Fr.refl (fun _ => False) _).drew.obj hp0 id)⟩ ?_ ?_
            · intro j9 o9 γ ls9 a w5 ho hl E D DL DL2 hB hM
              have hb34 := hM.1.obj hb34 (fun e => by omega)
              match j9, ho, hl, D, DL, hB with
              | 0, ho, hl, D, DL, hB =>
                obtain rfl := Option.some.inj ho
                clear ho
                exact ⟨fun _ => valx rfl (run_move rfl (E.get 57 rfl)) rfl hM, fun h => by rw [wanted_none rfl] at h; cases h⟩
              | 1, ho, hl, D, DL, hB =>
                obtain rfl := Option.some.inj ho
                clear ho
                exact ⟨fun _ => valx rfl (run_nilchk rfl (D 0 _ rfl rfl)) rfl hM, fun h => by rw [wanted_none rfl] at h; cases h⟩
              | 2, ho, hl, D, DL, hB =>
                obtain rfl := Option.some.inj ho
                clear ho
                exact ⟨fun _ => valx rfl (fa61_0 rfl (D 1 _ rfl rfl)) rfl hM, fun h => by rw [wanted_none rfl] at h; cases h⟩
              | 3, ho, hl, D, DL, hB =>
                obtain rfl := Option.some.inj ho
                clear ho
                exact ⟨fun _ => valx rfl (run_ld58 rfl (D 2 _ rfl rfl) (bx hM.2.2 0 rfl)) rfl hM, fun h => by rw [wanted_none rfl] at h; cases h⟩
              | 4, ho, hl, D, DL, hB =>
                obtain rfl := Option.some.inj ho
                clear ho
                exact ⟨fun _ => valx rfl (run_move rfl (E.get 58 rfl)) rfl hM, fun h => by rw [wanted_none rfl] at h; cases h⟩
              | 5, ho, hl, D, DL, hB =>
                obtain rfl := Option.some.inj ho
                clear ho
                exact ⟨fun _ => valx rfl (run_move rfl (E.get 57 rfl)) rfl hM, fun h => by rw [wanted_none rfl] at h; cases h⟩
              | 6, ho, hl, D, DL, hB =>
                obtain rfl := Option.some.inj ho
                clear ho
                exact ⟨fun _ => valx rfl (run_ld26 rfl (E.get 56 rfl) (rng4 (p := b) hb34 0 rfl rfl rfl rfl)) rfl hM, fun h => by rw [wanted_none rfl] at h; cases h⟩
              | 7, ho, hl, D, DL, hB =>
                have h79 : ls9 9 = false := by
                  cases h8 : ls9 9 with
                  | false => rfl
                  | true => exact absurd (hl.symm.trans (DL2 8 7 rfl (DL2 9 8 rfl h8))) (by decide)
                have hB9 : w5.heap[mb]? = some o0 := by have h7 := hM.2.1; rw [h79, hl] at h7; exact h7
                obtain rfl := Option.some.inj ho
                exact ⟨fun _ => valxw γ rfl (run_me58 (he1 w5 hB9) rfl (D 3 _ rfl rfl) (D 4 _ rfl rfl)) rfl (fun _ _ => rfl) ⟨hM.1.trans' ((Fr.refl (fun k => k = p ∨ k = mb) w5).setBlk (fun _ => .inr rfl) o1) (fun _ _ h => h), (by rw [setBlk_same (lt_of_blk hB9)]; show some o1 = some (bif ls9 9 then o2 else o1); rw [h79]; rfl), (setBlk_other hpm o1).trans hM.2.2⟩, fun h => by rw [wanted_none rfl] at h; cases h⟩
              | 8, ho, hl, D, DL, hB =>
                obtain rfl := Option.some.inj ho
                clear ho
                exact ⟨fun _ => valx rfl (run_ext1 rfl (D 7 _ rfl rfl)) rfl hM, fun h => by rw [wanted_none rfl] at h; cases h⟩
              | 9, ho, hl, D, DL, hB =>
                have hB9 : w5.heap[mb]? = some o1 := by have h7 := hM.2.1; rw [hl, DL2 8 7 rfl (DL 8 rfl)] at h7; exact h7
                obtain rfl := Option.some.inj ho
                exact ⟨fun _ => storex rfl (run_es58 (he2 w5 hB9) rfl (D 3 _ rfl rfl) (D 8 _ rfl rfl) (D 6 _ rfl rfl)) rfl ⟨hM.1.trans' ((Fr.refl (fun k => k = p ∨ k = mb) w5).setBlk (fun _ => .inr rfl) o2) (fun _ _ h => h), (setBlk_same (lt_of_blk hB9) o2), (setBlk_other hpm o2).trans hM.2.2⟩, fun h => by rw [wanted_none rfl] at h; cases h⟩
              | 10, ho, hl, D, DL, hB =>
                obtain rfl := Option.some.inj ho
                clear ho
                exact ⟨fun _ => valx rfl (run_nilchk rfl (D 5 _ rfl rfl)) rfl hM, fun h => by rw [wanted_none rfl] at h; cases h⟩
              | 11, ho, hl, D, DL, hB =>
                obtain rfl := Option.some.inj ho
                clear ho
                exact ⟨fun _ => valx rfl (fa61_2 rfl (D 10 _ rfl rfl)) rfl hM, fun h => by rw [wanted_none rfl] at h; cases h⟩
              | 12, ho, hl, D, DL, hB =>
                have hB9 := hM.2.2
                obtain rfl := Option.some.inj ho
                exact ⟨fun _ => storex rfl (run_st4 rfl (D 11 _ rfl rfl) rfl (bx hB9 2 rfl) (free_of_blk hB9 2)) rfl ⟨hM.1.trans' ((Fr.refl (fun k => k = p ∨ k = mb) w5).setCell (p := ⟨p, 2, none⟩) (fun _ => .inl rfl) _) (fun _ _ h => h), (blk_setCell (p := ⟨p, 2, none⟩) (fun e => hpm e.symm) _).trans hM.2.1, (by rw [hl] at hB9; exact blk_setCell_same (off := 2) hB9 _)⟩, fun h => by rw [wanted_none rfl] at h; cases h⟩
              | j9 + 13, ho, hl, D, DL, hB => exact absurd ho (by simp)
            · rintro _ a w5 E V hM
              clear V
              have hM2 : w5.heap[mb]? = some o2 := hM.2.1
              have hP2 : w5.heap[p]? = some (.cells #[.map (some mb), rv, .bool false] 61 (0, 0)) := hM.2.2
              have hF := hM.1
              clear hM
              refine then_n ?_
              refine wp_seq ?_
              refine wp_region_lit ?_
              refine env_set (d := 6) (v := .int .i64 0) E rfl (by decide) (wanted_none rfl _) (run_assign rfl rfl) fun a E => ?_
              refine wpList_nil ?_
              refine then_n ?_
              refine wp_ret ?_
              have khq37 := of_decide_eq_false hq37
              have khq38 := of_decide_eq_false hq38
              have hok : okB b := okB_of hq36 (by omega) (by omega)
              refine ret_tmp (t := 6) rfl E (E.get 0 rfl) ?_
              rw [if_pos hok]
              exact ⟨rfl, _, _, h.turned hF hP2 ((MapN.of_obj hM2 hN2).congr (bxM_upd m s0 b)) (fun s c hc => by unfold updB at hc; split at hc; (cases hc; exact hok); exact h.ok s c hc), (hf.mono fun _ _ h => h.elim).trans' hF (fun _ _ h => h)⟩
          | true =>
            rw [hq40] at E
            exact absurd (beq_iff_eq.1 hq40) (by omega)
        | some bb =>
          refine wp_region_lit ?_
          refine env_put (d := 47) (v := .pointer (some ⟨p, 0, none⟩)) E rfl (by decide) rfl (wanted_none rfl _) (run_move rfl (E.get 39 rfl)) fun a E => ?_
          refine env_put (d := 48) (v := .pointer (some ⟨p, 0, none⟩)) E rfl (by decide) rfl (wanted_none rfl _) (run_nilchk rfl (E.get 0 rfl)) fun a E => ?_
          refine env_put (d := 49) (v := .pointer (some ⟨p, 0, none⟩)) E rfl (by decide) rfl (wanted_none rfl _) (fa61_0 rfl (E.get 0 rfl)) fun a E => ?_
          refine env_put (d := 50) (v := .map (some mb)) E rfl (by decide) rfl (wanted_none rfl _) (run_ld58 rfl (E.get 0 rfl) (bx h.hp 0 rfl)) fun a E => ?_
          refine env_put (d := 51) (v := .string s0) E rfl (by decide) rfl (wanted_none rfl _) (run_move rfl (E.get 44 rfl)) fun a E => ?_
          refine env_put (d := 52) (v := .tuple #[.agg (bxC bb), .bool true]) E rfl (by decide) rfl (wanted_none rfl _) ((run_look58 h.hm hsz rfl (E.get 1 rfl) (E.get 0 rfl)).trans (by rw [hms] <;> rfl)) fun a E => ?_
          refine env_put (d := 46) (v := .tuple #[.agg (bxC bb), .bool true]) E rfl (by decide) rfl (wanted_none rfl _) (run_move rfl (E.get 0 rfl)) fun a E => ?_
          refine env_put (d := 53) (v := .agg (bxC bb)) E rfl (by decide) rfl (wanted_none rfl _) (run_ext0 rfl (E.get 0 rfl)) fun a E => ?_
          refine env_put (d := 54) (v := .bool true) E rfl (by decide) rfl (wanted_none rfl _) (run_ext1 rfl (E.get 1 rfl)) fun a E => ?_
          have hlb34 := lt_of_blk hb34
          have hfz := hf.size
          refine env_alloc26 (d := 7) E rfl (by decide) rfl (wanted_none rfl _) rfl fun a w1 b42 eb42 hb42 f1 E => ?_
          have h := IxAt.fr h f1 id id (fun _ _ h => h)
          have hb34 := f1.obj hb34 id
          have hf := hf.trans f1
          clear f1
          have hneb34b42 : b34 < b42 := by omega
          clear hlb34
          have hnb42 : w.heap.size ≤ b42 := by omega
          clear hfz eb42
          refine env_st26 E rfl (wanted_none rfl _) rfl (E.get 0 rfl) (E.get 2 rfl) hb42 fun w1 hb42 f1 E => ?_
          have h := IxAt.fr h f1 (by omega) (by omega) (fun k hk => by have := hσ k hk; omega)
          have hb34 := f1.obj hb34 (fun e => by omega)
          have hf := hf.trans' f1 (fun r hr e => by omega)
          clear f1
          refine env_put (d := 8) (v := .bool true) E rfl (by decide) rfl (wanted_none rfl _) (run_assign rfl (E.get 1 rfl)) fun a E => ?_
          refine wpList_nil ?_
          refine then_n ?_
          refine wp_seq ?_
          refine wp_region_lit ?_
          refine env_put (d := 55) (v := .bool true) E rfl (by decide) rfl (wanted_none rfl _) (run_move rfl (E.get 0 rfl)) fun a E => ?_
          refine wpList_nil ?_
          refine then_n ?_
          refine wp_cond_true (E.get 0 rfl) ?_
          refine wp_seq ?_
          refine wp_region_lit ?_
          refine env_set (d := 6) (v := .int .i64 9) E rfl (by decide) (wanted_none rfl _) (run_assign rfl rfl) fun a E => ?_
          refine wpList_nil ?_
          refine then_n ?_
          refine wp_ret ?_
          refine then_r ?_
          have khq37 := of_decide_eq_false hq37
          have khq38 := of_decide_eq_false hq38
          have hok : okB b := okB_of hq36 (by omega) (by omega)
          refine ret_tmp (t := 6) rfl E (E.get 0 rfl) ?_
          rw [if_pos hok]
          exact ⟨rfl, _, _, h.mono (by omega), hf.mono fun _ _ h => h.elim⟩
      | true =>
        rw [hq38] at E
        refine wp_cond_true (E.get 0 rfl) ?_
        refine wp_seq ?_
        refine wp_region_lit ?_
        refine env_set (d := 6) (v := .int .i64 1) E rfl (by decide) (wanted_none rfl _) (run_assign rfl rfl) fun a E => ?_
        refine wpList_nil ?_
        refine then_n ?_
        refine wp_ret ?_
        refine then_r ?_
        have khq37 := of_decide_eq_false hq37
        have khq38 := of_decide_eq_true hq38
        have hno : ¬ okB b := fun hok => by
          have hal := okB_all hok
          first | (rw [hal] at hq36; exact Bool.noConfusion hq36) | (obtain ⟨_, _, q1, q2⟩ := hok; omega)
        refine ret_tmp (t := 6) rfl E (E.get 0 rfl) ?_
        rw [if_neg hno]
        exact ⟨rfl, _, _, h, hf.mono fun _ _ h => h.elim⟩
    | true =>
      rw [hq37] at E
      refine env_skip (d := 38) (g := 28) (s := 37) E rfl (by decide) rfl rfl rfl (by decide) (E.get 0 rfl) fun a E => ?_
      refine env_skip (d := 39) (g := 28) (s := 37) E rfl (by decide) rfl rfl rfl (by decide) (E.get 1 rfl) fun a E => ?_
      refine env_skip (d := 40) (g := 28) (s := 37) E rfl (by decide) rfl rfl rfl (by decide) (E.get 2 rfl) fun a E => ?_
      refine env_skip (d := 41) (g := 28) (s := 37) E rfl (by decide) rfl rfl rfl (by decide) (E.get 3 rfl) fun a E => ?_
      refine env_skip (d := 42) (g := 28) (s := 37) E rfl (by decide) rfl rfl rfl (by decide) (E.get 4 rfl) fun a E => ?_
      refine env_skip (d := 43) (g := 28) (s := 37) E rfl (by decide) rfl rfl rfl (by decide) (E.get 5 rfl) fun a E => ?_
      refine env_skip (d := 44) (g := 28) (s := 37) E rfl (by decide) rfl rfl rfl (by decide) (E.get 6 rfl) fun a E => ?_
      refine env_put (d := 45) (v := .bool true) E rfl (by decide) rfl (wanted_none rfl _) (run_pick_t rfl (E.get 7 rfl) rfl) fun a E => ?_
      refine wpList_nil ?_
      refine then_n ?_
      refine wp_cond_true (E.get 0 rfl) ?_
      refine wp_seq ?_
      refine wp_region_lit ?_
      refine env_set (d := 6) (v := .int .i64 1) E rfl (by decide) (wanted_none rfl _) (run_assign rfl rfl) fun a E => ?_
      refine wpList_nil ?_
      refine then_n ?_
      refine wp_ret ?_
      refine then_r ?_
      have khq37 := of_decide_eq_true hq37
      have hno : ¬ okB b := fun hok => by
        have hal := okB_all hok
        first | (rw [hal] at hq36; exact Bool.noConfusion hq36) | (obtain ⟨_, _, q1, q2⟩ := hok; omega)
      refine ret_tmp (t := 6) rfl E (E.get 0 rfl) ?_
      rw [if_neg hno]
      exact ⟨rfl, _, _, h, hf.mono fun _ _ h => h.elim⟩
end Go.Proofs.Ytcafnanbdmapgaa
