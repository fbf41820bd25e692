/- The laws of the index: rows of operations; short, do, built. -/
import Derived.Test.YtcafnanbdmapgaaN1
set_option linter.unusedVariables false
set_option linter.unusedSimpArgs false
namespace Go.Proofs.Ytcafnanbdmapgaa
open Go.RowKit Go.Pl

/-- An operation: whether it drops, the Id, the box. -/
abbrev Wo := Bool × ByteArray × Bx
abbrev opC (o : Wo) : Array Value := #[.bool o.1, .string o.2.1, .int .i64 o.2.2.1.1, .int .i64 o.2.2.1.2, .int .i64 o.2.2.2.1, .int .i64 o.2.2.2.2]
abbrev opL (o : Wo) : List Value := [.bool o.1, .string o.2.1, .int .i64 o.2.2.1.1, .int .i64 o.2.2.1.2, .int .i64 o.2.2.2.1, .int .i64 o.2.2.2.2]
section
variable {o : Oper} {w : World} {ρ : Operand → Value} {x y : Operand} {g off : Nat} {s : Wo} {t : ByteArray}
theorem info35 : (Try.prog.info? 35).map (·.size) = some 6 := by kernel_rfl
theorem run_ld35 (ho : o.op = .load 35 x) (hx : ρ x = .pointer (some ⟨g, off, none⟩)) (h : w.rangeAt g off (opL s)) : (execOp ρ o).run Try.prog w = .ok (.value (.agg (opC s))) w := by
  have := run_loadAt_mid (P := Try.prog) w g off 35 (opL s) _ h Try.underlying35 rfl info35
  simp only [execOp, ho, hx, Sem.run_bind, this, Result.andThen_ok, Sem.run_pure]
theorem run_box35 (ho : o.op = .box 35 x) (hx : ρ x = .agg (opC s)) : (execOp ρ o).run Try.prog w = .ok (.value (.pointer (some ⟨w.heap.size, 0, none⟩))) (w.alloc (.cells (opC s) 35)) := by
  simp [execOp, ho, hx, go_sem]
theorem run_len9 (ho : o.op = .call ⟨.builtin .len, #[x], #[9]⟩) (hx : ρ x = .string t) : (execOp ρ o).run Try.prog w = .ok (.value (.int .i64 t.size)) w := by
  simp [execOp, ho, hx, resolve, invoke, go_sem]
theorem op_bx (h : w.rangeAt g off (opL s)) : w.rangeAt g (off + 2) (bxC s.2.2).toList := by
  intro j v hv
  rw [Nat.add_assoc]
  match j, hv with
  | 0, hv => exact h 2 v hv
  | 1, hv => exact h 3 v hv
  | 2, hv => exact h 4 v hv
  | 3, hv => exact h 5 v hv
  | j + 4, hv => simp at hv
end
section
variable {O : Array Oper} {Q : Exit → Act → World → Prop} {rest : List Oper} {o : Oper} {a : Act} {w : World} {n d : Nat} {L : List (Nat × Value)} {x : Operand} {ds : List Deferred} {s : Wo}
theorem env_box35 (E : EnvD ds n L a) (hd : o.dst = some d) (hn : d < n) (hf : (L.map (·.1)).contains d = false) (hw : Region.wanted o (yielded O a.tmps) = true) (ho : o.op = .box 35 x) (hx : a.eval x = .agg (opC s))
    (k : ∀ a' w' b, w.heap.size = b → w'.heap[b]? = some (.cells (opC s) 35 (0, 0)) → Fr (fun _ => False) w w' → EnvD ds n ((d, .pointer (some ⟨b, 0, none⟩)) :: L) a' → wpList Try.prog O Q rest a' w') : wpList Try.prog O Q (o :: rest) a w :=
  env_put E hd hn hf hw (run_box35 ho hx) fun a' E' => k a' _ _ rfl (blk_alloc_new _ _) ((Fr.refl _ _).alloc _) E'
end
/-- At most n operations, of short Ids. -/
def shB (l : List Wo) (n : Int) : Bool := decide ((l.length : Int) ≤ n) && l.all fun o => decide (o.2.1.size ≤ 100)
theorem shB.len {l : List Wo} {n : Int} (h : shB l n = true) : (l.length : Int) ≤ n := by unfold shB at h; simp at h; exact h.1
theorem shB.id {l : List Wo} {n : Int} (h : shB l n = true) : ∀ o ∈ l, o.2.1.size ≤ 100 := by
  unfold shB at h
  rw [Bool.and_eq_true, List.all_eq_true] at h
  exact fun o ho => of_decide_eq_true (h.2 o ho)
def doE (m : ByteArray → Option Bx) (o : Wo) : Int := if o.1 then dropE m o.2.1 else putE m o.2.1 o.2.2
def doM (m : ByteArray → Option Bx) (o : Wo) : ByteArray → Option Bx := if o.1 then delB m o.2.1 else putM m o.2.1 o.2.2
def mOf (l : List Wo) : ByteArray → Option Bx := l.foldl doM fun _ => none
theorem mOf_step {l : List Wo} {i : Nat} {y : Wo} (h : l[i]? = some y) : mOf (l.take (i + 1)) = doM (mOf (l.take i)) y := by
  unfold mOf
  rw [List.take_add_one, h, List.foldl_append]; rfl

set_option maxRecDepth 100000 in
set_option maxHeartbeats 4000000 in
theorem short_calls {w : World} {G cap : Nat} {p : Option Addr} {l : List Wo} (hs : srcAt opL 6 w G p l) (hb : l.length ≤ 9223372036854775807) (n : Int) : Calls Try.prog 10 #[.slice p l.length cap, .int .i64 n] w fun e w' => e = .returned (.bool (shB l n)) ∧ Fr (fun _ => False) w w' := by
  refine wp_start2 Try.func10 rfl rfl (n := 29) (by decide) fun a E => ?_
  have hf : Fr (fun _ => False) w w := Fr.refl _ _
  refine wp_seq ?_
  refine wp_region_lit ?_
  refine env_put (d := 4) (v := .bool false) E rfl (by decide) rfl (wanted_none rfl _) (run_assign rfl rfl) fun a E => ?_
  refine wpList_nil ?_
  refine then_n ?_
  refine wp_seq ?_
  refine wp_seq ?_
  refine wp_region_lit ?_
  refine env_put (d := 5) (v := .int .i64 0) E rfl (by decide) rfl (wanted_none rfl _) (run_assign rfl rfl) fun a E => ?_
  refine wpList_nil ?_
  refine then_n ?_
  refine wp_block ?_
  refine wp_loop (fun a w2 => ∃ (i : Nat), Env 29 [(5, .int .i64 (i : Int)), (4, .bool false), (0, .slice (p) l.length cap), (1, .int .i64 n)] a ∧ i ≤ l.length ∧ Hid (∀ (t : Nat) (z : Wo), t < i → l[t]? = some z → z.2.1.size ≤ 100) ∧ srcAt opL 6 w2 G p l ∧ Fr (fun _ => False) w w2) (fun a _ => l.length - (intOf (a.eval (.tmp 5))).toNat) ?_ ?_
  · exact ⟨0, E.of ⟨E.get 0 rfl, E.get 1 rfl, E.get 2 rfl, E.get 3 rfl, trivial⟩, Nat.zero_le _, fun t z h => absurd h (Nat.not_lt_zero _), hs, hf⟩
  clear E
  rintro a w2 ⟨i, E, hi, hpre, hs, hf⟩
  have hmu : l.length - (intOf (a.eval (.tmp 5))).toNat = l.length - i := by rw [E.get 0 rfl]; first | rfl | (simp [intOf]; done) | (simp only [intOf]; omega)
  rw [hmu]
  clear hmu
  refine wp_seq ?_
  refine wp_seq ?_
  refine wp_region_lit ?_
  refine env_put (d := 6) (v := .int .i64 (i : Int)) E rfl (by decide) rfl (wanted_none rfl _) (run_move rfl (E.get 0 rfl)) fun a E => ?_
  refine env_put (d := 7) (v := .slice (p) l.length cap) E rfl (by decide) rfl (wanted_none rfl _) (run_move rfl (E.get 3 rfl)) fun a E => ?_
  refine env_put (d := 8) (v := .int .i64 (l.length : Int)) E rfl (by decide) rfl (wanted_none rfl _) (run_len22 rfl (E.get 0 rfl)) fun a E => ?_
  refine env_put (d := 9) (v := .bool (decide ((i : Int) < (l.length : Int)))) E rfl (by decide) rfl (wanted_none rfl _) (run_ilss (E.get 2 rfl) (E.get 0 rfl) Try.underlying3 rfl) fun a E => ?_
  refine env_put (d := 10) (v := .bool (decide ((i : Int) < (l.length : Int)))) E rfl (by decide) rfl (wanted_none rfl _) (run_move rfl (E.get 0 rfl)) fun a E => ?_
  cases hq32 : (decide ((i : Int) < (l.length : Int))) with
  | false =>
    rw [hq32] at E
    refine env_skip (d := 11) (g := 4) (s := 10) E rfl (by decide) rfl rfl rfl (by decide) (E.get 0 rfl) fun a E => ?_
    refine env_skip (d := 12) (g := 4) (s := 10) E rfl (by decide) rfl rfl rfl (by decide) (E.get 1 rfl) fun a E => ?_
    refine env_skip (d := 13) (g := 4) (s := 10) E rfl (by decide) rfl rfl rfl (by decide) (E.get 2 rfl) fun a E => ?_
    refine env_skip (d := 14) (g := 4) (s := 10) E rfl (by decide) rfl rfl rfl (by decide) (E.get 3 rfl) fun a E => ?_
    refine env_put (d := 15) (v := .bool false) E rfl (by decide) rfl (wanted_none rfl _) (run_pick_f rfl (E.get 4 rfl) rfl) fun a E => ?_
    refine wpList_nil ?_
    refine then_n ?_
    refine wp_cond_false (E.get 0 rfl) ?_
    refine wp_exit ?_
    refine then_e ?_
    refine then_e ?_
    refine blk_e ?_
    refine then_n ?_
    refine wp_seq ?_
    refine wp_region_lit ?_
    refine env_put (d := 25) (v := .slice (p) l.length cap) E rfl (by decide) rfl (wanted_none rfl _) (run_move rfl (E.get 12 rfl)) fun a E => ?_
    refine env_put (d := 26) (v := .int .i64 (l.length : Int)) E rfl (by decide) rfl (wanted_none rfl _) (run_len22 rfl (E.get 0 rfl)) fun a E => ?_
    refine env_put (d := 27) (v := .int .i64 n) E rfl (by decide) rfl (wanted_none rfl _) (run_move rfl (E.get 15 rfl)) fun a E => ?_
    refine env_put (d := 28) (v := .bool (decide ((l.length : Int) ≤ n))) E rfl (by decide) rfl (wanted_none rfl _) (run_ileq (E.get 1 rfl) (E.get 0 rfl) Try.underlying3 rfl) fun a E => ?_
    refine env_set (d := 4) (v := .bool (decide ((l.length : Int) ≤ n))) E rfl (by decide) (wanted_none rfl _) (run_assign rfl (E.get 0 rfl)) fun a E => ?_
    refine wpList_nil ?_
    refine then_n ?_
    refine wp_ret ?_
    refine ret_tmp (t := 4) rfl E (E.get 0 rfl) ⟨?_, hf⟩
    have hie : i = l.length := by have := of_decide_eq_false hq32; omega
    have hall : (l.all fun o => decide (o.2.1.size ≤ 100)) = true := by
      rw [List.all_eq_true]
      intro o ho
      obtain ⟨t, ht, hte⟩ := List.getElem_of_mem ho
      exact decide_eq_true (hpre.out t o (by omega) (by rw [List.getElem?_eq_getElem ht, hte]))
    unfold shB; rw [hall, Bool.and_true]
  | true =>
    rw [hq32] at E
    have hlt : i < l.length := by have := of_decide_eq_true hq32; omega
    obtain ⟨y, hy⟩ : ∃ y, l[i]? = some y := ⟨_, List.getElem?_eq_getElem hlt⟩
    obtain ⟨g, off, hpe, hgl, hrow⟩ := hs.at hlt
    replace hrow := hrow _ y hy
    refine env_put (d := 11) (v := .slice (p) l.length cap) E rfl (by decide) rfl (w_yes (g := 4) (s := 10) E rfl rfl (by decide) (E.get 0 rfl)) (run_move rfl (E.get 7 rfl)) fun a E => ?_
    refine env_put (d := 12) (v := .int .i64 (l.length : Int)) E rfl (by decide) rfl (w_yes (g := 4) (s := 10) E rfl rfl (by decide) (E.get 1 rfl)) (run_len22 rfl (E.get 0 rfl)) fun a E => ?_
    refine env_put (d := 13) (v := .int .i64 n) E rfl (by decide) rfl (w_yes (g := 4) (s := 10) E rfl rfl (by decide) (E.get 2 rfl)) (run_move rfl (E.get 10 rfl)) fun a E => ?_
    refine env_put (d := 14) (v := .bool (decide ((l.length : Int) ≤ n))) E rfl (by decide) rfl (w_yes (g := 4) (s := 10) E rfl rfl (by decide) (E.get 3 rfl)) (run_ileq (E.get 1 rfl) (E.get 0 rfl) Try.underlying3 rfl) fun a E => ?_
    refine env_put (d := 15) (v := .bool (decide ((l.length : Int) ≤ n))) E rfl (by decide) rfl (wanted_none rfl _) (run_pick_t rfl (E.get 4 rfl) (E.get 0 rfl)) fun a E => ?_
    refine wpList_nil ?_
    refine then_n ?_
    cases hq33 : (decide ((l.length : Int) ≤ n)) with
    | false =>
      rw [hq33] at E
      refine wp_cond_false (E.get 0 rfl) ?_
      refine wp_exit ?_
      refine then_e ?_
      refine then_e ?_
      refine blk_e ?_
      refine then_n ?_
      refine wp_seq ?_
      refine wp_region_lit ?_
      refine env_put (d := 25) (v := .slice (p) l.length cap) E rfl (by decide) rfl (wanted_none rfl _) (run_move rfl (E.get 12 rfl)) fun a E => ?_
      refine env_put (d := 26) (v := .int .i64 (l.length : Int)) E rfl (by decide) rfl (wanted_none rfl _) (run_len22 rfl (E.get 0 rfl)) fun a E => ?_
      refine env_put (d := 27) (v := .int .i64 n) E rfl (by decide) rfl (wanted_none rfl _) (run_move rfl (E.get 15 rfl)) fun a E => ?_
      refine env_put (d := 28) (v := .bool false) E rfl (by decide) rfl (wanted_none rfl _) ((run_ileq (E.get 1 rfl) (E.get 0 rfl) Try.underlying3 rfl).trans (by rw [hq33] <;> rfl)) fun a E => ?_
      refine env_set (d := 4) (v := .bool false) E rfl (by decide) (wanted_none rfl _) (run_assign rfl (E.get 0 rfl)) fun a E => ?_
      refine wpList_nil ?_
      refine then_n ?_
      refine wp_ret ?_
      refine ret_tmp (t := 4) rfl E (E.get 0 rfl) ⟨?_, hf⟩
      rw [show shB l n = false from by unfold shB; rw [hq33]; rfl]
    | true =>
      rw [hq33] at E
      refine wp_cond_true (E.get 0 rfl) ?_
      refine wp_skip ?_
      refine then_n ?_
      refine wp_seq ?_
      refine wp_block ?_
      refine wp_seq ?_
      refine wp_region_lit ?_
      refine env_put (d := 18) (v := .slice (p) l.length cap) E rfl (by decide) rfl (wanted_none rfl _) (run_move rfl (E.get 12 rfl)) fun a E => ?_
      refine env_put (d := 19) (v := .int .i64 (i : Int)) E rfl (by decide) rfl (wanted_none rfl _) (run_move rfl (E.get 11 rfl)) fun a E => ?_
      refine env_put (d := 20) (v := .pointer (some ⟨g, (off + i * 6), none⟩)) E rfl (by decide) rfl (wanted_none rfl _) (run_index22 (i := i) rfl ((E.get 1 rfl).trans (by rw [hpe])) (E.get 0 rfl) hlt) fun a E => ?_
      refine env_put (d := 21) (v := .pointer (some ⟨g, ((off + i * 6) + 1), none⟩)) E rfl (by decide) rfl (wanted_none rfl _) (fa35_1 rfl (E.get 0 rfl)) fun a E => ?_
      refine env_put (d := 22) (v := .string y.2.1) E rfl (by decide) rfl (wanted_none rfl _) (run_lds rfl (E.get 0 rfl) (hrow 1 _ rfl)) fun a E => ?_
      refine env_put (d := 23) (v := .int .i64 (y.2.1.size : Int)) E rfl (by decide) rfl (wanted_none rfl _) (run_len9 rfl (E.get 0 rfl)) fun a E => ?_
      refine env_put (d := 24) (v := .bool (decide (100 < (y.2.1.size : Int)))) E rfl (by decide) rfl (wanted_none rfl _) (run_igtr (E.get 0 rfl) rfl Try.underlying3 rfl) fun a E => ?_
      refine wpList_nil ?_
      refine then_n ?_
      cases hq34 : (decide (100 < (y.2.1.size : Int))) with
      | false =>
        rw [hq34] at E
        refine wp_cond_false (E.get 0 rfl) ?_
        refine wp_skip ?_
        refine blk_n ?_
        refine then_n ?_
        refine wp_region_lit ?_
        refine env_put (d := 16) (v := .int .i64 (i : Int)) E rfl (by decide) rfl (wanted_none rfl _) (run_move rfl (E.get 17 rfl)) fun a E => ?_
        refine env_put (d := 17) (v := .int .i64 ((i : Int) + 1)) E rfl (by decide) rfl (wanted_none rfl _) (run_iadd Try.underlying3 (E.get 0 rfl) rfl (by omega) (by omega) rfl) fun a E => ?_
        refine env_set (d := 5) (v := .int .i64 ((i : Int) + 1)) E rfl (by decide) (wanted_none rfl _) (run_assign rfl (E.get 0 rfl)) fun a E => ?_
        refine wpList_nil ?_
        refine then_n ?_
        refine ⟨⟨i + 1, E.of ⟨E.get 0 rfl, E.get 20 rfl, E.get 21 rfl, E.get 22 rfl, trivial⟩, hlt, fun t z ht hz => ?_, hs, hf⟩, ?_⟩
        · by_cases hti : t < i
          · exact hpre.out t z hti hz
          · obtain rfl : t = i := by omega
            rw [hy] at hz; obtain rfl := Option.some.inj hz
            have := of_decide_eq_false hq34; omega
        · rw [E.get 0 rfl]; simp only [intOf]; omega
      | true =>
        rw [hq34] at E
        refine wp_cond_true (E.get 0 rfl) ?_
        refine wp_seq ?_
        refine wp_region_lit ?_
        refine env_set (d := 4) (v := .bool false) E rfl (by decide) (wanted_none rfl _) (run_assign rfl rfl) fun a E => ?_
        refine wpList_nil ?_
        refine then_n ?_
        refine wp_ret ?_
        refine blk_r ?_
        refine then_r ?_
        refine then_r ?_
        refine blk_r ?_
        refine then_r ?_
        refine ret_tmp (t := 4) rfl E (E.get 0 rfl) ⟨?_, hf⟩
        rw [show shB l n = false from ?_]
        cases hsb : shB l n with
        | false => rfl
        | true => have h1 := shB.id hsb y (List.mem_of_getElem? hy); have h2 := of_decide_eq_true hq34; omega
set_option maxRecDepth 100000 in
set_option maxHeartbeats 4000000 in
theorem do_calls {w : World} {B p N : Nat} {T : Nat → Prop} {m : ByteArray → Option Bx} (h : Ix w B p N T m) (hN : N ≤ 100000) (o : Wo) (hsz : o.2.1.size ≤ maxLen) : Calls Try.prog 15 #[.pointer (some ⟨p, 0, none⟩), .agg (opC o)] w fun e w' => e = .returned (.int .i64 (doE m o)) ∧ IxW w B p (N + 1) T (doM m o) w' := by
  refine wp_start2 Try.func15 rfl rfl (n := 17) (by decide) fun a E => ?_
  have hf : Fr (fun _ => False) w w := Fr.refl _ _
  refine wp_seq ?_
  refine wp_region_lit ?_
  refine env_box35 (d := 3) E rfl (by decide) rfl (wanted_none rfl _) rfl (E.get 1 rfl) fun a w1 b35 eb35 hb35 f1 E => ?_
  have h := Ix.fr h f1 (fun _ _ h => h)
  have hf := hf.trans f1
  clear f1
  refine env_put (d := 4) (v := .int .i64 0) E rfl (by decide) rfl (wanted_none rfl _) (run_assign rfl rfl) fun a E => ?_
  refine wpList_nil ?_
  refine then_n ?_
  refine wp_seq ?_
  refine wp_seq ?_
  refine wp_region_lit ?_
  refine env_put (d := 5) (v := .pointer (some ⟨b35, 0, none⟩)) E rfl (by decide) rfl (wanted_none rfl _) (fa35_0 rfl (E.get 1 rfl)) fun a E => ?_
  refine env_put (d := 6) (v := .bool o.1) E rfl (by decide) rfl (wanted_none rfl _) (run_ldb rfl (E.get 0 rfl) (bx hb35 0 rfl)) fun a E => ?_
  refine wpList_nil ?_
  refine then_n ?_
  cases hq36 : o.1 with
  | false =>
    rw [hq36] at E
    refine wp_cond_false (E.get 0 rfl) ?_
    refine wp_skip ?_
    refine then_n ?_
    refine wp_seq ?_
    refine wp_region_lit ?_
    refine env_put (d := 11) (v := .pointer (some ⟨p, 0, none⟩)) E rfl (by decide) rfl (wanted_none rfl _) (run_move rfl (E.get 4 rfl)) fun a E => ?_
    refine env_put (d := 12) (v := .pointer (some ⟨b35, 1, none⟩)) E rfl (by decide) rfl (wanted_none rfl _) (fa35_1 rfl (E.get 4 rfl)) fun a E => ?_
    refine env_put (d := 13) (v := .string o.2.1) E rfl (by decide) rfl (wanted_none rfl _) (run_lds rfl (E.get 0 rfl) (bx hb35 1 rfl)) fun a E => ?_
    refine env_put (d := 14) (v := .pointer (some ⟨b35, 2, none⟩)) E rfl (by decide) rfl (wanted_none rfl _) (fa35_2 rfl (E.get 6 rfl)) fun a E => ?_
    refine env_put (d := 15) (v := .agg (bxC o.2.2)) E rfl (by decide) rfl (wanted_none rfl _) (run_ld26 rfl (E.get 0 rfl) (rng4 (p := o.2.2) hb35 2 rfl rfl rfl rfl)) fun a E => ?_
    refine env_call (d := 16) (v := .int .i64 (putE m o.2.1 o.2.2)) E rfl (by decide) rfl (wanted_none rfl _) (run_call3 (enters_of Try.func29 (by kernel_rfl) rfl) rfl rfl (E.get 4 rfl) (E.get 2 rfl) (E.get 0 rfl)) (ix_put h hN o.2.1 hsz o.2.2) fun a w2 hW E => ?_
    refine env_set (d := 4) (v := .int .i64 (putE m o.2.1 o.2.2)) E rfl (by decide) (wanted_none rfl _) (run_assign rfl (E.get 0 rfl)) fun a E => ?_
    refine wpList_nil ?_
    refine then_n ?_
    refine wp_ret ?_
    refine ret_tmp (t := 4) rfl E (E.get 0 rfl) ⟨by unfold doE; rw [hq36]; rfl, ?_⟩
    unfold doM; rw [hq36]
    exact ⟨hW.1, (hf.mono fun _ _ h => h.elim).trans hW.2⟩
  | true =>
    rw [hq36] at E
    refine wp_cond_true (E.get 0 rfl) ?_
    refine wp_seq ?_
    refine wp_region_lit ?_
    refine env_put (d := 7) (v := .pointer (some ⟨p, 0, none⟩)) E rfl (by decide) rfl (wanted_none rfl _) (run_move rfl (E.get 4 rfl)) fun a E => ?_
    refine env_put (d := 8) (v := .pointer (some ⟨b35, 1, none⟩)) E rfl (by decide) rfl (wanted_none rfl _) (fa35_1 rfl (E.get 4 rfl)) fun a E => ?_
    refine env_put (d := 9) (v := .string o.2.1) E rfl (by decide) rfl (wanted_none rfl _) (run_lds rfl (E.get 0 rfl) (bx hb35 1 rfl)) fun a E => ?_
    refine env_call (d := 10) (v := .int .i64 (dropE m o.2.1)) E rfl (by decide) rfl (wanted_none rfl _) (run_call2 (enters_of Try.func30 (by kernel_rfl) rfl) rfl rfl (E.get 2 rfl) (E.get 0 rfl)) (ix_drop h o.2.1 hsz) fun a w2 hW E => ?_
    refine env_set (d := 4) (v := .int .i64 (dropE m o.2.1)) E rfl (by decide) (wanted_none rfl _) (run_assign rfl (E.get 0 rfl)) fun a E => ?_
    refine wpList_nil ?_
    refine then_n ?_
    refine wp_ret ?_
    refine then_r ?_
    refine ret_tmp (t := 4) rfl E (E.get 0 rfl) ⟨by unfold doE; rw [if_pos hq36], ?_⟩
    unfold doM; rw [if_pos hq36]
    exact ⟨hW.1.mono (Nat.le_succ _), (hf.mono fun _ _ h => h.elim).trans hW.2⟩
set_option maxRecDepth 100000 in
set_option maxHeartbeats 4000000 in
theorem built_calls {w : World} {cap : Nat} {p : Option Addr} {l : List Wo} (hs : srcAt opL 6 w w.heap.size p l) (hsh : shB l 80 = true) : Calls Try.prog 23 #[.slice p l.length cap] w fun e w' => ∃ q T, e = .returned (.pointer (some ⟨q, 0, none⟩)) ∧ Ix w' w.heap.size q l.length T (mOf l) ∧ Fr (fun _ => False) w w' := by
  refine wp_start1 Try.func23 rfl rfl (n := 19) (by decide) fun a E => ?_
  have hf : Fr (fun _ => False) w w := Fr.refl _ _
  refine wp_seq ?_
  refine wp_region_lit ?_
  refine env_put (d := 2) (v := (Value.pointer none)) E rfl (by decide) rfl (wanted_none rfl _) (run_assign rfl rfl) fun a E => ?_
  refine wpList_nil ?_
  refine then_n ?_
  refine wp_seq ?_
  refine wp_region_lit ?_
  have hsz0 := hf.size
  refine env_callv (d := 5) (R := fun u w8 => ∃ q T, u = .pointer (some ⟨q, 0, none⟩) ∧ Ix w8 w.heap.size q 0 T (fun _ => none) ∧ Fr (fun _ => False) w w8) E rfl (by decide) rfl (wanted_none rfl _) (run_call0 (enters_of Try.func11 (by kernel_rfl) rfl) rfl rfl) ((ix_new w).mono fun e w8 ⟨q, T, h1, h2, h3⟩ => ⟨_, h1, q, T, rfl, h2, h3⟩) fun a w1 u9 hR E => ?_
  obtain ⟨q, T, rfl, hX, f1⟩ := hR
  have hX := hX.base hsz0
  clear hsz0
  have hs := hs.fr f1 (fun _ _ h => h)
  have hf := hf.trans f1
  clear f1
  refine env_put (d := 3) (v := .pointer (some ⟨q, 0, none⟩)) E rfl (by decide) rfl (wanted_none rfl _) (run_assign rfl (E.get 0 rfl)) fun a E => ?_
  refine wpList_nil ?_
  refine then_n ?_
  refine wp_seq ?_
  refine wp_seq ?_
  refine wp_region_lit ?_
  refine env_put (d := 4) (v := .int .i64 0) E rfl (by decide) rfl (wanted_none rfl _) (run_assign rfl rfl) fun a E => ?_
  refine wpList_nil ?_
  refine then_n ?_
  refine wp_block ?_
  refine wp_loop (fun a w2 => ∃ (i : Nat), Env 19 [(4, .int .i64 (i : Int)), (3, .pointer (some ⟨q, 0, none⟩)), (0, .slice (p) l.length cap)] a ∧ i ≤ l.length ∧ Ix w2 w.heap.size q i T (mOf (l.take i)) ∧ srcAt opL 6 w2 w.heap.size p l ∧ Fr (fun _ => False) w w2) (fun a _ => l.length - (intOf (a.eval (.tmp 4))).toNat) ?_ ?_
  · exact ⟨0, E.of ⟨E.get 0 rfl, E.get 1 rfl, E.get 4 rfl, trivial⟩, Nat.zero_le _, hX, hs, hf⟩
  clear E
  rintro a w2 ⟨i, E, hi, hX, hs, hf⟩
  have hmu : l.length - (intOf (a.eval (.tmp 4))).toNat = l.length - i := by rw [E.get 0 rfl]; first | rfl | (simp [intOf]; done) | (simp only [intOf]; omega)
  rw [hmu]
  clear hmu
  have hlen := shB.len hsh
  refine wp_seq ?_
  refine wp_seq ?_
  refine wp_region_lit ?_
  refine env_put (d := 6) (v := .int .i64 (i : Int)) E rfl (by decide) rfl (wanted_none rfl _) (run_move rfl (E.get 0 rfl)) fun a E => ?_
  refine env_put (d := 7) (v := .slice (p) l.length cap) E rfl (by decide) rfl (wanted_none rfl _) (run_move rfl (E.get 3 rfl)) fun a E => ?_
  refine env_put (d := 8) (v := .int .i64 (l.length : Int)) E rfl (by decide) rfl (wanted_none rfl _) (run_len22 rfl (E.get 0 rfl)) fun a E => ?_
  refine env_put (d := 9) (v := .bool (decide ((i : Int) < (l.length : Int)))) E rfl (by decide) rfl (wanted_none rfl _) (run_ilss (E.get 2 rfl) (E.get 0 rfl) Try.underlying3 rfl) fun a E => ?_
  refine wpList_nil ?_
  refine then_n ?_
  cases hq38 : (decide ((i : Int) < (l.length : Int))) with
  | false =>
    rw [hq38] at E
    have hie : i = l.length := by have := of_decide_eq_false hq38; omega
    refine wp_cond_false (E.get 0 rfl) ?_
    refine wp_exit ?_
    refine then_e ?_
    refine then_e ?_
    refine blk_e ?_
    refine then_n ?_
    refine wp_seq ?_
    refine wp_region_lit ?_
    refine env_put (d := 18) (v := .pointer (some ⟨q, 0, none⟩)) E rfl (by decide) rfl (wanted_none rfl _) (run_move rfl (E.get 5 rfl)) fun a E => ?_
    refine env_put (d := 2) (v := .pointer (some ⟨q, 0, none⟩)) E rfl (by decide) rfl (wanted_none rfl _) (run_assign rfl (E.get 0 rfl)) fun a E => ?_
    refine wpList_nil ?_
    refine then_n ?_
    refine wp_ret ?_
    rw [hie, List.take_of_length_le (Nat.le_refl _)] at hX
    exact ret_tmp (t := 2) rfl E (E.get 0 rfl) ⟨_, _, rfl, hX, hf⟩
  | true =>
    rw [hq38] at E
    have hlt : i < l.length := by have := of_decide_eq_true hq38; omega
    obtain ⟨y, hy⟩ : ∃ y, l[i]? = some y := ⟨_, List.getElem?_eq_getElem hlt⟩
    obtain ⟨g, off, hpe, hgl, hrow⟩ := hs.at hlt
    replace hrow := hrow _ y hy
    have hsz : y.2.1.size ≤ maxLen := by have := shB.id hsh y (List.mem_of_getElem? hy); unfold maxLen; omega
    refine wp_cond_true (E.get 0 rfl) ?_
    refine wp_skip ?_
    refine then_n ?_
    refine wp_seq ?_
    refine wp_block ?_
    refine wp_region_lit ?_
    refine env_put (d := 12) (v := .pointer (some ⟨q, 0, none⟩)) E rfl (by decide) rfl (wanted_none rfl _) (run_move rfl (E.get 5 rfl)) fun a E => ?_
    refine env_put (d := 13) (v := .slice (p) l.length cap) E rfl (by decide) rfl (wanted_none rfl _) (run_move rfl (E.get 7 rfl)) fun a E => ?_
    refine env_put (d := 14) (v := .int .i64 (i : Int)) E rfl (by decide) rfl (wanted_none rfl _) (run_move rfl (E.get 6 rfl)) fun a E => ?_
    refine env_put (d := 15) (v := .pointer (some ⟨g, (off + i * 6), none⟩)) E rfl (by decide) rfl (wanted_none rfl _) (run_index22 (i := i) rfl ((E.get 1 rfl).trans (by rw [hpe])) (E.get 0 rfl) hlt) fun a E => ?_
    refine env_put (d := 16) (v := .agg (opC y)) E rfl (by decide) rfl (wanted_none rfl _) (run_ld35 rfl (E.get 0 rfl) hrow) fun a E => ?_
    refine env_call (d := 17) (v := .int .i64 (doE (mOf (l.take i)) y)) E rfl (by decide) rfl (wanted_none rfl _) (run_call2 (enters_of Try.func15 (by kernel_rfl) rfl) rfl rfl (E.get 4 rfl) (E.get 0 rfl)) (do_calls hX (by omega) y hsz) fun a w3 hW E => ?_
    obtain ⟨hX3, f3⟩ := hW
    rw [← mOf_step hy] at hX3
    have hf := hf.trans' f3 (fun r hr e => by have := (hX.lt r e).1; omega)
    have hs := hs.fr f3 (fun r hr e => by have := (hX.lt r e).1; omega)
    have hX := hX3
    clear hX3 f3
    refine wpList_nil ?_
    refine blk_n ?_
    refine then_n ?_
    refine wp_region_lit ?_
    refine env_put (d := 10) (v := .int .i64 (i : Int)) E rfl (by decide) rfl (wanted_none rfl _) (run_move rfl (E.get 10 rfl)) fun a E => ?_
    refine env_put (d := 11) (v := .int .i64 ((i : Int) + 1)) E rfl (by decide) rfl (wanted_none rfl _) (run_iadd Try.underlying3 (E.get 0 rfl) rfl (by omega) (by omega) rfl) fun a E => ?_
    refine env_set (d := 4) (v := .int .i64 ((i : Int) + 1)) E rfl (by decide) (wanted_none rfl _) (run_assign rfl (E.get 0 rfl)) fun a E => ?_
    refine wpList_nil ?_
    refine then_n ?_
    refine ⟨⟨i + 1, E.of ⟨E.get 0 rfl, E.get 13 rfl, E.get 14 rfl, trivial⟩, hlt, hX, hs, hf⟩, ?_⟩
    rw [E.get 0 rfl]; simp only [intOf]; omega
end Go.Proofs.Ytcafnanbdmapgaa
set_option linter.unusedVariables false
set_option linter.unusedSimpArgs false
namespace Go.Proofs.Ytcafnanbdmapgaa
open Go.RowKit Go.Pl

/-- What an index owns afterwards: what it owned, and new blocks. -/
def TT (w : World) (T T' : Nat → Prop) : Prop := ∀ k, T' k → T k ∨ w.heap.size ≤ k
theorem TT.refl (w : World) (T : Nat → Prop) : TT w T T := fun _ h => .inl h
/-- A row of Ids that no index owns. -/
def Rw (w : World) (T : Nat → Prop) (v : Value) (R : List ByteArray) : Prop := R.length ≤ 1000000 ∧ ∃ C, oStr w C v R ∧ ∀ k, v.ownBlock = some k → ¬ T k
/-- A box in a cell that no index owns. -/
def Cw (w : World) (T : Nat → Prop) (b : Nat) (x : Bx) : Prop := bxB w b x ∧ ¬ T b
section
variable {w w' : World} {T T' : Nat → Prop} {v v' : Value} {R R' : List ByteArray} {b : Nat} {x : Bx}
theorem Rw.q (h : Rw w T v R) (hf : Fr T w w') (ht : TT w T T') : Rw w' T' v R := by
  obtain ⟨h1, C, h2, h3⟩ := h
  refine ⟨h1, C, h2.fr hf h3, fun k hk ht' => ?_⟩
  rcases ht k ht' with h | h
  · exact h3 k hk h
  · have := (h2.lt hk).2; omega
theorem Rw.fr (h : Rw w T v R) (hf : Fr (fun _ => False) w w') : Rw w' T v R := h.q (hf.mono fun _ _ h => h.elim) (TT.refl _ _)
theorem Rw.src (h : Rw w T v R) : ∃ p cap, v = .slice p R.length cap ∧ srcAt strC 1 w w.heap.size p R ∧ R.length ≤ 1000000 := by
  obtain ⟨h1, C, h2, _⟩ := h
  obtain ⟨p, cap, h3, _, _, h4, _⟩ := h2.src strC_len
  exact ⟨p, cap, h3, h4, h1⟩
theorem Cw.q (h : Cw w T b x) (hf : Fr T w w') (ht : TT w T T') : Cw w' T' b x := by
  refine ⟨hf.obj h.1 h.2, fun k => ?_⟩
  rcases ht b k with h1 | h1
  · exact h.2 h1
  · have := lt_of_blk h.1; omega
theorem Cw.fr (h : Cw w T b x) (hf : Fr (fun _ => False) w w') : Cw w' T b x := h.q (hf.mono fun _ _ h => h.elim) (TT.refl _ _)
theorem same_rw (h : Rw w T v R) (k : Rw w T' v' R') : Calls Try.prog 18 #[v, v'] w fun e w' => e = .returned (.bool (decide (R = R'))) ∧ Fr (fun _ => False) w w' := by
  obtain ⟨p, cap, rfl, h1, h2⟩ := h.src
  obtain ⟨q, cap2, rfl, k1, _⟩ := k.src
  exact same_calls h1 k1 (by omega)
theorem has_rw (h : Rw w T v R) (s : ByteArray) : Calls Try.prog 26 #[v, .string s] w fun e w' => e = .returned (.bool (inL R s)) ∧ Fr (fun _ => False) w w' := by
  obtain ⟨p, cap, rfl, h1, h2⟩ := h.src
  exact has_calls h1 (by omega) s
theorem rw_nil : Rw w T (.slice none 0 0) [] := ⟨Nat.zero_le _, 0, ow_nil _, fun k hk => by cases hk⟩
end
section
variable {w : World} {B p N : Nat} {T : Nat → Prop} {m : ByteArray → Option Bx}
theorem Ix.enlen (h : Ix w B p N T m) {L : List En} (hL : EnOf L m) : L.length ≤ N := by
  obtain ⟨⟨mb, S, rv, pk, h1, _⟩, _⟩ := h
  exact hL.len h1.hm
/-- What a question leaves. -/
def IxS (w : World) (B p N : Nat) (T : Nat → Prop) (m : ByteArray → Option Bx) (T' : Nat → Prop) (w' : World) : Prop := Ix w' B p N T' m ∧ Fr T w w' ∧ TT w T T'
theorem in_q (h : Ix w B p N T m) (hN : N ≤ 100000) (b : Bx) : Calls Try.prog 19 #[.pointer (some ⟨p, 0, none⟩), .agg (bxC b)] w fun e w' => ∃ v, e = .returned v ∧ ∃ R T', InS m b R ∧ IxS w B p N T m T' w' ∧ Rw w' T' v R := by
  refine (ix_in h hN b).mono ?_
  rintro e w' ⟨v, R, h1, h2, T', h3, h4, h5, ⟨C, h6, h7⟩, h8⟩
  have := h2.len h
  exact ⟨v, h1, R, T', h2, ⟨h3, h4, h5⟩, by omega, C, h7, h8⟩
theorem near_q (h : Ix w B p N T m) (hN : N ≤ 100000) (pt : Pt) (n : Int) : Calls Try.prog 21 #[.pointer (some ⟨p, 0, none⟩), .agg (ptC pt), .int .i64 n] w fun e w' => ∃ v, e = .returned v ∧ ∃ R T', NearS m pt n R ∧ IxS w B p N T m T' w' ∧ Rw w' T' v R := by
  refine (ix_near h hN pt n).mono ?_
  rintro e w' ⟨v, R, h1, h2, T', h3, h4, h5, ⟨C, h6, h7⟩, h8⟩
  refine ⟨v, h1, R, T', h2, ⟨h3, h4, h5⟩, ?_, C, h7, h8⟩
  unfold NearS at h2
  split at h2
  · obtain ⟨L, hL, rfl⟩ := h2
    have := h.enlen hL
    have h9 := (srtN_perm pt L).length_eq
    rw [List.length_map, List.length_take]
    omega
  · rw [h2]; exact Nat.zero_le _
end
section
variable {o : Oper} {w : World} {ρ : Operand → Value} {x y : Operand} {s t : ByteArray}
theorem run_two42 (ho : o.op = .buildSlice 42 2 #[(0, x), (1, y)]) (hx : ρ x = .string s) (hy : ρ y = .string t) : (execOp ρ o).run Try.prog w = .ok (.value (.slice (some ⟨w.heap.size, 0, none⟩) 2 2)) (w.alloc (.cells #[.string s, .string t] 9)) := by
  simp [execOp, ho, hx, hy, go_sem]
theorem rw_two {T : Nat → Prop} (hT : ∀ k, T k → k < w.heap.size) : Rw (w.alloc (.cells #[.string s, .string t] 9)) T (.slice (some ⟨w.heap.size, 0, none⟩) 2 2) [s, t] := by
  refine ⟨by simp, w.heap.size, ⟨rfl, .inr ⟨w.heap.size, 2, _, rfl, Nat.le_refl _, blk_alloc_new _ _, Nat.le_refl _, by unfold maxLen; omega, rfl, rfl⟩⟩, fun k hk ht => ?_⟩
  have h1 := hT k ht
  cases hk
  exact Nat.lt_irrefl _ h1
end
end Go.Proofs.Ytcafnanbdmapgaa
