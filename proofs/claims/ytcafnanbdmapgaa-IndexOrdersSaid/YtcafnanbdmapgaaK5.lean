/- The index: Box, Put, Drop, New. -/
import Derived.Test.YtcafnanbdmapgaaK3
set_option linter.unusedVariables false
set_option linter.unusedSimpArgs false
namespace Go.Proofs.Ytcafnanbdmapgaa
open Go.RowKit Go.Pl

theorem run_pn29 {o : Oper} {w : World} {ρ : Operand → Value} {x y : Operand} {a : Addr} (ho : o.op = .binOp .eql 29 x y 29) (hx : ρ x = .pointer (some a)) (hy : ρ y = .pointer none) : (execOp ρ o).run Try.prog w = .ok (.value (.bool false)) w := by
  simp [execOp, ho, hx, hy, go_sem]

set_option maxRecDepth 100000 in
set_option maxHeartbeats 4000000 in
theorem box_p_calls {w : World} {p mb N : Nat} {S : Nat → Prop} {m : ByteArray → Option Bx} {rv : Value} {pk : Bool} (h : IxAt w p mb N S m rv pk) (s0 : ByteArray) (hsz : s0.size ≤ maxLen) : Calls Try.prog 16 #[.pointer (some ⟨p, 0, none⟩), .string s0] w fun e w' => e = .returned (.tuple #[.agg (bxC ((m s0).getD ((0, 0), (0, 0)))), .bool (m s0).isSome]) ∧ Fr (fun _ => False) w w' := by
  refine wp_start2 Try.func16 rfl rfl (n := 22) (by decide) fun a E => ?_
  have hf : Fr (fun _ => False) w w := Fr.refl _ _
  have hpl : p < w.heap.size := lt_of_blk h.hp
  have hml : mb < w.heap.size := h.hm.lt
  have hσ : ∀ k, S k → k < w.heap.size := h.lt
  refine wp_seq ?_
  refine wp_region_lit ?_
  have hfz := hf.size
  refine env_alloc26 (d := 4) E rfl (by decide) rfl (wanted_none rfl _) rfl fun a w1 b31 eb31 hb31 f1 E => ?_
  have h := IxAt.fr h f1 id id (fun _ _ h => h)
  have hf := hf.trans f1
  clear f1
  have hnb31 : w.heap.size ≤ b31 := by omega
  clear hfz eb31
  refine env_put (d := 5) (v := .bool false) E rfl (by decide) rfl (wanted_none rfl _) (run_assign rfl rfl) fun a E => ?_
  refine wpList_nil ?_
  refine then_n ?_
  refine wp_seq ?_
  refine wp_seq ?_
  refine wp_region_lit ?_
  refine env_put (d := 8) (v := .pointer (some ⟨p, 0, none⟩)) E rfl (by decide) rfl (wanted_none rfl _) (run_move rfl (E.get 2 rfl)) fun a E => ?_
  refine env_put (d := 9) (v := .bool false) E rfl (by decide) rfl (wanted_none rfl _) (run_pn29 rfl (E.get 0 rfl) rfl) fun a E => ?_
  refine wpList_nil ?_
  refine then_n ?_
  refine wp_cond_false (E.get 0 rfl) ?_
  refine wp_skip ?_
  refine then_n ?_
  refine wp_seq ?_
  cases hms : m s0 with
  | none =>
    refine wp_region_lit ?_
    refine env_put (d := 12) (v := .pointer (some ⟨p, 0, none⟩)) E rfl (by decide) rfl (wanted_none rfl _) (run_move rfl (E.get 4 rfl)) fun a E => ?_
    refine env_put (d := 13) (v := .pointer (some ⟨p, 0, none⟩)) E rfl (by decide) rfl (wanted_none rfl _) (run_nilchk rfl (E.get 0 rfl)) fun a E => ?_
    refine env_put (d := 14) (v := .pointer (some ⟨p, 0, none⟩)) E rfl (by decide) rfl (wanted_none rfl _) (fa61_0 rfl (E.get 0 rfl)) fun a E => ?_
    refine env_put (d := 15) (v := .map (some mb)) E rfl (by decide) rfl (wanted_none rfl _) (run_ld58 rfl (E.get 0 rfl) (bx h.hp 0 rfl)) fun a E => ?_
    refine env_put (d := 16) (v := .string s0) E rfl (by decide) rfl (wanted_none rfl _) (run_move rfl (E.get 9 rfl)) fun a E => ?_
    refine env_put (d := 17) (v := .tuple #[.agg (bxC ((0, 0), (0, 0))), .bool false]) E rfl (by decide) rfl (wanted_none rfl _) ((run_look58 h.hm hsz rfl (E.get 1 rfl) (E.get 0 rfl)).trans (by rw [hms] <;> rfl)) fun a E => ?_
    refine env_put (d := 11) (v := .tuple #[.agg (bxC ((0, 0), (0, 0))), .bool false]) E rfl (by decide) rfl (wanted_none rfl _) (run_move rfl (E.get 0 rfl)) fun a E => ?_
    refine env_put (d := 18) (v := .agg (bxC ((0, 0), (0, 0)))) E rfl (by decide) rfl (wanted_none rfl _) (run_ext0 rfl (E.get 0 rfl)) fun a E => ?_
    refine env_put (d := 19) (v := .bool false) E rfl (by decide) rfl (wanted_none rfl _) (run_ext1 rfl (E.get 1 rfl)) fun a E => ?_
    have hlb31 := lt_of_blk hb31
    have hfz := hf.size
    refine env_alloc26 (d := 6) E rfl (by decide) rfl (wanted_none rfl _) rfl fun a w1 b32 eb32 hb32 f1 E => ?_
    have h := IxAt.fr h f1 id id (fun _ _ h => h)
    have hb31 := f1.obj hb31 id
    have hf := hf.trans f1
    clear f1
    have hneb31b32 : b31 < b32 := by omega
    clear hlb31
    have hnb32 : w.heap.size ≤ b32 := by omega
    clear hfz eb32
    refine env_st26 E rfl (wanted_none rfl _) rfl (E.get 0 rfl) (E.get 2 rfl) hb32 fun w1 hb32 f1 E => ?_
    have h := IxAt.fr h f1 (by omega) (by omega) (fun k hk => by have := hσ k hk; omega)
    have hb31 := f1.obj hb31 (fun e => by omega)
    have hf := hf.trans' f1 (fun r hr e => by omega)
    clear f1
    refine env_put (d := 7) (v := .bool false) E rfl (by decide) rfl (wanted_none rfl _) (run_assign rfl (E.get 1 rfl)) fun a E => ?_
    refine wpList_nil ?_
    refine then_n ?_
    refine wp_seq ?_
    refine wp_region_lit ?_
    refine env_put (d := 20) (v := .agg (bxC ((0, 0), (0, 0)))) E rfl (by decide) rfl (wanted_none rfl _) (run_ld26 rfl (E.get 1 rfl) (rng4 (p := ((0, 0), (0, 0))) hb32 0 rfl rfl rfl rfl)) fun a E => ?_
    refine env_put (d := 21) (v := .bool false) E rfl (by decide) rfl (wanted_none rfl _) (run_move rfl (E.get 1 rfl)) fun a E => ?_
    refine env_st26 E rfl (wanted_none rfl _) rfl (E.get 16 rfl) (E.get 1 rfl) hb31 fun w1 hb31 f1 E => ?_
    have h := IxAt.fr h f1 (by omega) (by omega) (fun k hk => by have := hσ k hk; omega)
    have hb32 := f1.obj hb32 (fun e => by omega)
    have hf := hf.trans' f1 (fun r hr e => by omega)
    clear f1
    refine env_set (d := 5) (v := .bool false) E rfl (by decide) (wanted_none rfl _) (run_assign rfl (E.get 0 rfl)) fun a E => ?_
    refine wpList_nil ?_
    refine then_n ?_
    refine wp_ret ?_
    refine ret_cell2 (t := 4) (u := 5) rfl E (E.get 16 rfl) (E.get 0 rfl) hb31 ⟨by simp [hms], hf⟩
  | some bb =>
    refine wp_region_lit ?_
    refine env_put (d := 12) (v := .pointer (some ⟨p, 0, none⟩)) E rfl (by decide) rfl (wanted_none rfl _) (run_move rfl (E.get 4 rfl)) fun a E => ?_
    refine env_put (d := 13) (v := .pointer (some ⟨p, 0, none⟩)) E rfl (by decide) rfl (wanted_none rfl _) (run_nilchk rfl (E.get 0 rfl)) fun a E => ?_
    refine env_put (d := 14) (v := .pointer (some ⟨p, 0, none⟩)) E rfl (by decide) rfl (wanted_none rfl _) (fa61_0 rfl (E.get 0 rfl)) fun a E => ?_
    refine env_put (d := 15) (v := .map (some mb)) E rfl (by decide) rfl (wanted_none rfl _) (run_ld58 rfl (E.get 0 rfl) (bx h.hp 0 rfl)) fun a E => ?_
    refine env_put (d := 16) (v := .string s0) E rfl (by decide) rfl (wanted_none rfl _) (run_move rfl (E.get 9 rfl)) fun a E => ?_
    refine env_put (d := 17) (v := .tuple #[.agg (bxC bb), .bool true]) E rfl (by decide) rfl (wanted_none rfl _) ((run_look58 h.hm hsz rfl (E.get 1 rfl) (E.get 0 rfl)).trans (by rw [hms] <;> rfl)) fun a E => ?_
    refine env_put (d := 11) (v := .tuple #[.agg (bxC bb), .bool true]) E rfl (by decide) rfl (wanted_none rfl _) (run_move rfl (E.get 0 rfl)) fun a E => ?_
    refine env_put (d := 18) (v := .agg (bxC bb)) E rfl (by decide) rfl (wanted_none rfl _) (run_ext0 rfl (E.get 0 rfl)) fun a E => ?_
    refine env_put (d := 19) (v := .bool true) E rfl (by decide) rfl (wanted_none rfl _) (run_ext1 rfl (E.get 1 rfl)) fun a E => ?_
    have hlb31 := lt_of_blk hb31
    have hfz := hf.size
    refine env_alloc26 (d := 6) E rfl (by decide) rfl (wanted_none rfl _) rfl fun a w1 b33 eb33 hb33 f1 E => ?_
    have h := IxAt.fr h f1 id id (fun _ _ h => h)
    have hb31 := f1.obj hb31 id
    have hf := hf.trans f1
    clear f1
    have hneb31b33 : b31 < b33 := by omega
    clear hlb31
    have hnb33 : w.heap.size ≤ b33 := by omega
    clear hfz eb33
    refine env_st26 E rfl (wanted_none rfl _) rfl (E.get 0 rfl) (E.get 2 rfl) hb33 fun w1 hb33 f1 E => ?_
    have h := IxAt.fr h f1 (by omega) (by omega) (fun k hk => by have := hσ k hk; omega)
    have hb31 := f1.obj hb31 (fun e => by omega)
    have hf := hf.trans' f1 (fun r hr e => by omega)
    clear f1
    refine env_put (d := 7) (v := .bool true) E rfl (by decide) rfl (wanted_none rfl _) (run_assign rfl (E.get 1 rfl)) fun a E => ?_
    refine wpList_nil ?_
    refine then_n ?_
    refine wp_seq ?_
    refine wp_region_lit ?_
    refine env_put (d := 20) (v := .agg (bxC bb)) E rfl (by decide) rfl (wanted_none rfl _) (run_ld26 rfl (E.get 1 rfl) (rng4 (p := bb) hb33 0 rfl rfl rfl rfl)) fun a E => ?_
    refine env_put (d := 21) (v := .bool true) E rfl (by decide) rfl (wanted_none rfl _) (run_move rfl (E.get 1 rfl)) fun a E => ?_
    refine env_st26 E rfl (wanted_none rfl _) rfl (E.get 16 rfl) (E.get 1 rfl) hb31 fun w1 hb31 f1 E => ?_
    have h := IxAt.fr h f1 (by omega) (by omega) (fun k hk => by have := hσ k hk; omega)
    have hb33 := f1.obj hb33 (fun e => by omega)
    have hf := hf.trans' f1 (fun r hr e => by omega)
    clear f1
    refine env_set (d := 5) (v := .bool true) E rfl (by decide) (wanted_none rfl _) (run_assign rfl (E.get 0 rfl)) fun a E => ?_
    refine wpList_nil ?_
    refine then_n ?_
    refine wp_ret ?_
    refine ret_cell2 (t := 4) (u := 5) rfl E (E.get 16 rfl) (E.get 0 rfl) hb31 ⟨by simp [hms], hf⟩
section
variable {P : Program} {O : Array Oper} {Q : Exit → Act → World → Prop} {rest : List Oper} {o : Oper} {a : Act} {w w' : World} {n : Nat} {L : List (Nat × Value)} {v : Value}
theorem env_void (E : Env n L a) (hd : o.dst = none) (hw : Region.wanted o (yielded O a.tmps) = true) (hr : (execOp a.eval o).run P w = .ok (.value v) w') (k : Env n L a → wpList P O Q rest a w') : wpList P O Q (o :: rest) a w := by
  refine st_runw hw hr ?_
  rw [hd]
  exact k E
theorem run_del58 {ρ : Operand → Value} {x y : Operand} {b : Nat} {k : Value} {W : World} (h : ∀ ty, (Builtin.delete_ #[58, 9] ty #[.map (some b), k]).run Try.prog w = .ok (.tuple #[]) W) (ho : o.op = .call ⟨.builtin .delete, #[x, y], #[58, 9]⟩) (hx : ρ x = .map (some b)) (hy : ρ y = k) : (execOp ρ o).run Try.prog w = .ok (.value (.tuple #[])) W := by
  simp [execOp, ho, hx, hy, resolve, invoke, builtin, h, Result.andThen]
end
def delB (m : ByteArray → Option Bx) (s : ByteArray) : ByteArray → Option Bx := fun x => if x = s then none else m x
def updB (m : ByteArray → Option Bx) (s : ByteArray) (b : Bx) : ByteArray → Option Bx := fun x => if x = s then some b else m x
theorem bxM_del (m : ByteArray → Option Bx) (s : ByteArray) (k : Value) : del (bxM m) (.string s) k = bxM (delB m s) k := by
  unfold del
  by_cases h : k = .string s
  · subst h; simp [bxM, delB]
  · rw [if_neg h]
    cases k <;> try rfl
    rename_i t
    have : t ≠ s := fun e => h (by rw [e])
    simp [bxM, delB, this]
theorem bxM_upd (m : ByteArray → Option Bx) (s : ByteArray) (b : Bx) (k : Value) : upd (bxM m) (.string s) (.agg (bxC b)) k = bxM (updB m s b) k := by
  unfold upd
  by_cases h : k = .string s
  · subst h; simp [bxM, updB]
  · rw [if_neg h]
    cases k <;> try rfl
    rename_i t
    have : t ≠ s := fun e => h (by rw [e])
    simp [bxM, updB, this]

end Go.Proofs.Ytcafnanbdmapgaa
