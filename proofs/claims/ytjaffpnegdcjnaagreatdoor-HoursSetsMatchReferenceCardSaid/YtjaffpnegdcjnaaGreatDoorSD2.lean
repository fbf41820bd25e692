/- The lexer: a strings.Builder. -/
import Derived.Test.YtjaffpnegdcjnaaGreatDoorSD1
set_option linter.unusedVariables false
set_option linter.unusedSimpArgs false
namespace Go.Proofs.YtjaffpnegdcjnaaGreatDoor
open Go.RowKit Go.Pl Go.Sort Go.Shelf
section
variable {o : Oper} {w : World} {ρ : Operand → Value} {x y z : Operand} {b off : Nat} {u v : Value}
theorem run_ld101 {p : Option Addr} (ho : o.op = .load 101 x) (hx : ρ x = .pointer (some ⟨b, off, none⟩)) (hc : w.cell? ⟨b, off, none⟩ = some (.pointer p)) : (execOp ρ o).run Tryz.prog w = .ok (.value (.pointer p)) w := by
 simp [execOp, ho, hx, go_sem, hc]
theorem run_pnil {p : Option Addr} (hx : ρ x = .pointer p) (hy : ρ y = .pointer none) (ho : o.op = .binOp .eql 101 x y 101) : (execOp ρ o).run Tryz.prog w = .ok (.value (.bool p.isNone)) w := by
 cases p <;> simp [execOp, ho, hx, hy, go_sem]
theorem run_psame {a : Addr} (hx : ρ x = .pointer (some a)) (hy : ρ y = .pointer (some a)) (ho : o.op = .binOp .neq 101 x y 101) : (execOp ρ o).run Tryz.prog w = .ok (.value (.bool false)) w := by
 have hi : ∃ j, Tryz.prog.info? 104 = some j := by
  cases h : Tryz.prog.info? 104 with
  | none => exact absurd (show (Tryz.prog.info? 104).isSome = true by kernel_rfl) (by rw [h]; simp)
  | some j => exact ⟨j, rfl⟩
 obtain ⟨j, hj⟩ := hi
 have := Lib.run_neq_ptr_same (P := Tryz.prog) w a Tryz.underlying101 hj
 simp [execOp, ho, hx, hy, eqGuard, this]
theorem run_tounsafe (ho : o.op = .convert 101 148 x) (hx : ρ x = .pointer (some ⟨b, 0, none⟩)) (hsh : w.shape? b = some (104, 2)) : (execOp ρ o).run Tryz.prog w = .ok (.value (.pointer (some ⟨b, 0, none⟩))) w := by
 obtain ⟨j, hj, hjs⟩ := Option.map_eq_some_iff.1 (show (Tryz.prog.info? 104).map (·.size) = some 2 by kernel_rfl)
 have := Lib.run_to_unsafe (P := Tryz.prog) w (src := 101) (dst := 148) ⟨b, 0, none⟩ Tryz.underlying101 Tryz.underlying148 hj (by rw [hjs]; decide) hsh (Nat.zero_lt_succ 1)
 simp only [execOp, ho, hx, Sem.run_bind, this, Result.andThen_ok, Sem.run_pure]
theorem run_fromunsafe (ho : o.op = .convert 148 101 x) (hx : ρ x = .pointer (some ⟨b, 0, none⟩)) (hsh : w.shape? b = some (104, 2)) : (execOp ρ o).run Tryz.prog w = .ok (.value (.pointer (some ⟨b, 0, none⟩))) w := by
 obtain ⟨j, hj, hjs⟩ := Option.map_eq_some_iff.1 (show (Tryz.prog.info? 104).map (·.size) = some 2 by kernel_rfl)
 have := Lib.run_from_unsafe (P := Tryz.prog) w (src := 148) (dst := 101) ⟨b, 0, none⟩ Tryz.underlying148 Tryz.underlying101 hj hsh (by kernel_rfl)
 simp only [execOp, ho, hx, Sem.run_bind, this, Result.andThen_ok, Sem.run_pure]
theorem run_noesc {ts : Array TypeId} (ho : o.op = .call ⟨.value (.func 105), #[x], ts⟩) (hf : ρ (.func 105) = .func (.func 105) #[] #[]) (hx : ρ x = v) : (execOp ρ o).run Tryz.prog w = .ok (.value v) w := by
 have := fun args w => run_callFunc_extern (P := Tryz.prog) Tryz.func105 (by kernel_rfl) (by kernel_rfl) (by kernel_rfl) (e := Extern.AbiNoEscape.same) (by kernel_rfl) args w
 simp [execOp, ho, hf, hx, resolve, Deferred.ofValue, invoke, go_sem, this, Lib.run_noEscape]
theorem run_st101 {p : Option Addr} (ho : o.op = .store 101 x y) (hx : ρ x = .pointer (some ⟨b, off, none⟩)) (hy : ρ y = .pointer p) (hc : w.cell? ⟨b, off, none⟩ = some u) (hz : w.frozen? ⟨b, off, none⟩ = false) : (execOp ρ o).run Tryz.prog w = .ok .skip (w.setCell ⟨b, off, none⟩ (.pointer p)) := by
 simp [execOp, ho, hx, hy, go_sem, hc, hz]
theorem run_st102 {p : Option Addr} {n c : Nat} (ho : o.op = .store 102 x y) (hx : ρ x = .pointer (some ⟨b, off, none⟩)) (hy : ρ y = .slice p n c) (hc : w.cell? ⟨b, off, none⟩ = some u) (hz : w.frozen? ⟨b, off, none⟩ = false) : (execOp ρ o).run Tryz.prog w = .ok .skip (w.setCell ⟨b, off, none⟩ (.slice p n c)) := by
 simp [execOp, ho, hx, hy, go_sem, hc, hz]
theorem run_ld102 {v : Value} (ho : o.op = .load 102 x) (hx : ρ x = .pointer (some ⟨b, off, none⟩)) (hc : w.cell? ⟨b, off, none⟩ = some v) : (execOp ρ o).run Tryz.prog w = .ok (.value v) w := by
 simp [execOp, ho, hx, go_sem, hc]
theorem run_one102 {n : Int} (ho : o.op = .buildSlice 102 1 #[(0, x)]) (hx : ρ x = .int .u8 n) : (execOp ρ o).run Tryz.prog w = .ok (.value (.slice (some ⟨w.heap.size, 0, none⟩) 1 1)) (w.alloc (.cells #[.int .u8 n] 5)) := by
 simp [execOp, ho, hx, go_sem]
theorem fa104_0 (ho : o.op = .fieldAddr 104 x 0) (hx : ρ x = .pointer (some ⟨b, off, none⟩)) : (execOp ρ o).run Tryz.prog w = .ok (.value (.pointer (some ⟨b, off + 0, none⟩))) w := by simp [execOp, ho, hx, go_sem]
theorem fa104_1 (ho : o.op = .fieldAddr 104 x 1) (hx : ρ x = .pointer (some ⟨b, off, none⟩)) : (execOp ρ o).run Tryz.prog w = .ok (.value (.pointer (some ⟨b, off + 1, none⟩))) w := by simp [execOp, ho, hx, go_sem]
theorem run_alloc104 (ho : o.op = .alloc 104) : (execOp ρ o).run Tryz.prog w = .ok (.value (.pointer (some ⟨w.heap.size, 0, none⟩))) (w.alloc (.cells #[.pointer none, .slice none 0 0] 104)) := by
 simp [execOp, ho, go_sem]
end
theorem info5z : (Tryz.prog.info? 5).map (fun i => (i.zero, i.size, i.bytes)) = some (some (.int .u8 0), 1, 1) := by kernel_rfl
def byL (b : UInt8) : List Value := [.int .u8 b.toNat]
theorem byL_len (b : UInt8) : (byL b).length = 1 := rfl
theorem byteCells_flat (l : Bys) : l.flatMap byL = Lib.byteCells l := by
 unfold Lib.byteCells byL
 induction l with
 | nil => rfl
 | cons c l ih => simp [ih]
abbrev oBy := ow byL 1 5
theorem env_app102 {O : Array Oper} {Q : Exit → Act → World → Prop} {rest : List Oper} {o : Oper} {a : Act} {w : World} {n d : Nat} {L : List (Nat × Value)} {x y : Operand} {B G : Nat} {v : Value} {A S : Bys} {p : Option Addr} {cap : Nat} (En : Env n L a) (hd : o.dst = some d) (hn : d < n) (hfr : (L.map (·.1)).contains d = false) (hg : o.guard = none) (ho : o.op = .call { callee := .builtin .append, args := #[x, y], argTypes := #[102, 102] }) (hx : a.eval x = v) (hv : oBy w B v A) (hy : a.eval y = .slice p S.length cap) (hsrc : srcAt byL 1 w G p S) (hcp : p = none → cap = 0) (hl : A.length + S.length ≤ 400000000) (hB : B ≤ w.heap.size)
  (k : ∀ a' w' v', oBy w' B v' (A ++ S) → Fr (fun k => v.ownBlock = some k) w w' → (v'.ownBlock = v.ownBlock ∨ v'.ownBlock = some w.heap.size) → Env n ((d, v') :: L) a' → wpList Tryz.prog O Q rest a' w') : wpList Tryz.prog O Q (o :: rest) a w := by
 obtain ⟨i0, hi0, hz0, hz1, hz2⟩ := info_parts4 info5z
 exact env_appR byL_len (by omega) (fun b u hu => by simp [byL] at hu; subst hu; rfl) Tryz.underlying102 hi0 hz0 hz1 hz2 rfl (by decide) En hd hn hfr hg ho hx hv hy hsrc hcp hl hB k
/-- A builder, used or fresh. -/
def Bld (w : World) (B b : Nat) (l : Bys) : Prop := B ≤ b ∧ ∃ p v, w.heap[b]? = some (.cells #[.pointer p, v] 104 (0, 0)) ∧ (p = none ∨ p = some ⟨b, 0, none⟩) ∧ oBy w B v l ∧ v.ownBlock ≠ some b
theorem Bld.lt {w : World} {B b : Nat} {l : Bys} (h : Bld w B b l) : b < w.heap.size := by
 obtain ⟨_, p, v, h1, _⟩ := h
 exact lt_of_blk h1
theorem Bld.is {w : World} {B b : Nat} {l : Bys} (h : Bld w B b l) : Lib.IsBuilder 104 5 B b (Lib.byteCells l) w := by
 obtain ⟨h0, p, v, h1, h2, h3, h4⟩ := h
 unfold oBy ow at h3
 rw [byteCells_flat] at h3
 have hl : (Lib.byteCells l).length = l.length := by simp [Lib.byteCells]
 rcases h2 with rfl | rfl
 ·exact .inl ⟨h0, v, h1, by rw [hl]; exact h3, h4⟩
 ·exact .inr ⟨h0, v, h1, by rw [hl]; exact h3, h4⟩
theorem Bld.made {w : World} {b : Nat} (h : w.heap[b]? = some (.cells #[.pointer none, .slice none 0 0] 104 (0, 0))) : Bld w b b [] := ⟨Nat.le_refl _, none, _, h, .inl rfl, ow_nil _, by simp [Value.ownBlock]⟩
theorem Bld.fr {w w' : World} {B b : Nat} {l : Bys} (h : Bld w B b l) (f : Fr (fun _ => False) w w') : Bld w' B b l := by
 obtain ⟨h0, p, v, h1, h2, h3, h4⟩ := h
 exact ⟨h0, p, v, f.obj h1 id, h2, h3.fr f (fun _ _ => id), h4⟩
theorem str_calls {w : World} {B b : Nat} {l : Bys} (h : Bld w B b l) (hB : B ≤ w.heap.size) : Calls Tryz.prog 71 #[.pointer (some ⟨b, 0, none⟩)] w fun e w' => e = .returned (.string (ofL l)) ∧ Fr (fun r => B ≤ r) w w' := by
 refine (Tryz.Builder_String_any B b l w h.is hB).mono fun e w' h => ⟨h.1, ?_⟩
 exact ⟨h.2.os, h.2.tape, h.2.output, h.2.size, fun r _ hr => h.2.block r (by omega)⟩
set_option maxRecDepth 100000 in
set_option maxHeartbeats 4000000 in
theorem check_used {w : World} {b : Nat} {v : Value} (hb : w.heap[b]? = some (.cells #[.pointer (some ⟨b, 0, none⟩), v] 104 (0, 0))) : Calls Tryz.prog 95 #[.pointer (some ⟨b, 0, none⟩)] w fun e w' => e = .returned (.tuple #[]) ∧ w'.heap[b]? = some (.cells #[.pointer (some ⟨b, 0, none⟩), v] 104 (0, 0)) ∧ Fr (fun r => r = b) w w' := by
 refine wp_start1 Tryz.func95 rfl rfl (n := 20) (by decide) fun a E => ?_
 have hf : Fr (fun r => r = b) w w := Fr.refl _ _
 have hsh : w.shape? b = some (104, 2) := by simp [World.shape?, hb]
 refine wp_seq ?_
 refine wp_region_lit ?_
 refine ep (v := .pointer (some ⟨b, 0, none⟩)) E (run_move rfl (E.get 0 rfl)) fun a E => ?_
 refine ep (v := .pointer (some ⟨b, 0, none⟩)) E (run_nilchk rfl (E.get 0 rfl)) fun a E => ?_
 refine ep (v := .pointer (some ⟨b, 0, none⟩)) E (fa104_0 rfl (E.get 0 rfl)) fun a E => ?_
 refine ep (v := .pointer (some ⟨b, 0, none⟩)) E (run_ld101 rfl (E.get 0 rfl) (bx hb 0 rfl)) fun a E => ?_
 refine ep (v := .bool false) E (run_pnil (E.get 0 rfl) rfl rfl) fun a E => ?_
 refine wpList_nil ?_
 refine then_n ?_
 refine wp_cond_false (E.get 0 rfl) ?_
 refine wp_seq ?_
 refine wp_region_lit ?_
 refine ep (v := .pointer (some ⟨b, 0, none⟩)) E (run_move rfl (E.get 5 rfl)) fun a E => ?_
 refine ep (v := .pointer (some ⟨b, 0, none⟩)) E (run_nilchk rfl (E.get 0 rfl)) fun a E => ?_
 refine ep (v := .pointer (some ⟨b, 0, none⟩)) E (fa104_0 rfl (E.get 0 rfl)) fun a E => ?_
 refine ep (v := .pointer (some ⟨b, 0, none⟩)) E (run_ld101 rfl (E.get 0 rfl) (bx hb 0 rfl)) fun a E => ?_
 refine ep (v := .pointer (some ⟨b, 0, none⟩)) E (run_move rfl (E.get 9 rfl)) fun a E => ?_
 refine ep (v := .bool false) E (run_psame (E.get 1 rfl) (E.get 0 rfl) rfl) fun a E => ?_
 refine wpList_nil ?_
 refine then_n ?_
 refine wp_cond_false (E.get 0 rfl) ?_
 refine wp_skip ?_
 exact (ret_nil rfl E ⟨rfl, hb, hf⟩).1
set_option maxRecDepth 100000 in
set_option maxHeartbeats 4000000 in
theorem check_fresh {w : World} {b : Nat} {v : Value} (hb : w.heap[b]? = some (.cells #[.pointer none, v] 104 (0, 0))) : Calls Tryz.prog 95 #[.pointer (some ⟨b, 0, none⟩)] w fun e w' => e = .returned (.tuple #[]) ∧ w'.heap[b]? = some (.cells #[.pointer (some ⟨b, 0, none⟩), v] 104 (0, 0)) ∧ Fr (fun r => r = b) w w' := by
 refine wp_start1 Tryz.func95 rfl rfl (n := 20) (by decide) fun a E => ?_
 have hf : Fr (fun r => r = b) w w := Fr.refl _ _
 have hsh : w.shape? b = some (104, 2) := by simp [World.shape?, hb]
 refine wp_seq ?_
 refine wp_region_lit ?_
 refine ep (v := .pointer (some ⟨b, 0, none⟩)) E (run_move rfl (E.get 0 rfl)) fun a E => ?_
 refine ep (v := .pointer (some ⟨b, 0, none⟩)) E (run_nilchk rfl (E.get 0 rfl)) fun a E => ?_
 refine ep (v := .pointer (some ⟨b, 0, none⟩)) E (fa104_0 rfl (E.get 0 rfl)) fun a E => ?_
 refine ep (v := .pointer none) E (run_ld101 rfl (E.get 0 rfl) (bx hb 0 rfl)) fun a E => ?_
 refine ep (v := .bool true) E (run_pnil (E.get 0 rfl) rfl rfl) fun a E => ?_
 refine wpList_nil ?_
 refine then_n ?_
 refine wp_cond_true (E.get 0 rfl) ?_
 refine wp_region_lit ?_
 refine ep (v := .pointer (some ⟨b, 0, none⟩)) E (run_move rfl (E.get 5 rfl)) fun a E => ?_
 refine ep (v := .pointer (some ⟨b, 0, none⟩)) E (run_move rfl (E.get 6 rfl)) fun a E => ?_
 refine ep (v := .pointer (some ⟨b, 0, none⟩)) E (run_tounsafe rfl (E.get 0 rfl) hsh) fun a E => ?_
 refine ep (v := .pointer (some ⟨b, 0, none⟩)) E (run_noesc rfl rfl (E.get 0 rfl)) fun a E => ?_
 refine ep (v := .pointer (some ⟨b, 0, none⟩)) E (run_fromunsafe rfl (E.get 0 rfl) hsh) fun a E => ?_
 refine ep (v := .pointer (some ⟨b, 0, none⟩)) E (run_nilchk rfl (E.get 4 rfl)) fun a E => ?_
 refine ep (v := .pointer (some ⟨b, 0, none⟩)) E (fa104_0 rfl (E.get 0 rfl)) fun a E => ?_
 refine env_st1 (j := 0) E rfl (wanted_none rfl _) hb (run_st101 rfl (E.get 0 rfl) (E.get 2 rfl) (bx hb 0 rfl) (free_of_blk hb 0)) fun w1 hbn f1 E => ?_
 replace hbn : w1.heap[b]? = some (.cells #[.pointer (some ⟨b, 0, none⟩), v] 104 (0, 0)) := hbn
 have hf := hf.trans' f1 (fun r hr => (fun e => by (try simp only at e); omega))
 clear f1
 replace hb := hbn
 refine wpList_nil ?_
 exact (ret_nil rfl E ⟨rfl, hb, hf⟩).1
theorem check_calls {w : World} {b : Nat} {p : Option Addr} {v : Value} (hp : p = none ∨ p = some ⟨b, 0, none⟩) (hb : w.heap[b]? = some (.cells #[.pointer p, v] 104 (0, 0))) : Calls Tryz.prog 95 #[.pointer (some ⟨b, 0, none⟩)] w fun e w' => e = .returned (.tuple #[]) ∧ w'.heap[b]? = some (.cells #[.pointer (some ⟨b, 0, none⟩), v] 104 (0, 0)) ∧ Fr (fun r => r = b) w w' := by
 rcases hp with rfl | rfl
 ·exact check_fresh hb
 ·exact check_used hb
set_option maxRecDepth 100000 in
set_option maxHeartbeats 4000000 in
theorem wbyte_calls {w : World} {B b : Nat} {l : Bys} (hB : Bld w B b l) (c : UInt8) (hl : l.length ≤ 300000000) : Calls Tryz.prog 98 #[.pointer (some ⟨b, 0, none⟩), .int .u8 (c.toNat : Int)] w fun e w' => e = .returned .nilIface ∧ Bld w' B b (l ++ [c]) ∧ Fr (fun r => B ≤ r) w w' := by
 obtain ⟨h0, p, v, hb, hp, hO, hne⟩ := hB
 refine wp_start2 Tryz.func98 rfl rfl (n := 17) (by decide) fun a E => ?_
 have hf : Fr (fun r => B ≤ r) w w := Fr.refl _ _
 have hBs : B ≤ w.heap.size := by have := lt_of_blk hb; omega
 have hbl := lt_of_blk hb
 refine wp_seq ?_
 refine wp_region_lit ?_
 refine ep (v := Value.nilIface) E (run_assign rfl rfl) fun a E => ?_
 refine wpList_nil ?_
 refine then_n ?_
 refine wp_seq ?_
 refine wp_region_lit ?_
 refine ep (v := .pointer (some ⟨b, 0, none⟩)) E (run_move rfl (E.get 1 rfl)) fun a E => ?_
 refine env_callv (d := 6) (R := fun u w8 => u = .tuple #[] ∧ w8.heap[b]? = some (.cells #[.pointer (some ⟨b, 0, none⟩), v] 104 (0, 0)) ∧ Fr (fun r => r = b) w w8) E rfl (by decide) rfl (wanted_none rfl _) (run_call1 (enters_of Tryz.func95 (by kernel_rfl) rfl) rfl rfl (E.get 0 rfl)) ((check_calls hp hb).mono fun e w8 h => by obtain ⟨rfl, h⟩ := h; exact ⟨_, rfl, rfl, h⟩) fun a w1 u ⟨hu, hb2, f1⟩ E => ?_
 subst hu
 have hO := hO.fr f1 (fun k hk e => hne (by rw [hk, (e : k = b)]))
 have hf := hf.trans' f1 (fun r hr e => by omega)
 have hBs := Nat.le_trans hBs f1.size
 have hb := hb2
 clear f1 hb2
 refine wpList_nil ?_
 refine then_n ?_
 refine wp_seq ?_
 have hbl2 := lt_of_blk hb
 refine wp_region_lit ?_
 refine ep (v := .pointer (some ⟨b, 0, none⟩)) E (run_move rfl (E.get 3 rfl)) fun a E => ?_
 refine ep (v := .pointer (some ⟨b, 0, none⟩)) E (run_move rfl (E.get 4 rfl)) fun a E => ?_
 refine ep (v := .pointer (some ⟨b, 0, none⟩)) E (run_nilchk rfl (E.get 0 rfl)) fun a E => ?_
 refine ep (v := .pointer (some ⟨b, 1, none⟩)) E (fa104_1 rfl (E.get 0 rfl)) fun a E => ?_
 refine ep (v := v) E (run_ld102 rfl (E.get 0 rfl) (bx hb 1 rfl)) fun a E => ?_
 refine ep (v := .int .u8 (c.toNat : Int)) E (run_move rfl (E.get 9 rfl)) fun a E => ?_
 refine ep E (run_one102 rfl (E.get 0 rfl)) fun a E => ?_
 obtain ⟨bn, hbn⟩ : ∃ bn, bn = w1.heap.size := ⟨_, rfl⟩
 obtain ⟨w2, hw2⟩ : ∃ w2, w2 = w1.alloc (.cells #[.int .u8 (c.toNat : Int)] 5) := ⟨_, rfl⟩
 rw [← hbn] at E
 rw [← hw2]
 have hbb : w2.heap[bn]? = some (.cells (byL c).toArray 5 (0, 0)) := by rw [hw2, hbn]; exact blk_alloc_new _ _
 have f1 : Fr (fun _ => False) w1 w2 := by rw [hw2]; exact (Fr.refl _ _).alloc _
 have hs9 := src_one (f := byL) (c := 1) (G := w2.heap.size) hbb (lt_of_blk hbb)
 have hb := f1.obj hb id
 have hO := hO.fr f1 (fun _ _ => id)
 have hf := hf.trans' f1 (fun _ _ h => h.elim)
 have hBs := Nat.le_trans hBs f1.size
 have hbl3 := lt_of_blk hb
 refine env_app102 (S := [c]) (d := 14) E rfl (by decide) rfl rfl rfl (E.get 2 rfl) hO (E.get 0 rfl) hs9 (fun h => by cases h) (by simp only [List.length_cons, List.length_nil]; omega) hBs fun a w3 vo hO2 f1 hloc E => ?_
 have hb := f1.obj hb (fun e => hne e)
 have hf := hf.trans' f1 (fun r hr e => (hO.lt e).1)
 have hBs := Nat.le_trans hBs f1.size
 have hne2 : vo.ownBlock ≠ some b := by
  rcases hloc with h9 | h9
  ·rw [h9]; exact hne
  ·rw [h9]; intro e; injection e with e; omega
 have hO := hO2
 clear f1 hO2
 refine ep (v := .pointer (some ⟨b, 0, none⟩)) E (run_nilchk rfl (E.get 7 rfl)) fun a E => ?_
 refine ep (v := .pointer (some ⟨b, 1, none⟩)) E (fa104_1 rfl (E.get 0 rfl)) fun a E => ?_
 obtain ⟨ps9, cs9, hvs, _⟩ := ow.src byL_len hO
 subst hvs
 refine env_st1 (j := 1) E rfl (wanted_none rfl _) hb (run_st102 rfl (E.get 0 rfl) (E.get 2 rfl) (bx hb 1 rfl) (free_of_blk hb 1)) fun w1 hbn f1 E => ?_
 replace hbn : w1.heap[b]? = some (.cells #[.pointer (some ⟨b, 0, none⟩), .slice ps9 (l ++ [c]).length cs9] 104 (0, 0)) := hbn
 have hO := ow.fr hO f1 (fun k hk e => hne2 (by rw [hk, (e : k = b)]))
 have hf := hf.trans' f1 (fun r hr => (fun e => by (try simp only at e); omega))
 clear f1
 replace hb := hbn
 refine wpList_nil ?_
 refine then_n ?_
 refine wp_seq ?_
 refine wp_region_lit ?_
 refine env_set (d := 4) (v := Value.nilIface) E rfl (by decide) (wanted_none rfl _) (run_assign rfl rfl) fun a E => ?_
 refine wpList_nil ?_
 refine then_n ?_
 refine wp_ret ?_
 refine ret_tmp (t := 4) rfl E (E.get 0 rfl) ⟨rfl, ⟨h0, _, _, hb, .inr rfl, hO, hne2⟩, hf⟩
end Go.Proofs.YtjaffpnegdcjnaaGreatDoor
