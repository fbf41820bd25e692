/- head. -/
import Derived.Test.YtjaffpnegdcjnaaGreatDoorSE3
import Derived.Test.YtjaffpnegdcjnaaGreatDoorSA1
import Derived.Test.YtjaffpnegdcjnaaGreatDoorSA5
import Derived.Test.YtjaffpnegdcjnaaGreatDoorSB4
set_option linter.unusedVariables false
set_option linter.unusedSimpArgs false
namespace Go.Proofs.YtjaffpnegdcjnaaGreatDoor
open Go.RowKit Go.Pl
theorem run_two22 {o : Oper} {w : World} {ρ : Operand → Value} {x y : Operand} {s t : Sp} (ho : o.op = .buildSlice 22 2 #[(0, x), (1, y)]) (hx : ρ x = .agg (spA s)) (hy : ρ y = .agg (spA t)) : (execOp ρ o).run Tryz.prog w = .ok (.value (.slice (some ⟨w.heap.size, 0, none⟩) 2 2)) (w.alloc (.cells #[.int .i64 s.1, .int .i64 s.2, .int .i64 t.1, .int .i64 t.2] 48)) := by
 simp [execOp, ho, hx, hy, go_sem, spA]
theorem src_two {w : World} {b : Nat} {s t : Sp} {T : TypeId} (h : w.heap[b]? = some (.cells #[.int .i64 s.1, .int .i64 s.2, .int .i64 t.1, .int .i64 t.2] T (0, 0))) : SpV w (.slice (some ⟨b, 0, none⟩) 2 2) [s, t] :=
 ⟨_, 2, rfl, Nat.le_refl _, by omega, .inr ⟨b, 0, rfl, lt_of_blk h, fun i z hz j u hu => by
  have hj : j < 2 := (List.getElem?_eq_some_iff.1 hu).1
  rw [cell_of_blk h]
  match i, hz with
  | 0, hz => simp at hz; subst hz; match j, hj with | 0, _ => simpa [spL] using hu | 1, _ => simpa [spL] using hu
  | 1, hz => simp at hz; subst hz; match j, hj with | 0, _ => simpa [spL] using hu | 1, _ => simpa [spL] using hu
  | i + 2, hz => simp at hz⟩, fun h => by cases h⟩
theorem env_two22 {O : Array Oper} {Q : Exit → Act → World → Prop} {rest : List Oper} {o : Oper} {a : Act} {w : World} {n d : Nat} {L : List (Nat × Value)} {x y : Operand} {ds : List Deferred} {s t : Sp} (En : EnvD ds n L a) (hd : o.dst = some d) (hn : d < n) (hf : (L.map (·.1)).contains d = false) (hw : Region.wanted o (yielded O a.tmps) = true) (ho : o.op = .buildSlice 22 2 #[(0, x), (1, y)]) (hx : a.eval x = .agg (spA s)) (hy : a.eval y = .agg (spA t))
  (k : ∀ a' w' u, SpV w' u [s, t] → Fr (fun _ => False) w w' → EnvD ds n ((d, u) :: L) a' → wpList Tryz.prog O Q rest a' w') : wpList Tryz.prog O Q (o :: rest) a w :=
 env_put En hd hn hf hw (run_two22 ho hx hy) fun a' E' => k a' _ _ (src_two (blk_alloc_new _ _)) ((Fr.refl _ _).alloc _) E'
theorem run_sl2 {o : Oper} {w : World} {ρ : Operand → Value} {x y : Operand} {p q : Option Addr} {m c m2 c2 : Nat} (ho : o.op = .buildSlice 52 2 #[(0, x), (1, y)]) (hx : ρ x = .slice p m c) (hy : ρ y = .slice q m2 c2) : (execOp ρ o).run Tryz.prog w = .ok (.value (.slice (some ⟨w.heap.size, 0, none⟩) 2 2)) (w.alloc (.cells #[.slice p m c, .slice q m2 c2] 22)) := by
 simp [execOp, ho, hx, hy, go_sem]
theorem env_sl2 {O : Array Oper} {Q : Exit → Act → World → Prop} {rest : List Oper} {o : Oper} {a : Act} {w : World} {n d : Nat} {L : List (Nat × Value)} {x y : Operand} {ds : List Deferred} {p q : Option Addr} {m c m2 c2 : Nat} (En : EnvD ds n L a) (hd : o.dst = some d) (hn : d < n) (hf : (L.map (·.1)).contains d = false) (hw : Region.wanted o (yielded O a.tmps) = true) (ho : o.op = .buildSlice 52 2 #[(0, x), (1, y)]) (hx : a.eval x = .slice p m c) (hy : a.eval y = .slice q m2 c2)
  (k : ∀ a' w' u, SlV w' u [(p, m, c), (q, m2, c2)] → Fr (fun _ => False) w w' → EnvD ds n ((d, u) :: L) a' → wpList Tryz.prog O Q rest a' w') : wpList Tryz.prog O Q (o :: rest) a w :=
 env_put En hd hn hf hw (run_sl2 ho hx hy) fun a' E' => k a' _ _ ⟨_, 2, rfl, Nat.le_refl _, by omega, .inr ⟨w.heap.size, 0, rfl, by simp, fun i z hz j u hu => by
  have hj : j = 0 := by have : j < 1 := (List.getElem?_eq_some_iff.1 hu).1; omega
  subst hj
  rw [cell_of_blk (blk_alloc_new _ _)]
  match i, hz with
  | 0, hz => simp at hz; subst hz; simpa [slL] using hu
  | 1, hz => simp at hz; subst hz; simpa [slL] using hu
  | i + 2, hz => simp at hz⟩, fun h => by cases h⟩ ((Fr.refl _ _).alloc _) E'
theorem parse_ok {s : Bys} {l : List Sp} (h : parseP s = .ok l) (hs : s.length ≤ 4900) {w : World} (hT0 : Tb w) : Calls Tryz.prog 13 #[.string (ofL s)] w fun e w' => ∃ u, e = .returned u ∧ (∃ v, u = .tuple #[v, .int .i64 0, .int .i64 0] ∧ SpV w' v l) ∧ Fr (fun _ => False) w w' := by
 have := parse_calls s hs w hT0
 rw [h] at this
 exact this.mono fun e w' ⟨v, h1, h2, h3⟩ => ⟨_, h1, ⟨v, rfl, h2⟩, h3⟩
theorem parse_err {s : Bys} {c x : Int} (h : parseP s = .error (c, x)) (hs : s.length ≤ 4900) {w : World} (hT0 : Tb w) : Calls Tryz.prog 13 #[.string (ofL s)] w fun e w' => e = .returned (.tuple #[.slice none 0 0, .int .i64 c, .int .i64 x]) ∧ Fr (fun _ => False) w w' := by
 have := parse_calls s hs w hT0
 rw [h] at this
 exact this
theorem text_ok {v : Value} {l : List Sp} {t : Bys} (h : textR l = (t, 0)) {w : World} (hl : SpV w v l) (hln : l.length ≤ 1000000) (hT0 : Tb w) : Calls Tryz.prog 15 #[v] w fun e w' => e = .returned (.tuple #[.string (ofL t), .int .i64 0]) ∧ Fr (fun _ => False) w w' := by
 have := text15_calls hl hln hT0
 rw [h] at this
 exact this
set_option maxRecDepth 100000 in
set_option maxHeartbeats 4000000 in
theorem head_calls {w : World} (hT : Tb w) : Calls Tryz.prog 11 #[] w fun e w' => e = .returned (.bool true) ∧ Fr (fun _ => False) w w' := by
 refine wp_start0 Tryz.func11 rfl rfl (n := 121) (by decide) fun a E => ?_
 have hf : Fr (fun _ => False) w w := Fr.refl _ _
 refine wp_seq ?_
 refine wp_region_lit ?_
 refine ep (v := .bool false) E (run_assign rfl rfl) fun a E => ?_
 refine wpList_nil ?_
 refine then_n ?_
 refine wp_seq ?_
 refine wp_region_lit ?_
 refine env_callv (d := 23) (R := fun u w8 => (∃ v, u = .tuple #[v, .int .i64 0, .int .i64 0] ∧ SpV w8 v ([(540, 1050), (1980, 2490)])) ∧ Fr (fun _ => False) w w8) E rfl (by decide) rfl (wanted_none rfl _) (run_call1 (enters_of Tryz.func13 (by kernel_rfl) rfl) rfl rfl rfl) (parse_ok (by kernel_rfl) (by decide) hT) fun a w1 u ⟨⟨u1, hu, hu1⟩, f1⟩ E => ?_
 subst hu
 have hT := Tb.fr hT f1 (fun r hr => id)
 have hf := hf.trans' f1 (fun _ _ h => h.elim)
 clear f1
 refine ep (v := .tuple #[u1, .int .i64 0, .int .i64 0]) E (run_move rfl (E.get 0 rfl)) fun a E => ?_
 refine ep (v := u1) E (run_ex0of3 rfl (E.get 0 rfl)) fun a E => ?_
 refine ep (v := .int .i64 0) E (run_ex1of3 rfl (E.get 1 rfl)) fun a E => ?_
 refine ep (v := .int .i64 0) E (run_ex2of3 rfl (E.get 2 rfl)) fun a E => ?_
 refine ep (v := u1) E (run_assign rfl (E.get 2 rfl)) fun a E => ?_
 refine ep (v := .int .i64 0) E (run_assign rfl (E.get 2 rfl)) fun a E => ?_
 refine ep (v := .int .i64 0) E (run_assign rfl (E.get 2 rfl)) fun a E => ?_
 refine wpList_nil ?_
 refine then_n ?_
 refine wp_seq ?_
 refine wp_region_lit ?_
 refine env_callv (d := 28) (R := fun u w8 => (∃ v, u = .tuple #[v, .int .i64 0, .int .i64 0] ∧ SpV w8 v ([(0, 120), (9960, 10080)])) ∧ Fr (fun _ => False) w1 w8) E rfl (by decide) rfl (wanted_none rfl _) (run_call1 (enters_of Tryz.func13 (by kernel_rfl) rfl) rfl rfl rfl) (parse_ok (by kernel_rfl) (by decide) hT) fun a w1 u ⟨⟨u2, hu, hu2⟩, f1⟩ E => ?_
 subst hu
 have hT := Tb.fr hT f1 (fun r hr => id)
 have hu1 := Src.fr hu1 f1
 have hf := hf.trans' f1 (fun _ _ h => h.elim)
 clear f1
 refine ep (v := .tuple #[u2, .int .i64 0, .int .i64 0]) E (run_move rfl (E.get 0 rfl)) fun a E => ?_
 refine ep (v := u2) E (run_ex0of3 rfl (E.get 0 rfl)) fun a E => ?_
 refine ep (v := .int .i64 0) E (run_ex1of3 rfl (E.get 1 rfl)) fun a E => ?_
 refine ep (v := .int .i64 0) E (run_ex2of3 rfl (E.get 2 rfl)) fun a E => ?_
 refine ep (v := u2) E (run_assign rfl (E.get 2 rfl)) fun a E => ?_
 refine ep (v := .int .i64 0) E (run_assign rfl (E.get 2 rfl)) fun a E => ?_
 refine ep (v := .int .i64 0) E (run_assign rfl (E.get 2 rfl)) fun a E => ?_
 refine wpList_nil ?_
 refine then_n ?_
 refine wp_seq ?_
 refine wp_region_lit ?_
 refine env_callv (d := 33) (R := fun u w8 => (∃ v, u = .tuple #[v, .int .i64 0, .int .i64 0] ∧ SpV w8 v ([(0, 1440), (7200, 10080)])) ∧ Fr (fun _ => False) w1 w8) E rfl (by decide) rfl (wanted_none rfl _) (run_call1 (enters_of Tryz.func13 (by kernel_rfl) rfl) rfl rfl rfl) (parse_ok (by kernel_rfl) (by decide) hT) fun a w1 u ⟨⟨u3, hu, hu3⟩, f1⟩ E => ?_
 subst hu
 have hT := Tb.fr hT f1 (fun r hr => id)
 have hu1 := Src.fr hu1 f1
 have hu2 := Src.fr hu2 f1
 have hf := hf.trans' f1 (fun _ _ h => h.elim)
 clear f1
 refine ep (v := .tuple #[u3, .int .i64 0, .int .i64 0]) E (run_move rfl (E.get 0 rfl)) fun a E => ?_
 refine ep (v := u3) E (run_ex0of3 rfl (E.get 0 rfl)) fun a E => ?_
 refine ep (v := .int .i64 0) E (run_ex1of3 rfl (E.get 1 rfl)) fun a E => ?_
 refine ep (v := .int .i64 0) E (run_ex2of3 rfl (E.get 2 rfl)) fun a E => ?_
 refine ep (v := u3) E (run_assign rfl (E.get 2 rfl)) fun a E => ?_
 refine ep (v := .int .i64 0) E (run_assign rfl (E.get 2 rfl)) fun a E => ?_
 refine ep (v := .int .i64 0) E (run_assign rfl (E.get 2 rfl)) fun a E => ?_
 refine wpList_nil ?_
 refine then_n ?_
 refine wp_seq ?_
 refine wp_region_lit ?_
 refine env_call (d := 38) E rfl (by decide) rfl (wanted_none rfl _) (run_call1 (enters_of Tryz.func13 (by kernel_rfl) rfl) rfl rfl rfl) (parse_err (c := 10) (x := 8) (by kernel_rfl) (by decide) hT) fun a w1 f1 E => ?_
 have hT := Tb.fr hT f1 (fun r hr => id)
 have hu1 := Src.fr hu1 f1
 have hu2 := Src.fr hu2 f1
 have hu3 := Src.fr hu3 f1
 have hf := hf.trans' f1 (fun _ _ h => h.elim)
 clear f1
 refine ep (v := .tuple #[.slice none 0 0, .int .i64 10, .int .i64 8]) E (run_move rfl (E.get 0 rfl)) fun a E => ?_
 refine ep (v := .slice none 0 0) E (run_ex0of3 rfl (E.get 0 rfl)) fun a E => ?_
 refine ep (v := .int .i64 10) E (run_ex1of3 rfl (E.get 1 rfl)) fun a E => ?_
 refine ep (v := .int .i64 8) E (run_ex2of3 rfl (E.get 2 rfl)) fun a E => ?_
 refine ep (v := .slice none 0 0) E (run_assign rfl (E.get 2 rfl)) fun a E => ?_
 refine ep (v := .int .i64 10) E (run_assign rfl (E.get 2 rfl)) fun a E => ?_
 refine ep (v := .int .i64 8) E (run_assign rfl (E.get 2 rfl)) fun a E => ?_
 refine wpList_nil ?_
 refine then_n ?_
 refine wp_seq ?_
 refine wp_region_lit ?_
 refine env_call (d := 43) E rfl (by decide) rfl (wanted_none rfl _) (run_call1 (enters_of Tryz.func13 (by kernel_rfl) rfl) rfl rfl rfl) (parse_err (c := 10) (x := 5) (by kernel_rfl) (by decide) hT) fun a w1 f1 E => ?_
 have hT := Tb.fr hT f1 (fun r hr => id)
 have hu1 := Src.fr hu1 f1
 have hu2 := Src.fr hu2 f1
 have hu3 := Src.fr hu3 f1
 have hf := hf.trans' f1 (fun _ _ h => h.elim)
 clear f1
 refine ep (v := .tuple #[.slice none 0 0, .int .i64 10, .int .i64 5]) E (run_move rfl (E.get 0 rfl)) fun a E => ?_
 refine ep (v := .slice none 0 0) E (run_ex0of3 rfl (E.get 0 rfl)) fun a E => ?_
 refine ep (v := .int .i64 10) E (run_ex1of3 rfl (E.get 1 rfl)) fun a E => ?_
 refine ep (v := .int .i64 5) E (run_ex2of3 rfl (E.get 2 rfl)) fun a E => ?_
 refine ep (v := .slice none 0 0) E (run_assign rfl (E.get 2 rfl)) fun a E => ?_
 refine ep (v := .int .i64 10) E (run_assign rfl (E.get 2 rfl)) fun a E => ?_
 refine ep (v := .int .i64 5) E (run_assign rfl (E.get 2 rfl)) fun a E => ?_
 refine wpList_nil ?_
 refine then_n ?_
 refine wp_seq ?_
 refine wp_region_lit ?_
 refine env_call (d := 48) E rfl (by decide) rfl (wanted_none rfl _) (run_call1 (enters_of Tryz.func13 (by kernel_rfl) rfl) rfl rfl rfl) (parse_err (c := 10) (x := 3) (by kernel_rfl) (by decide) hT) fun a w1 f1 E => ?_
 have hT := Tb.fr hT f1 (fun r hr => id)
 have hu1 := Src.fr hu1 f1
 have hu2 := Src.fr hu2 f1
 have hu3 := Src.fr hu3 f1
 have hf := hf.trans' f1 (fun _ _ h => h.elim)
 clear f1
 refine ep (v := .tuple #[.slice none 0 0, .int .i64 10, .int .i64 3]) E (run_move rfl (E.get 0 rfl)) fun a E => ?_
 refine ep (v := .slice none 0 0) E (run_ex0of3 rfl (E.get 0 rfl)) fun a E => ?_
 refine ep (v := .int .i64 10) E (run_ex1of3 rfl (E.get 1 rfl)) fun a E => ?_
 refine ep (v := .int .i64 3) E (run_ex2of3 rfl (E.get 2 rfl)) fun a E => ?_
 refine ep (v := .slice none 0 0) E (run_assign rfl (E.get 2 rfl)) fun a E => ?_
 refine ep (v := .int .i64 10) E (run_assign rfl (E.get 2 rfl)) fun a E => ?_
 refine ep (v := .int .i64 3) E (run_assign rfl (E.get 2 rfl)) fun a E => ?_
 refine wpList_nil ?_
 refine then_n ?_
 refine wp_seq ?_
 refine wp_region_lit ?_
 refine ep (v := u2) E (run_move rfl (E.get 34 rfl)) fun a E => ?_
 refine env_call (d := 54) (v := .tuple #[.string (ofL [109, 111, 32, 48, 58, 48, 48, 45, 50, 58, 48, 48, 44, 32, 115, 117, 32, 50, 50, 58, 48, 48, 45, 50, 52, 58, 48, 48]), .int .i64 0]) E rfl (by decide) rfl (wanted_none rfl _) (run_call1 (enters_of Tryz.func15 (by kernel_rfl) rfl) rfl rfl (E.get 0 rfl)) (text_ok (t := [109, 111, 32, 48, 58, 48, 48, 45, 50, 58, 48, 48, 44, 32, 115, 117, 32, 50, 50, 58, 48, 48, 45, 50, 52, 58, 48, 48]) (by kernel_rfl) hu2 (by decide) hT) fun a w1 f1 E => ?_
 have hT := Tb.fr hT f1 (fun r hr => id)
 have hu1 := Src.fr hu1 f1
 have hu2 := Src.fr hu2 f1
 have hu3 := Src.fr hu3 f1
 have hf := hf.trans' f1 (fun _ _ h => h.elim)
 clear f1
 refine ep (v := .tuple #[.string (ofL [109, 111, 32, 48, 58, 48, 48, 45, 50, 58, 48, 48, 44, 32, 115, 117, 32, 50, 50, 58, 48, 48, 45, 50, 52, 58, 48, 48]), .int .i64 0]) E (run_move rfl (E.get 0 rfl)) fun a E => ?_
 refine ep (v := .string (ofL [109, 111, 32, 48, 58, 48, 48, 45, 50, 58, 48, 48, 44, 32, 115, 117, 32, 50, 50, 58, 48, 48, 45, 50, 52, 58, 48, 48])) E (run_ext0 rfl (E.get 0 rfl)) fun a E => ?_
 refine ep (v := .int .i64 0) E (run_ext1 rfl (E.get 1 rfl)) fun a E => ?_
 refine ep (v := .string (ofL [109, 111, 32, 48, 58, 48, 48, 45, 50, 58, 48, 48, 44, 32, 115, 117, 32, 50, 50, 58, 48, 48, 45, 50, 52, 58, 48, 48])) E (run_assign rfl (E.get 1 rfl)) fun a E => ?_
 refine ep (v := .int .i64 0) E (run_assign rfl (E.get 1 rfl)) fun a E => ?_
 refine wpList_nil ?_
 refine then_n ?_
 refine wp_seq ?_
 refine wp_region_lit ?_
 refine ep (v := .int .i64 0) E (run_move rfl (E.get 48 rfl)) fun a E => ?_
 refine ep (v := .bool true) E (run_ieql (m := 0) (n := 0) (E.get 0 rfl) rfl Tryz.underlying25 rfl) fun a E => ?_
 refine ep (v := .bool true) E (run_move rfl (E.get 0 rfl)) fun a E => ?_
 refine eg (v := u1) E (w_yes (g := 2) (s := 59) E rfl rfl (by decide) (E.get 0 rfl)) (run_move rfl (E.get 52 rfl)) fun a E => ?_
 refine eg (v := .agg (spA (540, 1050))) E (w_yes (g := 2) (s := 59) E rfl rfl (by decide) (E.get 1 rfl)) (run_of48 rfl rfl rfl) fun a E => ?_
 refine eg (v := .agg (spA (1980, 2490))) E (w_yes (g := 2) (s := 59) E rfl rfl (by decide) (E.get 2 rfl)) (run_of48 rfl rfl rfl) fun a E => ?_
 refine env_two22 (d := 63) (s := (540, 1050)) (t := (1980, 2490)) E rfl (by decide) rfl (w_yes (g := 2) (s := 59) E rfl rfl (by decide) (E.get 3 rfl)) rfl (E.get 1 rfl) (E.get 0 rfl) fun a w1 u4 hu4 f1 E => ?_
 have hT := Tb.fr hT f1 (fun r hr => id)
 have hu1 := Src.fr hu1 f1
 have hu2 := Src.fr hu2 f1
 have hu3 := Src.fr hu3 f1
 have hf := hf.trans' f1 (fun _ _ h => h.elim)
 clear f1
 refine env_call (d := 64) (v := .bool true) E rfl (by decide) rfl (w_yes (g := 2) (s := 59) E rfl rfl (by decide) (E.get 4 rfl)) (run_call2 (enters_of Tryz.func17 (by kernel_rfl) rfl) rfl rfl (E.get 3 rfl) (E.get 0 rfl)) (by have h := same_calls hu1 hu4; rw [show (([(540, 1050), (1980, 2490)] : List Sp) == ([(540, 1050), (1980, 2490)] : List Sp)) = true from by decide] at h; exact h) fun a w1 f1 E => ?_
 have hT := Tb.fr hT f1 (fun r hr => id)
 have hu1 := Src.fr hu1 f1
 have hu2 := Src.fr hu2 f1
 have hu3 := Src.fr hu3 f1
 have hu4 := Src.fr hu4 f1
 have hf := hf.trans' f1 (fun _ _ h => h.elim)
 clear f1
 refine ep (v := .bool true) E (run_pick_t rfl (E.get 5 rfl) (E.get 0 rfl)) fun a E => ?_
 refine ep (v := .bool true) E (run_move rfl (E.get 0 rfl)) fun a E => ?_
 refine eg (v := .int .i64 0) E (w_yes (g := 9) (s := 66) E rfl rfl (by decide) (E.get 0 rfl)) (run_move rfl (E.get 50 rfl)) fun a E => ?_
 refine eg (v := .bool true) E (w_yes (g := 9) (s := 66) E rfl rfl (by decide) (E.get 1 rfl)) (run_ieql (m := 0) (n := 0) (E.get 0 rfl) rfl Tryz.underlying25 rfl) fun a E => ?_
 refine ep (v := .bool true) E (run_pick_t rfl (E.get 2 rfl) (E.get 0 rfl)) fun a E => ?_
 refine ep (v := .bool true) E (run_move rfl (E.get 0 rfl)) fun a E => ?_
 refine eg (v := u2) E (w_yes (g := 13) (s := 70) E rfl rfl (by decide) (E.get 0 rfl)) (run_move rfl (E.get 55 rfl)) fun a E => ?_
 refine eg (v := .agg (spA (0, 120))) E (w_yes (g := 13) (s := 70) E rfl rfl (by decide) (E.get 1 rfl)) (run_of48 rfl rfl rfl) fun a E => ?_
 refine eg (v := .agg (spA (9960, 10080))) E (w_yes (g := 13) (s := 70) E rfl rfl (by decide) (E.get 2 rfl)) (run_of48 rfl rfl rfl) fun a E => ?_
 refine env_two22 (d := 74) (s := (0, 120)) (t := (9960, 10080)) E rfl (by decide) rfl (w_yes (g := 13) (s := 70) E rfl rfl (by decide) (E.get 3 rfl)) rfl (E.get 1 rfl) (E.get 0 rfl) fun a w1 u5 hu5 f1 E => ?_
 have hT := Tb.fr hT f1 (fun r hr => id)
 have hu1 := Src.fr hu1 f1
 have hu2 := Src.fr hu2 f1
 have hu3 := Src.fr hu3 f1
 have hu4 := Src.fr hu4 f1
 have hf := hf.trans' f1 (fun _ _ h => h.elim)
 clear f1
 refine env_call (d := 75) (v := .bool true) E rfl (by decide) rfl (w_yes (g := 13) (s := 70) E rfl rfl (by decide) (E.get 4 rfl)) (run_call2 (enters_of Tryz.func17 (by kernel_rfl) rfl) rfl rfl (E.get 3 rfl) (E.get 0 rfl)) (by have h := same_calls hu2 hu5; rw [show (([(0, 120), (9960, 10080)] : List Sp) == ([(0, 120), (9960, 10080)] : List Sp)) = true from by decide] at h; exact h) fun a w1 f1 E => ?_
 have hT := Tb.fr hT f1 (fun r hr => id)
 have hu1 := Src.fr hu1 f1
 have hu2 := Src.fr hu2 f1
 have hu3 := Src.fr hu3 f1
 have hu4 := Src.fr hu4 f1
 have hu5 := Src.fr hu5 f1
 have hf := hf.trans' f1 (fun _ _ h => h.elim)
 clear f1
 refine ep (v := .bool true) E (run_pick_t rfl (E.get 5 rfl) (E.get 0 rfl)) fun a E => ?_
 refine ep (v := .bool true) E (run_move rfl (E.get 0 rfl)) fun a E => ?_
 refine eg (v := .int .i64 0) E (w_yes (g := 20) (s := 77) E rfl rfl (by decide) (E.get 0 rfl)) (run_move rfl (E.get 53 rfl)) fun a E => ?_
 refine eg (v := .bool true) E (w_yes (g := 20) (s := 77) E rfl rfl (by decide) (E.get 1 rfl)) (run_ieql (m := 0) (n := 0) (E.get 0 rfl) rfl Tryz.underlying25 rfl) fun a E => ?_
 refine ep (v := .bool true) E (run_pick_t rfl (E.get 2 rfl) (E.get 0 rfl)) fun a E => ?_
 refine ep (v := .bool true) E (run_move rfl (E.get 0 rfl)) fun a E => ?_
 refine eg (v := u3) E (w_yes (g := 24) (s := 81) E rfl rfl (by decide) (E.get 0 rfl)) (run_move rfl (E.get 58 rfl)) fun a E => ?_
 refine eg (v := .agg (spA (0, 1440))) E (w_yes (g := 24) (s := 81) E rfl rfl (by decide) (E.get 1 rfl)) (run_of48 rfl rfl rfl) fun a E => ?_
 refine eg (v := .agg (spA (7200, 10080))) E (w_yes (g := 24) (s := 81) E rfl rfl (by decide) (E.get 2 rfl)) (run_of48 rfl rfl rfl) fun a E => ?_
 refine env_two22 (d := 85) (s := (0, 1440)) (t := (7200, 10080)) E rfl (by decide) rfl (w_yes (g := 24) (s := 81) E rfl rfl (by decide) (E.get 3 rfl)) rfl (E.get 1 rfl) (E.get 0 rfl) fun a w1 u6 hu6 f1 E => ?_
 have hT := Tb.fr hT f1 (fun r hr => id)
 have hu1 := Src.fr hu1 f1
 have hu2 := Src.fr hu2 f1
 have hu3 := Src.fr hu3 f1
 have hu4 := Src.fr hu4 f1
 have hu5 := Src.fr hu5 f1
 have hf := hf.trans' f1 (fun _ _ h => h.elim)
 clear f1
 refine env_call (d := 86) (v := .bool true) E rfl (by decide) rfl (w_yes (g := 24) (s := 81) E rfl rfl (by decide) (E.get 4 rfl)) (run_call2 (enters_of Tryz.func17 (by kernel_rfl) rfl) rfl rfl (E.get 3 rfl) (E.get 0 rfl)) (by have h := same_calls hu3 hu6; rw [show (([(0, 1440), (7200, 10080)] : List Sp) == ([(0, 1440), (7200, 10080)] : List Sp)) = true from by decide] at h; exact h) fun a w1 f1 E => ?_
 have hT := Tb.fr hT f1 (fun r hr => id)
 have hu1 := Src.fr hu1 f1
 have hu2 := Src.fr hu2 f1
 have hu3 := Src.fr hu3 f1
 have hu4 := Src.fr hu4 f1
 have hu5 := Src.fr hu5 f1
 have hu6 := Src.fr hu6 f1
 have hf := hf.trans' f1 (fun _ _ h => h.elim)
 clear f1
 refine ep (v := .bool true) E (run_pick_t rfl (E.get 5 rfl) (E.get 0 rfl)) fun a E => ?_
 refine ep (v := .bool true) E (run_assign rfl (E.get 0 rfl)) fun a E => ?_
 refine wpList_nil ?_
 refine then_n ?_
 refine wp_seq ?_
 refine wp_region_lit ?_
 refine ep (v := .bool true) E (run_move rfl (E.get 0 rfl)) fun a E => ?_
 refine ep (v := .bool true) E (run_move rfl (E.get 0 rfl)) fun a E => ?_
 refine eg (v := .int .i64 10) E (w_yes (g := 1) (s := 89) E rfl rfl (by decide) (E.get 0 rfl)) (run_move rfl (E.get 58 rfl)) fun a E => ?_
 refine eg (v := .bool true) E (w_yes (g := 1) (s := 89) E rfl rfl (by decide) (E.get 1 rfl)) (run_ieql (m := 10) (n := 10) (E.get 0 rfl) rfl Tryz.underlying25 rfl) fun a E => ?_
 refine ep (v := .bool true) E (run_pick_t rfl (E.get 2 rfl) (E.get 0 rfl)) fun a E => ?_
 refine ep (v := .bool true) E (run_move rfl (E.get 0 rfl)) fun a E => ?_
 refine eg (v := .int .i64 8) E (w_yes (g := 5) (s := 93) E rfl rfl (by decide) (E.get 0 rfl)) (run_move rfl (E.get 61 rfl)) fun a E => ?_
 refine eg (v := .bool true) E (w_yes (g := 5) (s := 93) E rfl rfl (by decide) (E.get 1 rfl)) (run_ieql (m := 8) (n := 8) (E.get 0 rfl) rfl Tryz.underlying3 rfl) fun a E => ?_
 refine ep (v := .bool true) E (run_pick_t rfl (E.get 2 rfl) (E.get 0 rfl)) fun a E => ?_
 refine ep (v := .bool true) E (run_move rfl (E.get 0 rfl)) fun a E => ?_
 refine eg (v := .int .i64 10) E (w_yes (g := 9) (s := 97) E rfl rfl (by decide) (E.get 0 rfl)) (run_move rfl (E.get 58 rfl)) fun a E => ?_
 refine eg (v := .bool true) E (w_yes (g := 9) (s := 97) E rfl rfl (by decide) (E.get 1 rfl)) (run_ieql (m := 10) (n := 10) (E.get 0 rfl) rfl Tryz.underlying25 rfl) fun a E => ?_
 refine ep (v := .bool true) E (run_pick_t rfl (E.get 2 rfl) (E.get 0 rfl)) fun a E => ?_
 refine ep (v := .bool true) E (run_move rfl (E.get 0 rfl)) fun a E => ?_
 refine eg (v := .int .i64 5) E (w_yes (g := 13) (s := 101) E rfl rfl (by decide) (E.get 0 rfl)) (run_move rfl (E.get 61 rfl)) fun a E => ?_
 refine eg (v := .bool true) E (w_yes (g := 13) (s := 101) E rfl rfl (by decide) (E.get 1 rfl)) (run_ieql (m := 5) (n := 5) (E.get 0 rfl) rfl Tryz.underlying3 rfl) fun a E => ?_
 refine ep (v := .bool true) E (run_pick_t rfl (E.get 2 rfl) (E.get 0 rfl)) fun a E => ?_
 refine ep (v := .bool true) E (run_move rfl (E.get 0 rfl)) fun a E => ?_
 refine eg (v := .int .i64 10) E (w_yes (g := 17) (s := 105) E rfl rfl (by decide) (E.get 0 rfl)) (run_move rfl (E.get 58 rfl)) fun a E => ?_
 refine eg (v := .bool true) E (w_yes (g := 17) (s := 105) E rfl rfl (by decide) (E.get 1 rfl)) (run_ieql (m := 10) (n := 10) (E.get 0 rfl) rfl Tryz.underlying25 rfl) fun a E => ?_
 refine ep (v := .bool true) E (run_pick_t rfl (E.get 2 rfl) (E.get 0 rfl)) fun a E => ?_
 refine ep (v := .bool true) E (run_move rfl (E.get 0 rfl)) fun a E => ?_
 refine eg (v := .int .i64 3) E (w_yes (g := 21) (s := 109) E rfl rfl (by decide) (E.get 0 rfl)) (run_move rfl (E.get 61 rfl)) fun a E => ?_
 refine eg (v := .bool true) E (w_yes (g := 21) (s := 109) E rfl rfl (by decide) (E.get 1 rfl)) (run_ieql (m := 3) (n := 3) (E.get 0 rfl) rfl Tryz.underlying3 rfl) fun a E => ?_
 refine ep (v := .bool true) E (run_pick_t rfl (E.get 2 rfl) (E.get 0 rfl)) fun a E => ?_
 refine ep (v := .bool true) E (run_move rfl (E.get 0 rfl)) fun a E => ?_
 refine eg (v := .int .i64 0) E (w_yes (g := 25) (s := 113) E rfl rfl (by decide) (E.get 0 rfl)) (run_move rfl (E.get 58 rfl)) fun a E => ?_
 refine eg (v := .bool true) E (w_yes (g := 25) (s := 113) E rfl rfl (by decide) (E.get 1 rfl)) (run_ieql (m := 0) (n := 0) (E.get 0 rfl) rfl Tryz.underlying25 rfl) fun a E => ?_
 refine ep (v := .bool true) E (run_pick_t rfl (E.get 2 rfl) (E.get 0 rfl)) fun a E => ?_
 refine ep (v := .bool true) E (run_move rfl (E.get 0 rfl)) fun a E => ?_
 refine eg (v := .string (ofL [109, 111, 32, 48, 58, 48, 48, 45, 50, 58, 48, 48, 44, 32, 115, 117, 32, 50, 50, 58, 48, 48, 45, 50, 52, 58, 48, 48])) E (w_yes (g := 29) (s := 117) E rfl rfl (by decide) (E.get 0 rfl)) (run_move rfl (E.get 63 rfl)) fun a E => ?_
 refine eg (v := .bool true) E (w_yes (g := 29) (s := 117) E rfl rfl (by decide) (E.get 1 rfl)) ((run_seq (E.get 0 rfl) rfl rfl).trans (by rw [beq_self_eq_true])) fun a E => ?_
 refine ep (v := .bool true) E (run_pick_t rfl (E.get 2 rfl) (E.get 0 rfl)) fun a E => ?_
 refine env_set (d := 0) (v := .bool true) E rfl (by decide) (wanted_none rfl _) (run_assign rfl (E.get 0 rfl)) fun a E => ?_
 refine wpList_nil ?_
 refine then_n ?_
 refine wp_ret ?_
 exact ret_tmp (t := 0) rfl E (E.get 0 rfl) ⟨rfl, hf⟩
end Go.Proofs.YtjaffpnegdcjnaaGreatDoor
