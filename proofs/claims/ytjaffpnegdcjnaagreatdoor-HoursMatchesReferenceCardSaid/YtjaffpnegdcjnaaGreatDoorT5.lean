/- Part 5 of the proof: the texts F1, F2, G1, G2, G3, G4, G5, G6, G7, G8, G9, G10, G11. -/
import Derived.Test.YtjaffpnegdcjnaaGreatDoorT4
/- head. -/
set_option linter.unusedVariables false
set_option linter.unusedSimpArgs false
namespace Go.Proofs.YtjaffpnegdcjnaaGreatDoor
open Go.RowKit Go.Pl
theorem run_len22s {o : Oper} {w : World} {ρ : Operand → Value} {x : Operand} {v : Value} {l : List Sp} (h : SpV w v l) (ho : o.op = .call ⟨.builtin .len, #[x], #[22]⟩) (hx : ρ x = v) : (execOp ρ o).run Tryz.prog w = .ok (.value (.int .i64 l.length)) w := by
 obtain ⟨p, c, rfl, _⟩ := h
 exact run_len22 ho hx
theorem run_two22 {o : Oper} {w : World} {ρ : Operand → Value} {x y : Operand} {s t : Sp} (ho : o.op = .buildSlice 22 2 #[(0, x), (1, y)]) (hx : ρ x = .agg (spA s)) (hy : ρ y = .agg (spA t)) : (execOp ρ o).run Tryz.prog w = .ok (.value (.slice (some ⟨w.heap.size, 0, none⟩) 2 2)) (w.alloc (.cells #[.int .i64 s.1, .int .i64 s.2, .int .i64 t.1, .int .i64 t.2] 48)) := by
 simp [execOp, ho, hx, hy, go_sem, spA]
theorem src_two {w : World} {b : Nat} {s t : Sp} {T : TypeId} (h : w.heap[b]? = some (.cells #[.int .i64 s.1, .int .i64 s.2, .int .i64 t.1, .int .i64 t.2] T (0, 0))) : SpV w (.slice (some ⟨b, 0, none⟩) 2 2) [s, t] :=
 ⟨_, 2, rfl, Nat.le_refl _, by omega, .inr ⟨b, 0, rfl, lt_of_blk h, fun i z hz j u hu => by
  have hj : j < 2 := (List.getElem?_eq_some_iff.1 hu).1
  rw [cell_of_blk h]
  match i, hz with
  | 0, hz => simp at hz; subst hz; match j, hj with | 0, _ => simpa [spL] using hu | 1, _ => simpa [spL] using hu
  | 1, hz => simp at hz; subst hz; match j, hj with | 0, _ => simpa [spL] using hu | 1, _ => simpa [spL] using hu
  | i + 2, hz => simp at hz⟩, fun h => by cases h⟩
theorem env_two22 {O : Array Oper} {Q : Exit → Act → World → Prop} {rest : List Oper} {o : Oper} {a : Act} {w : World} {n d : Nat} {L : List (Nat × Value)} {x y : Operand} {ds : List Deferred} {s t : Sp} (En : EnvD ds n L a) (hd : o.dst = some d) (hn : d < n) (hf : (L.map (·.1)).contains d = false) (hw : Region.wanted o (yielded O a.tmps) = true) (ho : o.op = .buildSlice 22 2 #[(0, x), (1, y)]) (hx : a.eval x = .agg (spA s)) (hy : a.eval y = .agg (spA t))
  (k : ∀ a' w' u, SpV w' u [s, t] → Fr (fun _ => False) w w' → EnvD ds n ((d, u) :: L) a' → wpList Tryz.prog O Q rest a' w') : wpList Tryz.prog O Q (o :: rest) a w :=
 env_put En hd hn hf hw (run_two22 ho hx hy) fun a' E' => k a' _ _ (src_two (blk_alloc_new _ _)) ((Fr.refl _ _).alloc _) E'
theorem env_one22s {O : Array Oper} {Q : Exit → Act → World → Prop} {rest : List Oper} {o : Oper} {a : Act} {w : World} {n d : Nat} {L : List (Nat × Value)} {x : Operand} {ds : List Deferred} {s : Sp} (En : EnvD ds n L a) (hd : o.dst = some d) (hn : d < n) (hf : (L.map (·.1)).contains d = false) (hw : Region.wanted o (yielded O a.tmps) = true) (ho : o.op = .buildSlice 22 1 #[(0, x)]) (hx : a.eval x = .agg (spA s))
  (k : ∀ a' w' u, SpV w' u [s] → Fr (fun _ => False) w w' → EnvD ds n ((d, u) :: L) a' → wpList Tryz.prog O Q rest a' w') : wpList Tryz.prog O Q (o :: rest) a w :=
 env_one22 En hd hn hf hw ho hx fun a' w' b e hb f E => k a' w' _ ⟨_, 1, rfl, Nat.le_refl _, by omega, src_one (f := spL) (c := 2) hb (lt_of_blk hb), fun h => by cases h⟩ f E
theorem run_sl1 {o : Oper} {w : World} {ρ : Operand → Value} {x : Operand} {p : Option Addr} {m c : Nat} (ho : o.op = .buildSlice 52 1 #[(0, x)]) (hx : ρ x = .slice p m c) : (execOp ρ o).run Tryz.prog w = .ok (.value (.slice (some ⟨w.heap.size, 0, none⟩) 1 1)) (w.alloc (.cells #[.slice p m c] 22)) := by
 simp [execOp, ho, hx, go_sem]
theorem env_sl1 {O : Array Oper} {Q : Exit → Act → World → Prop} {rest : List Oper} {o : Oper} {a : Act} {w : World} {n d : Nat} {L : List (Nat × Value)} {x : Operand} {ds : List Deferred} {p : Option Addr} {m c : Nat} (En : EnvD ds n L a) (hd : o.dst = some d) (hn : d < n) (hf : (L.map (·.1)).contains d = false) (hw : Region.wanted o (yielded O a.tmps) = true) (ho : o.op = .buildSlice 52 1 #[(0, x)]) (hx : a.eval x = .slice p m c)
  (k : ∀ a' w' u, SlV w' u [(p, m, c)] → Fr (fun _ => False) w w' → EnvD ds n ((d, u) :: L) a' → wpList Tryz.prog O Q rest a' w') : wpList Tryz.prog O Q (o :: rest) a w :=
 env_put En hd hn hf hw (run_sl1 ho hx) fun a' E' => k a' _ _ ⟨_, 1, rfl, Nat.le_refl _, by omega, src_one (f := slL) (c := 1) (T := 22) (blk_alloc_new _ _) (by simp), fun h => by cases h⟩ ((Fr.refl _ _).alloc _) E'
theorem parse_ok {s : Bys} {l : List Sp} (h : parseP s = .ok l) (hs : s.length ≤ 4900) {w : World} (hT0 : Tb w) : Calls Tryz.prog 13 #[.string (ofL s)] w fun e w' => ∃ u, e = .returned u ∧ (∃ v, u = .tuple #[v, .int .i64 0, .int .i64 0] ∧ SpV w' v l) ∧ Fr (fun _ => False) w w' := by
 have := parse_calls s hs w hT0
 rw [h] at this
 exact this.mono fun e w' ⟨v, h1, h2, h3⟩ => ⟨_, h1, ⟨v, rfl, h2⟩, h3⟩
theorem parse_err {s : Bys} {c x : Int} (h : parseP s = .error (c, x)) (hs : s.length ≤ 4900) {w : World} (hT0 : Tb w) : Calls Tryz.prog 13 #[.string (ofL s)] w fun e w' => e = .returned (.tuple #[.slice none 0 0, .int .i64 c, .int .i64 x]) ∧ Fr (fun _ => False) w w' := by
 have := parse_calls s hs w hT0
 rw [h] at this
 exact this
theorem text_ok {v : Value} {l : List Sp} {t : Bys} (h : textR l = (t, 0)) {w : World} (hl : SpV w v l) (hln : l.length ≤ 1000000) (hT0 : Tb w) : Calls Tryz.prog 15 #[v] w fun e w' => e = .returned (.tuple #[.string (ofL t), .int .i64 0]) ∧ Fr (fun _ => False) w w' := by
 have := text15_calls hl hln hT0
 rw [h] at this
 exact this
set_option maxRecDepth 100000 in
set_option maxHeartbeats 4000000 in
theorem head_calls {w : World} (hT : Tb w) : Calls Tryz.prog 11 #[] w fun e w' => e = .returned (.bool true) ∧ Fr (fun _ => False) w w' := by
 refine wp_start0 Tryz.func11 rfl rfl (n := 121) (by decide) fun a E => ?_
 have hf : Fr (fun _ => False) w w := Fr.refl _ _
 refine s_ (r_ (ep (v := .bool false) E rfl (a_ rfl rfl) fun a E => n_ (t_ (s_ (r_ (env_callv (d := 23) (R := fun u w8 => (∃ v, u = .tuple #[v, .int .i64 0, .int .i64 0] ∧ SpV w8 v ([(540, 1050), (1980, 2490)])) ∧ Fr (fun _ => False) w w8) E rfl (by decide) rfl (wanted_none rfl _) (run_call1 (enters_of Tryz.func13 (by kernel_rfl) rfl) rfl rfl rfl) (parse_ok (by kernel_rfl) (by decide) hT) fun a w1 u ⟨⟨u1, hu, hu1⟩, f1⟩ E => ?_))))))
 subst hu
 have hT := Tb.fr hT f1 (fun r hr => id)
 have hf := hf.trans' f1 (fun _ _ h => h.elim)
 clear f1
 refine ep E rfl (m_ rfl E.g0) fun a E => ep (v := u1) E rfl (run_ex0of3 rfl E.g0) fun a E => ep (v := .int .i64 0) E rfl (run_ex1of3 rfl E.g1) fun a E => ep (v := .int .i64 0) E rfl (run_ex2of3 rfl E.g2) fun a E => ep E rfl (a_ rfl E.g2) fun a E => ep E rfl (a_ rfl E.g2) fun a E => ep E rfl (a_ rfl E.g2) fun a E => n_ (t_ (s_ (r_ (env_callv (d := 28) (R := fun u w8 => (∃ v, u = .tuple #[v, .int .i64 0, .int .i64 0] ∧ SpV w8 v ([(0, 120), (9960, 10080)])) ∧ Fr (fun _ => False) w1 w8) E rfl (by decide) rfl (wanted_none rfl _) (run_call1 (enters_of Tryz.func13 (by kernel_rfl) rfl) rfl rfl rfl) (parse_ok (by kernel_rfl) (by decide) hT) fun a w1 u ⟨⟨u2, hu, hu2⟩, f1⟩ E => ?_))))
 subst hu
 have hT := Tb.fr hT f1 (fun r hr => id)
 have hu1 := Src.fr hu1 f1
 have hf := hf.trans' f1 (fun _ _ h => h.elim)
 clear f1
 refine ep E rfl (m_ rfl E.g0) fun a E => ep (v := u2) E rfl (run_ex0of3 rfl E.g0) fun a E => ep (v := .int .i64 0) E rfl (run_ex1of3 rfl E.g1) fun a E => ep (v := .int .i64 0) E rfl (run_ex2of3 rfl E.g2) fun a E => ep E rfl (a_ rfl E.g2) fun a E => ep E rfl (a_ rfl E.g2) fun a E => ep E rfl (a_ rfl E.g2) fun a E => n_ (t_ (s_ (r_ (env_callv (d := 33) (R := fun u w8 => (∃ v, u = .tuple #[v, .int .i64 0, .int .i64 0] ∧ SpV w8 v ([(0, 1440), (7200, 10080)])) ∧ Fr (fun _ => False) w1 w8) E rfl (by decide) rfl (wanted_none rfl _) (run_call1 (enters_of Tryz.func13 (by kernel_rfl) rfl) rfl rfl rfl) (parse_ok (by kernel_rfl) (by decide) hT) fun a w1 u ⟨⟨u3, hu, hu3⟩, f1⟩ E => ?_))))
 subst hu
 have hT := Tb.fr hT f1 (fun r hr => id)
 have hu1 := Src.fr hu1 f1
 have hu2 := Src.fr hu2 f1
 have hf := hf.trans' f1 (fun _ _ h => h.elim)
 clear f1
 refine ep E rfl (m_ rfl E.g0) fun a E => ep (v := u3) E rfl (run_ex0of3 rfl E.g0) fun a E => ep (v := .int .i64 0) E rfl (run_ex1of3 rfl E.g1) fun a E => ep (v := .int .i64 0) E rfl (run_ex2of3 rfl E.g2) fun a E => ep E rfl (a_ rfl E.g2) fun a E => ep E rfl (a_ rfl E.g2) fun a E => ep E rfl (a_ rfl E.g2) fun a E => n_ (t_ (s_ (r_ (ec_ E rfl (run_call1 (enters_of Tryz.func13 (by kernel_rfl) rfl) rfl rfl rfl) (parse_err (c := 10) (x := 8) (by kernel_rfl) (by decide) hT) fun a w1 f1 E => ?_))))
 have hT := Tb.fr hT f1 (fun r hr => id)
 have hu1 := Src.fr hu1 f1
 have hu2 := Src.fr hu2 f1
 have hu3 := Src.fr hu3 f1
 have hf := hf.trans' f1 (fun _ _ h => h.elim)
 clear f1
 refine ep E rfl (m_ rfl E.g0) fun a E => ep (v := .slice none 0 0) E rfl (run_ex0of3 rfl E.g0) fun a E => ep (v := .int .i64 10) E rfl (run_ex1of3 rfl E.g1) fun a E => ep (v := .int .i64 8) E rfl (run_ex2of3 rfl E.g2) fun a E => ep E rfl (a_ rfl E.g2) fun a E => ep E rfl (a_ rfl E.g2) fun a E => ep E rfl (a_ rfl E.g2) fun a E => n_ (t_ (s_ (r_ (ec_ E rfl (run_call1 (enters_of Tryz.func13 (by kernel_rfl) rfl) rfl rfl rfl) (parse_err (c := 10) (x := 5) (by kernel_rfl) (by decide) hT) fun a w1 f1 E => ?_))))
 have hT := Tb.fr hT f1 (fun r hr => id)
 have hu1 := Src.fr hu1 f1
 have hu2 := Src.fr hu2 f1
 have hu3 := Src.fr hu3 f1
 have hf := hf.trans' f1 (fun _ _ h => h.elim)
 clear f1
 refine ep E rfl (m_ rfl E.g0) fun a E => ep (v := .slice none 0 0) E rfl (run_ex0of3 rfl E.g0) fun a E => ep (v := .int .i64 10) E rfl (run_ex1of3 rfl E.g1) fun a E => ep (v := .int .i64 5) E rfl (run_ex2of3 rfl E.g2) fun a E => ep E rfl (a_ rfl E.g2) fun a E => ep E rfl (a_ rfl E.g2) fun a E => ep E rfl (a_ rfl E.g2) fun a E => n_ (t_ (s_ (r_ (ec_ E rfl (run_call1 (enters_of Tryz.func13 (by kernel_rfl) rfl) rfl rfl rfl) (parse_err (c := 10) (x := 3) (by kernel_rfl) (by decide) hT) fun a w1 f1 E => ?_))))
 have hT := Tb.fr hT f1 (fun r hr => id)
 have hu1 := Src.fr hu1 f1
 have hu2 := Src.fr hu2 f1
 have hu3 := Src.fr hu3 f1
 have hf := hf.trans' f1 (fun _ _ h => h.elim)
 clear f1
 refine ep E rfl (m_ rfl E.g0) fun a E => ep (v := .slice none 0 0) E rfl (run_ex0of3 rfl E.g0) fun a E => ep (v := .int .i64 10) E rfl (run_ex1of3 rfl E.g1) fun a E => ep (v := .int .i64 3) E rfl (run_ex2of3 rfl E.g2) fun a E => ep E rfl (a_ rfl E.g2) fun a E => ep E rfl (a_ rfl E.g2) fun a E => ep E rfl (a_ rfl E.g2) fun a E => n_ (t_ (s_ (r_ (ep E rfl (m_ rfl E.g34) fun a E => ec_ (v := .tuple #[.string (ofL [109, 111, 32, 48, 58, 48, 48, 45, 50, 58, 48, 48, 44, 32, 115, 117, 32, 50, 50, 58, 48, 48, 45, 50, 52, 58, 48, 48]), .int .i64 0]) E rfl (run_call1 (enters_of Tryz.func15 (by kernel_rfl) rfl) rfl rfl E.g0) (text_ok (t := [109, 111, 32, 48, 58, 48, 48, 45, 50, 58, 48, 48, 44, 32, 115, 117, 32, 50, 50, 58, 48, 48, 45, 50, 52, 58, 48, 48]) (by kernel_rfl) hu2 (by decide) hT) fun a w1 f1 E => ?_))))
 have hT := Tb.fr hT f1 (fun r hr => id)
 have hu1 := Src.fr hu1 f1
 have hu2 := Src.fr hu2 f1
 have hu3 := Src.fr hu3 f1
 have hf := hf.trans' f1 (fun _ _ h => h.elim)
 clear f1
 refine ep E rfl (m_ rfl E.g0) fun a E => ep (v := .string (ofL [109, 111, 32, 48, 58, 48, 48, 45, 50, 58, 48, 48, 44, 32, 115, 117, 32, 50, 50, 58, 48, 48, 45, 50, 52, 58, 48, 48])) E rfl (run_ext0 rfl E.g0) fun a E => ep (v := .int .i64 0) E rfl (run_ext1 rfl E.g1) fun a E => ep E rfl (a_ rfl E.g1) fun a E => ep E rfl (a_ rfl E.g1) fun a E => n_ (t_ (s_ (r_ (ep E rfl (m_ rfl E.g48) fun a E => ep (v := .bool true) E rfl (run_ieql (m := 0) (n := 0) E.g0 rfl Tryz.underlying25 rfl) fun a E => ep E rfl (m_ rfl E.g0) fun a E => eg E rfl (wy_ E E.g0) (m_ rfl E.g52) fun a E => eg (v := .agg (spA (540, 1050))) E rfl (wy_ E E.g1) (run_of48 rfl rfl rfl) fun a E => eg (v := .agg (spA (1980, 2490))) E rfl (wy_ E E.g2) (run_of48 rfl rfl rfl) fun a E => env_two22 (d := 63) (s := (540, 1050)) (t := (1980, 2490)) E rfl (by decide) rfl (wy_ E E.g3) rfl E.g1 E.g0 fun a w1 u4 hu4 f1 E => ?_))))
 have hT := Tb.fr hT f1 (fun r hr => id)
 have hu1 := Src.fr hu1 f1
 have hu2 := Src.fr hu2 f1
 have hu3 := Src.fr hu3 f1
 have hf := hf.trans' f1 (fun _ _ h => h.elim)
 clear f1
 refine env_call (d := 64) (v := .bool true) E rfl (by decide) rfl (wy_ E E.g4) (run_call2 (enters_of Tryz.func17 (by kernel_rfl) rfl) rfl rfl E.g3 E.g0) (by have h := same_calls hu1 hu4; rw [show (([(540, 1050), (1980, 2490)] : List Sp) == ([(540, 1050), (1980, 2490)] : List Sp)) = true from by decide] at h; exact h) fun a w1 f1 E => ?_
 have hT := Tb.fr hT f1 (fun r hr => id)
 have hu1 := Src.fr hu1 f1
 have hu2 := Src.fr hu2 f1
 have hu3 := Src.fr hu3 f1
 have hu4 := Src.fr hu4 f1
 have hf := hf.trans' f1 (fun _ _ h => h.elim)
 clear f1
 refine ep (v := .bool true) E rfl (run_pick_t rfl E.g5 E.g0) fun a E => ep E rfl (m_ rfl E.g0) fun a E => eg E rfl (wy_ E E.g0) (m_ rfl E.g50) fun a E => eg (v := .bool true) E rfl (wy_ E E.g1) (run_ieql (m := 0) (n := 0) E.g0 rfl Tryz.underlying25 rfl) fun a E => ep (v := .bool true) E rfl (run_pick_t rfl E.g2 E.g0) fun a E => ep E rfl (m_ rfl E.g0) fun a E => eg E rfl (wy_ E E.g0) (m_ rfl E.g55) fun a E => eg (v := .agg (spA (0, 120))) E rfl (wy_ E E.g1) (run_of48 rfl rfl rfl) fun a E => eg (v := .agg (spA (9960, 10080))) E rfl (wy_ E E.g2) (run_of48 rfl rfl rfl) fun a E => env_two22 (d := 74) (s := (0, 120)) (t := (9960, 10080)) E rfl (by decide) rfl (wy_ E E.g3) rfl E.g1 E.g0 fun a w1 u5 hu5 f1 E => ?_
 have hT := Tb.fr hT f1 (fun r hr => id)
 have hu1 := Src.fr hu1 f1
 have hu2 := Src.fr hu2 f1
 have hu3 := Src.fr hu3 f1
 have hu4 := Src.fr hu4 f1
 have hf := hf.trans' f1 (fun _ _ h => h.elim)
 clear f1
 refine env_call (d := 75) (v := .bool true) E rfl (by decide) rfl (wy_ E E.g4) (run_call2 (enters_of Tryz.func17 (by kernel_rfl) rfl) rfl rfl E.g3 E.g0) (by have h := same_calls hu2 hu5; rw [show (([(0, 120), (9960, 10080)] : List Sp) == ([(0, 120), (9960, 10080)] : List Sp)) = true from by decide] at h; exact h) fun a w1 f1 E => ?_
 have hT := Tb.fr hT f1 (fun r hr => id)
 have hu1 := Src.fr hu1 f1
 have hu2 := Src.fr hu2 f1
 have hu3 := Src.fr hu3 f1
 have hu4 := Src.fr hu4 f1
 have hu5 := Src.fr hu5 f1
 have hf := hf.trans' f1 (fun _ _ h => h.elim)
 clear f1
 refine ep (v := .bool true) E rfl (run_pick_t rfl E.g5 E.g0) fun a E => ep E rfl (m_ rfl E.g0) fun a E => eg E rfl (wy_ E E.g0) (m_ rfl E.g53) fun a E => eg (v := .bool true) E rfl (wy_ E E.g1) (run_ieql (m := 0) (n := 0) E.g0 rfl Tryz.underlying25 rfl) fun a E => ep (v := .bool true) E rfl (run_pick_t rfl E.g2 E.g0) fun a E => ep E rfl (m_ rfl E.g0) fun a E => eg E rfl (wy_ E E.g0) (m_ rfl E.g58) fun a E => eg (v := .agg (spA (0, 1440))) E rfl (wy_ E E.g1) (run_of48 rfl rfl rfl) fun a E => eg (v := .agg (spA (7200, 10080))) E rfl (wy_ E E.g2) (run_of48 rfl rfl rfl) fun a E => env_two22 (d := 85) (s := (0, 1440)) (t := (7200, 10080)) E rfl (by decide) rfl (wy_ E E.g3) rfl E.g1 E.g0 fun a w1 u6 hu6 f1 E => ?_
 have hT := Tb.fr hT f1 (fun r hr => id)
 have hu1 := Src.fr hu1 f1
 have hu2 := Src.fr hu2 f1
 have hu3 := Src.fr hu3 f1
 have hu4 := Src.fr hu4 f1
 have hu5 := Src.fr hu5 f1
 have hf := hf.trans' f1 (fun _ _ h => h.elim)
 clear f1
 refine env_call (d := 86) (v := .bool true) E rfl (by decide) rfl (wy_ E E.g4) (run_call2 (enters_of Tryz.func17 (by kernel_rfl) rfl) rfl rfl E.g3 E.g0) (by have h := same_calls hu3 hu6; rw [show (([(0, 1440), (7200, 10080)] : List Sp) == ([(0, 1440), (7200, 10080)] : List Sp)) = true from by decide] at h; exact h) fun a w1 f1 E => ?_
 have hT := Tb.fr hT f1 (fun r hr => id)
 have hu1 := Src.fr hu1 f1
 have hu2 := Src.fr hu2 f1
 have hu3 := Src.fr hu3 f1
 have hu4 := Src.fr hu4 f1
 have hu5 := Src.fr hu5 f1
 have hu6 := Src.fr hu6 f1
 have hf := hf.trans' f1 (fun _ _ h => h.elim)
 clear f1
 refine ep (v := .bool true) E rfl (run_pick_t rfl E.g5 E.g0) fun a E => ep E rfl (a_ rfl E.g0) fun a E => n_ (t_ (s_ (r_ (ep E rfl (m_ rfl E.g0) fun a E => ep E rfl (m_ rfl E.g0) fun a E => eg E rfl (wy_ E E.g0) (m_ rfl E.g58) fun a E => eg (v := .bool true) E rfl (wy_ E E.g1) (run_ieql (m := 10) (n := 10) E.g0 rfl Tryz.underlying25 rfl) fun a E => ep (v := .bool true) E rfl (run_pick_t rfl E.g2 E.g0) fun a E => ep E rfl (m_ rfl E.g0) fun a E => eg (v := .int .i64 8) E rfl (wy_ E E.g0) (m_ rfl (E.get 61 rfl)) fun a E => eg (v := .bool true) E rfl (wy_ E E.g1) (run_ieql (m := 8) (n := 8) E.g0 rfl Tryz.underlying3 rfl) fun a E => ep (v := .bool true) E rfl (run_pick_t rfl E.g2 E.g0) fun a E => ep E rfl (m_ rfl E.g0) fun a E => eg E rfl (wy_ E E.g0) (m_ rfl E.g58) fun a E => eg (v := .bool true) E rfl (wy_ E E.g1) (run_ieql (m := 10) (n := 10) E.g0 rfl Tryz.underlying25 rfl) fun a E => ep (v := .bool true) E rfl (run_pick_t rfl E.g2 E.g0) fun a E => ep E rfl (m_ rfl E.g0) fun a E => eg (v := .int .i64 5) E rfl (wy_ E E.g0) (m_ rfl (E.get 61 rfl)) fun a E => eg (v := .bool true) E rfl (wy_ E E.g1) (run_ieql (m := 5) (n := 5) E.g0 rfl Tryz.underlying3 rfl) fun a E => ep (v := .bool true) E rfl (run_pick_t rfl E.g2 E.g0) fun a E => ep E rfl (m_ rfl E.g0) fun a E => eg E rfl (wy_ E E.g0) (m_ rfl E.g58) fun a E => eg (v := .bool true) E rfl (wy_ E E.g1) (run_ieql (m := 10) (n := 10) E.g0 rfl Tryz.underlying25 rfl) fun a E => ep (v := .bool true) E rfl (run_pick_t rfl E.g2 E.g0) fun a E => ep E rfl (m_ rfl E.g0) fun a E => eg (v := .int .i64 3) E rfl (wy_ E E.g0) (m_ rfl (E.get 61 rfl)) fun a E => eg (v := .bool true) E rfl (wy_ E E.g1) (run_ieql (m := 3) (n := 3) E.g0 rfl Tryz.underlying3 rfl) fun a E => ep (v := .bool true) E rfl (run_pick_t rfl E.g2 E.g0) fun a E => ep E rfl (m_ rfl E.g0) fun a E => eg E rfl (wy_ E E.g0) (m_ rfl E.g58) fun a E => eg (v := .bool true) E rfl (wy_ E E.g1) (run_ieql (m := 0) (n := 0) E.g0 rfl Tryz.underlying25 rfl) fun a E => ep (v := .bool true) E rfl (run_pick_t rfl E.g2 E.g0) fun a E => ep E rfl (m_ rfl E.g0) fun a E => eg (v := .string (ofL [109, 111, 32, 48, 58, 48, 48, 45, 50, 58, 48, 48, 44, 32, 115, 117, 32, 50, 50, 58, 48, 48, 45, 50, 52, 58, 48, 48])) E rfl (wy_ E E.g0) (m_ rfl (E.get 63 rfl)) fun a E => eg (v := .bool true) E rfl (wy_ E E.g1) ((run_seq E.g0 rfl rfl).trans (by rw [beq_self_eq_true])) fun a E => ep (v := .bool true) E rfl (run_pick_t rfl E.g2 E.g0) fun a E => es_ E rfl (a_ rfl E.g0) fun a E => n_ (t_ (wr_ (ret_tmp (t := 0) rfl E E.g0 ⟨rfl, hf⟩)))))))
end Go.Proofs.YtjaffpnegdcjnaaGreatDoor
/- The laws of the sets: the plain side. -/
set_option linter.unusedVariables false
set_option linter.unusedSimpArgs false
namespace Go.Proofs.YtjaffpnegdcjnaaGreatDoor
open Go.RowKit Go.Pl
section
variable {o : Oper} {w : World} {ρ : Operand → Value} {x y : Operand}
theorem run_beql {a b : Bool} (hx : ρ x = .bool a) (hy : ρ y = .bool b) (ho : o.op = .binOp .eql 4 x y 4) : (execOp ρ o).run Tryz.prog w = .ok (.value (.bool (a == b))) w := by
 cases a <;> cases b <;> simp [execOp, ho, hx, hy, go_sem]
end
theorem few1 {a : Slv} (h : fewB [a] = true) : a.2.1 ≤ 150 := by simpa [fewB] using h
theorem beq_of {a b : List Sp} (h : a = b) : (a == b) = true := by rw [h]; exact beq_self_eq_true b
end Go.Proofs.YtjaffpnegdcjnaaGreatDoor
/- The reference lexer: bytes, gaps. -/
set_option linter.unusedVariables false
set_option linter.unusedSimpArgs false
namespace Go.Proofs.YtjaffpnegdcjnaaGreatDoor
open Go.RowKit Go.Pl
theorem u8_eq (c d : UInt8) : (c == d) = ((c.toNat : Int) == (d.toNat : Int)) := by
 rw [Bool.eq_iff_iff, beq_iff_eq, beq_iff_eq]
 constructor
 ·intro h; rw [h]
 ·intro h; exact UInt8.toNat_inj.1 (by omega)
theorem u8_le (c d : UInt8) : decide (c ≤ d) = decide ((c.toNat : Int) ≤ (d.toNat : Int)) := by
 rw [Bool.eq_iff_iff, decide_eq_true_eq, decide_eq_true_eq, UInt8.le_iff_toNat_le]; omega
theorem isLet_i (c : UInt8) : isLet c = ((decide (97 ≤ (c.toNat : Int)) && decide ((c.toNat : Int) ≤ 122)) || (decide (65 ≤ (c.toNat : Int)) && decide ((c.toNat : Int) ≤ 90))) := by
 unfold isLet
 rw [u8_le 97 c, u8_le c 122, u8_le 65 c, u8_le c 90]; rfl
theorem isDig_i (c : UInt8) : isDig c = (decide (48 ≤ (c.toNat : Int)) && decide ((c.toNat : Int) ≤ 57)) := by
 unfold isDig
 rw [u8_le 48 c, u8_le c 57]; rfl
theorem isWrd_i (c : UInt8) : isWrd c = (isLet c || isDig c || ((c.toNat : Int) == 95)) := by
 unfold isWrd
 rw [u8_eq c 95]; rfl
theorem isBlk_i (c : UInt8) : isBlk c = ([32, 9, 10] : Bys).contains c := by
 unfold isBlk; simp [List.contains, List.elem]
 cases (c == 32) <;> cases (c == 9) <;> cases (c == 10) <;> rfl
set_option maxRecDepth 100000 in
set_option maxHeartbeats 4000000 in
theorem letter_calls (c : UInt8) (w : World) : Calls Tryz.prog 85 #[.int .u8 (c.toNat : Int)] w fun e w' => e = .returned (.bool (isLet c)) ∧ Fr (fun _ => False) w w' := by
 refine wp_start1 Tryz.func85 rfl rfl (n := 17) (by decide) fun a E => ?_
 have hf : Fr (fun _ => False) w w := Fr.refl _ _
 refine s_ (r_ (ep (v := .bool false) E rfl (a_ rfl rfl) fun a E => n_ (t_ (s_ (r_ (ep E rfl (m_ rfl E.g1) fun a E => ep (v := .bool (decide (97 ≤ (c.toNat : Int)))) E rfl (run_ugeq E.g0 rfl rfl) fun a E => ep E rfl (m_ rfl E.g0) fun a E => ?_))))))
 cases hq146 : (decide (97 ≤ (c.toNat : Int))) with
 | false =>
  rw [hq146] at E
  refine ek E rfl rfl E.g0 fun a E => ek E rfl rfl E.g1 fun a E => ep (v := .bool false) E rfl (run_pick_f rfl E.g2 rfl) fun a E => ep E rfl (m_ rfl E.g0) fun a E => eg E rfl (wy_ E E.g0) (m_ rfl E.g8) fun a E => eg (v := .bool (decide (65 ≤ (c.toNat : Int)))) E rfl (wy_ E E.g1) (run_ugeq E.g0 rfl rfl) fun a E => eg E rfl (wy_ E E.g2) (m_ rfl E.g0) fun a E => ?_
  cases hq147 : (decide (65 ≤ (c.toNat : Int))) with
  | false =>
   rw [hq147] at E
   refine ek E rfl rfl E.g0 fun a E => ek E rfl rfl E.g1 fun a E => eg (v := .bool false) E rfl (wy_ E E.g5) (run_pick_f rfl E.g2 rfl) fun a E => ep (v := .bool false) E rfl (run_pick_f rfl E.g6 E.g0) fun a E => es_ E rfl (a_ rfl E.g0) fun a E => n_ (t_ (wr_ (ret_tmp (t := 2) rfl E E.g0 ⟨?_, hf⟩)))
   rw [isLet_i]
   try rw [hq146]
   try rw [hq147]
   try simp only [Bool.true_and, Bool.and_true, Bool.false_and, Bool.and_false, Bool.true_or, Bool.or_true, Bool.false_or, Bool.or_false]
  | true =>
   rw [hq147] at E
   refine eg E rfl (wy_ E E.g0) (m_ rfl E.g11) fun a E => eg (v := .bool (decide ((c.toNat : Int) ≤ 90))) E rfl (wy_ E E.g1) (run_uleq E.g0 rfl rfl) fun a E => eg (v := .bool (decide ((c.toNat : Int) ≤ 90))) E rfl (wy_ E E.g5) (run_pick_t rfl E.g2 E.g0) fun a E => ep (v := .bool (decide ((c.toNat : Int) ≤ 90))) E rfl (run_pick_f rfl E.g6 E.g0) fun a E => es_ E rfl (a_ rfl E.g0) fun a E => n_ (t_ (wr_ (ret_tmp (t := 2) rfl E E.g0 ⟨?_, hf⟩)))
   rw [isLet_i]
   try rw [hq146]
   try rw [hq147]
   try simp only [Bool.true_and, Bool.and_true, Bool.false_and, Bool.and_false, Bool.true_or, Bool.or_true, Bool.false_or, Bool.or_false]
 | true =>
  rw [hq146] at E
  refine eg E rfl (wy_ E E.g0) (m_ rfl E.g4) fun a E => eg (v := .bool (decide ((c.toNat : Int) ≤ 122))) E rfl (wy_ E E.g1) (run_uleq E.g0 rfl rfl) fun a E => ep (v := .bool (decide ((c.toNat : Int) ≤ 122))) E rfl (run_pick_t rfl E.g2 E.g0) fun a E => ep E rfl (m_ rfl E.g0) fun a E => ?_
  cases hq148 : (decide ((c.toNat : Int) ≤ 122)) with
  | false =>
   rw [hq148] at E
   refine eg E rfl (wy_ E E.g0) (m_ rfl E.g8) fun a E => eg (v := .bool (decide (65 ≤ (c.toNat : Int)))) E rfl (wy_ E E.g1) (run_ugeq E.g0 rfl rfl) fun a E => eg E rfl (wy_ E E.g2) (m_ rfl E.g0) fun a E => ?_
   cases hq149 : (decide (65 ≤ (c.toNat : Int))) with
   | false =>
    rw [hq149] at E
    refine ek E rfl rfl E.g0 fun a E => ek E rfl rfl E.g1 fun a E => eg (v := .bool false) E rfl (wy_ E E.g5) (run_pick_f rfl E.g2 rfl) fun a E => ep (v := .bool false) E rfl (run_pick_f rfl E.g6 E.g0) fun a E => es_ E rfl (a_ rfl E.g0) fun a E => n_ (t_ (wr_ (ret_tmp (t := 2) rfl E E.g0 ⟨?_, hf⟩)))
    rw [isLet_i]
    try rw [hq146]
    try rw [hq148]
    try rw [hq149]
    try simp only [Bool.true_and, Bool.and_true, Bool.false_and, Bool.and_false, Bool.true_or, Bool.or_true, Bool.false_or, Bool.or_false]
   | true =>
    rw [hq149] at E
    refine eg E rfl (wy_ E E.g0) (m_ rfl E.g11) fun a E => eg (v := .bool (decide ((c.toNat : Int) ≤ 90))) E rfl (wy_ E E.g1) (run_uleq E.g0 rfl rfl) fun a E => eg (v := .bool (decide ((c.toNat : Int) ≤ 90))) E rfl (wy_ E E.g5) (run_pick_t rfl E.g2 E.g0) fun a E => ep (v := .bool (decide ((c.toNat : Int) ≤ 90))) E rfl (run_pick_f rfl E.g6 E.g0) fun a E => es_ E rfl (a_ rfl E.g0) fun a E => n_ (t_ (wr_ (ret_tmp (t := 2) rfl E E.g0 ⟨?_, hf⟩)))
    rw [isLet_i]
    try rw [hq146]
    try rw [hq148]
    try rw [hq149]
    try simp only [Bool.true_and, Bool.and_true, Bool.false_and, Bool.and_false, Bool.true_or, Bool.or_true, Bool.false_or, Bool.or_false]
  | true =>
   rw [hq148] at E
   refine ek E rfl rfl E.g0 fun a E => ek E rfl rfl E.g1 fun a E => ek E rfl rfl E.g2 fun a E => eu E rfl rfl E.g0 fun a E => eu E rfl rfl E.g1 fun a E => ek E rfl rfl E.g5 fun a E => ep (v := .bool true) E rfl (run_pick_t rfl E.g6 rfl) fun a E => es_ E rfl (a_ rfl E.g0) fun a E => n_ (t_ (wr_ (ret_tmp (t := 2) rfl E E.g0 ⟨?_, hf⟩)))
   rw [isLet_i]
   try rw [hq146]
   try rw [hq148]
   try simp only [Bool.true_and, Bool.and_true, Bool.false_and, Bool.and_false, Bool.true_or, Bool.or_true, Bool.false_or, Bool.or_false]
set_option maxRecDepth 100000 in
set_option maxHeartbeats 4000000 in
theorem digit_calls (c : UInt8) (w : World) : Calls Tryz.prog 87 #[.int .u8 (c.toNat : Int)] w fun e w' => e = .returned (.bool (isDig c)) ∧ Fr (fun _ => False) w w' := by
 refine wp_start1 Tryz.func87 rfl rfl (n := 9) (by decide) fun a E => ?_
 have hf : Fr (fun _ => False) w w := Fr.refl _ _
 refine s_ (r_ (ep (v := .bool false) E rfl (a_ rfl rfl) fun a E => n_ (t_ (s_ (r_ (ep E rfl (m_ rfl E.g1) fun a E => ep (v := .bool (decide (48 ≤ (c.toNat : Int)))) E rfl (run_ugeq E.g0 rfl rfl) fun a E => ep E rfl (m_ rfl E.g0) fun a E => ?_))))))
 cases hq150 : (decide (48 ≤ (c.toNat : Int))) with
 | false =>
  rw [hq150] at E
  refine ek E rfl rfl E.g0 fun a E => ek E rfl rfl E.g1 fun a E => ep (v := .bool false) E rfl (run_pick_f rfl E.g2 rfl) fun a E => es_ E rfl (a_ rfl E.g0) fun a E => n_ (t_ (wr_ (ret_tmp (t := 2) rfl E E.g0 ⟨?_, hf⟩)))
  rw [isDig_i]
  try rw [hq150]
  try simp only [Bool.true_and, Bool.and_true, Bool.false_and, Bool.and_false, Bool.true_or, Bool.or_true, Bool.false_or, Bool.or_false]
 | true =>
  rw [hq150] at E
  refine eg E rfl (wy_ E E.g0) (m_ rfl E.g4) fun a E => eg (v := .bool (decide ((c.toNat : Int) ≤ 57))) E rfl (wy_ E E.g1) (run_uleq E.g0 rfl rfl) fun a E => ep (v := .bool (decide ((c.toNat : Int) ≤ 57))) E rfl (run_pick_t rfl E.g2 E.g0) fun a E => es_ E rfl (a_ rfl E.g0) fun a E => n_ (t_ (wr_ (ret_tmp (t := 2) rfl E E.g0 ⟨?_, hf⟩)))
  rw [isDig_i]
  try rw [hq150]
  try simp only [Bool.true_and, Bool.and_true, Bool.false_and, Bool.and_false, Bool.true_or, Bool.or_true, Bool.false_or, Bool.or_false]
set_option maxRecDepth 100000 in
set_option maxHeartbeats 4000000 in
theorem word_calls (c : UInt8) (w : World) : Calls Tryz.prog 86 #[.int .u8 (c.toNat : Int)] w fun e w' => e = .returned (.bool (isWrd c)) ∧ Fr (fun _ => False) w w' := by
 refine wp_start1 Tryz.func86 rfl rfl (n := 13) (by decide) fun a E => ?_
 have hf : Fr (fun _ => False) w w := Fr.refl _ _
 refine s_ (r_ (ep (v := .bool false) E rfl (a_ rfl rfl) fun a E => n_ (t_ (s_ (r_ (ep E rfl (m_ rfl E.g1) fun a E => ec_ (v := .bool (isLet c)) E rfl (run_call1 (enters_of Tryz.func85 (by kernel_rfl) rfl) rfl rfl E.g0) (letter_calls c _) fun a w1 f1 E => ?_))))))
 have hf := hf.trans' f1 (fun _ _ h => h.elim)
 clear f1
 refine ep E rfl (m_ rfl E.g0) fun a E => ?_
 cases hq151 : (isLet c) with
 | false =>
  rw [hq151] at E
  refine eg E rfl (wy_ E E.g0) (m_ rfl E.g4) fun a E => env_call (d := 7) (v := .bool (isDig c)) E rfl (by decide) rfl (wy_ E E.g1) (run_call1 (enters_of Tryz.func87 (by kernel_rfl) rfl) rfl rfl E.g0) (digit_calls c _) fun a w1 f1 E => ?_
  have hf := hf.trans' f1 (fun _ _ h => h.elim)
  clear f1
  refine ep (v := .bool (isDig c)) E rfl (run_pick_f rfl E.g2 E.g0) fun a E => ep E rfl (m_ rfl E.g0) fun a E => ?_
  cases hq152 : (isDig c) with
  | false =>
   rw [hq152] at E
   refine eg E rfl (wy_ E E.g0) (m_ rfl E.g8) fun a E => eg (v := .bool ((c.toNat : Int) == 95)) E rfl (wy_ E E.g1) (run_ueql E.g0 rfl rfl) fun a E => ep (v := .bool ((c.toNat : Int) == 95)) E rfl (run_pick_f rfl E.g2 E.g0) fun a E => es_ E rfl (a_ rfl E.g0) fun a E => n_ (t_ (wr_ (ret_tmp (t := 2) rfl E E.g0 ⟨?_, hf⟩)))
   rw [isWrd_i]
   try rw [hq151]
   try rw [hq152]
   try simp only [Bool.true_and, Bool.and_true, Bool.false_and, Bool.and_false, Bool.true_or, Bool.or_true, Bool.false_or, Bool.or_false]
  | true =>
   rw [hq152] at E
   refine ek E rfl rfl E.g0 fun a E => ek E rfl rfl E.g1 fun a E => ep (v := .bool true) E rfl (run_pick_t rfl E.g2 rfl) fun a E => es_ E rfl (a_ rfl E.g0) fun a E => n_ (t_ (wr_ (ret_tmp (t := 2) rfl E E.g0 ⟨?_, hf⟩)))
   rw [isWrd_i]
   try rw [hq151]
   try rw [hq152]
   try simp only [Bool.true_and, Bool.and_true, Bool.false_and, Bool.and_false, Bool.true_or, Bool.or_true, Bool.false_or, Bool.or_false]
 | true =>
  rw [hq151] at E
  refine ek E rfl rfl E.g0 fun a E => ek E rfl rfl E.g1 fun a E => ep (v := .bool true) E rfl (run_pick_t rfl E.g2 rfl) fun a E => ep E rfl (m_ rfl E.g0) fun a E => ek E rfl rfl E.g0 fun a E => ek E rfl rfl E.g1 fun a E => ep (v := .bool true) E rfl (run_pick_t rfl E.g2 rfl) fun a E => es_ E rfl (a_ rfl E.g0) fun a E => n_ (t_ (wr_ (ret_tmp (t := 2) rfl E E.g0 ⟨?_, hf⟩)))
  rw [isWrd_i]
  try rw [hq151]
  try simp only [Bool.true_and, Bool.and_true, Bool.false_and, Bool.and_false, Bool.true_or, Bool.or_true, Bool.false_or, Bool.or_false]
set_option maxRecDepth 100000 in
set_option maxHeartbeats 4000000 in
theorem has_calls (xs : Bys) (c : UInt8) (hl : xs.length ≤ 1000) (w : World) : Calls Tryz.prog 84 #[.string (ofL xs), .int .u8 (c.toNat : Int)] w fun e w' => e = .returned (.bool (xs.contains c)) ∧ Fr (fun _ => False) w w' := by
 refine wp_start2 Tryz.func84 rfl rfl (n := 17) (by decide) fun a E => ?_
 have hf : Fr (fun _ => False) w w := Fr.refl _ _
 refine s_ (r_ (ep (v := .bool false) E rfl (a_ rfl rfl) fun a E => n_ (t_ (s_ (s_ (r_ (ep (v := .int .i64 0) E rfl (a_ rfl rfl) fun a E => n_ (t_ (bk_ (wp_loop (fun a w2 => ∃ (i : Nat), Env 17 [(0, .string (ofL xs)), (1, .int .u8 (c.toNat : Int)), (5, .int .i64 (i : Int))] a ∧ i ≤ xs.length ∧ xs.contains c = (xs.drop i).contains c ∧ Fr (fun _ => False) w w2) (fun a _ => xs.length - (intOf (a.eval (.tmp 5))).toNat) ?_ ?_))))))))))
 ·exact ⟨0, E.of ⟨E.g2, E.g3, E.g0, trivial⟩, Nat.zero_le _, rfl, hf⟩
 clear E
 rintro a w2 ⟨i, E, hi, hc0, hf⟩
 have hmu : xs.length - (intOf (a.eval (.tmp 5))).toNat = xs.length - i := by rw [E.g2]; first | rfl | (simp [intOf]; done) | (simp only [intOf]; omega)
 rw [hmu]
 clear hmu
 refine s_ (s_ (r_ (ep E rfl (m_ rfl E.g2) fun a E => ep E rfl (m_ rfl E.g1) fun a E => ep (v := .int .i64 (xs.length : Int)) E rfl (run_slen rfl E.g0) fun a E => ep (v := .bool (decide ((i : Int) < (xs.length : Int)))) E rfl (run_ilss E.g2 E.g0 Tryz.underlying3 rfl) fun a E => n_ (t_ ?_))))
 cases hq154 : (decide ((i : Int) < (xs.length : Int))) with
 | false =>
  rw [hq154] at E
  have hie : i = xs.length := by have := of_decide_eq_false hq154; omega
  refine c_f E.g0 (x_ (te_ (te_ (be_ (t_ (s_ (r_ (ep (v := .bool false) E rfl (a_ rfl rfl) fun a E => n_ (t_ (wr_ (ret_tmp (t := 4) rfl E E.g0 ⟨?_, hf⟩)))))))))))
  rw [hc0, hie, List.drop_length]; rfl
 | true =>
  rw [hq154] at E
  have hlt : i < xs.length := by have := of_decide_eq_true hq154; omega
  obtain ⟨e, he⟩ : ∃ e, xs[i]? = some e := ⟨_, List.getElem?_eq_getElem hlt⟩
  refine c_t E.g0 (k_ (t_ (s_ (bk_ (s_ (r_ (ep E rfl (m_ rfl E.g4) fun a E => ep E rfl (m_ rfl E.g7) fun a E => ep (v := .int .u8 (e.toNat : Int)) E rfl (run_byte rfl E.g1 E.g0 he) fun a E => ep E rfl (m_ rfl E.g8) fun a E => ep (v := .bool ((e.toNat : Int) == (c.toNat : Int))) E rfl (run_ueql E.g1 E.g0 rfl) fun a E => n_ (t_ ?_))))))))
  cases hq155 : ((e.toNat : Int) == (c.toNat : Int)) with
  | false =>
   rw [hq155] at E
   refine c_f E.g0 (k_ (b_ (t_ (r_ (ep E rfl (m_ rfl E.g11) fun a E => ep (v := .int .i64 ((i : Int) + 1)) E rfl (run_iadd Tryz.underlying3 E.g0 rfl (by omega) (by omega) rfl) fun a E => es_ E rfl (a_ rfl E.g0) fun a E => n_ (t_ ?_))))))
   refine ⟨⟨i + 1, E.of ⟨E.g12, E.g13, E.g0, trivial⟩, hlt, ?_, hf⟩, ?_⟩
   ·rw [hc0, List.drop_eq_getElem_cons hlt, (List.getElem?_eq_some_iff.1 he).2, List.contains_cons]
    have h9 : (c == e) = false := by
     have h8 := hq155
     rw [u8_eq, beq_eq_false_iff_ne]; rw [beq_eq_false_iff_ne] at h8; exact fun h => h8 h.symm
    rw [h9, Bool.false_or]
   ·rw [E.g0]; simp only [intOf]; omega
  | true =>
   rw [hq155] at E
   refine c_t E.g0 (s_ (r_ (ep (v := .bool true) E rfl (a_ rfl rfl) fun a E => n_ (t_ (wr_ (br_ (tr_ (tr_ (br_ (tr_ (ret_tmp (t := 4) rfl E E.g0 ⟨?_, hf⟩)))))))))))
   rw [hc0, List.drop_eq_getElem_cons hlt, (List.getElem?_eq_some_iff.1 he).2, List.contains_cons]
   have h9 : (c == e) = true := by
    have h8 := hq155
    rw [u8_eq, beq_iff_eq]; rw [beq_iff_eq] at h8; exact h8.symm
   rw [h9, Bool.true_or]
/-- Where a gap ends: nothing was read on the way. -/
def GapTo (s : Bys) (i j : Nat) : Prop := i ≤ j ∧ j ≤ s.length ∧ (∀ k, LexAt s k i → LexAt s k j) ∧ ∀ c, s[j]? = some c → isBlk c = false ∧ (c == 35) = false
set_option maxRecDepth 100000 in
set_option maxHeartbeats 4000000 in
theorem gap_calls (s : Bys) {i0 : Nat} (hi0 : i0 ≤ s.length) (hsl : s.length ≤ 20000) (w : World) : Calls Tryz.prog 61 #[.string (ofL s), .int .i64 (i0 : Int)] w fun e w' => ∃ j : Nat, e = .returned (.int .i64 (j : Int)) ∧ GapTo s i0 j ∧ Fr (fun _ => False) w w' := by
 refine wp_start2 Tryz.func61 rfl rfl (n := 33) (by decide) fun a E => ?_
 have hf : Fr (fun _ => False) w w := Fr.refl _ _
 refine s_ (r_ (ep (v := .int .i64 0) E rfl (a_ rfl rfl) fun a E => n_ (t_ (s_ (bk_ (wp_loop (fun a w2 => ∃ (i : Nat), Env 33 [(0, .string (ofL s)), (1, .int .i64 (i : Int))] a ∧ i0 ≤ i ∧ i ≤ s.length ∧ (∀ k, LexAt s k i0 → LexAt s k i) ∧ Fr (fun _ => False) w w2) (fun a _ => s.length - (intOf (a.eval (.tmp 1))).toNat) ?_ ?_))))))
 ·exact ⟨i0, E.of ⟨E.g1, E.g2, trivial⟩, Nat.le_refl _, hi0, (fun k h => h), hf⟩
 clear E
 rintro a w2 ⟨i, E, hg1, hg2, hg3, hf⟩
 have hmu : s.length - (intOf (a.eval (.tmp 1))).toNat = s.length - i := by rw [E.g1]; first | rfl | (simp [intOf]; done) | (simp only [intOf]; omega)
 rw [hmu]
 clear hmu
 refine s_ (s_ (r_ (ep E rfl (m_ rfl E.g1) fun a E => ep E rfl (m_ rfl E.g1) fun a E => ep (v := .int .i64 (s.length : Int)) E rfl (run_slen rfl E.g0) fun a E => ep (v := .bool (decide ((i : Int) < (s.length : Int)))) E rfl (run_ilss E.g2 E.g0 Tryz.underlying3 rfl) fun a E => n_ (t_ ?_))))
 cases hq157 : (decide ((i : Int) < (s.length : Int))) with
 | false =>
  rw [hq157] at E
  have hie : i = s.length := by have := of_decide_eq_false hq157; omega
  refine c_f E.g0 (x_ (te_ (te_ (be_ (t_ (s_ (r_ (ep E rfl (m_ rfl E.g5) fun a E => ep E rfl (a_ rfl E.g0) fun a E => n_ (t_ (wr_ (ret_tmp (t := 4) rfl E E.g0 ⟨i, rfl, ⟨hg1, hg2, hg3, fun c9 h9 => by rw [List.getElem?_eq_none (by omega)] at h9; cases h9⟩, hf⟩)))))))))))
 | true =>
  rw [hq157] at E
  have hlt : i < s.length := by have := of_decide_eq_true hq157; omega
  obtain ⟨c, hc⟩ : ∃ c, s[i]? = some c := ⟨_, List.getElem?_eq_getElem hlt⟩
  refine c_t E.g0 (k_ (t_ (bk_ (s_ (r_ (ep E rfl (m_ rfl E.g4) fun a E => ep E rfl (m_ rfl E.g6) fun a E => ep (v := .int .u8 (c.toNat : Int)) E rfl (run_byte rfl E.g1 E.g0 hc) fun a E => ec_ (v := .bool (([32, 9, 10] : Bys).contains c)) E rfl (run_call2 (enters_of Tryz.func84 (by kernel_rfl) rfl) rfl rfl rfl E.g0) (has_calls [32, 9, 10] c (by decide) _) fun a w1 f1 E => ?_))))))
  have hf := hf.trans' f1 (fun _ _ h => h.elim)
  clear f1
  refine n_ (t_ ?_)
  cases hq158 : (([32, 9, 10] : Bys).contains c) with
  | false =>
   rw [hq158] at E
   have hblk : isBlk c = false := by rw [isBlk_i]; exact hq158
   refine c_f E.g0 (s_ (r_ (ep E rfl (m_ rfl E.g8) fun a E => ep E rfl (m_ rfl E.g10) fun a E => ep (v := .int .u8 (c.toNat : Int)) E rfl (run_byte rfl E.g1 E.g0 hc) fun a E => ep (v := .bool ((c.toNat : Int) == 35)) E rfl (run_ueql E.g0 rfl rfl) fun a E => n_ (t_ ?_))))
   cases hq159 : ((c.toNat : Int) == 35) with
   | false =>
    rw [hq159] at E
    have hhash : (c == 35) = false := by rw [u8_eq]; exact hq159
    refine c_f E.g0 (s_ (r_ (ep E rfl (m_ rfl E.g13) fun a E => ep E rfl (a_ rfl E.g0) fun a E => n_ (t_ (wr_ (br_ (tr_ (br_ (tr_ (ret_tmp (t := 4) rfl E E.g0 ⟨i, rfl, ⟨hg1, hg2, hg3, fun c9 h9 => by rw [hc] at h9; cases h9; exact ⟨hblk, hhash⟩⟩, hf⟩))))))))))
   | true =>
    rw [hq159] at E
    have hhash : (c == 35) = true := by rw [u8_eq]; exact hq159
    refine c_t E.g0 (bk_ (wp_loop (fun a w2 => ∃ (j : Nat), Env 33 [(0, .string (ofL s)), (1, .int .i64 (j : Int))] a ∧ RunTo (· != 10) s i j ∧ Fr (fun _ => False) w w2) (fun a _ => s.length - (intOf (a.eval (.tmp 1))).toNat) ?_ ?_))
    ·exact ⟨i, E.of ⟨E.g12, E.g13, trivial⟩, RunTo.start hg2, hf⟩
    clear E
    rintro a w2 ⟨j, E, hr, hf⟩
    have hmu : s.length - (intOf (a.eval (.tmp 1))).toNat = s.length - j := by rw [E.g1]; first | rfl | (simp [intOf]; done) | (simp only [intOf]; omega)
    rw [hmu]
    clear hmu
    have hjl := hr.hi
    refine s_ (s_ (r_ (ep E rfl (m_ rfl E.g1) fun a E => ep E rfl (m_ rfl E.g1) fun a E => ep (v := .int .i64 (s.length : Int)) E rfl (run_slen rfl E.g0) fun a E => ep (v := .bool (decide ((j : Int) < (s.length : Int)))) E rfl (run_ilss E.g2 E.g0 Tryz.underlying3 rfl) fun a E => ep E rfl (m_ rfl E.g0) fun a E => ?_)))
    cases hq161 : (decide ((j : Int) < (s.length : Int))) with
    | false =>
     rw [hq161] at E
     have hjn : s[j]? = none := List.getElem?_eq_none (by have := of_decide_eq_false hq161; omega)
     obtain ⟨hon, hij⟩ := hash_one hc hblk hhash hr (fun c hc9 => by rw [hjn] at hc9; cases hc9)
     refine ek E rfl rfl E.g0 fun a E => ek E rfl rfl E.g1 fun a E => ek E rfl rfl E.g2 fun a E => ek E rfl rfl E.g3 fun a E => ep (v := .bool false) E rfl (run_pick_f rfl E.g4 rfl) fun a E => n_ (t_ (c_f E.g0 (x_ (te_ (te_ (be_ (b_ (t_ ?_))))))))
     refine ⟨⟨j, E.of ⟨E.g10, E.g11.trans (by first | rfl | (congr 1 <;> omega)), trivial⟩, by omega, by omega, (fun k h => by have := (hg3 k h).gap hc hon (by omega); rwa [show i + 1 + (j - (i + 1)) = j by omega] at this), hf⟩, ?_⟩
     rw [E.g11]; simp only [intOf]; omega
    | true =>
     rw [hq161] at E
     have hltj : j < s.length := by have := of_decide_eq_true hq161; omega
     obtain ⟨e, he⟩ : ∃ e, s[j]? = some e := ⟨_, List.getElem?_eq_getElem hltj⟩
     refine eg E rfl (wy_ E E.g0) (m_ rfl E.g5) fun a E => eg E rfl (wy_ E E.g1) (m_ rfl E.g7) fun a E => eg (v := .int .u8 (e.toNat : Int)) E rfl (wy_ E E.g2) (run_byte rfl E.g1 E.g0 he) fun a E => eg (v := .bool ((e.toNat : Int) != 10)) E rfl (wy_ E E.g3) (run_uneq E.g0 rfl rfl) fun a E => ep (v := .bool ((e.toNat : Int) != 10)) E rfl (run_pick_t rfl E.g4 E.g0) fun a E => n_ (t_ ?_)
     cases hq162 : ((e.toNat : Int) != 10) with
     | false =>
      rw [hq162] at E
      have hen : (e != 10) = false := by rw [u10]; exact hq162
      obtain ⟨hon, hij⟩ := hash_one hc hblk hhash hr (fun c hc9 => by rw [he] at hc9; cases hc9; exact hen)
      refine c_f E.g0 (x_ (te_ (te_ (be_ (b_ (t_ ?_))))))
      refine ⟨⟨j, E.of ⟨E.g10, E.g11.trans (by first | rfl | (congr 1 <;> omega)), trivial⟩, by omega, by omega, (fun k h => by have := (hg3 k h).gap hc hon (by omega); rwa [show i + 1 + (j - (i + 1)) = j by omega] at this), hf⟩, ?_⟩
      rw [E.g11]; simp only [intOf]; omega
     | true =>
      rw [hq162] at E
      have hen : (e != 10) = true := by rw [u10]; exact hq162
      refine c_t E.g0 (k_ (t_ (bk_ (r_ (ep E rfl (m_ rfl E.g11) fun a E => ep (v := .int .i64 ((j : Int) + 1)) E rfl (run_iadd Tryz.underlying3 E.g0 rfl (by omega) (by omega) rfl) fun a E => es_ E rfl (a_ rfl E.g0) fun a E => n_ (b_ (t_ ?_)))))))
      refine ⟨⟨j + 1, E.of ⟨E.g13, E.g0.trans (by congr 1), trivial⟩, hr.step he hen, hf⟩, ?_⟩
      rw [E.g0]; simp only [intOf]; omega
  | true =>
   rw [hq158] at E
   have hblk : isBlk c = true := by rw [isBlk_i]; exact hq158
   refine c_t E.g0 (r_ (ep E rfl (m_ rfl E.g9) fun a E => ep (v := .int .i64 ((i : Int) + 1)) E rfl (run_iadd Tryz.underlying3 E.g0 rfl (by omega) (by omega) rfl) fun a E => es_ E rfl (a_ rfl E.g0) fun a E => n_ (b_ (t_ ?_))))
   refine ⟨⟨(i + 1), E.of ⟨E.g11, E.g0.trans (by first | rfl | (congr 1 <;> omega)), trivial⟩, by omega, by omega, (fun k h => by have := (hg3 k h).gap hc (one_blk hblk) (m := 0) (by omega); simpa using this), hf⟩, ?_⟩
   rw [E.g0]; simp only [intOf]; omega
end Go.Proofs.YtjaffpnegdcjnaaGreatDoor
/- The reference lexer: strings. -/
set_option linter.unusedVariables false
set_option linter.unusedSimpArgs false
namespace Go.Proofs.YtjaffpnegdcjnaaGreatDoor
open Go.RowKit Go.Pl
theorem strL_34 {c : UInt8} {l : Bys} (h : (c == 34) = true) : strL (c :: l) = some ([], 1) := by unfold strL; rw [if_pos h]
theorem strL_10 {c : UInt8} {l : Bys} (h : (c == 34) = false) (h2 : (c == 10) = true) : strL (c :: l) = none := by unfold strL; rw [if_neg (by rw [h]; simp), if_pos h2]
theorem strL_c {c : UInt8} {l : Bys} (h : (c == 34) = false) (h2 : (c == 10) = false) (h3 : (c == 92) = false) : strL (c :: l) = (strL l).map fun r => (c :: r.1, r.2 + 1) := by
 conv => lhs; unfold strL
 rw [if_neg (by rw [h]; simp), if_neg (by rw [h2]; simp), if_neg (by rw [h3]; simp)]
theorem q92e {c : UInt8} (h : (c == 92) = true) : (c == 34) = false ∧ (c == 10) = false := by
 obtain rfl := beq_iff_eq.1 h; decide
theorem strL_e0 {c : UInt8} (h : (c == 92) = true) : strL [c] = none := by
 unfold strL; rw [if_neg (by rw [(q92e h).1]; simp), if_neg (by rw [(q92e h).2]; simp), if_pos h]
theorem strL_e1 {c d : UInt8} {l : Bys} (h : (c == 92) = true) (hd : ([92, 34, 110] : Bys).contains d = true) : strL (c :: d :: l) = (strL l).map fun r => ((if d == 110 then 10 else d) :: r.1, r.2 + 2) := by
 conv => lhs; unfold strL
 rw [if_neg (by rw [(q92e h).1]; simp), if_neg (by rw [(q92e h).2]; simp), if_pos h]
 simp only
 rw [if_pos (by simpa [or_assoc] using hd)]
theorem strL_e2 {c d : UInt8} {l : Bys} (h : (c == 92) = true) (hd : ([92, 34, 110] : Bys).contains d = false) : strL (c :: d :: l) = none := by
 conv => lhs; unfold strL
 rw [if_neg (by rw [(q92e h).1]; simp), if_neg (by rw [(q92e h).2]; simp), if_pos h]
 simp only
 rw [if_neg (by
  have h9 : ¬ ([92, 34, 110] : Bys).contains d = true := by rw [hd]; simp
  intro h8; exact h9 (by simpa [or_assoc] using h8))]
/-- What str answers. -/
def strR (s : Bys) (i : Nat) : Bys × Int × Bool := match strL (s.drop (i + 1)) with | some (st, m) => (st, ((i + 1 + m : Nat) : Int), true) | none => ([], 0, false)
theorem dropAt9 {s : Bys} {i : Nat} {c : UInt8} (h : s[i]? = some c) : s.drop i = c :: s.drop (i + 1) := by
 obtain ⟨hi, rfl⟩ := List.getElem?_eq_some_iff.1 h
 exact List.drop_eq_getElem_cons hi
theorem sub_one {s : Bys} {i : Nat} {c : UInt8} (h : s[i]? = some c) : (s.take (i + 1)).drop i = [c] := by
 rw [take_cons_sub h (Nat.le_refl _)]; simp
theorem ret_tmp3 {fn : Func} {R : Ending → World → Prop} {n : Nat} {L : List (Nat × Value)} {a : Act} {w : World} {t t2 t3 : Tmp} {u v x : Value} (hr : fn.results = #[.tmp t, .tmp t2, .tmp t3]) (E : Env n L a) (hu : a.eval (.tmp t) = u) (hv : a.eval (.tmp t2) = v) (hx : a.eval (.tmp t3) = x) (h : R (.returned (.tuple #[u, v, x])) w) : bodyPost Tryz.prog fn R .ret a w := by
 refine ⟨E.df, .tuple #[u, v, x], ?_, h⟩
 have g1 : a.tmps.getD t undef = u := hu
 have g2 : a.tmps.getD t2 undef = v := hv
 have g3 : a.tmps.getD t3 undef = x := hx
 unfold results
 rw [hr]
 rw [Array.getD_eq_getD_getElem?] at g1 g2 g3
 simp [g1, g2, g3]
set_option maxRecDepth 100000 in
set_option maxHeartbeats 4000000 in
theorem rstr_calls (s : Bys) {i0 : Nat} (hi0 : i0 + 1 ≤ s.length) (hsl : s.length ≤ 20000) (w : World) : Calls Tryz.prog 88 #[.string (ofL s), .int .i64 (i0 : Int)] w fun e w' => e = .returned (.tuple #[.string (ofL (strR s i0).1), .int .i64 (strR s i0).2.1, .bool (strR s i0).2.2]) ∧ Fr (fun _ => False) w w' := by
 refine wp_start2 Tryz.func88 rfl rfl (n := 63) (by decide) fun a E => ?_
 have hf : Fr (fun _ => False) w w := Fr.refl _ _
 refine s_ (r_ (ep (v := .string (ofL [])) E rfl (a_ rfl rfl) fun a E => ep (v := .int .i64 0) E rfl (a_ rfl rfl) fun a E => ep (v := .bool false) E rfl (a_ rfl rfl) fun a E => n_ (t_ (s_ (r_ (ep (v := .string (ofL [])) E rfl (a_ rfl rfl) fun a E => n_ (t_ (s_ (s_ (r_ (ep E rfl (m_ rfl E.g5) fun a E => ep (v := .int .i64 ((i0 : Int) + 1)) E rfl (run_iadd Tryz.underlying3 E.g0 rfl (by omega) (by omega) rfl) fun a E => ep E rfl (a_ rfl E.g0) fun a E => n_ (t_ (bk_ (wp_loop (fun a w2 => ∃ (i : Nat) (o : Bys), Env 63 [(0, .string (ofL s)), (1, .int .i64 (i0 : Int)), (8, .int .i64 (i : Int)), (7, .string (ofL o))] a ∧ i0 + 1 ≤ i ∧ i ≤ s.length ∧ o.length ≤ i ∧ (strL (s.drop (i0 + 1)) = (strL (s.drop i)).map fun r => (o ++ r.1, r.2 + (i - (i0 + 1)))) ∧ Fr (fun _ => False) w w2) (fun a _ => s.length - (intOf (a.eval (.tmp 8))).toNat) ?_ ?_))))))))))))))
 ·exact ⟨i0 + 1, [], E.of ⟨E.g7, E.g8, E.g0, E.g3, trivial⟩, Nat.le_refl _, hi0, Nat.zero_le _, by rw [Nat.sub_self]; cases strL (s.drop (i0 + 1)) <;> rfl, hf⟩
 clear E
 rintro a w2 ⟨i, o, E, hi1, hi2, hol, hinv, hf⟩
 have hmu : s.length - (intOf (a.eval (.tmp 8))).toNat = s.length - i := by rw [E.g2]; first | rfl | (simp [intOf]; done) | (simp only [intOf]; omega)
 rw [hmu]
 clear hmu
 refine s_ (s_ (r_ (ep E rfl (m_ rfl E.g2) fun a E => ep E rfl (m_ rfl E.g1) fun a E => ep (v := .int .i64 (s.length : Int)) E rfl (run_slen rfl E.g0) fun a E => ep (v := .bool (decide ((i : Int) < (s.length : Int)))) E rfl (run_ilss E.g2 E.g0 Tryz.underlying3 rfl) fun a E => n_ (t_ ?_))))
 cases hq157 : (decide ((i : Int) < (s.length : Int))) with
 | false =>
  rw [hq157] at E
  have hie : i = s.length := by have := of_decide_eq_false hq157; omega
  rw [hie, List.drop_length] at hinv
  have hR : strR s i0 = ([], 0, false) := by unfold strR; rw [hinv]; rfl
  refine c_f E.g0 (x_ (te_ (te_ (be_ (t_ (s_ (r_ (ep (v := .string (ofL [])) E rfl (a_ rfl rfl) fun a E => ep (v := .int .i64 0) E rfl (a_ rfl rfl) fun a E => ep (v := .bool false) E rfl (a_ rfl rfl) fun a E => n_ (t_ (wr_ (ret_tmp3 rfl E E.g2 E.g1 E.g0 ⟨?_, hf⟩)))))))))))
  rw [hR]
 | true =>
  rw [hq157] at E
  have hlt : i < s.length := by have := of_decide_eq_true hq157; omega
  obtain ⟨c, hc⟩ : ∃ c, s[i]? = some c := ⟨_, List.getElem?_eq_getElem hlt⟩
  have hdr := dropAt9 hc
  rw [hdr] at hinv
  refine c_t E.g0 (k_ (t_ (s_ (bk_ (s_ (r_ (ep E rfl (m_ rfl E.g4) fun a E => ep E rfl (m_ rfl E.g7) fun a E => ep (v := .int .u8 (c.toNat : Int)) E rfl (run_byte rfl E.g1 E.g0 hc) fun a E => ep E rfl (a_ rfl E.g0) fun a E => n_ (t_ (s_ (s_ (r_ (ep E rfl (m_ rfl E.g0) fun a E => ep (v := .bool ((c.toNat : Int) == 34)) E rfl (run_ueql E.g0 rfl rfl) fun a E => n_ (t_ ?_)))))))))))))
  cases hq158 : ((c.toNat : Int) == 34) with
  | false =>
   rw [hq158] at E
   have h34 : (c == 34) = false := by rw [u8_eq]; exact hq158
   refine c_f E.g0 (k_ (t_ (s_ (s_ (r_ (ep E rfl (m_ rfl E.g2) fun a E => ep (v := .bool ((c.toNat : Int) == 10)) E rfl (run_ueql E.g0 rfl rfl) fun a E => n_ (t_ ?_)))))))
   cases hq159 : ((c.toNat : Int) == 10) with
   | false =>
    rw [hq159] at E
    have h10 : (c == 10) = false := by rw [u8_eq]; exact hq159
    refine c_f E.g0 (k_ (t_ (s_ (s_ (r_ (ep E rfl (m_ rfl E.g4) fun a E => ep (v := .bool ((c.toNat : Int) != 92)) E rfl (run_uneq E.g0 rfl rfl) fun a E => n_ (t_ ?_)))))))
    cases hq160 : ((c.toNat : Int) != 92) with
    | false =>
     rw [hq160] at E
     have h92 : (c == 92) = true := by have h9 := hq160; rw [u8_eq]; simpa [bne] using h9
     refine c_f E.g0 (k_ (t_ (s_ (r_ (ep E rfl (m_ rfl E.g16) fun a E => ep (v := .int .i64 ((i : Int) + 1)) E rfl (run_iadd Tryz.underlying3 E.g0 rfl (by omega) (by omega) rfl) fun a E => es_ E rfl (a_ rfl E.g0) fun a E => n_ (t_ (s_ (s_ (r_ (ep E rfl (m_ rfl E.g0) fun a E => ep E rfl (m_ rfl E.g18) fun a E => ep (v := .int .i64 (s.length : Int)) E rfl (run_slen rfl E.g0) fun a E => ep (v := .bool (decide ((s.length : Int) ≤ ((i : Int) + 1)))) E rfl (run_igeq E.g2 E.g0 Tryz.underlying3 rfl) fun a E => ep E rfl (m_ rfl E.g0) fun a E => ?_))))))))))
     cases hq161 : (decide ((s.length : Int) ≤ ((i : Int) + 1))) with
     | false =>
      rw [hq161] at E
      have hlt2 : i + 1 < s.length := by have := of_decide_eq_false hq161; omega
      obtain ⟨d, hd⟩ : ∃ d, s[i + 1]? = some d := ⟨_, List.getElem?_eq_getElem hlt2⟩
      rw [dropAt9 hd] at hinv
      refine eg E rfl (wy_ E E.g0) (m_ rfl E.g22) fun a E => eg E rfl (wy_ E E.g1) (m_ rfl E.g6) fun a E => eg (v := .int .u8 (d.toNat : Int)) E rfl (wy_ E E.g2) (run_byte (i := i + 1) rfl E.g1 E.g0 hd) fun a E => env_call (d := 47) (v := .bool (([92, 34, 110] : Bys).contains d)) E rfl (by decide) rfl (wy_ E E.g3) (run_call2 (enters_of Tryz.func84 (by kernel_rfl) rfl) rfl rfl rfl E.g0) (has_calls [92, 34, 110] d (by decide) _) fun a w1 f1 E => ?_
      have hf := hf.trans' f1 (fun _ _ h => h.elim)
      clear f1
      refine eg (v := .bool (!(([92, 34, 110] : Bys).contains d))) E rfl (wy_ E E.g4) (run_not rfl E.g0) fun a E => ep (v := .bool (!(([92, 34, 110] : Bys).contains d))) E rfl (run_pick_f rfl E.g5 E.g0) fun a E => n_ (t_ ?_)
      cases hq162 : (([92, 34, 110] : Bys).contains d) with
      | false =>
       rw [hq162] at E
       rw [strL_e2 h92 hq162] at hinv
       have hR : strR s i0 = ([], 0, false) := by unfold strR; rw [hinv]; rfl
       refine c_t E.g0 (s_ (r_ (ep (v := .string (ofL [])) E rfl (a_ rfl rfl) fun a E => ep (v := .int .i64 0) E rfl (a_ rfl rfl) fun a E => ep (v := .bool false) E rfl (a_ rfl rfl) fun a E => n_ (t_ (wr_ (tr_ (br_ (tr_ (tr_ (br_ (tr_ (ret_tmp3 rfl E E.g2 E.g1 E.g0 ⟨?_, hf⟩))))))))))))
       rw [hR]
      | true =>
       rw [hq162] at E
       rw [strL_e1 h92 hq162] at hinv
       refine c_f E.g0 (k_ (t_ (s_ (r_ (ep E rfl (m_ rfl E.g28) fun a E => ep E rfl (m_ rfl E.g12) fun a E => ep (v := .int .u8 (d.toNat : Int)) E rfl (run_byte (i := i + 1) rfl E.g1 E.g0 hd) fun a E => ep (v := .bool ((d.toNat : Int) == 110)) E rfl (run_ueql E.g0 rfl rfl) fun a E => n_ (t_ ?_))))))
       cases hq163 : ((d.toNat : Int) == 110) with
       | false =>
        rw [hq163] at E
        have h110 : (d == 110) = false := by rw [u8_eq]; exact hq163
        rw [h110] at hinv
        simp only [if_true, if_false, Bool.false_eq_true] at hinv
        refine c_f E.g0 (r_ (ep E rfl (m_ rfl E.g34) fun a E => ep E rfl (m_ rfl E.g33) fun a E => ep E rfl (m_ rfl E.g17) fun a E => ep E rfl (m_ rfl E.g18) fun a E => ep (v := .int .i64 (((i : Int) + 1) + 1)) E rfl (run_iadd Tryz.underlying3 E.g0 rfl (by omega) (by omega) rfl) fun a E => ep (v := .string (ofL [d])) E rfl ((run_sub (a := i + 1) (b := i + 1 + 1) rfl E.g3 E.g2 E.g0 (by omega) (by omega)).trans (by rw [sub_one hd])) fun a E => ep (v := .string (ofL (o ++ [d]))) E rfl (run_sadd E.g5 E.g0 rfl (by simp only [List.length_append, List.length_cons, List.length_nil] at *; omega)) fun a E => es_ E rfl (a_ rfl E.g0) fun a E => n_ (b_ (t_ (r_ (ep E rfl (m_ rfl E.g23) fun a E => ep (v := .int .i64 (((i : Int) + 1) + 1)) E rfl (run_iadd Tryz.underlying3 E.g0 rfl (by omega) (by omega) rfl) fun a E => es_ E rfl (a_ rfl E.g0) fun a E => n_ (t_ ?_)))))))
        refine ⟨⟨i + 1 + 1, o ++ [d], E.of ⟨E.g42, E.g43, E.g0.trans (by first | rfl | (congr 1 <;> omega)), E.g3, trivial⟩, by omega, by omega, by simp only [List.length_append, List.length_cons, List.length_nil]; omega, (by rw [hinv]; cases strL (s.drop (i + 1 + 1)) with | none => rfl | some r => simp only [Option.map_some, List.append_assoc, List.cons_append, List.nil_append]; congr 2; omega), hf⟩, ?_⟩
        rw [E.g0]; simp only [intOf]; omega
       | true =>
        rw [hq163] at E
        have h110 : (d == 110) = true := by rw [u8_eq]; exact hq163
        rw [h110] at hinv
        simp only [if_true, if_false, Bool.false_eq_true] at hinv
        refine c_t E.g0 (r_ (ep E rfl (m_ rfl E.g34) fun a E => ep (v := .string (ofL (o ++ [10]))) E rfl (run_sadd E.g0 rfl rfl (by simp only [List.length_append, List.length_cons, List.length_nil] at *; omega)) fun a E => es_ E rfl (a_ rfl E.g0) fun a E => n_ (b_ (t_ (r_ (ep E rfl (m_ rfl E.g18) fun a E => ep (v := .int .i64 (((i : Int) + 1) + 1)) E rfl (run_iadd Tryz.underlying3 E.g0 rfl (by omega) (by omega) rfl) fun a E => es_ E rfl (a_ rfl E.g0) fun a E => n_ (t_ ?_)))))))
        refine ⟨⟨i + 1 + 1, o ++ [10], E.of ⟨E.g37, E.g38, E.g0.trans (by first | rfl | (congr 1 <;> omega)), E.g3, trivial⟩, by omega, by omega, by simp only [List.length_append, List.length_cons, List.length_nil]; omega, (by rw [hinv]; cases strL (s.drop (i + 1 + 1)) with | none => rfl | some r => simp only [Option.map_some, List.append_assoc, List.cons_append, List.nil_append]; congr 2; omega), hf⟩, ?_⟩
        rw [E.g0]; simp only [intOf]; omega
     | true =>
      rw [hq161] at E
      have hle : s.length ≤ i + 1 := by have := of_decide_eq_true hq161; omega
      rw [List.drop_eq_nil_of_le hle, strL_e0 h92] at hinv
      have hR : strR s i0 = ([], 0, false) := by unfold strR; rw [hinv]; rfl
      refine ek E rfl rfl E.g0 fun a E => ek E rfl rfl E.g1 fun a E => ek E rfl rfl E.g2 fun a E => ek E rfl rfl E.g3 fun a E => ek E rfl rfl E.g4 fun a E => ep (v := .bool true) E rfl (run_pick_t rfl E.g5 rfl) fun a E => n_ (t_ (c_t E.g0 (s_ (r_ (ep (v := .string (ofL [])) E rfl (a_ rfl rfl) fun a E => ep (v := .int .i64 0) E rfl (a_ rfl rfl) fun a E => ep (v := .bool false) E rfl (a_ rfl rfl) fun a E => n_ (t_ (wr_ (tr_ (br_ (tr_ (tr_ (br_ (tr_ (ret_tmp3 rfl E E.g2 E.g1 E.g0 ⟨?_, hf⟩))))))))))))))
      rw [hR]
    | true =>
     rw [hq160] at E
     have h92 : (c == 92) = false := by have h9 := hq160; rw [u8_eq]; simpa [bne] using h9
     refine c_t E.g0 (s_ (r_ (ep E rfl (m_ rfl E.g17) fun a E => ep E rfl (m_ rfl E.g15) fun a E => ep E rfl (m_ rfl E.g18) fun a E => ep E rfl (m_ rfl E.g19) fun a E => ep (v := .int .i64 ((i : Int) + 1)) E rfl (run_iadd Tryz.underlying3 E.g0 rfl (by omega) (by omega) rfl) fun a E => ep (v := .string (ofL [c])) E rfl ((run_sub (a := i) (b := i + 1) rfl E.g3 E.g2 E.g0 (by omega) (by omega)).trans (by rw [sub_one hc])) fun a E => ep (v := .string (ofL (o ++ [c]))) E rfl (run_sadd E.g5 E.g0 rfl (by simp only [List.length_append, List.length_cons, List.length_nil] at *; omega)) fun a E => es_ E rfl (a_ rfl E.g0) fun a E => n_ (t_ (x_ (te_ (be_ (t_ (r_ (ep E rfl (m_ rfl E.g24) fun a E => ep (v := .int .i64 ((i : Int) + 1)) E rfl (run_iadd Tryz.underlying3 E.g0 rfl (by omega) (by omega) rfl) fun a E => es_ E rfl (a_ rfl E.g0) fun a E => n_ (t_ ?_)))))))))))
     refine ⟨⟨i + 1, o ++ [c], E.of ⟨E.g25, E.g26, E.g0.trans (by first | rfl | (congr 1 <;> omega)), E.g3, trivial⟩, by omega, by omega, by simp only [List.length_append, List.length_cons, List.length_nil]; omega, (by rw [hinv, strL_c h34 h10 h92]; cases strL (s.drop (i + 1)) with | none => rfl | some r => simp only [Option.map_some, List.append_assoc, List.cons_append, List.nil_append]; congr 2; omega), hf⟩, ?_⟩
     rw [E.g0]; simp only [intOf]; omega
   | true =>
    rw [hq159] at E
    have h10 : (c == 10) = true := by rw [u8_eq]; exact hq159
    rw [strL_10 h34 h10] at hinv
    have hR : strR s i0 = ([], 0, false) := by unfold strR; rw [hinv]; rfl
    refine c_t E.g0 (s_ (r_ (ep (v := .string (ofL [])) E rfl (a_ rfl rfl) fun a E => ep (v := .int .i64 0) E rfl (a_ rfl rfl) fun a E => ep (v := .bool false) E rfl (a_ rfl rfl) fun a E => n_ (t_ (wr_ (tr_ (br_ (tr_ (tr_ (br_ (tr_ (ret_tmp3 rfl E E.g2 E.g1 E.g0 ⟨?_, hf⟩))))))))))))
    rw [hR]
  | true =>
   rw [hq158] at E
   have h34 : (c == 34) = true := by rw [u8_eq]; exact hq158
   rw [strL_34 h34] at hinv
   have hR : strR s i0 = (o, (i : Int) + 1, true) := by
    unfold strR; rw [hinv]
    simp only [Option.map_some, List.append_nil]
    rw [show i0 + 1 + (1 + (i - (i0 + 1))) = i + 1 by omega]; rfl
   refine c_t E.g0 (s_ (r_ (ep E rfl (m_ rfl E.g13) fun a E => ep E rfl (m_ rfl E.g13) fun a E => ep (v := .int .i64 ((i : Int) + 1)) E rfl (run_iadd Tryz.underlying3 E.g0 rfl (by omega) (by omega) rfl) fun a E => ep E rfl (a_ rfl E.g2) fun a E => ep E rfl (a_ rfl E.g1) fun a E => ep (v := .bool true) E rfl (a_ rfl rfl) fun a E => n_ (t_ (wr_ (tr_ (br_ (tr_ (tr_ (br_ (tr_ (ret_tmp3 rfl E E.g2 E.g1 E.g0 ⟨?_, hf⟩))))))))))))
   rw [hR]
end Go.Proofs.YtjaffpnegdcjnaaGreatDoor
/- The reference lexer: a token. -/
set_option linter.unusedVariables false
set_option linter.unusedSimpArgs false
namespace Go.Proofs.YtjaffpnegdcjnaaGreatDoor
open Go.RowKit Go.Pl
theorem res38_3 {fn : Func} {R : Ending → World → Prop} {n : Nat} {L : List (Nat × Value)} {a : Act} {w : World} {t t2 t3 : Tmp} {g : Nat} {s : Tok Int} {v x : Value} (hr : fn.results = #[.cell t 38, .tmp t2, .tmp t3]) (E : Env n L a) (hp : a.eval (.tmp t) = .pointer (some ⟨g, 0, none⟩)) (hv : a.eval (.tmp t2) = v) (hx : a.eval (.tmp t3) = x) (h : w.heap[g]? = some (.cells (tkA s) 38 (0, 0))) (hR : R (.returned (.tuple #[.agg (tkA s), v, x])) w) : bodyPost Tryz.prog fn R .ret a w := by
 refine ⟨E.df, .tuple #[.agg (tkA s), v, x], ?_, hR⟩
 have g1 : a.tmps[t]?.getD undef = .pointer (some ⟨g, 0, none⟩) := by have h9 : a.tmps.getD t undef = _ := hp; rwa [Array.getD_eq_getD_getElem?] at h9
 have g2 : a.tmps[t2]?.getD undef = v := by have h9 : a.tmps.getD t2 undef = _ := hv; rwa [Array.getD_eq_getD_getElem?] at h9
 have g3 : a.tmps[t3]?.getD undef = x := by have h9 : a.tmps.getD t3 undef = _ := hx; rwa [Array.getD_eq_getD_getElem?] at h9
 simp [results, hr, g1, g2, g3, asAddr, run_loadVar_row w g 38 38 (tkA s) (0, 0) _ h Tryz.underlying38 rfl info38r]
/-- What next answers at a byte. -/
def nxtR (s : Bys) (i : Nat) (c : UInt8) : Tok Int × Int × Int :=
 if (one c (s.drop (i + 1))).2.2.2 = 0 then (((one c (s.drop (i + 1))).1, (one c (s.drop (i + 1))).2.1, (i : Int)), ((i + 1 + (one c (s.drop (i + 1))).2.2.1 : Nat) : Int), 0) else ((0, [], 0), 0, (one c (s.drop (i + 1))).2.2.2)
theorem nxtR_ok {s : Bys} {i : Nat} {c : UInt8} {k : Int} {t : Bys} {m : Nat} (h : one c (s.drop (i + 1)) = (k, t, m, 0)) : nxtR s i c = ((k, t, (i : Int)), ((i + 1 + m : Nat) : Int), 0) := by unfold nxtR; rw [h]; rfl
theorem nxtR_er {s : Bys} {i : Nat} {c : UInt8} {k : Int} {t : Bys} {m : Nat} {e : Int} (h : one c (s.drop (i + 1)) = (k, t, m, e)) (he : e ≠ 0) : nxtR s i c = ((0, [], 0), 0, e) := by unfold nxtR; rw [h]; simp only; rw [if_neg he]
set_option maxRecDepth 100000 in
set_option maxHeartbeats 4000000 in
theorem next62_calls (s : Bys) {i0 : Nat} {c : UInt8} (hc : s[i0]? = some c) (hblk : isBlk c = false) (hhash : (c == 35) = false) (hsl : s.length ≤ 20000) (w : World) : Calls Tryz.prog 62 #[.string (ofL s), .int .i64 (i0 : Int)] w fun e w' => e = .returned (.tuple #[.agg (tkA (nxtR s i0 c).1), .int .i64 (nxtR s i0 c).2.1, .int .i64 (nxtR s i0 c).2.2]) ∧ Fr (fun _ => False) w w' := by
 refine wp_start2 Tryz.func62 rfl rfl (n := 108) (by decide) fun a E => ?_
 have hf : Fr (fun _ => False) w w := Fr.refl _ _
 have hi0 : i0 < s.length := (List.getElem?_eq_some_iff.1 hc).1
 refine s_ (r_ (env_new (d := 4) E rfl (by decide) rfl (wanted_none rfl _) (run_alloc38 rfl) fun a w1 b156 eb156 hb156 f1 E => ?_))
 have hnb156 : w.heap.size ≤ b156 := by have := hf.size; omega
 have hf := hf.trans' f1 (fun _ _ h => h.elim)
 clear f1
 refine ep (v := .int .i64 0) E rfl (a_ rfl rfl) fun a E => ep (v := .int .i64 0) E rfl (a_ rfl rfl) fun a E => n_ (t_ (s_ (r_ (ep E rfl (m_ rfl E.g4) fun a E => ep (v := .int .i64 ((i0 : Int) + 1)) E rfl (run_iadd Tryz.underlying3 E.g0 rfl (by omega) (by omega) rfl) fun a E => ep E rfl (a_ rfl E.g0) fun a E => n_ (t_ (s_ (r_ (ep E rfl (m_ rfl E.g6) fun a E => ep E rfl (m_ rfl E.g8) fun a E => ep (v := .int .u8 (c.toNat : Int)) E rfl (run_byte rfl E.g1 E.g0 hc) fun a E => ep E rfl (a_ rfl E.g0) fun a E => n_ (t_ (s_ (s_ (r_ (ep E rfl (m_ rfl E.g0) fun a E => ec_ (v := .bool (isLet c)) E rfl (run_call1 (enters_of Tryz.func85 (by kernel_rfl) rfl) rfl rfl E.g0) (letter_calls c _) fun a w1 f1 E => ?_)))))))))))))
 have hb156 := f1.obj hb156 id
 have hf := hf.trans' f1 (fun _ _ h => h.elim)
 clear f1
 refine n_ (t_ ?_)
 cases hq157 : (isLet c) with
 | false =>
  rw [hq157] at E
  have hlet : isLet c = false := hq157
  refine c_f E.g0 (k_ (t_ (s_ (s_ (r_ (ep E rfl (m_ rfl E.g2) fun a E => ec_ (v := .bool (isDig c)) E rfl (run_call1 (enters_of Tryz.func87 (by kernel_rfl) rfl) rfl rfl E.g0) (digit_calls c _) fun a w1 f1 E => ?_))))))
  have hb156 := f1.obj hb156 id
  have hf := hf.trans' f1 (fun _ _ h => h.elim)
  clear f1
  refine n_ (t_ ?_)
  cases hq158 : (isDig c) with
  | false =>
   rw [hq158] at E
   have hdig : isDig c = false := hq158
   refine c_f E.g0 (k_ (t_ (s_ (s_ (r_ (ep E rfl (m_ rfl E.g4) fun a E => ep (v := .bool ((c.toNat : Int) == 34)) E rfl (run_ueql E.g0 rfl rfl) fun a E => n_ (t_ ?_)))))))
   cases hq159 : ((c.toNat : Int) == 34) with
   | false =>
    rw [hq159] at E
    have hquo : (c == 34) = false := by rw [u8_eq]; exact hq159
    refine c_f E.g0 (k_ (t_ (s_ (s_ (r_ (ep E rfl (m_ rfl E.g6) fun a E => ec_ (v := .bool (([59, 44, 46, 58, 40, 41, 123, 125, 91, 93, 61, 60, 62, 47, 45] : Bys).contains c)) E rfl (run_call2 (enters_of Tryz.func84 (by kernel_rfl) rfl) rfl rfl rfl E.g0) (has_calls [59, 44, 46, 58, 40, 41, 123, 125, 91, 93, 61, 60, 62, 47, 45] c (by decide) _) fun a w1 f1 E => ?_))))))
    have hb156 := f1.obj hb156 id
    have hf := hf.trans' f1 (fun _ _ h => h.elim)
    clear f1
    refine ep (v := .bool (!(([59, 44, 46, 58, 40, 41, 123, 125, 91, 93, 61, 60, 62, 47, 45] : Bys).contains c))) E rfl (run_not rfl E.g0) fun a E => n_ (t_ ?_)
    cases hq160 : (([59, 44, 46, 58, 40, 41, 123, 125, 91, 93, 61, 60, 62, 47, 45] : Bys).contains c) with
    | false =>
     rw [hq160] at E
     have hsym : isSym c = false := hq160
     have hon := one_oth (l := s.drop (i0 + 1)) hblk hhash hlet hdig hquo hsym
     have hN := nxtR_er hon (by decide)
     refine c_t E.g0 (s_ (r_ (ep (v := .agg (tkA (0, [], 0))) E rfl (run_zero38 rfl) fun a E => env_st38 (s := (0, [], 0)) E rfl (wanted_none rfl _) rfl E.g19 E.g0 hb156 fun w1 hb156n f1 E => ?_)))
     have hf := hf.trans' f1 (fun _ hr => nq_)
     clear f1
     replace hb156 := hb156n
     refine es_ (v := .int .i64 0) E rfl (a_ rfl rfl) fun a E => es_ (v := .int .i64 3) E rfl (a_ rfl rfl) fun a E => n_ (t_ (wr_ (tr_ (res38_3 rfl E E.g19 E.g1 E.g0 hb156 ⟨?_, hf⟩))))
     rw [hN]
    | true =>
     rw [hq160] at E
     have hsym : isSym c = true := hq160
     have hon : one c (s.drop (i0 + 1)) = (4, (s.take (i0 + 1)).drop i0, 0, 0) := by rw [one_sym hsym, take_cons_sub hc (Nat.le_refl _)]; simp
     have hN := nxtR_ok hon
     refine c_f E.g0 (k_ (t_ (s_ (r_ (ep E rfl (m_ rfl E.g19) fun a E => ep E rfl (m_ rfl E.g21) fun a E => ep E rfl (m_ rfl E.g15) fun a E => ep (v := .string (ofL ((s.take (i0 + 1)).drop i0))) E rfl (run_sub (a := i0) (b := i0 + 1) rfl E.g2 E.g1 E.g0 (by omega) (by omega)) fun a E => ep E rfl (m_ rfl E.g24) fun a E => ep (v := .agg (tkA (4, ((s.take (i0 + 1)).drop i0), (i0 : Int)))) E rfl (run_of38 rfl rfl E.g1 E.g0) fun a E => ep E rfl (m_ rfl E.g19) fun a E => env_st38 (s := (0, [], 0)) E rfl (wanted_none rfl _) rfl E.g25 E.g1 hb156 fun w1 hb156n f1 E => ?_)))))
     have hf := hf.trans' f1 (fun _ hr => nq_)
     clear f1
     replace hb156 := hb156n
     refine es_ E rfl (a_ rfl E.g0) fun a E => es_ (v := .int .i64 0) E rfl (a_ rfl rfl) fun a E => n_ (t_ (wr_ (res38_3 rfl E E.g25 E.g1 E.g0 hb156 ⟨?_, hf⟩)))
     rw [hN]
     try rfl
   | true =>
    rw [hq159] at E
    have hquo : (c == 34) = true := by rw [u8_eq]; exact hq159
    refine c_t E.g0 (s_ (r_ (ep E rfl (m_ rfl E.g16) fun a E => ep E rfl (m_ rfl E.g18) fun a E => ec_ (v := .tuple #[.string (ofL (strR s i0).1), .int .i64 (strR s i0).2.1, .bool (strR s i0).2.2]) E rfl (run_call2 (enters_of Tryz.func88 (by kernel_rfl) rfl) rfl rfl E.g1 E.g0) (rstr_calls s (by omega) (by omega) _) fun a w1 f1 E => ?_)))
    have hb156 := f1.obj hb156 id
    have hf := hf.trans' f1 (fun _ _ h => h.elim)
    clear f1
    refine ep E rfl (m_ rfl E.g0) fun a E => ep (v := .string (ofL (strR s i0).1)) E rfl (run_ex0of3 rfl E.g0) fun a E => ep (v := .int .i64 (strR s i0).2.1) E rfl (run_ex1of3 rfl E.g1) fun a E => ep (v := .bool (strR s i0).2.2) E rfl (run_ex2of3 rfl E.g2) fun a E => ep E rfl (a_ rfl E.g2) fun a E => ep E rfl (a_ rfl E.g2) fun a E => ep E rfl (a_ rfl E.g2) fun a E => n_ (t_ (s_ (s_ (r_ (ep E rfl (m_ rfl E.g0) fun a E => ep (v := .bool (!(strR s i0).2.2)) E rfl (run_not rfl E.g0) fun a E => n_ (t_ ?_))))))
    cases hq161 : (strR s i0).2.2 with
    | false =>
     rw [hq161] at E
     have hst : strL (s.drop (i0 + 1)) = none := by
      have h9 := hq161
      unfold strR at h9
      cases hq : strL (s.drop (i0 + 1)) with
      | none => rfl
      | some r => rw [hq] at h9; cases h9
     have hon : one c (s.drop (i0 + 1)) = (0, [], 0, 3) := by rw [one_strq hquo, hst]
     have hN := nxtR_er hon (by decide)
     refine c_t E.g0 (s_ (r_ (ep (v := .agg (tkA (0, [], 0))) E rfl (run_zero38 rfl) fun a E => env_st38 (s := (0, [], 0)) E rfl (wanted_none rfl _) rfl E.g28 E.g0 hb156 fun w1 hb156n f1 E => ?_)))
     have hf := hf.trans' f1 (fun _ hr => nq_)
     clear f1
     replace hb156 := hb156n
     refine es_ (v := .int .i64 0) E rfl (a_ rfl rfl) fun a E => es_ (v := .int .i64 3) E rfl (a_ rfl rfl) fun a E => n_ (t_ (wr_ (tr_ (tr_ (res38_3 rfl E E.g28 E.g1 E.g0 hb156 ⟨?_, hf⟩)))))
     rw [hN]
    | true =>
     rw [hq161] at E
     obtain ⟨st, m, hst⟩ : ∃ st m, strL (s.drop (i0 + 1)) = some (st, m) := by
      have h9 := hq161
      unfold strR at h9
      cases hq : strL (s.drop (i0 + 1)) with
      | none => rw [hq] at h9; cases h9
      | some r => exact ⟨r.1, r.2, rfl⟩
     have hR1 : (strR s i0).1 = st := by unfold strR; rw [hst]
     have hR2 : (strR s i0).2.1 = ((i0 + 1 + m : Nat) : Int) := by unfold strR; rw [hst]
     rw [hR1, hR2] at E
     have hon : one c (s.drop (i0 + 1)) = (3, st, m, 0) := by rw [one_strq hquo, hst]
     have hN := nxtR_ok hon
     refine c_f E.g0 (k_ (t_ (s_ (r_ (ep E rfl (m_ rfl E.g4) fun a E => ep E rfl (m_ rfl E.g30) fun a E => ep (v := .agg (tkA (3, st, (i0 : Int)))) E rfl (run_of38 rfl rfl E.g1 E.g0) fun a E => ep E rfl (m_ rfl E.g6) fun a E => env_st38 (s := (0, [], 0)) E rfl (wanted_none rfl _) rfl E.g31 E.g1 hb156 fun w1 hb156n f1 E => ?_)))))
     have hf := hf.trans' f1 (fun _ hr => nq_)
     clear f1
     replace hb156 := hb156n
     refine es_ E rfl (a_ rfl E.g0) fun a E => es_ (v := .int .i64 0) E rfl (a_ rfl rfl) fun a E => n_ (t_ (wr_ (tr_ (res38_3 rfl E E.g31 E.g1 E.g0 hb156 ⟨?_, hf⟩))))
     rw [hN]
     try rfl
  | true =>
   rw [hq158] at E
   have hdig : isDig c = true := hq158
   refine c_t E.g0 (s_ (bk_ (wp_loop (fun a w2 => ∃ (j : Nat), Env 108 [(0, .string (ofL s)), (1, .int .i64 (i0 : Int)), (4, .pointer (some ⟨b156, 0, none⟩)), (8, .int .u8 (c.toNat : Int)), (7, .int .i64 (j : Int))] a ∧ RunTo isDig s i0 j ∧ w2.heap[b156]? = some (.cells #[.int .i64 0, .string (ofL []), .int .i64 0] 38 (0, 0)) ∧ Fr (fun _ => False) w w2) (fun a _ => s.length - (intOf (a.eval (.tmp 7))).toNat) ?_ ?_)))
   ·exact ⟨i0 + 1, E.of ⟨E.g14, E.g15, E.g13, E.g4, E.g8, trivial⟩, (RunTo.start (by omega)).step hc hdig, hb156, hf⟩
   clear E
   rintro a w2 ⟨j, E, hr, hb156, hf⟩
   have hmu : s.length - (intOf (a.eval (.tmp 7))).toNat = s.length - j := by rw [E.g4]; first | rfl | (simp [intOf]; done) | (simp only [intOf]; omega)
   rw [hmu]
   clear hmu
   have hjl := hr.hi
   refine s_ (s_ (r_ (ep E rfl (m_ rfl E.g4) fun a E => ep E rfl (m_ rfl E.g1) fun a E => ep (v := .int .i64 (s.length : Int)) E rfl (run_slen rfl E.g0) fun a E => ep (v := .bool (decide ((j : Int) < (s.length : Int)))) E rfl (run_ilss E.g2 E.g0 Tryz.underlying3 rfl) fun a E => ep E rfl (m_ rfl E.g0) fun a E => ?_)))
   cases hq163 : (decide ((j : Int) < (s.length : Int))) with
   | false =>
    rw [hq163] at E
    have hjn : s.length ≤ j := by have := of_decide_eq_false hq163; omega
    have hon := (dig_one hc hdig hr (digAt_no hjn)).1
    have hij := (dig_one hc hdig hr (digAt_no hjn)).2
    rw [wrdAt_no hjn] at hon
    refine ek E rfl rfl E.g0 fun a E => ek E rfl rfl E.g1 fun a E => ek E rfl rfl E.g2 fun a E => ek E rfl rfl E.g3 fun a E => ep (v := .bool false) E rfl (run_pick_f rfl E.g4 rfl) fun a E => n_ (t_ (c_f E.g0 (x_ (te_ (te_ (be_ (t_ (s_ (s_ (r_ (ep E rfl (m_ rfl E.g14) fun a E => ep E rfl (m_ rfl E.g12) fun a E => ep (v := .int .i64 ((j : Int) - (i0 : Int))) E rfl (run_isub Tryz.underlying3 E.g1 E.g0 (by omega) (by omega) rfl) fun a E => ep (v := .bool (decide (7 < ((j : Int) - (i0 : Int))))) E rfl (run_igtr E.g0 rfl Tryz.underlying3 rfl) fun a E => ep E rfl (m_ rfl E.g0) fun a E => ?_)))))))))))
    cases hq164 : (decide (7 < ((j : Int) - (i0 : Int)))) with
    | false =>
     rw [hq164] at E
     have hd9 := of_decide_eq_false hq164
     rw [decide_eq_false hd9, Bool.false_or] at hon
     rw [if_neg (by simp)] at hon
     have hN := nxtR_ok hon
     rw [show i0 + 1 + (j - (i0 + 1)) = j by omega] at hN
     refine eg E rfl (wy_ E E.g0) (m_ rfl E.g19) fun a E => eg E rfl (wy_ E E.g1) (m_ rfl E.g16) fun a E => eg (v := .int .i64 (s.length : Int)) E rfl (wy_ E E.g2) (run_slen rfl E.g0) fun a E => eg (v := .bool false) E rfl (wy_ E E.g3) ((run_ilss E.g2 E.g0 Tryz.underlying3 rfl).trans (by rw [hq163] <;> rfl)) fun a E => eg E rfl (wy_ E E.g4) (m_ rfl E.g0) fun a E => ek E rfl rfl E.g0 fun a E => ek E rfl rfl E.g1 fun a E => ek E rfl rfl E.g2 fun a E => ek E rfl rfl E.g3 fun a E => eg (v := .bool false) E rfl (wy_ E E.g9) (run_pick_f rfl E.g4 rfl) fun a E => ep (v := .bool false) E rfl (run_pick_f rfl E.g10 E.g0) fun a E => n_ (t_ (c_f E.g0 (k_ (t_ (s_ (r_ (ep E rfl (m_ rfl E.g26) fun a E => ep E rfl (m_ rfl E.g28) fun a E => ep E rfl (m_ rfl E.g32) fun a E => ep (v := .string (ofL ((s.take j).drop i0))) E rfl (run_sub (a := i0) (b := j) rfl E.g2 E.g1 E.g0 (by omega) (by omega)) fun a E => ep E rfl (m_ rfl E.g31) fun a E => ep (v := .agg (tkA (2, ((s.take j).drop i0), (i0 : Int)))) E rfl (run_of38 rfl rfl E.g1 E.g0) fun a E => ep E rfl (m_ rfl E.g36) fun a E => env_st38 (s := (0, [], 0)) E rfl (wanted_none rfl _) rfl E.g35 E.g1 hb156 fun w1 hb156n f1 E => ?_)))))))
     have hf := hf.trans' f1 (fun _ hr => nq_)
     clear f1
     replace hb156 := hb156n
     refine ep E rfl (a_ rfl E.g0) fun a E => ep (v := .int .i64 0) E rfl (a_ rfl rfl) fun a E => n_ (t_ (wr_ (tr_ (res38_3 rfl E E.g37 E.g1 E.g0 hb156 ⟨?_, hf⟩))))
     rw [hN]
     try rfl
    | true =>
     rw [hq164] at E
     have hd9 := of_decide_eq_true hq164
     rw [decide_eq_true hd9, Bool.true_or, if_pos rfl] at hon
     have hN := nxtR_er hon (by decide)
     refine ek E rfl rfl E.g0 fun a E => ek E rfl rfl E.g1 fun a E => ek E rfl rfl E.g2 fun a E => ek E rfl rfl E.g3 fun a E => ek E rfl rfl E.g4 fun a E => eu E rfl rfl E.g0 fun a E => eu E rfl rfl E.g1 fun a E => eu E rfl rfl E.g2 fun a E => eu E rfl rfl E.g3 fun a E => ek E rfl rfl E.g9 fun a E => ep (v := .bool true) E rfl (run_pick_t rfl E.g10 rfl) fun a E => n_ (t_ (c_t E.g0 (s_ (r_ (ep (v := .agg (tkA (0, [], 0))) E rfl (run_zero38 rfl) fun a E => env_st38 (s := (0, [], 0)) E rfl (wanted_none rfl _) rfl E.g29 E.g0 hb156 fun w1 hb156n f1 E => ?_)))))
     have hf := hf.trans' f1 (fun _ hr => nq_)
     clear f1
     replace hb156 := hb156n
     refine ep (v := .int .i64 0) E rfl (a_ rfl rfl) fun a E => ep (v := .int .i64 4) E rfl (a_ rfl rfl) fun a E => n_ (t_ (wr_ (tr_ (tr_ (res38_3 rfl E E.g31 E.g1 E.g0 hb156 ⟨?_, hf⟩)))))
     rw [hN]
   | true =>
    rw [hq163] at E
    have hltj : j < s.length := by have := of_decide_eq_true hq163; omega
    obtain ⟨e, he⟩ : ∃ e, s[j]? = some e := ⟨_, List.getElem?_eq_getElem hltj⟩
    refine eg E rfl (wy_ E E.g0) (m_ rfl E.g5) fun a E => eg E rfl (wy_ E E.g1) (m_ rfl E.g10) fun a E => eg (v := .int .u8 (e.toNat : Int)) E rfl (wy_ E E.g2) (run_byte rfl E.g1 E.g0 he) fun a E => env_call (d := 53) (v := .bool (isDig e)) E rfl (by decide) rfl (wy_ E E.g3) (run_call1 (enters_of Tryz.func87 (by kernel_rfl) rfl) rfl rfl E.g0) (digit_calls e _) fun a w1 f1 E => ?_
    have hb156 := f1.obj hb156 id
    have hf := hf.trans' f1 (fun _ _ h => h.elim)
    clear f1
    refine ep (v := .bool (isDig e)) E rfl (run_pick_t rfl E.g4 E.g0) fun a E => n_ (t_ ?_)
    cases hq165 : (isDig e) with
    | false =>
     rw [hq165] at E
     have hds : digAt s j = false := (digAt_is he).trans hq165
     have hon := (dig_one hc hdig hr hds).1
     have hij := (dig_one hc hdig hr hds).2
     refine c_f E.g0 (x_ (te_ (te_ (be_ (t_ (s_ (s_ (r_ (ep E rfl (m_ rfl E.g14) fun a E => ep E rfl (m_ rfl E.g12) fun a E => ep (v := .int .i64 ((j : Int) - (i0 : Int))) E rfl (run_isub Tryz.underlying3 E.g1 E.g0 (by omega) (by omega) rfl) fun a E => ep (v := .bool (decide (7 < ((j : Int) - (i0 : Int))))) E rfl (run_igtr E.g0 rfl Tryz.underlying3 rfl) fun a E => ep E rfl (m_ rfl E.g0) fun a E => ?_)))))))))
     cases hq166 : (decide (7 < ((j : Int) - (i0 : Int)))) with
     | false =>
      rw [hq166] at E
      have hd9 := of_decide_eq_false hq166
      rw [decide_eq_false hd9, Bool.false_or] at hon
      refine eg E rfl (wy_ E E.g0) (m_ rfl E.g19) fun a E => eg E rfl (wy_ E E.g1) (m_ rfl E.g16) fun a E => eg (v := .int .i64 (s.length : Int)) E rfl (wy_ E E.g2) (run_slen rfl E.g0) fun a E => eg (v := .bool true) E rfl (wy_ E E.g3) ((run_ilss E.g2 E.g0 Tryz.underlying3 rfl).trans (by rw [hq163] <;> rfl)) fun a E => eg E rfl (wy_ E E.g4) (m_ rfl E.g0) fun a E => eg E rfl (wy_ E E.g0) (m_ rfl E.g20) fun a E => eg E rfl (wy_ E E.g1) (m_ rfl E.g25) fun a E => eg (v := .int .u8 (e.toNat : Int)) E rfl (wy_ E E.g2) (run_byte rfl E.g1 E.g0 he) fun a E => env_call (d := 70) (v := .bool (isWrd e)) E rfl (by decide) rfl (wy_ E E.g3) (run_call1 (enters_of Tryz.func86 (by kernel_rfl) rfl) rfl rfl E.g0) (word_calls e _) fun a w1 f1 E => ?_
      have hb156 := f1.obj hb156 id
      have hf := hf.trans' f1 (fun _ _ h => h.elim)
      clear f1
      refine eg (v := .bool (isWrd e)) E rfl (wy_ E E.g9) (run_pick_t rfl E.g4 E.g0) fun a E => ep (v := .bool (isWrd e)) E rfl (run_pick_f rfl E.g10 E.g0) fun a E => n_ (t_ ?_)
      cases hq167 : (isWrd e) with
      | false =>
       rw [hq167] at E
       rw [wrdAt_is he, hq167] at hon
       rw [if_neg (by simp)] at hon
       have hN := nxtR_ok hon
       rw [show i0 + 1 + (j - (i0 + 1)) = j by omega] at hN
       refine c_f E.g0 (k_ (t_ (s_ (r_ (ep E rfl (m_ rfl E.g26) fun a E => ep E rfl (m_ rfl E.g28) fun a E => ep E rfl (m_ rfl E.g32) fun a E => ep (v := .string (ofL ((s.take j).drop i0))) E rfl (run_sub (a := i0) (b := j) rfl E.g2 E.g1 E.g0 (by omega) (by omega)) fun a E => ep E rfl (m_ rfl E.g31) fun a E => ep (v := .agg (tkA (2, ((s.take j).drop i0), (i0 : Int)))) E rfl (run_of38 rfl rfl E.g1 E.g0) fun a E => ep E rfl (m_ rfl E.g36) fun a E => env_st38 (s := (0, [], 0)) E rfl (wanted_none rfl _) rfl E.g35 E.g1 hb156 fun w1 hb156n f1 E => ?_)))))
       have hf := hf.trans' f1 (fun _ hr => nq_)
       clear f1
       replace hb156 := hb156n
       refine ep E rfl (a_ rfl E.g0) fun a E => ep (v := .int .i64 0) E rfl (a_ rfl rfl) fun a E => n_ (t_ (wr_ (tr_ (res38_3 rfl E E.g37 E.g1 E.g0 hb156 ⟨?_, hf⟩))))
       rw [hN]
       try rfl
      | true =>
       rw [hq167] at E
       rw [wrdAt_is he, hq167] at hon
       rw [if_pos rfl] at hon
       have hN := nxtR_er hon (by decide)
       refine c_t E.g0 (s_ (r_ (ep (v := .agg (tkA (0, [], 0))) E rfl (run_zero38 rfl) fun a E => env_st38 (s := (0, [], 0)) E rfl (wanted_none rfl _) rfl E.g29 E.g0 hb156 fun w1 hb156n f1 E => ?_)))
       have hf := hf.trans' f1 (fun _ hr => nq_)
       clear f1
       replace hb156 := hb156n
       refine ep (v := .int .i64 0) E rfl (a_ rfl rfl) fun a E => ep (v := .int .i64 4) E rfl (a_ rfl rfl) fun a E => n_ (t_ (wr_ (tr_ (tr_ (res38_3 rfl E E.g31 E.g1 E.g0 hb156 ⟨?_, hf⟩)))))
       rw [hN]
     | true =>
      rw [hq166] at E
      have hd9 := of_decide_eq_true hq166
      rw [decide_eq_true hd9, Bool.true_or, if_pos rfl] at hon
      have hN := nxtR_er hon (by decide)
      refine ek E rfl rfl E.g0 fun a E => ek E rfl rfl E.g1 fun a E => ek E rfl rfl E.g2 fun a E => ek E rfl rfl E.g3 fun a E => ek E rfl rfl E.g4 fun a E => eu E rfl rfl E.g0 fun a E => eu E rfl rfl E.g1 fun a E => eu E rfl rfl E.g2 fun a E => eu E rfl rfl E.g3 fun a E => ek E rfl rfl E.g9 fun a E => ep (v := .bool true) E rfl (run_pick_t rfl E.g10 rfl) fun a E => n_ (t_ (c_t E.g0 (s_ (r_ (ep (v := .agg (tkA (0, [], 0))) E rfl (run_zero38 rfl) fun a E => env_st38 (s := (0, [], 0)) E rfl (wanted_none rfl _) rfl E.g29 E.g0 hb156 fun w1 hb156n f1 E => ?_)))))
      have hf := hf.trans' f1 (fun _ hr => nq_)
      clear f1
      replace hb156 := hb156n
      refine ep (v := .int .i64 0) E rfl (a_ rfl rfl) fun a E => ep (v := .int .i64 4) E rfl (a_ rfl rfl) fun a E => n_ (t_ (wr_ (tr_ (tr_ (res38_3 rfl E E.g31 E.g1 E.g0 hb156 ⟨?_, hf⟩)))))
      rw [hN]
    | true =>
     rw [hq165] at E
     have hen : isDig e = true := hq165
     refine c_t E.g0 (k_ (t_ (bk_ (r_ (ep E rfl (m_ rfl E.g14) fun a E => ep (v := .int .i64 ((j : Int) + 1)) E rfl (run_iadd Tryz.underlying3 E.g0 rfl (by omega) (by omega) rfl) fun a E => es_ E rfl (a_ rfl E.g0) fun a E => n_ (b_ (t_ ?_)))))))
     refine ⟨⟨j + 1, E.of ⟨E.g13, E.g14, E.g15, E.g16, E.g0.trans (by congr 1), trivial⟩, hr.step he hen, hb156, hf⟩, ?_⟩
     rw [E.g0]; simp only [intOf]; omega
 | true =>
  rw [hq157] at E
  have hlet : isLet c = true := hq157
  refine c_t E.g0 (s_ (bk_ (wp_loop (fun a w2 => ∃ (j : Nat), Env 108 [(0, .string (ofL s)), (1, .int .i64 (i0 : Int)), (4, .pointer (some ⟨b156, 0, none⟩)), (8, .int .u8 (c.toNat : Int)), (7, .int .i64 (j : Int))] a ∧ RunTo isWrd s i0 j ∧ w2.heap[b156]? = some (.cells #[.int .i64 0, .string (ofL []), .int .i64 0] 38 (0, 0)) ∧ Fr (fun _ => False) w w2) (fun a _ => s.length - (intOf (a.eval (.tmp 7))).toNat) ?_ ?_)))
  ·exact ⟨i0 + 1, E.of ⟨E.g12, E.g13, E.g11, E.g2, E.g6, trivial⟩, (RunTo.start (by omega)).step hc (by unfold isWrd; rw [hlet]; rfl), hb156, hf⟩
  clear E
  rintro a w2 ⟨j, E, hr, hb156, hf⟩
  have hmu : s.length - (intOf (a.eval (.tmp 7))).toNat = s.length - j := by rw [E.g4]; first | rfl | (simp [intOf]; done) | (simp only [intOf]; omega)
  rw [hmu]
  clear hmu
  have hjl := hr.hi
  refine s_ (s_ (r_ (ep E rfl (m_ rfl E.g4) fun a E => ep E rfl (m_ rfl E.g1) fun a E => ep (v := .int .i64 (s.length : Int)) E rfl (run_slen rfl E.g0) fun a E => ep (v := .bool (decide ((j : Int) < (s.length : Int)))) E rfl (run_ilss E.g2 E.g0 Tryz.underlying3 rfl) fun a E => ep E rfl (m_ rfl E.g0) fun a E => ?_)))
  cases hq169 : (decide ((j : Int) < (s.length : Int))) with
  | false =>
   rw [hq169] at E
   have hjn : s.length ≤ j := by have := of_decide_eq_false hq169; omega
   have hon := (let_one hc hlet hr (wrdAt_no hjn)).1
   have hij := (let_one hc hlet hr (wrdAt_no hjn)).2
   refine ek E rfl rfl E.g0 fun a E => ek E rfl rfl E.g1 fun a E => ek E rfl rfl E.g2 fun a E => ek E rfl rfl E.g3 fun a E => ep (v := .bool false) E rfl (run_pick_f rfl E.g4 rfl) fun a E => n_ (t_ (c_f E.g0 (x_ (te_ (te_ (be_ (t_ (s_ (s_ (r_ (ep E rfl (m_ rfl E.g14) fun a E => ep E rfl (m_ rfl E.g12) fun a E => ep (v := .int .i64 ((j : Int) - (i0 : Int))) E rfl (run_isub Tryz.underlying3 E.g1 E.g0 (by omega) (by omega) rfl) fun a E => ep (v := .bool (decide (24 < ((j : Int) - (i0 : Int))))) E rfl (run_igtr E.g0 rfl Tryz.underlying3 rfl) fun a E => n_ (t_ ?_))))))))))))
   cases hq170 : (decide (24 < ((j : Int) - (i0 : Int)))) with
   | false =>
    rw [hq170] at E
    have hd9 := of_decide_eq_false hq170
    rw [if_neg hd9] at hon
    have hN := nxtR_ok hon
    rw [show i0 + 1 + (j - (i0 + 1)) = j by omega] at hN
    refine c_f E.g0 (k_ (t_ (s_ (r_ (ep E rfl (m_ rfl E.g14) fun a E => ep E rfl (m_ rfl E.g16) fun a E => ep E rfl (m_ rfl E.g20) fun a E => ep (v := .string (ofL ((s.take j).drop i0))) E rfl (run_sub (a := i0) (b := j) rfl E.g2 E.g1 E.g0 (by omega) (by omega)) fun a E => ep E rfl (m_ rfl E.g19) fun a E => ep (v := .agg (tkA (1, ((s.take j).drop i0), (i0 : Int)))) E rfl (run_of38 rfl rfl E.g1 E.g0) fun a E => ep E rfl (m_ rfl E.g24) fun a E => env_st38 (s := (0, [], 0)) E rfl (wanted_none rfl _) rfl E.g23 E.g1 hb156 fun w1 hb156n f1 E => ?_)))))
    have hf := hf.trans' f1 (fun _ hr => nq_)
    clear f1
    replace hb156 := hb156n
    refine ep E rfl (a_ rfl E.g0) fun a E => ep (v := .int .i64 0) E rfl (a_ rfl rfl) fun a E => n_ (t_ (wr_ (tr_ (res38_3 rfl E E.g25 E.g1 E.g0 hb156 ⟨?_, hf⟩))))
    rw [hN]
    try rfl
   | true =>
    rw [hq170] at E
    have hd9 := of_decide_eq_true hq170
    rw [if_pos hd9] at hon
    have hN := nxtR_er hon (by decide)
    refine c_t E.g0 (s_ (r_ (ep (v := .agg (tkA (0, [], 0))) E rfl (run_zero38 rfl) fun a E => env_st38 (s := (0, [], 0)) E rfl (wanted_none rfl _) rfl E.g17 E.g0 hb156 fun w1 hb156n f1 E => ?_)))
    have hf := hf.trans' f1 (fun _ hr => nq_)
    clear f1
    replace hb156 := hb156n
    refine ep (v := .int .i64 0) E rfl (a_ rfl rfl) fun a E => ep (v := .int .i64 2) E rfl (a_ rfl rfl) fun a E => n_ (t_ (wr_ (tr_ (tr_ (res38_3 rfl E E.g19 E.g1 E.g0 hb156 ⟨?_, hf⟩)))))
    rw [hN]
  | true =>
   rw [hq169] at E
   have hltj : j < s.length := by have := of_decide_eq_true hq169; omega
   obtain ⟨e, he⟩ : ∃ e, s[j]? = some e := ⟨_, List.getElem?_eq_getElem hltj⟩
   refine eg E rfl (wy_ E E.g0) (m_ rfl E.g5) fun a E => eg E rfl (wy_ E E.g1) (m_ rfl E.g10) fun a E => eg (v := .int .u8 (e.toNat : Int)) E rfl (wy_ E E.g2) (run_byte rfl E.g1 E.g0 he) fun a E => env_call (d := 27) (v := .bool (isWrd e)) E rfl (by decide) rfl (wy_ E E.g3) (run_call1 (enters_of Tryz.func86 (by kernel_rfl) rfl) rfl rfl E.g0) (word_calls e _) fun a w1 f1 E => ?_
   have hb156 := f1.obj hb156 id
   have hf := hf.trans' f1 (fun _ _ h => h.elim)
   clear f1
   refine ep (v := .bool (isWrd e)) E rfl (run_pick_t rfl E.g4 E.g0) fun a E => n_ (t_ ?_)
   cases hq171 : (isWrd e) with
   | false =>
    rw [hq171] at E
    have hws : wrdAt s j = false := (wrdAt_is he).trans hq171
    have hon := (let_one hc hlet hr hws).1
    have hij := (let_one hc hlet hr hws).2
    refine c_f E.g0 (x_ (te_ (te_ (be_ (t_ (s_ (s_ (r_ (ep E rfl (m_ rfl E.g14) fun a E => ep E rfl (m_ rfl E.g12) fun a E => ep (v := .int .i64 ((j : Int) - (i0 : Int))) E rfl (run_isub Tryz.underlying3 E.g1 E.g0 (by omega) (by omega) rfl) fun a E => ep (v := .bool (decide (24 < ((j : Int) - (i0 : Int))))) E rfl (run_igtr E.g0 rfl Tryz.underlying3 rfl) fun a E => n_ (t_ ?_))))))))))
    cases hq172 : (decide (24 < ((j : Int) - (i0 : Int)))) with
    | false =>
     rw [hq172] at E
     have hd9 := of_decide_eq_false hq172
     rw [if_neg hd9] at hon
     have hN := nxtR_ok hon
     rw [show i0 + 1 + (j - (i0 + 1)) = j by omega] at hN
     refine c_f E.g0 (k_ (t_ (s_ (r_ (ep E rfl (m_ rfl E.g14) fun a E => ep E rfl (m_ rfl E.g16) fun a E => ep E rfl (m_ rfl E.g20) fun a E => ep (v := .string (ofL ((s.take j).drop i0))) E rfl (run_sub (a := i0) (b := j) rfl E.g2 E.g1 E.g0 (by omega) (by omega)) fun a E => ep E rfl (m_ rfl E.g19) fun a E => ep (v := .agg (tkA (1, ((s.take j).drop i0), (i0 : Int)))) E rfl (run_of38 rfl rfl E.g1 E.g0) fun a E => ep E rfl (m_ rfl E.g24) fun a E => env_st38 (s := (0, [], 0)) E rfl (wanted_none rfl _) rfl E.g23 E.g1 hb156 fun w1 hb156n f1 E => ?_)))))
     have hf := hf.trans' f1 (fun _ hr => nq_)
     clear f1
     replace hb156 := hb156n
     refine ep E rfl (a_ rfl E.g0) fun a E => ep (v := .int .i64 0) E rfl (a_ rfl rfl) fun a E => n_ (t_ (wr_ (tr_ (res38_3 rfl E E.g25 E.g1 E.g0 hb156 ⟨?_, hf⟩))))
     rw [hN]
     try rfl
    | true =>
     rw [hq172] at E
     have hd9 := of_decide_eq_true hq172
     rw [if_pos hd9] at hon
     have hN := nxtR_er hon (by decide)
     refine c_t E.g0 (s_ (r_ (ep (v := .agg (tkA (0, [], 0))) E rfl (run_zero38 rfl) fun a E => env_st38 (s := (0, [], 0)) E rfl (wanted_none rfl _) rfl E.g17 E.g0 hb156 fun w1 hb156n f1 E => ?_)))
     have hf := hf.trans' f1 (fun _ hr => nq_)
     clear f1
     replace hb156 := hb156n
     refine ep (v := .int .i64 0) E rfl (a_ rfl rfl) fun a E => ep (v := .int .i64 2) E rfl (a_ rfl rfl) fun a E => n_ (t_ (wr_ (tr_ (tr_ (res38_3 rfl E E.g19 E.g1 E.g0 hb156 ⟨?_, hf⟩)))))
     rw [hN]
   | true =>
    rw [hq171] at E
    have hen : isWrd e = true := hq171
    refine c_t E.g0 (k_ (t_ (bk_ (r_ (ep E rfl (m_ rfl E.g14) fun a E => ep (v := .int .i64 ((j : Int) + 1)) E rfl (run_iadd Tryz.underlying3 E.g0 rfl (by omega) (by omega) rfl) fun a E => es_ E rfl (a_ rfl E.g0) fun a E => n_ (b_ (t_ ?_)))))))
    refine ⟨⟨j + 1, E.of ⟨E.g13, E.g14, E.g15, E.g16, E.g0.trans (by congr 1), trivial⟩, hr.step he hen, hb156, hf⟩, ?_⟩
    rw [E.g0]; simp only [intOf]; omega
end Go.Proofs.YtjaffpnegdcjnaaGreatDoor
/- The reference lexer: Lex. -/
set_option linter.unusedVariables false
set_option linter.unusedSimpArgs false
namespace Go.Proofs.YtjaffpnegdcjnaaGreatDoor
open Go.RowKit Go.Pl
theorem one_k {c : UInt8} {l : Bys} (hb : isBlk c = false) (hh : (c == 35) = false) (he : (one c l).2.2.2 = 0) : (one c l).1 ≠ 0 ∧ (one c l).2.2.1 ≤ l.length := by
 have ht1 := takeWhile_len isWrd l
 have ht2 := takeWhile_len isDig l
 unfold one at *
 rw [if_neg (by rw [hb]; simp), if_neg (by rw [hh]; simp)] at he ⊢
 split
 ·exact ⟨by simp, ht1⟩
 ·rename_i h3
  rw [if_neg h3] at he
  split
  ·exact ⟨by simp, ht2⟩
  ·rename_i h4
   rw [if_neg h4] at he
   split
   ·rename_i h5
    rw [if_pos h5] at he
    cases hq : strL l with
    | none => rw [hq] at he; simp at he
    | some r => exact ⟨by simp, strL_len _ l (Nat.le_refl _) hq⟩
   ·rename_i h5
    rw [if_neg h5] at he
    split
    ·exact ⟨by simp, by simp⟩
    ·rename_i h6; rw [if_neg h6] at he; simp at he
theorem lex_step {s : Bys} {i : Nat} {c : UInt8} (hc : s[i]? = some c) (hb : isBlk c = false) (hh : (c == 35) = false) (he : (nxtR s i c).2.2 = 0) : ∃ kd tx m, one c (s.drop (i + 1)) = (kd, tx, m, 0) ∧ kd ≠ 0 ∧ i + 1 + m ≤ s.length ∧ nxtR s i c = ((kd, tx, (i : Int)), ((i + 1 + m : Nat) : Int), 0) := by
 have h0 : (one c (s.drop (i + 1))).2.2.2 = 0 := by
  unfold nxtR at he
  split at he
  ·assumption
  ·exact he
 obtain ⟨h1, h2⟩ := one_k hb hh h0
 have hi := (List.getElem?_eq_some_iff.1 hc).1
 rw [List.length_drop] at h2
 have h3 : one c (s.drop (i + 1)) = ((one c (s.drop (i + 1))).1, (one c (s.drop (i + 1))).2.1, (one c (s.drop (i + 1))).2.2.1, 0) := by rw [← h0]
 exact ⟨_, _, _, h3, h1, by omega, nxtR_ok h3⟩
theorem lex_stop {s : Bys} {i : Nat} {c : UInt8} (he : (nxtR s i c).2.2 ≠ 0) : ∃ kd tx m, one c (s.drop (i + 1)) = (kd, tx, m, (nxtR s i c).2.2) := by
 unfold nxtR at *
 split at he
 ·exact absurd rfl he
 ·rename_i h; exact ⟨_, _, _, by rw [if_neg h]⟩
set_option maxRecDepth 100000 in
set_option maxHeartbeats 4000000 in
theorem rlex_calls (s : Bys) (hs : s.length ≤ 4999) (w : World) : Calls Tryz.prog 35 #[.string (ofL s)] w fun e w' => match lexP s with | .error (c, x) => e = .returned (.tuple #[.slice none 0 0, .int .i64 c, .int .i64 x]) ∧ Fr (fun _ => False) w w' | .ok ts => ∃ v, e = .returned (.tuple #[v, .int .i64 0, .int .i64 0]) ∧ TkV w' v ts ∧ Fr (fun _ => False) w w' := by
 refine wp_start1 Tryz.func35 rfl rfl (n := 42) (by decide) fun a E => ?_
 have hf : Fr (fun _ => False) w w := Fr.refl _ _
 refine s_ (r_ (ep (v := .slice none 0 0) E rfl (a_ rfl rfl) fun a E => ep (v := .int .i64 0) E rfl (a_ rfl rfl) fun a E => ep (v := .int .i64 0) E rfl (a_ rfl rfl) fun a E => n_ (t_ (s_ (s_ (r_ (ep E rfl (m_ rfl E.g3) fun a E => ep (v := .int .i64 (s.length : Int)) E rfl (run_slen rfl E.g0) fun a E => ep (v := .bool (decide (20000 < (s.length : Int)))) E rfl (run_igtr E.g0 rfl Tryz.underlying3 rfl) fun a E => n_ (t_ ?_))))))))
 cases hq156 : (decide (20000 < (s.length : Int))) with
 | false =>
  rw [hq156] at E
  refine c_f E.g0 (k_ (t_ (s_ (r_ (ep (v := .slice none 0 0) E rfl (a_ rfl rfl) fun a E => n_ (t_ (s_ (r_ (ep E rfl (m_ rfl E.g7) fun a E => env_callv (d := 14) (R := fun u w8 => (∃ j : Nat, u = .int .i64 (j : Int) ∧ GapTo s (0) j) ∧ Fr (fun _ => False) w w8) E rfl (by decide) rfl (wanted_none rfl _) (run_call2 (enters_of Tryz.func61 (by kernel_rfl) rfl) rfl rfl E.g0 rfl) ((gap_calls s (i0 := 0) (Nat.zero_le _) (by omega) _).mono fun e w8 h => by obtain ⟨j, rfl, h1, h2⟩ := h; exact ⟨_, rfl, ⟨j, rfl, h1⟩, h2⟩) fun a w1 u ⟨⟨j0, hu, hg0⟩, f1⟩ E => ?_)))))))))
  subst hu
  have hf := hf.trans' f1 (fun _ _ h => h.elim)
  clear f1
  refine ep E rfl (a_ rfl E.g0) fun a E => n_ (t_ (s_ (bk_ ?_)))
  obtain ⟨B, hB⟩ : ∃ B, B = w.heap.size := ⟨_, rfl⟩
  have hLz := hg0.2.2.1 _ (LexAt.zero s)
  refine wp_loop (fun a w2 => ∃ (i : Nat) (k : Nat) (dv : Value), Env 42 [(0, .string (ofL s)), (5, dv), (6, .int .i64 (i : Int))] a ∧ (LexAt s k i ∧ ∀ c, s[i]? = some c → isBlk c = false ∧ (c == 35) = false) ∧ (∀ y ∈ (lexL s 0).take k, y.2 = 0) ∧ oTk w2 B dv ((toks s).take k) ∧ B ≤ w2.heap.size ∧ Fr (fun _ => False) w w2) (fun a _ => s.length - (intOf (a.eval (.tmp 6))).toNat) ?_ ?_
  ·exact ⟨j0, 0, _, E.of ⟨E.g10, E.g3, E.g0, trivial⟩, ⟨hLz, hg0.2.2.2⟩, (fun y hy => by simp at hy), ow_nil _, hB ▸ hf.size, hf⟩
  clear E
  rintro a w2 ⟨i, k, dv, E, hLg, hz, hO, hBs, hf⟩
  have hmu : s.length - (intOf (a.eval (.tmp 6))).toNat = s.length - i := by rw [E.g2]; first | rfl | (simp [intOf]; done) | (simp only [intOf]; omega)
  rw [hmu]
  clear hmu
  obtain ⟨hL, hgc⟩ := hLg
  have hil := hL.1
  have hkl := hL.2.1
  have hll := lexP_len (s := s)
  refine s_ (s_ (r_ (ep E rfl (m_ rfl E.g2) fun a E => ep E rfl (m_ rfl E.g1) fun a E => ep (v := .int .i64 (s.length : Int)) E rfl (run_slen rfl E.g0) fun a E => ep (v := .bool (decide ((i : Int) < (s.length : Int)))) E rfl (run_ilss E.g2 E.g0 Tryz.underlying3 rfl) fun a E => n_ (t_ ?_))))
  cases hq159 : (decide ((i : Int) < (s.length : Int))) with
  | false =>
   rw [hq159] at E
   have hie : i = s.length := by have := of_decide_eq_false hq159; omega
   refine c_f E.g0 (x_ (te_ (te_ (be_ (t_ (s_ (r_ (ep E rfl (m_ rfl E.g5) fun a E => ep E rfl (a_ rfl E.g0) fun a E => ep (v := .int .i64 0) E rfl (a_ rfl rfl) fun a E => ep (v := .int .i64 0) E rfl (a_ rfl rfl) fun a E => n_ (t_ (wr_ ?_))))))))))
   rw [hie] at hL
   have hkd := hL.done
   have hz2 : ∀ y ∈ lexL s 0, y.2 = 0 := by rw [hkd, List.take_length] at hz; exact hz
   have hP : lexP s = .ok (toks s) := by unfold lexP; rw [err_no hz2]; rfl
   have hO9 : (toks s).take k = toks s := List.take_of_length_le (by unfold toks; rw [List.length_map]; omega)
   rw [hO9] at hO
   refine ret_tmp3 rfl E E.g2 E.g1 E.g0 ?_
   rw [hP]
   exact ⟨_, rfl, ow.Src tkL_len hO, hf⟩
  | true =>
   rw [hq159] at E
   have hlt : i < s.length := by have := of_decide_eq_true hq159; omega
   obtain ⟨c, hc⟩ : ∃ c, s[i]? = some c := ⟨_, List.getElem?_eq_getElem hlt⟩
   refine c_t E.g0 (k_ (t_ (bk_ (s_ (r_ (ep E rfl (m_ rfl E.g4) fun a E => ep E rfl (m_ rfl E.g7) fun a E => ec_ (v := .tuple #[.agg (tkA (nxtR s i c).1), .int .i64 (nxtR s i c).2.1, .int .i64 (nxtR s i c).2.2]) E rfl (run_call2 (enters_of Tryz.func62 (by kernel_rfl) rfl) rfl rfl E.g1 E.g0) (next62_calls s hc (hgc c hc).1 (hgc c hc).2 (by omega) _) fun a w1 f1 E => ?_))))))
   have hBs := Nat.le_trans hBs f1.size
   have hO := ow.fr hO f1 (fun _ _ => id)
   have hf := hf.trans' f1 (fun _ _ h => h.elim)
   clear f1
   refine ep E rfl (m_ rfl E.g0) fun a E => ep (v := .agg (tkA (nxtR s i c).1)) E rfl (run_ex0of3 rfl E.g0) fun a E => ep (v := .int .i64 (nxtR s i c).2.1) E rfl (run_ex1of3 rfl E.g1) fun a E => ep (v := .int .i64 (nxtR s i c).2.2) E rfl (run_ex2of3 rfl E.g2) fun a E => env_new (d := 7) E rfl (by decide) rfl (wanted_none rfl _) (run_alloc38 rfl) fun a w1 b160 eb160 hb160 f1 E => ?_
   have hnb160 : w.heap.size ≤ b160 := by have := hf.size; omega
   have hBb160 : B ≤ b160 := by omega
   have hdb160 : ∀ k, ((dv) : Value).ownBlock = some k → k ≠ b160 := fun k hk => by have := (hO.lt hk).2; omega
   have hBs := Nat.le_trans hBs f1.size
   have hO := ow.fr hO f1 (fun _ _ => id)
   have hf := hf.trans' f1 (fun _ _ h => h.elim)
   clear f1
   refine env_st38 (s := (0, [], 0)) E rfl (wanted_none rfl _) rfl E.g0 E.g3 hb160 fun w1 hb160n f1 E => ?_
   have hBs := Nat.le_trans hBs f1.size
   have hO := ow.fr hO f1 (fun k hk e => by have := (hO.lt hk).1; have := hdb160 k hk; (try simp only at e); omega)
   have hf := hf.trans' f1 (fun _ hr => nq_)
   clear f1
   replace hb160 := hb160n
   refine ep E rfl (a_ rfl E.g2) fun a E => ep E rfl (a_ rfl E.g2) fun a E => n_ (t_ (s_ (s_ (r_ (ep E rfl (m_ rfl E.g0) fun a E => ep (v := .bool ((nxtR s i c).2.2 != 0)) E rfl (run_ineq E.g0 rfl Tryz.underlying25 rfl) fun a E => n_ (t_ ?_))))))
   cases hq161 : ((nxtR s i c).2.2 != 0) with
   | false =>
    rw [hq161] at E
    have hn0 : (nxtR s i c).2.2 = 0 := by simpa using hq161
    obtain ⟨kd, tx, m, hon, hk9, hm9, hN⟩ := lex_step hc (hgc c hc).1 (hgc c hc).2 hn0
    obtain ⟨hx, hLn⟩ := hL.tok hc hon hk9 hm9
    have hkl2 := (List.getElem?_eq_some_iff.1 hx).1
    rw [hN] at E
    rw [hN] at hb160
    refine c_f E.g0 (k_ (t_ (s_ (s_ (r_ (ep E rfl (m_ rfl E.g17) fun a E => ep (v := .int .i64 (((toks s).take k).length : Int)) E rfl (run_len34o hO rfl E.g0) fun a E => ep (v := .bool ((((toks s).take k).length : Int) == 5000)) E rfl (run_ieql E.g0 rfl Tryz.underlying3 rfl) fun a E => n_ (t_ ?_)))))))
    cases hq162 : ((((toks s).take k).length : Int) == 5000) with
    | false =>
     rw [hq162] at E
     refine c_f E.g0 (k_ (t_ (s_ (r_ (ep E rfl (m_ rfl E.g20) fun a E => ep (v := .agg (tkA (kd, tx, (i : Int)))) E rfl (run_ld38 rfl E.g8 (rng3 (p := (kd, tx, (i : Int))) hb160 0 rfl rfl rfl)) fun a E => env_one34 (d := 36) E rfl (by decide) rfl (wanted_none rfl _) rfl E.g0 fun a w1 b163 eb163 hbb163 f1 E => ?_)))))
     have hBs := Nat.le_trans hBs f1.size
     have hO := ow.fr hO f1 (fun _ _ => id)
     have hb160 := f1.obj hb160 id
     have hf := hf.trans' f1 (fun _ _ h => h.elim)
     clear f1
     have hsb163 := src_one (f := tkL) (c := 3) (G := w1.heap.size) hbb163 (lt_of_blk hbb163)
     clear hbb163 eb163
     refine env_app34 (d := 37) E rfl (by decide) rfl rfl rfl E.g2 hO E.g0 hsb163 (fun h => by cases h) (by simp only [List.length_take, toks, List.length_map, List.length_cons, List.length_nil]; omega) hBs fun a w1 ov164 hO2 f1 hloc E => ?_
     have hdb160n : ∀ k, ((ov164) : Value).ownBlock = some k → k ≠ b160 := fun k hk => by
      rcases hloc with h9 | h9
      ·exact hdb160 k (by rw [← h9]; exact hk)
      ·rw [h9] at hk; cases hk; have := lt_of_blk hb160; omega
     have hBs := Nat.le_trans hBs f1.size
     have hf := hf.trans' f1 (fun r hr => (fun e => by (try simp only at e); have := (hO.lt e).1; (try have := hdb160 _ e); omega))
     clear f1
     replace hO := hO2
     clear hloc
     replace hdb160 := hdb160n
     refine es_ E rfl (a_ rfl E.g0) fun a E => n_ (t_ (r_ (ep E rfl (m_ rfl E.g24) fun a E => ep E rfl (m_ rfl E.g12) fun a E => env_callv (d := 40) (R := fun u w8 => (∃ j : Nat, u = .int .i64 (j : Int) ∧ GapTo s (i + 1 + m) j) ∧ Fr (fun _ => False) w1 w8) E rfl (by decide) rfl (wanted_none rfl _) (run_call2 (enters_of Tryz.func61 (by kernel_rfl) rfl) rfl rfl E.g1 E.g0) ((gap_calls s (i0 := i + 1 + m) (hm9) (by omega) _).mono fun e w8 h => by obtain ⟨j, rfl, h1, h2⟩ := h; exact ⟨_, rfl, ⟨j, rfl, h1⟩, h2⟩) fun a w1 u ⟨⟨j9, hu, hg9⟩, f1⟩ E => ?_)))
     subst hu
     have hBs := Nat.le_trans hBs f1.size
     have hO := ow.fr hO f1 (fun _ _ => id)
     have hf := hf.trans' f1 (fun _ _ h => h.elim)
     clear f1
     refine es_ E rfl (a_ rfl E.g0) fun a E => n_ (b_ (t_ ?_))
     have e9 : (toks s).take (k + 1) = (toks s).take k ++ [(kd, tx, (i : Int))] := by
      unfold toks
      rw [List.take_add_one, List.getElem?_map, hx]; rfl
     have hz9 : ∀ y ∈ (lexL s 0).take (k + 1), y.2 = 0 := by
      intro y hy
      rw [List.take_add_one, hx] at hy
      rcases List.mem_append.1 hy with h9 | h9
      ·exact hz y h9
      ·simp at h9; subst h9; rfl
     refine ⟨⟨j9, k + 1, ov164, E.of ⟨E.g28, E.g4, E.g0, trivial⟩, ⟨hg9.2.2.1 _ hLn, hg9.2.2.2⟩, hz9, by rw [e9]; exact hO, hBs, hf⟩, ?_⟩
     rw [E.g0]; simp only [intOf]; have := hg9.1; omega
    | true =>
     rw [hq162] at E
     exact absurd hq162 (by rw [Bool.not_eq_true, beq_eq_false_iff_ne]; simp only [List.length_take, toks, List.length_map]; omega)
   | true =>
    rw [hq161] at E
    have hne : (nxtR s i c).2.2 ≠ 0 := by simpa using hq161
    obtain ⟨kd, tx, m, hon⟩ := lex_stop hne
    have hx := (hL.err hc hon hne).1
    refine c_t E.g0 (s_ (r_ (ep E rfl (m_ rfl E.g2) fun a E => ep E rfl (m_ rfl E.g19) fun a E => ep (v := .slice none 0 0) E rfl (a_ rfl rfl) fun a E => ep E rfl (a_ rfl E.g2) fun a E => ep E rfl (a_ rfl E.g2) fun a E => n_ (t_ (wr_ (tr_ (br_ (tr_ (br_ (tr_ ?_))))))))))
    have hP : lexP s = .error ((nxtR s i c).2.2, (i : Int)) := by unfold lexP; rw [err_is hx hz hne]
    refine ret_tmp3 rfl E E.g2 E.g1 E.g0 ?_
    rw [hP]
    exact ⟨rfl, hf⟩
 | true =>
  rw [hq156] at E
  exact absurd (of_decide_eq_true hq156) (by omega)
end Go.Proofs.YtjaffpnegdcjnaaGreatDoor
/- The reference reader: errors. -/
set_option linter.unusedVariables false
set_option linter.unusedSimpArgs false
namespace Go.Proofs.YtjaffpnegdcjnaaGreatDoor
open Go.RowKit Go.Pl
/-- The reference's reader: the tokens, where it stands, the end, the first error. -/
def RdS (w : World) (rb G : Nat) (en : Int) (ts : List (Tok Int)) (i : Nat) (e x : Int) : Prop := G ≤ rb ∧ ∃ lv, w.heap[rb]? = some (.cells #[lv, .int .i64 (i : Int), .int .i64 en, .int .i64 e, .int .i64 x] 62 (0, 0)) ∧ TkS w G lv ts
theorem RdS.fr {w w' : World} {rb G : Nat} {en : Int} {ts : List (Tok Int)} {i : Nat} {e x : Int} (h : RdS w rb G en ts i e x) {F : Nat → Prop} (f : Fr F w w') (hF : ∀ r, r ≤ rb → ¬ F r) : RdS w' rb G en ts i e x := by
 obtain ⟨h0, lv, h1, h2⟩ := h
 exact ⟨h0, lv, f.obj h1 (hF _ (Nat.le_refl _)), h2.fr f fun r hr => hF r (by omega)⟩
theorem RdS.lt {w : World} {rb G : Nat} {en : Int} {ts : List (Tok Int)} {i : Nat} {e x : Int} (h : RdS w rb G en ts i e x) : rb < w.heap.size := by
 obtain ⟨_, lv, h1, _⟩ := h
 exact lt_of_blk h1
/-- What fail raises. -/
def failP (en : Int) : List (Tok Int) → Int × Int
 | [] => (6, en)
 | t :: _ => (5, t.2.2)
/-- The first error stays. -/
def firstE (e x : Int) (q : Int × Int) : Int × Int := if e = 0 then q else (e, x)
/-- Whether the next token is a text, not quoted. -/
def seesR (s : Bys) : List (Tok Int) → Bool
 | [] => false
 | t :: _ => t.1 != 3 && t.2.1 == s
theorem drop_tok {ts : List (Tok Int)} {i : Nat} {t : Tok Int} (h : ts[i]? = some t) : ts.drop i = t :: ts.drop (i + 1) := by
 obtain ⟨hi, rfl⟩ := List.getElem?_eq_some_iff.1 h
 exact List.drop_eq_getElem_cons hi
set_option maxRecDepth 100000 in
set_option maxHeartbeats 4000000 in
theorem raise_calls {w : World} {rb G : Nat} {en : Int} {ts : List (Tok Int)} {i : Nat} {e x : Int} (hR : RdS w rb G en ts i e x) (c y : Int) : Calls Tryz.prog 41 #[.pointer (some ⟨rb, 0, none⟩), .int .i64 c, .int .i64 y] w fun e' w' => e' = .returned (.tuple #[]) ∧ Fr (fun r => r = rb) w w' ∧ RdS w' rb G en ts (i) ((firstE e x (c, y)).1) ((firstE e x (c, y)).2) := by
 have hR0 := hR
 obtain ⟨hGr, lv, hrb, htkS⟩ := hR
 obtain ⟨pl, cl, hlv, hlv0, hlv1, hts, hzl⟩ := htkS
 subst hlv
 have hrl := lt_of_blk hrb
 refine wp_start3 Tryz.func41 rfl rfl (n := 19) (by decide) fun a E => ?_
 have hf : Fr (fun _ => False) w w := Fr.refl _ _
 have hf : Fr (fun r => r = rb) w w := Fr.refl _ _
 refine s_ (r_ (ep E rfl (m_ rfl E.g0) fun a E => ep E rfl (i_ rfl E.g0) fun a E => ep (v := .pointer (some ⟨rb, 3, none⟩)) E rfl (fa62_3 rfl E.g0) fun a E => ep (v := .int .i64 e) E rfl (run_lde rfl E.g0 (bx hrb 3 rfl)) fun a E => ep (v := .bool (e == 0)) E rfl (run_ieql E.g0 rfl Tryz.underlying25 rfl) fun a E => n_ (t_ ?_)))
 cases hq156 : (e == 0) with
 | false =>
  rw [hq156] at E
  refine c_f E.g0 (k_ ?_)
  have he : ¬ e = 0 := beq_eq_false_iff_ne.1 hq156
  have hq : firstE e x (c, y) = (e, x) := if_neg he
  refine (ret_nil rfl E ⟨rfl, hf, ?_⟩).1
  rw [hq]
  exact ⟨hGr, _, hrb, ⟨pl, cl, rfl, hlv0, hlv1, hts, hzl⟩⟩
 | true =>
  rw [hq156] at E
  refine c_t E.g0 (s_ (r_ (ep E rfl (m_ rfl E.g5) fun a E => ep E rfl (m_ rfl E.g7) fun a E => ep E rfl (i_ rfl E.g1) fun a E => ep (v := .pointer (some ⟨rb, 3, none⟩)) E rfl (fa62_3 rfl E.g0) fun a E => env_st1 (j := 3) E rfl (wanted_none rfl _) hrb (run_st25 rfl E.g0 E.g2 (bx hrb 3 rfl) (free_of_blk hrb 3)) fun w1 hrbn f1 E => ?_)))
  replace hrbn : w1.heap[rb]? = some (.cells #[.slice (pl) ts.length cl, .int .i64 (i : Int), .int .i64 en, .int .i64 c, .int .i64 x] 62 (0, 0)) := hrbn
  have hts := srcAt.fr hts f1 (fun _ hr => nq_)
  have hf := hf.trans' f1 (fun _ hr => nq_)
  clear f1
  replace hrb := hrbn
  refine n_ (t_ (r_ (ep E rfl (m_ rfl E.g9) fun a E => ep E rfl (m_ rfl E.g12) fun a E => ep E rfl (i_ rfl E.g1) fun a E => ep (v := .pointer (some ⟨rb, 4, none⟩)) E rfl (fa62_4 rfl E.g0) fun a E => env_st1 (j := 4) E rfl (wanted_none rfl _) hrb (run_st3 rfl E.g0 E.g2 (bx hrb 4 rfl) (free_of_blk hrb 4)) fun w1 hrbn f1 E => ?_)))
  replace hrbn : w1.heap[rb]? = some (.cells #[.slice (pl) ts.length cl, .int .i64 (i : Int), .int .i64 en, .int .i64 c, .int .i64 y] 62 (0, 0)) := hrbn
  have hts := srcAt.fr hts f1 (fun _ hr => nq_)
  have hf := hf.trans' f1 (fun _ hr => nq_)
  clear f1
  replace hrb := hrbn
  refine n_ ?_
  have he : e = 0 := beq_iff_eq.1 hq156
  have hq : firstE e x (c, y) = (c, y) := if_pos he
  refine (ret_nil rfl E ⟨rfl, hf, ?_⟩).1
  rw [hq]
  exact ⟨hGr, _, hrb, ⟨pl, cl, rfl, hlv0, hlv1, hts, hzl⟩⟩
set_option maxRecDepth 100000 in
set_option maxHeartbeats 4000000 in
theorem fail_calls {w : World} {rb G : Nat} {en : Int} {ts : List (Tok Int)} {i : Nat} {e x : Int} (hR : RdS w rb G en ts i e x) : Calls Tryz.prog 39 #[.pointer (some ⟨rb, 0, none⟩)] w fun e' w' => e' = .returned (.tuple #[]) ∧ Fr (fun r => r = rb) w w' ∧ RdS w' rb G en ts (i) ((firstE e x (failP en (ts.drop i))).1) ((firstE e x (failP en (ts.drop i))).2) := by
 have hR0 := hR
 obtain ⟨hGr, lv, hrb, htkS⟩ := hR
 obtain ⟨pl, cl, hlv, hlv0, hlv1, hts, hzl⟩ := htkS
 subst hlv
 have hrl := lt_of_blk hrb
 refine wp_start1 Tryz.func39 rfl rfl (n := 31) (by decide) fun a E => ?_
 have hf : Fr (fun _ => False) w w := Fr.refl _ _
 have hf : Fr (fun r => r = rb) w w := Fr.refl _ _
 refine s_ (wp_region_inv (n := 31) (base := [(0, .pointer (some ⟨rb, 0, none⟩))]) (T := [some (2, .pointer (some ⟨rb, 0, none⟩)), some (3, .pointer (some ⟨rb, 0, none⟩)), some (4, .pointer (some ⟨rb, 1, none⟩)), some (5, .int .i64 (i : Int)), some (6, .pointer (some ⟨rb, 0, none⟩)), some (7, .pointer (some ⟨rb, 0, none⟩)), some (8, .pointer (some ⟨rb, 0, none⟩)), some (9, .slice (pl) ts.length cl), some (10, .int .i64 (ts.length : Int)), some (11, .bool (decide ((ts.length : Int) ≤ (i : Int))))]) (M := fun _ wm => Fr (fun _ => False) w wm) (by kernel_rfl) (by kernel_rfl) (by kernel_rfl) (E.of ⟨E.g0, trivial⟩) (Fr.refl _ _).drew ?_ ?_)
 ·intro j9 o9 t9 ls9 a w5 ho hT0 hl E D DL hM
  have hrb := hM.obj hrb id
  have hts := srcAt.fr hts hM (fun r hr => id)
  have hR0 := RdS.fr hR0 hM (fun r hr => id)
  match j9, ho, hT0, hl, D, DL with
  | 0, ho, hT0, hl, D, DL => exact y9_ ho hT0 (val_wp (m_ rfl E.g0) rfl hM)
  | 1, ho, hT0, hl, D, DL => exact y9_ ho hT0 (val_wp (i_ rfl (D 0 _ rfl rfl)) rfl hM)
  | 2, ho, hT0, hl, D, DL => exact y9_ ho hT0 (val_wp (fa62_1 rfl (D 1 _ rfl rfl)) rfl hM)
  | 3, ho, hT0, hl, D, DL => exact y9_ ho hT0 (val_wp (run_ldi rfl (D 2 _ rfl rfl) (bx hrb 1 rfl)) rfl hM)
  | 4, ho, hT0, hl, D, DL => exact y9_ ho hT0 (val_wp (m_ rfl E.g0) rfl hM)
  | 5, ho, hT0, hl, D, DL => exact y9_ ho hT0 (val_wp (i_ rfl (D 4 _ rfl rfl)) rfl hM)
  | 6, ho, hT0, hl, D, DL => exact y9_ ho hT0 (val_wp (fa62_0 rfl (D 5 _ rfl rfl)) rfl hM)
  | 7, ho, hT0, hl, D, DL => exact y9_ ho hT0 (val_wp (run_ld34 rfl (D 6 _ rfl rfl) (bx hrb 0 rfl)) rfl hM)
  | 8, ho, hT0, hl, D, DL => exact y9_ ho hT0 (val_wp (run_len34 rfl (D 7 _ rfl rfl)) rfl hM)
  | 9, ho, hT0, hl, D, DL => exact y9_ ho hT0 (val_wp (run_igeq (D 3 _ rfl rfl) (D 8 _ rfl rfl) Tryz.underlying3 rfl) rfl hM)
  | j9 + 10, ho, hT0, hl, D, DL => exact absurd hT0 (by simp)
 ·intro a w5 E V hM
  have E := E.add (V 9 _ rfl)
  clear V
  have hrb := hM.obj hrb id
  have hts := srcAt.fr hts hM (fun r hr => id)
  have hR0 := RdS.fr hR0 hM (fun r hr => id)
  have hf := hf.trans' hM (fun _ _ h => h.elim)
  clear hM
  refine t_ ?_
  cases hq158 : (decide ((ts.length : Int) ≤ (i : Int))) with
  | false =>
   rw [hq158] at E
   have hlt : i < ts.length := by have := of_decide_eq_false hq158; omega
   obtain ⟨t, ht⟩ : ∃ y, ts[i]? = some y := ⟨_, List.getElem?_eq_getElem hlt⟩
   obtain ⟨g159, off159, hpe159, hgl159, hrow159⟩ := hts.at hlt
   replace hrow159 := hrow159 i t ht
   have hdt := drop_tok ht
   refine c_f E.g0 (wp_region_invx (G := Unit) () (n := 31) (base := [(11, .bool false), (0, .pointer (some ⟨rb, 0, none⟩))]) (U := []) (T := fun γ => [some (18, .pointer (some ⟨rb, 0, none⟩)), some (19, .pointer (some ⟨rb, 0, none⟩)), some (20, .pointer (some ⟨rb, 0, none⟩)), some (21, .pointer (some ⟨rb, 0, none⟩)), some (22, .slice (pl) ts.length cl), some (23, .pointer (some ⟨rb, 0, none⟩)), some (24, .pointer (some ⟨rb, 0, none⟩)), some (25, .pointer (some ⟨rb, 1, none⟩)), some (26, .int .i64 (i : Int)), some (27, .pointer (some ⟨g159, (off159 + i * 3), none⟩)), some (28, .pointer (some ⟨g159, ((off159 + i * 3) + 2), none⟩)), some (29, .int .i64 t.2.2), some (30, .tuple #[])]) (M := fun γ ls9 wm => (ls9 12 = false → Fr (fun _ => False) w5 wm) ∧ (ls9 12 = true → Fr (fun r => r = rb) w5 wm ∧ RdS wm rb G en ts i (firstE e x (5, t.2.2)).1 (firstE e x (5, t.2.2)).2)) (by kernel_rfl) (by kernel_rfl) (fun _ => by kernel_rfl) (E.of ⟨E.g0, E.g1, trivial⟩) (fun x hx => by cases hx) ⟨fun _ => (Fr.refl _ _).drew, fun h => absurd h Bool.false_ne_true⟩ ?_ ?_)
   ·intro j9 o9 γ ls9 a w5 ho hl E D DL DL2 hB hM
    match j9, ho, hl, D, DL, hB with
    | 0, ho, hl, D, DL, hB =>
     obtain rfl := Option.some.inj ho
     clear ho
     have h7 : ls9 12 = false := by
      cases h9 : ls9 12 with
      | false => rfl
      | true => exact absurd (hl.symm.trans (DL2 12 0 rfl h9)) (by decide)
     have hM1 := hM.1 h7
     have hrb := hM1.obj hrb id
     have hts := srcAt.fr hts hM1 (fun r hr => id)
     have hR0 := RdS.fr hR0 hM1 (fun r hr => id)
     have hrow159 := fun j u hu => hM1.cell (hrow159 j u hu) id
     exact ⟨fun _ => valx rfl (m_ rfl E.g1) rfl ⟨fun _ => hM1, fun h => absurd (h7.symm.trans h) (by decide)⟩, fun h => by rw [wanted_none rfl] at h; cases h⟩
    | 1, ho, hl, D, DL, hB =>
     obtain rfl := Option.some.inj ho
     clear ho
     have h7 : ls9 12 = false := by
      cases h9 : ls9 12 with
      | false => rfl
      | true => exact absurd (hl.symm.trans (DL2 2 1 rfl (DL2 3 2 rfl (DL2 4 3 rfl (DL2 9 4 rfl (DL2 10 9 rfl (DL2 11 10 rfl (DL2 12 11 rfl h9)))))))) (by decide)
     have hM1 := hM.1 h7
     have hrb := hM1.obj hrb id
     have hts := srcAt.fr hts hM1 (fun r hr => id)
     have hR0 := RdS.fr hR0 hM1 (fun r hr => id)
     have hrow159 := fun j u hu => hM1.cell (hrow159 j u hu) id
     exact ⟨fun _ => valx rfl (m_ rfl E.g1) rfl ⟨fun _ => hM1, fun h => absurd (h7.symm.trans h) (by decide)⟩, fun h => by rw [wanted_none rfl] at h; cases h⟩
    | 2, ho, hl, D, DL, hB =>
     obtain rfl := Option.some.inj ho
     clear ho
     have h7 : ls9 12 = false := by
      cases h9 : ls9 12 with
      | false => rfl
      | true => exact absurd (hl.symm.trans (DL2 3 2 rfl (DL2 4 3 rfl (DL2 9 4 rfl (DL2 10 9 rfl (DL2 11 10 rfl (DL2 12 11 rfl h9))))))) (by decide)
     have hM1 := hM.1 h7
     have hrb := hM1.obj hrb id
     have hts := srcAt.fr hts hM1 (fun r hr => id)
     have hR0 := RdS.fr hR0 hM1 (fun r hr => id)
     have hrow159 := fun j u hu => hM1.cell (hrow159 j u hu) id
     exact ⟨fun _ => valx rfl (i_ rfl (D 1 _ rfl rfl)) rfl ⟨fun _ => hM1, fun h => absurd (h7.symm.trans h) (by decide)⟩, fun h => by rw [wanted_none rfl] at h; cases h⟩
    | 3, ho, hl, D, DL, hB =>
     obtain rfl := Option.some.inj ho
     clear ho
     have h7 : ls9 12 = false := by
      cases h9 : ls9 12 with
      | false => rfl
      | true => exact absurd (hl.symm.trans (DL2 4 3 rfl (DL2 9 4 rfl (DL2 10 9 rfl (DL2 11 10 rfl (DL2 12 11 rfl h9)))))) (by decide)
     have hM1 := hM.1 h7
     have hrb := hM1.obj hrb id
     have hts := srcAt.fr hts hM1 (fun r hr => id)
     have hR0 := RdS.fr hR0 hM1 (fun r hr => id)
     have hrow159 := fun j u hu => hM1.cell (hrow159 j u hu) id
     exact ⟨fun _ => valx rfl (fa62_0 rfl (D 2 _ rfl rfl)) rfl ⟨fun _ => hM1, fun h => absurd (h7.symm.trans h) (by decide)⟩, fun h => by rw [wanted_none rfl] at h; cases h⟩
    | 4, ho, hl, D, DL, hB =>
     obtain rfl := Option.some.inj ho
     clear ho
     have h7 : ls9 12 = false := by
      cases h9 : ls9 12 with
      | false => rfl
      | true => exact absurd (hl.symm.trans (DL2 9 4 rfl (DL2 10 9 rfl (DL2 11 10 rfl (DL2 12 11 rfl h9))))) (by decide)
     have hM1 := hM.1 h7
     have hrb := hM1.obj hrb id
     have hts := srcAt.fr hts hM1 (fun r hr => id)
     have hR0 := RdS.fr hR0 hM1 (fun r hr => id)
     have hrow159 := fun j u hu => hM1.cell (hrow159 j u hu) id
     exact ⟨fun _ => valx rfl (run_ld34 rfl (D 3 _ rfl rfl) (bx hrb 0 rfl)) rfl ⟨fun _ => hM1, fun h => absurd (h7.symm.trans h) (by decide)⟩, fun h => by rw [wanted_none rfl] at h; cases h⟩
    | 5, ho, hl, D, DL, hB =>
     obtain rfl := Option.some.inj ho
     clear ho
     have h7 : ls9 12 = false := by
      cases h9 : ls9 12 with
      | false => rfl
      | true => exact absurd (hl.symm.trans (DL2 6 5 rfl (DL2 7 6 rfl (DL2 8 7 rfl (DL2 9 8 rfl (DL2 10 9 rfl (DL2 11 10 rfl (DL2 12 11 rfl h9)))))))) (by decide)
     have hM1 := hM.1 h7
     have hrb := hM1.obj hrb id
     have hts := srcAt.fr hts hM1 (fun r hr => id)
     have hR0 := RdS.fr hR0 hM1 (fun r hr => id)
     have hrow159 := fun j u hu => hM1.cell (hrow159 j u hu) id
     exact ⟨fun _ => valx rfl (m_ rfl E.g1) rfl ⟨fun _ => hM1, fun h => absurd (h7.symm.trans h) (by decide)⟩, fun h => by rw [wanted_none rfl] at h; cases h⟩
    | 6, ho, hl, D, DL, hB =>
     obtain rfl := Option.some.inj ho
     clear ho
     have h7 : ls9 12 = false := by
      cases h9 : ls9 12 with
      | false => rfl
      | true => exact absurd (hl.symm.trans (DL2 7 6 rfl (DL2 8 7 rfl (DL2 9 8 rfl (DL2 10 9 rfl (DL2 11 10 rfl (DL2 12 11 rfl h9))))))) (by decide)
     have hM1 := hM.1 h7
     have hrb := hM1.obj hrb id
     have hts := srcAt.fr hts hM1 (fun r hr => id)
     have hR0 := RdS.fr hR0 hM1 (fun r hr => id)
     have hrow159 := fun j u hu => hM1.cell (hrow159 j u hu) id
     exact ⟨fun _ => valx rfl (i_ rfl (D 5 _ rfl rfl)) rfl ⟨fun _ => hM1, fun h => absurd (h7.symm.trans h) (by decide)⟩, fun h => by rw [wanted_none rfl] at h; cases h⟩
    | 7, ho, hl, D, DL, hB =>
     obtain rfl := Option.some.inj ho
     clear ho
     have h7 : ls9 12 = false := by
      cases h9 : ls9 12 with
      | false => rfl
      | true => exact absurd (hl.symm.trans (DL2 8 7 rfl (DL2 9 8 rfl (DL2 10 9 rfl (DL2 11 10 rfl (DL2 12 11 rfl h9)))))) (by decide)
     have hM1 := hM.1 h7
     have hrb := hM1.obj hrb id
     have hts := srcAt.fr hts hM1 (fun r hr => id)
     have hR0 := RdS.fr hR0 hM1 (fun r hr => id)
     have hrow159 := fun j u hu => hM1.cell (hrow159 j u hu) id
     exact ⟨fun _ => valx rfl (fa62_1 rfl (D 6 _ rfl rfl)) rfl ⟨fun _ => hM1, fun h => absurd (h7.symm.trans h) (by decide)⟩, fun h => by rw [wanted_none rfl] at h; cases h⟩
    | 8, ho, hl, D, DL, hB =>
     obtain rfl := Option.some.inj ho
     clear ho
     have h7 : ls9 12 = false := by
      cases h9 : ls9 12 with
      | false => rfl
      | true => exact absurd (hl.symm.trans (DL2 9 8 rfl (DL2 10 9 rfl (DL2 11 10 rfl (DL2 12 11 rfl h9))))) (by decide)
     have hM1 := hM.1 h7
     have hrb := hM1.obj hrb id
     have hts := srcAt.fr hts hM1 (fun r hr => id)
     have hR0 := RdS.fr hR0 hM1 (fun r hr => id)
     have hrow159 := fun j u hu => hM1.cell (hrow159 j u hu) id
     exact ⟨fun _ => valx rfl (run_ldi rfl (D 7 _ rfl rfl) (bx hrb 1 rfl)) rfl ⟨fun _ => hM1, fun h => absurd (h7.symm.trans h) (by decide)⟩, fun h => by rw [wanted_none rfl] at h; cases h⟩
    | 9, ho, hl, D, DL, hB =>
     obtain rfl := Option.some.inj ho
     clear ho
     have h7 : ls9 12 = false := by
      cases h9 : ls9 12 with
      | false => rfl
      | true => exact absurd (hl.symm.trans (DL2 10 9 rfl (DL2 11 10 rfl (DL2 12 11 rfl h9)))) (by decide)
     have hM1 := hM.1 h7
     have hrb := hM1.obj hrb id
     have hts := srcAt.fr hts hM1 (fun r hr => id)
     have hR0 := RdS.fr hR0 hM1 (fun r hr => id)
     have hrow159 := fun j u hu => hM1.cell (hrow159 j u hu) id
     exact ⟨fun _ => valx rfl (run_index34 (i := i) rfl ((D 4 _ rfl rfl).trans (by rw [hpe159])) (D 8 _ rfl rfl) hlt) rfl ⟨fun _ => hM1, fun h => absurd (h7.symm.trans h) (by decide)⟩, fun h => by rw [wanted_none rfl] at h; cases h⟩
    | 10, ho, hl, D, DL, hB =>
     obtain rfl := Option.some.inj ho
     clear ho
     have h7 : ls9 12 = false := by
      cases h9 : ls9 12 with
      | false => rfl
      | true => exact absurd (hl.symm.trans (DL2 11 10 rfl (DL2 12 11 rfl h9))) (by decide)
     have hM1 := hM.1 h7
     have hrb := hM1.obj hrb id
     have hts := srcAt.fr hts hM1 (fun r hr => id)
     have hR0 := RdS.fr hR0 hM1 (fun r hr => id)
     have hrow159 := fun j u hu => hM1.cell (hrow159 j u hu) id
     exact ⟨fun _ => valx rfl (fa38_2 rfl (D 9 _ rfl rfl)) rfl ⟨fun _ => hM1, fun h => absurd (h7.symm.trans h) (by decide)⟩, fun h => by rw [wanted_none rfl] at h; cases h⟩
    | 11, ho, hl, D, DL, hB =>
     obtain rfl := Option.some.inj ho
     clear ho
     have h7 : ls9 12 = false := by
      cases h9 : ls9 12 with
      | false => rfl
      | true => exact absurd (hl.symm.trans (DL2 12 11 rfl h9)) (by decide)
     have hM1 := hM.1 h7
     have hrb := hM1.obj hrb id
     have hts := srcAt.fr hts hM1 (fun r hr => id)
     have hR0 := RdS.fr hR0 hM1 (fun r hr => id)
     have hrow159 := fun j u hu => hM1.cell (hrow159 j u hu) id
     exact ⟨fun _ => valx rfl (run_ldi rfl (D 10 _ rfl rfl) (hrow159 2 _ rfl)) rfl ⟨fun _ => hM1, fun h => absurd (h7.symm.trans h) (by decide)⟩, fun h => by rw [wanted_none rfl] at h; cases h⟩
    | 12, ho, hl, D, DL, hB =>
     obtain rfl := Option.some.inj ho
     clear ho
     have hM1 := hM.1 hl
     have hrb := hM1.obj hrb id
     have hts := srcAt.fr hts hM1 (fun r hr => id)
     have hR0 := RdS.fr hR0 hM1 (fun r hr => id)
     have hrow159 := fun j u hu => hM1.cell (hrow159 j u hu) id
     exact ⟨fun _ => callx rfl (run_call3 (enters_of Tryz.func41 (by kernel_rfl) rfl) rfl rfl (D 0 _ rfl rfl) rfl (D 11 _ rfl rfl)) (raise_calls hR0 5 t.2.2) rfl fun w9 f1 => ⟨fun h => (by simp at h), fun _ => ⟨(hM1.mono (fun _ _ h => h.elim)).trans f1.1, f1.2⟩⟩, fun h => by rw [wanted_none rfl] at h; cases h⟩
    | j9 + 13, ho, hl, D, DL, hB => exact absurd ho (by simp)
   ·rintro _ a w5 E V hM
    clear V
    have hM := hM.2 rfl
    have hf := hf.trans hM.1
    have hR2 := hM.2
    refine (ret_nil rfl E ⟨rfl, hf, ?_⟩).1
    rw [hdt]
    exact hR2
  | true =>
   rw [hq158] at E
   have hnil : ts.drop i = [] := List.drop_eq_nil_of_le (by have := of_decide_eq_true hq158; omega)
   refine c_t E.g0 (r_ (ep E rfl (m_ rfl E.g1) fun a E => ep E rfl (m_ rfl E.g2) fun a E => ep E rfl (i_ rfl E.g0) fun a E => ep (v := .pointer (some ⟨rb, 2, none⟩)) E rfl (fa62_2 rfl E.g0) fun a E => ep (v := .int .i64 en) E rfl (run_ldi rfl E.g0 (bx hrb 2 rfl)) fun a E => env_callv (d := 17) (R := fun u w8 => u = .tuple #[] ∧ Fr (fun r => r = rb) w5 w8 ∧ RdS w8 rb G en ts i (firstE e x (6, en)).1 (firstE e x (6, en)).2) E rfl (by decide) rfl (wanted_none rfl _) (run_call3 (enters_of Tryz.func41 (by kernel_rfl) rfl) rfl rfl E.g4 rfl E.g0) ((raise_calls hR0 6 en).mono fun e w8 h => ⟨_, h.1, rfl, h.2⟩) fun a w1 u ⟨hu, f1, hR2⟩ E => ?_))
   subst hu
   have hf := hf.trans f1
   refine n_ ((ret_nil rfl E ⟨rfl, hf, ?_⟩).1)
   rw [hnil]
   exact hR2
set_option maxRecDepth 100000 in
set_option maxHeartbeats 4000000 in
theorem seesR_calls {w : World} {rb G : Nat} {en : Int} {ts : List (Tok Int)} {i : Nat} {e x : Int} (hR : RdS w rb G en ts i e x) (s : Bys) : Calls Tryz.prog 36 #[.pointer (some ⟨rb, 0, none⟩), .string (ofL s)] w fun e' w' => e' = .returned (.bool (seesR s (ts.drop i))) ∧ Fr (fun _ => False) w w' := by
 have hR0 := hR
 obtain ⟨hGr, lv, hrb, htkS⟩ := hR
 obtain ⟨pl, cl, hlv, hlv0, hlv1, hts, hzl⟩ := htkS
 subst hlv
 have hrl := lt_of_blk hrb
 refine wp_start2 Tryz.func36 rfl rfl (n := 44) (by decide) fun a E => ?_
 have hf : Fr (fun _ => False) w w := Fr.refl _ _
 have hf : Fr (fun r => r = rb) w w := Fr.refl _ _
 have hf9 : Fr (fun _ => False) w w := Fr.refl _ _
 refine s_ (r_ (ep (v := .bool false) E rfl (a_ rfl rfl) fun a E => n_ (t_ (s_ ?_))))
 cases hq160 : (decide ((i : Int) < (ts.length : Int))) with
 | false =>
  have hnil : ts.drop i = [] := List.drop_eq_nil_of_le (by have := of_decide_eq_false hq160; omega)
  refine wp_region_invx (G := Unit) () (n := 44) (base := [(0, .pointer (some ⟨rb, 0, none⟩)), (1, .string (ofL s))]) (U := [(4, .bool false, 39)]) (T := fun γ => [some (5, .pointer (some ⟨rb, 0, none⟩)), some (6, .pointer (some ⟨rb, 0, none⟩)), some (7, .pointer (some ⟨rb, 1, none⟩)), some (8, .int .i64 (i : Int)), some (9, .pointer (some ⟨rb, 0, none⟩)), some (10, .pointer (some ⟨rb, 0, none⟩)), some (11, .pointer (some ⟨rb, 0, none⟩)), some (12, .slice (pl) ts.length cl), some (13, .int .i64 (ts.length : Int)), some (14, .bool false), some (15, .bool false), some (16, undef), some (17, undef), some (18, undef), some (19, undef), some (20, undef), some (21, undef), some (22, undef), some (23, undef), some (24, undef), some (25, undef), some (26, undef), some (27, undef), some (28, .bool false), some (29, .bool false), some (30, undef), some (31, undef), some (32, undef), some (33, undef), some (34, undef), some (35, undef), some (36, undef), some (37, undef), some (38, undef), some (39, undef), some (40, undef), some (41, undef), some (42, undef), some (43, .bool false), some (4, .bool false)]) (M := fun γ ls9 wm => Fr (fun _ => False) w wm) (by kernel_rfl) (by kernel_rfl) (fun _ => by kernel_rfl) (E.of ⟨E.g1, E.g2, trivial⟩) (fun x hx => by simp only [List.mem_cons, List.not_mem_nil, or_false] at hx; subst hx; exact E.g0) (Fr.refl _ _).drew ?_ ?_
  ·intro j9 o9 γ ls9 a w5 ho hl E D DL DL2 hB hM
   have hrb := hM.obj hrb id
   have hts := srcAt.fr hts hM (fun r hr => id)
   have hR0 := RdS.fr hR0 hM (fun r hr => id)
   match j9, ho, hl, D, DL, hB with
   | 0, ho, hl, D, DL, hB => exact z0_ ho (valx rfl (m_ rfl E.g0) rfl hM)
   | 1, ho, hl, D, DL, hB => exact z0_ ho (valx rfl (i_ rfl (D 0 _ rfl rfl)) rfl hM)
   | 2, ho, hl, D, DL, hB => exact z0_ ho (valx rfl (fa62_1 rfl (D 1 _ rfl rfl)) rfl hM)
   | 3, ho, hl, D, DL, hB => exact z0_ ho (valx rfl (run_ldi rfl (D 2 _ rfl rfl) (bx hrb 1 rfl)) rfl hM)
   | 4, ho, hl, D, DL, hB => exact z0_ ho (valx rfl (m_ rfl E.g0) rfl hM)
   | 5, ho, hl, D, DL, hB => exact z0_ ho (valx rfl (i_ rfl (D 4 _ rfl rfl)) rfl hM)
   | 6, ho, hl, D, DL, hB => exact z0_ ho (valx rfl (fa62_0 rfl (D 5 _ rfl rfl)) rfl hM)
   | 7, ho, hl, D, DL, hB => exact z0_ ho (valx rfl (run_ld34 rfl (D 6 _ rfl rfl) (bx hrb 0 rfl)) rfl hM)
   | 8, ho, hl, D, DL, hB => exact z0_ ho (valx rfl (run_len34 rfl (D 7 _ rfl rfl)) rfl hM)
   | 9, ho, hl, D, DL, hB => exact z0_ ho (valx rfl ((run_ilss (D 3 _ rfl rfl) (D 8 _ rfl rfl) Tryz.underlying3 rfl).trans (by rw [hq160] <;> rfl)) rfl hM)
   | 10, ho, hl, D, DL, hB => exact z0_ ho (valx rfl (m_ rfl (D 9 _ rfl rfl)) rfl hM)
   | 11, ho, hl, D, DL, hB => exact z2_ ho E (D 10 _ rfl rfl) (fun x hx => by cases hx; rfl) hM
   | 12, ho, hl, D, DL, hB => exact z2_ ho E (D 10 _ rfl rfl) (fun x hx => by cases hx; rfl) hM
   | 13, ho, hl, D, DL, hB => exact z2_ ho E (D 10 _ rfl rfl) (fun x hx => by cases hx; rfl) hM
   | 14, ho, hl, D, DL, hB => exact z2_ ho E (D 10 _ rfl rfl) (fun x hx => by cases hx; rfl) hM
   | 15, ho, hl, D, DL, hB => exact z2_ ho E (D 10 _ rfl rfl) (fun x hx => by cases hx; rfl) hM
   | 16, ho, hl, D, DL, hB => exact z2_ ho E (D 10 _ rfl rfl) (fun x hx => by cases hx; rfl) hM
   | 17, ho, hl, D, DL, hB => exact z2_ ho E (D 10 _ rfl rfl) (fun x hx => by cases hx; rfl) hM
   | 18, ho, hl, D, DL, hB => exact z2_ ho E (D 10 _ rfl rfl) (fun x hx => by cases hx; rfl) hM
   | 19, ho, hl, D, DL, hB => exact z2_ ho E (D 10 _ rfl rfl) (fun x hx => by cases hx; rfl) hM
   | 20, ho, hl, D, DL, hB => exact z2_ ho E (D 10 _ rfl rfl) (fun x hx => by cases hx; rfl) hM
   | 21, ho, hl, D, DL, hB => exact z2_ ho E (D 10 _ rfl rfl) (fun x hx => by cases hx; rfl) hM
   | 22, ho, hl, D, DL, hB => exact z2_ ho E (D 10 _ rfl rfl) (fun x hx => by cases hx; rfl) hM
   | 23, ho, hl, D, DL, hB => exact z0_ ho (valx rfl (run_pick_f rfl (D 10 _ rfl rfl) rfl) rfl hM)
   | 24, ho, hl, D, DL, hB => exact z0_ ho (valx rfl (m_ rfl (D 23 _ rfl rfl)) rfl hM)
   | 25, ho, hl, D, DL, hB => exact z2_ ho E (D 24 _ rfl rfl) (fun x hx => by cases hx; rfl) hM
   | 26, ho, hl, D, DL, hB => exact z2_ ho E (D 24 _ rfl rfl) (fun x hx => by cases hx; rfl) hM
   | 27, ho, hl, D, DL, hB => exact z2_ ho E (D 24 _ rfl rfl) (fun x hx => by cases hx; rfl) hM
   | 28, ho, hl, D, DL, hB => exact z2_ ho E (D 24 _ rfl rfl) (fun x hx => by cases hx; rfl) hM
   | 29, ho, hl, D, DL, hB => exact z2_ ho E (D 24 _ rfl rfl) (fun x hx => by cases hx; rfl) hM
   | 30, ho, hl, D, DL, hB => exact z2_ ho E (D 24 _ rfl rfl) (fun x hx => by cases hx; rfl) hM
   | 31, ho, hl, D, DL, hB => exact z2_ ho E (D 24 _ rfl rfl) (fun x hx => by cases hx; rfl) hM
   | 32, ho, hl, D, DL, hB => exact z2_ ho E (D 24 _ rfl rfl) (fun x hx => by cases hx; rfl) hM
   | 33, ho, hl, D, DL, hB => exact z2_ ho E (D 24 _ rfl rfl) (fun x hx => by cases hx; rfl) hM
   | 34, ho, hl, D, DL, hB => exact z2_ ho E (D 24 _ rfl rfl) (fun x hx => by cases hx; rfl) hM
   | 35, ho, hl, D, DL, hB => exact z2_ ho E (D 24 _ rfl rfl) (fun x hx => by cases hx; rfl) hM
   | 36, ho, hl, D, DL, hB => exact z2_ ho E (D 24 _ rfl rfl) (fun x hx => by cases hx; rfl) hM
   | 37, ho, hl, D, DL, hB => exact z2_ ho E (D 24 _ rfl rfl) (fun x hx => by cases hx; rfl) hM
   | 38, ho, hl, D, DL, hB => exact z0_ ho (valx rfl (run_pick_f rfl (D 24 _ rfl rfl) rfl) rfl hM)
   | 39, ho, hl, D, DL, hB => exact z0_ ho (valx rfl (a_ rfl (D 38 _ rfl rfl)) rfl hM)
   | j9 + 40, ho, hl, D, DL, hB => exact absurd ho (by simp)
  ·rintro _ a w5 E V hM
   have E := E.add (v := .bool false) (V 39 _ rfl)
   clear V
   have hrb := hM.obj hrb id
   have hts := srcAt.fr hts hM (fun r hr => id)
   have hR0 := RdS.fr hR0 hM (fun r hr => id)
   have hf9 := hf9.trans' hM (fun _ _ h => h.elim)
   clear hM
   refine t_ (wr_ (ret_tmp (t := 4) rfl E E.g0 ⟨?_, hf9⟩))
   rw [hnil]; rfl
 | true =>
  have hlt : i < ts.length := by have := of_decide_eq_true hq160; omega
  obtain ⟨t, ht⟩ : ∃ y, ts[i]? = some y := ⟨_, List.getElem?_eq_getElem hlt⟩
  obtain ⟨g162, off162, hpe162, hgl162, hrow162⟩ := hts.at hlt
  replace hrow162 := hrow162 i t ht
  have hdt := drop_tok ht
  cases hq163 : (t.1 != 3) with
  | false =>
   refine wp_region_invx (G := Unit) () (n := 44) (base := [(0, .pointer (some ⟨rb, 0, none⟩)), (1, .string (ofL s))]) (U := [(4, .bool false, 39)]) (T := fun γ => [some (5, .pointer (some ⟨rb, 0, none⟩)), some (6, .pointer (some ⟨rb, 0, none⟩)), some (7, .pointer (some ⟨rb, 1, none⟩)), some (8, .int .i64 (i : Int)), some (9, .pointer (some ⟨rb, 0, none⟩)), some (10, .pointer (some ⟨rb, 0, none⟩)), some (11, .pointer (some ⟨rb, 0, none⟩)), some (12, .slice (pl) ts.length cl), some (13, .int .i64 (ts.length : Int)), some (14, .bool true), some (15, .bool true), some (16, .pointer (some ⟨rb, 0, none⟩)), some (17, .pointer (some ⟨rb, 0, none⟩)), some (18, .pointer (some ⟨rb, 0, none⟩)), some (19, .slice (pl) ts.length cl), some (20, .pointer (some ⟨rb, 0, none⟩)), some (21, .pointer (some ⟨rb, 0, none⟩)), some (22, .pointer (some ⟨rb, 1, none⟩)), some (23, .int .i64 (i : Int)), some (24, .pointer (some ⟨g162, (off162 + i * 3), none⟩)), some (25, .pointer (some ⟨g162, ((off162 + i * 3) + 0), none⟩)), some (26, .int .i64 t.1), some (27, .bool false), some (28, .bool false), some (29, .bool false), some (30, undef), some (31, undef), some (32, undef), some (33, undef), some (34, undef), some (35, undef), some (36, undef), some (37, undef), some (38, undef), some (39, undef), some (40, undef), some (41, undef), some (42, undef), some (43, .bool false), some (4, .bool false)]) (M := fun γ ls9 wm => Fr (fun _ => False) w wm) (by kernel_rfl) (by kernel_rfl) (fun _ => by kernel_rfl) (E.of ⟨E.g1, E.g2, trivial⟩) (fun x hx => by simp only [List.mem_cons, List.not_mem_nil, or_false] at hx; subst hx; exact E.g0) (Fr.refl _ _).drew ?_ ?_
   ·intro j9 o9 γ ls9 a w5 ho hl E D DL DL2 hB hM
    have hrb := hM.obj hrb id
    have hts := srcAt.fr hts hM (fun r hr => id)
    have hR0 := RdS.fr hR0 hM (fun r hr => id)
    have hrow162 := fun j u hu => hM.cell (hrow162 j u hu) id
    match j9, ho, hl, D, DL, hB with
    | 0, ho, hl, D, DL, hB => exact z0_ ho (valx rfl (m_ rfl E.g0) rfl hM)
    | 1, ho, hl, D, DL, hB => exact z0_ ho (valx rfl (i_ rfl (D 0 _ rfl rfl)) rfl hM)
    | 2, ho, hl, D, DL, hB => exact z0_ ho (valx rfl (fa62_1 rfl (D 1 _ rfl rfl)) rfl hM)
    | 3, ho, hl, D, DL, hB => exact z0_ ho (valx rfl (run_ldi rfl (D 2 _ rfl rfl) (bx hrb 1 rfl)) rfl hM)
    | 4, ho, hl, D, DL, hB => exact z0_ ho (valx rfl (m_ rfl E.g0) rfl hM)
    | 5, ho, hl, D, DL, hB => exact z0_ ho (valx rfl (i_ rfl (D 4 _ rfl rfl)) rfl hM)
    | 6, ho, hl, D, DL, hB => exact z0_ ho (valx rfl (fa62_0 rfl (D 5 _ rfl rfl)) rfl hM)
    | 7, ho, hl, D, DL, hB => exact z0_ ho (valx rfl (run_ld34 rfl (D 6 _ rfl rfl) (bx hrb 0 rfl)) rfl hM)
    | 8, ho, hl, D, DL, hB => exact z0_ ho (valx rfl (run_len34 rfl (D 7 _ rfl rfl)) rfl hM)
    | 9, ho, hl, D, DL, hB => exact z0_ ho (valx rfl ((run_ilss (D 3 _ rfl rfl) (D 8 _ rfl rfl) Tryz.underlying3 rfl).trans (by rw [hq160] <;> rfl)) rfl hM)
    | 10, ho, hl, D, DL, hB => exact z0_ ho (valx rfl (m_ rfl (D 9 _ rfl rfl)) rfl hM)
    | 11, ho, hl, D, DL, hB => exact z1_ ho E (D 10 _ rfl rfl) (valx rfl (m_ rfl E.g0) rfl hM)
    | 12, ho, hl, D, DL, hB => exact z1_ ho E (D 10 _ rfl rfl) (valx rfl (i_ rfl (D 11 _ rfl rfl)) rfl hM)
    | 13, ho, hl, D, DL, hB => exact z1_ ho E (D 10 _ rfl rfl) (valx rfl (fa62_0 rfl (D 12 _ rfl rfl)) rfl hM)
    | 14, ho, hl, D, DL, hB => exact z1_ ho E (D 10 _ rfl rfl) (valx rfl (run_ld34 rfl (D 13 _ rfl rfl) (bx hrb 0 rfl)) rfl hM)
    | 15, ho, hl, D, DL, hB => exact z1_ ho E (D 10 _ rfl rfl) (valx rfl (m_ rfl E.g0) rfl hM)
    | 16, ho, hl, D, DL, hB => exact z1_ ho E (D 10 _ rfl rfl) (valx rfl (i_ rfl (D 15 _ rfl rfl)) rfl hM)
    | 17, ho, hl, D, DL, hB => exact z1_ ho E (D 10 _ rfl rfl) (valx rfl (fa62_1 rfl (D 16 _ rfl rfl)) rfl hM)
    | 18, ho, hl, D, DL, hB => exact z1_ ho E (D 10 _ rfl rfl) (valx rfl (run_ldi rfl (D 17 _ rfl rfl) (bx hrb 1 rfl)) rfl hM)
    | 19, ho, hl, D, DL, hB => exact z1_ ho E (D 10 _ rfl rfl) (valx rfl (run_index34 (i := i) rfl ((D 14 _ rfl rfl).trans (by rw [hpe162])) (D 18 _ rfl rfl) hlt) rfl hM)
    | 20, ho, hl, D, DL, hB => exact z1_ ho E (D 10 _ rfl rfl) (valx rfl (fa38_0 rfl (D 19 _ rfl rfl)) rfl hM)
    | 21, ho, hl, D, DL, hB => exact z1_ ho E (D 10 _ rfl rfl) (valx rfl (run_ldi rfl (D 20 _ rfl rfl) (hrow162 0 _ rfl)) rfl hM)
    | 22, ho, hl, D, DL, hB => exact z1_ ho E (D 10 _ rfl rfl) (valx rfl ((run_ineq (D 21 _ rfl rfl) rfl Tryz.underlying3 rfl).trans (by rw [hq163] <;> rfl)) rfl hM)
    | 23, ho, hl, D, DL, hB => exact z0_ ho (valx rfl (run_pick_t rfl (D 10 _ rfl rfl) (D 22 _ rfl rfl)) rfl hM)
    | 24, ho, hl, D, DL, hB => exact z0_ ho (valx rfl (m_ rfl (D 23 _ rfl rfl)) rfl hM)
    | 25, ho, hl, D, DL, hB => exact z2_ ho E (D 24 _ rfl rfl) (fun x hx => by cases hx; rfl) hM
    | 26, ho, hl, D, DL, hB => exact z2_ ho E (D 24 _ rfl rfl) (fun x hx => by cases hx; rfl) hM
    | 27, ho, hl, D, DL, hB => exact z2_ ho E (D 24 _ rfl rfl) (fun x hx => by cases hx; rfl) hM
    | 28, ho, hl, D, DL, hB => exact z2_ ho E (D 24 _ rfl rfl) (fun x hx => by cases hx; rfl) hM
    | 29, ho, hl, D, DL, hB => exact z2_ ho E (D 24 _ rfl rfl) (fun x hx => by cases hx; rfl) hM
    | 30, ho, hl, D, DL, hB => exact z2_ ho E (D 24 _ rfl rfl) (fun x hx => by cases hx; rfl) hM
    | 31, ho, hl, D, DL, hB => exact z2_ ho E (D 24 _ rfl rfl) (fun x hx => by cases hx; rfl) hM
    | 32, ho, hl, D, DL, hB => exact z2_ ho E (D 24 _ rfl rfl) (fun x hx => by cases hx; rfl) hM
    | 33, ho, hl, D, DL, hB => exact z2_ ho E (D 24 _ rfl rfl) (fun x hx => by cases hx; rfl) hM
    | 34, ho, hl, D, DL, hB => exact z2_ ho E (D 24 _ rfl rfl) (fun x hx => by cases hx; rfl) hM
    | 35, ho, hl, D, DL, hB => exact z2_ ho E (D 24 _ rfl rfl) (fun x hx => by cases hx; rfl) hM
    | 36, ho, hl, D, DL, hB => exact z2_ ho E (D 24 _ rfl rfl) (fun x hx => by cases hx; rfl) hM
    | 37, ho, hl, D, DL, hB => exact z2_ ho E (D 24 _ rfl rfl) (fun x hx => by cases hx; rfl) hM
    | 38, ho, hl, D, DL, hB => exact z0_ ho (valx rfl (run_pick_f rfl (D 24 _ rfl rfl) rfl) rfl hM)
    | 39, ho, hl, D, DL, hB => exact z0_ ho (valx rfl (a_ rfl (D 38 _ rfl rfl)) rfl hM)
    | j9 + 40, ho, hl, D, DL, hB => exact absurd ho (by simp)
   ·rintro _ a w5 E V hM
    have E := E.add (v := .bool false) (V 39 _ rfl)
    clear V
    have hrb := hM.obj hrb id
    have hts := srcAt.fr hts hM (fun r hr => id)
    have hR0 := RdS.fr hR0 hM (fun r hr => id)
    have hrow162 := fun j u hu => hM.cell (hrow162 j u hu) id
    have hf9 := hf9.trans' hM (fun _ _ h => h.elim)
    clear hM
    refine t_ (wr_ (ret_tmp (t := 4) rfl E E.g0 ⟨?_, hf9⟩))
    rw [hdt, show seesR s (t :: ts.drop (i + 1)) = (t.1 != 3 && t.2.1 == s) from rfl]
    try rw [hq163]
    try rfl
    try simp
  | true =>
   refine wp_region_invx (G := Unit) () (n := 44) (base := [(0, .pointer (some ⟨rb, 0, none⟩)), (1, .string (ofL s))]) (U := [(4, .bool false, 39)]) (T := fun γ => [some (5, .pointer (some ⟨rb, 0, none⟩)), some (6, .pointer (some ⟨rb, 0, none⟩)), some (7, .pointer (some ⟨rb, 1, none⟩)), some (8, .int .i64 (i : Int)), some (9, .pointer (some ⟨rb, 0, none⟩)), some (10, .pointer (some ⟨rb, 0, none⟩)), some (11, .pointer (some ⟨rb, 0, none⟩)), some (12, .slice (pl) ts.length cl), some (13, .int .i64 (ts.length : Int)), some (14, .bool true), some (15, .bool true), some (16, .pointer (some ⟨rb, 0, none⟩)), some (17, .pointer (some ⟨rb, 0, none⟩)), some (18, .pointer (some ⟨rb, 0, none⟩)), some (19, .slice (pl) ts.length cl), some (20, .pointer (some ⟨rb, 0, none⟩)), some (21, .pointer (some ⟨rb, 0, none⟩)), some (22, .pointer (some ⟨rb, 1, none⟩)), some (23, .int .i64 (i : Int)), some (24, .pointer (some ⟨g162, (off162 + i * 3), none⟩)), some (25, .pointer (some ⟨g162, ((off162 + i * 3) + 0), none⟩)), some (26, .int .i64 t.1), some (27, .bool true), some (28, .bool true), some (29, .bool true), some (30, .pointer (some ⟨rb, 0, none⟩)), some (31, .pointer (some ⟨rb, 0, none⟩)), some (32, .pointer (some ⟨rb, 0, none⟩)), some (33, .slice (pl) ts.length cl), some (34, .pointer (some ⟨rb, 0, none⟩)), some (35, .pointer (some ⟨rb, 0, none⟩)), some (36, .pointer (some ⟨rb, 1, none⟩)), some (37, .int .i64 (i : Int)), some (38, .pointer (some ⟨g162, (off162 + i * 3), none⟩)), some (39, .pointer (some ⟨g162, ((off162 + i * 3) + 1), none⟩)), some (40, .string (ofL t.2.1)), some (41, .string (ofL s)), some (42, .bool (t.2.1 == s)), some (43, .bool (t.2.1 == s)), some (4, .bool (t.2.1 == s))]) (M := fun γ ls9 wm => Fr (fun _ => False) w wm) (by kernel_rfl) (by kernel_rfl) (fun _ => by kernel_rfl) (E.of ⟨E.g1, E.g2, trivial⟩) (fun x hx => by simp only [List.mem_cons, List.not_mem_nil, or_false] at hx; subst hx; exact E.g0) (Fr.refl _ _).drew ?_ ?_
   ·intro j9 o9 γ ls9 a w5 ho hl E D DL DL2 hB hM
    have hrb := hM.obj hrb id
    have hts := srcAt.fr hts hM (fun r hr => id)
    have hR0 := RdS.fr hR0 hM (fun r hr => id)
    have hrow162 := fun j u hu => hM.cell (hrow162 j u hu) id
    match j9, ho, hl, D, DL, hB with
    | 0, ho, hl, D, DL, hB => exact z0_ ho (valx rfl (m_ rfl E.g0) rfl hM)
    | 1, ho, hl, D, DL, hB => exact z0_ ho (valx rfl (i_ rfl (D 0 _ rfl rfl)) rfl hM)
    | 2, ho, hl, D, DL, hB => exact z0_ ho (valx rfl (fa62_1 rfl (D 1 _ rfl rfl)) rfl hM)
    | 3, ho, hl, D, DL, hB => exact z0_ ho (valx rfl (run_ldi rfl (D 2 _ rfl rfl) (bx hrb 1 rfl)) rfl hM)
    | 4, ho, hl, D, DL, hB => exact z0_ ho (valx rfl (m_ rfl E.g0) rfl hM)
    | 5, ho, hl, D, DL, hB => exact z0_ ho (valx rfl (i_ rfl (D 4 _ rfl rfl)) rfl hM)
    | 6, ho, hl, D, DL, hB => exact z0_ ho (valx rfl (fa62_0 rfl (D 5 _ rfl rfl)) rfl hM)
    | 7, ho, hl, D, DL, hB => exact z0_ ho (valx rfl (run_ld34 rfl (D 6 _ rfl rfl) (bx hrb 0 rfl)) rfl hM)
    | 8, ho, hl, D, DL, hB => exact z0_ ho (valx rfl (run_len34 rfl (D 7 _ rfl rfl)) rfl hM)
    | 9, ho, hl, D, DL, hB => exact z0_ ho (valx rfl ((run_ilss (D 3 _ rfl rfl) (D 8 _ rfl rfl) Tryz.underlying3 rfl).trans (by rw [hq160] <;> rfl)) rfl hM)
    | 10, ho, hl, D, DL, hB => exact z0_ ho (valx rfl (m_ rfl (D 9 _ rfl rfl)) rfl hM)
    | 11, ho, hl, D, DL, hB => exact z1_ ho E (D 10 _ rfl rfl) (valx rfl (m_ rfl E.g0) rfl hM)
    | 12, ho, hl, D, DL, hB => exact z1_ ho E (D 10 _ rfl rfl) (valx rfl (i_ rfl (D 11 _ rfl rfl)) rfl hM)
    | 13, ho, hl, D, DL, hB => exact z1_ ho E (D 10 _ rfl rfl) (valx rfl (fa62_0 rfl (D 12 _ rfl rfl)) rfl hM)
    | 14, ho, hl, D, DL, hB => exact z1_ ho E (D 10 _ rfl rfl) (valx rfl (run_ld34 rfl (D 13 _ rfl rfl) (bx hrb 0 rfl)) rfl hM)
    | 15, ho, hl, D, DL, hB => exact z1_ ho E (D 10 _ rfl rfl) (valx rfl (m_ rfl E.g0) rfl hM)
    | 16, ho, hl, D, DL, hB => exact z1_ ho E (D 10 _ rfl rfl) (valx rfl (i_ rfl (D 15 _ rfl rfl)) rfl hM)
    | 17, ho, hl, D, DL, hB => exact z1_ ho E (D 10 _ rfl rfl) (valx rfl (fa62_1 rfl (D 16 _ rfl rfl)) rfl hM)
    | 18, ho, hl, D, DL, hB => exact z1_ ho E (D 10 _ rfl rfl) (valx rfl (run_ldi rfl (D 17 _ rfl rfl) (bx hrb 1 rfl)) rfl hM)
    | 19, ho, hl, D, DL, hB => exact z1_ ho E (D 10 _ rfl rfl) (valx rfl (run_index34 (i := i) rfl ((D 14 _ rfl rfl).trans (by rw [hpe162])) (D 18 _ rfl rfl) hlt) rfl hM)
    | 20, ho, hl, D, DL, hB => exact z1_ ho E (D 10 _ rfl rfl) (valx rfl (fa38_0 rfl (D 19 _ rfl rfl)) rfl hM)
    | 21, ho, hl, D, DL, hB => exact z1_ ho E (D 10 _ rfl rfl) (valx rfl (run_ldi rfl (D 20 _ rfl rfl) (hrow162 0 _ rfl)) rfl hM)
    | 22, ho, hl, D, DL, hB => exact z1_ ho E (D 10 _ rfl rfl) (valx rfl ((run_ineq (D 21 _ rfl rfl) rfl Tryz.underlying3 rfl).trans (by rw [hq163] <;> rfl)) rfl hM)
    | 23, ho, hl, D, DL, hB => exact z0_ ho (valx rfl (run_pick_t rfl (D 10 _ rfl rfl) (D 22 _ rfl rfl)) rfl hM)
    | 24, ho, hl, D, DL, hB => exact z0_ ho (valx rfl (m_ rfl (D 23 _ rfl rfl)) rfl hM)
    | 25, ho, hl, D, DL, hB => exact z1_ ho E (D 24 _ rfl rfl) (valx rfl (m_ rfl E.g0) rfl hM)
    | 26, ho, hl, D, DL, hB => exact z1_ ho E (D 24 _ rfl rfl) (valx rfl (i_ rfl (D 25 _ rfl rfl)) rfl hM)
    | 27, ho, hl, D, DL, hB => exact z1_ ho E (D 24 _ rfl rfl) (valx rfl (fa62_0 rfl (D 26 _ rfl rfl)) rfl hM)
    | 28, ho, hl, D, DL, hB => exact z1_ ho E (D 24 _ rfl rfl) (valx rfl (run_ld34 rfl (D 27 _ rfl rfl) (bx hrb 0 rfl)) rfl hM)
    | 29, ho, hl, D, DL, hB => exact z1_ ho E (D 24 _ rfl rfl) (valx rfl (m_ rfl E.g0) rfl hM)
    | 30, ho, hl, D, DL, hB => exact z1_ ho E (D 24 _ rfl rfl) (valx rfl (i_ rfl (D 29 _ rfl rfl)) rfl hM)
    | 31, ho, hl, D, DL, hB => exact z1_ ho E (D 24 _ rfl rfl) (valx rfl (fa62_1 rfl (D 30 _ rfl rfl)) rfl hM)
    | 32, ho, hl, D, DL, hB => exact z1_ ho E (D 24 _ rfl rfl) (valx rfl (run_ldi rfl (D 31 _ rfl rfl) (bx hrb 1 rfl)) rfl hM)
    | 33, ho, hl, D, DL, hB => exact z1_ ho E (D 24 _ rfl rfl) (valx rfl (run_index34 (i := i) rfl ((D 28 _ rfl rfl).trans (by rw [hpe162])) (D 32 _ rfl rfl) hlt) rfl hM)
    | 34, ho, hl, D, DL, hB => exact z1_ ho E (D 24 _ rfl rfl) (valx rfl (fa38_1 rfl (D 33 _ rfl rfl)) rfl hM)
    | 35, ho, hl, D, DL, hB => exact z1_ ho E (D 24 _ rfl rfl) (valx rfl (run_lds rfl (D 34 _ rfl rfl) (hrow162 1 _ rfl)) rfl hM)
    | 36, ho, hl, D, DL, hB => exact z1_ ho E (D 24 _ rfl rfl) (valx rfl (m_ rfl E.g1) rfl hM)
    | 37, ho, hl, D, DL, hB => exact z1_ ho E (D 24 _ rfl rfl) (valx rfl (run_seq (D 35 _ rfl rfl) (D 36 _ rfl rfl) rfl) rfl hM)
    | 38, ho, hl, D, DL, hB => exact z0_ ho (valx rfl (run_pick_t rfl (D 24 _ rfl rfl) (D 37 _ rfl rfl)) rfl hM)
    | 39, ho, hl, D, DL, hB => exact z0_ ho (valx rfl (a_ rfl (D 38 _ rfl rfl)) rfl hM)
    | j9 + 40, ho, hl, D, DL, hB => exact absurd ho (by simp)
   ·rintro _ a w5 E V hM
    have E := E.add (v := .bool (t.2.1 == s)) (V 39 _ rfl)
    clear V
    have hrb := hM.obj hrb id
    have hts := srcAt.fr hts hM (fun r hr => id)
    have hR0 := RdS.fr hR0 hM (fun r hr => id)
    have hrow162 := fun j u hu => hM.cell (hrow162 j u hu) id
    have hf9 := hf9.trans' hM (fun _ _ h => h.elim)
    clear hM
    refine t_ (wr_ (ret_tmp (t := 4) rfl E E.g0 ⟨?_, hf9⟩))
    rw [hdt, show seesR s (t :: ts.drop (i + 1)) = (t.1 != 3 && t.2.1 == s) from rfl]
    try rw [hq163]
    try rfl
    try simp
end Go.Proofs.YtjaffpnegdcjnaaGreatDoor
/- The reference reader: must. -/
set_option linter.unusedVariables false
set_option linter.unusedSimpArgs false
namespace Go.Proofs.YtjaffpnegdcjnaaGreatDoor
open Go.RowKit Go.Pl
/-- What must leaves as the first error. -/
def mustE (en : Int) (s : Bys) (ts : List (Tok Int)) (e x : Int) : Int × Int := if e = 0 ∧ seesR s ts = false then failP en ts else (e, x)
/-- What number answers: the token, where the reader stands, its first error. -/
def numR (en : Int) (ts : List (Tok Int)) (i : Nat) (e x : Int) : Tok Int × Nat × Int × Int :=
 if e = 0 then (match ts.drop i with | [] => ((0, [], 0), i, 6, en) | t :: _ => if t.1 = 2 then (t, i + 1, e, x) else ((0, [], 0), i, 5, t.2.2)) else ((0, [], 0), i, e, x)
set_option maxRecDepth 100000 in
set_option maxHeartbeats 4000000 in
theorem must_calls {w : World} {rb G : Nat} {en : Int} {ts : List (Tok Int)} {i : Nat} {e x : Int} (hR : RdS w rb G en ts i e x) (hi : i ≤ 1000000) (s : Bys) : Calls Tryz.prog 65 #[.pointer (some ⟨rb, 0, none⟩), .string (ofL s)] w fun e' w' => e' = .returned (.tuple #[]) ∧ Fr (fun r => r = rb) w w' ∧ RdS w' rb G en ts (i + 1) ((mustE en s (ts.drop i) e x).1) ((mustE en s (ts.drop i) e x).2) := by
 have hR0 := hR
 obtain ⟨hGr, lv, hrb, htkS⟩ := hR
 obtain ⟨pl, cl, hlv, hlv0, hlv1, hts, hzl⟩ := htkS
 subst hlv
 have hrl := lt_of_blk hrb
 refine wp_start2 Tryz.func65 rfl rfl (n := 24) (by decide) fun a E => ?_
 have hf : Fr (fun _ => False) w w := Fr.refl _ _
 have hf : Fr (fun r => r = rb) w w := Fr.refl _ _
 refine s_ (s_ (r_ (ep E rfl (m_ rfl E.g0) fun a E => ep E rfl (i_ rfl E.g0) fun a E => ep (v := .pointer (some ⟨rb, 3, none⟩)) E rfl (fa62_3 rfl E.g0) fun a E => ep (v := .int .i64 e) E rfl (run_lde rfl E.g0 (bx hrb 3 rfl)) fun a E => ep (v := .bool (e == 0)) E rfl (run_ieql E.g0 rfl Tryz.underlying25 rfl) fun a E => ep E rfl (m_ rfl E.g0) fun a E => ?_)))
 cases hq156 : (e == 0) with
 | false =>
  rw [hq156] at E
  refine ek E rfl rfl E.g0 fun a E => ek E rfl rfl E.g1 fun a E => ek E rfl rfl E.g2 fun a E => ek E rfl rfl E.g3 fun a E => ep (v := .bool false) E rfl (run_pick_f rfl E.g4 rfl) fun a E => n_ (t_ (c_f E.g0 (k_ (t_ (r_ (ep E rfl (m_ rfl E.g11) fun a E => ep E rfl (i_ rfl E.g0) fun a E => ep (v := .pointer (some ⟨rb, 1, none⟩)) E rfl (fa62_1 rfl E.g0) fun a E => ep (v := .int .i64 (i : Int)) E rfl (run_ldi rfl E.g0 (bx hrb 1 rfl)) fun a E => ep (v := .int .i64 ((i : Int) + 1)) E rfl (run_iadd Tryz.underlying3 E.g0 rfl (by omega) (by omega) rfl) fun a E => ep E rfl (i_ rfl E.g4) fun a E => ep (v := .pointer (some ⟨rb, 1, none⟩)) E rfl (fa62_1 rfl E.g0) fun a E => env_st1 (j := 1) E rfl (wanted_none rfl _) hrb (run_st3 rfl E.g0 E.g2 (bx hrb 1 rfl) (free_of_blk hrb 1)) fun w1 hrbn f1 E => ?_))))))
  replace hrbn : w1.heap[rb]? = some (.cells #[.slice (pl) ts.length cl, .int .i64 ((i : Int) + 1), .int .i64 en, .int .i64 e, .int .i64 x] 62 (0, 0)) := hrbn
  have hts := srcAt.fr hts f1 (fun _ hr => nq_)
  have hf := hf.trans' f1 (fun _ hr => nq_)
  clear f1
  replace hrb := hrbn
  refine n_ ?_
  have he : ¬ e = 0 := beq_eq_false_iff_ne.1 hq156
  have hq : mustE en s (ts.drop i) e x = (e, x) := if_neg (fun h => he h.1)
  refine (ret_nil rfl E ⟨rfl, hf, ?_⟩).1
  rw [hq]
  exact ⟨hGr, _, hrb, ⟨pl, cl, rfl, hlv0, hlv1, hts, hzl⟩⟩
 | true =>
  rw [hq156] at E
  refine eg E rfl (wy_ E E.g0) (m_ rfl E.g6) fun a E => eg E rfl (wy_ E E.g1) (m_ rfl E.g8) fun a E => env_call (d := 12) (v := .bool (seesR s (ts.drop i))) E rfl (by decide) rfl (wy_ E E.g2) (run_call2 (enters_of Tryz.func36 (by kernel_rfl) rfl) rfl rfl E.g1 E.g0) (seesR_calls hR0 s) fun a w1 f1 E => ?_
  have hrb := f1.obj hrb id
  have hts := srcAt.fr hts f1 (fun r hr => id)
  have hR0 := RdS.fr hR0 f1 (fun r hr => id)
  have hf := hf.trans' f1 (fun _ _ h => h.elim)
  clear f1
  refine eg (v := .bool (!(seesR s (ts.drop i)))) E rfl (wy_ E E.g3) (run_not rfl E.g0) fun a E => ep (v := .bool (!(seesR s (ts.drop i)))) E rfl (run_pick_t rfl E.g4 E.g0) fun a E => n_ (t_ ?_)
  cases hq157 : (seesR s (ts.drop i)) with
  | false =>
   rw [hq157] at E
   refine c_t E.g0 (r_ (ep E rfl (m_ rfl E.g11) fun a E => env_callv (d := 16) (R := fun u w8 => u = .tuple #[] ∧ Fr (fun r => r = rb) w1 w8 ∧ RdS w8 rb G en ts i (firstE e x (failP en (ts.drop i))).1 (firstE e x (failP en (ts.drop i))).2) E rfl (by decide) rfl (wanted_none rfl _) (run_call1 (enters_of Tryz.func39 (by kernel_rfl) rfl) rfl rfl E.g0) ((fail_calls hR0).mono fun e w8 h => ⟨_, h.1, rfl, h.2⟩) fun a w1 u ⟨hu, f1, hR2⟩ E => ?_))
   subst hu
   have hf := hf.trans f1
   clear f1
   have hR0 := hR2
   obtain ⟨hGr, lv, hrb, htkS⟩ := hR2
   obtain ⟨pl, cl, hlv, hlv0, hlv1, hts, hzl⟩ := htkS
   subst hlv
   refine n_ (t_ (r_ (ep E rfl (m_ rfl E.g13) fun a E => ep E rfl (i_ rfl E.g0) fun a E => ep (v := .pointer (some ⟨rb, 1, none⟩)) E rfl (fa62_1 rfl E.g0) fun a E => ep (v := .int .i64 (i : Int)) E rfl (run_ldi rfl E.g0 (bx hrb 1 rfl)) fun a E => ep (v := .int .i64 ((i : Int) + 1)) E rfl (run_iadd Tryz.underlying3 E.g0 rfl (by omega) (by omega) rfl) fun a E => ep E rfl (i_ rfl E.g4) fun a E => ep (v := .pointer (some ⟨rb, 1, none⟩)) E rfl (fa62_1 rfl E.g0) fun a E => env_st1 (j := 1) E rfl (wanted_none rfl _) hrb (run_st3 rfl E.g0 E.g2 (bx hrb 1 rfl) (free_of_blk hrb 1)) fun w1 hrbn f1 E => ?_)))
   replace hrbn : w1.heap[rb]? = some (.cells #[.slice (pl) ts.length cl, .int .i64 ((i : Int) + 1), .int .i64 en, .int .i64 (firstE e x (failP en (ts.drop i))).1, .int .i64 (firstE e x (failP en (ts.drop i))).2] 62 (0, 0)) := hrbn
   have hts := srcAt.fr hts f1 (fun _ hr => nq_)
   have hf := hf.trans' f1 (fun _ hr => nq_)
   clear f1
   replace hrb := hrbn
   refine n_ ?_
   have he : e = 0 := beq_iff_eq.1 hq156
   have hq : mustE en s (ts.drop i) e x = failP en (ts.drop i) := if_pos ⟨he, hq157⟩
   have hq2 : firstE e x (failP en (ts.drop i)) = failP en (ts.drop i) := if_pos he
   rw [hq2] at hrb
   refine (ret_nil rfl E ⟨rfl, hf, ?_⟩).1
   rw [hq]
   exact ⟨hGr, _, hrb, ⟨pl, cl, rfl, hlv0, hlv1, hts, hzl⟩⟩
  | true =>
   rw [hq157] at E
   refine c_f E.g0 (k_ (t_ (r_ (ep E rfl (m_ rfl E.g11) fun a E => ep E rfl (i_ rfl E.g0) fun a E => ep (v := .pointer (some ⟨rb, 1, none⟩)) E rfl (fa62_1 rfl E.g0) fun a E => ep (v := .int .i64 (i : Int)) E rfl (run_ldi rfl E.g0 (bx hrb 1 rfl)) fun a E => ep (v := .int .i64 ((i : Int) + 1)) E rfl (run_iadd Tryz.underlying3 E.g0 rfl (by omega) (by omega) rfl) fun a E => ep E rfl (i_ rfl E.g4) fun a E => ep (v := .pointer (some ⟨rb, 1, none⟩)) E rfl (fa62_1 rfl E.g0) fun a E => env_st1 (j := 1) E rfl (wanted_none rfl _) hrb (run_st3 rfl E.g0 E.g2 (bx hrb 1 rfl) (free_of_blk hrb 1)) fun w1 hrbn f1 E => ?_))))
   replace hrbn : w1.heap[rb]? = some (.cells #[.slice (pl) ts.length cl, .int .i64 ((i : Int) + 1), .int .i64 en, .int .i64 e, .int .i64 x] 62 (0, 0)) := hrbn
   have hts := srcAt.fr hts f1 (fun _ hr => nq_)
   have hf := hf.trans' f1 (fun _ hr => nq_)
   clear f1
   replace hrb := hrbn
   refine n_ ?_
   have he : e = 0 := beq_iff_eq.1 hq156
   have hq : mustE en s (ts.drop i) e x = (e, x) := if_neg (fun h => by have h9 := hq157; rw [h.2] at h9; cases h9)
   refine (ret_nil rfl E ⟨rfl, hf, ?_⟩).1
   rw [hq]
   exact ⟨hGr, _, hrb, ⟨pl, cl, rfl, hlv0, hlv1, hts, hzl⟩⟩
end Go.Proofs.YtjaffpnegdcjnaaGreatDoor
/- The reference reader: numbers. -/
set_option linter.unusedVariables false
set_option linter.unusedSimpArgs false
namespace Go.Proofs.YtjaffpnegdcjnaaGreatDoor
open Go.RowKit Go.Pl
theorem numT_snoc {l : Bys} {k : Nat} {b : UInt8} (h : l[k]? = some b) : numT (l.take (k + 1)) = 10 * numT (l.take k) + ((b.toNat : Int) - 48) := by
 unfold numT
 rw [List.take_add_one, h, List.foldl_append]; rfl
theorem num_bnd {l : Bys} (hd : ∀ b ∈ l, isDig b = true) : ∀ k, k ≤ l.length → 0 ≤ numT (l.take k) ∧ numT (l.take k) < 10 ^ k := by
 intro k
 induction k with
 | zero => intro _; simp [numT]
 | succ k ih =>
  intro hk
  have ih := ih (by omega)
  obtain ⟨b, hb⟩ : ∃ b, l[k]? = some b := ⟨_, List.getElem?_eq_getElem (by omega)⟩
  have hdb := hd b (List.mem_of_getElem? hb)
  rw [isDig_i] at hdb
  simp only [Bool.and_eq_true, decide_eq_true_eq] at hdb
  rw [numT_snoc hb, Int.pow_succ]
  omega
theorem pow7 : ∀ k ≤ 7, (10 : Int) ^ k ≤ 10000000 := by decide
theorem run_usub {o : Oper} {w : World} {ρ : Operand → Value} {x y : Operand} {a : Int} (hx : ρ x = .int .u8 a) (hy : ρ y = .int .u8 48) (h0 : 48 ≤ a) (h1 : a ≤ 255) (ho : o.op = .binOp .sub 5 x y 5) : (execOp ρ o).run Tryz.prog w = .ok (.value (.int .u8 (a - 48))) w := by
 have e : IntKind.u8.wrap (a - 48) = a - 48 := by
  show (a - 48) % _ = a - 48
  exact Int.emod_eq_of_lt (by omega) (by show a - 48 < 256; omega)
 simp [execOp, ho, hx, hy, go_sem, Tryz.underlying5, e]
theorem run_b2i {o : Oper} {w : World} {ρ : Operand → Value} {x : Operand} {a : Int} (ho : o.op = .convert 5 3 x) (hx : ρ x = .int .u8 a) (h0 : 0 ≤ a) (h1 : a ≤ 255) : (execOp ρ o).run Tryz.prog w = .ok (.value (.int .i64 a)) w := by
 simp [execOp, ho, hx, go_sem, IntWalk.i64_in a ⟨by omega, by omega⟩]
set_option maxRecDepth 100000 in
set_option maxHeartbeats 4000000 in
theorem value_calls (t : Tok Int) (hd : ∀ b ∈ t.2.1, isDig b = true) (hl : t.2.1.length ≤ 7) (w : World) : Calls Tryz.prog 91 #[.agg (tkA t)] w fun e w' => e = .returned (.int .i64 (numT t.2.1)) ∧ Fr (fun _ => False) w w' := by
 refine wp_start1 Tryz.func91 rfl rfl (n := 22) (by decide) fun a E => ?_
 have hf : Fr (fun _ => False) w w := Fr.refl _ _
 refine s_ (r_ (env_new (d := 1) E rfl (by decide) rfl (wanted_none rfl _) (run_box38 rfl E.g0) fun a w1 b156 eb156 hb156 f1 E => ?_))
 have hnb156 : w.heap.size ≤ b156 := by have := hf.size; omega
 have hf := hf.trans' f1 (fun _ _ h => h.elim)
 clear f1
 refine ep (v := .int .i64 0) E rfl (a_ rfl rfl) fun a E => n_ (t_ (s_ (r_ (ep (v := .int .i64 0) E rfl (a_ rfl rfl) fun a E => n_ (t_ (s_ (s_ (r_ (ep (v := .int .i64 0) E rfl (a_ rfl rfl) fun a E => n_ (t_ (bk_ (wp_loop (fun a w2 => ∃ (k : Nat), Env 22 [(1, .pointer (some ⟨b156, 0, none⟩)), (3, .int .i64 (numT (t.2.1.take k))), (4, .int .i64 (k : Int))] a ∧ k ≤ t.2.1.length ∧ w2.heap[b156]? = some (.cells #[.int .i64 t.1, .string (ofL t.2.1), .int .i64 t.2.2] 38 (0, 0)) ∧ Fr (fun _ => False) w w2) (fun a _ => t.2.1.length - (intOf (a.eval (.tmp 4))).toNat) ?_ ?_))))))))))))
 ·exact ⟨0, E.of ⟨E.g3, E.g1, E.g0, trivial⟩, Nat.zero_le _, hb156, hf⟩
 clear E
 rintro a w2 ⟨k, E, hk, hb156, hf⟩
 have hmu : t.2.1.length - (intOf (a.eval (.tmp 4))).toNat = t.2.1.length - k := by rw [E.g2]; first | rfl | (simp [intOf]; done) | (simp only [intOf]; omega)
 rw [hmu]
 clear hmu
 have hnb := num_bnd hd k hk
 have hp7 := pow7 k (by omega)
 refine s_ (s_ (r_ (ep E rfl (m_ rfl E.g2) fun a E => ep (v := .pointer (some ⟨b156, 1, none⟩)) E rfl (fa38_1 rfl E.g1) fun a E => ep (v := .string (ofL t.2.1)) E rfl (run_lds rfl E.g0 (bx hb156 1 rfl)) fun a E => ep (v := .int .i64 (t.2.1.length : Int)) E rfl (run_slen rfl E.g0) fun a E => ep (v := .bool (decide ((k : Int) < (t.2.1.length : Int)))) E rfl (run_ilss E.g3 E.g0 Tryz.underlying3 rfl) fun a E => n_ (t_ ?_))))
 cases hq158 : (decide ((k : Int) < (t.2.1.length : Int))) with
 | false =>
  rw [hq158] at E
  have hie : k = t.2.1.length := by have := of_decide_eq_false hq158; omega
  refine c_f E.g0 (x_ (te_ (te_ (be_ (t_ (s_ (r_ (ep E rfl (m_ rfl E.g6) fun a E => ep E rfl (a_ rfl E.g0) fun a E => n_ (t_ (wr_ ?_))))))))))
  have hq : numT (t.2.1.take k) = numT t.2.1 := by rw [hie, List.take_length]
  rw [hq] at E
  exact ret_tmp (t := 2) rfl E E.g0 ⟨rfl, hf⟩
 | true =>
  rw [hq158] at E
  have hlt : k < t.2.1.length := by have := of_decide_eq_true hq158; omega
  obtain ⟨e, he⟩ : ∃ e, t.2.1[k]? = some e := ⟨_, List.getElem?_eq_getElem hlt⟩
  have hde := hd e (List.mem_of_getElem? he)
  rw [isDig_i] at hde
  simp only [Bool.and_eq_true, decide_eq_true_eq] at hde
  have hb48 := hde.1
  have hb255 : (e.toNat : Int) ≤ 255 := by omega
  refine c_t E.g0 (k_ (t_ (s_ (bk_ (r_ (ep E rfl (m_ rfl E.g6) fun a E => ep (v := .int .i64 (10 * (numT (t.2.1.take k)))) E rfl (run_imul Tryz.underlying3 rfl E.g0 (by omega) (by omega) rfl) fun a E => ep (v := .pointer (some ⟨b156, 1, none⟩)) E rfl (fa38_1 rfl E.g7) fun a E => ep (v := .string (ofL t.2.1)) E rfl (run_lds rfl E.g0 (bx hb156 1 rfl)) fun a E => ep E rfl (m_ rfl E.g11) fun a E => ep (v := .int .u8 (e.toNat : Int)) E rfl (run_byte rfl E.g1 E.g0 he) fun a E => ep (v := .int .u8 ((e.toNat : Int) - 48)) E rfl (run_usub E.g0 rfl hb48 hb255 rfl) fun a E => ep (v := .int .i64 ((e.toNat : Int) - 48)) E rfl (run_b2i rfl E.g0 (by omega) (by omega)) fun a E => ep (v := .int .i64 ((10 * (numT (t.2.1.take k))) + ((e.toNat : Int) - 48))) E rfl (run_iadd Tryz.underlying3 E.g6 E.g0 (by omega) (by omega) rfl) fun a E => es_ E rfl (a_ rfl E.g0) fun a E => n_ (b_ (t_ (r_ (ep E rfl (m_ rfl E.g16) fun a E => ep (v := .int .i64 ((k : Int) + 1)) E rfl (run_iadd Tryz.underlying3 E.g0 rfl (by omega) (by omega) rfl) fun a E => es_ E rfl (a_ rfl E.g0) fun a E => n_ (t_ ?_)))))))))))
  have hsn := numT_snoc he
  refine ⟨⟨k + 1, E.of ⟨E.g18, E.g3.trans (by rw [hsn]), E.g0, trivial⟩, hlt, hb156, hf⟩, ?_⟩
  rw [E.g0]; simp only [intOf]; omega
set_option maxRecDepth 100000 in
set_option maxHeartbeats 4000000 in
theorem number90_calls {w : World} {rb G : Nat} {en : Int} {ts : List (Tok Int)} {i : Nat} {e x : Int} (hR : RdS w rb G en ts i e x) (hi : i ≤ 1000000) : Calls Tryz.prog 90 #[.pointer (some ⟨rb, 0, none⟩)] w fun e' w' => e' = .returned (.agg (tkA (numR en ts i e x).1)) ∧ Fr (fun r => r = rb) w w' ∧ RdS w' rb G en ts (numR en ts i e x).2.1 (numR en ts i e x).2.2.1 (numR en ts i e x).2.2.2 := by
 have hR0 := hR
 obtain ⟨hGr, lv, hrb, htkS⟩ := hR
 obtain ⟨pl, cl, hlv, hlv0, hlv1, hts, hzl⟩ := htkS
 subst hlv
 have hrl := lt_of_blk hrb
 refine wp_start1 Tryz.func90 rfl rfl (n := 54) (by decide) fun a E => ?_
 have hf : Fr (fun _ => False) w w := Fr.refl _ _
 have hf : Fr (fun r => r = rb) w w := Fr.refl _ _
 refine s_ (r_ (env_new (d := 2) E rfl (by decide) rfl (wanted_none rfl _) (run_alloc38 rfl) fun a w1 b159 eb159 hb159 f1 E => ?_))
 have hnb159 : w.heap.size ≤ b159 := by have := hf.size; omega
 have hlrbb159 : rb < b159 := by have := lt_of_blk hrb; omega
 have hrb := f1.obj hrb id
 have hts := srcAt.fr hts f1 (fun r hr => id)
 have hR0 := RdS.fr hR0 f1 (fun r hr => id)
 have hf := hf.trans' f1 (fun _ _ h => h.elim)
 clear f1
 refine n_ (t_ (s_ (s_ (r_ (ep E rfl (m_ rfl E.g1) fun a E => ep E rfl (i_ rfl E.g0) fun a E => ep (v := .pointer (some ⟨rb, 3, none⟩)) E rfl (fa62_3 rfl E.g0) fun a E => ep (v := .int .i64 e) E rfl (run_lde rfl E.g0 (bx hrb 3 rfl)) fun a E => ep (v := .bool (e != 0)) E rfl (run_ineq E.g0 rfl Tryz.underlying25 rfl) fun a E => n_ (t_ ?_))))))
 cases hq160 : (e != 0) with
 | false =>
  rw [hq160] at E
  have he : e = 0 := by simpa using hq160
  refine c_f E.g0 (k_ (t_ (s_ (s_ ?_))))
  cases hq161 : (decide ((ts.length : Int) ≤ (i : Int))) with
  | false =>
   have hlt : i < ts.length := by have := of_decide_eq_false hq161; omega
   obtain ⟨t, ht⟩ : ∃ y, ts[i]? = some y := ⟨_, List.getElem?_eq_getElem hlt⟩
   obtain ⟨g162, off162, hpe162, hgl162, hrow162⟩ := hts.at hlt
   replace hrow162 := hrow162 i t ht
   have hdt := drop_tok ht
   refine wp_region_invg (n := 54) (base := [(7, .bool false), (6, .int .i64 e), (5, .pointer (some ⟨rb, 3, none⟩)), (4, .pointer (some ⟨rb, 0, none⟩)), (3, .pointer (some ⟨rb, 0, none⟩)), (2, .pointer (some ⟨b159, 0, none⟩)), (0, .pointer (some ⟨rb, 0, none⟩))]) (T := [some (9, .pointer (some ⟨rb, 0, none⟩)), some (10, .pointer (some ⟨rb, 0, none⟩)), some (11, .pointer (some ⟨rb, 1, none⟩)), some (12, .int .i64 (i : Int)), some (13, .pointer (some ⟨rb, 0, none⟩)), some (14, .pointer (some ⟨rb, 0, none⟩)), some (15, .pointer (some ⟨rb, 0, none⟩)), some (16, .slice (pl) ts.length cl), some (17, .int .i64 (ts.length : Int)), some (18, .bool false), some (19, .bool false), some (20, .pointer (some ⟨rb, 0, none⟩)), some (21, .pointer (some ⟨rb, 0, none⟩)), some (22, .pointer (some ⟨rb, 0, none⟩)), some (23, .slice (pl) ts.length cl), some (24, .pointer (some ⟨rb, 0, none⟩)), some (25, .pointer (some ⟨rb, 0, none⟩)), some (26, .pointer (some ⟨rb, 1, none⟩)), some (27, .int .i64 (i : Int)), some (28, .pointer (some ⟨g162, (off162 + i * 3), none⟩)), some (29, .pointer (some ⟨g162, ((off162 + i * 3) + 0), none⟩)), some (30, .int .i64 t.1), some (31, .bool (t.1 != 2)), some (32, .bool (t.1 != 2))]) (M := fun _ wm => Fr (fun _ => False) w1 wm) (by kernel_rfl) (by kernel_rfl) (by kernel_rfl) (E.of ⟨E.g0, E.g1, E.g2, E.g3, E.g4, E.g5, E.g6, trivial⟩) (Fr.refl _ _).drew ?_ ?_
   ·intro j9 o9 t9 ls9 a w5 ho hT0 hl E D DL hM
    have hrb := hM.obj hrb id
    have hts := srcAt.fr hts hM (fun r hr => id)
    have hR0 := RdS.fr hR0 hM (fun r hr => id)
    have hb159 := hM.obj hb159 id
    have hrow162 := fun j u hu => hM.cell (hrow162 j u hu) id
    match j9, ho, hT0, hl, D, DL with
    | 0, ho, hT0, hl, D, DL => exact y0_ ho hT0 (val_wp (m_ rfl E.g6) rfl hM)
    | 1, ho, hT0, hl, D, DL => exact y0_ ho hT0 (val_wp (i_ rfl (D 0 _ rfl rfl)) rfl hM)
    | 2, ho, hT0, hl, D, DL => exact y0_ ho hT0 (val_wp (fa62_1 rfl (D 1 _ rfl rfl)) rfl hM)
    | 3, ho, hT0, hl, D, DL => exact y0_ ho hT0 (val_wp (run_ldi rfl (D 2 _ rfl rfl) (bx hrb 1 rfl)) rfl hM)
    | 4, ho, hT0, hl, D, DL => exact y0_ ho hT0 (val_wp (m_ rfl E.g6) rfl hM)
    | 5, ho, hT0, hl, D, DL => exact y0_ ho hT0 (val_wp (i_ rfl (D 4 _ rfl rfl)) rfl hM)
    | 6, ho, hT0, hl, D, DL => exact y0_ ho hT0 (val_wp (fa62_0 rfl (D 5 _ rfl rfl)) rfl hM)
    | 7, ho, hT0, hl, D, DL => exact y0_ ho hT0 (val_wp (run_ld34 rfl (D 6 _ rfl rfl) (bx hrb 0 rfl)) rfl hM)
    | 8, ho, hT0, hl, D, DL => exact y0_ ho hT0 (val_wp (run_len34 rfl (D 7 _ rfl rfl)) rfl hM)
    | 9, ho, hT0, hl, D, DL => exact y0_ ho hT0 (val_wp ((run_igeq (D 3 _ rfl rfl) (D 8 _ rfl rfl) Tryz.underlying3 rfl).trans (by rw [hq161] <;> rfl)) rfl hM)
    | 10, ho, hT0, hl, D, DL => exact y0_ ho hT0 (val_wp (m_ rfl (D 9 _ rfl rfl)) rfl hM)
    | 11, ho, hT0, hl, D, DL => exact y1_ ho hT0 E (D 10 _ rfl rfl) (val_wp (m_ rfl E.g6) rfl hM)
    | 12, ho, hT0, hl, D, DL => exact y1_ ho hT0 E (D 10 _ rfl rfl) (val_wp (i_ rfl (D 11 _ rfl rfl)) rfl hM)
    | 13, ho, hT0, hl, D, DL => exact y1_ ho hT0 E (D 10 _ rfl rfl) (val_wp (fa62_0 rfl (D 12 _ rfl rfl)) rfl hM)
    | 14, ho, hT0, hl, D, DL => exact y1_ ho hT0 E (D 10 _ rfl rfl) (val_wp (run_ld34 rfl (D 13 _ rfl rfl) (bx hrb 0 rfl)) rfl hM)
    | 15, ho, hT0, hl, D, DL => exact y1_ ho hT0 E (D 10 _ rfl rfl) (val_wp (m_ rfl E.g6) rfl hM)
    | 16, ho, hT0, hl, D, DL => exact y1_ ho hT0 E (D 10 _ rfl rfl) (val_wp (i_ rfl (D 15 _ rfl rfl)) rfl hM)
    | 17, ho, hT0, hl, D, DL => exact y1_ ho hT0 E (D 10 _ rfl rfl) (val_wp (fa62_1 rfl (D 16 _ rfl rfl)) rfl hM)
    | 18, ho, hT0, hl, D, DL => exact y1_ ho hT0 E (D 10 _ rfl rfl) (val_wp (run_ldi rfl (D 17 _ rfl rfl) (bx hrb 1 rfl)) rfl hM)
    | 19, ho, hT0, hl, D, DL => exact y1_ ho hT0 E (D 10 _ rfl rfl) (val_wp (run_index34 (i := i) rfl ((D 14 _ rfl rfl).trans (by rw [hpe162])) (D 18 _ rfl rfl) hlt) rfl hM)
    | 20, ho, hT0, hl, D, DL => exact y1_ ho hT0 E (D 10 _ rfl rfl) (val_wp (fa38_0 rfl (D 19 _ rfl rfl)) rfl hM)
    | 21, ho, hT0, hl, D, DL => exact y1_ ho hT0 E (D 10 _ rfl rfl) (val_wp (run_ldi rfl (D 20 _ rfl rfl) (hrow162 0 _ rfl)) rfl hM)
    | 22, ho, hT0, hl, D, DL => exact y1_ ho hT0 E (D 10 _ rfl rfl) (val_wp (run_ineq (D 21 _ rfl rfl) rfl Tryz.underlying3 rfl) rfl hM)
    | 23, ho, hT0, hl, D, DL => exact y0_ ho hT0 (val_wp (run_pick_f rfl (D 10 _ rfl rfl) (D 22 _ rfl rfl)) rfl hM)
    | j9 + 24, ho, hT0, hl, D, DL => exact absurd hT0 (by simp)
   ·intro a w5 E V hM
    have E := E.add (V 23 _ rfl)
    clear V
    have hrb := hM.obj hrb id
    have hts := srcAt.fr hts hM (fun r hr => id)
    have hR0 := RdS.fr hR0 hM (fun r hr => id)
    have hb159 := hM.obj hb159 id
    have hrow162 := fun j u hu => hM.cell (hrow162 j u hu) id
    have hf := hf.trans' hM (fun _ _ h => h.elim)
    clear hM
    refine t_ ?_
    cases hq164 : (t.1 != 2) with
    | false =>
     rw [hq164] at E
     have ht2 : t.1 = 2 := by simpa using hq164
     refine c_f E.g0 (k_ (t_ (s_ (r_ (ep E rfl (m_ rfl E.g7) fun a E => ep E rfl (i_ rfl E.g0) fun a E => ep (v := .pointer (some ⟨rb, 1, none⟩)) E rfl (fa62_1 rfl E.g0) fun a E => ep (v := .int .i64 (i : Int)) E rfl (run_ldi rfl E.g0 (bx hrb 1 rfl)) fun a E => ep (v := .int .i64 ((i : Int) + 1)) E rfl (run_iadd Tryz.underlying3 E.g0 rfl (by omega) (by omega) rfl) fun a E => ep E rfl (i_ rfl E.g4) fun a E => ep (v := .pointer (some ⟨rb, 1, none⟩)) E rfl (fa62_1 rfl E.g0) fun a E => env_st1 (j := 1) E rfl (wanted_none rfl _) hrb (run_st3 rfl E.g0 E.g2 (bx hrb 1 rfl) (free_of_blk hrb 1)) fun w1 hrbn f1 E => ?_)))))
     replace hrbn : w1.heap[rb]? = some (.cells #[.slice (pl) ts.length cl, .int .i64 ((i : Int) + 1), .int .i64 en, .int .i64 e, .int .i64 x] 62 (0, 0)) := hrbn
     have hts := srcAt.fr hts f1 (fun _ hr => nq_)
     have hb159 := f1.obj hb159 nq_
     have hrow162 := fun j u hu => f1.cell (hrow162 j u hu) nq_
     have hf := hf.trans' f1 (fun _ hr => nq_)
     clear f1
     replace hrb := hrbn
     refine n_ (t_ (s_ (wp_region_invx (G := Unit) () (n := 54) (base := [(42, .pointer (some ⟨rb, 1, none⟩)), (41, .pointer (some ⟨rb, 0, none⟩)), (40, .int .i64 ((i : Int) + 1)), (39, .int .i64 (i : Int)), (38, .pointer (some ⟨rb, 1, none⟩)), (37, .pointer (some ⟨rb, 0, none⟩)), (36, .pointer (some ⟨rb, 0, none⟩)), (32, .bool false), (7, .bool false), (6, .int .i64 e), (5, .pointer (some ⟨rb, 3, none⟩)), (4, .pointer (some ⟨rb, 0, none⟩)), (3, .pointer (some ⟨rb, 0, none⟩)), (2, .pointer (some ⟨b159, 0, none⟩)), (0, .pointer (some ⟨rb, 0, none⟩))]) (U := []) (T := fun γ => [some (43, .pointer (some ⟨rb, 0, none⟩)), some (44, .pointer (some ⟨rb, 0, none⟩)), some (45, .pointer (some ⟨rb, 0, none⟩)), some (46, .slice (pl) ts.length cl), some (47, .pointer (some ⟨rb, 0, none⟩)), some (48, .pointer (some ⟨rb, 0, none⟩)), some (49, .pointer (some ⟨rb, 1, none⟩)), some (50, .int .i64 ((i : Int) + 1)), some (51, .int .i64 (((i : Int) + 1) - 1)), some (52, .pointer (some ⟨g162, (off162 + i * 3), none⟩)), some (53, .agg (tkA t)), none]) (M := fun γ ls9 wm => (ls9 11 = false → Fr (fun _ => False) w1 wm) ∧ (ls9 11 = true → Fr (fun r => r = b159) w1 wm ∧ wm.heap[b159]? = some (.cells (tkA t) 38 (0, 0)))) (by kernel_rfl) (by kernel_rfl) (fun _ => by kernel_rfl) (E.of ⟨E.g0, E.g1, E.g2, E.g3, E.g4, E.g5, E.g6, E.g7, E.g8, E.g9, E.g10, E.g11, E.g12, E.g13, E.g14, trivial⟩) (fun x hx => by cases hx) ⟨fun _ => (Fr.refl _ _).drew, fun h => absurd h Bool.false_ne_true⟩ ?_ ?_)))
     ·intro j9 o9 γ ls9 a w5 ho hl E D DL DL2 hB hM
      match j9, ho, hl, D, DL, hB with
      | 0, ho, hl, D, DL, hB =>
       obtain rfl := Option.some.inj ho
       clear ho
       have h7 : ls9 11 = false := by
        cases h9 : ls9 11 with
        | false => rfl
        | true => exact absurd (hl.symm.trans (DL2 1 0 rfl (DL2 2 1 rfl (DL2 3 2 rfl (DL2 9 3 rfl (DL2 10 9 rfl (DL2 11 10 rfl h9))))))) (by decide)
       have hM1 := hM.1 h7
       have hrb := hM1.obj hrb id
       have hts := srcAt.fr hts hM1 (fun r hr => id)
       have hb159 := hM1.obj hb159 id
       have hrow162 := fun j u hu => hM1.cell (hrow162 j u hu) id
       exact ⟨fun _ => valx rfl (m_ rfl E.g14) rfl ⟨fun _ => hM1, fun h => absurd (h7.symm.trans h) (by decide)⟩, fun h => by rw [wanted_none rfl] at h; cases h⟩
      | 1, ho, hl, D, DL, hB =>
       obtain rfl := Option.some.inj ho
       clear ho
       have h7 : ls9 11 = false := by
        cases h9 : ls9 11 with
        | false => rfl
        | true => exact absurd (hl.symm.trans (DL2 2 1 rfl (DL2 3 2 rfl (DL2 9 3 rfl (DL2 10 9 rfl (DL2 11 10 rfl h9)))))) (by decide)
       have hM1 := hM.1 h7
       have hrb := hM1.obj hrb id
       have hts := srcAt.fr hts hM1 (fun r hr => id)
       have hb159 := hM1.obj hb159 id
       have hrow162 := fun j u hu => hM1.cell (hrow162 j u hu) id
       exact ⟨fun _ => valx rfl (i_ rfl (D 0 _ rfl rfl)) rfl ⟨fun _ => hM1, fun h => absurd (h7.symm.trans h) (by decide)⟩, fun h => by rw [wanted_none rfl] at h; cases h⟩
      | 2, ho, hl, D, DL, hB =>
       obtain rfl := Option.some.inj ho
       clear ho
       have h7 : ls9 11 = false := by
        cases h9 : ls9 11 with
        | false => rfl
        | true => exact absurd (hl.symm.trans (DL2 3 2 rfl (DL2 9 3 rfl (DL2 10 9 rfl (DL2 11 10 rfl h9))))) (by decide)
       have hM1 := hM.1 h7
       have hrb := hM1.obj hrb id
       have hts := srcAt.fr hts hM1 (fun r hr => id)
       have hb159 := hM1.obj hb159 id
       have hrow162 := fun j u hu => hM1.cell (hrow162 j u hu) id
       exact ⟨fun _ => valx rfl (fa62_0 rfl (D 1 _ rfl rfl)) rfl ⟨fun _ => hM1, fun h => absurd (h7.symm.trans h) (by decide)⟩, fun h => by rw [wanted_none rfl] at h; cases h⟩
      | 3, ho, hl, D, DL, hB =>
       obtain rfl := Option.some.inj ho
       clear ho
       have h7 : ls9 11 = false := by
        cases h9 : ls9 11 with
        | false => rfl
        | true => exact absurd (hl.symm.trans (DL2 9 3 rfl (DL2 10 9 rfl (DL2 11 10 rfl h9)))) (by decide)
       have hM1 := hM.1 h7
       have hrb := hM1.obj hrb id
       have hts := srcAt.fr hts hM1 (fun r hr => id)
       have hb159 := hM1.obj hb159 id
       have hrow162 := fun j u hu => hM1.cell (hrow162 j u hu) id
       exact ⟨fun _ => valx rfl (run_ld34 rfl (D 2 _ rfl rfl) (bx hrb 0 rfl)) rfl ⟨fun _ => hM1, fun h => absurd (h7.symm.trans h) (by decide)⟩, fun h => by rw [wanted_none rfl] at h; cases h⟩
      | 4, ho, hl, D, DL, hB =>
       obtain rfl := Option.some.inj ho
       clear ho
       have h7 : ls9 11 = false := by
        cases h9 : ls9 11 with
        | false => rfl
        | true => exact absurd (hl.symm.trans (DL2 5 4 rfl (DL2 6 5 rfl (DL2 7 6 rfl (DL2 8 7 rfl (DL2 9 8 rfl (DL2 10 9 rfl (DL2 11 10 rfl h9)))))))) (by decide)
       have hM1 := hM.1 h7
       have hrb := hM1.obj hrb id
       have hts := srcAt.fr hts hM1 (fun r hr => id)
       have hb159 := hM1.obj hb159 id
       have hrow162 := fun j u hu => hM1.cell (hrow162 j u hu) id
       exact ⟨fun _ => valx rfl (m_ rfl E.g14) rfl ⟨fun _ => hM1, fun h => absurd (h7.symm.trans h) (by decide)⟩, fun h => by rw [wanted_none rfl] at h; cases h⟩
      | 5, ho, hl, D, DL, hB =>
       obtain rfl := Option.some.inj ho
       clear ho
       have h7 : ls9 11 = false := by
        cases h9 : ls9 11 with
        | false => rfl
        | true => exact absurd (hl.symm.trans (DL2 6 5 rfl (DL2 7 6 rfl (DL2 8 7 rfl (DL2 9 8 rfl (DL2 10 9 rfl (DL2 11 10 rfl h9))))))) (by decide)
       have hM1 := hM.1 h7
       have hrb := hM1.obj hrb id
       have hts := srcAt.fr hts hM1 (fun r hr => id)
       have hb159 := hM1.obj hb159 id
       have hrow162 := fun j u hu => hM1.cell (hrow162 j u hu) id
       exact ⟨fun _ => valx rfl (i_ rfl (D 4 _ rfl rfl)) rfl ⟨fun _ => hM1, fun h => absurd (h7.symm.trans h) (by decide)⟩, fun h => by rw [wanted_none rfl] at h; cases h⟩
      | 6, ho, hl, D, DL, hB =>
       obtain rfl := Option.some.inj ho
       clear ho
       have h7 : ls9 11 = false := by
        cases h9 : ls9 11 with
        | false => rfl
        | true => exact absurd (hl.symm.trans (DL2 7 6 rfl (DL2 8 7 rfl (DL2 9 8 rfl (DL2 10 9 rfl (DL2 11 10 rfl h9)))))) (by decide)
       have hM1 := hM.1 h7
       have hrb := hM1.obj hrb id
       have hts := srcAt.fr hts hM1 (fun r hr => id)
       have hb159 := hM1.obj hb159 id
       have hrow162 := fun j u hu => hM1.cell (hrow162 j u hu) id
       exact ⟨fun _ => valx rfl (fa62_1 rfl (D 5 _ rfl rfl)) rfl ⟨fun _ => hM1, fun h => absurd (h7.symm.trans h) (by decide)⟩, fun h => by rw [wanted_none rfl] at h; cases h⟩
      | 7, ho, hl, D, DL, hB =>
       obtain rfl := Option.some.inj ho
       clear ho
       have h7 : ls9 11 = false := by
        cases h9 : ls9 11 with
        | false => rfl
        | true => exact absurd (hl.symm.trans (DL2 8 7 rfl (DL2 9 8 rfl (DL2 10 9 rfl (DL2 11 10 rfl h9))))) (by decide)
       have hM1 := hM.1 h7
       have hrb := hM1.obj hrb id
       have hts := srcAt.fr hts hM1 (fun r hr => id)
       have hb159 := hM1.obj hb159 id
       have hrow162 := fun j u hu => hM1.cell (hrow162 j u hu) id
       exact ⟨fun _ => valx rfl (run_ldi rfl (D 6 _ rfl rfl) (bx hrb 1 rfl)) rfl ⟨fun _ => hM1, fun h => absurd (h7.symm.trans h) (by decide)⟩, fun h => by rw [wanted_none rfl] at h; cases h⟩
      | 8, ho, hl, D, DL, hB =>
       obtain rfl := Option.some.inj ho
       clear ho
       have h7 : ls9 11 = false := by
        cases h9 : ls9 11 with
        | false => rfl
        | true => exact absurd (hl.symm.trans (DL2 9 8 rfl (DL2 10 9 rfl (DL2 11 10 rfl h9)))) (by decide)
       have hM1 := hM.1 h7
       have hrb := hM1.obj hrb id
       have hts := srcAt.fr hts hM1 (fun r hr => id)
       have hb159 := hM1.obj hb159 id
       have hrow162 := fun j u hu => hM1.cell (hrow162 j u hu) id
       exact ⟨fun _ => valx rfl (run_isub Tryz.underlying3 (D 7 _ rfl rfl) rfl (by omega) (by omega) rfl) rfl ⟨fun _ => hM1, fun h => absurd (h7.symm.trans h) (by decide)⟩, fun h => by rw [wanted_none rfl] at h; cases h⟩
      | 9, ho, hl, D, DL, hB =>
       obtain rfl := Option.some.inj ho
       clear ho
       have h7 : ls9 11 = false := by
        cases h9 : ls9 11 with
        | false => rfl
        | true => exact absurd (hl.symm.trans (DL2 10 9 rfl (DL2 11 10 rfl h9))) (by decide)
       have hM1 := hM.1 h7
       have hrb := hM1.obj hrb id
       have hts := srcAt.fr hts hM1 (fun r hr => id)
       have hb159 := hM1.obj hb159 id
       have hrow162 := fun j u hu => hM1.cell (hrow162 j u hu) id
       exact ⟨fun _ => valx rfl (run_index34 (i := i) rfl ((D 3 _ rfl rfl).trans (by rw [hpe162])) ((D 8 _ rfl rfl).trans (by rw [show (((i : Int) + 1) - 1) = (i : Int) by omega])) hlt) rfl ⟨fun _ => hM1, fun h => absurd (h7.symm.trans h) (by decide)⟩, fun h => by rw [wanted_none rfl] at h; cases h⟩
      | 10, ho, hl, D, DL, hB =>
       obtain rfl := Option.some.inj ho
       clear ho
       have h7 : ls9 11 = false := by
        cases h9 : ls9 11 with
        | false => rfl
        | true => exact absurd (hl.symm.trans (DL2 11 10 rfl h9)) (by decide)
       have hM1 := hM.1 h7
       have hrb := hM1.obj hrb id
       have hts := srcAt.fr hts hM1 (fun r hr => id)
       have hb159 := hM1.obj hb159 id
       have hrow162 := fun j u hu => hM1.cell (hrow162 j u hu) id
       exact ⟨fun _ => valx rfl (run_ld38 rfl (D 9 _ rfl rfl) hrow162) rfl ⟨fun _ => hM1, fun h => absurd (h7.symm.trans h) (by decide)⟩, fun h => by rw [wanted_none rfl] at h; cases h⟩
      | 11, ho, hl, D, DL, hB =>
       obtain rfl := Option.some.inj ho
       clear ho
       have hM1 := hM.1 hl
       have hrb := hM1.obj hrb id
       have hts := srcAt.fr hts hM1 (fun r hr => id)
       have hb159 := hM1.obj hb159 id
       have hrow162 := fun j u hu => hM1.cell (hrow162 j u hu) id
       exact ⟨fun _ => storex rfl (run_st38 (s := (0, [], 0)) rfl E.g13 (D 10 _ rfl rfl) hb159) rfl ⟨fun h => by simp at h, fun _ => ⟨(hM1.mono (fun _ _ h => h.elim)).trans ((((Fr.refl (fun r => r = b159) w5).setCell (p := ⟨b159, 0, none⟩) (fun _ => rfl) _).setCell (p := ⟨b159, 1, none⟩) (fun _ => rfl) _).setCell (p := ⟨b159, 2, none⟩) (fun _ => rfl) _), blk_setCell_same (blk_setCell_same (blk_setCell_same hb159 _) _) _⟩⟩, fun h => by rw [wanted_none rfl] at h; cases h⟩
      | j9 + 12, ho, hl, D, DL, hB => exact absurd ho (by simp)
     ·rintro _ a w5 E V hM
      clear V
      have hM := hM.2 rfl
      have f1 := hM.1
      have hb159 : w5.heap[b159]? = some (.cells #[.int .i64 t.1, .string (ofL t.2.1), .int .i64 t.2.2] 38 (0, 0)) := hM.2
      have hrb := f1.obj hrb nq_
      have hts := srcAt.fr hts f1 (fun _ hr => nq_)
      have hrow162 := fun j u hu => f1.cell (hrow162 j u hu) nq_
      have hf := hf.trans' f1 (fun _ hr => nq_)
      clear f1
      refine t_ (wr_ ?_)
      have hq : numR en ts i e x = (t, i + 1, e, x) := (if_pos he).trans (by rw [hdt]; exact if_pos ht2)
      refine ret_cell38 (s := t) rfl E E.g13 hb159 ?_
      rw [hq]
      exact ⟨rfl, hf, hGr, _, hrb, ⟨pl, cl, rfl, hlv0, hlv1, hts, hzl⟩⟩
    | true =>
     rw [hq164] at E
     have ht2 : ¬ t.1 = 2 := by simpa using hq164
     refine c_t E.g0 (s_ (r_ (ep E rfl (m_ rfl E.g7) fun a E => env_callv (d := 34) (R := fun u w8 => u = .tuple #[] ∧ Fr (fun r => r = rb) w5 w8 ∧ RdS w8 rb G en ts i (firstE e x (failP en (ts.drop i))).1 (firstE e x (failP en (ts.drop i))).2) E rfl (by decide) rfl (wanted_none rfl _) (run_call1 (enters_of Tryz.func39 (by kernel_rfl) rfl) rfl rfl E.g0) ((fail_calls hR0).mono fun e w8 h => ⟨_, h.1, rfl, h.2⟩) fun a w1 u ⟨hu, f1, hR2⟩ E => ?_)))
     subst hu
     have hb159 := f1.obj hb159 nq_
     have hrow162 := fun j u hu => f1.cell (hrow162 j u hu) nq_
     have hf := hf.trans f1
     clear f1
     have hR0 := hR2
     obtain ⟨hGr, lv, hrb, htkS⟩ := hR2
     obtain ⟨pl, cl, hlv, hlv0, hlv1, hts, hzl⟩ := htkS
     subst hlv
     refine n_ (t_ (s_ (r_ (ep (v := .agg (tkA (0, [], 0))) E rfl (run_zero38 rfl) fun a E => env_st38 (s := (0, [], 0)) E rfl (wanted_none rfl _) rfl E.g9 E.g0 hb159 fun w1 hb159n f1 E => ?_))))
     have hrow162 := fun j u hu => f1.cell (hrow162 j u hu) nq_
     have hrb := f1.obj hrb nq_
     have hts := srcAt.fr hts f1 (fun _ hr => nq_)
     have hf := hf.trans' f1 (fun _ hr => nq_)
     clear f1
     replace hb159 := hb159n
     refine n_ (t_ (wr_ (tr_ ?_)))
     have hq : numR en ts i e x = ((0, [], 0), i, 5, t.2.2) := (if_pos he).trans (by rw [hdt]; exact if_neg ht2)
     have hq2 : firstE e x (failP en (ts.drop i)) = (5, t.2.2) := (if_pos he).trans (by rw [hdt]; rfl)
     rw [hq2] at hrb
     refine ret_cell38 (s := (0, [], 0)) rfl E E.g9 hb159 ?_
     rw [hq]
     exact ⟨rfl, hf, hGr, _, hrb, ⟨pl, cl, rfl, hlv0, hlv1, hts, hzl⟩⟩
  | true =>
   have hnil : ts.drop i = [] := List.drop_eq_nil_of_le (by have := of_decide_eq_true hq161; omega)
   refine wp_region_invg (n := 54) (base := [(7, .bool false), (6, .int .i64 e), (5, .pointer (some ⟨rb, 3, none⟩)), (4, .pointer (some ⟨rb, 0, none⟩)), (3, .pointer (some ⟨rb, 0, none⟩)), (2, .pointer (some ⟨b159, 0, none⟩)), (0, .pointer (some ⟨rb, 0, none⟩))]) (T := [some (9, .pointer (some ⟨rb, 0, none⟩)), some (10, .pointer (some ⟨rb, 0, none⟩)), some (11, .pointer (some ⟨rb, 1, none⟩)), some (12, .int .i64 (i : Int)), some (13, .pointer (some ⟨rb, 0, none⟩)), some (14, .pointer (some ⟨rb, 0, none⟩)), some (15, .pointer (some ⟨rb, 0, none⟩)), some (16, .slice (pl) ts.length cl), some (17, .int .i64 (ts.length : Int)), some (18, .bool true), some (19, .bool true), some (20, undef), some (21, undef), some (22, undef), some (23, undef), some (24, undef), some (25, undef), some (26, undef), some (27, undef), some (28, undef), some (29, undef), some (30, undef), some (31, undef), some (32, .bool true)]) (M := fun _ wm => Fr (fun _ => False) w1 wm) (by kernel_rfl) (by kernel_rfl) (by kernel_rfl) (E.of ⟨E.g0, E.g1, E.g2, E.g3, E.g4, E.g5, E.g6, trivial⟩) (Fr.refl _ _).drew ?_ ?_
   ·intro j9 o9 t9 ls9 a w5 ho hT0 hl E D DL hM
    have hrb := hM.obj hrb id
    have hts := srcAt.fr hts hM (fun r hr => id)
    have hR0 := RdS.fr hR0 hM (fun r hr => id)
    have hb159 := hM.obj hb159 id
    match j9, ho, hT0, hl, D, DL with
    | 0, ho, hT0, hl, D, DL => exact y0_ ho hT0 (val_wp (m_ rfl E.g6) rfl hM)
    | 1, ho, hT0, hl, D, DL => exact y0_ ho hT0 (val_wp (i_ rfl (D 0 _ rfl rfl)) rfl hM)
    | 2, ho, hT0, hl, D, DL => exact y0_ ho hT0 (val_wp (fa62_1 rfl (D 1 _ rfl rfl)) rfl hM)
    | 3, ho, hT0, hl, D, DL => exact y0_ ho hT0 (val_wp (run_ldi rfl (D 2 _ rfl rfl) (bx hrb 1 rfl)) rfl hM)
    | 4, ho, hT0, hl, D, DL => exact y0_ ho hT0 (val_wp (m_ rfl E.g6) rfl hM)
    | 5, ho, hT0, hl, D, DL => exact y0_ ho hT0 (val_wp (i_ rfl (D 4 _ rfl rfl)) rfl hM)
    | 6, ho, hT0, hl, D, DL => exact y0_ ho hT0 (val_wp (fa62_0 rfl (D 5 _ rfl rfl)) rfl hM)
    | 7, ho, hT0, hl, D, DL => exact y0_ ho hT0 (val_wp (run_ld34 rfl (D 6 _ rfl rfl) (bx hrb 0 rfl)) rfl hM)
    | 8, ho, hT0, hl, D, DL => exact y0_ ho hT0 (val_wp (run_len34 rfl (D 7 _ rfl rfl)) rfl hM)
    | 9, ho, hT0, hl, D, DL => exact y0_ ho hT0 (val_wp ((run_igeq (D 3 _ rfl rfl) (D 8 _ rfl rfl) Tryz.underlying3 rfl).trans (by rw [hq161] <;> rfl)) rfl hM)
    | 10, ho, hT0, hl, D, DL => exact y0_ ho hT0 (val_wp (m_ rfl (D 9 _ rfl rfl)) rfl hM)
    | 11, ho, hT0, hl, D, DL => exact y2_ ho hT0 E (D 10 _ rfl rfl) hM
    | 12, ho, hT0, hl, D, DL => exact y2_ ho hT0 E (D 10 _ rfl rfl) hM
    | 13, ho, hT0, hl, D, DL => exact y2_ ho hT0 E (D 10 _ rfl rfl) hM
    | 14, ho, hT0, hl, D, DL => exact y2_ ho hT0 E (D 10 _ rfl rfl) hM
    | 15, ho, hT0, hl, D, DL => exact y2_ ho hT0 E (D 10 _ rfl rfl) hM
    | 16, ho, hT0, hl, D, DL => exact y2_ ho hT0 E (D 10 _ rfl rfl) hM
    | 17, ho, hT0, hl, D, DL => exact y2_ ho hT0 E (D 10 _ rfl rfl) hM
    | 18, ho, hT0, hl, D, DL => exact y2_ ho hT0 E (D 10 _ rfl rfl) hM
    | 19, ho, hT0, hl, D, DL => exact y2_ ho hT0 E (D 10 _ rfl rfl) hM
    | 20, ho, hT0, hl, D, DL => exact y2_ ho hT0 E (D 10 _ rfl rfl) hM
    | 21, ho, hT0, hl, D, DL => exact y2_ ho hT0 E (D 10 _ rfl rfl) hM
    | 22, ho, hT0, hl, D, DL => exact y2_ ho hT0 E (D 10 _ rfl rfl) hM
    | 23, ho, hT0, hl, D, DL => exact y0_ ho hT0 (val_wp (run_pick_t rfl (D 10 _ rfl rfl) rfl) rfl hM)
    | j9 + 24, ho, hT0, hl, D, DL => exact absurd hT0 (by simp)
   ·intro a w5 E V hM
    have E := E.add (V 23 _ rfl)
    clear V
    have hrb := hM.obj hrb id
    have hts := srcAt.fr hts hM (fun r hr => id)
    have hR0 := RdS.fr hR0 hM (fun r hr => id)
    have hb159 := hM.obj hb159 id
    have hf := hf.trans' hM (fun _ _ h => h.elim)
    clear hM
    refine t_ (c_t E.g0 (s_ (r_ (ep E rfl (m_ rfl E.g7) fun a E => env_callv (d := 34) (R := fun u w8 => u = .tuple #[] ∧ Fr (fun r => r = rb) w5 w8 ∧ RdS w8 rb G en ts i (firstE e x (failP en (ts.drop i))).1 (firstE e x (failP en (ts.drop i))).2) E rfl (by decide) rfl (wanted_none rfl _) (run_call1 (enters_of Tryz.func39 (by kernel_rfl) rfl) rfl rfl E.g0) ((fail_calls hR0).mono fun e w8 h => ⟨_, h.1, rfl, h.2⟩) fun a w1 u ⟨hu, f1, hR2⟩ E => ?_))))
    subst hu
    have hb159 := f1.obj hb159 nq_
    have hf := hf.trans f1
    clear f1
    have hR0 := hR2
    obtain ⟨hGr, lv, hrb, htkS⟩ := hR2
    obtain ⟨pl, cl, hlv, hlv0, hlv1, hts, hzl⟩ := htkS
    subst hlv
    refine n_ (t_ (s_ (r_ (ep (v := .agg (tkA (0, [], 0))) E rfl (run_zero38 rfl) fun a E => env_st38 (s := (0, [], 0)) E rfl (wanted_none rfl _) rfl E.g9 E.g0 hb159 fun w1 hb159n f1 E => ?_))))
    have hrb := f1.obj hrb nq_
    have hts := srcAt.fr hts f1 (fun _ hr => nq_)
    have hf := hf.trans' f1 (fun _ hr => nq_)
    clear f1
    replace hb159 := hb159n
    refine n_ (t_ (wr_ (tr_ ?_)))
    have hq : numR en ts i e x = ((0, [], 0), i, 6, en) := (if_pos he).trans (by rw [hnil])
    have hq2 : firstE e x (failP en (ts.drop i)) = (6, en) := (if_pos he).trans (by rw [hnil]; rfl)
    rw [hq2] at hrb
    refine ret_cell38 (s := (0, [], 0)) rfl E E.g9 hb159 ?_
    rw [hq]
    exact ⟨rfl, hf, hGr, _, hrb, ⟨pl, cl, rfl, hlv0, hlv1, hts, hzl⟩⟩
 | true =>
  rw [hq160] at E
  have he : ¬ e = 0 := by simpa using hq160
  refine c_t E.g0 (s_ (r_ (ep (v := .agg (tkA (0, [], 0))) E rfl (run_zero38 rfl) fun a E => env_st38 (s := (0, [], 0)) E rfl (wanted_none rfl _) rfl E.g6 E.g0 hb159 fun w1 hb159n f1 E => ?_)))
  have hrb := f1.obj hrb nq_
  have hts := srcAt.fr hts f1 (fun _ hr => nq_)
  have hR0 := RdS.fr hR0 f1 (fun _ hr => nq_)
  have hf := hf.trans' f1 (fun _ hr => nq_)
  clear f1
  replace hb159 := hb159n
  refine n_ (t_ (wr_ (tr_ ?_)))
  have hq : numR en ts i e x = ((0, [], 0), i, e, x) := if_neg he
  refine ret_cell38 (s := (0, [], 0)) rfl E E.g6 hb159 ?_
  rw [hq]
  exact ⟨rfl, hf, hGr, _, hrb, ⟨pl, cl, rfl, hlv0, hlv1, hts, hzl⟩⟩
end Go.Proofs.YtjaffpnegdcjnaaGreatDoor
/- The reference reader: the clock. -/
set_option linter.unusedVariables false
set_option linter.unusedSimpArgs false
namespace Go.Proofs.YtjaffpnegdcjnaaGreatDoor
open Go.RowKit Go.Pl
def rngA (b : Bool) (h : Tok Int) (e x : Int) : Int × Int := if e = 0 ∧ (24 < numT h.2.1 ∨ (b = true ∧ numT h.2.1 = 24)) then (10, h.2.2) else (e, x)
def rngB (h m : Tok Int) (e x : Int) : Int × Int := if e = 0 ∧ (m.2.1.length ≠ 2 ∨ 59 < numT m.2.1 ∨ (numT h.2.1 = 24 ∧ numT m.2.1 ≠ 0)) then (10, m.2.2) else (e, x)
theorem numR_dig {en : Int} {ts : List (Tok Int)} (hk : Tk ts) {i : Nat} {e x : Int} : (∀ b ∈ (numR en ts i e x).1.2.1, isDig b = true) ∧ (numR en ts i e x).1.2.1.length ≤ 7 ∧ (numR en ts i e x).2.1 ≤ i + 1 := by
 unfold numR
 split
 ·split
  ·exact ⟨fun b hb => by simp at hb, by simp, by simp⟩
  ·rename_i t l he
   split
   ·rename_i h2
    have ht : t ∈ ts := List.mem_of_mem_drop (i := i) (by rw [he]; simp)
    rcases hk t ht with ⟨h, _⟩ | ⟨_, _, h3, h4⟩ | h | ⟨h, _⟩
    ·omega
    ·exact ⟨h4, h3, by simp⟩
    ·omega
    ·omega
   ·exact ⟨fun b hb => by simp at hb, by simp, by simp⟩
 ·exact ⟨fun b hb => by simp at hb, by simp, by simp⟩
theorem numT_rng {l : Bys} (hd : ∀ b ∈ l, isDig b = true) (hl : l.length ≤ 7) : 0 ≤ numT l ∧ numT l ≤ 10000000 := by
 have h := num_bnd hd l.length (Nat.le_refl _)
 rw [List.take_length] at h
 have := pow7 l.length hl
 omega
set_option maxRecDepth 100000 in
set_option maxHeartbeats 4000000 in
theorem clock64_calls {w : World} {rb G : Nat} {en : Int} {ts : List (Tok Int)} {i : Nat} {e x : Int} (hR : RdS w rb G en ts i e x) (hk : Tk ts) (hi : i ≤ 900000) (b : Bool) : Calls Tryz.prog 64 #[.pointer (some ⟨rb, 0, none⟩), .bool b] w fun e' w' => ∃ (h m : Tok Int) (i1 i4 : Nat) (e1 x1 e2 x2 e3 x3 : Int) (q : (Int × Int) × (Int × Int)), (h, i1, e1, x1) = numR en ts i e x ∧ (e2, x2) = rngA b h e1 x1 ∧ (e3, x3) = mustE en [58] (ts.drop i1) e2 x2 ∧ (m, i4, q.1.1, q.1.2) = numR en ts (i1 + 1) e3 x3 ∧ (q.2.1, q.2.2) = rngB h m q.1.1 q.1.2 ∧ e' = .returned (.tuple #[.int .i64 (60 * numT h.2.1 + numT m.2.1), .int .i64 h.2.2]) ∧ RdS w' rb G en ts i4 q.2.1 q.2.2 ∧ Fr (fun r => r = rb) w w' := by
 refine wp_start2 Tryz.func64 rfl rfl (n := 74) (by decide) fun a E => ?_
 have hf : Fr (fun _ => False) w w := Fr.refl _ _
 have hf : Fr (fun r => r = rb) w w := Fr.refl _ _
 have hR0 := hR
 have hrl := hR.lt
 obtain ⟨hGr, lv, hrb, htkS⟩ := id hR0
 obtain ⟨pl, cl, hlv, hlv0, hlv1, hts, hzl⟩ := htkS
 subst hlv
 refine s_ (r_ (ep (v := .int .i64 0) E rfl (a_ rfl rfl) fun a E => ep (v := .int .i64 0) E rfl (a_ rfl rfl) fun a E => n_ (t_ (s_ (r_ (ep E rfl (m_ rfl E.g2) fun a E => ?_))))))
 obtain ⟨⟨h1, i1, e1, x1⟩, hn1⟩ : ∃ q, q = numR en ts (i) (e) (x) := ⟨_, rfl⟩
 have hdg1 := numR_dig hk (en := en) (i := i) (e := e) (x := x)
 rw [← hn1] at hdg1
 obtain ⟨hd1, hl1, hi1⟩ := hdg1
 replace hd1 : ∀ b ∈ h1.2.1, isDig b = true := hd1
 replace hl1 : h1.2.1.length ≤ 7 := hl1
 replace hi1 : i1 ≤ i + 1 := hi1
 have hv1 := numT_rng hd1 hl1
 refine env_callv (d := 9) (R := fun u w8 => u = .agg (tkA h1) ∧ Fr (fun r => r = rb) w w8 ∧ RdS w8 rb G en ts (i1) (e1) (x1)) E rfl (by decide) rfl (wanted_none rfl _) (run_call1 (enters_of Tryz.func90 (by kernel_rfl) rfl) rfl rfl E.g0) ((number90_calls hR0 (by omega)).mono fun e w8 h => by rw [← hn1] at h; exact ⟨_, h.1, rfl, h.2⟩) fun a w1 u ⟨hu, f1, hR2⟩ E => ?_
 subst hu
 have hf := hf.trans f1
 clear f1
 have hR0 := hR2
 clear hR2
 obtain ⟨hGr, lv, hrb, htkS⟩ := id hR0
 obtain ⟨pl, cl, hlv, hlv0, hlv1, hts, hzl⟩ := htkS
 subst hlv
 refine env_new (d := 6) E rfl (by decide) rfl (wanted_none rfl _) (run_alloc38 rfl) fun a w1 b156 eb156 hb156 f1 E => ?_
 have hnb156 : w.heap.size ≤ b156 := by have := hf.size; omega
 have hlrbb156 : rb < b156 := by have := lt_of_blk hrb; omega
 have hrb := f1.obj hrb id
 have hts := srcAt.fr hts f1 (fun r hr => id)
 have hR0 := RdS.fr hR0 f1 (fun r hr => id)
 have hf := hf.trans' f1 (fun _ _ h => h.elim)
 clear f1
 refine env_st38 (s := (0, [], 0)) E rfl (wanted_none rfl _) rfl E.g0 E.g1 hb156 fun w1 hb156n f1 E => ?_
 have hrb := f1.obj hrb nq_
 have hts := srcAt.fr hts f1 (fun _ hr => nq_)
 have hR0 := RdS.fr hR0 f1 (fun _ hr => nq_)
 have hf := hf.trans' f1 (fun _ hr => nq_)
 clear f1
 replace hb156 := hb156n
 refine n_ (t_ (wp_seq_cut (fun a w2 => ∃ e2 x2, Env 74 [(0, .pointer (some ⟨rb, 0, none⟩)), (1, .bool b), (6, .pointer (some ⟨b156, 0, none⟩))] a ∧ RdS w2 rb G en ts (i1) e2 x2 ∧ w2.heap[b156]? = some (.cells #[.int .i64 h1.1, .string (ofL h1.2.1), .int .i64 h1.2.2] 38 (0, 0)) ∧ Fr (fun r => r = rb) w w2 ∧ (e2, x2) = rngA b h1 e1 x1) ?_ ?_))
 ·refine s_ ?_
  refine r_ (ep E rfl (m_ rfl E.g5) fun a E => ep E rfl (i_ rfl E.g0) fun a E => ep (v := .pointer (some ⟨rb, 3, none⟩)) E rfl (fa62_3 rfl E.g0) fun a E => ep (v := .int .i64 e1) E rfl (run_lde rfl E.g0 (bx hrb 3 rfl)) fun a E => ep (v := .bool (e1 == 0)) E rfl (run_ieql E.g0 rfl Tryz.underlying25 rfl) fun a E => ep E rfl (m_ rfl E.g0) fun a E => ?_)
  cases hq157 : (e1 == 0) with
  | false =>
   rw [hq157] at E
   have hz1 : ¬ e1 = 0 := by simpa using hq157
   refine ek E rfl rfl E.g0 fun a E => ek E rfl rfl E.g1 fun a E => ek E rfl rfl E.g2 fun a E => ek E rfl rfl E.g3 fun a E => eu E rfl rfl E.g0 fun a E => eu E rfl rfl E.g1 fun a E => eu E rfl rfl E.g0 fun a E => eu E rfl rfl E.g1 fun a E => eu E rfl rfl E.g2 fun a E => eu E rfl rfl E.g5 fun a E => ek E rfl rfl E.g10 fun a E => ep (v := .bool false) E rfl (run_pick_f rfl E.g11 rfl) fun a E => n_ (t_ (c_f E.g0 (k_ (t_ ?_))))
   have hqq : rngA b h1 e1 x1 = (e1, x1) := by
    unfold rngA
    rw [if_neg (by first | omega | (simp; omega) | simp_all)]
   exact ⟨_, _, E.of ⟨E.g23, E.g24, E.g18, trivial⟩, hR0, hb156, hf, hqq.symm⟩
  | true =>
   rw [hq157] at E
   have hz1 : e1 = 0 := by simpa using hq157
   refine eg (v := .agg (tkA h1)) E rfl (wy_ E E.g0) (run_ld38 rfl E.g6 (rng3 (p := h1) hb156 0 rfl rfl rfl)) fun a E => env_call (d := 17) (v := .int .i64 (numT h1.2.1)) E rfl (by decide) rfl (wy_ E E.g1) (run_call1 (enters_of Tryz.func91 (by kernel_rfl) rfl) rfl rfl E.g0) (value_calls h1 hd1 hl1 _) fun a w1 f1 E => ?_
   have hrb := f1.obj hrb id
   have hts := srcAt.fr hts f1 (fun r hr => id)
   have hR0 := RdS.fr hR0 f1 (fun r hr => id)
   have hb156 := f1.obj hb156 id
   have hf := hf.trans' f1 (fun _ _ h => h.elim)
   clear f1
   refine eg (v := .bool (decide (24 < (numT h1.2.1)))) E rfl (wy_ E E.g2) (run_igtr E.g0 rfl Tryz.underlying3 rfl) fun a E => eg E rfl (wy_ E E.g3) (m_ rfl E.g0) fun a E => ?_
   cases hq158 : (decide (24 < (numT h1.2.1))) with
   | false =>
    rw [hq158] at E
    have hc159 := of_decide_eq_false hq158
    refine eg E rfl (wy_ E E.g0) (m_ rfl E.g16) fun a E => eg E rfl (wy_ E E.g1) (m_ rfl E.g0) fun a E => ?_
    cases hq160 : b with
    | false =>
     rw [hq160] at E
     refine ek E rfl rfl E.g0 fun a E => ek E rfl rfl E.g1 fun a E => ek E rfl rfl E.g2 fun a E => eg (v := .bool false) E rfl (wy_ E E.g5) (run_pick_f rfl E.g3 rfl) fun a E => eg (v := .bool false) E rfl (wy_ E E.g10) (run_pick_f rfl E.g6 E.g0) fun a E => ep (v := .bool false) E rfl (run_pick_t rfl E.g11 E.g0) fun a E => n_ (t_ (c_f E.g0 (k_ (t_ ?_))))
     have hqq : rngA false h1 e1 x1 = (e1, x1) := by
      unfold rngA
      rw [if_neg (by first | omega | (simp; omega) | simp_all)]
     exact ⟨_, _, E.of ⟨E.g23, E.g24, E.g18, trivial⟩, hR0, hb156, hf, hqq.symm⟩
    | true =>
     rw [hq160] at E
     refine eg (v := .agg (tkA h1)) E rfl (wy_ E E.g0) (run_ld38 rfl E.g12 (rng3 (p := h1) hb156 0 rfl rfl rfl)) fun a E => env_call (d := 23) (v := .int .i64 (numT h1.2.1)) E rfl (by decide) rfl (wy_ E E.g1) (run_call1 (enters_of Tryz.func91 (by kernel_rfl) rfl) rfl rfl E.g0) (value_calls h1 hd1 hl1 _) fun a w1 f1 E => ?_
     have hrb := f1.obj hrb id
     have hts := srcAt.fr hts f1 (fun r hr => id)
     have hR0 := RdS.fr hR0 f1 (fun r hr => id)
     have hb156 := f1.obj hb156 id
     have hf := hf.trans' f1 (fun _ _ h => h.elim)
     clear f1
     refine eg (v := .bool ((numT h1.2.1) == 24)) E rfl (wy_ E E.g2) (run_ieql E.g0 rfl Tryz.underlying3 rfl) fun a E => eg (v := .bool ((numT h1.2.1) == 24)) E rfl (wy_ E E.g5) (run_pick_t rfl E.g3 E.g0) fun a E => eg (v := .bool ((numT h1.2.1) == 24)) E rfl (wy_ E E.g10) (run_pick_f rfl E.g6 E.g0) fun a E => ep (v := .bool ((numT h1.2.1) == 24)) E rfl (run_pick_t rfl E.g11 E.g0) fun a E => n_ (t_ ?_)
     cases hq161 : ((numT h1.2.1) == 24) with
     | false =>
      rw [hq161] at E
      have hc162 : ¬ numT h1.2.1 = 24 := by simpa using hq161
      refine c_f E.g0 (k_ (t_ ?_))
      have hqq : rngA true h1 e1 x1 = (e1, x1) := by
       unfold rngA
       rw [if_neg (by first | omega | (simp; omega) | simp_all)]
      exact ⟨_, _, E.of ⟨E.g23, E.g24, E.g18, trivial⟩, hR0, hb156, hf, hqq.symm⟩
     | true =>
      rw [hq161] at E
      have hc163 : numT h1.2.1 = 24 := by simpa using hq161
      refine c_t E.g0 (r_ (ep E rfl (m_ rfl E.g23) fun a E => ep (v := .pointer (some ⟨b156, 2, none⟩)) E rfl (fa38_2 rfl E.g19) fun a E => ep (v := .int .i64 h1.2.2) E rfl (run_ldi rfl E.g0 (bx hb156 2 rfl)) fun a E => env_callv (d := 31) (R := fun u w8 => u = .tuple #[] ∧ Fr (fun r => r = rb) w1 w8 ∧ RdS w8 rb G en ts (i1) ((firstE e1 x1 (10, h1.2.2)).1) ((firstE e1 x1 (10, h1.2.2)).2)) E rfl (by decide) rfl (wanted_none rfl _) (run_call3 (enters_of Tryz.func41 (by kernel_rfl) rfl) rfl rfl E.g2 rfl E.g0) ((raise_calls hR0 10 h1.2.2).mono fun e w8 h => ⟨_, h.1, rfl, h.2⟩) fun a w1 u ⟨hu, f1, hR2⟩ E => ?_))
      subst hu
      have hb156 := f1.obj hb156 nq_
      have hf := hf.trans f1
      clear f1
      have hR0 := hR2
      clear hR2
      obtain ⟨hGr, lv, hrb, htkS⟩ := id hR0
      obtain ⟨pl, cl, hlv, hlv0, hlv1, hts, hzl⟩ := htkS
      subst hlv
      refine n_ (t_ ?_)
      have hqq : rngA true h1 e1 x1 = (10, h1.2.2) := by
       unfold rngA
       rw [if_pos (by first | omega | (simp; omega) | simp_all)]
      have hqf : firstE e1 x1 (10, h1.2.2) = (10, h1.2.2) := if_pos hz1
      rw [hqf] at hR0
      exact ⟨_, _, E.of ⟨E.g27, E.g28, E.g22, trivial⟩, hR0, hb156, hf, hqq.symm⟩
   | true =>
    rw [hq158] at E
    have hc164 := of_decide_eq_true hq158
    refine ek E rfl rfl E.g0 fun a E => ek E rfl rfl E.g1 fun a E => eu E rfl rfl E.g0 fun a E => eu E rfl rfl E.g1 fun a E => eu E rfl rfl E.g2 fun a E => ek E rfl rfl E.g5 fun a E => eg (v := .bool true) E rfl (wy_ E E.g10) (run_pick_t rfl E.g6 rfl) fun a E => ep (v := .bool true) E rfl (run_pick_t rfl E.g11 E.g0) fun a E => n_ (t_ (c_t E.g0 (r_ (ep E rfl (m_ rfl E.g23) fun a E => ep (v := .pointer (some ⟨b156, 2, none⟩)) E rfl (fa38_2 rfl E.g19) fun a E => ep (v := .int .i64 h1.2.2) E rfl (run_ldi rfl E.g0 (bx hb156 2 rfl)) fun a E => env_callv (d := 31) (R := fun u w8 => u = .tuple #[] ∧ Fr (fun r => r = rb) w1 w8 ∧ RdS w8 rb G en ts (i1) ((firstE e1 x1 (10, h1.2.2)).1) ((firstE e1 x1 (10, h1.2.2)).2)) E rfl (by decide) rfl (wanted_none rfl _) (run_call3 (enters_of Tryz.func41 (by kernel_rfl) rfl) rfl rfl E.g2 rfl E.g0) ((raise_calls hR0 10 h1.2.2).mono fun e w8 h => ⟨_, h.1, rfl, h.2⟩) fun a w1 u ⟨hu, f1, hR2⟩ E => ?_))))
    subst hu
    have hb156 := f1.obj hb156 nq_
    have hf := hf.trans f1
    clear f1
    have hR0 := hR2
    clear hR2
    obtain ⟨hGr, lv, hrb, htkS⟩ := id hR0
    obtain ⟨pl, cl, hlv, hlv0, hlv1, hts, hzl⟩ := htkS
    subst hlv
    refine n_ (t_ ?_)
    have hqq : rngA b h1 e1 x1 = (10, h1.2.2) := by
     unfold rngA
     rw [if_pos (by first | omega | (simp; omega) | simp_all)]
    have hqf : firstE e1 x1 (10, h1.2.2) = (10, h1.2.2) := if_pos hz1
    rw [hqf] at hR0
    exact ⟨_, _, E.of ⟨E.g27, E.g28, E.g22, trivial⟩, hR0, hb156, hf, hqq.symm⟩
 rintro a w2 ⟨e2, x2, E, hR0, hb156, hf, hq2⟩
 obtain ⟨hGr, lv, hrb, htkS⟩ := id hR0
 obtain ⟨pl, cl, hlv, hlv0, hlv1, hts, hzl⟩ := htkS
 subst hlv
 refine s_ (r_ (ep E rfl (m_ rfl E.g0) fun a E => ?_))
 obtain ⟨⟨e3, x3⟩, hm3⟩ : ∃ q, q = mustE en [58] (ts.drop (i1)) (e2) (x2) := ⟨_, rfl⟩
 refine env_callv (d := 33) (R := fun u w8 => u = .tuple #[] ∧ Fr (fun r => r = rb) w2 w8 ∧ RdS w8 rb G en ts (i1 + 1) (e3) (x3)) E rfl (by decide) rfl (wanted_none rfl _) (run_call2 (enters_of Tryz.func65 (by kernel_rfl) rfl) rfl rfl E.g0 rfl) ((must_calls hR0 (by omega) [58]).mono fun e w8 h => by rw [← hm3] at h; exact ⟨_, h.1, rfl, h.2⟩) fun a w1 u ⟨hu, f1, hR2⟩ E => ?_
 subst hu
 have hb156 := f1.obj hb156 nq_
 have hf := hf.trans f1
 clear f1
 have hR0 := hR2
 clear hR2
 obtain ⟨hGr, lv, hrb, htkS⟩ := id hR0
 obtain ⟨pl, cl, hlv, hlv0, hlv1, hts, hzl⟩ := htkS
 subst hlv
 refine n_ (t_ (s_ (r_ (ep E rfl (m_ rfl E.g2) fun a E => ?_))))
 obtain ⟨⟨h4, i4, e4, x4⟩, hn4⟩ : ∃ q, q = numR en ts (i1 + 1) (e3) (x3) := ⟨_, rfl⟩
 have hdg4 := numR_dig hk (en := en) (i := i1 + 1) (e := e3) (x := x3)
 rw [← hn4] at hdg4
 obtain ⟨hd4, hl4, hi4⟩ := hdg4
 replace hd4 : ∀ b ∈ h4.2.1, isDig b = true := hd4
 replace hl4 : h4.2.1.length ≤ 7 := hl4
 replace hi4 : i4 ≤ i1 + 1 + 1 := hi4
 have hv4 := numT_rng hd4 hl4
 refine env_callv (d := 35) (R := fun u w8 => u = .agg (tkA h4) ∧ Fr (fun r => r = rb) w1 w8 ∧ RdS w8 rb G en ts (i4) (e4) (x4)) E rfl (by decide) rfl (wanted_none rfl _) (run_call1 (enters_of Tryz.func90 (by kernel_rfl) rfl) rfl rfl E.g0) ((number90_calls hR0 (by omega)).mono fun e w8 h => by rw [← hn4] at h; exact ⟨_, h.1, rfl, h.2⟩) fun a w1 u ⟨hu, f1, hR2⟩ E => ?_
 subst hu
 have hb156 := f1.obj hb156 nq_
 have hf := hf.trans f1
 clear f1
 have hR0 := hR2
 clear hR2
 obtain ⟨hGr, lv, hrb, htkS⟩ := id hR0
 obtain ⟨pl, cl, hlv, hlv0, hlv1, hts, hzl⟩ := htkS
 subst hlv
 refine env_new (d := 7) E rfl (by decide) rfl (wanted_none rfl _) (run_alloc38 rfl) fun a w1 b165 eb165 hb165 f1 E => ?_
 have hnb165 : w.heap.size ≤ b165 := by have := hf.size; omega
 have hlb156b165 : b156 < b165 := by have := lt_of_blk hb156; omega
 have hlrbb165 : rb < b165 := by have := lt_of_blk hrb; omega
 have hb156 := f1.obj hb156 id
 have hrb := f1.obj hrb id
 have hts := srcAt.fr hts f1 (fun r hr => id)
 have hR0 := RdS.fr hR0 f1 (fun r hr => id)
 have hf := hf.trans' f1 (fun _ _ h => h.elim)
 clear f1
 refine env_st38 (s := (0, [], 0)) E rfl (wanted_none rfl _) rfl E.g0 E.g1 hb165 fun w1 hb165n f1 E => ?_
 have hb156 := f1.obj hb156 nq_
 have hrb := f1.obj hrb nq_
 have hts := srcAt.fr hts f1 (fun _ hr => nq_)
 have hR0 := RdS.fr hR0 f1 (fun _ hr => nq_)
 have hf := hf.trans' f1 (fun _ hr => nq_)
 clear f1
 replace hb165 := hb165n
 refine n_ (t_ (wp_seq_cut (fun a w2 => ∃ e5 x5, Env 74 [(0, .pointer (some ⟨rb, 0, none⟩)), (6, .pointer (some ⟨b156, 0, none⟩)), (7, .pointer (some ⟨b165, 0, none⟩))] a ∧ RdS w2 rb G en ts (i4) e5 x5 ∧ w2.heap[b156]? = some (.cells #[.int .i64 h1.1, .string (ofL h1.2.1), .int .i64 h1.2.2] 38 (0, 0)) ∧ w2.heap[b165]? = some (.cells #[.int .i64 h4.1, .string (ofL h4.2.1), .int .i64 h4.2.2] 38 (0, 0)) ∧ Fr (fun r => r = rb) w w2 ∧ (e5, x5) = rngB h1 h4 e4 x4) ?_ ?_))
 ·refine s_ ?_
  refine r_ (ep E rfl (m_ rfl E.g5) fun a E => ep E rfl (i_ rfl E.g0) fun a E => ep (v := .pointer (some ⟨rb, 3, none⟩)) E rfl (fa62_3 rfl E.g0) fun a E => ep (v := .int .i64 e4) E rfl (run_lde rfl E.g0 (bx hrb 3 rfl)) fun a E => ep (v := .bool (e4 == 0)) E rfl (run_ieql E.g0 rfl Tryz.underlying25 rfl) fun a E => ep E rfl (m_ rfl E.g0) fun a E => ?_)
  cases hq166 : (e4 == 0) with
  | false =>
   rw [hq166] at E
   have hz4 : ¬ e4 = 0 := by simpa using hq166
   refine ek E rfl rfl E.g0 fun a E => ek E rfl rfl E.g1 fun a E => ek E rfl rfl E.g2 fun a E => ek E rfl rfl E.g3 fun a E => ek E rfl rfl E.g4 fun a E => eu E rfl rfl E.g0 fun a E => eu E rfl rfl E.g1 fun a E => eu E rfl rfl E.g2 fun a E => ek E rfl rfl E.g8 fun a E => ek E rfl rfl E.g9 fun a E => eu E rfl rfl E.g0 fun a E => eu E rfl rfl E.g1 fun a E => eu E rfl rfl E.g2 fun a E => eu E rfl rfl E.g3 fun a E => eu E rfl rfl E.g0 fun a E => eu E rfl rfl E.g1 fun a E => eu E rfl rfl E.g2 fun a E => eu E rfl rfl E.g7 fun a E => ek E rfl rfl E.g18 fun a E => ep (v := .bool false) E rfl (run_pick_f rfl E.g19 rfl) fun a E => n_ (t_ (c_f E.g0 (k_ (t_ ?_))))
   have hqq : rngB h1 h4 e4 x4 = (e4, x4) := by
    unfold rngB
    rw [if_neg (by first | omega | (simp; omega) | simp_all)]
   exact ⟨_, _, E.of ⟨E.g31, E.g33, E.g26, trivial⟩, hR0, hb156, hb165, hf, hqq.symm⟩
  | true =>
   rw [hq166] at E
   have hz4 : e4 = 0 := by simpa using hq166
   refine eg (v := .pointer (some ⟨b165, 1, none⟩)) E rfl (wy_ E E.g0) (fa38_1 rfl E.g6) fun a E => eg (v := .string (ofL h4.2.1)) E rfl (wy_ E E.g1) (run_lds rfl E.g0 (bx hb165 1 rfl)) fun a E => eg (v := .int .i64 (h4.2.1.length : Int)) E rfl (wy_ E E.g2) (run_slen rfl E.g0) fun a E => eg (v := .bool ((h4.2.1.length : Int) != 2)) E rfl (wy_ E E.g3) (run_ineq E.g0 rfl Tryz.underlying3 rfl) fun a E => eg E rfl (wy_ E E.g4) (m_ rfl E.g0) fun a E => ?_
   cases hq167 : ((h4.2.1.length : Int) != 2) with
   | false =>
    rw [hq167] at E
    have hc168 : h4.2.1.length = 2 := by have h9 := hq167; simp at h9; omega
    refine eg (v := .agg (tkA h4)) E rfl (wy_ E E.g0) (run_ld38 rfl E.g11 (rng3 (p := h4) hb165 0 rfl rfl rfl)) fun a E => env_call (d := 48) (v := .int .i64 (numT h4.2.1)) E rfl (by decide) rfl (wy_ E E.g1) (run_call1 (enters_of Tryz.func91 (by kernel_rfl) rfl) rfl rfl E.g0) (value_calls h4 hd4 hl4 _) fun a w1 f1 E => ?_
    have hb156 := f1.obj hb156 id
    have hrb := f1.obj hrb id
    have hts := srcAt.fr hts f1 (fun r hr => id)
    have hR0 := RdS.fr hR0 f1 (fun r hr => id)
    have hb165 := f1.obj hb165 id
    have hf := hf.trans' f1 (fun _ _ h => h.elim)
    clear f1
    refine eg (v := .bool (decide (59 < (numT h4.2.1)))) E rfl (wy_ E E.g2) (run_igtr E.g0 rfl Tryz.underlying3 rfl) fun a E => eg (v := .bool (decide (59 < (numT h4.2.1)))) E rfl (wy_ E E.g8) (run_pick_f rfl E.g3 E.g0) fun a E => eg E rfl (wy_ E E.g9) (m_ rfl E.g0) fun a E => ?_
    cases hq169 : (decide (59 < (numT h4.2.1))) with
    | false =>
     rw [hq169] at E
     have hc170 := of_decide_eq_false hq169
     refine eg (v := .agg (tkA h1)) E rfl (wy_ E E.g0) (run_ld38 rfl E.g23 (rng3 (p := h1) hb156 0 rfl rfl rfl)) fun a E => env_call (d := 53) (v := .int .i64 (numT h1.2.1)) E rfl (by decide) rfl (wy_ E E.g1) (run_call1 (enters_of Tryz.func91 (by kernel_rfl) rfl) rfl rfl E.g0) (value_calls h1 hd1 hl1 _) fun a w1 f1 E => ?_
     have hb156 := f1.obj hb156 id
     have hrb := f1.obj hrb id
     have hts := srcAt.fr hts f1 (fun r hr => id)
     have hR0 := RdS.fr hR0 f1 (fun r hr => id)
     have hb165 := f1.obj hb165 id
     have hf := hf.trans' f1 (fun _ _ h => h.elim)
     clear f1
     refine eg (v := .bool ((numT h1.2.1) == 24)) E rfl (wy_ E E.g2) (run_ieql E.g0 rfl Tryz.underlying3 rfl) fun a E => eg E rfl (wy_ E E.g3) (m_ rfl E.g0) fun a E => ?_
     cases hq171 : ((numT h1.2.1) == 24) with
     | false =>
      rw [hq171] at E
      have hc172 : ¬ numT h1.2.1 = 24 := by simpa using hq171
      refine ek E rfl rfl E.g0 fun a E => ek E rfl rfl E.g1 fun a E => ek E rfl rfl E.g2 fun a E => eg (v := .bool false) E rfl (wy_ E E.g7) (run_pick_f rfl E.g3 rfl) fun a E => eg (v := .bool false) E rfl (wy_ E E.g18) (run_pick_f rfl E.g8 E.g0) fun a E => ep (v := .bool false) E rfl (run_pick_t rfl E.g19 E.g0) fun a E => n_ (t_ (c_f E.g0 (k_ (t_ ?_))))
      have hqq : rngB h1 h4 e4 x4 = (e4, x4) := by
       unfold rngB
       rw [if_neg (by first | omega | (simp; omega) | simp_all)]
      exact ⟨_, _, E.of ⟨E.g31, E.g33, E.g26, trivial⟩, hR0, hb156, hb165, hf, hqq.symm⟩
     | true =>
      rw [hq171] at E
      have hc173 : numT h1.2.1 = 24 := by simpa using hq171
      refine eg (v := .agg (tkA h4)) E rfl (wy_ E E.g0) (run_ld38 rfl E.g20 (rng3 (p := h4) hb165 0 rfl rfl rfl)) fun a E => env_call (d := 57) (v := .int .i64 (numT h4.2.1)) E rfl (by decide) rfl (wy_ E E.g1) (run_call1 (enters_of Tryz.func91 (by kernel_rfl) rfl) rfl rfl E.g0) (value_calls h4 hd4 hl4 _) fun a w1 f1 E => ?_
      have hb156 := f1.obj hb156 id
      have hrb := f1.obj hrb id
      have hts := srcAt.fr hts f1 (fun r hr => id)
      have hR0 := RdS.fr hR0 f1 (fun r hr => id)
      have hb165 := f1.obj hb165 id
      have hf := hf.trans' f1 (fun _ _ h => h.elim)
      clear f1
      refine eg (v := .bool ((numT h4.2.1) != 0)) E rfl (wy_ E E.g2) (run_ineq E.g0 rfl Tryz.underlying3 rfl) fun a E => eg (v := .bool ((numT h4.2.1) != 0)) E rfl (wy_ E E.g7) (run_pick_t rfl E.g3 E.g0) fun a E => eg (v := .bool ((numT h4.2.1) != 0)) E rfl (wy_ E E.g18) (run_pick_f rfl E.g8 E.g0) fun a E => ep (v := .bool ((numT h4.2.1) != 0)) E rfl (run_pick_t rfl E.g19 E.g0) fun a E => n_ (t_ ?_)
      cases hq174 : ((numT h4.2.1) != 0) with
      | false =>
       rw [hq174] at E
       have hc175 : numT h4.2.1 = 0 := by simpa using hq174
       refine c_f E.g0 (k_ (t_ ?_))
       have hqq : rngB h1 h4 e4 x4 = (e4, x4) := by
        unfold rngB
        rw [if_neg (by first | omega | (simp; omega) | simp_all)]
       exact ⟨_, _, E.of ⟨E.g31, E.g33, E.g26, trivial⟩, hR0, hb156, hb165, hf, hqq.symm⟩
      | true =>
       rw [hq174] at E
       have hc176 : ¬ numT h4.2.1 = 0 := by simpa using hq174
       refine c_t E.g0 (r_ (ep E rfl (m_ rfl E.g31) fun a E => ep (v := .pointer (some ⟨b165, 2, none⟩)) E rfl (fa38_2 rfl E.g27) fun a E => ep (v := .int .i64 h4.2.2) E rfl (run_ldi rfl E.g0 (bx hb165 2 rfl)) fun a E => env_callv (d := 65) (R := fun u w8 => u = .tuple #[] ∧ Fr (fun r => r = rb) w1 w8 ∧ RdS w8 rb G en ts (i4) ((firstE e4 x4 (10, h4.2.2)).1) ((firstE e4 x4 (10, h4.2.2)).2)) E rfl (by decide) rfl (wanted_none rfl _) (run_call3 (enters_of Tryz.func41 (by kernel_rfl) rfl) rfl rfl E.g2 rfl E.g0) ((raise_calls hR0 10 h4.2.2).mono fun e w8 h => ⟨_, h.1, rfl, h.2⟩) fun a w1 u ⟨hu, f1, hR2⟩ E => ?_))
       subst hu
       have hb156 := f1.obj hb156 nq_
       have hb165 := f1.obj hb165 nq_
       have hf := hf.trans f1
       clear f1
       have hR0 := hR2
       clear hR2
       obtain ⟨hGr, lv, hrb, htkS⟩ := id hR0
       obtain ⟨pl, cl, hlv, hlv0, hlv1, hts, hzl⟩ := htkS
       subst hlv
       refine n_ (t_ ?_)
       have hqq : rngB h1 h4 e4 x4 = (10, h4.2.2) := by
        unfold rngB
        rw [if_pos (by first | omega | (simp; omega) | simp_all)]
       have hqf : firstE e4 x4 (10, h4.2.2) = (10, h4.2.2) := if_pos hz4
       rw [hqf] at hR0
       exact ⟨_, _, E.of ⟨E.g35, E.g37, E.g30, trivial⟩, hR0, hb156, hb165, hf, hqq.symm⟩
    | true =>
     rw [hq169] at E
     have hc177 := of_decide_eq_true hq169
     refine ek E rfl rfl E.g0 fun a E => ek E rfl rfl E.g1 fun a E => ek E rfl rfl E.g2 fun a E => ek E rfl rfl E.g3 fun a E => eu E rfl rfl E.g0 fun a E => eu E rfl rfl E.g1 fun a E => eu E rfl rfl E.g2 fun a E => ek E rfl rfl E.g7 fun a E => eg (v := .bool true) E rfl (wy_ E E.g18) (run_pick_t rfl E.g8 rfl) fun a E => ep (v := .bool true) E rfl (run_pick_t rfl E.g19 E.g0) fun a E => n_ (t_ (c_t E.g0 (r_ (ep E rfl (m_ rfl E.g31) fun a E => ep (v := .pointer (some ⟨b165, 2, none⟩)) E rfl (fa38_2 rfl E.g27) fun a E => ep (v := .int .i64 h4.2.2) E rfl (run_ldi rfl E.g0 (bx hb165 2 rfl)) fun a E => env_callv (d := 65) (R := fun u w8 => u = .tuple #[] ∧ Fr (fun r => r = rb) w1 w8 ∧ RdS w8 rb G en ts (i4) ((firstE e4 x4 (10, h4.2.2)).1) ((firstE e4 x4 (10, h4.2.2)).2)) E rfl (by decide) rfl (wanted_none rfl _) (run_call3 (enters_of Tryz.func41 (by kernel_rfl) rfl) rfl rfl E.g2 rfl E.g0) ((raise_calls hR0 10 h4.2.2).mono fun e w8 h => ⟨_, h.1, rfl, h.2⟩) fun a w1 u ⟨hu, f1, hR2⟩ E => ?_))))
     subst hu
     have hb156 := f1.obj hb156 nq_
     have hb165 := f1.obj hb165 nq_
     have hf := hf.trans f1
     clear f1
     have hR0 := hR2
     clear hR2
     obtain ⟨hGr, lv, hrb, htkS⟩ := id hR0
     obtain ⟨pl, cl, hlv, hlv0, hlv1, hts, hzl⟩ := htkS
     subst hlv
     refine n_ (t_ ?_)
     have hqq : rngB h1 h4 e4 x4 = (10, h4.2.2) := by
      unfold rngB
      rw [if_pos (by first | omega | (simp; omega) | simp_all)]
     have hqf : firstE e4 x4 (10, h4.2.2) = (10, h4.2.2) := if_pos hz4
     rw [hqf] at hR0
     exact ⟨_, _, E.of ⟨E.g35, E.g37, E.g30, trivial⟩, hR0, hb156, hb165, hf, hqq.symm⟩
   | true =>
    rw [hq167] at E
    have hc178 : ¬ h4.2.1.length = 2 := by have h9 := hq167; simp at h9; omega
    refine ek E rfl rfl E.g0 fun a E => ek E rfl rfl E.g1 fun a E => ek E rfl rfl E.g2 fun a E => eg (v := .bool true) E rfl (wy_ E E.g8) (run_pick_t rfl E.g3 rfl) fun a E => eg E rfl (wy_ E E.g9) (m_ rfl E.g0) fun a E => ek E rfl rfl E.g0 fun a E => ek E rfl rfl E.g1 fun a E => ek E rfl rfl E.g2 fun a E => ek E rfl rfl E.g3 fun a E => eu E rfl rfl E.g0 fun a E => eu E rfl rfl E.g1 fun a E => eu E rfl rfl E.g2 fun a E => ek E rfl rfl E.g7 fun a E => eg (v := .bool true) E rfl (wy_ E E.g18) (run_pick_t rfl E.g8 rfl) fun a E => ep (v := .bool true) E rfl (run_pick_t rfl E.g19 E.g0) fun a E => n_ (t_ (c_t E.g0 (r_ (ep E rfl (m_ rfl E.g31) fun a E => ep (v := .pointer (some ⟨b165, 2, none⟩)) E rfl (fa38_2 rfl E.g27) fun a E => ep (v := .int .i64 h4.2.2) E rfl (run_ldi rfl E.g0 (bx hb165 2 rfl)) fun a E => env_callv (d := 65) (R := fun u w8 => u = .tuple #[] ∧ Fr (fun r => r = rb) w1 w8 ∧ RdS w8 rb G en ts (i4) ((firstE e4 x4 (10, h4.2.2)).1) ((firstE e4 x4 (10, h4.2.2)).2)) E rfl (by decide) rfl (wanted_none rfl _) (run_call3 (enters_of Tryz.func41 (by kernel_rfl) rfl) rfl rfl E.g2 rfl E.g0) ((raise_calls hR0 10 h4.2.2).mono fun e w8 h => ⟨_, h.1, rfl, h.2⟩) fun a w1 u ⟨hu, f1, hR2⟩ E => ?_))))
    subst hu
    have hb156 := f1.obj hb156 nq_
    have hb165 := f1.obj hb165 nq_
    have hf := hf.trans f1
    clear f1
    have hR0 := hR2
    clear hR2
    obtain ⟨hGr, lv, hrb, htkS⟩ := id hR0
    obtain ⟨pl, cl, hlv, hlv0, hlv1, hts, hzl⟩ := htkS
    subst hlv
    refine n_ (t_ ?_)
    have hqq : rngB h1 h4 e4 x4 = (10, h4.2.2) := by
     unfold rngB
     rw [if_pos (by first | omega | (simp; omega) | simp_all)]
    have hqf : firstE e4 x4 (10, h4.2.2) = (10, h4.2.2) := if_pos hz4
    rw [hqf] at hR0
    exact ⟨_, _, E.of ⟨E.g35, E.g37, E.g30, trivial⟩, hR0, hb156, hb165, hf, hqq.symm⟩
 rintro a w2 ⟨e5, x5, E, hR0, hb156, hb165, hf, hq6⟩
 obtain ⟨hGr, lv, hrb, htkS⟩ := id hR0
 obtain ⟨pl, cl, hlv, hlv0, hlv1, hts, hzl⟩ := htkS
 subst hlv
 refine s_ (wp_region_inv (n := 74) (base := [(0, .pointer (some ⟨rb, 0, none⟩)), (6, .pointer (some ⟨b156, 0, none⟩)), (7, .pointer (some ⟨b165, 0, none⟩))]) (T := [some (66, .agg (tkA h1)), some (67, .int .i64 (numT h1.2.1)), some (68, .int .i64 (60 * (numT h1.2.1))), some (69, .agg (tkA h4)), some (70, .int .i64 (numT h4.2.1)), some (71, .int .i64 ((60 * (numT h1.2.1)) + (numT h4.2.1))), some (72, .pointer (some ⟨b156, 2, none⟩)), some (73, .int .i64 h1.2.2), some (4, .int .i64 ((60 * (numT h1.2.1)) + (numT h4.2.1))), some (5, .int .i64 h1.2.2)]) (M := fun _ wm => Fr (fun _ => False) w2 wm) (by kernel_rfl) (by kernel_rfl) (by kernel_rfl) (E.of ⟨E.g0, E.g1, E.g2, trivial⟩) (Fr.refl _ _).drew ?_ ?_)
 ·intro j9 o9 t9 ls9 a w5 ho hT0 hl E D DL hM
  have hb156 := hM.obj hb156 id
  have hb165 := hM.obj hb165 id
  have hrb := hM.obj hrb id
  have hts := srcAt.fr hts hM (fun r hr => id)
  have hR0 := RdS.fr hR0 hM (fun r hr => id)
  match j9, ho, hT0, hl, D, DL with
  | 0, ho, hT0, hl, D, DL => exact y9_ ho hT0 (val_wp (run_ld38 rfl E.g1 (rng3 (p := h1) hb156 0 rfl rfl rfl)) rfl hM)
  | 1, ho, hT0, hl, D, DL => exact y9_ ho hT0 (call_wp (run_call1 (enters_of Tryz.func91 (by kernel_rfl) rfl) rfl rfl (D 0 _ rfl rfl)) (value_calls h1 hd1 hl1 _) rfl fun w9 f1 => (hM.trans f1))
  | 2, ho, hT0, hl, D, DL => exact y9_ ho hT0 (val_wp (run_imul Tryz.underlying3 rfl (D 1 _ rfl rfl) (by omega) (by omega) rfl) rfl hM)
  | 3, ho, hT0, hl, D, DL => exact y9_ ho hT0 (val_wp (run_ld38 rfl E.g2 (rng3 (p := h4) hb165 0 rfl rfl rfl)) rfl hM)
  | 4, ho, hT0, hl, D, DL => exact y9_ ho hT0 (call_wp (run_call1 (enters_of Tryz.func91 (by kernel_rfl) rfl) rfl rfl (D 3 _ rfl rfl)) (value_calls h4 hd4 hl4 _) rfl fun w9 f1 => (hM.trans f1))
  | 5, ho, hT0, hl, D, DL => exact y9_ ho hT0 (val_wp (run_iadd Tryz.underlying3 (D 2 _ rfl rfl) (D 4 _ rfl rfl) (by omega) (by omega) rfl) rfl hM)
  | 6, ho, hT0, hl, D, DL => exact y9_ ho hT0 (val_wp (fa38_2 rfl E.g1) rfl hM)
  | 7, ho, hT0, hl, D, DL => exact y9_ ho hT0 (val_wp (run_ldi rfl (D 6 _ rfl rfl) (bx hb156 2 rfl)) rfl hM)
  | 8, ho, hT0, hl, D, DL => exact y9_ ho hT0 (val_wp (a_ rfl (D 5 _ rfl rfl)) rfl hM)
  | 9, ho, hT0, hl, D, DL => exact y9_ ho hT0 (val_wp (a_ rfl (D 7 _ rfl rfl)) rfl hM)
  | j9 + 10, ho, hT0, hl, D, DL => exact absurd hT0 (by simp)
 ·intro a w5 E V hM
  have E := E.add (V 8 _ rfl)
  have E := E.add (V 9 _ rfl)
  clear V
  have hb156 := hM.obj hb156 id
  have hb165 := hM.obj hb165 id
  have hrb := hM.obj hrb id
  have hts := srcAt.fr hts hM (fun r hr => id)
  have hR0 := RdS.fr hR0 hM (fun r hr => id)
  have hf := hf.trans' hM (fun _ _ h => h.elim)
  clear hM
  refine t_ (wr_ (ret_tmp2 (t := 4) (t2 := 5) rfl E E.g1 E.g0 ?_))
  exact ⟨h1, h4, i1, i4, e1, x1, e2, x2, e3, x3, ((e4, x4), (e5, x5)), hn1, hq2, hm3, hn4, hq6, rfl, hR0, hf⟩
end Go.Proofs.YtjaffpnegdcjnaaGreatDoor
/- The reference clock is the reader's clock. -/
set_option linter.unusedVariables false
set_option linter.unusedSimpArgs false
namespace Go.Proofs.YtjaffpnegdcjnaaGreatDoor
open Go.RowKit Go.Pl
theorem numR_take {en : Int} {ts : List (Tok Int)} (i : Nat) (x : Int) : numR en ts i 0 x = match take en 2 [] (ts.drop i) with | .ok (t, _) => (t, i + 1, 0, x) | .error (c, y) => ((0, [], 0), i, c, y) := by
 unfold numR take
 rw [if_pos rfl]
 cases ts.drop i with
 | nil => rfl
 | cons t l =>
  simp only [sees, List.isEmpty_nil, Bool.true_or, Bool.and_true]
  by_cases h : t.1 = 2
  ·rw [if_pos h, if_pos (by simpa using h)]
  ·rw [if_neg h, if_neg (by simpa using h)]
theorem numR_err {en : Int} {ts : List (Tok Int)} {i : Nat} {e x : Int} (h : e ≠ 0) : numR en ts i e x = ((0, [], 0), i, e, x) := by unfold numR; rw [if_neg h]
theorem mustE_err {en : Int} {s : Bys} {ts : List (Tok Int)} {e x : Int} (h : e ≠ 0) : mustE en s ts e x = (e, x) := by unfold mustE; rw [if_neg (fun k => h k.1)]
theorem rngA_err {b : Bool} {h : Tok Int} {e x : Int} (k : e ≠ 0) : rngA b h e x = (e, x) := by unfold rngA; rw [if_neg (fun z => k z.1)]
theorem rngB_err {h m : Tok Int} {e x : Int} (k : e ≠ 0) : rngB h m e x = (e, x) := by unfold rngB; rw [if_neg (fun z => k z.1)]
/-- A symbol: of the tokens that the lexer makes only a symbol is written so. -/
theorem seesR_sym {c : UInt8} (hc : isSym c = true) {ts : List (Tok Int)} (hk : Tk ts) : seesR [c] ts = sees 4 [[c]] ts := by
 cases ts with
 | nil => rfl
 | cons t l =>
  have hs := isSym_cls hc
  show (t.1 != 3 && t.2.1 == [c]) = (t.1 == 4 && (([[c]] : List Bys).isEmpty || ([[c]] : List Bys).contains t.2.1))
  rcases hk t (by simp) with ⟨h1, d, r, h2, h3⟩ | ⟨h1, h2, h3, h4⟩ | h1 | ⟨h1, d, h2, h3⟩
  ·have hn : ¬ t.2.1 = [c] := by
    intro h; rw [h2] at h; cases h
    have := hs.2.2.1
    rw [h3] at this; cases this
   rw [h1, beq_eq_false_iff_ne.2 hn]; simp
  ·have hn : ¬ t.2.1 = [c] := by
    intro h; rw [h] at h4
    have h5 := h4 c (by simp)
    have := hs.2.2.2.1
    rw [h5] at this; cases this
   rw [h1, beq_eq_false_iff_ne.2 hn]; simp
  ·rw [h1]; simp
  ·rw [h1, Bool.eq_iff_iff]; simp
theorem mustE_take {en : Int} {c : UInt8} (hc : isSym c = true) {ts : List (Tok Int)} (hk : Tk ts) (x : Int) : mustE en [c] ts 0 x = match take en 4 [[c]] ts with | .ok _ => (0, x) | .error q => q := by
 unfold mustE
 rw [seesR_sym hc hk]
 unfold take
 cases ts with
 | nil => rfl
 | cons t l =>
  simp only
  cases h : sees 4 [[c]] (t :: l) with
  | true => simp
  | false => simp [failP]
theorem take_drop {en k : Int} {xs : List Bys} {ts : List (Tok Int)} {i : Nat} {t : Tok Int} {l : List (Tok Int)} (h : take en k xs (ts.drop i) = .ok (t, l)) : l = ts.drop (i + 1) := by
 have := (take_ok h).1
 have h2 := congrArg (List.drop 1) this
 simpa [List.drop_drop, Nat.add_comm] using h2.symm
theorem take_err5 {en k : Int} {xs : List Bys} {ts : List (Tok Int)} {c y : Int} (h : take en k xs ts = .error (c, y)) : c ≠ 0 := by
 unfold take at h
 split at h
 ·cases h; decide
 ·split at h
  ·cases h
  ·cases h; decide
theorem clk_ok {en : Int} {ts : List (Tok Int)} (hk : Tk ts) {i : Nat} {x : Int} {b : Bool} {h m : Tok Int} {i1 i4 : Nat} {e1 x1 e2 x2 e3 x3 e4 x4 e5 x5 : Int} (q1 : (h, i1, e1, x1) = numR en ts i 0 x) (q2 : (e2, x2) = rngA b h e1 x1) (q3 : (e3, x3) = mustE en [58] (ts.drop i1) e2 x2) (q4 : (m, i4, e4, x4) = numR en ts (i1 + 1) e3 x3) (q5 : (e5, x5) = rngB h m e4 x4) :
  match clock en (if b = true then 23 else 24) (ts.drop i) with
  | .ok ((a, y), l) => e5 = 0 ∧ 60 * numT h.2.1 + numT m.2.1 = a ∧ h.2.2 = y ∧ l = ts.drop i4
  | .error (c, y) => c ≠ 0 ∧ (e5, x5) = (c, y) := by
 unfold clock
 rw [numR_take] at q1
 cases t1 : take en 2 [] (ts.drop i) with
 | error q =>
  obtain ⟨c, y⟩ := q
  have hc := take_err5 t1
  rw [t1] at q1
  cases q1
  rw [rngA_err hc] at q2; cases q2
  rw [mustE_err hc] at q3; cases q3
  rw [numR_err hc] at q4; cases q4
  rw [rngB_err hc] at q5
  exact ⟨hc, q5⟩
 | ok r =>
  obtain ⟨t, l⟩ := r
  have hl := take_drop t1
  subst hl
  rw [t1] at q1
  cases q1
  simp only
  have hmost : (numT h.2.1 > (if b = true then 23 else 24)) ↔ (24 < numT h.2.1 ∨ (b = true ∧ numT h.2.1 = 24)) := by
   cases b <;> simp <;> omega
  by_cases hr : 24 < numT h.2.1 ∨ (b = true ∧ numT h.2.1 = 24)
  ·rw [if_pos (hmost.2 hr)]
   have hc : (10 : Int) ≠ 0 := by decide
   have : rngA b h 0 x = (10, h.2.2) := if_pos ⟨rfl, hr⟩
   rw [this] at q2; cases q2
   rw [mustE_err hc] at q3; cases q3
   rw [numR_err hc] at q4; cases q4
   rw [rngB_err hc] at q5
   exact ⟨hc, q5⟩
  ·rw [if_neg (fun z => hr (hmost.1 z))]
   have : rngA b h 0 x = (0, x) := if_neg (fun z => hr z.2)
   rw [this] at q2; cases q2
   rw [mustE_take (by decide) (hk.drop _)] at q3
   cases t2 : take en 4 [cColon] (ts.drop (i + 1)) with
   | error q =>
    obtain ⟨c, y⟩ := q
    have hc := take_err5 t2
    have t2' : take en 4 [[58]] (ts.drop (i + 1)) = .error (c, y) := t2
    rw [t2'] at q3
    cases q3
    rw [numR_err hc] at q4; cases q4
    rw [rngB_err hc] at q5
    exact ⟨hc, q5⟩
   | ok r2 =>
    obtain ⟨t9, l9⟩ := r2
    have hl9 := take_drop t2
    subst hl9
    have t2' : take en 4 [[58]] (ts.drop (i + 1)) = .ok (t9, ts.drop (i + 1 + 1)) := t2
    rw [t2'] at q3
    cases q3
    simp only
    rw [numR_take] at q4
    cases t3 : take en 2 [] (ts.drop (i + 1 + 1)) with
    | error q =>
     obtain ⟨c, y⟩ := q
     have hc := take_err5 t3
     rw [t3] at q4
     cases q4
     rw [rngB_err hc] at q5
     exact ⟨hc, q5⟩
    | ok r3 =>
     obtain ⟨t8, l8⟩ := r3
     have hl8 := take_drop t3
     subst hl8
     rw [t3] at q4
     cases q4
     simp only
     by_cases hb : m.2.1.length ≠ 2 ∨ 59 < numT m.2.1 ∨ (numT h.2.1 = 24 ∧ numT m.2.1 ≠ 0)
     ·have hv : 0 ≤ numT m.2.1 := num_nonneg (take_tk (hk.drop _) t3).1 (take_tk (hk.drop _) t3).2.1
      have h5 : rngB h m 0 x = (10, m.2.2) := if_pos ⟨rfl, hb⟩
      rw [h5] at q5
      rw [if_pos (by
       simp only [Bool.or_eq_true, bne_iff_ne, ne_eq, decide_eq_true_eq, Bool.and_eq_true, beq_iff_eq, gt_iff_lt]
       rcases hb with h9 | h9 | h9
       ·exact .inl (.inl h9)
       ·exact .inl (.inr h9)
       ·exact .inr ⟨h9.1, by omega⟩)]
      exact ⟨by decide, q5⟩
     ·have h5 : rngB h m 0 x = (0, x) := if_neg (fun z => hb z.2)
      rw [h5] at q5
      cases q5
      rw [if_neg (by
       simp only [Bool.or_eq_true, bne_iff_ne, ne_eq, decide_eq_true_eq, Bool.and_eq_true, beq_iff_eq, gt_iff_lt]
       rintro ((h9 | h9) | h9)
       ·exact hb (.inl h9)
       ·exact hb (.inr (.inl h9))
       ·exact hb (.inr (.inr ⟨h9.1, by omega⟩)))]
      exact ⟨rfl, rfl, rfl, rfl⟩
end Go.Proofs.YtjaffpnegdcjnaaGreatDoor
/- The reference reader: a day. -/
set_option linter.unusedVariables false
set_option linter.unusedSimpArgs false
namespace Go.Proofs.YtjaffpnegdcjnaaGreatDoor
open Go.RowKit Go.Pl
/-- What day answers. -/
def dayR (t : Tok Int) : Int := if t.1 = 1 ∧ t.2.1 ∈ days then idx t.2.1 else -1
theorem dayR_at {t : Tok Int} {i : Nat} {d : Bys} (hi : days[i]? = some d) (h1 : t.1 = 1) (h2 : t.2.1 = d) (h3 : ∀ j, j < i → ∀ y, days[j]? = some y → t.2.1 ≠ y) : dayR t = i := by
 have hm : t.2.1 ∈ days := by rw [h2]; exact List.mem_of_getElem? hi
 unfold dayR
 rw [if_pos ⟨h1, hm⟩]
 unfold idx
 obtain ⟨hl, hv⟩ := List.getElem?_eq_some_iff.1 hi
 have : days.findIdx (· == t.2.1) = i := by
  rw [List.findIdx_eq hl]
  refine ⟨by rw [hv, h2]; simp, fun j hj => ?_⟩
  have := h3 j hj (days[j]'(by omega)) (List.getElem?_eq_getElem _)
  simpa using fun h => this h.symm
 rw [this]
theorem dayR_no {t : Tok Int} (h : t.1 ≠ 1 ∨ ∀ (j : Nat) (y : Bys), days[j]? = some y → t.2.1 ≠ y) : dayR t = -1 := by
 unfold dayR
 rw [if_neg]
 rintro ⟨h1, h2⟩
 rcases h with h | h
 ·exact h h1
 ·obtain ⟨j, hj⟩ := List.getElem?_of_mem h2
  exact h j _ hj rfl
theorem run_seven {o : Oper} {w : World} {a : Act} (ho : o.op = .buildSlice 70 7 #[(0, .const (.string (ofL [109, 111]))), (1, .const (.string (ofL [116, 117]))), (2, .const (.string (ofL [119, 101]))), (3, .const (.string (ofL [116, 104]))), (4, .const (.string (ofL [102, 114]))), (5, .const (.string (ofL [115, 97]))), (6, .const (.string (ofL [115, 117])))]) : (execOp a.eval o).run Tryz.prog w = .ok (.value (.slice (some ⟨w.heap.size, 0, none⟩) 7 7)) (w.alloc (.cells (days.map fun l => Value.string (ofL l)).toArray 9)) := by
 simp [execOp, ho, go_sem, days]
set_option maxRecDepth 100000 in
set_option maxHeartbeats 4000000 in
theorem days46_calls (w : World) : Calls Tryz.prog 46 #[] w fun e w' => ∃ b, e = .returned (.slice (some ⟨b, 0, none⟩) 7 7) ∧ DaysAt w' b ∧ w.heap.size ≤ b ∧ Fr (fun _ => False) w w' := by
 refine wp_start0 Tryz.func46 rfl rfl (n := 2) (by decide) fun a E => ?_
 have hf : Fr (fun _ => False) w w := Fr.refl _ _
 refine s_ (r_ (ep (v := .slice none 0 0) E rfl (a_ rfl rfl) fun a E => n_ (t_ (s_ (r_ (ep E rfl (run_seven rfl) fun a E => es_ E rfl (a_ rfl E.g0) fun a E => n_ (t_ (wr_ (ret_tmp (t := 0) rfl E E.g0 ⟨_, rfl, blk_alloc_new _ _, Nat.le_refl _, hf.alloc _⟩)))))))))
set_option maxRecDepth 100000 in
set_option maxHeartbeats 4000000 in
theorem day89_calls (t : Tok Int) (w : World) : Calls Tryz.prog 89 #[.agg (tkA t)] w fun e w' => e = .returned (.int .i64 (dayR t)) ∧ Fr (fun _ => False) w w' := by
 refine wp_start1 Tryz.func89 rfl rfl (n := 25) (by decide) fun a E => ?_
 have hf : Fr (fun _ => False) w w := Fr.refl _ _
 refine s_ (r_ (env_new (d := 1) E rfl (by decide) rfl (wanted_none rfl _) (run_box38 rfl E.g0) fun a w1 b156 eb156 hb156 f1 E => ?_))
 have hnb156 : w.heap.size ≤ b156 := by have := hf.size; omega
 have hf := hf.trans' f1 (fun _ _ h => h.elim)
 clear f1
 refine ep (v := .int .i64 0) E rfl (a_ rfl rfl) fun a E => n_ (t_ (s_ (r_ ?_)))
 have hgb156 := lt_of_blk hb156
 refine env_callv (d := 5) (R := fun u w8 => ∃ b, u = .slice (some ⟨b, 0, none⟩) 7 7 ∧ DaysAt w8 b ∧ Fr (fun _ => False) w1 w8) E rfl (by decide) rfl (wanted_none rfl _) (run_call0 (enters_of Tryz.func46 (by kernel_rfl) rfl) rfl rfl) ((days46_calls _).mono fun e w8 h => by obtain ⟨b, rfl, h1, h2, h3⟩ := h; exact ⟨_, rfl, b, rfl, h1, h3⟩) fun a w1 u ⟨bd, hu, hD, f1⟩ E => ?_
 subst hu
 have hb156 := f1.obj hb156 id
 have hf := hf.trans' f1 (fun _ _ h => h.elim)
 clear f1
 refine ep E rfl (a_ rfl E.g0) fun a E => n_ (t_ (s_ (s_ (r_ (ep (v := .int .i64 0) E rfl (a_ rfl rfl) fun a E => n_ (t_ (bk_ (wp_loop (fun a w2 => ∃ (i : Nat), Env 25 [(1, .pointer (some ⟨b156, 0, none⟩)), (3, .slice (some ⟨bd, 0, none⟩) 7 7), (4, .int .i64 (i : Int))] a ∧ i ≤ 7 ∧ (t.1 ≠ 1 ∨ ∀ j, j < i → ∀ y, days[j]? = some y → t.2.1 ≠ y) ∧ w2.heap[b156]? = some (.cells #[.int .i64 t.1, .string (ofL t.2.1), .int .i64 t.2.2] 38 (0, 0)) ∧ DaysAt w2 bd ∧ Fr (fun _ => False) w w2) (fun a _ => 7 - (intOf (a.eval (.tmp 4))).toNat) ?_ ?_))))))))
 ·exact ⟨0, E.of ⟨E.g4, E.g1, E.g0, trivial⟩, Nat.zero_le _, .inr fun j h => absurd h (Nat.not_lt_zero _), hb156, hD, hf⟩
 clear E
 rintro a w2 ⟨i, E, hi, hno, hb156, hD, hf⟩
 have hmu : 7 - (intOf (a.eval (.tmp 4))).toNat = 7 - i := by rw [E.g2]; first | rfl | (simp [intOf]; done) | (simp only [intOf]; omega)
 rw [hmu]
 clear hmu
 refine s_ (s_ (r_ (ep E rfl (m_ rfl E.g2) fun a E => ep E rfl (m_ rfl E.g2) fun a E => ep (v := .int .i64 7) E rfl (run_len70 rfl E.g0) fun a E => ep (v := .bool (decide ((i : Int) < 7))) E rfl (run_ilss E.g2 E.g0 Tryz.underlying3 rfl) fun a E => n_ (t_ ?_))))
 cases hq158 : (decide ((i : Int) < 7)) with
 | false =>
  rw [hq158] at E
  have hie : i = 7 := by have := of_decide_eq_false hq158; omega
  refine c_f E.g0 (x_ (te_ (te_ (be_ (t_ (s_ (r_ (ep (v := .int .i64 (-1)) E rfl (a_ rfl rfl) fun a E => n_ (t_ (wr_ ?_))))))))))
  have hq : dayR t = -1 := dayR_no (hno.imp id fun h j y hy => h j (by have := (List.getElem?_eq_some_iff.1 hy).1; rw [hie]; exact this) y hy)
  exact ret_tmp (t := 2) rfl E E.g0 ⟨by rw [hq], hf⟩
 | true =>
  rw [hq158] at E
  have hlt : i < 7 := by have := of_decide_eq_true hq158; omega
  obtain ⟨d, hdd⟩ : ∃ d, days[i]? = some d := ⟨_, List.getElem?_eq_getElem (by show i < 7; exact hlt)⟩
  have hdi : w2.cell? ⟨bd, 0 + i, none⟩ = some (.string (ofL d)) := by
   rw [cell_of_blk hD, Nat.zero_add]; simp [hdd]
  refine c_t E.g0 (k_ (t_ (s_ (bk_ (s_ ?_)))))
  cases hq159 : (t.1 == 1) with
  | false =>
   refine wp_region_invg (n := 25) (base := [(9, .bool true), (8, .int .i64 7), (7, .slice (some ⟨bd, 0, none⟩) 7 7), (6, .int .i64 (i : Int)), (1, .pointer (some ⟨b156, 0, none⟩)), (3, .slice (some ⟨bd, 0, none⟩) 7 7), (4, .int .i64 (i : Int))]) (T := [some (12, .pointer (some ⟨b156, 0, none⟩)), some (13, .int .i64 t.1), some (14, .bool false), some (15, .bool false), some (16, undef), some (17, undef), some (18, undef), some (19, undef), some (20, undef), some (21, undef), some (22, undef), some (23, .bool false)]) (M := fun _ wm => Fr (fun _ => False) w2 wm) (by kernel_rfl) (by kernel_rfl) (by kernel_rfl) (E.of ⟨E.g0, E.g1, E.g2, E.g3, E.g4, E.g5, E.g6, trivial⟩) (Fr.refl _ _).drew ?_ ?_
   ·intro j9 o9 t9 ls9 a w5 ho hT0 hl E D DL hM
    have hb156 := hM.obj hb156 id
    have hD := hM.obj hD id
    have hdi := hM.cell hdi id
    match j9, ho, hT0, hl, D, DL with
    | 0, ho, hT0, hl, D, DL => exact y0_ ho hT0 (val_wp (fa38_0 rfl E.g4) rfl hM)
    | 1, ho, hT0, hl, D, DL => exact y0_ ho hT0 (val_wp (run_ldi rfl (D 0 _ rfl rfl) (bx hb156 0 rfl)) rfl hM)
    | 2, ho, hT0, hl, D, DL => exact y0_ ho hT0 (val_wp ((run_ieql (D 1 _ rfl rfl) rfl Tryz.underlying3 rfl).trans (by rw [hq159] <;> rfl)) rfl hM)
    | 3, ho, hT0, hl, D, DL => exact y0_ ho hT0 (val_wp (m_ rfl (D 2 _ rfl rfl)) rfl hM)
    | 4, ho, hT0, hl, D, DL => exact y2_ ho hT0 E (D 3 _ rfl rfl) hM
    | 5, ho, hT0, hl, D, DL => exact y2_ ho hT0 E (D 3 _ rfl rfl) hM
    | 6, ho, hT0, hl, D, DL => exact y2_ ho hT0 E (D 3 _ rfl rfl) hM
    | 7, ho, hT0, hl, D, DL => exact y2_ ho hT0 E (D 3 _ rfl rfl) hM
    | 8, ho, hT0, hl, D, DL => exact y2_ ho hT0 E (D 3 _ rfl rfl) hM
    | 9, ho, hT0, hl, D, DL => exact y2_ ho hT0 E (D 3 _ rfl rfl) hM
    | 10, ho, hT0, hl, D, DL => exact y2_ ho hT0 E (D 3 _ rfl rfl) hM
    | 11, ho, hT0, hl, D, DL => exact y0_ ho hT0 (val_wp (run_pick_f rfl (D 3 _ rfl rfl) rfl) rfl hM)
    | j9 + 12, ho, hT0, hl, D, DL => exact absurd hT0 (by simp)
   ·intro a w5 E V hM
    have E := E.add (V 11 _ rfl)
    clear V
    have hb156 := hM.obj hb156 id
    have hD := hM.obj hD id
    have hdi := hM.cell hdi id
    have hf := hf.trans' hM (fun _ _ h => h.elim)
    clear hM
    refine t_ (c_f E.g0 (k_ (b_ (t_ (r_ (ep E rfl (m_ rfl E.g7) fun a E => ep (v := .int .i64 ((i : Int) + 1)) E rfl (run_iadd Tryz.underlying3 E.g0 rfl (by omega) (by omega) rfl) fun a E => es_ E rfl (a_ rfl E.g0) fun a E => n_ (t_ ?_)))))))
    refine ⟨⟨i + 1, E.of ⟨E.g8, E.g9, E.g0, trivial⟩, by omega, .inl (beq_eq_false_iff_ne.1 hq159), hb156, hD, hf⟩, ?_⟩
    rw [E.g0]; simp only [intOf]; omega
  | true =>
   refine wp_region_invg (n := 25) (base := [(9, .bool true), (8, .int .i64 7), (7, .slice (some ⟨bd, 0, none⟩) 7 7), (6, .int .i64 (i : Int)), (1, .pointer (some ⟨b156, 0, none⟩)), (3, .slice (some ⟨bd, 0, none⟩) 7 7), (4, .int .i64 (i : Int))]) (T := [some (12, .pointer (some ⟨b156, 0, none⟩)), some (13, .int .i64 t.1), some (14, .bool true), some (15, .bool true), some (16, .pointer (some ⟨b156, 1, none⟩)), some (17, .string (ofL t.2.1)), some (18, .slice (some ⟨bd, 0, none⟩) 7 7), some (19, .int .i64 (i : Int)), some (20, .pointer (some ⟨bd, (0 + i), none⟩)), some (21, .string (ofL d)), some (22, .bool (t.2.1 == d)), some (23, .bool (t.2.1 == d))]) (M := fun _ wm => Fr (fun _ => False) w2 wm) (by kernel_rfl) (by kernel_rfl) (by kernel_rfl) (E.of ⟨E.g0, E.g1, E.g2, E.g3, E.g4, E.g5, E.g6, trivial⟩) (Fr.refl _ _).drew ?_ ?_
   ·intro j9 o9 t9 ls9 a w5 ho hT0 hl E D DL hM
    have hb156 := hM.obj hb156 id
    have hD := hM.obj hD id
    have hdi := hM.cell hdi id
    match j9, ho, hT0, hl, D, DL with
    | 0, ho, hT0, hl, D, DL => exact y0_ ho hT0 (val_wp (fa38_0 rfl E.g4) rfl hM)
    | 1, ho, hT0, hl, D, DL => exact y0_ ho hT0 (val_wp (run_ldi rfl (D 0 _ rfl rfl) (bx hb156 0 rfl)) rfl hM)
    | 2, ho, hT0, hl, D, DL => exact y0_ ho hT0 (val_wp ((run_ieql (D 1 _ rfl rfl) rfl Tryz.underlying3 rfl).trans (by rw [hq159] <;> rfl)) rfl hM)
    | 3, ho, hT0, hl, D, DL => exact y0_ ho hT0 (val_wp (m_ rfl (D 2 _ rfl rfl)) rfl hM)
    | 4, ho, hT0, hl, D, DL => exact y1_ ho hT0 E (D 3 _ rfl rfl) (val_wp (fa38_1 rfl E.g4) rfl hM)
    | 5, ho, hT0, hl, D, DL => exact y1_ ho hT0 E (D 3 _ rfl rfl) (val_wp (run_lds rfl (D 4 _ rfl rfl) (bx hb156 1 rfl)) rfl hM)
    | 6, ho, hT0, hl, D, DL => exact y1_ ho hT0 E (D 3 _ rfl rfl) (val_wp (m_ rfl E.g5) rfl hM)
    | 7, ho, hT0, hl, D, DL => exact y1_ ho hT0 E (D 3 _ rfl rfl) (val_wp (m_ rfl E.g6) rfl hM)
    | 8, ho, hT0, hl, D, DL => exact y1_ ho hT0 E (D 3 _ rfl rfl) (val_wp (run_index70 (i := i) rfl (D 6 _ rfl rfl) (D 7 _ rfl rfl) hlt) rfl hM)
    | 9, ho, hT0, hl, D, DL => exact y1_ ho hT0 E (D 3 _ rfl rfl) (val_wp (run_lds rfl (D 8 _ rfl rfl) hdi) rfl hM)
    | 10, ho, hT0, hl, D, DL => exact y1_ ho hT0 E (D 3 _ rfl rfl) (val_wp (run_seq (D 5 _ rfl rfl) (D 9 _ rfl rfl) rfl) rfl hM)
    | 11, ho, hT0, hl, D, DL => exact y0_ ho hT0 (val_wp (run_pick_t rfl (D 3 _ rfl rfl) (D 10 _ rfl rfl)) rfl hM)
    | j9 + 12, ho, hT0, hl, D, DL => exact absurd hT0 (by simp)
   ·intro a w5 E V hM
    have E := E.add (V 11 _ rfl)
    clear V
    have hb156 := hM.obj hb156 id
    have hD := hM.obj hD id
    have hdi := hM.cell hdi id
    have hf := hf.trans' hM (fun _ _ h => h.elim)
    clear hM
    refine t_ ?_
    cases hq162 : (t.2.1 == d) with
    | false =>
     rw [hq162] at E
     refine c_f E.g0 (k_ (b_ (t_ (r_ (ep E rfl (m_ rfl E.g7) fun a E => ep (v := .int .i64 ((i : Int) + 1)) E rfl (run_iadd Tryz.underlying3 E.g0 rfl (by omega) (by omega) rfl) fun a E => es_ E rfl (a_ rfl E.g0) fun a E => n_ (t_ ?_))))))
     have hn9 : t.1 ≠ 1 ∨ ∀ j, j < i + 1 → ∀ y, days[j]? = some y → t.2.1 ≠ y := by
      rcases hno with h9 | h9
      ·exact .inl h9
      ·refine .inr fun j hj y hy => ?_
       rcases Nat.lt_or_ge j i with h8 | h8
       ·exact h9 j h8 y hy
       ·obtain rfl : j = i := by omega
        rw [hdd] at hy; cases hy
        exact beq_eq_false_iff_ne.1 hq162
     refine ⟨⟨i + 1, E.of ⟨E.g8, E.g9, E.g0, trivial⟩, by omega, hn9, hb156, hD, hf⟩, ?_⟩
     rw [E.g0]; simp only [intOf]; omega
    | true =>
     rw [hq162] at E
     refine c_t E.g0 (s_ (r_ (ep E rfl (m_ rfl E.g7) fun a E => ep E rfl (a_ rfl E.g0) fun a E => n_ (t_ (wr_ (br_ (tr_ (tr_ (br_ (tr_ ?_))))))))))
     have h1 : t.1 = 1 := beq_iff_eq.1 hq159
     have hq : dayR t = i := dayR_at hdd h1 (beq_iff_eq.1 hq162) (hno.resolve_left (fun h => h h1))
     exact ret_tmp (t := 2) rfl E E.g0 ⟨by rw [hq], hf⟩
end Go.Proofs.YtjaffpnegdcjnaaGreatDoor
/- The reference reader: the day of a part. -/
set_option linter.unusedVariables false
set_option linter.unusedSimpArgs false
namespace Go.Proofs.YtjaffpnegdcjnaaGreatDoor
open Go.RowKit Go.Pl
/-- What the reader's day answers: the day, where it stands, its first error. -/
def dyR (en : Int) (ts : List (Tok Int)) (i : Nat) (e x : Int) : Int × Nat × Int × Int :=
 if e = 0 then (match ts.drop i with | [] => (0, i, 6, en) | t :: _ => if dayR t < 0 then (0, i, 5, t.2.2) else (dayR t, i + 1, e, x)) else (0, i, e, x)
theorem dyR_take {en : Int} {ts : List (Tok Int)} (i : Nat) (x : Int) : dyR en ts i 0 x = match take en 1 days (ts.drop i) with | .ok (t, _) => (idx t.2.1, i + 1, 0, x) | .error (c, y) => (0, i, c, y) := by
 unfold dyR take
 rw [if_pos rfl]
 cases ts.drop i with
 | nil => rfl
 | cons t l =>
  have hs : sees 1 days (t :: l) = (t.1 == 1 && (days.isEmpty || days.contains t.2.1)) := rfl
  simp only
  rw [hs]
  have he : days.isEmpty = false := rfl
  rw [he, Bool.false_or]
  have hidx : ∀ d ∈ days, 0 ≤ idx d := by decide +kernel
  by_cases h : t.1 = 1 ∧ t.2.1 ∈ days
  ·have h0 := hidx _ h.2
   have hd : dayR t = idx t.2.1 := if_pos h
   rw [hd, if_neg (by omega), if_pos (by rw [Bool.and_eq_true]; exact ⟨by simpa using h.1, by simpa using h.2⟩)]
  ·have hd : dayR t = -1 := if_neg h
   rw [hd, if_pos (by decide), if_neg (by rw [Bool.and_eq_true]; rintro ⟨h1, h2⟩; exact h ⟨by simpa using h1, by simpa using h2⟩)]
set_option maxRecDepth 100000 in
set_option maxHeartbeats 4000000 in
theorem rday_calls {w : World} {rb G : Nat} {en : Int} {ts : List (Tok Int)} {i : Nat} {e x : Int} (hR : RdS w rb G en ts i e x) (hi : i ≤ 1000000) : Calls Tryz.prog 63 #[.pointer (some ⟨rb, 0, none⟩)] w fun e' w' => e' = .returned (.int .i64 (dyR en ts i e x).1) ∧ Fr (fun r => r = rb) w w' ∧ RdS w' rb G en ts (dyR en ts i e x).2.1 (dyR en ts i e x).2.2.1 (dyR en ts i e x).2.2.2 := by
 have hR0 := hR
 obtain ⟨hGr, lv, hrb, htkS⟩ := hR
 obtain ⟨pl, cl, hlv, hlv0, hlv1, hts, hzl⟩ := htkS
 subst hlv
 have hrl := lt_of_blk hrb
 refine wp_start1 Tryz.func63 rfl rfl (n := 53) (by decide) fun a E => ?_
 have hf : Fr (fun _ => False) w w := Fr.refl _ _
 have hf : Fr (fun r => r = rb) w w := Fr.refl _ _
 refine s_ (r_ (ep (v := .int .i64 0) E rfl (a_ rfl rfl) fun a E => n_ (t_ (s_ (s_ (r_ (ep E rfl (m_ rfl E.g1) fun a E => ep E rfl (i_ rfl E.g0) fun a E => ep (v := .pointer (some ⟨rb, 3, none⟩)) E rfl (fa62_3 rfl E.g0) fun a E => ep (v := .int .i64 e) E rfl (run_lde rfl E.g0 (bx hrb 3 rfl)) fun a E => ep (v := .bool (e != 0)) E rfl (run_ineq E.g0 rfl Tryz.underlying25 rfl) fun a E => n_ (t_ ?_))))))))
 cases hq156 : (e != 0) with
 | false =>
  rw [hq156] at E
  have he : e = 0 := by simpa using hq156
  refine c_f E.g0 (k_ (t_ (s_ (s_ ?_))))
  cases hq157 : (decide ((ts.length : Int) ≤ (i : Int))) with
  | false =>
   have hlt : i < ts.length := by have := of_decide_eq_false hq157; omega
   obtain ⟨t, ht⟩ : ∃ y, ts[i]? = some y := ⟨_, List.getElem?_eq_getElem hlt⟩
   obtain ⟨g158, off158, hpe158, hgl158, hrow158⟩ := hts.at hlt
   replace hrow158 := hrow158 i t ht
   have hdt := drop_tok ht
   refine wp_region_invg (n := 53) (base := [(7, .bool false), (6, .int .i64 e), (5, .pointer (some ⟨rb, 3, none⟩)), (4, .pointer (some ⟨rb, 0, none⟩)), (3, .pointer (some ⟨rb, 0, none⟩)), (2, .int .i64 0), (0, .pointer (some ⟨rb, 0, none⟩))]) (T := [some (8, .pointer (some ⟨rb, 0, none⟩)), some (9, .pointer (some ⟨rb, 0, none⟩)), some (10, .pointer (some ⟨rb, 1, none⟩)), some (11, .int .i64 (i : Int)), some (12, .pointer (some ⟨rb, 0, none⟩)), some (13, .pointer (some ⟨rb, 0, none⟩)), some (14, .pointer (some ⟨rb, 0, none⟩)), some (15, .slice (pl) ts.length cl), some (16, .int .i64 (ts.length : Int)), some (17, .bool false), some (18, .bool false), some (19, .pointer (some ⟨rb, 0, none⟩)), some (20, .pointer (some ⟨rb, 0, none⟩)), some (21, .pointer (some ⟨rb, 0, none⟩)), some (22, .slice (pl) ts.length cl), some (23, .pointer (some ⟨rb, 0, none⟩)), some (24, .pointer (some ⟨rb, 0, none⟩)), some (25, .pointer (some ⟨rb, 1, none⟩)), some (26, .int .i64 (i : Int)), some (27, .pointer (some ⟨g158, (off158 + i * 3), none⟩)), some (28, .agg (tkA t)), some (29, .int .i64 (dayR t)), some (30, .bool (decide ((dayR t) < 0))), some (31, .bool (decide ((dayR t) < 0)))]) (M := fun _ wm => Fr (fun _ => False) w wm) (by kernel_rfl) (by kernel_rfl) (by kernel_rfl) (E.of ⟨E.g0, E.g1, E.g2, E.g3, E.g4, E.g5, E.g6, trivial⟩) (Fr.refl _ _).drew ?_ ?_
   ·intro j9 o9 t9 ls9 a w5 ho hT0 hl E D DL hM
    have hrb := hM.obj hrb id
    have hts := srcAt.fr hts hM (fun r hr => id)
    have hR0 := RdS.fr hR0 hM (fun r hr => id)
    have hrow158 := fun j u hu => hM.cell (hrow158 j u hu) id
    match j9, ho, hT0, hl, D, DL with
    | 0, ho, hT0, hl, D, DL => exact y0_ ho hT0 (val_wp (m_ rfl E.g6) rfl hM)
    | 1, ho, hT0, hl, D, DL => exact y0_ ho hT0 (val_wp (i_ rfl (D 0 _ rfl rfl)) rfl hM)
    | 2, ho, hT0, hl, D, DL => exact y0_ ho hT0 (val_wp (fa62_1 rfl (D 1 _ rfl rfl)) rfl hM)
    | 3, ho, hT0, hl, D, DL => exact y0_ ho hT0 (val_wp (run_ldi rfl (D 2 _ rfl rfl) (bx hrb 1 rfl)) rfl hM)
    | 4, ho, hT0, hl, D, DL => exact y0_ ho hT0 (val_wp (m_ rfl E.g6) rfl hM)
    | 5, ho, hT0, hl, D, DL => exact y0_ ho hT0 (val_wp (i_ rfl (D 4 _ rfl rfl)) rfl hM)
    | 6, ho, hT0, hl, D, DL => exact y0_ ho hT0 (val_wp (fa62_0 rfl (D 5 _ rfl rfl)) rfl hM)
    | 7, ho, hT0, hl, D, DL => exact y0_ ho hT0 (val_wp (run_ld34 rfl (D 6 _ rfl rfl) (bx hrb 0 rfl)) rfl hM)
    | 8, ho, hT0, hl, D, DL => exact y0_ ho hT0 (val_wp (run_len34 rfl (D 7 _ rfl rfl)) rfl hM)
    | 9, ho, hT0, hl, D, DL => exact y0_ ho hT0 (val_wp ((run_igeq (D 3 _ rfl rfl) (D 8 _ rfl rfl) Tryz.underlying3 rfl).trans (by rw [hq157] <;> rfl)) rfl hM)
    | 10, ho, hT0, hl, D, DL => exact y0_ ho hT0 (val_wp (m_ rfl (D 9 _ rfl rfl)) rfl hM)
    | 11, ho, hT0, hl, D, DL => exact y1_ ho hT0 E (D 10 _ rfl rfl) (val_wp (m_ rfl E.g6) rfl hM)
    | 12, ho, hT0, hl, D, DL => exact y1_ ho hT0 E (D 10 _ rfl rfl) (val_wp (i_ rfl (D 11 _ rfl rfl)) rfl hM)
    | 13, ho, hT0, hl, D, DL => exact y1_ ho hT0 E (D 10 _ rfl rfl) (val_wp (fa62_0 rfl (D 12 _ rfl rfl)) rfl hM)
    | 14, ho, hT0, hl, D, DL => exact y1_ ho hT0 E (D 10 _ rfl rfl) (val_wp (run_ld34 rfl (D 13 _ rfl rfl) (bx hrb 0 rfl)) rfl hM)
    | 15, ho, hT0, hl, D, DL => exact y1_ ho hT0 E (D 10 _ rfl rfl) (val_wp (m_ rfl E.g6) rfl hM)
    | 16, ho, hT0, hl, D, DL => exact y1_ ho hT0 E (D 10 _ rfl rfl) (val_wp (i_ rfl (D 15 _ rfl rfl)) rfl hM)
    | 17, ho, hT0, hl, D, DL => exact y1_ ho hT0 E (D 10 _ rfl rfl) (val_wp (fa62_1 rfl (D 16 _ rfl rfl)) rfl hM)
    | 18, ho, hT0, hl, D, DL => exact y1_ ho hT0 E (D 10 _ rfl rfl) (val_wp (run_ldi rfl (D 17 _ rfl rfl) (bx hrb 1 rfl)) rfl hM)
    | 19, ho, hT0, hl, D, DL => exact y1_ ho hT0 E (D 10 _ rfl rfl) (val_wp (run_index34 (i := i) rfl ((D 14 _ rfl rfl).trans (by rw [hpe158])) (D 18 _ rfl rfl) hlt) rfl hM)
    | 20, ho, hT0, hl, D, DL => exact y1_ ho hT0 E (D 10 _ rfl rfl) (val_wp (run_ld38 rfl (D 19 _ rfl rfl) hrow158) rfl hM)
    | 21, ho, hT0, hl, D, DL => exact y1_ ho hT0 E (D 10 _ rfl rfl) (call_wp (run_call1 (enters_of Tryz.func89 (by kernel_rfl) rfl) rfl rfl (D 20 _ rfl rfl)) (day89_calls t _) rfl fun w9 f1 => (hM.trans f1))
    | 22, ho, hT0, hl, D, DL => exact y1_ ho hT0 E (D 10 _ rfl rfl) (val_wp (run_ilss (D 21 _ rfl rfl) rfl Tryz.underlying3 rfl) rfl hM)
    | 23, ho, hT0, hl, D, DL => exact y0_ ho hT0 (val_wp (run_pick_f rfl (D 10 _ rfl rfl) (D 22 _ rfl rfl)) rfl hM)
    | j9 + 24, ho, hT0, hl, D, DL => exact absurd hT0 (by simp)
   ·intro a w5 E V hM
    have E := E.add (V 23 _ rfl)
    clear V
    have hrb := hM.obj hrb id
    have hts := srcAt.fr hts hM (fun r hr => id)
    have hR0 := RdS.fr hR0 hM (fun r hr => id)
    have hrow158 := fun j u hu => hM.cell (hrow158 j u hu) id
    have hf := hf.trans' hM (fun _ _ h => h.elim)
    clear hM
    refine t_ ?_
    cases hq160 : (decide ((dayR t) < 0)) with
    | false =>
     rw [hq160] at E
     have hd9 := of_decide_eq_false hq160
     refine c_f E.g0 (k_ (t_ (s_ (r_ (ep E rfl (m_ rfl E.g7) fun a E => ep E rfl (i_ rfl E.g0) fun a E => ep (v := .pointer (some ⟨rb, 1, none⟩)) E rfl (fa62_1 rfl E.g0) fun a E => ep (v := .int .i64 (i : Int)) E rfl (run_ldi rfl E.g0 (bx hrb 1 rfl)) fun a E => ep (v := .int .i64 ((i : Int) + 1)) E rfl (run_iadd Tryz.underlying3 E.g0 rfl (by omega) (by omega) rfl) fun a E => ep E rfl (i_ rfl E.g4) fun a E => ep (v := .pointer (some ⟨rb, 1, none⟩)) E rfl (fa62_1 rfl E.g0) fun a E => env_st1 (j := 1) E rfl (wanted_none rfl _) hrb (run_st3 rfl E.g0 E.g2 (bx hrb 1 rfl) (free_of_blk hrb 1)) fun w1 hrbn f1 E => ?_)))))
     replace hrbn : w1.heap[rb]? = some (.cells #[.slice (pl) ts.length cl, .int .i64 ((i : Int) + 1), .int .i64 en, .int .i64 e, .int .i64 x] 62 (0, 0)) := hrbn
     have hts := srcAt.fr hts f1 (fun _ hr => nq_)
     have hrow158 := fun j u hu => f1.cell (hrow158 j u hu) nq_
     have hf := hf.trans' f1 (fun _ hr => nq_)
     clear f1
     replace hrb := hrbn
     refine n_ (t_ (s_ (wp_region_invx (G := Unit) () (n := 53) (base := [(40, .pointer (some ⟨rb, 1, none⟩)), (39, .pointer (some ⟨rb, 0, none⟩)), (38, .int .i64 ((i : Int) + 1)), (37, .int .i64 (i : Int)), (36, .pointer (some ⟨rb, 1, none⟩)), (35, .pointer (some ⟨rb, 0, none⟩)), (34, .pointer (some ⟨rb, 0, none⟩)), (31, .bool false), (7, .bool false), (6, .int .i64 e), (5, .pointer (some ⟨rb, 3, none⟩)), (4, .pointer (some ⟨rb, 0, none⟩)), (3, .pointer (some ⟨rb, 0, none⟩)), (0, .pointer (some ⟨rb, 0, none⟩))]) (U := [(2, .int .i64 0, 12)]) (T := fun γ => [some (41, .pointer (some ⟨rb, 0, none⟩)), some (42, .pointer (some ⟨rb, 0, none⟩)), some (43, .pointer (some ⟨rb, 0, none⟩)), some (44, .slice (pl) ts.length cl), some (45, .pointer (some ⟨rb, 0, none⟩)), some (46, .pointer (some ⟨rb, 0, none⟩)), some (47, .pointer (some ⟨rb, 1, none⟩)), some (48, .int .i64 ((i : Int) + 1)), some (49, .int .i64 (((i : Int) + 1) - 1)), some (50, .pointer (some ⟨g158, (off158 + i * 3), none⟩)), some (51, .agg (tkA t)), some (52, .int .i64 (dayR t)), some (2, .int .i64 (dayR t))]) (M := fun γ ls9 wm => Fr (fun _ => False) w1 wm) (by kernel_rfl) (by kernel_rfl) (fun _ => by kernel_rfl) (E.of ⟨E.g0, E.g1, E.g2, E.g3, E.g4, E.g5, E.g6, E.g7, E.g8, E.g9, E.g10, E.g11, E.g12, E.g14, trivial⟩) (fun x hx => by simp only [List.mem_cons, List.not_mem_nil, or_false] at hx; subst hx; exact E.g13) (Fr.refl _ _).drew ?_ ?_)))
     ·intro j9 o9 γ ls9 a w5 ho hl E D DL DL2 hB hM
      have hrb := hM.obj hrb id
      have hts := srcAt.fr hts hM (fun r hr => id)
      have hrow158 := fun j u hu => hM.cell (hrow158 j u hu) id
      match j9, ho, hl, D, DL, hB with
      | 0, ho, hl, D, DL, hB => exact z0_ ho (valx rfl (m_ rfl E.g13) rfl hM)
      | 1, ho, hl, D, DL, hB => exact z0_ ho (valx rfl (i_ rfl (D 0 _ rfl rfl)) rfl hM)
      | 2, ho, hl, D, DL, hB => exact z0_ ho (valx rfl (fa62_0 rfl (D 1 _ rfl rfl)) rfl hM)
      | 3, ho, hl, D, DL, hB => exact z0_ ho (valx rfl (run_ld34 rfl (D 2 _ rfl rfl) (bx hrb 0 rfl)) rfl hM)
      | 4, ho, hl, D, DL, hB => exact z0_ ho (valx rfl (m_ rfl E.g13) rfl hM)
      | 5, ho, hl, D, DL, hB => exact z0_ ho (valx rfl (i_ rfl (D 4 _ rfl rfl)) rfl hM)
      | 6, ho, hl, D, DL, hB => exact z0_ ho (valx rfl (fa62_1 rfl (D 5 _ rfl rfl)) rfl hM)
      | 7, ho, hl, D, DL, hB => exact z0_ ho (valx rfl (run_ldi rfl (D 6 _ rfl rfl) (bx hrb 1 rfl)) rfl hM)
      | 8, ho, hl, D, DL, hB => exact z0_ ho (valx rfl (run_isub Tryz.underlying3 (D 7 _ rfl rfl) rfl (by omega) (by omega) rfl) rfl hM)
      | 9, ho, hl, D, DL, hB => exact z0_ ho (valx rfl (run_index34 (i := i) rfl ((D 3 _ rfl rfl).trans (by rw [hpe158])) ((D 8 _ rfl rfl).trans (by rw [show (((i : Int) + 1) - 1) = (i : Int) by omega])) hlt) rfl hM)
      | 10, ho, hl, D, DL, hB => exact z0_ ho (valx rfl (run_ld38 rfl (D 9 _ rfl rfl) hrow158) rfl hM)
      | 11, ho, hl, D, DL, hB => exact z0_ ho (callx rfl (run_call1 (enters_of Tryz.func89 (by kernel_rfl) rfl) rfl rfl (D 10 _ rfl rfl)) (day89_calls t _) rfl fun w9 f1 => hM.trans' f1 (fun _ _ h => h.elim))
      | 12, ho, hl, D, DL, hB => exact z0_ ho (valx rfl (a_ rfl (D 11 _ rfl rfl)) rfl hM)
      | j9 + 13, ho, hl, D, DL, hB => exact absurd ho (by simp)
     ·rintro _ a w5 E V hM
      have E := E.add (v := .int .i64 (dayR t)) (V 12 _ rfl)
      clear V
      have hrb := hM.obj hrb id
      have hts := srcAt.fr hts hM (fun r hr => id)
      have hrow158 := fun j u hu => hM.cell (hrow158 j u hu) id
      have hf := hf.trans' hM (fun _ _ h => h.elim)
      clear hM
      refine t_ (wr_ ?_)
      have hq : dyR en ts i e x = (dayR t, i + 1, e, x) := (if_pos he).trans (by rw [hdt]; exact if_neg hd9)
      refine ret_tmp (t := 2) rfl E E.g0 ?_
      rw [hq]
      exact ⟨rfl, hf, hGr, _, hrb, ⟨pl, cl, rfl, hlv0, hlv1, hts, hzl⟩⟩
    | true =>
     rw [hq160] at E
     have hd9 := of_decide_eq_true hq160
     refine c_t E.g0 (s_ (r_ (ep E rfl (m_ rfl E.g7) fun a E => env_callv (d := 33) (R := fun u w8 => u = .tuple #[] ∧ Fr (fun r => r = rb) w5 w8 ∧ RdS w8 rb G en ts i (firstE e x (failP en (ts.drop i))).1 (firstE e x (failP en (ts.drop i))).2) E rfl (by decide) rfl (wanted_none rfl _) (run_call1 (enters_of Tryz.func39 (by kernel_rfl) rfl) rfl rfl E.g0) ((fail_calls hR0).mono fun e w8 h => ⟨_, h.1, rfl, h.2⟩) fun a w1 u ⟨hu, f1, hR2⟩ E => ?_)))
     subst hu
     have hrow158 := fun j u hu => f1.cell (hrow158 j u hu) nq_
     have hf := hf.trans f1
     clear f1
     have hR0 := hR2
     obtain ⟨hGr, lv, hrb, htkS⟩ := hR2
     obtain ⟨pl, cl, hlv, hlv0, hlv1, hts, hzl⟩ := htkS
     subst hlv
     refine n_ (t_ (s_ (r_ (es_ (v := .int .i64 0) E rfl (a_ rfl rfl) fun a E => n_ (t_ (wr_ (tr_ ?_)))))))
     have hq : dyR en ts i e x = (0, i, 5, t.2.2) := (if_pos he).trans (by rw [hdt]; exact if_pos hd9)
     have hq2 : firstE e x (failP en (ts.drop i)) = (5, t.2.2) := (if_pos he).trans (by rw [hdt]; rfl)
     rw [hq2] at hrb
     refine ret_tmp (t := 2) rfl E E.g0 ?_
     rw [hq]
     exact ⟨rfl, hf, hGr, _, hrb, ⟨pl, cl, rfl, hlv0, hlv1, hts, hzl⟩⟩
  | true =>
   have hnil : ts.drop i = [] := List.drop_eq_nil_of_le (by have := of_decide_eq_true hq157; omega)
   refine wp_region_invg (n := 53) (base := [(7, .bool false), (6, .int .i64 e), (5, .pointer (some ⟨rb, 3, none⟩)), (4, .pointer (some ⟨rb, 0, none⟩)), (3, .pointer (some ⟨rb, 0, none⟩)), (2, .int .i64 0), (0, .pointer (some ⟨rb, 0, none⟩))]) (T := [some (8, .pointer (some ⟨rb, 0, none⟩)), some (9, .pointer (some ⟨rb, 0, none⟩)), some (10, .pointer (some ⟨rb, 1, none⟩)), some (11, .int .i64 (i : Int)), some (12, .pointer (some ⟨rb, 0, none⟩)), some (13, .pointer (some ⟨rb, 0, none⟩)), some (14, .pointer (some ⟨rb, 0, none⟩)), some (15, .slice (pl) ts.length cl), some (16, .int .i64 (ts.length : Int)), some (17, .bool true), some (18, .bool true), some (19, undef), some (20, undef), some (21, undef), some (22, undef), some (23, undef), some (24, undef), some (25, undef), some (26, undef), some (27, undef), some (28, undef), some (29, undef), some (30, undef), some (31, .bool true)]) (M := fun _ wm => Fr (fun _ => False) w wm) (by kernel_rfl) (by kernel_rfl) (by kernel_rfl) (E.of ⟨E.g0, E.g1, E.g2, E.g3, E.g4, E.g5, E.g6, trivial⟩) (Fr.refl _ _).drew ?_ ?_
   ·intro j9 o9 t9 ls9 a w5 ho hT0 hl E D DL hM
    have hrb := hM.obj hrb id
    have hts := srcAt.fr hts hM (fun r hr => id)
    have hR0 := RdS.fr hR0 hM (fun r hr => id)
    match j9, ho, hT0, hl, D, DL with
    | 0, ho, hT0, hl, D, DL => exact y0_ ho hT0 (val_wp (m_ rfl E.g6) rfl hM)
    | 1, ho, hT0, hl, D, DL => exact y0_ ho hT0 (val_wp (i_ rfl (D 0 _ rfl rfl)) rfl hM)
    | 2, ho, hT0, hl, D, DL => exact y0_ ho hT0 (val_wp (fa62_1 rfl (D 1 _ rfl rfl)) rfl hM)
    | 3, ho, hT0, hl, D, DL => exact y0_ ho hT0 (val_wp (run_ldi rfl (D 2 _ rfl rfl) (bx hrb 1 rfl)) rfl hM)
    | 4, ho, hT0, hl, D, DL => exact y0_ ho hT0 (val_wp (m_ rfl E.g6) rfl hM)
    | 5, ho, hT0, hl, D, DL => exact y0_ ho hT0 (val_wp (i_ rfl (D 4 _ rfl rfl)) rfl hM)
    | 6, ho, hT0, hl, D, DL => exact y0_ ho hT0 (val_wp (fa62_0 rfl (D 5 _ rfl rfl)) rfl hM)
    | 7, ho, hT0, hl, D, DL => exact y0_ ho hT0 (val_wp (run_ld34 rfl (D 6 _ rfl rfl) (bx hrb 0 rfl)) rfl hM)
    | 8, ho, hT0, hl, D, DL => exact y0_ ho hT0 (val_wp (run_len34 rfl (D 7 _ rfl rfl)) rfl hM)
    | 9, ho, hT0, hl, D, DL => exact y0_ ho hT0 (val_wp ((run_igeq (D 3 _ rfl rfl) (D 8 _ rfl rfl) Tryz.underlying3 rfl).trans (by rw [hq157] <;> rfl)) rfl hM)
    | 10, ho, hT0, hl, D, DL => exact y0_ ho hT0 (val_wp (m_ rfl (D 9 _ rfl rfl)) rfl hM)
    | 11, ho, hT0, hl, D, DL => exact y2_ ho hT0 E (D 10 _ rfl rfl) hM
    | 12, ho, hT0, hl, D, DL => exact y2_ ho hT0 E (D 10 _ rfl rfl) hM
    | 13, ho, hT0, hl, D, DL => exact y2_ ho hT0 E (D 10 _ rfl rfl) hM
    | 14, ho, hT0, hl, D, DL => exact y2_ ho hT0 E (D 10 _ rfl rfl) hM
    | 15, ho, hT0, hl, D, DL => exact y2_ ho hT0 E (D 10 _ rfl rfl) hM
    | 16, ho, hT0, hl, D, DL => exact y2_ ho hT0 E (D 10 _ rfl rfl) hM
    | 17, ho, hT0, hl, D, DL => exact y2_ ho hT0 E (D 10 _ rfl rfl) hM
    | 18, ho, hT0, hl, D, DL => exact y2_ ho hT0 E (D 10 _ rfl rfl) hM
    | 19, ho, hT0, hl, D, DL => exact y2_ ho hT0 E (D 10 _ rfl rfl) hM
    | 20, ho, hT0, hl, D, DL => exact y2_ ho hT0 E (D 10 _ rfl rfl) hM
    | 21, ho, hT0, hl, D, DL => exact y2_ ho hT0 E (D 10 _ rfl rfl) hM
    | 22, ho, hT0, hl, D, DL => exact y2_ ho hT0 E (D 10 _ rfl rfl) hM
    | 23, ho, hT0, hl, D, DL => exact y0_ ho hT0 (val_wp (run_pick_t rfl (D 10 _ rfl rfl) rfl) rfl hM)
    | j9 + 24, ho, hT0, hl, D, DL => exact absurd hT0 (by simp)
   ·intro a w5 E V hM
    have E := E.add (V 23 _ rfl)
    clear V
    have hrb := hM.obj hrb id
    have hts := srcAt.fr hts hM (fun r hr => id)
    have hR0 := RdS.fr hR0 hM (fun r hr => id)
    have hf := hf.trans' hM (fun _ _ h => h.elim)
    clear hM
    refine t_ (c_t E.g0 (s_ (r_ (ep E rfl (m_ rfl E.g7) fun a E => env_callv (d := 33) (R := fun u w8 => u = .tuple #[] ∧ Fr (fun r => r = rb) w5 w8 ∧ RdS w8 rb G en ts i (firstE e x (failP en (ts.drop i))).1 (firstE e x (failP en (ts.drop i))).2) E rfl (by decide) rfl (wanted_none rfl _) (run_call1 (enters_of Tryz.func39 (by kernel_rfl) rfl) rfl rfl E.g0) ((fail_calls hR0).mono fun e w8 h => ⟨_, h.1, rfl, h.2⟩) fun a w1 u ⟨hu, f1, hR2⟩ E => ?_))))
    subst hu
    have hf := hf.trans f1
    clear f1
    have hR0 := hR2
    obtain ⟨hGr, lv, hrb, htkS⟩ := hR2
    obtain ⟨pl, cl, hlv, hlv0, hlv1, hts, hzl⟩ := htkS
    subst hlv
    refine n_ (t_ (s_ (r_ (es_ (v := .int .i64 0) E rfl (a_ rfl rfl) fun a E => n_ (t_ (wr_ (tr_ ?_)))))))
    have hq : dyR en ts i e x = (0, i, 6, en) := (if_pos he).trans (by rw [hnil])
    have hq2 : firstE e x (failP en (ts.drop i)) = (6, en) := (if_pos he).trans (by rw [hnil]; rfl)
    rw [hq2] at hrb
    refine ret_tmp (t := 2) rfl E E.g0 ?_
    rw [hq]
    exact ⟨rfl, hf, hGr, _, hrb, ⟨pl, cl, rfl, hlv0, hlv1, hts, hzl⟩⟩
 | true =>
  rw [hq156] at E
  have he : ¬ e = 0 := by simpa using hq156
  refine c_t E.g0 (s_ (r_ (es_ (v := .int .i64 0) E rfl (a_ rfl rfl) fun a E => n_ (t_ (wr_ (tr_ ?_))))))
  have hq : dyR en ts i e x = (0, i, e, x) := if_neg he
  refine ret_tmp (t := 2) rfl E E.g0 ?_
  rw [hq]
  exact ⟨rfl, hf, hGr, _, hrb, ⟨pl, cl, rfl, hlv0, hlv1, hts, hzl⟩⟩
end Go.Proofs.YtjaffpnegdcjnaaGreatDoor
