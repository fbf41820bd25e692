/- Steps of a plain region whose operations bear guards, the frame being known at few slots. -/
import Derived.Test.YtcolfgnjmnapkaaApar
namespace Go.Proofs.Ytcolfgnjmnapkaa
open Go.RowKit Go.Pl

variable {O : Array Oper} {Q : Exit → Act → World → Prop} {rest : List Oper} {o : Oper} {a : Act} {w : World} {ρ : Operand → Value}

theorem st_run {v : Value} (hw : Region.wanted o (yielded O a.tmps) = true) (hr : (execOp a.eval o).run Try.prog w = .ok (.value v) w) (h : wpList Try.prog O Q rest (a.put o.dst v) w) : wpList Try.prog O Q (o :: rest) a w := by
  simp only [wpList, hw, if_true]
  left
  unfold Oper.wp
  rw [hr]
  exact h
theorem st_no (hw : Region.wanted o (yielded O a.tmps) = false) (h : wpList Try.prog O Q rest (a.put o.dst undef) w) : wpList Try.prog O Q (o :: rest) a w := wpList_skip hw h

theorem run_move {x : Operand} (ho : o.op = .move x) : (execOp ρ o).run Try.prog w = .ok (.value (ρ x)) w := by
  simp [execOp, ho, go_sem]
theorem run_field38 {x : Operand} {b f : Nat} (ho : o.op = .fieldAddr 38 x f) (hx : ρ x = .pointer (some ⟨b, 0, none⟩)) (hf : f < 3) : (execOp ρ o).run Try.prog w = .ok (.value (.pointer (some ⟨b, f, none⟩))) w := by
  match f, hf with
  | 0, _ => simp [execOp, ho, hx, go_sem]
  | 1, _ => simp [execOp, ho, hx, go_sem]
  | 2, _ => simp [execOp, ho, hx, go_sem]
theorem run_field8 {x : Operand} {b : Nat} (ho : o.op = .fieldAddr 38 x 8) (hx : ρ x = .pointer (some ⟨b, 0, none⟩)) : (execOp ρ o).run Try.prog w = .ok (.value (.pointer (some ⟨b, 9, none⟩))) w := by
  simp [execOp, ho, hx, go_sem]
theorem run_field36 {x : Operand} {b : Nat} (ho : o.op = .fieldAddr 36 x 0) (hx : ρ x = .pointer (some ⟨b, 9, none⟩)) : (execOp ρ o).run Try.prog w = .ok (.value (.pointer (some ⟨b, 9, none⟩))) w := by
  simp [execOp, ho, hx, go_sem]
theorem run_load9 {x : Operand} {p : Addr} {v : Value} (ho : o.op = .load 9 x) (hx : ρ x = .pointer (some p)) (hc : w.cell? p = some v) : (execOp ρ o).run Try.prog w = .ok (.value v) w := by
  simp [execOp, ho, hx, hc, go_sem]
theorem run_load3 {x : Operand} {p : Addr} {v : Value} (ho : o.op = .load 3 x) (hx : ρ x = .pointer (some p)) (hc : w.cell? p = some v) : (execOp ρ o).run Try.prog w = .ok (.value v) w := by
  simp [execOp, ho, hx, hc, go_sem]
theorem run_eqs {x y : Operand} {s : ByteArray} (ho : o.op = .binOp .eql 9 x y 9) (hx : ρ x = .string s) (hy : ρ y = .string ⟨#[]⟩) : (execOp ρ o).run Try.prog w = .ok (.value (.bool s.toList.isEmpty)) w := by
  simp [execOp, ho, hx, hy, go_sem]
theorem run_pick {c x y : Operand} {b : Bool} (ho : o.op = .pick c x y) (hc : ρ c = .bool b) : (execOp ρ o).run Try.prog w = .ok (.value (if b then ρ x else ρ y)) w := by
  simp [execOp, ho, hc, go_sem]
theorem run_geq {x y : Operand} {n : Int} (ho : o.op = .binOp .geq 3 x y 3) (hx : ρ x = .int .i64 n) (hy : ρ y = .int .i64 6) : (execOp ρ o).run Try.prog w = .ok (.value (.bool (decide (6 ≤ n)))) w := by
  simp [execOp, ho, hx, hy, go_sem]
theorem run_eqi {x y : Operand} {n : Int} (ho : o.op = .binOp .eql 3 x y 3) (hx : ρ x = .int .i64 n) (hy : ρ y = .int .i64 1) : (execOp ρ o).run Try.prog w = .ok (.value (.bool (n == 1))) w := by
  simp [execOp, ho, hx, hy, go_sem]

theorem eval_put {d i : Nat} {v : Value} (h : d < a.tmps.size) : (a.put (some d) v).eval (.tmp i) = if i = d then v else a.eval (.tmp i) := by
  unfold Act.put Act.eval
  simp only [Array.getD_eq_getD_getElem?, Array.getElem?_setIfInBounds]
  by_cases e : i = d
  · subst e; simp [h]
  · simp [e, Ne.symm e]
theorem size_put {d : Option Tmp} {v : Value} : (a.put d v).tmps.size = a.tmps.size := by
  cases d <;> simp [Act.put]
theorem yield_eq {g s : Nat} (hg : (O[g]?).bind (·.dst) = some s) (hs : s < a.tmps.size) : yielded O a.tmps g = match a.eval (.tmp s) with | .bool b => some b | _ => none := by
  unfold yielded Act.eval
  rw [hg]
  simp [hs]
  cases a.tmps[s] <;> rfl
theorem wanted_none (h : o.guard = none) (f) : Region.wanted o f = true := by unfold Region.wanted; rw [h]
theorem wanted_some {j : Nat} {b : Bool} (h : o.guard = some (j, b)) (f) : Region.wanted o f = (f j == some b) := by unfold Region.wanted; rw [h]

/-- The slots below lo are as they were. -/
structure Ch (lo : Nat) (a a' : Act) : Prop where
  df : a'.defers = a.defers
  size : a'.tmps.size = a.tmps.size
  low : ∀ i, i < lo → a'.eval (.tmp i) = a.eval (.tmp i)
theorem Ch.refl (lo : Nat) (a : Act) : Ch lo a a := ⟨rfl, rfl, fun _ _ => rfl⟩
theorem Ch.trans {lo : Nat} {a b c : Act} (h : Ch lo a b) (k : Ch lo b c) : Ch lo a c := ⟨k.df.trans h.df, k.size.trans h.size, fun i hi => (k.low i hi).trans (h.low i hi)⟩
theorem Ch.mono {lo lo' : Nat} {a b : Act} (h : Ch lo a b) (hl : lo' ≤ lo) : Ch lo' a b := ⟨h.df, h.size, fun i hi => h.low i (by omega)⟩
theorem Ch.put {lo d : Nat} {a b : Act} (h : Ch lo a b) (hd : lo ≤ d) (hs : d < a.tmps.size) (v : Value) : Ch lo a (b.put (some d) v) :=
  ⟨h.df, size_put.trans h.size, fun i hi => by rw [eval_put (by rw [h.size]; exact hs), if_neg (by omega)]; exact h.low i hi⟩

/-- Operations of which each reads the slot of the one ahead. -/
def Chain (w : World) : Nat → Value → List (Oper × Nat × Value) → Prop
  | _, _, [] => True
  | src, vin, x :: l => (x.1.dst = some x.2.1 ∧ ∀ a : Act, a.eval (.tmp src) = vin → (execOp a.eval x.1).run Try.prog w = .ok (.value x.2.2) w) ∧ Chain w x.2.1 x.2.2 l
def lastSlot : Nat → List (Oper × Nat × Value) → Nat
  | s, [] => s
  | _, x :: l => lastSlot x.2.1 l
def lastVal : Value → List (Oper × Nat × Value) → Value
  | v, [] => v
  | _, x :: l => lastVal x.2.2 l

def Guards (l : List (Oper × Nat × Value)) (g : Nat) (b : Bool) (lo hi : Nat) : Prop := ∀ x ∈ l, x.1.guard = some (g, b) ∧ x.1.dst = some x.2.1 ∧ lo ≤ x.2.1 ∧ x.2.1 < hi

theorem chain_run {g s lo : Nat} {b : Bool} {n : Nat} (hg : (O[g]?).bind (·.dst) = some s) (hs : s < lo) : ∀ (l : List (Oper × Nat × Value)) (src : Nat) (vin : Value) (a : Act), Chain w src vin l → Guards l g b lo n → a.tmps.size = n → s < n → a.eval (.tmp s) = .bool b → a.eval (.tmp src) = vin →
    (∀ a', Ch lo a a' → a'.eval (.tmp (lastSlot src l)) = lastVal vin l → wpList Try.prog O Q rest a' w) → wpList Try.prog O Q (l.map (·.1) ++ rest) a w
  | [], src, vin, a, _, _, _, _, _, hv, h => h a (Ch.refl _ _) hv
  | x :: l, src, vin, a, hc, hgs, hz, hsn, hb, hv, h => by
    obtain ⟨g1, g2, g3, g4⟩ := hgs x (by simp)
    rw [List.map_cons, List.cons_append]
    have hput : Ch lo a (a.put (some x.2.1) x.2.2) := (Ch.refl lo a).put g3 (by rw [hz]; exact g4) _
    refine st_run (v := x.2.2) ?_ (hc.1.2 a hv) ?_
    · rw [wanted_some g1, yield_eq hg (by rw [hz]; exact hsn), hb]; simp
    · rw [g2]
      refine chain_run hg hs l x.2.1 x.2.2 _ hc.2 (fun y hy => hgs y (by simp [hy])) (hput.size.trans hz) hsn ?_ ?_ fun a' h1 h2 => h a' (hput.trans h1) h2
      · rw [hput.low s hs]; exact hb
      · rw [eval_put (by rw [hz]; exact g4), if_pos rfl]

theorem chain_skip {g s lo : Nat} {b : Bool} {n : Nat} (hg : (O[g]?).bind (·.dst) = some s) (hs : s < lo) : ∀ (l : List (Oper × Nat × Value)) (a : Act), Guards l g b lo n → a.tmps.size = n → s < n → a.eval (.tmp s) ≠ .bool b →
    (∀ a', Ch lo a a' → (∀ i, a.eval (.tmp i) = undef → a'.eval (.tmp i) = undef) → (∀ x ∈ l, a'.eval (.tmp x.2.1) = undef) → wpList Try.prog O Q rest a' w) → wpList Try.prog O Q (l.map (·.1) ++ rest) a w
  | [], a, _, _, _, _, h => h a (Ch.refl _ _) (fun _ h => h) (fun x hx => by simp at hx)
  | x :: l, a, hgs, hz, hsn, hb, h => by
    obtain ⟨g1, g2, g3, g4⟩ := hgs x (by simp)
    rw [List.map_cons, List.cons_append]
    have hput : Ch lo a (a.put (some x.2.1) undef) := (Ch.refl lo a).put g3 (by rw [hz]; exact g4) _
    refine st_no ?_ ?_
    · rw [wanted_some g1, yield_eq hg (by rw [hz]; exact hsn)]
      cases hv : a.eval (.tmp s) with
      | bool q =>
        simp
        rintro rfl
        exact hb hv
      | _ => simp
    · rw [g2]
      refine chain_skip hg hs l _ (fun y hy => hgs y (by simp [hy])) (hput.size.trans hz) hsn (by rw [hput.low s hs]; exact hb) fun a' h1 h2 h3 => h a' (hput.trans h1) (fun i hi => h2 i ?_) fun y hy => ?_
      · rw [eval_put (by rw [hz]; exact g4)]; split; rfl; exact hi
      · rcases List.mem_cons.1 hy with rfl | hy
        · exact h2 _ (by rw [eval_put (by rw [hz]; exact g4), if_pos rfl])
        · exact h3 y hy

/-- 'q || x && y': two chains under guards, and the picks that join them. -/
theorem block {g g2 s u v : Nat} {n : Nat} {q x y : Bool} (A B : List (Oper × Nat × Value)) (o8 o9 : Oper) (pa pb : Nat) (va vb : Value) (a : Act)
    (hz : a.tmps.size = n) (hv : v < n) (hsu : s < u) (huv : u < v) (hg : (O[g]?).bind (·.dst) = some s) (hg2 : (O[g2]?).bind (·.dst) = some (lastSlot pa A))
    (hsA : s < lastSlot pa A) (hAB : lastSlot pa A < lastSlot pb B) (hBu : lastSlot pb B < u) (hAm : ∃ z ∈ A, z.2.1 = lastSlot pa A) (_hpa : pa ≤ s) (hpb : pb ≤ s)
    (hA : Guards A g false (s + 1) (lastSlot pa A + 1)) (hB : Guards B g2 true (lastSlot pa A + 1) u)
    (cA : Chain w pa va A) (cB : Chain w pb vb B) (eA : lastVal va A = .bool x) (eB : lastVal vb B = .bool y)
    (h8 : o8.op = .pick (.tmp (lastSlot pa A)) (.tmp (lastSlot pb B)) (.const (.bool false))) (g8 : o8.guard = some (g, false)) (d8 : o8.dst = some u)
    (h9 : o9.op = .pick (.tmp s) (.const (.bool true)) (.tmp u)) (g9 : o9.guard = none) (d9 : o9.dst = some v)
    (hq : a.eval (.tmp s) = .bool q) (ha : a.eval (.tmp pa) = va) (hb : a.eval (.tmp pb) = vb)
    (h : ∀ a', Ch (s + 1) a a' → a'.eval (.tmp v) = .bool (q || (x && y)) → wpList Try.prog O Q rest a' w) :
    wpList Try.prog O Q (A.map (·.1) ++ (B.map (·.1) ++ (o8 :: o9 :: rest))) a w := by
  have gA : Guards A g false (s + 1) n := fun z hz => by obtain ⟨h1, h2, h3, h4⟩ := hA z hz; exact ⟨h1, h2, h3, by omega⟩
  have gB : Guards B g2 true (lastSlot pa A + 1) n := fun z hz => by obtain ⟨h1, h2, h3, h4⟩ := hB z hz; exact ⟨h1, h2, h3, by omega⟩
  cases q with
  | true =>
    refine chain_skip hg (Nat.lt_succ_self s) A a gA hz (by omega) (by rw [hq]; simp) fun a1 k1 _ u1 => ?_
    obtain ⟨z, hz1, hz2⟩ := hAm
    have e1 := u1 z hz1
    rw [hz2] at e1
    refine chain_skip hg2 (Nat.lt_succ_self _) B a1 gB (k1.size.trans hz) (by omega) (by rw [e1]; intro h; cases h) fun a2 k2 _ _ => ?_
    have k2 := k1.trans (k2.mono (lo' := s + 1) (by omega))
    have q2 := (k2.low s (by omega)).trans hq
    refine st_no ?_ ?_
    · rw [wanted_some g8, yield_eq hg (by rw [k2.size, hz]; omega), q2]; rfl
    rw [d8]
    have k3 := k2.put (d := u) (by omega) (by omega) undef
    refine st_run (wanted_none g9 _) (run_pick h9 ((k3.low s (by omega)).trans hq)) ?_
    rw [d9]
    have k4 := k3.put (d := v) (by omega) (by omega) (if true = true then Act.eval (a2.put (some u) undef) (.const (.bool true)) else Act.eval (a2.put (some u) undef) (.tmp u))
    exact h _ k4 (by rw [eval_put (by rw [k3.size]; omega), if_pos rfl]; rfl)
  | false =>
    refine chain_run hg (Nat.lt_succ_self s) A pa va a cA gA hz (by omega) hq ha fun a1 k1 e1 => ?_
    rw [eA] at e1
    cases x with
    | true =>
      refine chain_run hg2 (Nat.lt_succ_self _) B pb vb a1 cB gB (k1.size.trans hz) (by omega) e1 ((k1.low pb (by omega)).trans hb) fun a2 k2 e2 => ?_
      have f1 := (k2.low (lastSlot pa A) (by omega)).trans e1
      have k2 := k1.trans (k2.mono (lo' := s + 1) (by omega))
      have q2 := (k2.low s (by omega)).trans hq
      rw [eB] at e2
      refine st_run (by rw [wanted_some g8, yield_eq hg (by rw [k2.size, hz]; omega), q2]; rfl) (run_pick h8 f1) ?_
      rw [d8, if_pos rfl, e2]
      have k3 := k2.put (d := u) (by omega) (by omega) (.bool y)
      refine st_run (wanted_none g9 _) (run_pick h9 ((k3.low s (by omega)).trans hq)) ?_
      rw [d9, if_neg (by simp), eval_put (by rw [k2.size]; omega), if_pos rfl]
      exact h _ (k3.put (d := v) (by omega) (by omega) (.bool y)) (by rw [eval_put (by rw [k3.size]; omega), if_pos rfl]; simp)
    | false =>
      refine chain_skip hg2 (Nat.lt_succ_self _) B a1 gB (k1.size.trans hz) (by omega) (by rw [e1]; intro h; cases h) fun a2 k2 _ _ => ?_
      have f1 := (k2.low (lastSlot pa A) (by omega)).trans e1
      have k2 := k1.trans (k2.mono (lo' := s + 1) (by omega))
      have q2 := (k2.low s (by omega)).trans hq
      refine st_run (by rw [wanted_some g8, yield_eq hg (by rw [k2.size, hz]; omega), q2]; rfl) (run_pick h8 f1) ?_
      rw [d8, if_neg (by simp)]
      have k3 := k2.put (d := u) (by omega) (by omega) (.bool false)
      refine st_run (wanted_none g9 _) (run_pick h9 ((k3.low s (by omega)).trans hq)) ?_
      rw [d9, if_neg (by simp)]
      have e5 : (a2.put (some u) (Act.eval a2 (.const (.bool false)))).eval (.tmp u) = .bool false := by rw [eval_put (by rw [k2.size]; omega), if_pos rfl]; rfl
      rw [e5]
      exact h _ (k3.put (d := v) (by omega) (by omega) (.bool false)) (by rw [eval_put (by rw [size_put, k2.size]; omega), if_pos rfl]; simp)

theorem st_runw {v : Value} {w' : World} (hw : Region.wanted o (yielded O a.tmps) = true) (hr : (execOp a.eval o).run Try.prog w = .ok (.value v) w') (h : wpList Try.prog O Q rest (a.put o.dst v) w') : wpList Try.prog O Q (o :: rest) a w := by
  simp only [wpList, hw, if_true]
  left
  unfold Oper.wp
  rw [hr]
  exact h
theorem st_call {f : FuncId} {args : Array Value} {R : Value → World → Prop} (hw : Region.wanted o (yielded O a.tmps) = true) (hr : (execOp a.eval o).run Try.prog w = .ok (.enter f args) w) (hc : Calls Try.prog f args w fun e w' => ∃ v, e = .returned v ∧ R v w') (h : ∀ v w', R v w' → wpList Try.prog O Q rest (a.put o.dst v) w') : wpList Try.prog O Q (o :: rest) a w := by
  simp only [wpList, hw, if_true]
  left
  unfold Oper.wp
  rw [hr, Oper.upon_enter]
  refine hc.mono ?_
  rintro e w' ⟨v, rfl, hR⟩
  exact h v w' hR
theorem run_call1 {f : FuncId} {x : Operand} {ts : Array TypeId} {v : Value} (ho : o.op = .call ⟨.value (.func f), #[x], ts⟩) (hf : ρ (.func f) = .func (.func f) #[] #[]) (hx : ρ x = v) (eg : ∀ args w, (callFunc f args).run Try.prog w = .ok (.enter f args) w) : (execOp ρ o).run Try.prog w = .ok (.enter f #[v]) w := by
  simp [execOp, ho, hf, hx, eg, resolve, Deferred.ofValue, invoke, go_sem]
theorem run_call2 {f : FuncId} {x y : Operand} {ts : Array TypeId} {v u : Value} (ho : o.op = .call ⟨.value (.func f), #[x, y], ts⟩) (hf : ρ (.func f) = .func (.func f) #[] #[]) (hx : ρ x = v) (hy : ρ y = u) (eg : ∀ args w, (callFunc f args).run Try.prog w = .ok (.enter f args) w) : (execOp ρ o).run Try.prog w = .ok (.enter f #[v, u]) w := by
  simp [execOp, ho, hf, hx, hy, eg, resolve, Deferred.ofValue, invoke, go_sem]
theorem run_not {t : TypeId} {x : Operand} {b : Bool} (ho : o.op = .unOp .not t x) (hx : ρ x = .bool b) : (execOp ρ o).run Try.prog w = .ok (.value (.bool !b)) w := by
  simp [execOp, ho, hx, go_sem]
theorem run_gtr {x y : Operand} {n : Int} (ho : o.op = .binOp .gtr 3 x y 3) (hx : ρ x = .int .i64 n) (hy : ρ y = .int .i64 100) : (execOp ρ o).run Try.prog w = .ok (.value (.bool (decide (100 < n)))) w := by
  simp [execOp, ho, hx, hy, go_sem]
theorem run_lens {x : Operand} {s : ByteArray} (ho : o.op = .call ⟨.builtin .len, #[x], #[9]⟩) (hx : ρ x = .string s) : (execOp ρ o).run Try.prog w = .ok (.value (.int .i64 s.size)) w := by
  simp [execOp, ho, hx, resolve, invoke, go_sem]
theorem run_load38 {x : Operand} {b : Nat} {e : Edt} (ho : o.op = .load 38 x) (hx : ρ x = .pointer (some ⟨b, 0, none⟩)) (hB : EdB w b e) : (execOp ρ o).run Try.prog w = .ok (.value (.agg e.cells)) w := by
  obtain ⟨a0, a1, a2, a3, a4, a5, a6, a7, a8, a9, a10, a11, a12, a13, a14⟩ := hB.cells
  simp [execOp, ho, hx, go_sem, a0, a1, a2, a3, a4, a5, a6, a7, a8, a9, a10, a11, a12, a13, a14, Edt.cells]
theorem run_two {x y : Operand} {c d : Edt} (ho : o.op = .buildSlice 22 2 #[(0, x), (1, y)]) (hx : ρ x = .agg c.cells) (hy : ρ y = .agg d.cells) : (execOp ρ o).run Try.prog w = .ok (.value (.slice (some ⟨w.heap.size, 0, none⟩) 2 2)) (w.alloc (.cells #[.int .i64 c.op, .string c.id, .string c.other, c.v3, c.v4, c.v5, c.v6, c.v7, c.v8, .string c.oid, c.v10, c.v11, c.v12, c.v13, c.v14, .int .i64 d.op, .string d.id, .string d.other, d.v3, d.v4, d.v5, d.v6, d.v7, d.v8, .string d.oid, d.v10, d.v11, d.v12, d.v13, d.v14] 38)) := by
  simp [execOp, ho, hx, hy, go_sem, Edt.cells]
theorem frame_lit {n : Nat} (hz : a.tmps.size = n) : a = ⟨((List.range n).map fun i => a.eval (.tmp i)).toArray, a.defers⟩ := by
  obtain ⟨t, d⟩ := a
  simp only at hz
  subst hz
  congr 1
  apply Array.ext
  · simp
  · intro i h1 h2
    simp [Act.eval, h1]

theorem cut_act {s : Code} {K : Act → World → Prop} {Q' : Exit → Act → World → Prop} (R : Act → Act → World → Prop)
    (h : ∀ A0, A0 = a → (∀ a' w', R A0 a' w' → K a' w') ∧ s.wp Try.prog (Exit.then (fun a' w' => R A0 a' w') Q') A0 w) : s.wp Try.prog (Exit.then K Q') a w := by
  obtain ⟨h1, h2⟩ := h a rfl
  refine wp_mono h2 ?_
  intro e a' w' hq
  cases e with
  | normal => exact h1 _ _ hq
  | exit id => exact hq
  | goto l => exact hq
  | ret => exact hq
  | panic ch => exact hq
  | outgrown => exact hq
theorem st_put {A0 : Act} {lo d n : Nat} {v : Value} {w' : World} (h : Ch lo A0 a) (hz : A0.tmps.size = n) (hd : o.dst = some d) (hlo : lo ≤ d) (hdn : d < n) (hw : Region.wanted o (yielded O a.tmps) = true) (hr : (execOp a.eval o).run Try.prog w = .ok (.value v) w')
    (k : ∀ a', Ch lo A0 a' → Ch d a a' → a'.eval (.tmp d) = v → wpList Try.prog O Q rest a' w') : wpList Try.prog O Q (o :: rest) a w := by
  refine st_runw hw hr ?_
  rw [hd]
  have hdz : d < a.tmps.size := by rw [h.size, hz]; exact hdn
  exact k _ (h.put hlo (by rw [hz]; exact hdn) v) ((Ch.refl d a).put (Nat.le_refl _) hdz v) ((eval_put hdz).trans (if_pos rfl))
theorem st_callq {A0 : Act} {lo d n : Nat} {v : Value} {f : FuncId} {args : Array Value} {F : World → Prop} (h : Ch lo A0 a) (hz : A0.tmps.size = n) (hd : o.dst = some d) (hlo : lo ≤ d) (hdn : d < n) (hw : Region.wanted o (yielded O a.tmps) = true) (hr : (execOp a.eval o).run Try.prog w = .ok (.enter f args) w)
    (hc : Calls Try.prog f args w fun e w' => e = .returned v ∧ F w') (k : ∀ a' w', F w' → Ch lo A0 a' → Ch d a a' → a'.eval (.tmp d) = v → wpList Try.prog O Q rest a' w') : wpList Try.prog O Q (o :: rest) a w := by
  refine st_call (R := fun u w' => u = v ∧ F w') hw hr (hc.mono fun e w' h => ⟨v, h.1, rfl, h.2⟩) ?_
  rintro u w' ⟨rfl, hF⟩
  rw [hd]
  have hdz : d < a.tmps.size := by rw [h.size, hz]; exact hdn
  exact k _ w' hF (h.put hlo (by rw [hz]; exact hdn) u) ((Ch.refl d a).put (Nat.le_refl _) hdz u) ((eval_put hdz).trans (if_pos rfl))
theorem w_yes {g s : Nat} {b : Bool} (hgd : o.guard = some (g, b)) (hg : (O[g]?).bind (·.dst) = some s) (hs : s < a.tmps.size) (hv : a.eval (.tmp s) = .bool b) : Region.wanted o (yielded O a.tmps) = true := by
  rw [wanted_some hgd, yield_eq hg hs, hv]; simp

/-- 'q || ..' where q says yes: what is guarded is passed over. -/
theorem half_skip {A0 : Act} {lo g s u t n : Nat} (A : List (Oper × Nat × Value)) {o9 o10 : Oper} {m : Nat} (h : Ch lo A0 a) (hz : A0.tmps.size = n) (hlo : lo ≤ s) (hg : (O[g]?).bind (·.dst) = some s) (hA : Guards A g false (s + 1) u) (hsu : s < u) (hum : u < m) (hun : m < n)
    (h9 : o9.op = .pick (.tmp s) (.const (.bool true)) (.tmp t)) (g9 : o9.guard = none) (d9 : o9.dst = some u) (h10 : o10.op = .move (.tmp u)) (g10 : o10.guard = none) (d10 : o10.dst = some m) (hq : a.eval (.tmp s) = .bool true)
    (k : ∀ a', Ch lo A0 a' → a'.eval (.tmp m) = .bool true → wpList Try.prog O Q rest a' w) : wpList Try.prog O Q (A.map (·.1) ++ (o9 :: o10 :: rest)) a w := by
  refine chain_skip hg (Nat.lt_succ_self s) A a (fun z hz => by obtain ⟨h1, h2, h3, h4⟩ := hA z hz; exact ⟨h1, h2, h3, by omega⟩) (h.size.trans hz) (by omega) (by rw [hq]; simp) fun a1 k1 _ _ => ?_
  have k2 := h.trans (k1.mono (lo' := lo) (by omega))
  refine st_put k2 hz d9 (by omega) (by omega) (wanted_none g9 _) (run_pick h9 ((k1.low s (by omega)).trans hq)) fun a2 k3 _ e2 => ?_
  refine st_put k3 hz d10 (by omega) (by omega) (wanted_none g10 _) (run_move h10) fun a3 k4 _ e3 => ?_
  exact k a3 k4 (by rw [e3, e2]; rfl)

theorem half_skip3 {A0 : Act} {lo g s u t n m s1 s2 s3 : Nat} {p1 p2 p3 o9 o10 : Oper} (h : Ch lo A0 a) (hz : A0.tmps.size = n) (hlo : lo ≤ s) (hg : (O[g]?).bind (·.dst) = some s) (g1 : p1.guard = some (g, false)) (e1 : p1.dst = some s1) (g2 : p2.guard = some (g, false)) (e2 : p2.dst = some s2) (g3 : p3.guard = some (g, false)) (e3 : p3.dst = some s3) (l1 : s < s1 ∧ s1 < u) (l2 : s < s2 ∧ s2 < u) (l3 : s < s3 ∧ s3 < u) (hsu : s < u) (hum : u < m) (hun : m < n)
    (h9 : o9.op = .pick (.tmp s) (.const (.bool true)) (.tmp t)) (q9 : o9.guard = none) (d9 : o9.dst = some u) (h10 : o10.op = .move (.tmp u)) (q10 : o10.guard = none) (d10 : o10.dst = some m) (hq : a.eval (.tmp s) = .bool true)
    (k : ∀ a', Ch lo A0 a' → a'.eval (.tmp m) = .bool true → wpList Try.prog O Q rest a' w) : wpList Try.prog O Q (p1 :: p2 :: p3 :: o9 :: o10 :: rest) a w :=
  half_skip [(p1, s1, undef), (p2, s2, undef), (p3, s3, undef)] h hz hlo hg (by
    intro z hz
    simp only [List.mem_cons, List.not_mem_nil, or_false] at hz
    rcases hz with rfl | rfl | rfl
    · exact ⟨g1, e1, l1.1, l1.2⟩
    · exact ⟨g2, e2, l2.1, l2.2⟩
    · exact ⟨g3, e3, l3.1, l3.2⟩) hsu hum hun h9 q9 d9 h10 q10 d10 hq k

theorem half_skip4 {A0 : Act} {lo g s u t n m s1 s2 s3 s4 : Nat} {p1 p2 p3 p4 o9 o10 : Oper} (h : Ch lo A0 a) (hz : A0.tmps.size = n) (hlo : lo ≤ s) (hg : (O[g]?).bind (·.dst) = some s) (g1 : p1.guard = some (g, false)) (e1 : p1.dst = some s1) (g2 : p2.guard = some (g, false)) (e2 : p2.dst = some s2) (g3 : p3.guard = some (g, false)) (e3 : p3.dst = some s3) (g4 : p4.guard = some (g, false)) (e4 : p4.dst = some s4) (l1 : s < s1 ∧ s1 < u) (l2 : s < s2 ∧ s2 < u) (l3 : s < s3 ∧ s3 < u) (l4 : s < s4 ∧ s4 < u) (hsu : s < u) (hum : u < m) (hun : m < n)
    (h9 : o9.op = .pick (.tmp s) (.const (.bool true)) (.tmp t)) (q9 : o9.guard = none) (d9 : o9.dst = some u) (h10 : o10.op = .move (.tmp u)) (q10 : o10.guard = none) (d10 : o10.dst = some m) (hq : a.eval (.tmp s) = .bool true)
    (k : ∀ a', Ch lo A0 a' → a'.eval (.tmp m) = .bool true → wpList Try.prog O Q rest a' w) : wpList Try.prog O Q (p1 :: p2 :: p3 :: p4 :: o9 :: o10 :: rest) a w :=
  half_skip [(p1, s1, undef), (p2, s2, undef), (p3, s3, undef), (p4, s4, undef)] h hz hlo hg (by
    intro z hz
    simp only [List.mem_cons, List.not_mem_nil, or_false] at hz
    rcases hz with rfl | rfl | rfl | rfl
    · exact ⟨g1, e1, l1.1, l1.2⟩
    · exact ⟨g2, e2, l2.1, l2.2⟩
    · exact ⟨g3, e3, l3.1, l3.2⟩
    · exact ⟨g4, e4, l4.1, l4.2⟩) hsu hum hun h9 q9 d9 h10 q10 d10 hq k

theorem half_skip5 {A0 : Act} {lo g s u t n m s1 s2 s3 s4 s5 : Nat} {p1 p2 p3 p4 p5 o9 o10 : Oper} (h : Ch lo A0 a) (hz : A0.tmps.size = n) (hlo : lo ≤ s) (hg : (O[g]?).bind (·.dst) = some s) (g1 : p1.guard = some (g, false)) (e1 : p1.dst = some s1) (g2 : p2.guard = some (g, false)) (e2 : p2.dst = some s2) (g3 : p3.guard = some (g, false)) (e3 : p3.dst = some s3) (g4 : p4.guard = some (g, false)) (e4 : p4.dst = some s4) (g5 : p5.guard = some (g, false)) (e5 : p5.dst = some s5) (l1 : s < s1 ∧ s1 < u) (l2 : s < s2 ∧ s2 < u) (l3 : s < s3 ∧ s3 < u) (l4 : s < s4 ∧ s4 < u) (l5 : s < s5 ∧ s5 < u) (hsu : s < u) (hum : u < m) (hun : m < n)
    (h9 : o9.op = .pick (.tmp s) (.const (.bool true)) (.tmp t)) (q9 : o9.guard = none) (d9 : o9.dst = some u) (h10 : o10.op = .move (.tmp u)) (q10 : o10.guard = none) (d10 : o10.dst = some m) (hq : a.eval (.tmp s) = .bool true)
    (k : ∀ a', Ch lo A0 a' → a'.eval (.tmp m) = .bool true → wpList Try.prog O Q rest a' w) : wpList Try.prog O Q (p1 :: p2 :: p3 :: p4 :: p5 :: o9 :: o10 :: rest) a w :=
  half_skip [(p1, s1, undef), (p2, s2, undef), (p3, s3, undef), (p4, s4, undef), (p5, s5, undef)] h hz hlo hg (by
    intro z hz
    simp only [List.mem_cons, List.not_mem_nil, or_false] at hz
    rcases hz with rfl | rfl | rfl | rfl | rfl
    · exact ⟨g1, e1, l1.1, l1.2⟩
    · exact ⟨g2, e2, l2.1, l2.2⟩
    · exact ⟨g3, e3, l3.1, l3.2⟩
    · exact ⟨g4, e4, l4.1, l4.2⟩
    · exact ⟨g5, e5, l5.1, l5.2⟩) hsu hum hun h9 q9 d9 h10 q10 d10 hq k

theorem block43 {g g2 s u v n pa pb s1 s2 s3 s4 t1 t2 t3 : Nat} {q x y : Bool} {va vb v1 v2 v3 x1 x2 : Value} {p1 p2 p3 p4 r1 r2 r3 o8 o9 : Oper} (ord : s < s1 ∧ s1 < s2 ∧ s2 < s3 ∧ s3 < s4 ∧ s4 < t1 ∧ t1 < t2 ∧ t2 < t3 ∧ t3 < u ∧ u < v ∧ v < n) (hpa : pa ≤ s) (hpb : pb ≤ s)
    (hz : a.tmps.size = n) (hg : (O[g]?).bind (·.dst) = some s) (hg2 : (O[g2]?).bind (·.dst) = some s4) (ag1 : p1.guard = some (g, false)) (ae1 : p1.dst = some s1) (ag2 : p2.guard = some (g, false)) (ae2 : p2.dst = some s2) (ag3 : p3.guard = some (g, false)) (ae3 : p3.dst = some s3) (ag4 : p4.guard = some (g, false)) (ae4 : p4.dst = some s4) (bg1 : r1.guard = some (g2, true)) (be1 : r1.dst = some t1) (bg2 : r2.guard = some (g2, true)) (be2 : r2.dst = some t2) (bg3 : r3.guard = some (g2, true)) (be3 : r3.dst = some t3)
    (ra1 : ∀ a : Act, a.eval (.tmp pa) = va → (execOp a.eval p1).run Try.prog w = .ok (.value (v1)) w) (ra2 : ∀ a : Act, a.eval (.tmp s1) = v1 → (execOp a.eval p2).run Try.prog w = .ok (.value (v2)) w) (ra3 : ∀ a : Act, a.eval (.tmp s2) = v2 → (execOp a.eval p3).run Try.prog w = .ok (.value (v3)) w) (ra4 : ∀ a : Act, a.eval (.tmp s3) = v3 → (execOp a.eval p4).run Try.prog w = .ok (.value (.bool x)) w) (rb1 : ∀ a : Act, a.eval (.tmp pb) = vb → (execOp a.eval r1).run Try.prog w = .ok (.value (x1)) w) (rb2 : ∀ a : Act, a.eval (.tmp t1) = x1 → (execOp a.eval r2).run Try.prog w = .ok (.value (x2)) w) (rb3 : ∀ a : Act, a.eval (.tmp t2) = x2 → (execOp a.eval r3).run Try.prog w = .ok (.value (.bool y)) w)
    (h8 : o8.op = .pick (.tmp s4) (.tmp t3) (.const (.bool false))) (g8 : o8.guard = some (g, false)) (d8 : o8.dst = some u)
    (h9 : o9.op = .pick (.tmp s) (.const (.bool true)) (.tmp u)) (g9 : o9.guard = none) (d9 : o9.dst = some v)
    (hq : a.eval (.tmp s) = .bool q) (ha : a.eval (.tmp pa) = va) (hb : a.eval (.tmp pb) = vb)
    (h : ∀ a', Ch (s + 1) a a' → a'.eval (.tmp v) = .bool (q || (x && y)) → wpList Try.prog O Q rest a' w) :
    wpList Try.prog O Q (p1 :: p2 :: p3 :: p4 :: r1 :: r2 :: r3 :: o8 :: o9 :: rest) a w :=
  block (g := g) (g2 := g2) (s := s) (u := u) (v := v) [(p1, s1, v1), (p2, s2, v2), (p3, s3, v3), (p4, s4, .bool x)] [(r1, t1, x1), (r2, t2, x2), (r3, t3, .bool y)] o8 o9 pa pb va vb a hz (by omega) (by omega) (by omega) hg hg2 (by simp only [lastSlot]; omega) (by simp only [lastSlot]; omega) (by simp only [lastSlot]; omega) ⟨(p4, s4, .bool x), by simp, rfl⟩ hpa hpb
    (by
      intro z hz
      simp only [List.mem_cons, List.not_mem_nil, or_false] at hz
      simp only [lastSlot]
      rcases hz with rfl | rfl | rfl | rfl
      · exact ⟨ag1, ae1, by simp only; omega, by simp only; omega⟩
      · exact ⟨ag2, ae2, by simp only; omega, by simp only; omega⟩
      · exact ⟨ag3, ae3, by simp only; omega, by simp only; omega⟩
      · exact ⟨ag4, ae4, by simp only; omega, by simp only; omega⟩)
    (by
      intro z hz
      simp only [List.mem_cons, List.not_mem_nil, or_false] at hz
      simp only [lastSlot]
      rcases hz with rfl | rfl | rfl
      · exact ⟨bg1, be1, by simp only; omega, by simp only; omega⟩
      · exact ⟨bg2, be2, by simp only; omega, by simp only; omega⟩
      · exact ⟨bg3, be3, by simp only; omega, by simp only; omega⟩)
    ⟨⟨ae1, ra1⟩, ⟨ae2, ra2⟩, ⟨ae3, ra3⟩, ⟨ae4, ra4⟩, trivial⟩ ⟨⟨be1, rb1⟩, ⟨be2, rb2⟩, ⟨be3, rb3⟩, trivial⟩ rfl rfl h8 g8 d8 h9 g9 d9 hq ha hb h

theorem block44 {g g2 s u v n pa pb s1 s2 s3 s4 t1 t2 t3 t4 : Nat} {q x y : Bool} {va vb v1 v2 v3 x1 x2 x3 : Value} {p1 p2 p3 p4 r1 r2 r3 r4 o8 o9 : Oper} (ord : s < s1 ∧ s1 < s2 ∧ s2 < s3 ∧ s3 < s4 ∧ s4 < t1 ∧ t1 < t2 ∧ t2 < t3 ∧ t3 < t4 ∧ t4 < u ∧ u < v ∧ v < n) (hpa : pa ≤ s) (hpb : pb ≤ s)
    (hz : a.tmps.size = n) (hg : (O[g]?).bind (·.dst) = some s) (hg2 : (O[g2]?).bind (·.dst) = some s4) (ag1 : p1.guard = some (g, false)) (ae1 : p1.dst = some s1) (ag2 : p2.guard = some (g, false)) (ae2 : p2.dst = some s2) (ag3 : p3.guard = some (g, false)) (ae3 : p3.dst = some s3) (ag4 : p4.guard = some (g, false)) (ae4 : p4.dst = some s4) (bg1 : r1.guard = some (g2, true)) (be1 : r1.dst = some t1) (bg2 : r2.guard = some (g2, true)) (be2 : r2.dst = some t2) (bg3 : r3.guard = some (g2, true)) (be3 : r3.dst = some t3) (bg4 : r4.guard = some (g2, true)) (be4 : r4.dst = some t4)
    (ra1 : ∀ a : Act, a.eval (.tmp pa) = va → (execOp a.eval p1).run Try.prog w = .ok (.value (v1)) w) (ra2 : ∀ a : Act, a.eval (.tmp s1) = v1 → (execOp a.eval p2).run Try.prog w = .ok (.value (v2)) w) (ra3 : ∀ a : Act, a.eval (.tmp s2) = v2 → (execOp a.eval p3).run Try.prog w = .ok (.value (v3)) w) (ra4 : ∀ a : Act, a.eval (.tmp s3) = v3 → (execOp a.eval p4).run Try.prog w = .ok (.value (.bool x)) w) (rb1 : ∀ a : Act, a.eval (.tmp pb) = vb → (execOp a.eval r1).run Try.prog w = .ok (.value (x1)) w) (rb2 : ∀ a : Act, a.eval (.tmp t1) = x1 → (execOp a.eval r2).run Try.prog w = .ok (.value (x2)) w) (rb3 : ∀ a : Act, a.eval (.tmp t2) = x2 → (execOp a.eval r3).run Try.prog w = .ok (.value (x3)) w) (rb4 : ∀ a : Act, a.eval (.tmp t3) = x3 → (execOp a.eval r4).run Try.prog w = .ok (.value (.bool y)) w)
    (h8 : o8.op = .pick (.tmp s4) (.tmp t4) (.const (.bool false))) (g8 : o8.guard = some (g, false)) (d8 : o8.dst = some u)
    (h9 : o9.op = .pick (.tmp s) (.const (.bool true)) (.tmp u)) (g9 : o9.guard = none) (d9 : o9.dst = some v)
    (hq : a.eval (.tmp s) = .bool q) (ha : a.eval (.tmp pa) = va) (hb : a.eval (.tmp pb) = vb)
    (h : ∀ a', Ch (s + 1) a a' → a'.eval (.tmp v) = .bool (q || (x && y)) → wpList Try.prog O Q rest a' w) :
    wpList Try.prog O Q (p1 :: p2 :: p3 :: p4 :: r1 :: r2 :: r3 :: r4 :: o8 :: o9 :: rest) a w :=
  block (g := g) (g2 := g2) (s := s) (u := u) (v := v) [(p1, s1, v1), (p2, s2, v2), (p3, s3, v3), (p4, s4, .bool x)] [(r1, t1, x1), (r2, t2, x2), (r3, t3, x3), (r4, t4, .bool y)] o8 o9 pa pb va vb a hz (by omega) (by omega) (by omega) hg hg2 (by simp only [lastSlot]; omega) (by simp only [lastSlot]; omega) (by simp only [lastSlot]; omega) ⟨(p4, s4, .bool x), by simp, rfl⟩ hpa hpb
    (by
      intro z hz
      simp only [List.mem_cons, List.not_mem_nil, or_false] at hz
      simp only [lastSlot]
      rcases hz with rfl | rfl | rfl | rfl
      · exact ⟨ag1, ae1, by simp only; omega, by simp only; omega⟩
      · exact ⟨ag2, ae2, by simp only; omega, by simp only; omega⟩
      · exact ⟨ag3, ae3, by simp only; omega, by simp only; omega⟩
      · exact ⟨ag4, ae4, by simp only; omega, by simp only; omega⟩)
    (by
      intro z hz
      simp only [List.mem_cons, List.not_mem_nil, or_false] at hz
      simp only [lastSlot]
      rcases hz with rfl | rfl | rfl | rfl
      · exact ⟨bg1, be1, by simp only; omega, by simp only; omega⟩
      · exact ⟨bg2, be2, by simp only; omega, by simp only; omega⟩
      · exact ⟨bg3, be3, by simp only; omega, by simp only; omega⟩
      · exact ⟨bg4, be4, by simp only; omega, by simp only; omega⟩)
    ⟨⟨ae1, ra1⟩, ⟨ae2, ra2⟩, ⟨ae3, ra3⟩, ⟨ae4, ra4⟩, trivial⟩ ⟨⟨be1, rb1⟩, ⟨be2, rb2⟩, ⟨be3, rb3⟩, ⟨be4, rb4⟩, trivial⟩ rfl rfl h8 g8 d8 h9 g9 d9 hq ha hb h
theorem mid4 {p1 p2 p3 p4 : Oper} (R : Act → World → Prop) (h2 : ∀ a w, R a w → wpList Try.prog O Q rest a w) (h1 : (∀ a w, R a w → wpList Try.prog O Q rest a w) → wpList Try.prog O Q (p1 :: p2 :: p3 :: p4 :: rest) a w) : wpList Try.prog O Q (p1 :: p2 :: p3 :: p4 :: rest) a w := h1 h2
theorem mid5 {p1 p2 p3 p4 p5 : Oper} (R : Act → World → Prop) (h2 : ∀ a w, R a w → wpList Try.prog O Q rest a w) (h1 : (∀ a w, R a w → wpList Try.prog O Q rest a w) → wpList Try.prog O Q (p1 :: p2 :: p3 :: p4 :: p5 :: rest) a w) : wpList Try.prog O Q (p1 :: p2 :: p3 :: p4 :: p5 :: rest) a w := h1 h2
theorem mid7 {p1 p2 p3 p4 p5 p6 p7 : Oper} (R : Act → World → Prop) (h2 : ∀ a w, R a w → wpList Try.prog O Q rest a w) (h1 : (∀ a w, R a w → wpList Try.prog O Q rest a w) → wpList Try.prog O Q (p1 :: p2 :: p3 :: p4 :: p5 :: p6 :: p7 :: rest) a w) : wpList Try.prog O Q (p1 :: p2 :: p3 :: p4 :: p5 :: p6 :: p7 :: rest) a w := h1 h2
theorem mid22 {p1 p2 p3 p4 p5 p6 p7 p8 p9 p10 p11 p12 p13 p14 p15 p16 p17 p18 p19 p20 p21 p22 : Oper} (R : Act → World → Prop) (h2 : ∀ a w, R a w → wpList Try.prog O Q rest a w) (h1 : (∀ a w, R a w → wpList Try.prog O Q rest a w) → wpList Try.prog O Q (p1 :: p2 :: p3 :: p4 :: p5 :: p6 :: p7 :: p8 :: p9 :: p10 :: p11 :: p12 :: p13 :: p14 :: p15 :: p16 :: p17 :: p18 :: p19 :: p20 :: p21 :: p22 :: rest) a w) : wpList Try.prog O Q (p1 :: p2 :: p3 :: p4 :: p5 :: p6 :: p7 :: p8 :: p9 :: p10 :: p11 :: p12 :: p13 :: p14 :: p15 :: p16 :: p17 :: p18 :: p19 :: p20 :: p21 :: p22 :: rest) a w := h1 h2
end Go.Proofs.Ytcolfgnjmnapkaa
