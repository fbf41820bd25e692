/- Steps of a plain region by hand, over whatever program: the frame is known at listed slots. -/
import Derived.WalkKit
import Derived.WalkSpells
import Derived.WalkLawsBesides
set_option linter.unusedVariables false
set_option linter.unusedSimpArgs false
namespace Go.Pl
open Go.RowKit
variable {P : Program} {O : Array Oper} {Q : Exit → Act → World → Prop} {rest : List Oper} {o : Oper} {a : Act} {w : World} {ρ : Operand → Value}
theorem st_runw {v : Value} {w' : World} (hw : Region.wanted o (yielded O a.tmps) = true) (hr : (execOp a.eval o).run P w = .ok (.value v) w') (h : wpList P O Q rest (a.put o.dst v) w') : wpList P O Q (o :: rest) a w := by
 simp only [wpList, hw, if_true]
 left
 unfold Oper.wp
 rw [hr]
 exact h
theorem st_runs {w' : World} (hw : Region.wanted o (yielded O a.tmps) = true) (hr : (execOp a.eval o).run P w = .ok .skip w') (hd : o.dst = none) (h : wpList P O Q rest a w') : wpList P O Q (o :: rest) a w := by
 simp only [wpList, hw, if_true]
 left
 unfold Oper.wp
 rw [hr, Oper.upon_skip, hd]
 exact h
theorem st_call {f : FuncId} {args : Array Value} {R : Value → World → Prop} (hw : Region.wanted o (yielded O a.tmps) = true) (hr : (execOp a.eval o).run P w = .ok (.enter f args) w) (hc : Calls P f args w fun e w' => ∃ v, e = .returned v ∧ R v w') (h : ∀ v w', R v w' → wpList P O Q rest (a.put o.dst v) w') : wpList P O Q (o :: rest) a w := by
 simp only [wpList, hw, if_true]
 left
 unfold Oper.wp
 rw [hr, Oper.upon_enter]
 refine hc.mono ?_
 rintro e w' ⟨v, rfl, hR⟩
 exact h v w' hR
theorem eval_put {d i : Nat} {v : Value} (h : d < a.tmps.size) : (a.put (some d) v).eval (.tmp i) = if i = d then v else a.eval (.tmp i) := by
 unfold Act.put Act.eval
 simp only [Array.getD_eq_getD_getElem?, Array.getElem?_setIfInBounds]
 by_cases e : i = d
 ·subst e; simp [h]
 ·simp [e, Ne.symm e]
theorem size_put {d : Option Tmp} {v : Value} : (a.put d v).tmps.size = a.tmps.size := by
 cases d <;> simp [Act.put]
theorem yield_eq {g s : Nat} (hg : (O[g]?).bind (·.dst) = some s) (hs : s < a.tmps.size) : yielded O a.tmps g = match a.eval (.tmp s) with | .bool b => some b | _ => none := by
 unfold yielded Act.eval
 rw [hg]
 simp [hs]
 cases a.tmps[s] <;> rfl
theorem wanted_none (h : o.guard = none) (f) : Region.wanted o f = true := by unfold Region.wanted; rw [h]
theorem wanted_some {j : Nat} {b : Bool} (h : o.guard = some (j, b)) (f) : Region.wanted o f = (f j == some b) := by unfold Region.wanted; rw [h]
/-- What is known of a frame: n slots, the listed ones by value, nothing deferred. -/
structure EnvD (ds : List Deferred) (n : Nat) (L : List (Nat × Value)) (a : Act) : Prop where
 size : a.tmps.size = n
 at_ : ∀ x ∈ L, a.eval (.tmp x.1) = x.2
 df : a.defers = ds
abbrev Env := EnvD []
variable {ds : List Deferred}
def AllAt (a : Act) : List (Nat × Value) → Prop
 | [] => True
 | x :: l => a.eval (.tmp x.1) = x.2 ∧ AllAt a l
theorem AllAt.mem {a : Act} : ∀ {L : List (Nat × Value)}, AllAt a L → ∀ x ∈ L, a.eval (.tmp x.1) = x.2
 | _ :: _, h, x, hx => by
  rcases List.mem_cons.1 hx with rfl | hx
  ·exact h.1
  ·exact AllAt.mem h.2 x hx
theorem EnvD.of {n : Nat} {L L' : List (Nat × Value)} (E : EnvD ds n L a) (h : AllAt a L') : EnvD ds n L' a := ⟨E.size, h.mem, E.df⟩
theorem EnvD.get {n : Nat} {L : List (Nat × Value)} (E : EnvD ds n L a) (k : Nat) {s : Nat} {v : Value} (h : L[k]? = some (s, v)) : a.eval (.tmp s) = v := E.at_ (s, v) (List.mem_of_getElem? h)
theorem EnvD.put {n d : Nat} {L : List (Nat × Value)} {v : Value} (E : EnvD ds n L a) (hn : d < n) (hf : (L.map (·.1)).contains d = false) : EnvD ds n ((d, v) :: L) (a.put (some d) v) := by
 refine ⟨size_put.trans E.size, fun x hx => ?_, E.df⟩
 rw [eval_put (by rw [E.size]; exact hn)]
 rcases List.mem_cons.1 hx with h1 | h2
 ·subst h1; rw [if_pos rfl]
 ·rw [if_neg]
  ·exact E.at_ x h2
  ·intro e
   have : (L.map (·.1)).contains d = true := by simp only [List.contains_eq_mem, decide_eq_true_eq]; rw [← e]; exact List.mem_map_of_mem h2
   rw [hf] at this; cases this
def drop1 (d : Nat) : List (Nat × Value) → List (Nat × Value)
 | [] => []
 | x :: l => bif x.1 == d then drop1 d l else x :: drop1 d l
theorem drop1_mem {d : Nat} : ∀ {L : List (Nat × Value)} {x}, x ∈ drop1 d L → x ∈ L ∧ x.1 ≠ d
 | y :: l, x, h => by
  unfold drop1 at h
  cases hy : y.1 == d with
  | true => rw [hy] at h; have := drop1_mem (L := l) h; exact ⟨List.mem_cons_of_mem _ this.1, this.2⟩
  | false =>
   rw [hy] at h
   rcases List.mem_cons.1 h with rfl | h
   ·exact ⟨by simp, by simpa using hy⟩
   ·have := drop1_mem (L := l) h; exact ⟨List.mem_cons_of_mem _ this.1, this.2⟩
theorem EnvD.set {n d : Nat} {L : List (Nat × Value)} {v : Value} (E : EnvD ds n L a) (hn : d < n) : EnvD ds n ((d, v) :: drop1 d L) (a.put (some d) v) := by
 refine ⟨size_put.trans E.size, fun x hx => ?_, E.df⟩
 rw [eval_put (by rw [E.size]; exact hn)]
 rcases List.mem_cons.1 hx with rfl | hx
 ·rw [if_pos rfl]
 ·have := drop1_mem hx
  rw [if_neg this.2]; exact E.at_ x this.1
section
variable {n d : Nat} {L : List (Nat × Value)} {v : Value} {w' : World}
theorem env_put (E : EnvD ds n L a) (hd : o.dst = some d) (hn : d < n) (hf : (L.map (·.1)).contains d = false) (hw : Region.wanted o (yielded O a.tmps) = true) (hr : (execOp a.eval o).run P w = .ok (.value v) w') (k : ∀ a', EnvD ds n ((d, v) :: L) a' → wpList P O Q rest a' w') : wpList P O Q (o :: rest) a w := by
 refine st_runw hw hr ?_
 rw [hd]
 exact k _ (E.put hn hf)
theorem env_set (E : EnvD ds n L a) (hd : o.dst = some d) (hn : d < n) (hw : Region.wanted o (yielded O a.tmps) = true) (hr : (execOp a.eval o).run P w = .ok (.value v) w') (k : ∀ a', EnvD ds n ((d, v) :: drop1 d L) a' → wpList P O Q rest a' w') : wpList P O Q (o :: rest) a w := by
 refine st_runw hw hr ?_
 rw [hd]
 exact k _ (E.set hn)
theorem env_store (E : EnvD ds n L a) (hd : o.dst = none) (hw : Region.wanted o (yielded O a.tmps) = true) (hr : (execOp a.eval o).run P w = .ok .skip w') (k : EnvD ds n L a → wpList P O Q rest a w') : wpList P O Q (o :: rest) a w := st_runs hw hr hd (k E)
theorem env_call {f : FuncId} {args : Array Value} {F : World → Prop} (E : EnvD ds n L a) (hd : o.dst = some d) (hn : d < n) (hf : (L.map (·.1)).contains d = false) (hw : Region.wanted o (yielded O a.tmps) = true) (hr : (execOp a.eval o).run P w = .ok (.enter f args) w)
  (hc : Calls P f args w fun e w' => e = .returned v ∧ F w') (k : ∀ a' w', F w' → EnvD ds n ((d, v) :: L) a' → wpList P O Q rest a' w') : wpList P O Q (o :: rest) a w := by
 refine st_call (R := fun u w' => u = v ∧ F w') hw hr (hc.mono fun e w' h => ⟨v, h.1, rfl, h.2⟩) ?_
 rintro u w' ⟨rfl, hF⟩
 rw [hd]
 exact k _ w' hF (E.put hn hf)
theorem env_skip {g s : Nat} {b : Bool} (E : EnvD ds n L a) (hd : o.dst = some d) (hn : d < n) (hf : (L.map (·.1)).contains d = false) (hgd : o.guard = some (g, b)) (hg : (O[g]?).bind (·.dst) = some s) (hs : s < n) (hv : a.eval (.tmp s) = .bool (!b)) (k : ∀ a', EnvD ds n ((d, undef) :: L) a' → wpList P O Q rest a' w) : wpList P O Q (o :: rest) a w := by
 refine wpList_skip ?_ ?_
 ·rw [wanted_some hgd, yield_eq hg (by rw [E.size]; exact hs), hv]; cases b <;> rfl
 ·rw [hd]; exact k _ (E.put hn hf)
theorem env_skipu {g s : Nat} {b : Bool} (E : EnvD ds n L a) (hd : o.dst = some d) (hn : d < n) (hf : (L.map (·.1)).contains d = false) (hgd : o.guard = some (g, b)) (hg : (O[g]?).bind (·.dst) = some s) (hs : s < n) (hv : a.eval (.tmp s) = undef) (k : ∀ a', EnvD ds n ((d, undef) :: L) a' → wpList P O Q rest a' w) : wpList P O Q (o :: rest) a w := by
 refine wpList_skip ?_ ?_
 ·rw [wanted_some hgd, yield_eq hg (by rw [E.size]; exact hs), hv]; rfl
 ·rw [hd]; exact k _ (E.put hn hf)
/-- env_put and env_call, with what is nearly always so by default. -/
theorem ep {v : Value} {w' : World} {n d : Nat} {L : List (Nat × Value)} (E : EnvD ds n L a) (hr : (execOp a.eval o).run P w = .ok (.value v) w') (k : ∀ a', EnvD ds n ((d, v) :: L) a' → wpList P O Q rest a' w') (hd : o.dst = some d := by rfl) (hn : d < n := by decide) (hf : (L.map (·.1)).contains d = false := by rfl) (hw : Region.wanted o (yielded O a.tmps) = true := by exact wanted_none rfl _) : wpList P O Q (o :: rest) a w := env_put E hd hn hf hw hr k
theorem eg {v : Value} {w' : World} {n d : Nat} {L : List (Nat × Value)} (E : EnvD ds n L a) (hw : Region.wanted o (yielded O a.tmps) = true) (hr : (execOp a.eval o).run P w = .ok (.value v) w') (k : ∀ a', EnvD ds n ((d, v) :: L) a' → wpList P O Q rest a' w') (hd : o.dst = some d := by rfl) (hn : d < n := by decide) (hf : (L.map (·.1)).contains d = false := by rfl) : wpList P O Q (o :: rest) a w := env_put E hd hn hf hw hr k
theorem ek {n d g s : Nat} {b : Bool} {L : List (Nat × Value)} (E : EnvD ds n L a) (hgd : o.guard = some (g, b)) (hv : a.eval (.tmp s) = .bool (!b)) (k : ∀ a', EnvD ds n ((d, undef) :: L) a' → wpList P O Q rest a' w) (hd : o.dst = some d := by rfl) (hn : d < n := by decide) (hf : (L.map (·.1)).contains d = false := by rfl) (hg : (O[g]?).bind (·.dst) = some s := by rfl) (hs : s < n := by decide) : wpList P O Q (o :: rest) a w := env_skip E hd hn hf hgd hg hs hv k
theorem eu {n d g s : Nat} {b : Bool} {L : List (Nat × Value)} (E : EnvD ds n L a) (hgd : o.guard = some (g, b)) (hv : a.eval (.tmp s) = undef) (k : ∀ a', EnvD ds n ((d, undef) :: L) a' → wpList P O Q rest a' w) (hd : o.dst = some d := by rfl) (hn : d < n := by decide) (hf : (L.map (·.1)).contains d = false := by rfl) (hg : (O[g]?).bind (·.dst) = some s := by rfl) (hs : s < n := by decide) : wpList P O Q (o :: rest) a w := env_skipu E hd hn hf hgd hg hs hv k
theorem w_yes {g s : Nat} {b : Bool} (E : EnvD ds n L a) (hgd : o.guard = some (g, b)) (hg : (O[g]?).bind (·.dst) = some s) (hs : s < n) (hv : a.eval (.tmp s) = .bool b) : Region.wanted o (yielded O a.tmps) = true := by
 rw [wanted_some hgd, yield_eq hg (by rw [E.size]; exact hs), hv]; simp
end
theorem run_move {x : Operand} {v : Value} (ho : o.op = .move x) (hx : ρ x = v) : (execOp ρ o).run P w = .ok (.value v) w := by
 simp [execOp, ho, hx, go_sem]
theorem run_assign {x : Operand} {v : Value} (ho : o.op = .assign x) (hx : ρ x = v) : (execOp ρ o).run P w = .ok (.value v) w := by
 simp [execOp, ho, hx, go_sem]
theorem run_pick_t {c x y : Operand} {v : Value} (ho : o.op = .pick c x y) (hc : ρ c = .bool true) (hx : ρ x = v) : (execOp ρ o).run P w = .ok (.value v) w := by
 simp [execOp, ho, hc, hx, go_sem]
theorem run_pick_f {c x y : Operand} {v : Value} (ho : o.op = .pick c x y) (hc : ρ c = .bool false) (hy : ρ y = v) : (execOp ρ o).run P w = .ok (.value v) w := by
 simp [execOp, ho, hc, hy, go_sem]
theorem run_not {t : TypeId} {x : Operand} {b : Bool} (ho : o.op = .unOp .not t x) (hx : ρ x = .bool b) : (execOp ρ o).run P w = .ok (.value (.bool !b)) w := by
 simp [execOp, ho, hx, go_sem]
section
variable {f : FuncId} {ts : Array TypeId}
theorem run_call1 {x : Operand} {v : Value} (eg : ∀ args w, (callFunc f args).run P w = .ok (.enter f args) w) (ho : o.op = .call ⟨.value (.func f), #[x], ts⟩) (hf : ρ (.func f) = .func (.func f) #[] #[]) (hx : ρ x = v) : (execOp ρ o).run P w = .ok (.enter f #[v]) w := by
 simp [execOp, ho, hf, hx, eg, resolve, Deferred.ofValue, invoke, go_sem]
theorem run_call2 {x y : Operand} {v u : Value} (eg : ∀ args w, (callFunc f args).run P w = .ok (.enter f args) w) (ho : o.op = .call ⟨.value (.func f), #[x, y], ts⟩) (hf : ρ (.func f) = .func (.func f) #[] #[]) (hx : ρ x = v) (hy : ρ y = u) : (execOp ρ o).run P w = .ok (.enter f #[v, u]) w := by
 simp [execOp, ho, hf, hx, hy, eg, resolve, Deferred.ofValue, invoke, go_sem]
theorem run_call3 {x y z : Operand} {v u t : Value} (eg : ∀ args w, (callFunc f args).run P w = .ok (.enter f args) w) (ho : o.op = .call ⟨.value (.func f), #[x, y, z], ts⟩) (hf : ρ (.func f) = .func (.func f) #[] #[]) (hx : ρ x = v) (hy : ρ y = u) (hz : ρ z = t) : (execOp ρ o).run P w = .ok (.enter f #[v, u, t]) w := by
 simp [execOp, ho, hf, hx, hy, hz, eg, resolve, Deferred.ofValue, invoke, go_sem]
end
section
variable {t t2 : TypeId} {k : IntKind} {x y : Operand} {m n : Int} (hx : ρ x = .int k m) (hy : ρ y = .int k n)
include hx hy
theorem run_ieql (ht : P.underlying t = some (.int k)) (ho : o.op = .binOp .eql t x y t2) : (execOp ρ o).run P w = .ok (.value (.bool (m == n))) w := by
 simp [execOp, ho, hx, hy, go_sem, ht]
theorem run_ilss (ht : P.underlying t = some (.int k)) (ho : o.op = .binOp .lss t x y t2) : (execOp ρ o).run P w = .ok (.value (.bool (decide (m < n)))) w := by
 simp [execOp, ho, hx, hy, go_sem, ht]
theorem run_ileq (ht : P.underlying t = some (.int k)) (ho : o.op = .binOp .leq t x y t2) : (execOp ρ o).run P w = .ok (.value (.bool (decide (m ≤ n)))) w := by
 simp [execOp, ho, hx, hy, go_sem, ht]
theorem run_igtr (ht : P.underlying t = some (.int k)) (ho : o.op = .binOp .gtr t x y t2) : (execOp ρ o).run P w = .ok (.value (.bool (decide (n < m)))) w := by
 simp [execOp, ho, hx, hy, go_sem, ht]
end
/-! ### the code around the regions -/
section
variable {f : FuncId} {fn : Func} {c : Code} {args : Array Value} {R : Ending → World → Prop} {n : Nat} {L : List (Nat × Value)}
theorem ret_tmp {t : Tmp} {v : Value} (hr : fn.results = #[.tmp t]) (E : Env n L a) (hv : a.eval (.tmp t) = v) (h : R (.returned v) w) : bodyPost P fn R .ret a w := by
 refine ⟨E.df, v, ?_, h⟩
 unfold results
 rw [hr]
 have : a.tmps.getD t undef = v := hv
 rw [Array.getD_eq_getD_getElem?] at this
 simp [this]
end
section
variable {next : Act → World → Prop} {Q1 : Exit → Act → World → Prop} {id : Nat}
theorem then_n (h : next a w) : Exit.then next Q1 .normal a w := h
theorem blk_n (h : Q1 .normal a w) : Exit.inBlock id Q1 .normal a w := h
theorem then_r (h : Q1 .ret a w) : Exit.then next Q1 .ret a w := h
theorem blk_r (h : Q1 .ret a w) : Exit.inBlock id Q1 .ret a w := h
end
end Go.Pl
namespace Go.Pl
end Go.Pl
namespace Go.Pl
theorem wp_start2 {P : Program} {f : FuncId} {fn : Func} {c : Code} {R : Ending → World → Prop} {n : Nat} {w : World} {v0 v1 : Value} (hf : P.funcs[f]? = some fn) (hb : fn.body = some c) (hn : fn.ntmps = n) (h2 : 2 ≤ n) (k : ∀ a, Env n [(0, v0), (1, v1)] a → c.wp P (bodyPost P fn R) a w) : Calls P f #[v0, v1] w R := by
 refine calls_of_wp hf hb (k _ ⟨?_, ?_, rfl⟩)
 ·simp [hn]; omega
 ·intro x hx
  simp only [List.mem_cons, List.not_mem_nil, or_false] at hx
  rcases hx with rfl | rfl
  ·show (#[v0, v1] ++ Array.replicate (fn.ntmps - 2) undef).getD 0 undef = v0
   rw [Array.getD_eq_getD_getElem?, Array.getElem?_append_left (by simp)]; rfl
  ·show (#[v0, v1] ++ Array.replicate (fn.ntmps - 2) undef).getD 1 undef = v1
   rw [Array.getD_eq_getD_getElem?, Array.getElem?_append_left (by simp)]; rfl
end Go.Pl
