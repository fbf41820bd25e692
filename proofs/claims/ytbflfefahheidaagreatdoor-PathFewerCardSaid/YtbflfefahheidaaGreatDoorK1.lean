/- Part 1 of the proof: the texts Env, Drw, Drg, Drx, Base, Wa, Rn, Fe, Ev, Em, En, Ar. -/
import Derived.WalkKit
import Derived.WalkSpells
import Derived.WalkLawsBesides
import Derived.Orders
import Derived.Maps.Own
import Derived.Maps.OwnSet
import Derived.Maps.RangeWalk
import Derived.Sort.KeysCollected
import Derived.Deep.MidRow
import Derived.Maps.AppendAt
import Derived.Laws.AppendOwnNone
import Derived.RangeFuncNested
import Derived.TacticsIn
import Derived.OrdersIn
import Derived.Scope
import Derived.Shelf.Abstract
/- Steps of a plain region by hand, over whatever program: the frame is known at listed slots. -/
set_option linter.unusedVariables false
set_option linter.unusedSimpArgs false
namespace Go.Pl
open Go.RowKit
variable {P : Program} {O : Array Oper} {Q : Exit → Act → World → Prop} {rest : List Oper} {o : Oper} {a : Act} {w : World} {ρ : Operand → Value}
theorem st_runw {v : Value} {w' : World} (hw : Region.wanted o (yielded O a.tmps) = true) (hr : (execOp a.eval o).run P w = .ok (.value v) w') (h : wpList P O Q rest (a.put o.dst v) w') : wpList P O Q (o :: rest) a w := by
  simp only [wpList, hw, if_true]
  left
  unfold Oper.wp
  rw [hr]
  exact h
theorem st_call {f : FuncId} {args : Array Value} {R : Value → World → Prop} (hw : Region.wanted o (yielded O a.tmps) = true) (hr : (execOp a.eval o).run P w = .ok (.enter f args) w) (hc : Calls P f args w fun e w' => ∃ v, e = .returned v ∧ R v w') (h : ∀ v w', R v w' → wpList P O Q rest (a.put o.dst v) w') : wpList P O Q (o :: rest) a w := by
  simp only [wpList, hw, if_true]
  left
  unfold Oper.wp
  rw [hr, Oper.upon_enter]
  refine hc.mono ?_
  rintro e w' ⟨v, rfl, hR⟩
  exact h v w' hR
theorem eval_put {d i : Nat} {v : Value} (h : d < a.tmps.size) : (a.put (some d) v).eval (.tmp i) = if i = d then v else a.eval (.tmp i) := by
  unfold Act.put Act.eval
  simp only [Array.getD_eq_getD_getElem?, Array.getElem?_setIfInBounds]
  by_cases e : i = d
  · subst e; simp [h]
  · simp [e, Ne.symm e]
theorem size_put {d : Option Tmp} {v : Value} : (a.put d v).tmps.size = a.tmps.size := by
  cases d <;> simp [Act.put]
theorem yield_eq {g s : Nat} (hg : (O[g]?).bind (·.dst) = some s) (hs : s < a.tmps.size) : yielded O a.tmps g = match a.eval (.tmp s) with | .bool b => some b | _ => none := by
  unfold yielded Act.eval
  rw [hg]
  simp [hs]
  cases a.tmps[s] <;> rfl
theorem wanted_none (h : o.guard = none) (f) : Region.wanted o f = true := by unfold Region.wanted; rw [h]
theorem wanted_some {j : Nat} {b : Bool} (h : o.guard = some (j, b)) (f) : Region.wanted o f = (f j == some b) := by unfold Region.wanted; rw [h]
/-- What is known of a frame: n slots, the listed ones by value, nothing deferred. -/
structure EnvD (ds : List Deferred) (n : Nat) (L : List (Nat × Value)) (a : Act) : Prop where
  size : a.tmps.size = n
  at_ : ∀ x ∈ L, a.eval (.tmp x.1) = x.2
  df : a.defers = ds
abbrev Env := EnvD []
variable {ds : List Deferred}
def AllAt (a : Act) : List (Nat × Value) → Prop
  | [] => True
  | x :: l => a.eval (.tmp x.1) = x.2 ∧ AllAt a l
theorem AllAt.mem {a : Act} : ∀ {L : List (Nat × Value)}, AllAt a L → ∀ x ∈ L, a.eval (.tmp x.1) = x.2
  | _ :: _, h, x, hx => by
    rcases List.mem_cons.1 hx with rfl | hx
    · exact h.1
    · exact AllAt.mem h.2 x hx
theorem EnvD.of {n : Nat} {L L' : List (Nat × Value)} (E : EnvD ds n L a) (h : AllAt a L') : EnvD ds n L' a := ⟨E.size, h.mem, E.df⟩
theorem EnvD.get {n : Nat} {L : List (Nat × Value)} (E : EnvD ds n L a) (k : Nat) {s : Nat} {v : Value} (h : L[k]? = some (s, v)) : a.eval (.tmp s) = v := E.at_ (s, v) (List.mem_of_getElem? h)
theorem EnvD.put {n d : Nat} {L : List (Nat × Value)} {v : Value} (E : EnvD ds n L a) (hn : d < n) (hf : (L.map (·.1)).contains d = false) : EnvD ds n ((d, v) :: L) (a.put (some d) v) := by
  refine ⟨size_put.trans E.size, fun x hx => ?_, E.df⟩
  rw [eval_put (by rw [E.size]; exact hn)]
  rcases List.mem_cons.1 hx with h1 | h2
  · subst h1; rw [if_pos rfl]
  · rw [if_neg]
    · exact E.at_ x h2
    · intro e
      have : (L.map (·.1)).contains d = true := by simp only [List.contains_eq_mem, decide_eq_true_eq]; rw [← e]; exact List.mem_map_of_mem h2
      rw [hf] at this; cases this
def drop1 (d : Nat) : List (Nat × Value) → List (Nat × Value)
  | [] => []
  | x :: l => bif x.1 == d then drop1 d l else x :: drop1 d l
theorem drop1_mem {d : Nat} : ∀ {L : List (Nat × Value)} {x}, x ∈ drop1 d L → x ∈ L ∧ x.1 ≠ d
  | y :: l, x, h => by
    unfold drop1 at h
    cases hy : y.1 == d with
    | true => rw [hy] at h; have := drop1_mem (L := l) h; exact ⟨List.mem_cons_of_mem _ this.1, this.2⟩
    | false =>
      rw [hy] at h
      rcases List.mem_cons.1 h with rfl | h
      · exact ⟨by simp, by simpa using hy⟩
      · have := drop1_mem (L := l) h; exact ⟨List.mem_cons_of_mem _ this.1, this.2⟩
theorem EnvD.set {n d : Nat} {L : List (Nat × Value)} {v : Value} (E : EnvD ds n L a) (hn : d < n) : EnvD ds n ((d, v) :: drop1 d L) (a.put (some d) v) := by
  refine ⟨size_put.trans E.size, fun x hx => ?_, E.df⟩
  rw [eval_put (by rw [E.size]; exact hn)]
  rcases List.mem_cons.1 hx with rfl | hx
  · rw [if_pos rfl]
  · have := drop1_mem hx
    rw [if_neg this.2]; exact E.at_ x this.1
section
variable {n d : Nat} {L : List (Nat × Value)} {v : Value} {w' : World}
theorem env_put (E : EnvD ds n L a) (hd : o.dst = some d) (hn : d < n) (hf : (L.map (·.1)).contains d = false) (hw : Region.wanted o (yielded O a.tmps) = true) (hr : (execOp a.eval o).run P w = .ok (.value v) w') (k : ∀ a', EnvD ds n ((d, v) :: L) a' → wpList P O Q rest a' w') : wpList P O Q (o :: rest) a w := by
  refine st_runw hw hr ?_
  rw [hd]
  exact k _ (E.put hn hf)
theorem env_set (E : EnvD ds n L a) (hd : o.dst = some d) (hn : d < n) (hw : Region.wanted o (yielded O a.tmps) = true) (hr : (execOp a.eval o).run P w = .ok (.value v) w') (k : ∀ a', EnvD ds n ((d, v) :: drop1 d L) a' → wpList P O Q rest a' w') : wpList P O Q (o :: rest) a w := by
  refine st_runw hw hr ?_
  rw [hd]
  exact k _ (E.set hn)
theorem env_call {f : FuncId} {args : Array Value} {F : World → Prop} (E : EnvD ds n L a) (hd : o.dst = some d) (hn : d < n) (hf : (L.map (·.1)).contains d = false) (hw : Region.wanted o (yielded O a.tmps) = true) (hr : (execOp a.eval o).run P w = .ok (.enter f args) w)
    (hc : Calls P f args w fun e w' => e = .returned v ∧ F w') (k : ∀ a' w', F w' → EnvD ds n ((d, v) :: L) a' → wpList P O Q rest a' w') : wpList P O Q (o :: rest) a w := by
  refine st_call (R := fun u w' => u = v ∧ F w') hw hr (hc.mono fun e w' h => ⟨v, h.1, rfl, h.2⟩) ?_
  rintro u w' ⟨rfl, hF⟩
  rw [hd]
  exact k _ w' hF (E.put hn hf)
theorem env_skip {g s : Nat} {b : Bool} (E : EnvD ds n L a) (hd : o.dst = some d) (hn : d < n) (hf : (L.map (·.1)).contains d = false) (hgd : o.guard = some (g, b)) (hg : (O[g]?).bind (·.dst) = some s) (hs : s < n) (hv : a.eval (.tmp s) = .bool (!b)) (k : ∀ a', EnvD ds n ((d, undef) :: L) a' → wpList P O Q rest a' w) : wpList P O Q (o :: rest) a w := by
  refine wpList_skip ?_ ?_
  · rw [wanted_some hgd, yield_eq hg (by rw [E.size]; exact hs), hv]; cases b <;> rfl
  · rw [hd]; exact k _ (E.put hn hf)
theorem env_skipu {g s : Nat} {b : Bool} (E : EnvD ds n L a) (hd : o.dst = some d) (hn : d < n) (hf : (L.map (·.1)).contains d = false) (hgd : o.guard = some (g, b)) (hg : (O[g]?).bind (·.dst) = some s) (hs : s < n) (hv : a.eval (.tmp s) = undef) (k : ∀ a', EnvD ds n ((d, undef) :: L) a' → wpList P O Q rest a' w) : wpList P O Q (o :: rest) a w := by
  refine wpList_skip ?_ ?_
  · rw [wanted_some hgd, yield_eq hg (by rw [E.size]; exact hs), hv]; rfl
  · rw [hd]; exact k _ (E.put hn hf)
theorem w_yes {g s : Nat} {b : Bool} (E : EnvD ds n L a) (hgd : o.guard = some (g, b)) (hg : (O[g]?).bind (·.dst) = some s) (hs : s < n) (hv : a.eval (.tmp s) = .bool b) : Region.wanted o (yielded O a.tmps) = true := by
  rw [wanted_some hgd, yield_eq hg (by rw [E.size]; exact hs), hv]; simp
end
section
/-- env_put and env_call, with what is nearly always so by default. -/
theorem ep {v : Value} {w' : World} {n d : Nat} {L : List (Nat × Value)} (E : EnvD ds n L a) (hd : o.dst = some d) (hr : (execOp a.eval o).run P w = .ok (.value v) w') (k : ∀ a', EnvD ds n ((d, v) :: L) a' → wpList P O Q rest a' w') (hn : d < n := by decide) (hf : (L.map (·.1)).contains d = false := by rfl) (hw : Region.wanted o (yielded O a.tmps) = true := by exact wanted_none rfl _) : wpList P O Q (o :: rest) a w := env_put E hd hn hf hw hr k
theorem eg {v : Value} {w' : World} {n d : Nat} {L : List (Nat × Value)} (E : EnvD ds n L a) (hd : o.dst = some d) (hw : Region.wanted o (yielded O a.tmps) = true) (hr : (execOp a.eval o).run P w = .ok (.value v) w') (k : ∀ a', EnvD ds n ((d, v) :: L) a' → wpList P O Q rest a' w') (hn : d < n := by decide) (hf : (L.map (·.1)).contains d = false := by rfl) : wpList P O Q (o :: rest) a w := env_put E hd hn hf hw hr k
theorem ek {n d g s : Nat} {b : Bool} {L : List (Nat × Value)} (E : EnvD ds n L a) (hd : o.dst = some d) (hgd : o.guard = some (g, b)) (hv : a.eval (.tmp s) = .bool (!b)) (k : ∀ a', EnvD ds n ((d, undef) :: L) a' → wpList P O Q rest a' w) (hn : d < n := by decide) (hf : (L.map (·.1)).contains d = false := by rfl) (hg : (O[g]?).bind (·.dst) = some s := by rfl) (hs : s < n := by decide) : wpList P O Q (o :: rest) a w := env_skip E hd hn hf hgd hg hs hv k
theorem eu {n d g s : Nat} {b : Bool} {L : List (Nat × Value)} (E : EnvD ds n L a) (hd : o.dst = some d) (hgd : o.guard = some (g, b)) (hv : a.eval (.tmp s) = undef) (k : ∀ a', EnvD ds n ((d, undef) :: L) a' → wpList P O Q rest a' w) (hn : d < n := by decide) (hf : (L.map (·.1)).contains d = false := by rfl) (hg : (O[g]?).bind (·.dst) = some s := by rfl) (hs : s < n := by decide) : wpList P O Q (o :: rest) a w := env_skipu E hd hn hf hgd hg hs hv k
/-- Short names for what is said often. -/
theorem EnvD.g0 {n s : Nat} {v : Value} {L : List (Nat × Value)} (E : EnvD ds n ((s, v) :: L) a) : a.eval (.tmp s) = v := E.at_ (s, v) (.head _)
theorem EnvD.g1 {n s : Nat} {v : Value} {x0 : Nat × Value} {L : List (Nat × Value)} (E : EnvD ds n (x0 :: (s, v) :: L) a) : a.eval (.tmp s) = v := E.at_ (s, v) (.tail _ (.head _))
theorem EnvD.g2 {n s : Nat} {v : Value} {x0 x1 : Nat × Value} {L : List (Nat × Value)} (E : EnvD ds n (x0 :: x1 :: (s, v) :: L) a) : a.eval (.tmp s) = v := E.at_ (s, v) (.tail _ (.tail _ (.head _)))
theorem EnvD.g3 {n s : Nat} {v : Value} {x0 x1 x2 : Nat × Value} {L : List (Nat × Value)} (E : EnvD ds n (x0 :: x1 :: x2 :: (s, v) :: L) a) : a.eval (.tmp s) = v := E.at_ (s, v) (.tail _ (.tail _ (.tail _ (.head _))))
theorem EnvD.g4 {n s : Nat} {v : Value} {x0 x1 x2 x3 : Nat × Value} {L : List (Nat × Value)} (E : EnvD ds n (x0 :: x1 :: x2 :: x3 :: (s, v) :: L) a) : a.eval (.tmp s) = v := E.at_ (s, v) (.tail _ (.tail _ (.tail _ (.tail _ (.head _)))))
theorem EnvD.g5 {n s : Nat} {v : Value} {x0 x1 x2 x3 x4 : Nat × Value} {L : List (Nat × Value)} (E : EnvD ds n (x0 :: x1 :: x2 :: x3 :: x4 :: (s, v) :: L) a) : a.eval (.tmp s) = v := E.at_ (s, v) (.tail _ (.tail _ (.tail _ (.tail _ (.tail _ (.head _))))))
theorem EnvD.g6 {n s : Nat} {v : Value} {x0 x1 x2 x3 x4 x5 : Nat × Value} {L : List (Nat × Value)} (E : EnvD ds n (x0 :: x1 :: x2 :: x3 :: x4 :: x5 :: (s, v) :: L) a) : a.eval (.tmp s) = v := E.at_ (s, v) (.tail _ (.tail _ (.tail _ (.tail _ (.tail _ (.tail _ (.head _)))))))
theorem EnvD.g7 {n s : Nat} {v : Value} {x0 x1 x2 x3 x4 x5 x6 : Nat × Value} {L : List (Nat × Value)} (E : EnvD ds n (x0 :: x1 :: x2 :: x3 :: x4 :: x5 :: x6 :: (s, v) :: L) a) : a.eval (.tmp s) = v := E.at_ (s, v) (.tail _ (.tail _ (.tail _ (.tail _ (.tail _ (.tail _ (.tail _ (.head _))))))))
theorem EnvD.g8 {n s : Nat} {v : Value} {x0 x1 x2 x3 x4 x5 x6 x7 : Nat × Value} {L : List (Nat × Value)} (E : EnvD ds n (x0 :: x1 :: x2 :: x3 :: x4 :: x5 :: x6 :: x7 :: (s, v) :: L) a) : a.eval (.tmp s) = v := E.at_ (s, v) (.tail _ (.tail _ (.tail _ (.tail _ (.tail _ (.tail _ (.tail _ (.tail _ (.head _)))))))))
theorem EnvD.g9 {n s : Nat} {v : Value} {x0 x1 x2 x3 x4 x5 x6 x7 x8 : Nat × Value} {L : List (Nat × Value)} (E : EnvD ds n (x0 :: x1 :: x2 :: x3 :: x4 :: x5 :: x6 :: x7 :: x8 :: (s, v) :: L) a) : a.eval (.tmp s) = v := E.at_ (s, v) (.tail _ (.tail _ (.tail _ (.tail _ (.tail _ (.tail _ (.tail _ (.tail _ (.tail _ (.head _))))))))))
theorem EnvD.g10 {n s : Nat} {v : Value} {x0 x1 x2 x3 x4 x5 x6 x7 x8 x9 : Nat × Value} {L : List (Nat × Value)} (E : EnvD ds n (x0 :: x1 :: x2 :: x3 :: x4 :: x5 :: x6 :: x7 :: x8 :: x9 :: (s, v) :: L) a) : a.eval (.tmp s) = v := E.at_ (s, v) (.tail _ (.tail _ (.tail _ (.tail _ (.tail _ (.tail _ (.tail _ (.tail _ (.tail _ (.tail _ (.head _)))))))))))
theorem EnvD.g11 {n s : Nat} {v : Value} {x0 x1 x2 x3 x4 x5 x6 x7 x8 x9 x10 : Nat × Value} {L : List (Nat × Value)} (E : EnvD ds n (x0 :: x1 :: x2 :: x3 :: x4 :: x5 :: x6 :: x7 :: x8 :: x9 :: x10 :: (s, v) :: L) a) : a.eval (.tmp s) = v := E.at_ (s, v) (.tail _ (.tail _ (.tail _ (.tail _ (.tail _ (.tail _ (.tail _ (.tail _ (.tail _ (.tail _ (.tail _ (.head _))))))))))))
theorem EnvD.g12 {n s : Nat} {v : Value} {x0 x1 x2 x3 x4 x5 x6 x7 x8 x9 x10 x11 : Nat × Value} {L : List (Nat × Value)} (E : EnvD ds n (x0 :: x1 :: x2 :: x3 :: x4 :: x5 :: x6 :: x7 :: x8 :: x9 :: x10 :: x11 :: (s, v) :: L) a) : a.eval (.tmp s) = v := E.at_ (s, v) (.tail _ (.tail _ (.tail _ (.tail _ (.tail _ (.tail _ (.tail _ (.tail _ (.tail _ (.tail _ (.tail _ (.tail _ (.head _)))))))))))))
theorem EnvD.g13 {n s : Nat} {v : Value} {x0 x1 x2 x3 x4 x5 x6 x7 x8 x9 x10 x11 x12 : Nat × Value} {L : List (Nat × Value)} (E : EnvD ds n (x0 :: x1 :: x2 :: x3 :: x4 :: x5 :: x6 :: x7 :: x8 :: x9 :: x10 :: x11 :: x12 :: (s, v) :: L) a) : a.eval (.tmp s) = v := E.at_ (s, v) (.tail _ (.tail _ (.tail _ (.tail _ (.tail _ (.tail _ (.tail _ (.tail _ (.tail _ (.tail _ (.tail _ (.tail _ (.tail _ (.head _))))))))))))))
theorem EnvD.g14 {n s : Nat} {v : Value} {x0 x1 x2 x3 x4 x5 x6 x7 x8 x9 x10 x11 x12 x13 : Nat × Value} {L : List (Nat × Value)} (E : EnvD ds n (x0 :: x1 :: x2 :: x3 :: x4 :: x5 :: x6 :: x7 :: x8 :: x9 :: x10 :: x11 :: x12 :: x13 :: (s, v) :: L) a) : a.eval (.tmp s) = v := E.at_ (s, v) (.tail _ (.tail _ (.tail _ (.tail _ (.tail _ (.tail _ (.tail _ (.tail _ (.tail _ (.tail _ (.tail _ (.tail _ (.tail _ (.tail _ (.head _)))))))))))))))
theorem EnvD.g15 {n s : Nat} {v : Value} {x0 x1 x2 x3 x4 x5 x6 x7 x8 x9 x10 x11 x12 x13 x14 : Nat × Value} {L : List (Nat × Value)} (E : EnvD ds n (x0 :: x1 :: x2 :: x3 :: x4 :: x5 :: x6 :: x7 :: x8 :: x9 :: x10 :: x11 :: x12 :: x13 :: x14 :: (s, v) :: L) a) : a.eval (.tmp s) = v := E.at_ (s, v) (.tail _ (.tail _ (.tail _ (.tail _ (.tail _ (.tail _ (.tail _ (.tail _ (.tail _ (.tail _ (.tail _ (.tail _ (.tail _ (.tail _ (.tail _ (.head _))))))))))))))))
theorem EnvD.g16 {n s : Nat} {v : Value} {x0 x1 x2 x3 x4 x5 x6 x7 x8 x9 x10 x11 x12 x13 x14 x15 : Nat × Value} {L : List (Nat × Value)} (E : EnvD ds n (x0 :: x1 :: x2 :: x3 :: x4 :: x5 :: x6 :: x7 :: x8 :: x9 :: x10 :: x11 :: x12 :: x13 :: x14 :: x15 :: (s, v) :: L) a) : a.eval (.tmp s) = v := E.at_ (s, v) (.tail _ (.tail _ (.tail _ (.tail _ (.tail _ (.tail _ (.tail _ (.tail _ (.tail _ (.tail _ (.tail _ (.tail _ (.tail _ (.tail _ (.tail _ (.tail _ (.head _)))))))))))))))))
theorem EnvD.g17 {n s : Nat} {v : Value} {x0 x1 x2 x3 x4 x5 x6 x7 x8 x9 x10 x11 x12 x13 x14 x15 x16 : Nat × Value} {L : List (Nat × Value)} (E : EnvD ds n (x0 :: x1 :: x2 :: x3 :: x4 :: x5 :: x6 :: x7 :: x8 :: x9 :: x10 :: x11 :: x12 :: x13 :: x14 :: x15 :: x16 :: (s, v) :: L) a) : a.eval (.tmp s) = v := E.at_ (s, v) (.tail _ (.tail _ (.tail _ (.tail _ (.tail _ (.tail _ (.tail _ (.tail _ (.tail _ (.tail _ (.tail _ (.tail _ (.tail _ (.tail _ (.tail _ (.tail _ (.tail _ (.head _))))))))))))))))))
theorem EnvD.g18 {n s : Nat} {v : Value} {x0 x1 x2 x3 x4 x5 x6 x7 x8 x9 x10 x11 x12 x13 x14 x15 x16 x17 : Nat × Value} {L : List (Nat × Value)} (E : EnvD ds n (x0 :: x1 :: x2 :: x3 :: x4 :: x5 :: x6 :: x7 :: x8 :: x9 :: x10 :: x11 :: x12 :: x13 :: x14 :: x15 :: x16 :: x17 :: (s, v) :: L) a) : a.eval (.tmp s) = v := E.at_ (s, v) (.tail _ (.tail _ (.tail _ (.tail _ (.tail _ (.tail _ (.tail _ (.tail _ (.tail _ (.tail _ (.tail _ (.tail _ (.tail _ (.tail _ (.tail _ (.tail _ (.tail _ (.tail _ (.head _)))))))))))))))))))
theorem EnvD.g19 {n s : Nat} {v : Value} {x0 x1 x2 x3 x4 x5 x6 x7 x8 x9 x10 x11 x12 x13 x14 x15 x16 x17 x18 : Nat × Value} {L : List (Nat × Value)} (E : EnvD ds n (x0 :: x1 :: x2 :: x3 :: x4 :: x5 :: x6 :: x7 :: x8 :: x9 :: x10 :: x11 :: x12 :: x13 :: x14 :: x15 :: x16 :: x17 :: x18 :: (s, v) :: L) a) : a.eval (.tmp s) = v := E.at_ (s, v) (.tail _ (.tail _ (.tail _ (.tail _ (.tail _ (.tail _ (.tail _ (.tail _ (.tail _ (.tail _ (.tail _ (.tail _ (.tail _ (.tail _ (.tail _ (.tail _ (.tail _ (.tail _ (.tail _ (.head _))))))))))))))))))))
theorem EnvD.g20 {n s : Nat} {v : Value} {x0 x1 x2 x3 x4 x5 x6 x7 x8 x9 x10 x11 x12 x13 x14 x15 x16 x17 x18 x19 : Nat × Value} {L : List (Nat × Value)} (E : EnvD ds n (x0 :: x1 :: x2 :: x3 :: x4 :: x5 :: x6 :: x7 :: x8 :: x9 :: x10 :: x11 :: x12 :: x13 :: x14 :: x15 :: x16 :: x17 :: x18 :: x19 :: (s, v) :: L) a) : a.eval (.tmp s) = v := E.at_ (s, v) (.tail _ (.tail _ (.tail _ (.tail _ (.tail _ (.tail _ (.tail _ (.tail _ (.tail _ (.tail _ (.tail _ (.tail _ (.tail _ (.tail _ (.tail _ (.tail _ (.tail _ (.tail _ (.tail _ (.tail _ (.head _)))))))))))))))))))))
theorem EnvD.g21 {n s : Nat} {v : Value} {x0 x1 x2 x3 x4 x5 x6 x7 x8 x9 x10 x11 x12 x13 x14 x15 x16 x17 x18 x19 x20 : Nat × Value} {L : List (Nat × Value)} (E : EnvD ds n (x0 :: x1 :: x2 :: x3 :: x4 :: x5 :: x6 :: x7 :: x8 :: x9 :: x10 :: x11 :: x12 :: x13 :: x14 :: x15 :: x16 :: x17 :: x18 :: x19 :: x20 :: (s, v) :: L) a) : a.eval (.tmp s) = v := E.at_ (s, v) (.tail _ (.tail _ (.tail _ (.tail _ (.tail _ (.tail _ (.tail _ (.tail _ (.tail _ (.tail _ (.tail _ (.tail _ (.tail _ (.tail _ (.tail _ (.tail _ (.tail _ (.tail _ (.tail _ (.tail _ (.tail _ (.head _))))))))))))))))))))))
theorem EnvD.g22 {n s : Nat} {v : Value} {x0 x1 x2 x3 x4 x5 x6 x7 x8 x9 x10 x11 x12 x13 x14 x15 x16 x17 x18 x19 x20 x21 : Nat × Value} {L : List (Nat × Value)} (E : EnvD ds n (x0 :: x1 :: x2 :: x3 :: x4 :: x5 :: x6 :: x7 :: x8 :: x9 :: x10 :: x11 :: x12 :: x13 :: x14 :: x15 :: x16 :: x17 :: x18 :: x19 :: x20 :: x21 :: (s, v) :: L) a) : a.eval (.tmp s) = v := E.at_ (s, v) (.tail _ (.tail _ (.tail _ (.tail _ (.tail _ (.tail _ (.tail _ (.tail _ (.tail _ (.tail _ (.tail _ (.tail _ (.tail _ (.tail _ (.tail _ (.tail _ (.tail _ (.tail _ (.tail _ (.tail _ (.tail _ (.tail _ (.head _)))))))))))))))))))))))
theorem EnvD.g23 {n s : Nat} {v : Value} {x0 x1 x2 x3 x4 x5 x6 x7 x8 x9 x10 x11 x12 x13 x14 x15 x16 x17 x18 x19 x20 x21 x22 : Nat × Value} {L : List (Nat × Value)} (E : EnvD ds n (x0 :: x1 :: x2 :: x3 :: x4 :: x5 :: x6 :: x7 :: x8 :: x9 :: x10 :: x11 :: x12 :: x13 :: x14 :: x15 :: x16 :: x17 :: x18 :: x19 :: x20 :: x21 :: x22 :: (s, v) :: L) a) : a.eval (.tmp s) = v := E.at_ (s, v) (.tail _ (.tail _ (.tail _ (.tail _ (.tail _ (.tail _ (.tail _ (.tail _ (.tail _ (.tail _ (.tail _ (.tail _ (.tail _ (.tail _ (.tail _ (.tail _ (.tail _ (.tail _ (.tail _ (.tail _ (.tail _ (.tail _ (.tail _ (.head _))))))))))))))))))))))))
theorem EnvD.g24 {n s : Nat} {v : Value} {x0 x1 x2 x3 x4 x5 x6 x7 x8 x9 x10 x11 x12 x13 x14 x15 x16 x17 x18 x19 x20 x21 x22 x23 : Nat × Value} {L : List (Nat × Value)} (E : EnvD ds n (x0 :: x1 :: x2 :: x3 :: x4 :: x5 :: x6 :: x7 :: x8 :: x9 :: x10 :: x11 :: x12 :: x13 :: x14 :: x15 :: x16 :: x17 :: x18 :: x19 :: x20 :: x21 :: x22 :: x23 :: (s, v) :: L) a) : a.eval (.tmp s) = v := E.at_ (s, v) (.tail _ (.tail _ (.tail _ (.tail _ (.tail _ (.tail _ (.tail _ (.tail _ (.tail _ (.tail _ (.tail _ (.tail _ (.tail _ (.tail _ (.tail _ (.tail _ (.tail _ (.tail _ (.tail _ (.tail _ (.tail _ (.tail _ (.tail _ (.tail _ (.head _)))))))))))))))))))))))))
theorem EnvD.g25 {n s : Nat} {v : Value} {x0 x1 x2 x3 x4 x5 x6 x7 x8 x9 x10 x11 x12 x13 x14 x15 x16 x17 x18 x19 x20 x21 x22 x23 x24 : Nat × Value} {L : List (Nat × Value)} (E : EnvD ds n (x0 :: x1 :: x2 :: x3 :: x4 :: x5 :: x6 :: x7 :: x8 :: x9 :: x10 :: x11 :: x12 :: x13 :: x14 :: x15 :: x16 :: x17 :: x18 :: x19 :: x20 :: x21 :: x22 :: x23 :: x24 :: (s, v) :: L) a) : a.eval (.tmp s) = v := E.at_ (s, v) (.tail _ (.tail _ (.tail _ (.tail _ (.tail _ (.tail _ (.tail _ (.tail _ (.tail _ (.tail _ (.tail _ (.tail _ (.tail _ (.tail _ (.tail _ (.tail _ (.tail _ (.tail _ (.tail _ (.tail _ (.tail _ (.tail _ (.tail _ (.tail _ (.tail _ (.head _))))))))))))))))))))))))))
theorem EnvD.g26 {n s : Nat} {v : Value} {x0 x1 x2 x3 x4 x5 x6 x7 x8 x9 x10 x11 x12 x13 x14 x15 x16 x17 x18 x19 x20 x21 x22 x23 x24 x25 : Nat × Value} {L : List (Nat × Value)} (E : EnvD ds n (x0 :: x1 :: x2 :: x3 :: x4 :: x5 :: x6 :: x7 :: x8 :: x9 :: x10 :: x11 :: x12 :: x13 :: x14 :: x15 :: x16 :: x17 :: x18 :: x19 :: x20 :: x21 :: x22 :: x23 :: x24 :: x25 :: (s, v) :: L) a) : a.eval (.tmp s) = v := E.at_ (s, v) (.tail _ (.tail _ (.tail _ (.tail _ (.tail _ (.tail _ (.tail _ (.tail _ (.tail _ (.tail _ (.tail _ (.tail _ (.tail _ (.tail _ (.tail _ (.tail _ (.tail _ (.tail _ (.tail _ (.tail _ (.tail _ (.tail _ (.tail _ (.tail _ (.tail _ (.tail _ (.head _)))))))))))))))))))))))))))
theorem EnvD.g27 {n s : Nat} {v : Value} {x0 x1 x2 x3 x4 x5 x6 x7 x8 x9 x10 x11 x12 x13 x14 x15 x16 x17 x18 x19 x20 x21 x22 x23 x24 x25 x26 : Nat × Value} {L : List (Nat × Value)} (E : EnvD ds n (x0 :: x1 :: x2 :: x3 :: x4 :: x5 :: x6 :: x7 :: x8 :: x9 :: x10 :: x11 :: x12 :: x13 :: x14 :: x15 :: x16 :: x17 :: x18 :: x19 :: x20 :: x21 :: x22 :: x23 :: x24 :: x25 :: x26 :: (s, v) :: L) a) : a.eval (.tmp s) = v := E.at_ (s, v) (.tail _ (.tail _ (.tail _ (.tail _ (.tail _ (.tail _ (.tail _ (.tail _ (.tail _ (.tail _ (.tail _ (.tail _ (.tail _ (.tail _ (.tail _ (.tail _ (.tail _ (.tail _ (.tail _ (.tail _ (.tail _ (.tail _ (.tail _ (.tail _ (.tail _ (.tail _ (.tail _ (.head _))))))))))))))))))))))))))))
theorem EnvD.g28 {n s : Nat} {v : Value} {x0 x1 x2 x3 x4 x5 x6 x7 x8 x9 x10 x11 x12 x13 x14 x15 x16 x17 x18 x19 x20 x21 x22 x23 x24 x25 x26 x27 : Nat × Value} {L : List (Nat × Value)} (E : EnvD ds n (x0 :: x1 :: x2 :: x3 :: x4 :: x5 :: x6 :: x7 :: x8 :: x9 :: x10 :: x11 :: x12 :: x13 :: x14 :: x15 :: x16 :: x17 :: x18 :: x19 :: x20 :: x21 :: x22 :: x23 :: x24 :: x25 :: x26 :: x27 :: (s, v) :: L) a) : a.eval (.tmp s) = v := E.at_ (s, v) (.tail _ (.tail _ (.tail _ (.tail _ (.tail _ (.tail _ (.tail _ (.tail _ (.tail _ (.tail _ (.tail _ (.tail _ (.tail _ (.tail _ (.tail _ (.tail _ (.tail _ (.tail _ (.tail _ (.tail _ (.tail _ (.tail _ (.tail _ (.tail _ (.tail _ (.tail _ (.tail _ (.tail _ (.head _)))))))))))))))))))))))))))))
theorem EnvD.g29 {n s : Nat} {v : Value} {x0 x1 x2 x3 x4 x5 x6 x7 x8 x9 x10 x11 x12 x13 x14 x15 x16 x17 x18 x19 x20 x21 x22 x23 x24 x25 x26 x27 x28 : Nat × Value} {L : List (Nat × Value)} (E : EnvD ds n (x0 :: x1 :: x2 :: x3 :: x4 :: x5 :: x6 :: x7 :: x8 :: x9 :: x10 :: x11 :: x12 :: x13 :: x14 :: x15 :: x16 :: x17 :: x18 :: x19 :: x20 :: x21 :: x22 :: x23 :: x24 :: x25 :: x26 :: x27 :: x28 :: (s, v) :: L) a) : a.eval (.tmp s) = v := E.at_ (s, v) (.tail _ (.tail _ (.tail _ (.tail _ (.tail _ (.tail _ (.tail _ (.tail _ (.tail _ (.tail _ (.tail _ (.tail _ (.tail _ (.tail _ (.tail _ (.tail _ (.tail _ (.tail _ (.tail _ (.tail _ (.tail _ (.tail _ (.tail _ (.tail _ (.tail _ (.tail _ (.tail _ (.tail _ (.tail _ (.head _))))))))))))))))))))))))))))))
theorem EnvD.g30 {n s : Nat} {v : Value} {x0 x1 x2 x3 x4 x5 x6 x7 x8 x9 x10 x11 x12 x13 x14 x15 x16 x17 x18 x19 x20 x21 x22 x23 x24 x25 x26 x27 x28 x29 : Nat × Value} {L : List (Nat × Value)} (E : EnvD ds n (x0 :: x1 :: x2 :: x3 :: x4 :: x5 :: x6 :: x7 :: x8 :: x9 :: x10 :: x11 :: x12 :: x13 :: x14 :: x15 :: x16 :: x17 :: x18 :: x19 :: x20 :: x21 :: x22 :: x23 :: x24 :: x25 :: x26 :: x27 :: x28 :: x29 :: (s, v) :: L) a) : a.eval (.tmp s) = v := E.at_ (s, v) (.tail _ (.tail _ (.tail _ (.tail _ (.tail _ (.tail _ (.tail _ (.tail _ (.tail _ (.tail _ (.tail _ (.tail _ (.tail _ (.tail _ (.tail _ (.tail _ (.tail _ (.tail _ (.tail _ (.tail _ (.tail _ (.tail _ (.tail _ (.tail _ (.tail _ (.tail _ (.tail _ (.tail _ (.tail _ (.tail _ (.head _)))))))))))))))))))))))))))))))
theorem EnvD.g31 {n s : Nat} {v : Value} {x0 x1 x2 x3 x4 x5 x6 x7 x8 x9 x10 x11 x12 x13 x14 x15 x16 x17 x18 x19 x20 x21 x22 x23 x24 x25 x26 x27 x28 x29 x30 : Nat × Value} {L : List (Nat × Value)} (E : EnvD ds n (x0 :: x1 :: x2 :: x3 :: x4 :: x5 :: x6 :: x7 :: x8 :: x9 :: x10 :: x11 :: x12 :: x13 :: x14 :: x15 :: x16 :: x17 :: x18 :: x19 :: x20 :: x21 :: x22 :: x23 :: x24 :: x25 :: x26 :: x27 :: x28 :: x29 :: x30 :: (s, v) :: L) a) : a.eval (.tmp s) = v := E.at_ (s, v) (.tail _ (.tail _ (.tail _ (.tail _ (.tail _ (.tail _ (.tail _ (.tail _ (.tail _ (.tail _ (.tail _ (.tail _ (.tail _ (.tail _ (.tail _ (.tail _ (.tail _ (.tail _ (.tail _ (.tail _ (.tail _ (.tail _ (.tail _ (.tail _ (.tail _ (.tail _ (.tail _ (.tail _ (.tail _ (.tail _ (.tail _ (.head _))))))))))))))))))))))))))))))))
theorem EnvD.g32 {n s : Nat} {v : Value} {x0 x1 x2 x3 x4 x5 x6 x7 x8 x9 x10 x11 x12 x13 x14 x15 x16 x17 x18 x19 x20 x21 x22 x23 x24 x25 x26 x27 x28 x29 x30 x31 : Nat × Value} {L : List (Nat × Value)} (E : EnvD ds n (x0 :: x1 :: x2 :: x3 :: x4 :: x5 :: x6 :: x7 :: x8 :: x9 :: x10 :: x11 :: x12 :: x13 :: x14 :: x15 :: x16 :: x17 :: x18 :: x19 :: x20 :: x21 :: x22 :: x23 :: x24 :: x25 :: x26 :: x27 :: x28 :: x29 :: x30 :: x31 :: (s, v) :: L) a) : a.eval (.tmp s) = v := E.at_ (s, v) (.tail _ (.tail _ (.tail _ (.tail _ (.tail _ (.tail _ (.tail _ (.tail _ (.tail _ (.tail _ (.tail _ (.tail _ (.tail _ (.tail _ (.tail _ (.tail _ (.tail _ (.tail _ (.tail _ (.tail _ (.tail _ (.tail _ (.tail _ (.tail _ (.tail _ (.tail _ (.tail _ (.tail _ (.tail _ (.tail _ (.tail _ (.tail _ (.head _)))))))))))))))))))))))))))))))))
theorem EnvD.g33 {n s : Nat} {v : Value} {x0 x1 x2 x3 x4 x5 x6 x7 x8 x9 x10 x11 x12 x13 x14 x15 x16 x17 x18 x19 x20 x21 x22 x23 x24 x25 x26 x27 x28 x29 x30 x31 x32 : Nat × Value} {L : List (Nat × Value)} (E : EnvD ds n (x0 :: x1 :: x2 :: x3 :: x4 :: x5 :: x6 :: x7 :: x8 :: x9 :: x10 :: x11 :: x12 :: x13 :: x14 :: x15 :: x16 :: x17 :: x18 :: x19 :: x20 :: x21 :: x22 :: x23 :: x24 :: x25 :: x26 :: x27 :: x28 :: x29 :: x30 :: x31 :: x32 :: (s, v) :: L) a) : a.eval (.tmp s) = v := E.at_ (s, v) (.tail _ (.tail _ (.tail _ (.tail _ (.tail _ (.tail _ (.tail _ (.tail _ (.tail _ (.tail _ (.tail _ (.tail _ (.tail _ (.tail _ (.tail _ (.tail _ (.tail _ (.tail _ (.tail _ (.tail _ (.tail _ (.tail _ (.tail _ (.tail _ (.tail _ (.tail _ (.tail _ (.tail _ (.tail _ (.tail _ (.tail _ (.tail _ (.tail _ (.head _))))))))))))))))))))))))))))))))))
theorem EnvD.g34 {n s : Nat} {v : Value} {x0 x1 x2 x3 x4 x5 x6 x7 x8 x9 x10 x11 x12 x13 x14 x15 x16 x17 x18 x19 x20 x21 x22 x23 x24 x25 x26 x27 x28 x29 x30 x31 x32 x33 : Nat × Value} {L : List (Nat × Value)} (E : EnvD ds n (x0 :: x1 :: x2 :: x3 :: x4 :: x5 :: x6 :: x7 :: x8 :: x9 :: x10 :: x11 :: x12 :: x13 :: x14 :: x15 :: x16 :: x17 :: x18 :: x19 :: x20 :: x21 :: x22 :: x23 :: x24 :: x25 :: x26 :: x27 :: x28 :: x29 :: x30 :: x31 :: x32 :: x33 :: (s, v) :: L) a) : a.eval (.tmp s) = v := E.at_ (s, v) (.tail _ (.tail _ (.tail _ (.tail _ (.tail _ (.tail _ (.tail _ (.tail _ (.tail _ (.tail _ (.tail _ (.tail _ (.tail _ (.tail _ (.tail _ (.tail _ (.tail _ (.tail _ (.tail _ (.tail _ (.tail _ (.tail _ (.tail _ (.tail _ (.tail _ (.tail _ (.tail _ (.tail _ (.tail _ (.tail _ (.tail _ (.tail _ (.tail _ (.tail _ (.head _)))))))))))))))))))))))))))))))))))
theorem EnvD.g35 {n s : Nat} {v : Value} {x0 x1 x2 x3 x4 x5 x6 x7 x8 x9 x10 x11 x12 x13 x14 x15 x16 x17 x18 x19 x20 x21 x22 x23 x24 x25 x26 x27 x28 x29 x30 x31 x32 x33 x34 : Nat × Value} {L : List (Nat × Value)} (E : EnvD ds n (x0 :: x1 :: x2 :: x3 :: x4 :: x5 :: x6 :: x7 :: x8 :: x9 :: x10 :: x11 :: x12 :: x13 :: x14 :: x15 :: x16 :: x17 :: x18 :: x19 :: x20 :: x21 :: x22 :: x23 :: x24 :: x25 :: x26 :: x27 :: x28 :: x29 :: x30 :: x31 :: x32 :: x33 :: x34 :: (s, v) :: L) a) : a.eval (.tmp s) = v := E.at_ (s, v) (.tail _ (.tail _ (.tail _ (.tail _ (.tail _ (.tail _ (.tail _ (.tail _ (.tail _ (.tail _ (.tail _ (.tail _ (.tail _ (.tail _ (.tail _ (.tail _ (.tail _ (.tail _ (.tail _ (.tail _ (.tail _ (.tail _ (.tail _ (.tail _ (.tail _ (.tail _ (.tail _ (.tail _ (.tail _ (.tail _ (.tail _ (.tail _ (.tail _ (.tail _ (.tail _ (.head _))))))))))))))))))))))))))))))))))))
theorem EnvD.g36 {n s : Nat} {v : Value} {x0 x1 x2 x3 x4 x5 x6 x7 x8 x9 x10 x11 x12 x13 x14 x15 x16 x17 x18 x19 x20 x21 x22 x23 x24 x25 x26 x27 x28 x29 x30 x31 x32 x33 x34 x35 : Nat × Value} {L : List (Nat × Value)} (E : EnvD ds n (x0 :: x1 :: x2 :: x3 :: x4 :: x5 :: x6 :: x7 :: x8 :: x9 :: x10 :: x11 :: x12 :: x13 :: x14 :: x15 :: x16 :: x17 :: x18 :: x19 :: x20 :: x21 :: x22 :: x23 :: x24 :: x25 :: x26 :: x27 :: x28 :: x29 :: x30 :: x31 :: x32 :: x33 :: x34 :: x35 :: (s, v) :: L) a) : a.eval (.tmp s) = v := E.at_ (s, v) (.tail _ (.tail _ (.tail _ (.tail _ (.tail _ (.tail _ (.tail _ (.tail _ (.tail _ (.tail _ (.tail _ (.tail _ (.tail _ (.tail _ (.tail _ (.tail _ (.tail _ (.tail _ (.tail _ (.tail _ (.tail _ (.tail _ (.tail _ (.tail _ (.tail _ (.tail _ (.tail _ (.tail _ (.tail _ (.tail _ (.tail _ (.tail _ (.tail _ (.tail _ (.tail _ (.tail _ (.head _)))))))))))))))))))))))))))))))))))))
theorem EnvD.g37 {n s : Nat} {v : Value} {x0 x1 x2 x3 x4 x5 x6 x7 x8 x9 x10 x11 x12 x13 x14 x15 x16 x17 x18 x19 x20 x21 x22 x23 x24 x25 x26 x27 x28 x29 x30 x31 x32 x33 x34 x35 x36 : Nat × Value} {L : List (Nat × Value)} (E : EnvD ds n (x0 :: x1 :: x2 :: x3 :: x4 :: x5 :: x6 :: x7 :: x8 :: x9 :: x10 :: x11 :: x12 :: x13 :: x14 :: x15 :: x16 :: x17 :: x18 :: x19 :: x20 :: x21 :: x22 :: x23 :: x24 :: x25 :: x26 :: x27 :: x28 :: x29 :: x30 :: x31 :: x32 :: x33 :: x34 :: x35 :: x36 :: (s, v) :: L) a) : a.eval (.tmp s) = v := E.at_ (s, v) (.tail _ (.tail _ (.tail _ (.tail _ (.tail _ (.tail _ (.tail _ (.tail _ (.tail _ (.tail _ (.tail _ (.tail _ (.tail _ (.tail _ (.tail _ (.tail _ (.tail _ (.tail _ (.tail _ (.tail _ (.tail _ (.tail _ (.tail _ (.tail _ (.tail _ (.tail _ (.tail _ (.tail _ (.tail _ (.tail _ (.tail _ (.tail _ (.tail _ (.tail _ (.tail _ (.tail _ (.tail _ (.head _))))))))))))))))))))))))))))))))))))))
theorem EnvD.g38 {n s : Nat} {v : Value} {x0 x1 x2 x3 x4 x5 x6 x7 x8 x9 x10 x11 x12 x13 x14 x15 x16 x17 x18 x19 x20 x21 x22 x23 x24 x25 x26 x27 x28 x29 x30 x31 x32 x33 x34 x35 x36 x37 : Nat × Value} {L : List (Nat × Value)} (E : EnvD ds n (x0 :: x1 :: x2 :: x3 :: x4 :: x5 :: x6 :: x7 :: x8 :: x9 :: x10 :: x11 :: x12 :: x13 :: x14 :: x15 :: x16 :: x17 :: x18 :: x19 :: x20 :: x21 :: x22 :: x23 :: x24 :: x25 :: x26 :: x27 :: x28 :: x29 :: x30 :: x31 :: x32 :: x33 :: x34 :: x35 :: x36 :: x37 :: (s, v) :: L) a) : a.eval (.tmp s) = v := E.at_ (s, v) (.tail _ (.tail _ (.tail _ (.tail _ (.tail _ (.tail _ (.tail _ (.tail _ (.tail _ (.tail _ (.tail _ (.tail _ (.tail _ (.tail _ (.tail _ (.tail _ (.tail _ (.tail _ (.tail _ (.tail _ (.tail _ (.tail _ (.tail _ (.tail _ (.tail _ (.tail _ (.tail _ (.tail _ (.tail _ (.tail _ (.tail _ (.tail _ (.tail _ (.tail _ (.tail _ (.tail _ (.tail _ (.tail _ (.head _)))))))))))))))))))))))))))))))))))))))
theorem EnvD.g39 {n s : Nat} {v : Value} {x0 x1 x2 x3 x4 x5 x6 x7 x8 x9 x10 x11 x12 x13 x14 x15 x16 x17 x18 x19 x20 x21 x22 x23 x24 x25 x26 x27 x28 x29 x30 x31 x32 x33 x34 x35 x36 x37 x38 : Nat × Value} {L : List (Nat × Value)} (E : EnvD ds n (x0 :: x1 :: x2 :: x3 :: x4 :: x5 :: x6 :: x7 :: x8 :: x9 :: x10 :: x11 :: x12 :: x13 :: x14 :: x15 :: x16 :: x17 :: x18 :: x19 :: x20 :: x21 :: x22 :: x23 :: x24 :: x25 :: x26 :: x27 :: x28 :: x29 :: x30 :: x31 :: x32 :: x33 :: x34 :: x35 :: x36 :: x37 :: x38 :: (s, v) :: L) a) : a.eval (.tmp s) = v := E.at_ (s, v) (.tail _ (.tail _ (.tail _ (.tail _ (.tail _ (.tail _ (.tail _ (.tail _ (.tail _ (.tail _ (.tail _ (.tail _ (.tail _ (.tail _ (.tail _ (.tail _ (.tail _ (.tail _ (.tail _ (.tail _ (.tail _ (.tail _ (.tail _ (.tail _ (.tail _ (.tail _ (.tail _ (.tail _ (.tail _ (.tail _ (.tail _ (.tail _ (.tail _ (.tail _ (.tail _ (.tail _ (.tail _ (.tail _ (.tail _ (.head _))))))))))))))))))))))))))))))))))))))))
theorem EnvD.g40 {n s : Nat} {v : Value} {x0 x1 x2 x3 x4 x5 x6 x7 x8 x9 x10 x11 x12 x13 x14 x15 x16 x17 x18 x19 x20 x21 x22 x23 x24 x25 x26 x27 x28 x29 x30 x31 x32 x33 x34 x35 x36 x37 x38 x39 : Nat × Value} {L : List (Nat × Value)} (E : EnvD ds n (x0 :: x1 :: x2 :: x3 :: x4 :: x5 :: x6 :: x7 :: x8 :: x9 :: x10 :: x11 :: x12 :: x13 :: x14 :: x15 :: x16 :: x17 :: x18 :: x19 :: x20 :: x21 :: x22 :: x23 :: x24 :: x25 :: x26 :: x27 :: x28 :: x29 :: x30 :: x31 :: x32 :: x33 :: x34 :: x35 :: x36 :: x37 :: x38 :: x39 :: (s, v) :: L) a) : a.eval (.tmp s) = v := E.at_ (s, v) (.tail _ (.tail _ (.tail _ (.tail _ (.tail _ (.tail _ (.tail _ (.tail _ (.tail _ (.tail _ (.tail _ (.tail _ (.tail _ (.tail _ (.tail _ (.tail _ (.tail _ (.tail _ (.tail _ (.tail _ (.tail _ (.tail _ (.tail _ (.tail _ (.tail _ (.tail _ (.tail _ (.tail _ (.tail _ (.tail _ (.tail _ (.tail _ (.tail _ (.tail _ (.tail _ (.tail _ (.tail _ (.tail _ (.tail _ (.tail _ (.head _)))))))))))))))))))))))))))))))))))))))))
theorem EnvD.g41 {n s : Nat} {v : Value} {x0 x1 x2 x3 x4 x5 x6 x7 x8 x9 x10 x11 x12 x13 x14 x15 x16 x17 x18 x19 x20 x21 x22 x23 x24 x25 x26 x27 x28 x29 x30 x31 x32 x33 x34 x35 x36 x37 x38 x39 x40 : Nat × Value} {L : List (Nat × Value)} (E : EnvD ds n (x0 :: x1 :: x2 :: x3 :: x4 :: x5 :: x6 :: x7 :: x8 :: x9 :: x10 :: x11 :: x12 :: x13 :: x14 :: x15 :: x16 :: x17 :: x18 :: x19 :: x20 :: x21 :: x22 :: x23 :: x24 :: x25 :: x26 :: x27 :: x28 :: x29 :: x30 :: x31 :: x32 :: x33 :: x34 :: x35 :: x36 :: x37 :: x38 :: x39 :: x40 :: (s, v) :: L) a) : a.eval (.tmp s) = v := E.at_ (s, v) (.tail _ (.tail _ (.tail _ (.tail _ (.tail _ (.tail _ (.tail _ (.tail _ (.tail _ (.tail _ (.tail _ (.tail _ (.tail _ (.tail _ (.tail _ (.tail _ (.tail _ (.tail _ (.tail _ (.tail _ (.tail _ (.tail _ (.tail _ (.tail _ (.tail _ (.tail _ (.tail _ (.tail _ (.tail _ (.tail _ (.tail _ (.tail _ (.tail _ (.tail _ (.tail _ (.tail _ (.tail _ (.tail _ (.tail _ (.tail _ (.tail _ (.head _))))))))))))))))))))))))))))))))))))))))))
theorem EnvD.g42 {n s : Nat} {v : Value} {x0 x1 x2 x3 x4 x5 x6 x7 x8 x9 x10 x11 x12 x13 x14 x15 x16 x17 x18 x19 x20 x21 x22 x23 x24 x25 x26 x27 x28 x29 x30 x31 x32 x33 x34 x35 x36 x37 x38 x39 x40 x41 : Nat × Value} {L : List (Nat × Value)} (E : EnvD ds n (x0 :: x1 :: x2 :: x3 :: x4 :: x5 :: x6 :: x7 :: x8 :: x9 :: x10 :: x11 :: x12 :: x13 :: x14 :: x15 :: x16 :: x17 :: x18 :: x19 :: x20 :: x21 :: x22 :: x23 :: x24 :: x25 :: x26 :: x27 :: x28 :: x29 :: x30 :: x31 :: x32 :: x33 :: x34 :: x35 :: x36 :: x37 :: x38 :: x39 :: x40 :: x41 :: (s, v) :: L) a) : a.eval (.tmp s) = v := E.at_ (s, v) (.tail _ (.tail _ (.tail _ (.tail _ (.tail _ (.tail _ (.tail _ (.tail _ (.tail _ (.tail _ (.tail _ (.tail _ (.tail _ (.tail _ (.tail _ (.tail _ (.tail _ (.tail _ (.tail _ (.tail _ (.tail _ (.tail _ (.tail _ (.tail _ (.tail _ (.tail _ (.tail _ (.tail _ (.tail _ (.tail _ (.tail _ (.tail _ (.tail _ (.tail _ (.tail _ (.tail _ (.tail _ (.tail _ (.tail _ (.tail _ (.tail _ (.tail _ (.head _)))))))))))))))))))))))))))))))))))))))))))
theorem EnvD.g43 {n s : Nat} {v : Value} {x0 x1 x2 x3 x4 x5 x6 x7 x8 x9 x10 x11 x12 x13 x14 x15 x16 x17 x18 x19 x20 x21 x22 x23 x24 x25 x26 x27 x28 x29 x30 x31 x32 x33 x34 x35 x36 x37 x38 x39 x40 x41 x42 : Nat × Value} {L : List (Nat × Value)} (E : EnvD ds n (x0 :: x1 :: x2 :: x3 :: x4 :: x5 :: x6 :: x7 :: x8 :: x9 :: x10 :: x11 :: x12 :: x13 :: x14 :: x15 :: x16 :: x17 :: x18 :: x19 :: x20 :: x21 :: x22 :: x23 :: x24 :: x25 :: x26 :: x27 :: x28 :: x29 :: x30 :: x31 :: x32 :: x33 :: x34 :: x35 :: x36 :: x37 :: x38 :: x39 :: x40 :: x41 :: x42 :: (s, v) :: L) a) : a.eval (.tmp s) = v := E.at_ (s, v) (.tail _ (.tail _ (.tail _ (.tail _ (.tail _ (.tail _ (.tail _ (.tail _ (.tail _ (.tail _ (.tail _ (.tail _ (.tail _ (.tail _ (.tail _ (.tail _ (.tail _ (.tail _ (.tail _ (.tail _ (.tail _ (.tail _ (.tail _ (.tail _ (.tail _ (.tail _ (.tail _ (.tail _ (.tail _ (.tail _ (.tail _ (.tail _ (.tail _ (.tail _ (.tail _ (.tail _ (.tail _ (.tail _ (.tail _ (.tail _ (.tail _ (.tail _ (.tail _ (.head _))))))))))))))))))))))))))))))))))))))))))))
theorem EnvD.g44 {n s : Nat} {v : Value} {x0 x1 x2 x3 x4 x5 x6 x7 x8 x9 x10 x11 x12 x13 x14 x15 x16 x17 x18 x19 x20 x21 x22 x23 x24 x25 x26 x27 x28 x29 x30 x31 x32 x33 x34 x35 x36 x37 x38 x39 x40 x41 x42 x43 : Nat × Value} {L : List (Nat × Value)} (E : EnvD ds n (x0 :: x1 :: x2 :: x3 :: x4 :: x5 :: x6 :: x7 :: x8 :: x9 :: x10 :: x11 :: x12 :: x13 :: x14 :: x15 :: x16 :: x17 :: x18 :: x19 :: x20 :: x21 :: x22 :: x23 :: x24 :: x25 :: x26 :: x27 :: x28 :: x29 :: x30 :: x31 :: x32 :: x33 :: x34 :: x35 :: x36 :: x37 :: x38 :: x39 :: x40 :: x41 :: x42 :: x43 :: (s, v) :: L) a) : a.eval (.tmp s) = v := E.at_ (s, v) (.tail _ (.tail _ (.tail _ (.tail _ (.tail _ (.tail _ (.tail _ (.tail _ (.tail _ (.tail _ (.tail _ (.tail _ (.tail _ (.tail _ (.tail _ (.tail _ (.tail _ (.tail _ (.tail _ (.tail _ (.tail _ (.tail _ (.tail _ (.tail _ (.tail _ (.tail _ (.tail _ (.tail _ (.tail _ (.tail _ (.tail _ (.tail _ (.tail _ (.tail _ (.tail _ (.tail _ (.tail _ (.tail _ (.tail _ (.tail _ (.tail _ (.tail _ (.tail _ (.tail _ (.head _)))))))))))))))))))))))))))))))))))))))))))))
theorem EnvD.g45 {n s : Nat} {v : Value} {x0 x1 x2 x3 x4 x5 x6 x7 x8 x9 x10 x11 x12 x13 x14 x15 x16 x17 x18 x19 x20 x21 x22 x23 x24 x25 x26 x27 x28 x29 x30 x31 x32 x33 x34 x35 x36 x37 x38 x39 x40 x41 x42 x43 x44 : Nat × Value} {L : List (Nat × Value)} (E : EnvD ds n (x0 :: x1 :: x2 :: x3 :: x4 :: x5 :: x6 :: x7 :: x8 :: x9 :: x10 :: x11 :: x12 :: x13 :: x14 :: x15 :: x16 :: x17 :: x18 :: x19 :: x20 :: x21 :: x22 :: x23 :: x24 :: x25 :: x26 :: x27 :: x28 :: x29 :: x30 :: x31 :: x32 :: x33 :: x34 :: x35 :: x36 :: x37 :: x38 :: x39 :: x40 :: x41 :: x42 :: x43 :: x44 :: (s, v) :: L) a) : a.eval (.tmp s) = v := E.at_ (s, v) (.tail _ (.tail _ (.tail _ (.tail _ (.tail _ (.tail _ (.tail _ (.tail _ (.tail _ (.tail _ (.tail _ (.tail _ (.tail _ (.tail _ (.tail _ (.tail _ (.tail _ (.tail _ (.tail _ (.tail _ (.tail _ (.tail _ (.tail _ (.tail _ (.tail _ (.tail _ (.tail _ (.tail _ (.tail _ (.tail _ (.tail _ (.tail _ (.tail _ (.tail _ (.tail _ (.tail _ (.tail _ (.tail _ (.tail _ (.tail _ (.tail _ (.tail _ (.tail _ (.tail _ (.tail _ (.head _))))))))))))))))))))))))))))))))))))))))))))))
theorem EnvD.g46 {n s : Nat} {v : Value} {x0 x1 x2 x3 x4 x5 x6 x7 x8 x9 x10 x11 x12 x13 x14 x15 x16 x17 x18 x19 x20 x21 x22 x23 x24 x25 x26 x27 x28 x29 x30 x31 x32 x33 x34 x35 x36 x37 x38 x39 x40 x41 x42 x43 x44 x45 : Nat × Value} {L : List (Nat × Value)} (E : EnvD ds n (x0 :: x1 :: x2 :: x3 :: x4 :: x5 :: x6 :: x7 :: x8 :: x9 :: x10 :: x11 :: x12 :: x13 :: x14 :: x15 :: x16 :: x17 :: x18 :: x19 :: x20 :: x21 :: x22 :: x23 :: x24 :: x25 :: x26 :: x27 :: x28 :: x29 :: x30 :: x31 :: x32 :: x33 :: x34 :: x35 :: x36 :: x37 :: x38 :: x39 :: x40 :: x41 :: x42 :: x43 :: x44 :: x45 :: (s, v) :: L) a) : a.eval (.tmp s) = v := E.at_ (s, v) (.tail _ (.tail _ (.tail _ (.tail _ (.tail _ (.tail _ (.tail _ (.tail _ (.tail _ (.tail _ (.tail _ (.tail _ (.tail _ (.tail _ (.tail _ (.tail _ (.tail _ (.tail _ (.tail _ (.tail _ (.tail _ (.tail _ (.tail _ (.tail _ (.tail _ (.tail _ (.tail _ (.tail _ (.tail _ (.tail _ (.tail _ (.tail _ (.tail _ (.tail _ (.tail _ (.tail _ (.tail _ (.tail _ (.tail _ (.tail _ (.tail _ (.tail _ (.tail _ (.tail _ (.tail _ (.tail _ (.head _)))))))))))))))))))))))))))))))))))))))))))))))
theorem EnvD.g47 {n s : Nat} {v : Value} {x0 x1 x2 x3 x4 x5 x6 x7 x8 x9 x10 x11 x12 x13 x14 x15 x16 x17 x18 x19 x20 x21 x22 x23 x24 x25 x26 x27 x28 x29 x30 x31 x32 x33 x34 x35 x36 x37 x38 x39 x40 x41 x42 x43 x44 x45 x46 : Nat × Value} {L : List (Nat × Value)} (E : EnvD ds n (x0 :: x1 :: x2 :: x3 :: x4 :: x5 :: x6 :: x7 :: x8 :: x9 :: x10 :: x11 :: x12 :: x13 :: x14 :: x15 :: x16 :: x17 :: x18 :: x19 :: x20 :: x21 :: x22 :: x23 :: x24 :: x25 :: x26 :: x27 :: x28 :: x29 :: x30 :: x31 :: x32 :: x33 :: x34 :: x35 :: x36 :: x37 :: x38 :: x39 :: x40 :: x41 :: x42 :: x43 :: x44 :: x45 :: x46 :: (s, v) :: L) a) : a.eval (.tmp s) = v := E.at_ (s, v) (.tail _ (.tail _ (.tail _ (.tail _ (.tail _ (.tail _ (.tail _ (.tail _ (.tail _ (.tail _ (.tail _ (.tail _ (.tail _ (.tail _ (.tail _ (.tail _ (.tail _ (.tail _ (.tail _ (.tail _ (.tail _ (.tail _ (.tail _ (.tail _ (.tail _ (.tail _ (.tail _ (.tail _ (.tail _ (.tail _ (.tail _ (.tail _ (.tail _ (.tail _ (.tail _ (.tail _ (.tail _ (.tail _ (.tail _ (.tail _ (.tail _ (.tail _ (.tail _ (.tail _ (.tail _ (.tail _ (.tail _ (.head _))))))))))))))))))))))))))))))))))))))))))))))))
theorem EnvD.g48 {n s : Nat} {v : Value} {x0 x1 x2 x3 x4 x5 x6 x7 x8 x9 x10 x11 x12 x13 x14 x15 x16 x17 x18 x19 x20 x21 x22 x23 x24 x25 x26 x27 x28 x29 x30 x31 x32 x33 x34 x35 x36 x37 x38 x39 x40 x41 x42 x43 x44 x45 x46 x47 : Nat × Value} {L : List (Nat × Value)} (E : EnvD ds n (x0 :: x1 :: x2 :: x3 :: x4 :: x5 :: x6 :: x7 :: x8 :: x9 :: x10 :: x11 :: x12 :: x13 :: x14 :: x15 :: x16 :: x17 :: x18 :: x19 :: x20 :: x21 :: x22 :: x23 :: x24 :: x25 :: x26 :: x27 :: x28 :: x29 :: x30 :: x31 :: x32 :: x33 :: x34 :: x35 :: x36 :: x37 :: x38 :: x39 :: x40 :: x41 :: x42 :: x43 :: x44 :: x45 :: x46 :: x47 :: (s, v) :: L) a) : a.eval (.tmp s) = v := E.at_ (s, v) (.tail _ (.tail _ (.tail _ (.tail _ (.tail _ (.tail _ (.tail _ (.tail _ (.tail _ (.tail _ (.tail _ (.tail _ (.tail _ (.tail _ (.tail _ (.tail _ (.tail _ (.tail _ (.tail _ (.tail _ (.tail _ (.tail _ (.tail _ (.tail _ (.tail _ (.tail _ (.tail _ (.tail _ (.tail _ (.tail _ (.tail _ (.tail _ (.tail _ (.tail _ (.tail _ (.tail _ (.tail _ (.tail _ (.tail _ (.tail _ (.tail _ (.tail _ (.tail _ (.tail _ (.tail _ (.tail _ (.tail _ (.tail _ (.head _)))))))))))))))))))))))))))))))))))))))))))))))))
theorem EnvD.g49 {n s : Nat} {v : Value} {x0 x1 x2 x3 x4 x5 x6 x7 x8 x9 x10 x11 x12 x13 x14 x15 x16 x17 x18 x19 x20 x21 x22 x23 x24 x25 x26 x27 x28 x29 x30 x31 x32 x33 x34 x35 x36 x37 x38 x39 x40 x41 x42 x43 x44 x45 x46 x47 x48 : Nat × Value} {L : List (Nat × Value)} (E : EnvD ds n (x0 :: x1 :: x2 :: x3 :: x4 :: x5 :: x6 :: x7 :: x8 :: x9 :: x10 :: x11 :: x12 :: x13 :: x14 :: x15 :: x16 :: x17 :: x18 :: x19 :: x20 :: x21 :: x22 :: x23 :: x24 :: x25 :: x26 :: x27 :: x28 :: x29 :: x30 :: x31 :: x32 :: x33 :: x34 :: x35 :: x36 :: x37 :: x38 :: x39 :: x40 :: x41 :: x42 :: x43 :: x44 :: x45 :: x46 :: x47 :: x48 :: (s, v) :: L) a) : a.eval (.tmp s) = v := E.at_ (s, v) (.tail _ (.tail _ (.tail _ (.tail _ (.tail _ (.tail _ (.tail _ (.tail _ (.tail _ (.tail _ (.tail _ (.tail _ (.tail _ (.tail _ (.tail _ (.tail _ (.tail _ (.tail _ (.tail _ (.tail _ (.tail _ (.tail _ (.tail _ (.tail _ (.tail _ (.tail _ (.tail _ (.tail _ (.tail _ (.tail _ (.tail _ (.tail _ (.tail _ (.tail _ (.tail _ (.tail _ (.tail _ (.tail _ (.tail _ (.tail _ (.tail _ (.tail _ (.tail _ (.tail _ (.tail _ (.tail _ (.tail _ (.tail _ (.tail _ (.head _))))))))))))))))))))))))))))))))))))))))))))))))))
theorem EnvD.g50 {n s : Nat} {v : Value} {x0 x1 x2 x3 x4 x5 x6 x7 x8 x9 x10 x11 x12 x13 x14 x15 x16 x17 x18 x19 x20 x21 x22 x23 x24 x25 x26 x27 x28 x29 x30 x31 x32 x33 x34 x35 x36 x37 x38 x39 x40 x41 x42 x43 x44 x45 x46 x47 x48 x49 : Nat × Value} {L : List (Nat × Value)} (E : EnvD ds n (x0 :: x1 :: x2 :: x3 :: x4 :: x5 :: x6 :: x7 :: x8 :: x9 :: x10 :: x11 :: x12 :: x13 :: x14 :: x15 :: x16 :: x17 :: x18 :: x19 :: x20 :: x21 :: x22 :: x23 :: x24 :: x25 :: x26 :: x27 :: x28 :: x29 :: x30 :: x31 :: x32 :: x33 :: x34 :: x35 :: x36 :: x37 :: x38 :: x39 :: x40 :: x41 :: x42 :: x43 :: x44 :: x45 :: x46 :: x47 :: x48 :: x49 :: (s, v) :: L) a) : a.eval (.tmp s) = v := E.at_ (s, v) (.tail _ (.tail _ (.tail _ (.tail _ (.tail _ (.tail _ (.tail _ (.tail _ (.tail _ (.tail _ (.tail _ (.tail _ (.tail _ (.tail _ (.tail _ (.tail _ (.tail _ (.tail _ (.tail _ (.tail _ (.tail _ (.tail _ (.tail _ (.tail _ (.tail _ (.tail _ (.tail _ (.tail _ (.tail _ (.tail _ (.tail _ (.tail _ (.tail _ (.tail _ (.tail _ (.tail _ (.tail _ (.tail _ (.tail _ (.tail _ (.tail _ (.tail _ (.tail _ (.tail _ (.tail _ (.tail _ (.tail _ (.tail _ (.tail _ (.tail _ (.head _)))))))))))))))))))))))))))))))))))))))))))))))))))
theorem EnvD.g51 {n s : Nat} {v : Value} {x0 x1 x2 x3 x4 x5 x6 x7 x8 x9 x10 x11 x12 x13 x14 x15 x16 x17 x18 x19 x20 x21 x22 x23 x24 x25 x26 x27 x28 x29 x30 x31 x32 x33 x34 x35 x36 x37 x38 x39 x40 x41 x42 x43 x44 x45 x46 x47 x48 x49 x50 : Nat × Value} {L : List (Nat × Value)} (E : EnvD ds n (x0 :: x1 :: x2 :: x3 :: x4 :: x5 :: x6 :: x7 :: x8 :: x9 :: x10 :: x11 :: x12 :: x13 :: x14 :: x15 :: x16 :: x17 :: x18 :: x19 :: x20 :: x21 :: x22 :: x23 :: x24 :: x25 :: x26 :: x27 :: x28 :: x29 :: x30 :: x31 :: x32 :: x33 :: x34 :: x35 :: x36 :: x37 :: x38 :: x39 :: x40 :: x41 :: x42 :: x43 :: x44 :: x45 :: x46 :: x47 :: x48 :: x49 :: x50 :: (s, v) :: L) a) : a.eval (.tmp s) = v := E.at_ (s, v) (.tail _ (.tail _ (.tail _ (.tail _ (.tail _ (.tail _ (.tail _ (.tail _ (.tail _ (.tail _ (.tail _ (.tail _ (.tail _ (.tail _ (.tail _ (.tail _ (.tail _ (.tail _ (.tail _ (.tail _ (.tail _ (.tail _ (.tail _ (.tail _ (.tail _ (.tail _ (.tail _ (.tail _ (.tail _ (.tail _ (.tail _ (.tail _ (.tail _ (.tail _ (.tail _ (.tail _ (.tail _ (.tail _ (.tail _ (.tail _ (.tail _ (.tail _ (.tail _ (.tail _ (.tail _ (.tail _ (.tail _ (.tail _ (.tail _ (.tail _ (.tail _ (.head _))))))))))))))))))))))))))))))))))))))))))))))))))))
theorem EnvD.g52 {n s : Nat} {v : Value} {x0 x1 x2 x3 x4 x5 x6 x7 x8 x9 x10 x11 x12 x13 x14 x15 x16 x17 x18 x19 x20 x21 x22 x23 x24 x25 x26 x27 x28 x29 x30 x31 x32 x33 x34 x35 x36 x37 x38 x39 x40 x41 x42 x43 x44 x45 x46 x47 x48 x49 x50 x51 : Nat × Value} {L : List (Nat × Value)} (E : EnvD ds n (x0 :: x1 :: x2 :: x3 :: x4 :: x5 :: x6 :: x7 :: x8 :: x9 :: x10 :: x11 :: x12 :: x13 :: x14 :: x15 :: x16 :: x17 :: x18 :: x19 :: x20 :: x21 :: x22 :: x23 :: x24 :: x25 :: x26 :: x27 :: x28 :: x29 :: x30 :: x31 :: x32 :: x33 :: x34 :: x35 :: x36 :: x37 :: x38 :: x39 :: x40 :: x41 :: x42 :: x43 :: x44 :: x45 :: x46 :: x47 :: x48 :: x49 :: x50 :: x51 :: (s, v) :: L) a) : a.eval (.tmp s) = v := E.at_ (s, v) (.tail _ (.tail _ (.tail _ (.tail _ (.tail _ (.tail _ (.tail _ (.tail _ (.tail _ (.tail _ (.tail _ (.tail _ (.tail _ (.tail _ (.tail _ (.tail _ (.tail _ (.tail _ (.tail _ (.tail _ (.tail _ (.tail _ (.tail _ (.tail _ (.tail _ (.tail _ (.tail _ (.tail _ (.tail _ (.tail _ (.tail _ (.tail _ (.tail _ (.tail _ (.tail _ (.tail _ (.tail _ (.tail _ (.tail _ (.tail _ (.tail _ (.tail _ (.tail _ (.tail _ (.tail _ (.tail _ (.tail _ (.tail _ (.tail _ (.tail _ (.tail _ (.tail _ (.head _)))))))))))))))))))))))))))))))))))))))))))))))))))))
theorem EnvD.g53 {n s : Nat} {v : Value} {x0 x1 x2 x3 x4 x5 x6 x7 x8 x9 x10 x11 x12 x13 x14 x15 x16 x17 x18 x19 x20 x21 x22 x23 x24 x25 x26 x27 x28 x29 x30 x31 x32 x33 x34 x35 x36 x37 x38 x39 x40 x41 x42 x43 x44 x45 x46 x47 x48 x49 x50 x51 x52 : Nat × Value} {L : List (Nat × Value)} (E : EnvD ds n (x0 :: x1 :: x2 :: x3 :: x4 :: x5 :: x6 :: x7 :: x8 :: x9 :: x10 :: x11 :: x12 :: x13 :: x14 :: x15 :: x16 :: x17 :: x18 :: x19 :: x20 :: x21 :: x22 :: x23 :: x24 :: x25 :: x26 :: x27 :: x28 :: x29 :: x30 :: x31 :: x32 :: x33 :: x34 :: x35 :: x36 :: x37 :: x38 :: x39 :: x40 :: x41 :: x42 :: x43 :: x44 :: x45 :: x46 :: x47 :: x48 :: x49 :: x50 :: x51 :: x52 :: (s, v) :: L) a) : a.eval (.tmp s) = v := E.at_ (s, v) (.tail _ (.tail _ (.tail _ (.tail _ (.tail _ (.tail _ (.tail _ (.tail _ (.tail _ (.tail _ (.tail _ (.tail _ (.tail _ (.tail _ (.tail _ (.tail _ (.tail _ (.tail _ (.tail _ (.tail _ (.tail _ (.tail _ (.tail _ (.tail _ (.tail _ (.tail _ (.tail _ (.tail _ (.tail _ (.tail _ (.tail _ (.tail _ (.tail _ (.tail _ (.tail _ (.tail _ (.tail _ (.tail _ (.tail _ (.tail _ (.tail _ (.tail _ (.tail _ (.tail _ (.tail _ (.tail _ (.tail _ (.tail _ (.tail _ (.tail _ (.tail _ (.tail _ (.tail _ (.head _))))))))))))))))))))))))))))))))))))))))))))))))))))))
theorem EnvD.g54 {n s : Nat} {v : Value} {x0 x1 x2 x3 x4 x5 x6 x7 x8 x9 x10 x11 x12 x13 x14 x15 x16 x17 x18 x19 x20 x21 x22 x23 x24 x25 x26 x27 x28 x29 x30 x31 x32 x33 x34 x35 x36 x37 x38 x39 x40 x41 x42 x43 x44 x45 x46 x47 x48 x49 x50 x51 x52 x53 : Nat × Value} {L : List (Nat × Value)} (E : EnvD ds n (x0 :: x1 :: x2 :: x3 :: x4 :: x5 :: x6 :: x7 :: x8 :: x9 :: x10 :: x11 :: x12 :: x13 :: x14 :: x15 :: x16 :: x17 :: x18 :: x19 :: x20 :: x21 :: x22 :: x23 :: x24 :: x25 :: x26 :: x27 :: x28 :: x29 :: x30 :: x31 :: x32 :: x33 :: x34 :: x35 :: x36 :: x37 :: x38 :: x39 :: x40 :: x41 :: x42 :: x43 :: x44 :: x45 :: x46 :: x47 :: x48 :: x49 :: x50 :: x51 :: x52 :: x53 :: (s, v) :: L) a) : a.eval (.tmp s) = v := E.at_ (s, v) (.tail _ (.tail _ (.tail _ (.tail _ (.tail _ (.tail _ (.tail _ (.tail _ (.tail _ (.tail _ (.tail _ (.tail _ (.tail _ (.tail _ (.tail _ (.tail _ (.tail _ (.tail _ (.tail _ (.tail _ (.tail _ (.tail _ (.tail _ (.tail _ (.tail _ (.tail _ (.tail _ (.tail _ (.tail _ (.tail _ (.tail _ (.tail _ (.tail _ (.tail _ (.tail _ (.tail _ (.tail _ (.tail _ (.tail _ (.tail _ (.tail _ (.tail _ (.tail _ (.tail _ (.tail _ (.tail _ (.tail _ (.tail _ (.tail _ (.tail _ (.tail _ (.tail _ (.tail _ (.tail _ (.head _)))))))))))))))))))))))))))))))))))))))))))))))))))))))
theorem EnvD.g55 {n s : Nat} {v : Value} {x0 x1 x2 x3 x4 x5 x6 x7 x8 x9 x10 x11 x12 x13 x14 x15 x16 x17 x18 x19 x20 x21 x22 x23 x24 x25 x26 x27 x28 x29 x30 x31 x32 x33 x34 x35 x36 x37 x38 x39 x40 x41 x42 x43 x44 x45 x46 x47 x48 x49 x50 x51 x52 x53 x54 : Nat × Value} {L : List (Nat × Value)} (E : EnvD ds n (x0 :: x1 :: x2 :: x3 :: x4 :: x5 :: x6 :: x7 :: x8 :: x9 :: x10 :: x11 :: x12 :: x13 :: x14 :: x15 :: x16 :: x17 :: x18 :: x19 :: x20 :: x21 :: x22 :: x23 :: x24 :: x25 :: x26 :: x27 :: x28 :: x29 :: x30 :: x31 :: x32 :: x33 :: x34 :: x35 :: x36 :: x37 :: x38 :: x39 :: x40 :: x41 :: x42 :: x43 :: x44 :: x45 :: x46 :: x47 :: x48 :: x49 :: x50 :: x51 :: x52 :: x53 :: x54 :: (s, v) :: L) a) : a.eval (.tmp s) = v := E.at_ (s, v) (.tail _ (.tail _ (.tail _ (.tail _ (.tail _ (.tail _ (.tail _ (.tail _ (.tail _ (.tail _ (.tail _ (.tail _ (.tail _ (.tail _ (.tail _ (.tail _ (.tail _ (.tail _ (.tail _ (.tail _ (.tail _ (.tail _ (.tail _ (.tail _ (.tail _ (.tail _ (.tail _ (.tail _ (.tail _ (.tail _ (.tail _ (.tail _ (.tail _ (.tail _ (.tail _ (.tail _ (.tail _ (.tail _ (.tail _ (.tail _ (.tail _ (.tail _ (.tail _ (.tail _ (.tail _ (.tail _ (.tail _ (.tail _ (.tail _ (.tail _ (.tail _ (.tail _ (.tail _ (.tail _ (.tail _ (.head _))))))))))))))))))))))))))))))))))))))))))))))))))))))))
theorem EnvD.g56 {n s : Nat} {v : Value} {x0 x1 x2 x3 x4 x5 x6 x7 x8 x9 x10 x11 x12 x13 x14 x15 x16 x17 x18 x19 x20 x21 x22 x23 x24 x25 x26 x27 x28 x29 x30 x31 x32 x33 x34 x35 x36 x37 x38 x39 x40 x41 x42 x43 x44 x45 x46 x47 x48 x49 x50 x51 x52 x53 x54 x55 : Nat × Value} {L : List (Nat × Value)} (E : EnvD ds n (x0 :: x1 :: x2 :: x3 :: x4 :: x5 :: x6 :: x7 :: x8 :: x9 :: x10 :: x11 :: x12 :: x13 :: x14 :: x15 :: x16 :: x17 :: x18 :: x19 :: x20 :: x21 :: x22 :: x23 :: x24 :: x25 :: x26 :: x27 :: x28 :: x29 :: x30 :: x31 :: x32 :: x33 :: x34 :: x35 :: x36 :: x37 :: x38 :: x39 :: x40 :: x41 :: x42 :: x43 :: x44 :: x45 :: x46 :: x47 :: x48 :: x49 :: x50 :: x51 :: x52 :: x53 :: x54 :: x55 :: (s, v) :: L) a) : a.eval (.tmp s) = v := E.at_ (s, v) (.tail _ (.tail _ (.tail _ (.tail _ (.tail _ (.tail _ (.tail _ (.tail _ (.tail _ (.tail _ (.tail _ (.tail _ (.tail _ (.tail _ (.tail _ (.tail _ (.tail _ (.tail _ (.tail _ (.tail _ (.tail _ (.tail _ (.tail _ (.tail _ (.tail _ (.tail _ (.tail _ (.tail _ (.tail _ (.tail _ (.tail _ (.tail _ (.tail _ (.tail _ (.tail _ (.tail _ (.tail _ (.tail _ (.tail _ (.tail _ (.tail _ (.tail _ (.tail _ (.tail _ (.tail _ (.tail _ (.tail _ (.tail _ (.tail _ (.tail _ (.tail _ (.tail _ (.tail _ (.tail _ (.tail _ (.tail _ (.head _)))))))))))))))))))))))))))))))))))))))))))))))))))))))))
theorem EnvD.g57 {n s : Nat} {v : Value} {x0 x1 x2 x3 x4 x5 x6 x7 x8 x9 x10 x11 x12 x13 x14 x15 x16 x17 x18 x19 x20 x21 x22 x23 x24 x25 x26 x27 x28 x29 x30 x31 x32 x33 x34 x35 x36 x37 x38 x39 x40 x41 x42 x43 x44 x45 x46 x47 x48 x49 x50 x51 x52 x53 x54 x55 x56 : Nat × Value} {L : List (Nat × Value)} (E : EnvD ds n (x0 :: x1 :: x2 :: x3 :: x4 :: x5 :: x6 :: x7 :: x8 :: x9 :: x10 :: x11 :: x12 :: x13 :: x14 :: x15 :: x16 :: x17 :: x18 :: x19 :: x20 :: x21 :: x22 :: x23 :: x24 :: x25 :: x26 :: x27 :: x28 :: x29 :: x30 :: x31 :: x32 :: x33 :: x34 :: x35 :: x36 :: x37 :: x38 :: x39 :: x40 :: x41 :: x42 :: x43 :: x44 :: x45 :: x46 :: x47 :: x48 :: x49 :: x50 :: x51 :: x52 :: x53 :: x54 :: x55 :: x56 :: (s, v) :: L) a) : a.eval (.tmp s) = v := E.at_ (s, v) (.tail _ (.tail _ (.tail _ (.tail _ (.tail _ (.tail _ (.tail _ (.tail _ (.tail _ (.tail _ (.tail _ (.tail _ (.tail _ (.tail _ (.tail _ (.tail _ (.tail _ (.tail _ (.tail _ (.tail _ (.tail _ (.tail _ (.tail _ (.tail _ (.tail _ (.tail _ (.tail _ (.tail _ (.tail _ (.tail _ (.tail _ (.tail _ (.tail _ (.tail _ (.tail _ (.tail _ (.tail _ (.tail _ (.tail _ (.tail _ (.tail _ (.tail _ (.tail _ (.tail _ (.tail _ (.tail _ (.tail _ (.tail _ (.tail _ (.tail _ (.tail _ (.tail _ (.tail _ (.tail _ (.tail _ (.tail _ (.tail _ (.head _))))))))))))))))))))))))))))))))))))))))))))))))))))))))))
theorem EnvD.g58 {n s : Nat} {v : Value} {x0 x1 x2 x3 x4 x5 x6 x7 x8 x9 x10 x11 x12 x13 x14 x15 x16 x17 x18 x19 x20 x21 x22 x23 x24 x25 x26 x27 x28 x29 x30 x31 x32 x33 x34 x35 x36 x37 x38 x39 x40 x41 x42 x43 x44 x45 x46 x47 x48 x49 x50 x51 x52 x53 x54 x55 x56 x57 : Nat × Value} {L : List (Nat × Value)} (E : EnvD ds n (x0 :: x1 :: x2 :: x3 :: x4 :: x5 :: x6 :: x7 :: x8 :: x9 :: x10 :: x11 :: x12 :: x13 :: x14 :: x15 :: x16 :: x17 :: x18 :: x19 :: x20 :: x21 :: x22 :: x23 :: x24 :: x25 :: x26 :: x27 :: x28 :: x29 :: x30 :: x31 :: x32 :: x33 :: x34 :: x35 :: x36 :: x37 :: x38 :: x39 :: x40 :: x41 :: x42 :: x43 :: x44 :: x45 :: x46 :: x47 :: x48 :: x49 :: x50 :: x51 :: x52 :: x53 :: x54 :: x55 :: x56 :: x57 :: (s, v) :: L) a) : a.eval (.tmp s) = v := E.at_ (s, v) (.tail _ (.tail _ (.tail _ (.tail _ (.tail _ (.tail _ (.tail _ (.tail _ (.tail _ (.tail _ (.tail _ (.tail _ (.tail _ (.tail _ (.tail _ (.tail _ (.tail _ (.tail _ (.tail _ (.tail _ (.tail _ (.tail _ (.tail _ (.tail _ (.tail _ (.tail _ (.tail _ (.tail _ (.tail _ (.tail _ (.tail _ (.tail _ (.tail _ (.tail _ (.tail _ (.tail _ (.tail _ (.tail _ (.tail _ (.tail _ (.tail _ (.tail _ (.tail _ (.tail _ (.tail _ (.tail _ (.tail _ (.tail _ (.tail _ (.tail _ (.tail _ (.tail _ (.tail _ (.tail _ (.tail _ (.tail _ (.tail _ (.tail _ (.head _)))))))))))))))))))))))))))))))))))))))))))))))))))))))))))
theorem EnvD.g59 {n s : Nat} {v : Value} {x0 x1 x2 x3 x4 x5 x6 x7 x8 x9 x10 x11 x12 x13 x14 x15 x16 x17 x18 x19 x20 x21 x22 x23 x24 x25 x26 x27 x28 x29 x30 x31 x32 x33 x34 x35 x36 x37 x38 x39 x40 x41 x42 x43 x44 x45 x46 x47 x48 x49 x50 x51 x52 x53 x54 x55 x56 x57 x58 : Nat × Value} {L : List (Nat × Value)} (E : EnvD ds n (x0 :: x1 :: x2 :: x3 :: x4 :: x5 :: x6 :: x7 :: x8 :: x9 :: x10 :: x11 :: x12 :: x13 :: x14 :: x15 :: x16 :: x17 :: x18 :: x19 :: x20 :: x21 :: x22 :: x23 :: x24 :: x25 :: x26 :: x27 :: x28 :: x29 :: x30 :: x31 :: x32 :: x33 :: x34 :: x35 :: x36 :: x37 :: x38 :: x39 :: x40 :: x41 :: x42 :: x43 :: x44 :: x45 :: x46 :: x47 :: x48 :: x49 :: x50 :: x51 :: x52 :: x53 :: x54 :: x55 :: x56 :: x57 :: x58 :: (s, v) :: L) a) : a.eval (.tmp s) = v := E.at_ (s, v) (.tail _ (.tail _ (.tail _ (.tail _ (.tail _ (.tail _ (.tail _ (.tail _ (.tail _ (.tail _ (.tail _ (.tail _ (.tail _ (.tail _ (.tail _ (.tail _ (.tail _ (.tail _ (.tail _ (.tail _ (.tail _ (.tail _ (.tail _ (.tail _ (.tail _ (.tail _ (.tail _ (.tail _ (.tail _ (.tail _ (.tail _ (.tail _ (.tail _ (.tail _ (.tail _ (.tail _ (.tail _ (.tail _ (.tail _ (.tail _ (.tail _ (.tail _ (.tail _ (.tail _ (.tail _ (.tail _ (.tail _ (.tail _ (.tail _ (.tail _ (.tail _ (.tail _ (.tail _ (.tail _ (.tail _ (.tail _ (.tail _ (.tail _ (.tail _ (.head _))))))))))))))))))))))))))))))))))))))))))))))))))))))))))))
theorem nq_ {p q : Prop} (h : p → q := by intro e; (try simp only at e); omega) : p → q := h
theorem wy_ {n g s : Nat} {b : Bool} {L : List (Nat × Value)} (E : EnvD ds n L a) (hv : a.eval (.tmp s) = .bool b) (hgd : o.guard = some (g, b) := by rfl) (hg : (O[g]?).bind (·.dst) = some s := by rfl) (hs : s < n := by decide) : Region.wanted o (yielded O a.tmps) = true := w_yes E hgd hg hs hv
theorem ec_ {v : Value} {n d : Nat} {L : List (Nat × Value)} {f : FuncId} {args : Array Value} {F : World → Prop} (E : EnvD ds n L a) (hd : o.dst = some d) (hr : (execOp a.eval o).run P w = .ok (.enter f args) w) (hc : Calls P f args w fun e w' => e = .returned v ∧ F w') (k : ∀ a' w', F w' → EnvD ds n ((d, v) :: L) a' → wpList P O Q rest a' w') (hn : d < n := by decide) (hf : (L.map (·.1)).contains d = false := by rfl) (hw : Region.wanted o (yielded O a.tmps) = true := by exact wanted_none rfl _) : wpList P O Q (o :: rest) a w := env_call E hd hn hf hw hr hc k
theorem es_ {v : Value} {w' : World} {n d : Nat} {L : List (Nat × Value)} (E : EnvD ds n L a) (hd : o.dst = some d) (hr : (execOp a.eval o).run P w = .ok (.value v) w') (k : ∀ a', EnvD ds n ((d, v) :: drop1 d L) a' → wpList P O Q rest a' w') (hn : d < n := by decide) (hw : Region.wanted o (yielded O a.tmps) = true := by exact wanted_none rfl _) : wpList P O Q (o :: rest) a w := env_set E hd hn hw hr k
end
theorem run_move {x : Operand} {v : Value} (ho : o.op = .move x) (hx : ρ x = v) : (execOp ρ o).run P w = .ok (.value v) w := by
  simp [execOp, ho, hx, go_sem]
theorem run_assign {x : Operand} {v : Value} (ho : o.op = .assign x) (hx : ρ x = v) : (execOp ρ o).run P w = .ok (.value v) w := by
  simp [execOp, ho, hx, go_sem]
section
variable {f : FuncId} {ts : Array TypeId}
theorem run_call2 {x y : Operand} {v u : Value} (eg : ∀ args w, (callFunc f args).run P w = .ok (.enter f args) w) (ho : o.op = .call ⟨.value (.func f), #[x, y], ts⟩) (hf : ρ (.func f) = .func (.func f) #[] #[]) (hx : ρ x = v) (hy : ρ y = u) : (execOp ρ o).run P w = .ok (.enter f #[v, u]) w := by
  simp [execOp, ho, hf, hx, hy, eg, resolve, Deferred.ofValue, invoke, go_sem]
end
section
variable {t t2 : TypeId} {k : IntKind} {x y : Operand} {m n : Int} (hx : ρ x = .int k m) (hy : ρ y = .int k n)
include hx hy
end
/-! ### the code around the regions -/
section
variable {f : FuncId} {fn : Func} {c : Code} {args : Array Value} {R : Ending → World → Prop} {n : Nat} {L : List (Nat × Value)}
theorem ret_tmp {t : Tmp} {v : Value} (hr : fn.results = #[.tmp t]) (E : Env n L a) (hv : a.eval (.tmp t) = v) (h : R (.returned v) w) : bodyPost P fn R .ret a w := by
  refine ⟨E.df, v, ?_, h⟩
  unfold results
  rw [hr]
  have : a.tmps.getD t undef = v := hv
  rw [Array.getD_eq_getD_getElem?] at this
  simp [this]
end
section
variable {next : Act → World → Prop} {Q1 : Exit → Act → World → Prop} {id : Nat}
theorem then_n (h : next a w) : Exit.then next Q1 .normal a w := h
theorem blk_n (h : Q1 .normal a w) : Exit.inBlock id Q1 .normal a w := h
theorem then_r (h : Q1 .ret a w) : Exit.then next Q1 .ret a w := h
theorem blk_r (h : Q1 .ret a w) : Exit.inBlock id Q1 .ret a w := h
end
end Go.Pl
namespace Go.Pl
end Go.Pl
namespace Go.Pl
abbrev n_ := @wpList_nil
abbrev t_ := @then_n
abbrev s_ := @wp_seq
abbrev r_ := @wp_region_lit
abbrev c_t := @wp_cond_true
abbrev c_f := @wp_cond_false
abbrev k_ := @wp_skip
abbrev b_ := @blk_n
abbrev bk_ := @wp_block
abbrev x_ := @wp_exit
abbrev wr_ := @wp_ret
abbrev tr_ := @then_r
abbrev br_ := @blk_r
abbrev m_ := @run_move
abbrev a_ := @run_assign
end Go.Pl
/- A region that draws its order, by what holds whatever has been done: over whatever program. -/
set_option linter.unusedVariables false
set_option linter.unusedSimpArgs false
namespace Go.Pl
open Go.RowKit
variable {ds : List Deferred} {P : Program} {ops : Array Oper} {Q : Exit → Act → World → Prop}
/-- Operation i waits for operation j. -/
def depOn (ops : Array Oper) (i j : Nat) : Bool := ((ops[i]?).map fun o => o.after.toList.any fun e => Region.binds .any e && e.on == j).getD false
/-- Every operation waits for earlier ones alone. -/
def ordered (ops : Array Oper) : Bool := (List.range ops.size).all fun i => ((ops[i]?).map fun o => o.after.all fun e => !Region.binds .any e || decide (e.on < i)).getD true
theorem ready_iff {listed : Array Bool} {i : Nat} : i ∈ Region.ready .any ops listed ↔ i < ops.size ∧ listed.getD i true = false ∧ ∃ o, ops[i]? = some o ∧ ∀ e ∈ o.after, Region.binds .any e = true → listed.getD e.on false = true := by
  unfold Region.ready
  simp only [List.mem_filter, List.mem_range, Bool.and_eq_true, Bool.not_eq_true']
  constructor
  · rintro ⟨h1, h2, h3⟩
    refine ⟨h1, h2, ?_⟩
    obtain ⟨o, ho⟩ : ∃ o, ops[i]? = some o := ⟨_, Array.getElem?_eq_getElem h1⟩
    rw [ho] at h3
    refine ⟨o, ho, fun e he hb => ?_⟩
    simp only [Option.map_some, Option.getD_some, Array.all_eq_true'] at h3
    have := h3 e he
    simpa [hb] using this
  · rintro ⟨h1, h2, o, ho, h3⟩
    refine ⟨h1, h2, ?_⟩
    rw [ho]
    simp only [Option.map_some, Option.getD_some, Array.all_eq_true']
    intro e he
    cases hb : Region.binds .any e with
    | false => rfl
    | true => simpa using h3 e he hb
theorem all_listed (hord : ordered ops = true) {listed : Array Bool} (hs : listed.size = ops.size) (hr : Region.ready .any ops listed = []) : ∀ i, i < ops.size → listed.getD i false = true := by
  intro i
  induction i using Nat.strongRecOn with
  | _ i ih =>
    intro hi
    apply Classical.byContradiction
    intro hn
    have hl : i < listed.size := by omega
    have h2 : listed.getD i true = false := by
      rw [Array.getD_eq_getD_getElem?, Array.getElem?_eq_getElem hl] at hn ⊢
      simpa using hn
    obtain ⟨o, ho⟩ : ∃ o, ops[i]? = some o := ⟨_, Array.getElem?_eq_getElem hi⟩
    have : i ∈ Region.ready .any ops listed := by
      refine ready_iff.2 ⟨hi, h2, o, ho, fun e he hb9 => ?_⟩
      have h4 := List.all_eq_true.1 hord i (by simpa using hi)
      rw [ho] at h4
      simp only [Option.map_some, Option.getD_some, Array.all_eq_true'] at h4
      have := h4 e he
      rw [hb9] at this
      simp only [Bool.not_true, Bool.false_or, decide_eq_true_eq] at this
      exact ih _ this (by omega)
    rw [hr] at this
    simp at this
/-- What holds in the midst of such a region. -/
structure RInv (ds : List Deferred) (n : Nat) (base : List (Nat × Value)) (T : List (Option (Nat × Value))) (M : (Nat → Bool) → World → Prop) (listed : Array Bool) (a : Act) (w : World) : Prop where
  env : EnvD ds n base a
  vals : ∀ j x, T[j]? = some (some x) → listed.getD j false = true → a.eval (.tmp x.1) = x.2
  mem : M (fun j => listed.getD j false) w
def putT (a : Act) : Option (Nat × Value) → Act
  | some x => a.put (some x.1) x.2
  | none => a
theorem count_set {l : List Bool} : ∀ {i : Nat}, l[i]? = some false → ((l.set i true).filter (!·)).length + 1 = (l.filter (!·)).length := by
  induction l with
  | nil => intro i h; simp at h
  | cons b l ih =>
    intro i h
    cases i with
    | zero => simp at h; subst h; simp
    | succ i =>
      simp at h
      have := ih h
      cases b <;> simp [this] <;> omega
section
variable {o : Oper} {a : Act} {w w' : World} {d : Nat} {v : Value} {M : World → Prop}
end
end Go.Pl
namespace Go.Pl
theorem then_e {next : Act → World → Prop} {Q1 : Exit → Act → World → Prop} {id : Nat} {a : Act} {w : World} (h : Q1 (.exit id) a w) : Exit.then next Q1 (.exit id) a w := h
theorem blk_e {Q1 : Exit → Act → World → Prop} {id : Nat} {a : Act} {w : World} (h : Q1 .normal a w) : Exit.inBlock id Q1 (.exit id) a w := by
  unfold Exit.inBlock; simp only [if_true]; exact h
abbrev te_ := @then_e
abbrev be_ := @blk_e
end Go.Pl
/- A drawn region with guarded operations. -/
set_option linter.unusedVariables false
set_option linter.unusedSimpArgs false
namespace Go.Pl
open Go.RowKit
variable {ds : List Deferred} {P : Program} {ops : Array Oper} {Q : Exit → Act → World → Prop}
def tableOKg (ops : Array Oper) (n : Nat) (base : List (Nat × Value)) (T : List (Option (Nat × Value))) : Bool :=
  (T.length == ops.size) && ((List.range ops.size).all fun i => ((ops[i]?).bind fun o => (T[i]?).map fun t => ((o.dst == t.map (·.1)) && (match t with | some x => decide (x.1 < n) && !(base.map (·.1)).contains x.1 && ((List.range T.length).all fun j => j == i || (match T[j]? with | some (some y) => y.1 != x.1 | _ => true)) | none => true))).getD false)
section
variable {o o' : Oper} {t t' : Option (Nat × Value)} {a a1 : Act} {w : World} {O : Array Oper} {M : World → Prop} {B : Prop}
theorem y9_ (ho : (some o : Option Oper) = some o') (hT : (some t : Option (Option (Nat × Value))) = some t') (h : o.wp P a w (fun a' w' => a' = putT a t ∧ M w') Q) : o'.wp P a w (fun a' w' => a' = putT a t' ∧ M w') Q := by cases ho; cases hT; exact h
theorem y0_ {f : Nat → Option Bool} (ho : (some o : Option Oper) = some o') (hT : (some t : Option (Option (Nat × Value))) = some t') (h : o.wp P a w (fun a' w' => a' = putT a t ∧ M w') Q) (hg : o.guard = none := by rfl) : (Region.wanted o' f = true → o'.wp P a w (fun a' w' => a' = putT a t' ∧ M w') Q) ∧ (Region.wanted o' f = false → B) := by
  cases ho; cases hT; exact ⟨fun _ => h, fun k => by rw [wanted_none hg] at k; cases k⟩
theorem y1_ {n g s : Nat} {b : Bool} {L : List (Nat × Value)} (ho : (some o : Option Oper) = some o') (hT : (some t : Option (Option (Nat × Value))) = some t') (E : EnvD ds n L a1) (hv : a1.eval (.tmp s) = .bool b) (h : o.wp P a w (fun a' w' => a' = putT a t ∧ M w') Q) (hgd : o.guard = some (g, b) := by rfl) (hg : (O[g]?).bind (·.dst) = some s := by rfl) (hs : s < n := by decide) : (Region.wanted o' (yielded O a1.tmps) = true → o'.wp P a w (fun a' w' => a' = putT a t' ∧ M w') Q) ∧ (Region.wanted o' (yielded O a1.tmps) = false → B) := by
  cases ho; cases hT; exact ⟨fun _ => h, fun k => by rw [w_yes E hgd hg hs hv] at k; cases k⟩
theorem y2_ {n g s : Nat} {b : Bool} {L : List (Nat × Value)} {d : Nat} {A N : Prop} (ho : (some o : Option Oper) = some o') (hT : (some (some (d, undef)) : Option (Option (Nat × Value))) = some t') (E : EnvD ds n L a1) (hv : a1.eval (.tmp s) = .bool (!b)) (h : N) (hgd : o.guard = some (g, b) := by rfl) (hg : (O[g]?).bind (·.dst) = some s := by rfl) (hs : s < n := by decide) : (Region.wanted o' (yielded O a1.tmps) = true → A) ∧ (Region.wanted o' (yielded O a1.tmps) = false → (∀ x, t' = some x → x.2 = undef) ∧ N) := by
  cases ho; cases hT; exact ⟨fun k => (by rw [wanted_some hgd, yield_eq hg (by rw [E.size]; exact hs), hv] at k; cases b <;> cases k), fun _ => ⟨fun x hx => by cases hx; rfl, h⟩⟩
theorem y3_ {n g s : Nat} {b : Bool} {L : List (Nat × Value)} {d : Nat} {A N : Prop} (ho : (some o : Option Oper) = some o') (hT : (some (some (d, undef)) : Option (Option (Nat × Value))) = some t') (E : EnvD ds n L a1) (hv : a1.eval (.tmp s) = undef) (h : N) (hgd : o.guard = some (g, b) := by rfl) (hg : (O[g]?).bind (·.dst) = some s := by rfl) (hs : s < n := by decide) : (Region.wanted o' (yielded O a1.tmps) = true → A) ∧ (Region.wanted o' (yielded O a1.tmps) = false → (∀ x, t' = some x → x.2 = undef) ∧ N) := by
  cases ho; cases hT; exact ⟨fun k => (by rw [wanted_some hgd, yield_eq hg (by rw [E.size]; exact hs), hv] at k; cases k), fun _ => ⟨fun x hx => by cases hx; rfl, h⟩⟩
end
end Go.Pl
/- A drawn region with guarded operations, whose values hang on letters that are fixed on the way (a block that an operation makes). -/
set_option linter.unusedVariables false
set_option linter.unusedSimpArgs false
namespace Go.Pl
open Go.RowKit
variable {ds : List Deferred} {P : Program} {ops : Array Oper} {Q : Exit → Act → World → Prop}
/-- What an operation does in such a region: the letters may be fixed anew, what was done keeps its values. -/
def StepX {G : Type} (T : G → List (Option (Nat × Value))) (M : G → (Nat → Bool) → World → Prop) (i : Nat) (γ : G) (lst : Nat → Bool) (a a' : Act) (w' : World) : Prop :=
  ∃ γ' t, (T γ')[i]? = some t ∧ a' = putT a t ∧ (∀ j, lst j = true → (T γ')[j]? = (T γ)[j]?) ∧ M γ' (fun j => j == i || lst j) w'
/-- Beside the table: slots with an old value as long as the operation that writes them is to come. -/
def tableOKu (ops : Array Oper) (n : Nat) (base : List (Nat × Value)) (U : List (Nat × Value × Nat)) (T : List (Option (Nat × Value))) : Bool :=
  tableOKg ops n base T && U.all fun x => (List.range T.length).all fun j => j == x.2.2 || (match T[j]? with | some (some y) => y.1 != x.1 | _ => true)
theorem tableOKu_g {n : Nat} {base : List (Nat × Value)} {U : List (Nat × Value × Nat)} {T : List (Option (Nat × Value))} (h : tableOKu ops n base U T = true) : tableOKg ops n base T = true := by
  unfold tableOKu at h; rw [Bool.and_eq_true] at h; exact h.1
theorem tableOKu_u {n : Nat} {base : List (Nat × Value)} {U : List (Nat × Value × Nat)} {T : List (Option (Nat × Value))} (h : tableOKu ops n base U T = true) {x : Nat × Value × Nat} (hx : x ∈ U) {j : Nat} {y : Nat × Value} (hj : T[j]? = some (some y)) (hne : j ≠ x.2.2) : x.1 ≠ y.1 := by
  unfold tableOKu at h; rw [Bool.and_eq_true] at h
  have h2 := List.all_eq_true.1 (List.all_eq_true.1 h.2 x hx) j (by simpa using (List.getElem?_eq_some_iff.1 hj).1)
  have e' : (j == x.2.2) = false := by simpa using hne
  rw [hj, e', Bool.false_or] at h2
  intro e; rw [e] at h2; simp at h2
structure RInvU (ds : List Deferred) (ops : Array Oper) (n : Nat) (base : List (Nat × Value)) (U : List (Nat × Value × Nat)) (T : List (Option (Nat × Value))) (M : (Nat → Bool) → World → Prop) (listed : Array Bool) (a : Act) (w : World) : Prop where
  inv : RInv ds n base T M listed a w
  old : ∀ x ∈ U, listed.getD x.2.2 false = false → a.eval (.tmp x.1) = x.2.1
  cl : ∀ j k, depOn ops j k = true → listed.getD j false = true → listed.getD k false = true
theorem wpAny_invx {G : Type} {n : Nat} {base : List (Nat × Value)} {U : List (Nat × Value × Nat)} {T : G → List (Option (Nat × Value))} {M : G → (Nat → Bool) → World → Prop} (hord : ordered ops = true) (hT : ∀ γ, tableOKu ops n base U (T γ) = true)
    (step : ∀ (i : Nat) (o : Oper) (γ : G) (lst : Nat → Bool) (a : Act) (w : World), ops[i]? = some o → lst i = false → EnvD ds n base a → (∀ (j : Nat) (x : Nat × Value), depOn ops i j = true → (T γ)[j]? = some (some x) → a.eval (.tmp x.1) = x.2) → (∀ j, depOn ops i j = true → lst j = true) → (∀ j k, depOn ops j k = true → lst j = true → lst k = true) → (∀ x ∈ U, depOn ops x.2.2 i = true → a.eval (.tmp x.1) = x.2.1) → M γ lst w →
      (Region.wanted o (yielded ops a.tmps) = true → o.wp P a w (StepX T M i γ lst a) Q) ∧ (Region.wanted o (yielded ops a.tmps) = false → (∀ x, (T γ)[i]? = some (some x) → x.2 = undef) ∧ M γ (fun j => j == i || lst j) w))
    (hend : ∀ γ a w, EnvD ds n base a → (∀ (j : Nat) (x : Nat × Value), (T γ)[j]? = some (some x) → a.eval (.tmp x.1) = x.2) → M γ (fun j => decide (j < ops.size)) w → Q .normal a w) :
    ∀ (fuel : Nat) (γ : G) (listed : Array Bool) (a : Act) (w : World), listed.size = ops.size → (listed.toList.filter (!·)).length ≤ fuel → RInvU ds ops n base U (T γ) (M γ) listed a w → wpAny P .any ops Q fuel listed a w := by
  have hfin : ∀ (γ : G) (listed : Array Bool) (a : Act) (w : World), listed.size = ops.size → Region.ready .any ops listed = [] → RInvU ds ops n base U (T γ) (M γ) listed a w → Q .normal a w := by
    intro γ listed a w hs hr h
    have hall := all_listed hord hs hr
    have hlen : (T γ).length = ops.size := by
      have hT := tableOKu_g (hT γ)
      unfold tableOKg at hT; simp only [Bool.and_eq_true, beq_iff_eq] at hT; exact hT.1
    refine hend γ a w h.inv.env (fun j x hj => h.inv.vals j x hj (hall j (by rw [← hlen]; exact (List.getElem?_eq_some_iff.1 hj).1))) ?_
    have e : (fun j => listed.getD j false) = fun j => decide (j < ops.size) := by
      funext j
      by_cases hj : j < ops.size
      · rw [hall j hj, decide_eq_true hj]
      · rw [decide_eq_false hj, Array.getD_eq_getD_getElem?, Array.getElem?_eq_none (by omega)]; rfl
    rw [← e]; exact h.inv.mem
  intro fuel
  induction fuel with
  | zero =>
    intro γ listed a w hs hc h
    have hr : Region.ready .any ops listed = [] := by
      apply List.eq_nil_iff_forall_not_mem.2
      intro i hi
      obtain ⟨h1, h2, _⟩ := ready_iff.1 hi
      have hl : i < listed.size := by omega
      have : listed[i]? = some false := by
        rw [Array.getD_eq_getD_getElem?, Array.getElem?_eq_getElem hl] at h2
        rw [Array.getElem?_eq_getElem hl]; simpa using h2
      have hm : false ∈ listed.toList.filter (!·) := by
        rw [List.mem_filter]; exact ⟨Array.mem_toList_iff.2 (Array.mem_of_getElem? this), rfl⟩
      have := List.length_pos_of_mem hm
      omega
    exact ⟨hr, hfin γ listed a w hs hr h⟩
  | succ fuel ih =>
    intro γ listed a w hs hc h
    refine ⟨fun hr => hfin γ listed a w hs hr h, fun i hi => ?_⟩
    obtain ⟨h1, h2, o, ho, hdep⟩ := ready_iff.1 hi
    have hlenT : ∀ γ, (T γ).length = ops.size := fun γ => by
      have hT' := tableOKu_g (hT γ)
      unfold tableOKg at hT'
      simp only [Bool.and_eq_true, beq_iff_eq] at hT'
      exact hT'.1
    have hl : i < listed.size := by omega
    have hf : listed.getD i false = false := by
      rw [Array.getD_eq_getD_getElem?, Array.getElem?_eq_getElem hl] at h2 ⊢
      simpa using h2
    have hf' : listed[i]? = some false := by
      rw [Array.getD_eq_getD_getElem?, Array.getElem?_eq_getElem hl] at hf
      rw [Array.getElem?_eq_getElem hl]; simpa using hf
    have hdl : ∀ j, depOn ops i j = true → listed.getD j false = true := by
      intro j hj
      unfold depOn at hj
      rw [ho] at hj
      simp only [Option.map_some, Option.getD_some, List.any_eq_true, Array.mem_toList_iff] at hj
      obtain ⟨e, he, hb⟩ := hj
      simp only [Bool.and_eq_true, beq_iff_eq] at hb
      rw [← hb.2]; exact hdep e he hb.1
    have hstep := step i o γ (fun j => listed.getD j false) a w ho hf h.inv.env (fun j x hj hx => h.inv.vals j x hx (hdl j hj)) hdl h.cl (fun x hx hk => h.old x hx (by
      cases hkl : listed.getD x.2.2 false with
      | false => rfl
      | true => have := h.cl _ _ hk hkl; rw [hf] at this; cases this)) h.inv.mem
    unfold wpOp
    simp only [ho]
    have hgo : ∀ a' w', StepX T M i γ (fun j => listed.getD j false) a a' w' → wpAny P .any ops Q fuel (listed.setIfInBounds i true) a' w' := ?_
    · cases hw : Region.wanted o (yielded ops a.tmps) with
      | true =>
        simp only [if_true]
        left
        exact Oper.wp_mono hgo (hstep.1 hw)
      | false =>
        obtain ⟨h3, h4⟩ := hstep.2 hw
        obtain ⟨t, ht⟩ : ∃ t, (T γ)[i]? = some t := ⟨_, List.getElem?_eq_getElem (by rw [hlenT]; exact h1)⟩
        have hT' := tableOKu_g (hT γ)
        unfold tableOKg at hT'
        simp only [Bool.and_eq_true, beq_iff_eq] at hT'
        obtain ⟨hlen, hall⟩ := hT'
        have hi' := List.all_eq_true.1 hall i (by simpa using h1)
        rw [ho, ht] at hi'
        simp only [Option.bind_some, Option.map_some, Option.getD_some, Bool.and_eq_true, beq_iff_eq] at hi'
        obtain ⟨hd, hx⟩ := hi'
        refine hgo _ _ ⟨γ, t, ht, ?_, fun _ _ => rfl, h4⟩
        cases t with
        | none => rw [show o.dst = none from hd]; rfl
        | some x => rw [show o.dst = some x.1 from hd, ← h3 x ht]; rfl
    rintro a' w' ⟨γ', t, ht, rfl, hkeep, hM⟩
    have hT' := tableOKu_g (hT γ')
    unfold tableOKg at hT'
    simp only [Bool.and_eq_true, beq_iff_eq] at hT'
    obtain ⟨hlen, hall⟩ := hT'
    have hi' := List.all_eq_true.1 hall i (by simpa using h1)
    rw [ho, ht] at hi'
    simp only [Option.bind_some, Option.map_some, Option.getD_some, Bool.and_eq_true, beq_iff_eq] at hi'
    obtain ⟨hd, hx⟩ := hi'
    have hset : ∀ j, (listed.setIfInBounds i true).getD j false = (j == i || listed.getD j false) := by
      intro j
      rw [Array.getD_eq_getD_getElem?, Array.getElem?_setIfInBounds]
      by_cases e : i = j
      · subst e; simp [hl]
      · have e' : (j == i) = false := by simpa using Ne.symm e
        simp [e, e', Array.getD_eq_getD_getElem?]
    refine ih γ' _ _ _ (by simpa using hs) ?_ ⟨⟨?_, ?_, ?_⟩, ?_, ?_⟩
    · have := count_set (l := listed.toList) (i := i) (by simpa using hf')
      simp only [Array.toList_setIfInBounds]
      omega
    · cases t with
      | none => exact h.inv.env
      | some x =>
        simp only [Bool.and_eq_true, decide_eq_true_eq, Bool.not_eq_true'] at hx
        have hp := h.inv.env.put (v := x.2) hx.1.1 hx.1.2
        exact ⟨hp.size, fun y hy => hp.at_ y (List.mem_cons_of_mem _ hy), hp.df⟩
    · intro j x hj hlj
      rw [hset] at hlj
      have hltj := (List.getElem?_eq_some_iff.1 hj).1
      cases t with
      | none =>
        by_cases e : j = i
        · subst e; rw [ht] at hj; simp at hj
        · have e' : (j == i) = false := by simpa using e
          rw [e', Bool.false_or] at hlj
          rw [hkeep j hlj] at hj; exact h.inv.vals j x hj hlj
      | some y =>
        simp only [Bool.and_eq_true, decide_eq_true_eq, Bool.not_eq_true'] at hx
        show (a.put (some y.1) y.2).eval (.tmp x.1) = x.2
        rw [eval_put (by rw [h.inv.env.size]; exact hx.1.1)]
        by_cases e : j = i
        · subst e; rw [ht] at hj; simp at hj; subst hj; rw [if_pos rfl]
        · have e' : (j == i) = false := by simpa using e
          rw [e', Bool.false_or] at hlj
          have h5 := List.all_eq_true.1 hx.2 j (by simpa using hltj)
          rw [hj, e', Bool.false_or] at h5
          have h6 : x.1 ≠ y.1 := by simpa using h5
          rw [if_neg h6]
          rw [hkeep j hlj] at hj; exact h.inv.vals j x hj hlj
    · have e : (fun j => (listed.setIfInBounds i true).getD j false) = fun j => j == i || listed.getD j false := funext hset
      rw [e]; exact hM
    · intro x hx2 hlx
      rw [hset] at hlx
      have hne : i ≠ x.2.2 := by
        intro e; rw [← e] at hlx; simp at hlx
      have hlo : listed.getD x.2.2 false = false := by
        have e' : (x.2.2 == i) = false := by simpa using Ne.symm hne
        rw [e', Bool.false_or] at hlx; exact hlx
      cases t with
      | none => exact h.old x hx2 hlo
      | some y =>
        have hsl := tableOKu_u (hT γ') hx2 ht hne
        simp only [Bool.and_eq_true, decide_eq_true_eq, Bool.not_eq_true'] at hx
        show (a.put (some y.1) y.2).eval (.tmp x.1) = x.2.1
        rw [eval_put (by rw [h.inv.env.size]; exact hx.1.1), if_neg hsl]
        exact h.old x hx2 hlo
    · intro j k hjk hj
      rw [hset] at hj ⊢
      by_cases e : j = i
      · subst e; rw [hdl k hjk]; simp
      · have e' : (j == i) = false := by simpa using e
        rw [e', Bool.false_or] at hj
        rw [h.cl j k hjk hj]; simp
theorem wp_region_invx {G : Type} (γ0 : G) {id n : Nat} {base : List (Nat × Value)} {U : List (Nat × Value × Nat)} {T : G → List (Option (Nat × Value))} {M : G → (Nat → Bool) → World → Prop} {a : Act} {w : World} (hm : P.follows .mixedOrders = true) (hord : ordered ops = true) (hT : ∀ γ, tableOKu ops n base U (T γ) = true)
    (E : EnvD ds n base a) (hU : ∀ x ∈ U, a.eval (.tmp x.1) = x.2.1) (hM : M γ0 (fun _ => false) w.drew)
    (step : ∀ (i : Nat) (o : Oper) (γ : G) (lst : Nat → Bool) (a : Act) (w : World), ops[i]? = some o → lst i = false → EnvD ds n base a → (∀ (j : Nat) (x : Nat × Value), depOn ops i j = true → (T γ)[j]? = some (some x) → a.eval (.tmp x.1) = x.2) → (∀ j, depOn ops i j = true → lst j = true) → (∀ j k, depOn ops j k = true → lst j = true → lst k = true) → (∀ x ∈ U, depOn ops x.2.2 i = true → a.eval (.tmp x.1) = x.2.1) → M γ lst w →
      (Region.wanted o (yielded ops a.tmps) = true → o.wp P a w (StepX T M i γ lst a) Q) ∧ (Region.wanted o (yielded ops a.tmps) = false → (∀ x, (T γ)[i]? = some (some x) → x.2 = undef) ∧ M γ (fun j => j == i || lst j) w))
    (hend : ∀ γ a w, EnvD ds n base a → (∀ (j : Nat) (x : Nat × Value), (T γ)[j]? = some (some x) → a.eval (.tmp x.1) = x.2) → M γ (fun j => decide (j < ops.size)) w → Q .normal a w) :
    (Code.region id ops true).wp P Q a w := by
  refine wp_region_any hm (wpAny_invx hord hT step hend _ γ0 _ _ _ (by simp) ?_ ⟨⟨E, ?_, ?_⟩, fun x hx _ => hU x hx, ?_⟩)
  · exact Nat.le_trans (List.length_filter_le _ _) (by simp)
  · intro j x hj hlj
    rw [Array.getD_eq_getD_getElem?, Array.getElem?_replicate] at hlj
    split at hlj <;> simp at hlj
  · have e : (fun j => (Array.replicate ops.size false).getD j false) = fun _ => false := by
      funext j
      rw [Array.getD_eq_getD_getElem?, Array.getElem?_replicate]
      split <;> rfl
    rw [e]; exact hM
  · intro j k _ hlj
    rw [Array.getD_eq_getD_getElem?, Array.getElem?_replicate] at hlj
    split at hlj <;> simp at hlj
section
variable {G : Type} {T : G → List (Option (Nat × Value))} {M : G → (Nat → Bool) → World → Prop} {i : Nat} {γ : G} {lst : Nat → Bool} {o : Oper} {a : Act} {w w' : World} {d : Nat} {v : Value}
theorem valx (hT : (T γ)[i]? = some (some (d, v))) (hr : (execOp a.eval o).run P w = .ok (.value v) w) (hd : o.dst = some d) (hM : M γ (fun j => j == i || lst j) w) : o.wp P a w (StepX T M i γ lst a) Q := by
  unfold Oper.wp; rw [hr, Oper.upon_value, hd]; exact ⟨γ, _, hT, rfl, fun _ _ => rfl, hM⟩
theorem callx {f : FuncId} {args : Array Value} {F : World → Prop} (hT : (T γ)[i]? = some (some (d, v))) (hr : (execOp a.eval o).run P w = .ok (.enter f args) w) (hc : Calls P f args w fun e w' => e = .returned v ∧ F w') (hd : o.dst = some d) (hM : ∀ w', F w' → M γ (fun j => j == i || lst j) w') : o.wp P a w (StepX T M i γ lst a) Q := by
  unfold Oper.wp; rw [hr, Oper.upon_enter]
  refine hc.mono ?_
  rintro e w' ⟨rfl, hF⟩
  show StepX T M i γ lst a _ _
  rw [hd]; exact ⟨γ, _, hT, rfl, fun _ _ => rfl, hM w' hF⟩
end
section
variable {o o' : Oper} {a a1 : Act} {w : World} {O : Array Oper} {K : Act → World → Prop} {A B N : Prop}
theorem z0_ {f : Nat → Option Bool} (ho : (some o : Option Oper) = some o') (h : o.wp P a w K Q) (hg : o.guard = none := by rfl) : (Region.wanted o' f = true → o'.wp P a w K Q) ∧ (Region.wanted o' f = false → B) := by
  cases ho; exact ⟨fun _ => h, fun k => by rw [wanted_none hg] at k; cases k⟩
theorem z1_ {n g s : Nat} {b : Bool} {L : List (Nat × Value)} (ho : (some o : Option Oper) = some o') (E : EnvD ds n L a1) (hv : a1.eval (.tmp s) = .bool b) (h : o.wp P a w K Q) (hgd : o.guard = some (g, b) := by rfl) (hg : (O[g]?).bind (·.dst) = some s := by rfl) (hs : s < n := by decide) : (Region.wanted o' (yielded O a1.tmps) = true → o'.wp P a w K Q) ∧ (Region.wanted o' (yielded O a1.tmps) = false → B) := by
  cases ho; exact ⟨fun _ => h, fun k => by rw [w_yes E hgd hg hs hv] at k; cases k⟩
theorem z2_ {n g s : Nat} {b : Bool} {L : List (Nat × Value)} (ho : (some o : Option Oper) = some o') (E : EnvD ds n L a1) (hv : a1.eval (.tmp s) = .bool (!b)) (hB : B) (h : N) (hgd : o.guard = some (g, b) := by rfl) (hg : (O[g]?).bind (·.dst) = some s := by rfl) (hs : s < n := by decide) : (Region.wanted o' (yielded O a1.tmps) = true → A) ∧ (Region.wanted o' (yielded O a1.tmps) = false → B ∧ N) := by
  cases ho; exact ⟨fun k => (by rw [wanted_some hgd, yield_eq hg (by rw [E.size]; exact hs), hv] at k; cases b <;> cases k), fun _ => ⟨hB, h⟩⟩
theorem z3_ {n g s : Nat} {b : Bool} {L : List (Nat × Value)} (ho : (some o : Option Oper) = some o') (E : EnvD ds n L a1) (hv : a1.eval (.tmp s) = undef) (hB : B) (h : N) (hgd : o.guard = some (g, b) := by rfl) (hg : (O[g]?).bind (·.dst) = some s := by rfl) (hs : s < n := by decide) : (Region.wanted o' (yielded O a1.tmps) = true → A) ∧ (Region.wanted o' (yielded O a1.tmps) = false → B ∧ N) := by
  cases ho; exact ⟨fun k => (by rw [wanted_some hgd, yield_eq hg (by rw [E.size]; exact hs), hv] at k; cases k), fun _ => ⟨hB, h⟩⟩
end
end Go.Pl
/- Plain laws over whatever program: frames of blocks, maps as functions on keys. -/
namespace Go.Pl
open Go.RowKit
/-- w' is w but for blocks of F and new ones. -/
structure Fr (F : Nat → Prop) (w w' : World) : Prop where
  os : w'.os = w.os
  tape : w'.tape = w.tape
  output : w'.output = w.output
  size : w.heap.size ≤ w'.heap.size
  blk : ∀ r, r < w.heap.size → ¬ F r → w'.heap[r]? = w.heap[r]?
section fr
variable {F G : Nat → Prop} {a b c w w' : World}
@[simp] theorem Fr.refl (F : Nat → Prop) (w : World) : Fr F w w := ⟨rfl, rfl, rfl, Nat.le_refl _, fun _ _ _ => rfl⟩
theorem Fr.trans' (h : Fr F a b) (k : Fr G b c) (hs : ∀ r, r < a.heap.size → G r → F r) : Fr F a c :=
  ⟨k.os.trans h.os, k.tape.trans h.tape, k.output.trans h.output, Nat.le_trans h.size k.size,
    fun r hr hf => (k.blk r (Nat.lt_of_lt_of_le hr h.size) (fun g => hf (hs r hr g))).trans (h.blk r hr hf)⟩
theorem Fr.trans (h : Fr F a b) (k : Fr F b c) : Fr F a c := h.trans' k fun _ _ => id
theorem Fr.mono (h : Fr F a b) (hs : ∀ r, r < a.heap.size → F r → G r) : Fr G a b := ⟨h.os, h.tape, h.output, h.size, fun r hr hg => h.blk r hr (fun f => hg (hs r hr f))⟩
@[simp] theorem Fr.drew (h : Fr F a w) : Fr F a w.drew := ⟨h.os, h.tape, h.output, h.size, h.blk⟩
@[simp] theorem Fr.drewN (h : Fr F a w) (n : Nat) : Fr F a (w.drewN n) := ⟨h.os, h.tape, h.output, h.size, h.blk⟩
@[simp] theorem Fr.alloc (h : Fr F a w) (o : Obj) : Fr F a (w.alloc o) :=
  h.trans ⟨rfl, rfl, rfl, by simp, fun r hr _ => Below.heap_alloc _ _ _ hr⟩
theorem Fr.setCell (h : Fr F a w) {p : Addr} (hp : p.block < a.heap.size → F p.block) (u : Value) : Fr F a (w.setCell p u) :=
  h.trans' (G := fun r => r = p.block) ⟨rfl, rfl, rfl, by simp [World.setCell], fun r _ hne => Below.heap_setCell _ _ _ _ hne⟩ (fun r hr e => by subst e; exact hp hr)
theorem Fr.grown {row : Option Nat} (h : Fr F a w) (hg : w.grownBy w' row) (hr : ∀ k, row = some k → k < a.heap.size → F k) : Fr F a w' :=
  h.trans' (G := fun r => row = some r) ⟨hg.os, hg.tape, hg.output, hg.size, fun r hr hne => hg.block r hr (fun e => hne e.symm)⟩ (fun r hl e => hr r e hl)
theorem Fr.below (h : Fr F a w) (hf : ∀ r, r < a.heap.size → ¬ F r) : Below a.heap.size a w := ⟨h.os, h.tape, h.output, h.size, fun r hr => h.blk r hr (hf r hr)⟩
theorem Fr.of_below (h : Below a.heap.size a w) : Fr F a w := ⟨h.os, h.tape, h.output, h.size, fun r hr _ => h.block r hr⟩
theorem Fr.cell (h : Fr F w w') {p : Addr} {v : Value} (hc : w.cell? p = some v) (hf : ¬ F p.block) : w'.cell? p = some v :=
  (World.cell?_of_block (h.blk p.block (World.block_lt_of_cell? w p hc) hf)).trans hc
theorem Fr.obj (h : Fr F w w') {r : Nat} {o : Obj} (hc : w.heap[r]? = some o) (hf : ¬ F r) : w'.heap[r]? = some o :=
  (h.blk r (Array.getElem?_eq_some_iff.1 hc).1 hf).trans hc
/-- Blocks of a world that is written out. -/
@[simp] theorem blk_drewN (w : World) (n r : Nat) : (w.drewN n).heap[r]? = w.heap[r]? := rfl
@[simp] theorem blk_drew (w : World) (r : Nat) : w.drew.heap[r]? = w.heap[r]? := rfl
@[simp] theorem blk_alloc {w : World} {r : Nat} (h : r < w.heap.size) (o : Obj) : (w.alloc o).heap[r]? = w.heap[r]? := Below.heap_alloc _ _ _ h
@[simp] theorem blk_alloc_new (w : World) (o : Obj) : (w.alloc o).heap[w.heap.size]? = some o := heap_alloc_new w o
theorem blk_alloc_at {w : World} {r : Nat} (h : r = w.heap.size) (o : Obj) : (w.alloc o).heap[r]? = some o := by rw [h]; exact heap_alloc_new w o
theorem blk_setCell_same {w : World} {g off : Nat} {cur : Array Value} {E : TypeId} {fz : Nat × Nat} (h : w.heap[g]? = some (.cells cur E fz)) (u : Value) :
    (w.setCell ⟨g, off, none⟩ u).heap[g]? = some (.cells (cur.setIfInBounds off u) E fz) := by
  simp [World.setCell, Array.getElem?_modify, h]
theorem cell_of_blk {w : World} {g : Nat} {cur : Array Value} {E : TypeId} {fz : Nat × Nat} (h : w.heap[g]? = some (.cells cur E fz)) (off : Nat) : w.cell? ⟨g, off, none⟩ = cur[off]? := by
  simp [World.cell?, h]
theorem free_of_blk {w : World} {g : Nat} {cur : Array Value} {E : TypeId} (h : w.heap[g]? = some (.cells cur E (0, 0))) (off : Nat) : w.frozen? ⟨g, off, none⟩ = false := by
  simp [World.frozen?, h]
theorem lt_of_blk {w : World} {g : Nat} {o : Obj} (h : w.heap[g]? = some o) : g < w.heap.size := (Array.getElem?_eq_some_iff.1 h).1
end fr
/-! ### maps -/
section maps
open Classical
variable {P : Program} {K : TypeId}
noncomputable def upd (m : Value → Option Value) (k v : Value) : Value → Option Value := fun x => if x = k then some v else m x
noncomputable def del (m : Value → Option Value) (k : Value) : Value → Option Value := fun x => if x = k then none else m x
theorem upd_same (m k v) : upd m k v k = some v := by simp [upd]
theorem upd_other (m) {k x v : Value} (h : x ≠ k) : upd m k v x = m x := by simp [upd, h]
/-- The entries es read as the function m. -/
structure Ents (P : Program) (K : TypeId) (es : List MapEntry) (clock : Nat) (m : Value → Option Value) : Prop where
  keys : ∀ e ∈ es, ∃ l, keyOf P K e.key = some l
  apart : es.Pairwise (fun x y => x.key ≠ y.key)
  born : ∀ e ∈ es, e.born < clock
  stamps : es.Pairwise (fun x y => x.born ≠ y.born)
  at_ : ∀ k v, m k = some v ↔ ∃ e ∈ es, e.key = k ∧ e.val = v
/-- Block b is a map that reads as m. -/
def MapAt (P : Program) (K : TypeId) (w : World) (b : Nat) (m : Value → Option Value) : Prop :=
  ∃ es clock, w.heap[b]? = some (.map es clock) ∧ Ents P K es.toList clock m
theorem MapAt.lt {w : World} {b : Nat} {m} (h : MapAt P K w b m) : b < w.heap.size := by
  obtain ⟨es, c, hb, _⟩ := h; exact (Array.getElem?_eq_some_iff.1 hb).1
theorem MapAt.of_blk {w w' : World} {b : Nat} {m} (h : MapAt P K w b m) (e : w'.heap[b]? = w.heap[b]?) : MapAt P K w' b m := by
  obtain ⟨es, c, hb, r⟩ := h; exact ⟨es, c, e.trans hb, r⟩
theorem MapAt.fr {F : Nat → Prop} {w w' : World} {b : Nat} {m} (h : MapAt P K w b m) (hf : Fr F w w') (hn : ¬ F b) : MapAt P K w' b m := h.of_blk (hf.blk b h.lt hn)
theorem MapAt.made (w : World) : MapAt P K (w.alloc (.map #[] 0)) w.heap.size (fun _ => none) :=
  ⟨#[], 0, heap_alloc_new w _, ⟨by simp, by simp, by simp, by simp, by simp⟩⟩
theorem Ents.find (L : Maps.Keyed P K) {w : World} {es : List MapEntry} {c : Nat} {m} (h : Ents P K es c m) {key : Value} {l : Lit} (hk : keyOf P K key = some l) :
    ((Instr.findKey K key es).run P w = .ok none w ∧ m key = none ∧ ∀ e ∈ es, e.key ≠ key) ∨
    ∃ j e, (Instr.findKey K key es).run P w = .ok (some (j, e.val)) w ∧ es[j]? = some e ∧ e.key = key ∧ m key = some e.val := by
  rcases L.find w hk es h.keys with ⟨h1, h2⟩ | ⟨j, e, h1, h2, h3⟩
  · left
    refine ⟨h1, ?_, h2⟩
    cases hm : m key with
    | none => rfl
    | some v =>
      obtain ⟨e, he, hek, _⟩ := (h.at_ key v).1 hm
      exact absurd hek (h2 e he)
  · right
    exact ⟨j, e, h1, h2, h3, (h.at_ key e.val).2 ⟨e, List.mem_of_getElem? h2, h3, rfl⟩⟩
theorem MapAt.look (L : Maps.Keyed P K) {t e : TypeId} (ht : P.underlying t = some (.map K e)) {w : World} {b : Nat} {m} (h : MapAt P K w b m) {key : Value} {l : Lit} (hk : keyOf P K key = some l)
    {z : Value} (hz : (zeroValue e).run P w = .ok z w) : (Instr.lookup t (.map (some b)) key false).run P w = .ok ((m key).getD z) w := by
  obtain ⟨es, c, hb, h⟩ := h
  rcases h.find L (w := w) hk with ⟨h1, h2, _⟩ | ⟨j, en, h1, h2, h3, h4⟩
  · simp [Instr.lookup, run_underlying ht, MapKept.run_getObj_map hb, L.check w _ hk, h1, hz, h2, Result.andThen]
  · simp [Instr.lookup, run_underlying ht, MapKept.run_getObj_map hb, L.check w _ hk, h1, h4, Result.andThen]
theorem MapAt.look_ok (L : Maps.Keyed P K) {t e : TypeId} (ht : P.underlying t = some (.map K e)) {w : World} {b : Nat} {m} (h : MapAt P K w b m) {key : Value} {l : Lit} (hk : keyOf P K key = some l)
    {z : Value} (hz : (zeroValue e).run P w = .ok z w) : (Instr.lookup t (.map (some b)) key true).run P w = .ok (.tuple #[(m key).getD z, .bool (m key).isSome]) w := by
  obtain ⟨es, c, hb, h⟩ := h
  rcases h.find L (w := w) hk with ⟨h1, h2, _⟩ | ⟨j, en, h1, h2, h3, h4⟩
  · simp [Instr.lookup, run_underlying ht, MapKept.run_getObj_map hb, L.check w _ hk, h1, hz, h2, Result.andThen]
  · simp [Instr.lookup, run_underlying ht, MapKept.run_getObj_map hb, L.check w _ hk, h1, h4, Result.andThen]
def setBlk (w : World) (b : Nat) (o : Obj) : World := { w with heap := w.heap.setIfInBounds b o }
theorem Fr.setBlk {F : Nat → Prop} {a w : World} (h : Fr F a w) {b : Nat} (hb : b < a.heap.size → F b) (o : Obj) : Fr F a (setBlk w b o) :=
  h.trans' (G := fun r => r = b) ⟨rfl, rfl, rfl, by simp [Pl.setBlk], fun r _ hne => by simp [Pl.setBlk, Ne.symm hne]⟩ (fun r hr e => by subst e; exact hb hr)
theorem setBlk_same {w : World} {b : Nat} (hb : b < w.heap.size) (o : Obj) : (setBlk w b o).heap[b]? = some o := by
  simp [setBlk, hb]
theorem Ents.push {es : List MapEntry} {c : Nat} {m} (h : Ents P K es c m) {key v : Value} {l : Lit} (hk : keyOf P K key = some l) (hn : ∀ e ∈ es, e.key ≠ key) :
    Ents P K (es ++ [⟨key, v, c⟩]) (c + 1) (upd m key v) := by
  refine ⟨?_, ?_, ?_, ?_, ?_⟩
  · intro e he
    rcases List.mem_append.1 he with he | he
    · exact h.keys e he
    · simp at he; subst he; exact ⟨l, hk⟩
  · rw [List.pairwise_append]; exact ⟨h.apart, by simp, fun x hx y hy => by simp at hy; subst hy; exact hn x hx⟩
  · intro e he
    rcases List.mem_append.1 he with he | he
    · have := h.born e he; omega
    · simp at he; subst he; exact Nat.lt_succ_self _
  · rw [List.pairwise_append]; exact ⟨h.stamps, by simp, fun x hx y hy => by simp at hy; subst hy; have := h.born x hx; simp; omega⟩
  · intro k u
    unfold upd
    by_cases hkk : k = key
    · subst hkk
      simp only [if_true, Option.some.injEq]
      constructor
      · rintro rfl; exact ⟨⟨k, v, c⟩, by simp, rfl, rfl⟩
      · rintro ⟨e, he, h1, h2⟩
        rcases List.mem_append.1 he with he | he
        · exact absurd h1 (hn e he)
        · simp at he; subst he; exact h2
    · simp only [if_neg hkk]
      rw [h.at_]
      constructor
      · rintro ⟨e, he, h1, h2⟩; exact ⟨e, List.mem_append_left _ he, h1, h2⟩
      · rintro ⟨e, he, h1, h2⟩
        rcases List.mem_append.1 he with he | he
        · exact ⟨e, he, h1, h2⟩
        · simp at he; subst he; exact absurd h1.symm hkk
theorem Ents.unique {es : List MapEntry} (hp : es.Pairwise (fun x y => x.key ≠ y.key)) {i j : Nat} {x y : MapEntry} (hi : es[i]? = some x) (hj : es[j]? = some y) (hk : x.key = y.key) : i = j := by
  obtain ⟨hi1, hi2⟩ := List.getElem?_eq_some_iff.1 hi
  obtain ⟨hj1, hj2⟩ := List.getElem?_eq_some_iff.1 hj
  rcases Nat.lt_trichotomy i j with h | h | h
  · exact absurd (by rw [hi2, hj2]; exact hk) (List.pairwise_iff_getElem.1 hp i j hi1 hj1 h)
  · exact h
  · exact absurd (by rw [hi2, hj2]; exact hk.symm) (List.pairwise_iff_getElem.1 hp j i hj1 hi1 h)
theorem Ents.set {es : List MapEntry} {c : Nat} {m} (h : Ents P K es c m) {key v : Value} {j : Nat} {e0 : MapEntry} (hj : es[j]? = some e0) (hk : e0.key = key) :
    Ents P K (es.set j { e0 with key := key, val := v }) c (upd m key v) := by
  have hj1 : j < es.length := (List.getElem?_eq_some_iff.1 hj).1
  have hj2 : es[j] = e0 := (List.getElem?_eq_some_iff.1 hj).2
  have hget : ∀ i x, (es.set j { e0 with key := key, val := v })[i]? = some x → ∃ y, es[i]? = some y ∧ x.key = y.key ∧ x.born = y.born ∧ (i ≠ j → x = y) ∧ (i = j → x.val = v) := by
    intro i x hx
    rw [List.getElem?_set] at hx
    by_cases hij : j = i
    · subst hij
      simp [hj1] at hx
      subst hx
      exact ⟨e0, hj, hk.symm, rfl, fun h => absurd rfl h, fun _ => rfl⟩
    · simp [hij] at hx
      exact ⟨x, hx, rfl, rfl, fun _ => rfl, fun h => absurd h.symm hij⟩
  have hpw : ∀ (R : MapEntry → MapEntry → Prop), (∀ x y x' y', x.key = x'.key → x.born = x'.born → y.key = y'.key → y.born = y'.born → R x' y' → R x y) → es.Pairwise R → (es.set j { e0 with key := key, val := v }).Pairwise R := by
    intro R hR hp
    rw [List.pairwise_iff_getElem] at hp ⊢
    intro a b ha hb hab
    obtain ⟨y, hy, h1, h2, _⟩ := hget a _ (List.getElem?_eq_getElem ha)
    obtain ⟨z, hz, h3, h4, _⟩ := hget b _ (List.getElem?_eq_getElem hb)
    obtain ⟨ha', rfl⟩ := List.getElem?_eq_some_iff.1 hy
    obtain ⟨hb', rfl⟩ := List.getElem?_eq_some_iff.1 hz
    exact hR _ _ _ _ h1 h2 h3 h4 (hp a b ha' hb' hab)
  refine ⟨?_, hpw _ (fun x y x' y' h1 _ h2 _ hr => by rw [h1, h2]; exact hr) h.apart, ?_, hpw _ (fun x y x' y' _ h1 _ h2 hr => by rw [h1, h2]; exact hr) h.stamps, ?_⟩
  · intro e he
    obtain ⟨i, hi⟩ := List.getElem?_of_mem he
    obtain ⟨y, hy, h1, _⟩ := hget i e hi
    rw [h1]; exact h.keys y (List.mem_of_getElem? hy)
  · intro e he
    obtain ⟨i, hi⟩ := List.getElem?_of_mem he
    obtain ⟨y, hy, _, h1, _⟩ := hget i e hi
    rw [h1]; exact h.born y (List.mem_of_getElem? hy)
  · intro k u
    unfold upd
    by_cases hkk : k = key
    · subst hkk
      simp only [if_true, Option.some.injEq]
      constructor
      · rintro rfl
        exact ⟨{ e0 with key := k, val := v }, List.mem_of_getElem? (i := j) (by simp [hj1]), rfl, rfl⟩
      · rintro ⟨e, he, h1, h2⟩
        obtain ⟨i, hi⟩ := List.getElem?_of_mem he
        obtain ⟨y, hy, h3, h4, h5, h6⟩ := hget i e hi
        have : i = j := Ents.unique h.apart hy hj (by rw [← h3, h1, hk])
        rw [← h2, h6 this]
    · simp only [if_neg hkk]
      rw [h.at_]
      constructor
      · rintro ⟨e, he, h1, h2⟩
        obtain ⟨i, hi⟩ := List.getElem?_of_mem he
        have : j ≠ i := by rintro rfl; rw [hj] at hi; cases hi; exact hkk (h1.symm.trans hk)
        exact ⟨e, List.mem_of_getElem? (i := i) (by rw [List.getElem?_set, if_neg this]; exact hi), h1, h2⟩
      · rintro ⟨e, he, h1, h2⟩
        obtain ⟨i, hi⟩ := List.getElem?_of_mem he
        obtain ⟨y, hy, h3, h4, h5, h6⟩ := hget i e hi
        by_cases hij : i = j
        · subst hij; rw [hj] at hy; cases hy; exact absurd (h1.symm.trans (h3.trans hk)) hkk
        · rw [h5 hij] at h1 h2; exact ⟨y, List.mem_of_getElem? hy, h1, h2⟩
/-- 'm[k] = v': one object, in whatever world in which the block is as it is. -/
theorem MapAt.store (L : Maps.Keyed P K) {t e : TypeId} (ht : P.underlying t = some (.map K e)) {w : World} {b : Nat} {m} (h : MapAt P K w b m) {key : Value} {l : Lit} (hk : keyOf P K key = some l) (v : Value) :
    ∃ o, ∀ W : World, W.heap[b]? = w.heap[b]? → (Instr.mapUpdate t (.map (some b)) key v).run P W = .ok () (setBlk W b o) ∧ MapAt P K (setBlk W b o) b (upd m key v) := by
  obtain ⟨es, c, hb0, h⟩ := h
  rcases h.find L (w := w) hk with ⟨h1, h2, h3⟩ | ⟨j, en, h1, h2, h3, h4⟩
  · refine ⟨.map (es.push ⟨key, v, c⟩) (c + 1), fun W hW => ?_⟩
    have hb := hW.trans hb0
    have hlt : b < W.heap.size := (Array.getElem?_eq_some_iff.1 hb).1
    have h1 : (Instr.findKey K key es.toList).run P W = .ok none W := by
      rcases h.find L (w := W) hk with ⟨h1, _⟩ | ⟨j, en, _, g2, g3, _⟩
      · exact h1
      · exact absurd g3 (h3 en (List.mem_of_getElem? g2))
    refine ⟨?_, _, _, setBlk_same hlt _, by simpa using h.push hk h3⟩
    simp [Instr.mapUpdate, run_underlying ht, MapKept.run_getObj_map hb, L.check W false hk, h1, MapKept.run_setObj_map _ hb, Result.andThen, setBlk]
  · have hj : j < es.size := by simpa using (List.getElem?_eq_some_iff.1 h2).1
    have hj2 : es[j] = en := by simpa using (List.getElem?_eq_some_iff.1 h2).2
    refine ⟨.map (es.modify j fun e => { e with key := key, val := v }) c, fun W hW => ?_⟩
    have hb := hW.trans hb0
    have hlt : b < W.heap.size := (Array.getElem?_eq_some_iff.1 hb).1
    have h1 : (Instr.findKey K key es.toList).run P W = .ok (some (j, en.val)) W := by
      rcases h.find L (w := W) hk with ⟨_, _, g3⟩ | ⟨j', en', g1, g2, g3, g4⟩
      · exact absurd h3 (g3 en (List.mem_of_getElem? h2))
      · have : j' = j := Ents.unique h.apart g2 h2 (g3.trans h3.symm)
        subst this
        rw [h2] at g2; cases g2
        exact g1
    refine ⟨?_, _, _, setBlk_same hlt _, ?_⟩
    · have hes : es[j]? = some en := by simpa using h2
      have hst := L.stays W hk
      simp [Instr.mapUpdate, run_underlying ht, MapKept.run_getObj_map hb, L.check W false hk, h1, hes, h3, hst, MapKept.run_setObj_map _ hb, Result.andThen, setBlk]
    · have : (es.modify j fun e => { e with key := key, val := v }).toList = es.toList.set j { en with key := key, val := v } := by
        apply List.ext_getElem?
        intro i
        simp only [Array.getElem?_toList, Array.getElem?_modify, List.getElem?_set]
        by_cases hij : j = i
        · subst hij; simp [hj, hj2]
        · simp [hij]
      rw [this]
      exact h.set h2 h3
/-- An object is a map that reads as m. -/
def ObjMap (P : Program) (K : TypeId) (o : Obj) (m : Value → Option Value) : Prop := ∃ es clock, o = .map es clock ∧ Ents P K es.toList clock m
theorem MapAt.obj {w : World} {b : Nat} {m} (h : MapAt P K w b m) : ∃ o, w.heap[b]? = some o ∧ ObjMap P K o m := by
  obtain ⟨es, c, hb, r⟩ := h; exact ⟨_, hb, es, c, rfl, r⟩
theorem find_stamp {es : List MapEntry} (hp : es.Pairwise (fun x y => x.born ≠ y.born)) {j : Nat} {e : MapEntry} (hj : es[j]? = some e) : es.findIdx? (fun x => (x.born : Int) == (e.born : Int)) = some j := by
  obtain ⟨hj1, hj2⟩ := List.getElem?_eq_some_iff.1 hj
  rw [List.findIdx?_eq_some_iff_getElem]
  refine ⟨hj1, by rw [hj2]; simp, fun i hi => ?_⟩
  have := List.pairwise_iff_getElem.1 hp i j (by omega) hj1 hi
  rw [hj2] at this
  simp; omega
theorem find_stamp_arr {A : Array MapEntry} (hp : A.toList.Pairwise (fun x y => x.born ≠ y.born)) {j : Nat} {e : MapEntry} (hj : A[j]? = some e) : A.findIdx? (fun x => (x.born : Int) == (e.born : Int)) = some j := by
  cases A with
  | mk l => rw [List.findIdx?_toArray]; exact find_stamp hp (by simpa using hj)
/-- 'm[k] op= ..' in two steps: the entry is made, then written. -/
theorem ObjMap.entry (L : Maps.Keyed P K) {t e : TypeId} (ht : P.underlying t = some (.map K e)) {o : Obj} {m} (h : ObjMap P K o m) (b : Nat) {key : Value} {l : Lit} (hk : keyOf P K key = some l) {z : Value} (hz : ∀ w, (zeroValue e).run P w = .ok z w) (v : Value) :
    ∃ o1 o2 x s, (∀ W : World, W.heap[b]? = some o → (Instr.mapEntry t (.map (some b)) key).run P W = .ok (.tuple #[x, .int .i64 s]) (setBlk W b o1)) ∧
      (∀ W : World, W.heap[b]? = some o1 → (Instr.entryStore t (.map (some b)) (.int .i64 s) v).run P W = .ok () (setBlk W b o2)) ∧ ObjMap P K o2 (upd m key v) := by
  obtain ⟨es, c, rfl, h⟩ := h
  have hall := fun w => h.find L (w := w) hk
  rcases hall default with ⟨_, h2, h3⟩ | ⟨j, en, _, h2, h3, h4⟩
  · refine ⟨.map (es.push ⟨key, z, c⟩) (c + 1), .map (es.push ⟨key, v, c⟩) (c + 1), z, c, fun W hb => ?_, fun W hb => ?_, _, _, rfl, by simpa using h.push hk h3⟩
    · have h1 : (Instr.findKey K key es.toList).run P W = .ok none W := by
        rcases hall W with ⟨h1, _⟩ | ⟨j, en, _, g2, g3, _⟩
        · exact h1
        · exact absurd g3 (h3 en (List.mem_of_getElem? g2))
      simp [Instr.mapEntry, run_underlying ht, MapKept.run_getObj_map hb, L.check W false hk, h1, hz, MapKept.run_setObj_map _ hb, Result.andThen, setBlk, goInt]
    · have hs : (es.push ⟨key, z, c⟩).toList.Pairwise (fun x y => x.born ≠ y.born) := by simpa using (h.push (v := z) hk h3).stamps
      have hf : (es.push ⟨key, z, c⟩).findIdx? (fun e => (e.born : Int) == (c : Int)) = some es.size := find_stamp_arr hs (e := ⟨key, z, c⟩) (by simp)
      have hm : (es.push ⟨key, z, c⟩).modify es.size (fun e => { e with val := v }) = es.push ⟨key, v, c⟩ := by
        apply Array.ext_getElem?
        intro i
        rw [Array.getElem?_modify, Array.getElem?_push, Array.getElem?_push]
        by_cases hi : i = es.size
        · subst hi; simp
        · rw [if_neg (by omega), if_neg hi, if_neg hi]
      simp [Instr.entryStore, MapKept.run_getObj_map hb, hf, hm, asInt, asIntOf, MapKept.run_setObj_map _ hb, Result.andThen, setBlk]
  · have hj : j < es.size := by simpa using (List.getElem?_eq_some_iff.1 h2).1
    have hj2 : es[j] = en := by simpa using (List.getElem?_eq_some_iff.1 h2).2
    have hes : es[j]? = some en := by simpa using h2
    have hsame : es.modify j (fun e => { e with key := key }) = es := by
      apply Array.ext_getElem?
      intro i
      rw [Array.getElem?_modify]
      by_cases hi : j = i
      · subst hi; rw [if_pos rfl, hes, ← h3]; rfl
      · rw [if_neg hi]
    refine ⟨.map es c, .map (es.modify j fun e => { e with val := v }) c, en.val, en.born, fun W hb => ?_, fun W hb => ?_, _, _, rfl, ?_⟩
    · have h1 : (Instr.findKey K key es.toList).run P W = .ok (some (j, en.val)) W := by
        rcases hall W with ⟨_, _, g3⟩ | ⟨j', en', g1, g2, g3, g4⟩
        · exact absurd h3 (g3 en (List.mem_of_getElem? h2))
        · have : j' = j := Ents.unique h.apart g2 h2 (g3.trans h3.symm)
          subst this
          rw [h2] at g2; cases g2
          exact g1
      have hst := L.stays W hk
      simp [Instr.mapEntry, run_underlying ht, MapKept.run_getObj_map hb, L.check W false hk, h1, hes, h3, hst, hsame, MapKept.run_setObj_map _ hb, Result.andThen, setBlk, goInt]
    · have hf : es.findIdx? (fun e => (e.born : Int) == (en.born : Int)) = some j := find_stamp_arr h.stamps hes
      simp [Instr.entryStore, MapKept.run_getObj_map hb, hf, asInt, asIntOf, MapKept.run_setObj_map _ hb, Result.andThen, setBlk]
    · have : (es.modify j fun e => { e with val := v }).toList = es.toList.set j { en with key := key, val := v } := by
        apply List.ext_getElem?
        intro i
        simp only [Array.getElem?_toList, Array.getElem?_modify, List.getElem?_set]
        by_cases hij : j = i
        · subst hij; simp [hj, hj2, ← h3]
        · simp [hij]
      rw [this]
      exact h.set h2 h3
end maps
/-! ### maps with a bound on their entries; delete; ranges -/
section maps2
open Classical
variable {P : Program} {K : TypeId}
/-- Block b is a map of at most n entries that reads as m. -/
def MapN (P : Program) (K : TypeId) (w : World) (b n : Nat) (m : Value → Option Value) : Prop :=
  ∃ es clock, w.heap[b]? = some (.map es clock) ∧ Ents P K es.toList clock m ∧ es.size ≤ n
theorem MapN.at {w : World} {b n : Nat} {m} (h : MapN P K w b n m) : MapAt P K w b m := by
  obtain ⟨es, c, hb, r, _⟩ := h; exact ⟨es, c, hb, r⟩
theorem MapN.lt {w : World} {b n : Nat} {m} (h : MapN P K w b n m) : b < w.heap.size := h.at.lt
theorem MapN.of_blk {w w' : World} {b n : Nat} {m} (h : MapN P K w b n m) (e : w'.heap[b]? = w.heap[b]?) : MapN P K w' b n m := by
  obtain ⟨es, c, hb, r⟩ := h; exact ⟨es, c, e.trans hb, r⟩
theorem MapN.fr {F : Nat → Prop} {w w' : World} {b n : Nat} {m} (h : MapN P K w b n m) (hf : Fr F w w') (hn : ¬ F b) : MapN P K w' b n m := h.of_blk (hf.blk b h.lt hn)
theorem MapN.mono {w : World} {b n n' : Nat} {m} (h : MapN P K w b n m) (hn : n ≤ n') : MapN P K w b n' m := by
  obtain ⟨es, c, hb, r, hs⟩ := h; exact ⟨es, c, hb, r, Nat.le_trans hs hn⟩
theorem MapN.made (w : World) : MapN P K (w.alloc (.map #[] 0)) w.heap.size 0 (fun _ => none) :=
  ⟨#[], 0, heap_alloc_new w _, ⟨by simp, by simp, by simp, by simp, by simp⟩, by simp⟩
theorem MapN.congr {w : World} {b n : Nat} {m m' : Value → Option Value} (h : MapN P K w b n m) (e : ∀ k, m k = m' k) : MapN P K w b n m' := by
  rw [show m' = m from funext fun k => (e k).symm]; exact h
/-- 'm[k] = v': one object, in whatever world in which the block is as it is. -/
theorem MapN.store (L : Maps.Keyed P K) {t e : TypeId} (ht : P.underlying t = some (.map K e)) {w : World} {b n : Nat} {m} (h : MapN P K w b n m) {key : Value} {l : Lit} (hk : keyOf P K key = some l) (v : Value) :
    ∃ o, ∀ W : World, W.heap[b]? = w.heap[b]? → (Instr.mapUpdate t (.map (some b)) key v).run P W = .ok () (setBlk W b o) ∧ MapN P K (setBlk W b o) b (if (m key).isSome then n else n + 1) (upd m key v) := by
  obtain ⟨es, c, hb0, h, hsz⟩ := h
  rcases h.find L (w := w) hk with ⟨h1, h2, h3⟩ | ⟨j, en, h1, h2, h3, h4⟩
  · refine ⟨.map (es.push ⟨key, v, c⟩) (c + 1), fun W hW => ?_⟩
    have hb := hW.trans hb0
    have hlt : b < W.heap.size := (Array.getElem?_eq_some_iff.1 hb).1
    have h1 : (Instr.findKey K key es.toList).run P W = .ok none W := by
      rcases h.find L (w := W) hk with ⟨h1, _⟩ | ⟨j, en, _, g2, g3, _⟩
      · exact h1
      · exact absurd g3 (h3 en (List.mem_of_getElem? g2))
    refine ⟨?_, _, _, setBlk_same hlt _, by simpa using h.push hk h3, by rw [h2]; simp; exact hsz⟩
    simp [Instr.mapUpdate, run_underlying ht, MapKept.run_getObj_map hb, L.check W false hk, h1, MapKept.run_setObj_map _ hb, Result.andThen, setBlk]
  · have hj : j < es.size := by simpa using (List.getElem?_eq_some_iff.1 h2).1
    have hj2 : es[j] = en := by simpa using (List.getElem?_eq_some_iff.1 h2).2
    refine ⟨.map (es.modify j fun e => { e with key := key, val := v }) c, fun W hW => ?_⟩
    have hb := hW.trans hb0
    have hlt : b < W.heap.size := (Array.getElem?_eq_some_iff.1 hb).1
    have h1 : (Instr.findKey K key es.toList).run P W = .ok (some (j, en.val)) W := by
      rcases h.find L (w := W) hk with ⟨_, _, g3⟩ | ⟨j', en', g1, g2, g3, g4⟩
      · exact absurd h3 (g3 en (List.mem_of_getElem? h2))
      · have : j' = j := Ents.unique h.apart g2 h2 (g3.trans h3.symm)
        subst this
        rw [h2] at g2; cases g2
        exact g1
    refine ⟨?_, _, _, setBlk_same hlt _, ?_, by rw [h4]; simp; exact hsz⟩
    · have hes : es[j]? = some en := by simpa using h2
      have hst := L.stays W hk
      simp [Instr.mapUpdate, run_underlying ht, MapKept.run_getObj_map hb, L.check W false hk, h1, hes, h3, hst, MapKept.run_setObj_map _ hb, Result.andThen, setBlk]
    · have : (es.modify j fun e => { e with key := key, val := v }).toList = es.toList.set j { en with key := key, val := v } := by
        apply List.ext_getElem?
        intro i
        simp only [Array.getElem?_toList, Array.getElem?_modify, List.getElem?_set]
        by_cases hij : j = i
        · subst hij; simp [hj, hj2]
        · simp [hij]
      rw [this]
      exact h.set h2 h3
theorem Ents.erase {es : List MapEntry} {c : Nat} {m} (h : Ents P K es c m) {key : Value} {j : Nat} {e0 : MapEntry} (hj : es[j]? = some e0) (hk : e0.key = key) : Ents P K (es.eraseIdx j) c (del m key) := by
  have hsub := List.eraseIdx_sublist es j
  refine ⟨fun e he => h.keys e (hsub.subset he), h.apart.sublist hsub, fun e he => h.born e (hsub.subset he), h.stamps.sublist hsub, fun k u => ?_⟩
  unfold del
  by_cases hkk : k = key
  · subst hkk
    simp only [if_true]
    constructor
    · intro h; cases h
    · rintro ⟨e, he, h1, h2⟩
      obtain ⟨i, hne, hi⟩ := List.mem_eraseIdx_iff_getElem?.1 he
      exact absurd (Ents.unique h.apart hi hj (h1.trans hk.symm)) hne
  · simp only [if_neg hkk]
    rw [h.at_]
    constructor
    · rintro ⟨e, he, h1, h2⟩
      obtain ⟨i, hi⟩ := List.getElem?_of_mem he
      refine ⟨e, List.mem_eraseIdx_iff_getElem?.2 ⟨i, ?_, hi⟩, h1, h2⟩
      rintro rfl
      rw [hj] at hi; cases hi
      exact hkk (h1.symm.trans hk)
    · rintro ⟨e, he, h1, h2⟩
      exact ⟨e, hsub.subset he, h1, h2⟩
theorem Ents.same {es : List MapEntry} {c : Nat} {m} (h : Ents P K es c m) {key : Value} (hn : m key = none) : Ents P K es c (del m key) := by
  have : del m key = m := by
    funext k
    unfold del
    by_cases hk : k = key
    · subst hk; rw [if_pos rfl, hn]
    · rw [if_neg hk]
  rw [this]; exact h
/-- 'delete(m, k)': one object, in whatever world in which the block is as it is. -/
theorem MapN.drop (L : Maps.Keyed P K) {t e : TypeId} (ht : P.underlying t = some (.map K e)) {w : World} {b n : Nat} {m} (h : MapN P K w b n m) {key : Value} {l : Lit} (hk : keyOf P K key = some l) :
    ∃ o, ∀ W : World, W.heap[b]? = w.heap[b]? → (∀ ty, (Builtin.delete_ #[t, K] ty #[.map (some b), key]).run P W = .ok (.tuple #[]) (setBlk W b o)) ∧ MapN P K (setBlk W b o) b n (del m key) := by
  obtain ⟨es, c, hb0, h, hsz⟩ := h
  rcases h.find L (w := w) hk with ⟨h1, h2, h3⟩ | ⟨j, en, h1, h2, h3, h4⟩
  · refine ⟨.map es c, fun W hW => ?_⟩
    have hb := hW.trans hb0
    have hlt : b < W.heap.size := (Array.getElem?_eq_some_iff.1 hb).1
    have h1 : (Instr.findKey K key es.toList).run P W = .ok none W := by
      rcases h.find L (w := W) hk with ⟨h1, _⟩ | ⟨j, en, _, g2, g3, _⟩
      · exact h1
      · exact absurd g3 (h3 en (List.mem_of_getElem? g2))
    refine ⟨fun ty => ?_, _, _, setBlk_same hlt _, h.same h2, hsz⟩
    simp [Builtin.delete_, run_underlying ht, MapKept.run_getObj_map hb, L.check W _ hk, h1, MapKept.run_setObj_map _ hb, Result.andThen, setBlk]
  · have hj : j < es.size := by simpa using (List.getElem?_eq_some_iff.1 h2).1
    refine ⟨.map (es.eraseIdxIfInBounds j) c, fun W hW => ?_⟩
    have hb := hW.trans hb0
    have hlt : b < W.heap.size := (Array.getElem?_eq_some_iff.1 hb).1
    have h1 : (Instr.findKey K key es.toList).run P W = .ok (some (j, en.val)) W := by
      rcases h.find L (w := W) hk with ⟨_, _, g3⟩ | ⟨j', en', g1, g2, g3, g4⟩
      · exact absurd h3 (g3 en (List.mem_of_getElem? h2))
      · have : j' = j := Ents.unique h.apart g2 h2 (g3.trans h3.symm)
        subst this
        rw [h2] at g2; cases g2
        exact g1
    refine ⟨fun ty => ?_, _, _, setBlk_same hlt _, ?_, Nat.le_trans (MapFrom.size_erase es j) hsz⟩
    · simp [Builtin.delete_, run_underlying ht, MapKept.run_getObj_map hb, L.check W _ hk, h1, MapKept.run_setObj_map _ hb, Result.andThen, setBlk]
    · have : (es.eraseIdxIfInBounds j).toList = es.toList.eraseIdx j := by
        unfold Array.eraseIdxIfInBounds
        rw [dif_pos hj]
        simp
      rw [this]
      exact h.erase h2 h3
/-- How many entries a map has. -/
theorem MapN.len {t e : TypeId} (ht : P.underlying t = some (.map K e)) {w : World} {b n : Nat} {m} (h : MapN P K w b n m) :
    ∃ c : Nat, c ≤ n ∧ (c = 0 ↔ ∀ k, m k = none) ∧ ∀ (W : World) ty, W.heap[b]? = w.heap[b]? → (Builtin.len_ #[t] ty #[.map (some b)]).run P W = .ok (.int .i64 c) W := by
  obtain ⟨es, c, hb0, h, hsz⟩ := h
  refine ⟨es.size, hsz, ⟨fun h0 k => ?_, fun h0 => ?_⟩, fun W ty hW => ?_⟩
  · cases hm : m k with
    | none => rfl
    | some v =>
      obtain ⟨e, he, _⟩ := (h.at_ k v).1 hm
      have : 0 < es.toList.length := List.length_pos_of_mem he
      simp at this; omega
  · rcases Nat.eq_zero_or_pos es.size with hz | hz
    · exact hz
    · have := (h.at_ es[0].key es[0].val).2 ⟨es[0], by simp, rfl, rfl⟩
      rw [h0] at this; cases this
  · have hb := hW.trans hb0
    simp [Builtin.len_, run_underlying ht, MapKept.run_getObj_map hb, goInt, Result.andThen]
/-! ### range -/
/-- A range over the map of block b under way, its iterator in block r; left: the keys still to come. -/
def Rng (P : Program) (K : TypeId) (w : World) (b r : Nat) (m : Value → Option Value) (left : Value → Prop) (cnt : Nat) : Prop :=
  ∃ es clock since seen c0, w.heap[b]? = some (.map es clock) ∧ Ents P K es.toList clock m ∧ w.heap[r]? = some (.mapIter (some b) since seen c0) ∧ (∀ x ∈ es.toList, x.born < since) ∧ (leftOf es seen).size = cnt ∧
    (∀ x ∈ es.toList, left x.key ↔ seen.contains x.born = false) ∧ (∀ k, left k → ∃ x ∈ es.toList, x.key = k) ∧ since ≤ c0 ∧ since ≤ clock
theorem Rng.at {w : World} {b r : Nat} {m left cnt} (h : Rng P K w b r m left cnt) : MapAt P K w b m := by
  obtain ⟨es, c, _, _, _, hb, h, _⟩ := h; exact ⟨es, c, hb, h⟩
theorem Rng.ne {w : World} {b r : Nat} {m left cnt} (h : Rng P K w b r m left cnt) : r ≠ b := by
  obtain ⟨es, clock, since, seen, c0, hb, _, hr, _⟩ := h
  intro e
  rw [e, hb] at hr
  cases hr
theorem Rng.lt {w : World} {b r : Nat} {m left cnt} (h : Rng P K w b r m left cnt) : r < w.heap.size := by
  obtain ⟨es, clock, since, seen, c0, _, _, hr, _⟩ := h
  exact lt_of_blk hr
theorem Rng.fr {F : Nat → Prop} {w w' : World} {b r : Nat} {m left cnt} (h : Rng P K w b r m left cnt) (hf : Fr F w w') (hb' : ¬ F b) (hr' : ¬ F r) : Rng P K w' b r m left cnt := by
  obtain ⟨es, clock, since, seen, c0, hb, h2, hr, rest⟩ := h
  exact ⟨es, clock, since, seen, c0, hf.obj hb hb', h2, hf.obj hr hr', rest⟩
theorem MapAt.range {t e : TypeId} (ht : P.underlying t = some (.map K e)) {w : World} {b : Nat} {m} (h : MapAt P K w b m) :
    ∃ o cnt, (Instr.range t (.map (some b))).run P w = .ok (.pointer (some ⟨w.heap.size, 0, none⟩)) (w.alloc o) ∧ Rng P K (w.alloc o) b w.heap.size m (fun k => (m k).isSome = true) cnt := by
  have hlt := h.lt
  obtain ⟨es, clock, hb, h⟩ := h
  refine ⟨_, _, run_range_map w t K e b es clock ht hb, es, clock, clock, #[], clock, (blk_alloc hlt _).trans hb, h, blk_alloc_new _ _, h.born, rfl, fun x hx => ?_, fun k hk => ?_, Nat.le_refl _, Nat.le_refl _⟩
  · show (m x.key).isSome = true ↔ _
    rw [(h.at_ x.key x.val).2 ⟨x, hx, rfl, rfl⟩]; simp
  · obtain ⟨v, hv⟩ := Option.isSome_iff_exists.1 hk
    obtain ⟨x, hx, h1, _⟩ := (h.at_ k v).1 hv
    exact ⟨x, hx, h1⟩
theorem Rng.next {w : World} {b r : Nat} {m left cnt} (h : Rng P K w b r m left cnt) (ty : TypeId) :
    ((∀ k, ¬ left k) ∧ (Instr.next (.pointer (some ⟨r, 0, none⟩)) false ty).run P w = .ok (.tuple #[.bool false]) w) ∨
    ∃ key v w' cnt', left key ∧ m key = some v ∧ (∃ l, keyOf P K key = some l) ∧ (Instr.next (.pointer (some ⟨r, 0, none⟩)) false ty).run P w = .ok (.tuple #[.bool true, key, v]) w' ∧
      Rng P K w' b r m (fun x => left x ∧ x ≠ key) cnt' ∧ cnt' < cnt ∧ Fr (fun x => x = r) w w' ∧ (Instr.entry (.pointer (some ⟨r, 0, none⟩))).run P w' = .ok (.tuple #[key, v]) w' := by
  have hne := h.ne
  obtain ⟨es, clock, since, seen, c0, hb, F, hr, hold, rfl, hl1, hl2, hsc, hsk⟩ := h
  rcases run_next_at (P := P) w ty r b since c0 seen es clock hr hb hold hsc with ⟨h0, hrun⟩ | ⟨e, he, w1, hal, hrun⟩
  · refine Or.inl ⟨fun k hk => ?_, hrun⟩
    obtain ⟨x, hx, rfl⟩ := hl2 k hk
    have h1 := (hl1 x hx).1 hk
    rw [all_seen es seen h0 x hx] at h1
    cases h1
  · obtain ⟨hem, hes⟩ := mem_left he
    have hr1 : w1.heap[r]? = some (.mapIter (some b) since seen c0) := by rcases hal with rfl | rfl <;> exact hr
    have hb1 : w1.heap[b]? = some (.map es clock) := by rcases hal with rfl | rfl <;> exact hb
    have hset := MapKept.heap_set (o' := .mapIter (some b) since (seen.push e.born) clock) hr1
    have hb' : (ChangeMaps.setBlock w1 r (.mapIter (some b) since (seen.push e.born) clock)).heap[b]? = some (.map es clock) := (hset.2 b (fun e1 => hne e1.symm)).trans hb1
    refine Or.inr ⟨e.key, e.val, _, _, (hl1 e hem).2 hes, (F.at_ _ _).2 ⟨e, hem, rfl, rfl⟩, F.keys e hem, hrun,
      ⟨es, clock, since, seen.push e.born, clock, hb', F, hset.1, hold, rfl, fun x hx => ?_, fun k hk => hl2 k hk.1, hsk, hsk⟩, left_shrinks es seen e he, ?_,
      run_entry_at _ r b since seen es clock e hset.1 hb' hem ?_⟩
    · show (left x.key ∧ x.key ≠ e.key) ↔ _
      rw [hl1 x hx, contains_push]
      obtain ⟨i, hi⟩ := List.getElem?_of_mem hx
      obtain ⟨j, hj⟩ := List.getElem?_of_mem hem
      have hiff : x.key = e.key ↔ x.born = e.born := by
        constructor
        · intro hk
          have := Ents.unique F.apart hi hj hk
          subst this
          rw [hi] at hj; cases hj; rfl
        · intro hbn
          have := find_stamp F.stamps hi
          have h2 := find_stamp F.stamps hj
          rw [hbn] at this
          rw [this] at h2
          cases h2
          rw [hi] at hj; cases hj; rfl
      rw [ne_eq, hiff]
      by_cases hb2 : x.born = e.born <;> simp [hb2]
    · rcases hal with rfl | rfl <;> exact ⟨rfl, rfl, rfl, by simp [ChangeMaps.setBlock], fun i _ hi => hset.2 i hi⟩
    · rw [List.Nodup, List.pairwise_map]; exact F.stamps
end maps2
end Go.Pl
/- What printed walks use, over whatever program: steps, rows of one's own. -/
set_option linter.unusedVariables false
set_option linter.unusedSimpArgs false
namespace Go.Pl
open Go.RowKit
variable {ds : List Deferred}
theorem wp_start1 {P : Program} {f : FuncId} {fn : Func} {c : Code} {R : Ending → World → Prop} {n : Nat} {w : World} {v0 : Value} (hf : P.funcs[f]? = some fn) (hb : fn.body = some c) (hn : fn.ntmps = n) (h2 : 1 ≤ n) (k : ∀ a, Env n [(0, v0)] a → c.wp P (bodyPost P fn R) a w) : Calls P f #[v0] w R := by
  refine calls_of_wp hf hb (k _ ⟨?_, ?_, rfl⟩)
  · simp [hn]; omega
  · intro x hx
    simp only [List.mem_cons, List.not_mem_nil, or_false] at hx
    subst hx
    show (#[v0] ++ Array.replicate (fn.ntmps - 1) undef).getD 0 undef = v0
    rw [Array.getD_eq_getD_getElem?, Array.getElem?_append_left (by simp)]; rfl
theorem wp_start3 {P : Program} {f : FuncId} {fn : Func} {c : Code} {R : Ending → World → Prop} {n : Nat} {w : World} {v0 v1 v2 : Value} (hf : P.funcs[f]? = some fn) (hb : fn.body = some c) (hn : fn.ntmps = n) (h2 : 3 ≤ n) (k : ∀ a, Env n [(0, v0), (1, v1), (2, v2)] a → c.wp P (bodyPost P fn R) a w) : Calls P f #[v0, v1, v2] w R := by
  refine calls_of_wp hf hb (k _ ⟨?_, ?_, rfl⟩)
  · simp [hn]; omega
  · intro x hx
    simp only [List.mem_cons, List.not_mem_nil, or_false] at hx
    rcases hx with rfl | rfl | rfl
    · show (#[v0, v1, v2] ++ Array.replicate (fn.ntmps - 3) undef).getD 0 undef = v0
      rw [Array.getD_eq_getD_getElem?, Array.getElem?_append_left (by simp)]; rfl
    · show (#[v0, v1, v2] ++ Array.replicate (fn.ntmps - 3) undef).getD 1 undef = v1
      rw [Array.getD_eq_getD_getElem?, Array.getElem?_append_left (by simp)]; rfl
    · show (#[v0, v1, v2] ++ Array.replicate (fn.ntmps - 3) undef).getD 2 undef = v2
      rw [Array.getD_eq_getD_getElem?, Array.getElem?_append_left (by simp)]; rfl
section
variable {P : Program} {o : Oper} {w : World} {ρ : Operand → Value} {x y : Operand} {m n : Int} {t t2 : TypeId} {k : IntKind}
end
section
variable {P : Program} {o : Oper} {w : World} {ρ : Operand → Value}
end
section
variable {P : Program} {O : Array Oper} {o : Oper} {a : Act} {w : World} {n d g s : Nat} {b : Bool} {L : List (Nat × Value)} {v : Value} {ρ : Operand → Value}
theorem EnvD.add (E : EnvD ds n L a) (h : a.eval (.tmp s) = v) : EnvD ds n ((s, v) :: L) a := ⟨E.size, fun x hx => by
  rcases List.mem_cons.1 hx with rfl | hx
  · exact h
  · exact E.at_ x hx, E.df⟩
theorem w_no (E : EnvD ds n L a) (hgd : o.guard = some (g, b)) (hg : (O[g]?).bind (·.dst) = some s) (hs : s < n) (hv : a.eval (.tmp s) = .bool (!b)) : Region.wanted o (yielded O a.tmps) = false := by
  rw [wanted_some hgd, yield_eq hg (by rw [E.size]; exact hs), hv]; cases b <;> rfl
theorem w_nou (E : EnvD ds n L a) (hgd : o.guard = some (g, b)) (hg : (O[g]?).bind (·.dst) = some s) (hs : s < n) (hv : a.eval (.tmp s) = undef) : Region.wanted o (yielded O a.tmps) = false := by
  rw [wanted_some hgd, yield_eq hg (by rw [E.size]; exact hs), hv]; cases b <;> rfl
end
theorem flat_len {α : Type} {f : α → List Value} {c : Nat} (hf : ∀ x, (f x).length = c) (l : List α) : (l.flatMap f).length = l.length * c := by
  induction l with
  | nil => simp
  | cons y l ih => rw [List.flatMap_cons, List.length_append, ih, hf, List.length_cons, Nat.succ_mul, Nat.add_comm]
theorem flat_at {α : Type} {f : α → List Value} {c : Nat} (hf : ∀ x, (f x).length = c) (l : List α) : ∀ (i : Nat) (x : α), l[i]? = some x → ∀ j, j < c → (l.flatMap f)[i * c + j]? = (f x)[j]? := by
  induction l with
  | nil => intro i x h; simp at h
  | cons y l ih =>
    intro i x h j hj
    rw [List.flatMap_cons]
    cases i with
    | zero => simp at h; subst h; rw [Nat.zero_mul, Nat.zero_add, List.getElem?_append_left (by rw [hf]; exact hj)]
    | succ i =>
      simp at h
      rw [List.getElem?_append_right (by rw [hf, Nat.succ_mul]; omega), hf, show (i + 1) * c + j - c = i * c + j by rw [Nat.succ_mul]; omega]
      exact ih i x h j hj
theorem flat_take {α : Type} {f : α → List Value} {c : Nat} (hf : ∀ x, (f x).length = c) (l : List α) : ∀ i : Nat, (l.flatMap f).take (i * c) = (l.take i).flatMap f := by
  induction l with
  | nil => simp
  | cons y l ih =>
    intro i
    cases i with
    | zero => simp
    | succ i =>
      rw [List.flatMap_cons, List.take_append, hf, show (i + 1) * c - c = i * c by rw [Nat.succ_mul]; omega, ih, List.take_of_length_le (by rw [hf, Nat.succ_mul]; omega), List.take_succ_cons, List.flatMap_cons]
section
variable {P : Program} {o : Oper} {w : World} {ρ : Operand → Value} {x y : Operand} {t : TypeId} {m n : Int}
theorem run_iadd (ht : P.underlying t = some (.int .i64)) (hx : ρ x = .int .i64 m) (hy : ρ y = .int .i64 n) (h1 : -9223372036854775808 ≤ m + n) (h2 : m + n ≤ 9223372036854775807) (ho : o.op = .binOp .add t x y t) : (execOp ρ o).run P w = .ok (.value (.int .i64 (m + n))) w := by
  simp [execOp, ho, hx, hy, go_sem, ht, IntWalk.i64_in _ ⟨h1, h2⟩]
theorem run_isub (ht : P.underlying t = some (.int .i64)) (hx : ρ x = .int .i64 m) (hy : ρ y = .int .i64 n) (h1 : -9223372036854775808 ≤ m - n) (h2 : m - n ≤ 9223372036854775807) (ho : o.op = .binOp .sub t x y t) : (execOp ρ o).run P w = .ok (.value (.int .i64 (m - n))) w := by
  simp [execOp, ho, hx, hy, go_sem, ht, IntWalk.i64_in _ ⟨h1, h2⟩]
theorem run_imul (ht : P.underlying t = some (.int .i64)) (hx : ρ x = .int .i64 m) (hy : ρ y = .int .i64 n) (h1 : -9223372036854775808 ≤ m * n) (h2 : m * n ≤ 9223372036854775807) (ho : o.op = .binOp .mul t x y t) : (execOp ρ o).run P w = .ok (.value (.int .i64 (m * n))) w := by
  simp [execOp, ho, hx, hy, go_sem, ht, IntWalk.i64_in _ ⟨h1, h2⟩]
theorem beq_str (a b : ByteArray) : (a.toList == b.toList) = decide (a = b) := by
  rw [Bool.eq_iff_iff, beq_iff_eq, decide_eq_true_eq]
  refine ⟨fun h => ?_, fun h => by rw [h]⟩
  rw [ByteArray.toList_eq, ByteArray.toList_eq] at h
  exact ByteArray.ext (Array.toList_inj.1 h)
theorem run_seql {s u : ByteArray} (hx : ρ x = .string s) (hy : ρ y = .string u) (ho : o.op = .binOp .eql t x y t) : (execOp ρ o).run P w = .ok (.value (.bool (decide (s = u)))) w := by
  have e := beq_str s u
  simp [execOp, ho, hx, hy, go_sem, e]
theorem run_sneq {s u : ByteArray} (hx : ρ x = .string s) (hy : ρ y = .string u) (ho : o.op = .binOp .neq t x y t) : (execOp ρ o).run P w = .ok (.value (.bool (!decide (s = u)))) w := by
  have e := beq_str s u
  simp [execOp, ho, hx, hy, go_sem, e]
theorem run_nilchk {a : Addr} (ho : o.op = .nilCheck x) (hx : ρ x = .pointer (some a)) : (execOp ρ o).run P w = .ok (.value (.pointer (some a))) w := by
  simp [execOp, ho, hx, go_sem]
theorem bx {w : World} {b : Nat} {cs : Array Value} {T : TypeId} (h : w.heap[b]? = some (.cells cs T (0, 0))) (k : Nat) {v : Value} (hv : cs[k]? = some v) : w.cell? ⟨b, k, none⟩ = some v := by rw [cell_of_blk h]; exact hv
end
section
variable {α : Type} (f : α → List Value) (c : Nat)
/-- v is a row of one's own, in a block from B on, that holds L. -/
def ow (E : TypeId) (w : World) (B : Nat) (v : Value) (L : List α) : Prop := w.ownsRow B E c v L.length (L.flatMap f)
/-- The slice at p holds L, in a block below G. -/
def srcAt (w : World) (G : Nat) (p : Option Addr) (L : List α) : Prop := L = [] ∨ ∃ g off, p = some ⟨g, off, none⟩ ∧ g < G ∧ ∀ i x, L[i]? = some x → w.rangeAt g (off + i * c) (f x)
variable {f c}
theorem srcAt.fr {w w' : World} {G : Nat} {p : Option Addr} {L : List α} (h : srcAt f c w G p L) {F : Nat → Prop} (hf : Fr F w w') (hF : ∀ r, r < G → ¬ F r) : srcAt f c w' G p L := by
  rcases h with h | ⟨g, off, h1, h2, h3⟩
  · exact .inl h
  · exact .inr ⟨g, off, h1, h2, fun i x hx j u hu => hf.cell (h3 i x hx j u hu) (hF g h2)⟩
theorem srcAt.mono {w : World} {G G' : Nat} {p : Option Addr} {L : List α} (h : srcAt f c w G p L) (hG : G ≤ G') : srcAt f c w G' p L := by
  rcases h with h | ⟨g, off, h1, h2, h3⟩
  · exact .inl h
  · exact .inr ⟨g, off, h1, Nat.lt_of_lt_of_le h2 hG, h3⟩
theorem srcAt.at {w : World} {G : Nat} {p : Option Addr} {L : List α} (h : srcAt f c w G p L) {i : Nat} (hi : i < L.length) : ∃ g off, p = some ⟨g, off, none⟩ ∧ g < G ∧ ∀ i x, L[i]? = some x → w.rangeAt g (off + i * c) (f x) := h.resolve_left (by rintro rfl; exact absurd hi (Nat.not_lt_zero _))
theorem srcAt.take {w : World} {G : Nat} {p : Option Addr} {L : List α} (h : srcAt f c w G p L) (n : Nat) : srcAt f c w G p (L.take n) := by
  rcases h with h | ⟨g, off, h1, h2, h3⟩
  · exact .inl (by rw [h]; simp)
  · refine .inr ⟨g, off, h1, h2, fun i x hx => h3 i x ?_⟩
    rw [List.getElem?_take] at hx
    split at hx
    · exact hx
    · cases hx
theorem ow.lt {E : TypeId} {w : World} {B : Nat} {v : Value} {L : List α} (h : ow f c E w B v L) {k : Nat} (hk : v.ownBlock = some k) : B ≤ k ∧ k < w.heap.size := by
  rcases h.2 with ⟨rfl, _⟩ | ⟨g, cap, cur, rfl, h1, h2, _⟩
  · cases hk
  · cases hk; exact ⟨h1, lt_of_blk h2⟩
theorem ow.fr {E : TypeId} {w w' : World} {B : Nat} {v : Value} {L : List α} (h : ow f c E w B v L) {F : Nat → Prop} (hf : Fr F w w') (hn : ∀ k, v.ownBlock = some k → ¬ F k) : ow f c E w' B v L := by
  refine ⟨h.1, ?_⟩
  rcases h.2 with h1 | ⟨g, cap, cur, h1, h2, h3, h4⟩
  · exact .inl h1
  · exact .inr ⟨g, cap, cur, h1, h2, hf.obj h3 (hn g (by rw [h1]; rfl)), h4⟩
theorem ow.base {E : TypeId} {w : World} {B C : Nat} {v : Value} {L : List α} (h : ow f c E w B v L) (hC : C ≤ B) : ow f c E w C v L := by
  refine ⟨h.1, ?_⟩
  rcases h.2 with h1 | ⟨g, cap, cur, h1, h2, h3⟩
  · exact .inl h1
  · exact .inr ⟨g, cap, cur, h1, Nat.le_trans hC h2, h3⟩
theorem ow.src {E : TypeId} (hf : ∀ x, (f x).length = c) {w : World} {B : Nat} {v : Value} {L : List α} (h : ow f c E w B v L) : ∃ p cap, v = .slice p L.length cap ∧ L.length ≤ cap ∧ cap ≤ 9223372036854775807 ∧ srcAt f c w w.heap.size p L ∧ (p = none → cap = 0) := by
  have h0 := h
  rcases h.2 with ⟨h1, h2⟩ | ⟨g, cap, cur, h1, hB, h3, h4, h5, h6, h7⟩
  · have hl : L = [] := List.eq_nil_of_length_eq_zero h2
    subst hl
    exact ⟨none, 0, h1, Nat.le_refl _, by omega, .inl rfl, fun _ => rfl⟩
  · refine ⟨_, cap, h1, h4, by unfold maxLen at h5; omega, .inr ⟨g, 0, rfl, lt_of_blk h3, fun i x hx j u hu => ?_⟩, fun h => by cases h⟩
    have hi := (List.getElem?_eq_some_iff.1 hx).1
    have hj : j < c := by rw [← hf x]; exact (List.getElem?_eq_some_iff.1 hu).1
    have := flat_at hf L i x hx j hj
    have hlt : i * c + j < L.length * c := by
      have := Nat.mul_le_mul_right c (Nat.succ_le_of_lt hi)
      rw [Nat.succ_mul] at this; omega
    rw [hu, ← h7, List.getElem?_take_of_lt hlt, Array.getElem?_toList] at this
    rw [cell_of_blk h3, Nat.zero_add]; exact this
theorem ow_nil {E : TypeId} (w : World) {B : Nat} : ow f c E w B (.slice none 0 0) ([] : List α) := World.ownsRow_nil _ _ _ _
theorem src_one {w : World} {b G : Nat} {x : α} {T : TypeId} (hb : w.heap[b]? = some (.cells (f x).toArray T (0, 0))) (hG : b < G) : srcAt f c w G (some ⟨b, 0, none⟩) [x] := .inr ⟨b, 0, rfl, hG, fun i y hy j u hu => by
  match i, hy with
  | 0, hy =>
    simp at hy; subst hy
    rw [cell_of_blk hb]; simpa using hu
  | i + 1, hy => simp at hy⟩
end
section
variable {P : Program} {O : Array Oper} {Q : Exit → Act → World → Prop} {rest : List Oper} {o : Oper} {a : Act} {w : World} {n d : Nat} {L : List (Nat × Value)} {x y : Operand} {b : Nat}
end
theorem ret_nil {P : Program} {fn : Func} {R : Ending → World → Prop} {n : Nat} {L : List (Nat × Value)} {a : Act} {w : World} (hr : fn.results = #[]) (E : Env n L a) (h : R (.returned (.tuple #[])) w) : bodyPost P fn R .normal a w ∧ bodyPost P fn R .ret a w := by
  have : bodyPost P fn R .ret a w := by
    refine ⟨E.df, .tuple #[], ?_, h⟩
    unfold results
    rw [hr]
    simp
  exact ⟨this, this⟩
abbrev i_ := @run_nilchk
end Go.Pl
/- A walk within a round of a range over a function: the laws over an abstract act go there as9 they are. -/
set_option linter.unusedVariables false
set_option linter.unusedSimpArgs false
namespace Go.Pl
open Go.RowKit
variable {ds : List Deferred} {P : Program} {ops : Array Oper} {Q : Exit → Act → World → Prop} {a : Act} {w : World} {r n : Nat}
/-- A call of the round l: it goes on, or hands back false. -/
def RoundOf (P : Program) (l : Nat) (args : Array Value) (W : World) (R S : World → Prop) : Prop :=
 ∃ m, YieldAt Fence.wide m P l args W fun e W' => (e = .returned (.bool true) ∧ R W') ∨ (e = .returned (.bool false) ∧ S W')
end Go.Pl
set_option linter.unusedVariables false
set_option linter.unusedSimpArgs false
namespace Go.Pl
open Go.RowKit
variable {P : Program} {Q : Exit → Act → World → Prop} {a : Act} {w : World}
theorem Fr.putObj (W : World) (l : Nat) (o : Obj) : Fr (fun b => b = l) W (W.putObj l o) :=
 ⟨rfl, rfl, rfl, by simp, fun r _ hr => World.putObj_heap_other hr⟩
/-- What a round leaves: it goes on, or it returns. -/
def rndP (R S : World → Prop) : Exit → Act → World → Prop
 | .normal, _, W => R W
 | .ret, _, W => S W
 | _, _, _ => False
/-! A list of operations under the wide fence (an iterator's own body, where it calls yield). -/
section
variable {O : Array Oper} {rest : List Oper} {o : Oper} {n d m : Nat} {L : List (Nat × Value)} {v : Value} {w' : World} {ds : List Deferred}
theorem run_yieldc {ρ : Operand → Value} {l fn : Nat} {x y : Operand} {ts : Array TypeId} {v : Value} {tmps : Array Value} {as9 bd : Code} (ho : o.op = .call ⟨.value y, #[x], ts⟩) (hy : ρ y = .func (.yield l) #[] #[]) (hx : ρ x = v) (hrun : (Instr.yield l #[v]).run P w = .ok (.round l fn tmps as9 bd) w) : (execOp ρ o).run P w = .ok (.round l fn tmps as9 bd) w := by
 simp [execOp, ho, hy, hx, resolve, Deferred.ofValue, invoke, go_sem, hrun]
end
end Go.Pl
namespace Go.Pl
open Go.RowKit
variable {P : Program} {w w' : World} {ds : List Deferred}
abbrev mkD (D : Nat) : Deferred := { target := .collected D, args := #[] }
def isMark (ds : List Deferred) (k : Nat) : Prop := mkD k ∈ ds
/-- The marks' blocks: each once, each without a call. -/
def MarksOk (w : World) (ds : List Deferred) : Prop := ds.Nodup ∧ ∀ d ∈ ds, ∃ D, d = mkD D ∧ w.heap[D]? = some (.deferred (some []))
theorem MarksOk.nil (w : World) : MarksOk w [] := ⟨List.nodup_nil, fun _ h => by cases h⟩
theorem mkD_inj {a b : Nat} (h : mkD a = mkD b) : a = b := by
 simp only [mkD, Deferred.mk.injEq, Target.collected.injEq] at h; exact h.1
theorem MarksOk.at (h : MarksOk w ds) {k : Nat} (hk : isMark ds k) : w.heap[k]? = some (.deferred (some [])) := by
 obtain ⟨D, h1, h2⟩ := h.2 _ hk
 rw [mkD_inj h1]; exact h2
theorem MarksOk.fr {F : Nat → Prop} (h : MarksOk w ds) (hf : Fr F w w') (hF : ∀ k, isMark ds k → ¬ F k) : MarksOk w' ds :=
 ⟨h.1, fun d hd => by
  obtain ⟨D, h1, h2⟩ := h.2 d hd
  exact ⟨D, h1, hf.obj h2 (hF D (by unfold isMark; rw [← h1]; exact hd))⟩⟩
theorem MarksOk.cons (h : MarksOk w ds) {D : Nat} (hD : w.heap[D]? = some (.deferred (some []))) (hn : ¬ isMark ds D) : MarksOk w (mkD D :: ds) :=
 ⟨List.nodup_cons.2 ⟨hn, h.1⟩, fun d hd => by
  rcases List.mem_cons.1 hd with rfl | hd
  ·exact ⟨D, rfl, hD⟩
  ·exact h.2 d hd⟩
theorem isMark_cons {D k : Nat} : isMark (mkD D :: ds) k ↔ k = D ∨ isMark ds k := by
 unfold isMark
 rw [List.mem_cons]
 constructor
 ·rintro (h | h)
  ·exact .inl (mkD_inj h)
  ·exact .inr h
 ·rintro (rfl | h)
  ·exact .inl rfl
  ·exact .inr h
theorem leavesM {fn : Func} {tmps : Array Value} {R : Ending → World → Prop} : ∀ (ds : List Deferred) (w : World), MarksOk w ds →
  (∀ w', Fr (isMark ds) w w' → ∃ v, (results fn tmps).run P w' = .ok v w' ∧ R (.returned v) w') → LeavesInM Fence.wide 0 P fn tmps R ds .returning w := by
 intro ds
 induction ds with
 | nil => intro w _ h; exact h w (Fr.refl _ _)
 | cons d ds ih =>
  intro w hm h
  obtain ⟨D, rfl, hD⟩ := hm.2 d (by simp)
  refine ⟨by simp, .inl ⟨D, _, rfl, run_takeDeferred hD, ih _ ⟨(List.nodup_cons.1 hm.1).2, fun e he => ?_⟩ fun w' hf => h w' ?_⟩⟩
  ·obtain ⟨D2, rfl, h2⟩ := hm.2 e (by simp [he])
   refine ⟨D2, rfl, (World.putObj_heap_other ?_).trans h2⟩
   rintro rfl
   exact (List.nodup_cons.1 hm.1).1 he
  ·exact ((Fr.putObj w D (.deferred none)).mono (fun k _ hk => isMark_cons.2 (.inl hk))).trans' hf (fun k _ hk => isMark_cons.2 (.inr hk))
end Go.Pl
/- Walks in a whole function and in a round of an iterator alike. Over whatever program. -/
set_option linter.unusedVariables false
set_option linter.unusedSimpArgs false
namespace Go.Pl
open Go.RowKit
/-- A whole function (none), or a round. -/
abbrev fen (rd : Option Nat) : Fence := { Fence.wide with round := rd }
section
variable {P : Program} {O : Array Oper} {Q : Exit → Act → World → Prop} {rest : List Oper} {o : Oper} {a : Act} {w w' : World} {rd : Option Nat} {m : Nat}
theorem calls_fen {f : FuncId} {args : Array Value} {R : Ending → World → Prop} (h : Calls P f args w R) : CallsIn (fen rd) m P f args w R := callsIn_wide.2 h
theorem defer_run {ρ : Operand → Value} {x : Next} (hr : (execOp ρ o).run P w = .ok x w') (hx : ∀ d, x ≠ .defer d) : ∀ c, o.op ≠ .defer c := by
 intro c hc
 unfold execOp at hr
 rw [hc] at hr
 simp only [Sem.run_bind] at hr
 cases hres : (resolve ρ c o.type).run P w with
 | ok d w1 =>
  rw [hres] at hr
  simp only [Result.andThen_ok, Sem.run_pure] at hr
  cases hr
  exact hx d rfl
 | halt s w1 => rw [hres] at hr; cases hr
theorem sem_fen {ρ : Operand → Value} {x : Next} (hr : (execOp ρ o).run P w = .ok x w') (hx : ∀ d, x ≠ .defer d) : (o.semAt rd ρ).run P w = .ok x w' := by
 rw [Oper.semAt_eq _ _ _ (defer_run hr hx)]; exact hr
theorem wf_val {v : Value} {K : Act → World → Prop} (hr : (execOp a.eval o).run P w = .ok (.value v) w') (h : K (a.put o.dst v) w') : o.wpIn (fen rd) 0 P a w K Q := by
 refine ⟨fun _ _ => trivial, ?_⟩
 show Oper.uponIn _ _ _ _ _ _ _ ((o.semAt rd a.eval).run P w)
 rw [sem_fen hr (by intro d h; cases h)]
 exact h
theorem wf_skip {K : Act → World → Prop} (hr : (execOp a.eval o).run P w = .ok .skip w') (hd : o.dst = none) (h : K a w') : o.wpIn (fen rd) 0 P a w K Q := by
 refine ⟨fun _ _ => trivial, ?_⟩
 show Oper.uponIn _ _ _ _ _ _ _ ((o.semAt rd a.eval).run P w)
 rw [sem_fen hr (by intro d h; cases h), Oper.uponIn_skip, hd]
 exact h
/-- A call that returns, or panics. -/
theorem wf_calp {f : FuncId} {args : Array Value} {R : Value → World → Prop} {Rp : List PanicEntry → World → Prop} {K : Act → World → Prop} (hr : (execOp a.eval o).run P w = .ok (.enter f args) w) (hc : Calls P f args w fun e w' => (∃ v, e = .returned v ∧ R v w') ∨ ∃ ch, e = .panicked ch ∧ Rp ch w') (h : ∀ v w', R v w' → K (a.put o.dst v) w') (hp : ∀ ch w', Rp ch w' → Q (.panic ch) a w') : o.wpIn (fen rd) 0 P a w K Q := by
 refine ⟨fun _ _ => trivial, ?_⟩
 show Oper.uponIn _ _ _ _ _ _ _ ((o.semAt rd a.eval).run P w)
 rw [sem_fen hr (by intro d h; cases h), Oper.uponIn_enter]
 refine ⟨fun h => (by cases h), calls_fen (hc.mono ?_)⟩
 rintro e w' (⟨v, rfl, hR⟩ | ⟨ch, rfl, hR⟩)
 ·exact h v w' hR
 ·exact hp ch w' hR
theorem wf_call {f : FuncId} {args : Array Value} {R : Value → World → Prop} {K : Act → World → Prop} (hr : (execOp a.eval o).run P w = .ok (.enter f args) w) (hc : Calls P f args w fun e w' => ∃ v, e = .returned v ∧ R v w') (h : ∀ v w', R v w' → K (a.put o.dst v) w') : o.wpIn (fen rd) 0 P a w K Q :=
 wf_calp (Rp := fun _ _ => False) hr (hc.mono fun e w' h => .inl h) h fun _ _ h => h.elim
theorem wf_panic {v : Value} {K : Act → World → Prop} (hd : ∀ c, o.op ≠ .defer c) (hr : (execOp a.eval o).run P w = .halt (.panic v) w') (h : Q (.panic [{ v := v, recovered := false }]) a w') : o.wpIn (fen rd) 0 P a w K Q := by
 refine ⟨fun _ _ => trivial, ?_⟩
 rw [Oper.semAt_eq _ _ _ hd, hr]
 exact h
theorem sf_op (hw : Region.wanted o (yielded O a.tmps) = true) (h : o.wpIn (fen rd) 0 P a w (wpListIn (fen rd) 0 P O Q rest) Q) : wpListIn (fen rd) 0 P O Q (o :: rest) a w := by
 simp only [wpListIn, hw, if_true]; exact h
theorem sf_val {v : Value} (hw : Region.wanted o (yielded O a.tmps) = true) (hr : (execOp a.eval o).run P w = .ok (.value v) w') (h : wpListIn (fen rd) 0 P O Q rest (a.put o.dst v) w') : wpListIn (fen rd) 0 P O Q (o :: rest) a w := sf_op hw (wf_val hr h)
theorem sf_skip (hw : Region.wanted o (yielded O a.tmps) = true) (hr : (execOp a.eval o).run P w = .ok .skip w') (hd : o.dst = none) (h : wpListIn (fen rd) 0 P O Q rest a w') : wpListIn (fen rd) 0 P O Q (o :: rest) a w := sf_op hw (wf_skip hr hd h)
theorem sf_call {f : FuncId} {args : Array Value} {R : Value → World → Prop} (hw : Region.wanted o (yielded O a.tmps) = true) (hr : (execOp a.eval o).run P w = .ok (.enter f args) w) (hc : Calls P f args w fun e w' => ∃ v, e = .returned v ∧ R v w') (h : ∀ v w', R v w' → wpListIn (fen rd) 0 P O Q rest (a.put o.dst v) w') : wpListIn (fen rd) 0 P O Q (o :: rest) a w := sf_op hw (wf_call hr hc h)
theorem sf_no (hw : Region.wanted o (yielded O a.tmps) = false) (h : wpListIn (fen rd) 0 P O Q rest (a.put o.dst undef) w) : wpListIn (fen rd) 0 P O Q (o :: rest) a w := by
 simp only [wpListIn, hw]
 exact ⟨fun _ _ => trivial, h⟩
theorem wf_val1 {d : Nat} {v : Value} {M : World → Prop} (hr : (execOp a.eval o).run P w = .ok (.value v) w) (hd : o.dst = some d) (hM : M w) : o.wpIn (fen rd) 0 P a w (fun a' w' => a' = putT a (some (d, v)) ∧ M w') Q := wf_val hr ⟨by rw [hd]; rfl, hM⟩
theorem wf_call1 {f : FuncId} {args : Array Value} {d : Nat} {v : Value} {M F : World → Prop} (hr : (execOp a.eval o).run P w = .ok (.enter f args) w) (hc : Calls P f args w fun e w' => e = .returned v ∧ F w') (hd : o.dst = some d) (hM : ∀ w', F w' → M w') : o.wpIn (fen rd) 0 P a w (fun a' w' => a' = putT a (some (d, v)) ∧ M w') Q :=
 wf_call (R := fun u w' => u = v ∧ F w') hr (hc.mono fun e w' h => ⟨v, h.1, rfl, h.2⟩) fun u w' ⟨hu, hF⟩ => ⟨by rw [hd, hu]; rfl, hM w' hF⟩
/-- The head of a loop that has begun. -/
def again (rd : Option Nat) (P : Program) (c : Code) (Q : Exit → Act → World → Prop) (a : Act) (w : World) : Prop :=
 ∀ (b : Frame) (k : List Item) (cs : List Frame), b.roundOf = rd → ∃ e a' w', Q e a' w' ∧ ArrivesIn (Machine.fenced P (fen rd)) P (lone (b.atR a (.code c :: .inLoop c :: k)) cs w) b k cs e a' w'
theorem room_fen (rd : Option Nat) (k : Nat) : (fen rd).room k := fun d h => by cases h
theorem wp_again {c : Code} (h : again rd P c Q a w) : (Code.loop c).wpIn (fen rd) 0 P Q a w := fun b k cs hro hb hr =>
 let ⟨e, a', w', q, r⟩ := h b k cs hro
 ⟨e, a', w', q, .of_steps (.one (fenced_calm hb hr rfl) stepR_loop) r⟩
theorem again_of {c : Code} (h : c.wpIn (fen rd) 0 P (Exit.then (again rd P c Q) Q) a w) : again rd P c Q a w := by
 intro b k cs hro
 obtain ⟨e, a₁, w₁, hq, harr⟩ := h b (.inLoop c :: k) cs hro trivial (room_fen _ _)
 cases e with
 | normal =>
  obtain ⟨e₂, a₂, w₂, hq₂, harr₂⟩ := hq b k cs hro
  exact ⟨e₂, a₂, w₂, hq₂, .of_steps (StepsIn.trans harr (.one (fenced_calm (F := fen rd) (n := 0) trivial (room_fen _ _) rfl) stepR_inLoop)) harr₂⟩
 | exit id => exact ⟨_, a₁, w₁, hq, .pass (x := .inLoop c) rfl (fun _ _ => .inl (by simp)) harr⟩
 | goto l => exact ⟨_, a₁, w₁, hq, .pass (x := .inLoop c) rfl (fun _ _ => .inl (by simp)) harr⟩
 | ret => exact ⟨_, a₁, w₁, hq, .pass (x := .inLoop c) rfl (fun _ _ => .inl (by simp)) harr⟩
 | panic ch => exact ⟨_, a₁, w₁, hq, .pass (x := .inLoop c) rfl (fun _ _ => .inl (by simp)) harr⟩
 | outgrown => exact ⟨_, a₁, w₁, hq, .pass (x := .inLoop c) rfl (fun _ _ => .inl (by simp)) harr⟩
/-- A scope that no jump leaves or enters again. -/
theorem wp_scope {c : Code} (h : c.wpIn (fen rd) 0 P (Exit.noGoto Q) a w) : (Code.scope c).wpIn (fen rd) 0 P Q a w := by
 intro b k cs hro hb hr
 obtain ⟨e, a₁, w₁, hq, harr⟩ := h b (.inScope c :: k) cs hro hb hr
 have h0 : step P (lone (b.atR a (.code (.scope c) :: k)) cs w) = .next (lone (b.atR a (.code c :: .inScope c :: k)) cs w) := step_lone_go (by simp [stepG, stepG.exec, Frame.atR])
 have h1 : ∀ a w, step P (lone (b.atR a (.inScope c :: k)) cs w) = .next (lone (b.atR a k) cs w) := fun a w => step_lone_go (by simp [stepG, stepG.exec, Frame.atR])
 have f0 : (lone (b.atR a (.code (.scope c) :: k)) cs w).fenced P (fen rd) := fenced_calm hb hr rfl
 cases e with
 | normal => exact ⟨.normal, a₁, w₁, hq, .head f0 h0 (StepsIn.trans harr (.one (fenced_calm (F := fen rd) (n := 0) trivial (room_fen _ _) rfl) (h1 _ _)))⟩
 | exit id => exact ⟨.exit id, a₁, w₁, hq, fun k' hk => .head f0 h0 (harr.1 k' (by simp [exitTo, hk])), fun hr' hk => let ⟨k₁, g1, g2⟩ := harr.2 hr' (by simp [exitTo, hk]); ⟨k₁, g1, .head f0 h0 g2⟩⟩
 | goto l => exact hq.elim
 | ret => exact ⟨_, a₁, w₁, hq, .of_steps (.one f0 h0) harr⟩
 | panic ch => exact ⟨_, a₁, w₁, hq, .of_steps (.one f0 h0) harr⟩
 | outgrown => exact ⟨_, a₁, w₁, hq, .of_steps (.one f0 h0) harr⟩
end
section
variable {ds : List Deferred} {P : Program} {ops : Array Oper} {Q : Exit → Act → World → Prop} {rd : Option Nat}
theorem wpAnyIn_invx {G : Type} {n : Nat} {base : List (Nat × Value)} {U : List (Nat × Value × Nat)} {T : G → List (Option (Nat × Value))} {M : G → (Nat → Bool) → World → Prop} (hord : ordered ops = true) (hT : ∀ γ, tableOKu ops n base U (T γ) = true)
  (step : ∀ (i : Nat) (o : Oper) (γ : G) (lst : Nat → Bool) (a : Act) (w : World), ops[i]? = some o → lst i = false → EnvD ds n base a → (∀ (j : Nat) (x : Nat × Value), depOn ops i j = true → (T γ)[j]? = some (some x) → a.eval (.tmp x.1) = x.2) → (∀ j, depOn ops i j = true → lst j = true) → (∀ j k, depOn ops j k = true → lst j = true → lst k = true) → (∀ x ∈ U, depOn ops x.2.2 i = true → a.eval (.tmp x.1) = x.2.1) → M γ lst w →
   (Region.wanted o (yielded ops a.tmps) = true → o.wpIn (fen rd) 0 P a w (StepX T M i γ lst a) Q) ∧ (Region.wanted o (yielded ops a.tmps) = false → (∀ x, (T γ)[i]? = some (some x) → x.2 = undef) ∧ M γ (fun j => j == i || lst j) w))
  (hend : ∀ γ a w, EnvD ds n base a → (∀ (j : Nat) (x : Nat × Value), (T γ)[j]? = some (some x) → a.eval (.tmp x.1) = x.2) → M γ (fun j => decide (j < ops.size)) w → Q .normal a w) :
  ∀ (fuel : Nat) (γ : G) (listed : Array Bool) (a : Act) (w : World), listed.size = ops.size → (listed.toList.filter (!·)).length ≤ fuel → RInvU ds ops n base U (T γ) (M γ) listed a w → wpAnyIn (fen rd) 0 P .any ops Q fuel listed a w := by
 have hfin : ∀ (γ : G) (listed : Array Bool) (a : Act) (w : World), listed.size = ops.size → Region.ready .any ops listed = [] → RInvU ds ops n base U (T γ) (M γ) listed a w → Q .normal a w := by
  intro γ listed a w hs hr h
  have hall := all_listed hord hs hr
  have hlen : (T γ).length = ops.size := by
   have hT := tableOKu_g (hT γ)
   unfold tableOKg at hT; simp only [Bool.and_eq_true, beq_iff_eq] at hT; exact hT.1
  refine hend γ a w h.inv.env (fun j x hj => h.inv.vals j x hj (hall j (by rw [← hlen]; exact (List.getElem?_eq_some_iff.1 hj).1))) ?_
  have e : (fun j => listed.getD j false) = fun j => decide (j < ops.size) := by
   funext j
   by_cases hj : j < ops.size
   ·rw [hall j hj, decide_eq_true hj]
   ·rw [decide_eq_false hj, Array.getD_eq_getD_getElem?, Array.getElem?_eq_none (by omega)]; rfl
  rw [← e]; exact h.inv.mem
 intro fuel
 induction fuel with
 | zero =>
  intro γ listed a w hs hc h
  have hr : Region.ready .any ops listed = [] := by
   apply List.eq_nil_iff_forall_not_mem.2
   intro i hi
   obtain ⟨h1, h2, _⟩ := ready_iff.1 hi
   have hl : i < listed.size := by omega
   have : listed[i]? = some false := by
    rw [Array.getD_eq_getD_getElem?, Array.getElem?_eq_getElem hl] at h2
    rw [Array.getElem?_eq_getElem hl]; simpa using h2
   have hm : false ∈ listed.toList.filter (!·) := by
    rw [List.mem_filter]; exact ⟨Array.mem_toList_iff.2 (Array.mem_of_getElem? this), rfl⟩
   have := List.length_pos_of_mem hm
   omega
  exact ⟨hr, hfin γ listed a w hs hr h⟩
 | succ fuel ih =>
  intro γ listed a w hs hc h
  refine ⟨fun hr => hfin γ listed a w hs hr h, fun i hi => ?_⟩
  obtain ⟨h1, h2, o, ho, hdep⟩ := ready_iff.1 hi
  have hlenT : ∀ γ, (T γ).length = ops.size := fun γ => by
   have hT' := tableOKu_g (hT γ)
   unfold tableOKg at hT'
   simp only [Bool.and_eq_true, beq_iff_eq] at hT'
   exact hT'.1
  have hl : i < listed.size := by omega
  have hf : listed.getD i false = false := by
   rw [Array.getD_eq_getD_getElem?, Array.getElem?_eq_getElem hl] at h2 ⊢
   simpa using h2
  have hf' : listed[i]? = some false := by
   rw [Array.getD_eq_getD_getElem?, Array.getElem?_eq_getElem hl] at hf
   rw [Array.getElem?_eq_getElem hl]; simpa using hf
  have hdl : ∀ j, depOn ops i j = true → listed.getD j false = true := by
   intro j hj
   unfold depOn at hj
   rw [ho] at hj
   simp only [Option.map_some, Option.getD_some, List.any_eq_true, Array.mem_toList_iff] at hj
   obtain ⟨e, he, hb⟩ := hj
   simp only [Bool.and_eq_true, beq_iff_eq] at hb
   rw [← hb.2]; exact hdep e he hb.1
  have hstep := step i o γ (fun j => listed.getD j false) a w ho hf h.inv.env (fun j x hj hx => h.inv.vals j x hx (hdl j hj)) hdl h.cl (fun x hx hk => h.old x hx (by
   cases hkl : listed.getD x.2.2 false with
   | false => rfl
   | true => have := h.cl _ _ hk hkl; rw [hf] at this; cases this)) h.inv.mem
  unfold wpOpIn
  simp only [ho]
  have hgo : ∀ a' w', StepX T M i γ (fun j => listed.getD j false) a a' w' → wpAnyIn (fen rd) 0 P .any ops Q fuel (listed.setIfInBounds i true) a' w' := ?_
  ·cases hw : Region.wanted o (yielded ops a.tmps) with
   | true =>
    simp only [if_true]
    exact Oper.wpIn_mono hgo (hstep.1 hw)
   | false =>
    obtain ⟨h3, h4⟩ := hstep.2 hw
    obtain ⟨t, ht⟩ : ∃ t, (T γ)[i]? = some t := ⟨_, List.getElem?_eq_getElem (by rw [hlenT]; exact h1)⟩
    have hT' := tableOKu_g (hT γ)
    unfold tableOKg at hT'
    simp only [Bool.and_eq_true, beq_iff_eq] at hT'
    obtain ⟨hlen, hall⟩ := hT'
    have hi' := List.all_eq_true.1 hall i (by simpa using h1)
    rw [ho, ht] at hi'
    simp only [Option.bind_some, Option.map_some, Option.getD_some, Bool.and_eq_true, beq_iff_eq] at hi'
    obtain ⟨hd, hx⟩ := hi'
    simp only [Bool.false_eq_true, if_false]
    refine ⟨fun _ _ => trivial, hgo _ _ ⟨γ, t, ht, ?_, fun _ _ => rfl, h4⟩⟩
    cases t with
    | none => rw [show o.dst = none from hd]; rfl
    | some x => rw [show o.dst = some x.1 from hd, ← h3 x ht]; rfl
  rintro a' w' ⟨γ', t, ht, rfl, hkeep, hM⟩
  have hT' := tableOKu_g (hT γ')
  unfold tableOKg at hT'
  simp only [Bool.and_eq_true, beq_iff_eq] at hT'
  obtain ⟨hlen, hall⟩ := hT'
  have hi' := List.all_eq_true.1 hall i (by simpa using h1)
  rw [ho, ht] at hi'
  simp only [Option.bind_some, Option.map_some, Option.getD_some, Bool.and_eq_true, beq_iff_eq] at hi'
  obtain ⟨hd, hx⟩ := hi'
  have hset : ∀ j, (listed.setIfInBounds i true).getD j false = (j == i || listed.getD j false) := by
   intro j
   rw [Array.getD_eq_getD_getElem?, Array.getElem?_setIfInBounds]
   by_cases e : i = j
   ·subst e; simp [hl]
   ·have e' : (j == i) = false := by simpa using Ne.symm e
    simp [e, e', Array.getD_eq_getD_getElem?]
  refine ih γ' _ _ _ (by simpa using hs) ?_ ⟨⟨?_, ?_, ?_⟩, ?_, ?_⟩
  ·have := count_set (l := listed.toList) (i := i) (by simpa using hf')
   simp only [Array.toList_setIfInBounds]
   omega
  ·cases t with
   | none => exact h.inv.env
   | some x =>
    simp only [Bool.and_eq_true, decide_eq_true_eq, Bool.not_eq_true'] at hx
    have hp := h.inv.env.put (v := x.2) hx.1.1 hx.1.2
    exact ⟨hp.size, fun y hy => hp.at_ y (List.mem_cons_of_mem _ hy), hp.df⟩
  ·intro j x hj hlj
   rw [hset] at hlj
   have hltj := (List.getElem?_eq_some_iff.1 hj).1
   cases t with
   | none =>
    by_cases e : j = i
    ·subst e; rw [ht] at hj; simp at hj
    ·have e' : (j == i) = false := by simpa using e
     rw [e', Bool.false_or] at hlj
     rw [hkeep j hlj] at hj; exact h.inv.vals j x hj hlj
   | some y =>
    simp only [Bool.and_eq_true, decide_eq_true_eq, Bool.not_eq_true'] at hx
    show (a.put (some y.1) y.2).eval (.tmp x.1) = x.2
    rw [eval_put (by rw [h.inv.env.size]; exact hx.1.1)]
    by_cases e : j = i
    ·subst e; rw [ht] at hj; simp at hj; subst hj; rw [if_pos rfl]
    ·have e' : (j == i) = false := by simpa using e
     rw [e', Bool.false_or] at hlj
     have h5 := List.all_eq_true.1 hx.2 j (by simpa using hltj)
     rw [hj, e', Bool.false_or] at h5
     have h6 : x.1 ≠ y.1 := by simpa using h5
     rw [if_neg h6]
     rw [hkeep j hlj] at hj; exact h.inv.vals j x hj hlj
  ·have e : (fun j => (listed.setIfInBounds i true).getD j false) = fun j => j == i || listed.getD j false := funext hset
   rw [e]; exact hM
  ·intro x hx2 hlx
   rw [hset] at hlx
   have hne : i ≠ x.2.2 := by
    intro e; rw [← e] at hlx; simp at hlx
   have hlo : listed.getD x.2.2 false = false := by
    have e' : (x.2.2 == i) = false := by simpa using Ne.symm hne
    rw [e', Bool.false_or] at hlx; exact hlx
   cases t with
   | none => exact h.old x hx2 hlo
   | some y =>
    have hsl := tableOKu_u (hT γ') hx2 ht hne
    simp only [Bool.and_eq_true, decide_eq_true_eq, Bool.not_eq_true'] at hx
    show (a.put (some y.1) y.2).eval (.tmp x.1) = x.2.1
    rw [eval_put (by rw [h.inv.env.size]; exact hx.1.1), if_neg hsl]
    exact h.old x hx2 hlo
  ·intro j k hjk hj
   rw [hset] at hj ⊢
   by_cases e : j = i
   ·subst e; rw [hdl k hjk]; simp
   ·have e' : (j == i) = false := by simpa using e
    rw [e', Bool.false_or] at hj
    rw [h.cl j k hjk hj]; simp
theorem wpF_region_invx {G : Type} (γ0 : G) {id n : Nat} {base : List (Nat × Value)} {U : List (Nat × Value × Nat)} {T : G → List (Option (Nat × Value))} {M : G → (Nat → Bool) → World → Prop} {a : Act} {w : World} (hm : P.follows .mixedOrders = true) (hord : ordered ops = true) (hT : ∀ γ, tableOKu ops n base U (T γ) = true)
  (E : EnvD ds n base a) (hU : ∀ x ∈ U, a.eval (.tmp x.1) = x.2.1) (hM : M γ0 (fun _ => false) w.drew)
  (step : ∀ (i : Nat) (o : Oper) (γ : G) (lst : Nat → Bool) (a : Act) (w : World), ops[i]? = some o → lst i = false → EnvD ds n base a → (∀ (j : Nat) (x : Nat × Value), depOn ops i j = true → (T γ)[j]? = some (some x) → a.eval (.tmp x.1) = x.2) → (∀ j, depOn ops i j = true → lst j = true) → (∀ j k, depOn ops j k = true → lst j = true → lst k = true) → (∀ x ∈ U, depOn ops x.2.2 i = true → a.eval (.tmp x.1) = x.2.1) → M γ lst w →
   (Region.wanted o (yielded ops a.tmps) = true → o.wpIn (fen rd) 0 P a w (StepX T M i γ lst a) Q) ∧ (Region.wanted o (yielded ops a.tmps) = false → (∀ x, (T γ)[i]? = some (some x) → x.2 = undef) ∧ M γ (fun j => j == i || lst j) w))
  (hend : ∀ γ a w, EnvD ds n base a → (∀ (j : Nat) (x : Nat × Value), (T γ)[j]? = some (some x) → a.eval (.tmp x.1) = x.2) → M γ (fun j => decide (j < ops.size)) w → Q .normal a w) :
  (Code.region id ops true).wpIn (fen rd) 0 P Q a w := by
 refine (wpIn_region_any hm (wpAnyIn_invx hord hT step hend _ γ0 _ _ _ (by simp) ?_ ⟨⟨E, ?_, ?_⟩, fun x hx _ => hU x hx, ?_⟩))
 ·exact Nat.le_trans (List.length_filter_le _ _) (by simp)
 ·intro j x hj hlj
  rw [Array.getD_eq_getD_getElem?, Array.getElem?_replicate] at hlj
  split at hlj <;> simp at hlj
 ·have e : (fun j => (Array.replicate ops.size false).getD j false) = fun _ => false := by
   funext j
   rw [Array.getD_eq_getD_getElem?, Array.getElem?_replicate]
   split <;> rfl
  rw [e]; exact hM
 ·intro j k _ hlj
  rw [Array.getD_eq_getD_getElem?, Array.getElem?_replicate] at hlj
  split at hlj <;> simp at hlj
theorem wpF_region_invg {id n : Nat} {base : List (Nat × Value)} {T : List (Option (Nat × Value))} {M : (Nat → Bool) → World → Prop} {a : Act} {w : World} (hm : P.follows .mixedOrders = true) (hord : ordered ops = true) (hT : tableOKg ops n base T = true)
  (E : EnvD ds n base a) (hM : M (fun _ => false) w.drew)
  (step : ∀ (i : Nat) (o : Oper) (t : Option (Nat × Value)) (lst : Nat → Bool) (a : Act) (w : World), ops[i]? = some o → T[i]? = some t → lst i = false → EnvD ds n base a → (∀ (j : Nat) (x : Nat × Value), depOn ops i j = true → T[j]? = some (some x) → a.eval (.tmp x.1) = x.2) → (∀ j, depOn ops i j = true → lst j = true) → M lst w →
   (Region.wanted o (yielded ops a.tmps) = true → o.wpIn (fen rd) 0 P a w (fun a' w' => a' = putT a t ∧ M (fun j => j == i || lst j) w') Q) ∧ (Region.wanted o (yielded ops a.tmps) = false → (∀ x, t = some x → x.2 = undef) ∧ M (fun j => j == i || lst j) w))
  (hend : ∀ a w, EnvD ds n base a → (∀ (j : Nat) (x : Nat × Value), T[j]? = some (some x) → a.eval (.tmp x.1) = x.2) → M (fun j => decide (j < ops.size)) w → Q .normal a w) :
  (Code.region id ops true).wpIn (fen rd) 0 P Q a w := by
 refine wpF_region_invx (G := Unit) () (U := []) (T := fun _ => T) (M := fun _ => M) hm hord (fun _ => ?_) E (fun _ h => by cases h) hM (fun i o _ lst a w ho hl E1 D DL _ _ hMl => ?_) (fun _ => hend)
 ·unfold tableOKu; rw [hT]; simp
 ·have hlen : T.length = ops.size := by
   unfold tableOKg at hT; simp only [Bool.and_eq_true, beq_iff_eq] at hT; exact hT.1
  have hi : i < ops.size := (Array.getElem?_eq_some_iff.1 ho).1
  obtain ⟨t, ht⟩ : ∃ t, T[i]? = some t := ⟨_, List.getElem?_eq_getElem (by omega)⟩
  obtain ⟨g1, g2⟩ := step i o t lst a w ho ht hl E1 D DL hMl
  refine ⟨fun hw => Oper.wpIn_mono (fun a' w' h => ⟨(), t, ht, h.1, fun _ _ => rfl, h.2⟩) (g1 hw), fun hw => ⟨fun x hx => ?_, (g2 hw).2⟩⟩
  rw [ht] at hx
  exact (g2 hw).1 x (Option.some.inj hx)
end
end Go.Pl
/- A walk by computation: from one place of a function's code to another, over a frame that is known at listed slots; over whatever program. -/
set_option linter.unusedVariables false
set_option linter.unusedSimpArgs false
namespace Go.Pl
open Go.RowKit
/-- What is to be done behind a piece of code. -/
inductive Kon where
 | seq (c : Code)
 | block (id : Nat)
 | loop (c : Code)
 | scope
/-- What is to hold in the end, and whether it is a whole function or a round. -/
structure Pst where
 q : Exit → Act → World → Prop
 rd : Option Nat
abbrev whole (q : Exit → Act → World → Prop) : Pst := ⟨q, none⟩
def post (P : Program) (R : Pst) : List Kon → Exit → Act → World → Prop
 | [] => R.q
 | .seq y :: k => Exit.then (y.wpIn (fen R.rd) 0 P (post P R k)) (post P R k)
 | .block id :: k => Exit.inBlock id (post P R k)
 | .loop c :: k => Exit.then (again R.rd P c (post P R k)) (post P R k)
 | .scope :: k => Exit.noGoto (post P R k)
def firstR : Code → Nat
 | .region id _ _ => id
 | .seq x _ => firstR x
 | .cond _ x _ => firstR x
 | .block _ c => firstR c
 | .loop c => firstR c
 | .scope c => firstR c
 | _ => 0
/-- Region r of the code, with what is to be done behind it (a loop over an iterator: the places 1000 + r and 2000 + r, ahead of it and behind it). -/
def findR (r : Nat) : Code → List Kon → Option (Array Oper × Bool × List Kon)
 | .region id ops dr, k => bif id == r then some (ops, dr, k) else none
 | .seq x y, k => match findR r x (.seq y :: k) with | some z => some z | none => findR r y k
 | .cond _ x y, k => match findR r x k with | some z => some z | none => findR r y k
 | .block id c, k => findR r c (.block id :: k)
 | .loop c, k => findR r c (.loop c :: k)
 | .scope c, k => findR r c (.scope :: k)
 | .rangeFunc g ps as9 bd, k => bif Nat.beq r (1000 + firstR as9) then some (#[], false, .seq (.rangeFunc g ps as9 bd) :: k) else bif Nat.beq r (2000 + firstR as9) then some (#[], false, k) else none
 | _, _ => none
abbrev Frm := List (Nat × Value)
def bodyOf (fn : Func) : Code := match fn.body with | some c => c | none => .skip
def look : Frm → Nat → Option Value
 | [], _ => none
 | x :: l, s => bif x.1 == s then some x.2 else look l s
theorem look_cons {x : Nat × Value} {l : Frm} {s : Nat} : look (x :: l) s = bif x.1 == s then some x.2 else look l s := rfl
def opv (L : Frm) : Operand → Option Value
 | .tmp s => look L s
 | .const v => some v
 | .global g => some (.pointer (some ⟨g, 0, none⟩))
 | .func f => some (.func (.func f) #[] #[])
def rho (L : Frm) (x : Operand) : Value := (opv L x).getD undef
/-- What is known of a frame: the first entry of a slot counts. -/
structure EnvS (ds : List Deferred) (n : Nat) (L : Frm) (a : Act) : Prop where
 size : a.tmps.size = n
 at_ : ∀ s v, look L s = some v → a.eval (.tmp s) = v
 df : a.defers = ds
theorem EnvS.opv {ds : List Deferred} {n : Nat} {L : Frm} {a : Act} (E : EnvS ds n L a) {x : Operand} {v : Value} (h : opv L x = some v) : a.eval x = v := by
 cases x with
 | tmp s => exact E.at_ s v h
 | const v => cases h; rfl
 | global g => cases h; rfl
 | func f => cases h; rfl
theorem EnvS.put {ds : List Deferred} {n d : Nat} {L : Frm} {a : Act} {v : Value} (E : EnvS ds n L a) (hn : d < n) : EnvS ds n ((d, v) :: L) (a.put (some d) v) := by
 refine ⟨size_put.trans E.size, fun s u hs => ?_, E.df⟩
 rw [eval_put (by rw [E.size]; exact hn)]
 unfold look at hs
 by_cases h : s = d
 ·subst h
  rw [if_pos rfl]
  simpa using hs
 ·rw [if_neg h]
  have : (d == s) = false := by simpa using fun e => h e.symm
  rw [this] at hs
  exact E.at_ s u hs
theorem EnvS.sub {ds : List Deferred} {n : Nat} {L L' : Frm} {a : Act} (E : EnvS ds n L a) (h : ∀ s v, look L' s = some v → look L s = some v) : EnvS ds n L' a := ⟨E.size, fun s v hs => E.at_ s v (h s v hs), E.df⟩
/-- The place (r, i): operation i of region r is to be done (of a region that draws its order: the whole region). -/
def inR (rd : Option Nat) (P : Program) (r : Nat) (ops : Array Oper) (dr : Bool) (Q : Exit → Act → World → Prop) (i : Nat) (a : Act) (w : World) : Prop :=
 match dr, i with
 | true, 0 => (Code.region r ops true).wpIn (fen rd) 0 P Q a w
 | true, _ + 1 => Q .normal a w
 | false, i => wpListIn (fen rd) 0 P ops Q (ops.toList.drop i) a w
def At (P : Program) (B : Code) (R : Pst) (ds : List Deferred) (n : Nat) (r i : Nat) (L : Frm) (w : World) : Prop :=
 ∃ ops dr k, findR r B [] = some (ops, dr, k) ∧ ∀ a, EnvS ds n L a → inR R.rd P r ops dr (post P R k) i a w
/-! ### the control -/
inductive Md where
 | code (c : Code) (k : List Kon)
 | kon (k : List Kon)
 | ops (r : Nat) (O : Array Oper) (l : List Oper) (i : Nat) (k : List Kon)
 | drw (r : Nat) (O : Array Oper) (k : List Kon)
 | ret
 | nrm
def Md.wp (P : Program) (R : Pst) : Md → Act → World → Prop
 | .code c k, a, w => c.wpIn (fen R.rd) 0 P (post P R k) a w
 | .kon k, a, w => post P R k .normal a w
 | .ops _ O l _ k, a, w => wpListIn (fen R.rd) 0 P O (post P R k) l a w
 | .drw r O k, a, w => (Code.region r O true).wpIn (fen R.rd) 0 P (post P R k) a w
 | .ret, a, w => R.q .ret a w
 | .nrm, a, w => R.q .normal a w
def exitK (id : Nat) : List Kon → Option (List Kon)
 | [] => none
 | .block j :: k => bif j == id then some k else exitK id k
 | .seq _ :: k => exitK id k
 | .loop _ :: k => exitK id k
 | .scope :: k => exitK id k
def ctlC (L : Frm) (k : List Kon) : Code → Option Md
 | .region id O dr => some (match dr with | true => .drw id O k | false => .ops id O O.toList 0 k)
 | .seq x y => some (.code x (.seq y :: k))
 | .cond c x y => match opv L c with
  | some (.bool b) => some (match b with | true => .code x k | false => .code y k)
  | _ => none
 | .block id c => some (.code c (.block id :: k))
 | .loop c => some (.code c (.loop c :: k))
 | .scope c => some (.code c (.scope :: k))
 | .skip => some (.kon k)
 | .label _ => some (.kon k)
 | .exit id => (exitK id k).map .kon
 | .ret => some .ret
 | .rangeFunc g ps as9 bd => some (.ops (1000 + firstR as9) #[] [] 0 (.seq (.rangeFunc g ps as9 bd) :: k))
 | _ => none
def ctlK : List Kon → Md
 | [] => .nrm
 | .seq y :: k => .code y k
 | .block _ :: k => .kon k
 | .loop c :: k => .code c (.loop c :: k)
 | .scope :: k => .kon k
section
variable {P : Program} {R : Pst} {a : Act} {w : World} {ds : List Deferred} {n : Nat} {L : Frm}
theorem post_ret : ∀ {k : List Kon}, R.q .ret a w → post P R k .ret a w
 | [], h => h
 | .seq _ :: k, h => post_ret (k := k) h
 | .block _ :: k, h => post_ret (k := k) h
 | .loop _ :: k, h => post_ret (k := k) h
 | .scope :: k, h => post_ret (k := k) h
theorem post_panic {ch : List PanicEntry} : ∀ {k : List Kon}, R.q (.panic ch) a w → post P R k (.panic ch) a w
 | [], h => h
 | .seq _ :: k, h => post_panic (k := k) h
 | .block _ :: k, h => post_panic (k := k) h
 | .loop _ :: k, h => post_panic (k := k) h
 | .scope :: k, h => post_panic (k := k) h
theorem post_exit {id : Nat} : ∀ {k k' : List Kon}, exitK id k = some k' → post P R k' .normal a w → post P R k (.exit id) a w
 | .seq _ :: k, k', h, q => post_exit (k := k) h q
 | .loop _ :: k, k', h, q => post_exit (k := k) h q
 | .scope :: k, k', h, q => post_exit (k := k) h q
 | .block j :: k, k', h, q => by
  show Exit.inBlock j (post P R k) (.exit id) a w
  unfold exitK at h
  cases hj : (j == id) with
  | true =>
   rw [hj] at h
   have : k = k' := Option.some.inj h
   subst this
   simp only [Exit.inBlock]
   rw [if_pos (by simpa using (beq_iff_eq.1 hj).symm)]
   exact q
  | false =>
   rw [hj] at h
   simp only [Exit.inBlock]
   rw [if_neg (fun e => by rw [e] at hj; simp at hj)]
   exact post_exit (k := k) h q
theorem ctlK_ok {k : List Kon} (h : (ctlK k).wp P R a w) : post P R k .normal a w := by
 cases k with
 | nil => exact h
 | cons x k =>
  cases x with
  | seq y => exact h
  | block id => exact h
  | loop c => exact again_of h
  | scope => exact h
theorem ctlC_ok {c : Code} {k : List Kon} {m : Md} (E : EnvS ds n L a) (hm : ctlC L k c = some m) (h : m.wp P R a w) : c.wpIn (fen R.rd) 0 P (post P R k) a w := by
 cases c with
 | region id O dr => cases dr <;> (cases hm; first | exact h | exact wpIn_region_list h)
 | seq x y => cases hm; exact wpIn_seq h
 | cond c x y =>
  cases ho : opv L c with
  | none => simp [ctlC, ho] at hm
  | some v =>
   cases v with
   | bool b =>
    cases b
    ·simp [ctlC, ho] at hm; subst hm; exact wpIn_cond_false (E.opv ho) h
    ·simp [ctlC, ho] at hm; subst hm; exact wpIn_cond_true (E.opv ho) h
   | _ => simp [ctlC, ho] at hm
 | block id c => cases hm; exact wpIn_block h
 | loop c => cases hm; exact wp_again (again_of h)
 | scope c => cases hm; exact wp_scope h
 | skip => cases hm; exact wpIn_skip h
 | label l => cases hm; exact wpIn_label h
 | exit id =>
  cases hk : exitK id k with
  | none => simp [ctlC, hk] at hm
  | some k' => simp [ctlC, hk] at hm; subst hm; exact wpIn_exit (post_exit hk h)
 | ret => cases hm; exact wpIn_ret (post_ret h)
 | rangeFunc g ps as9 bd => cases hm; exact h
 | _ => cases hm
end
/-! ### the operations -/
/-- What an operation answers that cannot be computed over letters: told from outside. -/
inductive Ft where
 | g1 (f : Operand → Op) (v r : Value)
 | g2 (f : Operand → Operand → Op) (v u r : Value)
 | g3 (f : Operand → Operand → Operand → Op) (v u t r : Value)
 | vl (k : Nat) (v u : Value)
 | cl (f : FuncId) (args : Array Value) (v : Value)
def Ft.ok (P : Program) (w : World) : Ft → Prop
 | .g1 f v r => ∀ (o : Oper) (ρ : Operand → Value) x, o.op = f x → ρ x = v → (execOp ρ o).run P w = .ok (.value r) w
 | .g2 f v u r => ∀ (o : Oper) (ρ : Operand → Value) x y, o.op = f x y → ρ x = v → ρ y = u → (execOp ρ o).run P w = .ok (.value r) w
 | .g3 f v u t r => ∀ (o : Oper) (ρ : Operand → Value) x y z, o.op = f x y z → ρ x = v → ρ y = u → ρ z = t → (execOp ρ o).run P w = .ok (.value r) w
 | .vl _ v u => v = u
 | .cl f args v => Calls P f args w fun e w' => e = .returned v ∧ Fr (fun _ => False) w w'
def AllF (P : Program) (w : World) : List Ft → Prop
 | [] => True
 | f :: l => f.ok P w ∧ AllF P w l
inductive Eqn where
 | o (a b : Op)
 | v (a b : Option Value)
 | w (a b : World)
def Eqn.l : Eqn → Eqn
 | .o a _ => .o a a
 | .v a _ => .v a a
 | .w a _ => .w a a
def Eqn.r : Eqn → Eqn
 | .o _ b => .o b b
 | .v _ b => .v b b
 | .w _ b => .w b b
def Eqn.ok : Eqn → Prop
 | .o a b => a = b
 | .v a b => a = b
 | .w a b => a = b
theorem Eqn.of {e : Eqn} (h : e.l = e.r) : e.ok := by
 cases e <;> (simp only [Eqn.l, Eqn.r, Eqn.ok] at h ⊢; first | exact (Eqn.o.inj h).1 | exact (Eqn.v.inj h).1 | exact (Eqn.w.inj h).1)
def AllE : List Eqn → Prop
 | [] => True
 | e :: l => e.ok ∧ AllE l
theorem AllE.of : ∀ {l : List Eqn}, l.map Eqn.l = l.map Eqn.r → AllE l
 | [], _ => trivial
 | e :: l, h => by
  rw [List.map_cons, List.map_cons] at h
  exact ⟨Eqn.of (List.cons.inj h).1, AllE.of (List.cons.inj h).2⟩
theorem AllE.app : ∀ {l m : List Eqn}, AllE (l ++ m) → AllE l ∧ AllE m
 | [], _, h => ⟨trivial, h⟩
 | e :: l, m, h => ⟨⟨h.1, (AllE.app (l := l) h.2).1⟩, (AllE.app (l := l) h.2).2⟩
/-- Whether an operation is wanted. -/
def wantL (O : Array Oper) (L : Frm) (n : Nat) (o : Oper) : Option Bool :=
 match o.guard with
 | none => some true
 | some (j, b) => match (O[j]?).bind (·.dst) with
  | none => none
  | some s => bif Nat.blt s n then (match look L s with
   | some (.bool c) => some (c == b)
   | some (.tuple _) => some false
   | _ => none) else none
inductive Kd where
 | plain | told1 | told2 | told3 | stop
def kindOf (L : Frm) : Op → Kd
 | .move _ | .assign _ | .pick _ _ _ | .nilCheck _ | .fieldAddr _ _ _ | .extract _ _ | .makeFunc _ _ _ | .build _ _ | .typeAssert _ _ _ _ => .plain
 | .load _ _ => .told1
 | .sliceToArrayPointer _ _ => .told1
 | .convert _ _ _ => .told1
 | .field _ _ _ => .plain
 | .makeInterface _ _ => .plain
 | .unOp op _ _ => match op with | .not => .plain | _ => .told1
 | .indexAddr _ _ _ => .told2
 | .index _ _ _ => .told2
 | .lookup _ _ _ _ => .told2
 | .slice _ _ lo hi mx => match lo, hi, mx with
  | none, none, none => .told1
  | some _, none, none => .told2
  | none, some _, none => .told2
  | some _, some _, none => .told3
  | _, _, _ => .stop
 | .binOp op _ x _ _ => match op with
  | .eql | .neq | .lss | .leq | .gtr | .geq => match opv L x with
   | some (.int _ _) => .plain
   | some (.bool _) => .plain
   | _ => .told2
  | _ => .told2
 | .call c => match c.callee with
  | .builtin .len => (match c.args[0]? with
   | some x => (match opv L x with | some (.slice _ _ _) => .plain | _ => .told1)
   | none => .stop)
  | .builtin .min => .told2
  | .builtin .max => .told2
  | _ => .stop
 | _ => .stop
def known (L : Frm) (o : Op) : Bool := o.operands.toList.all fun x => (opv L x).isSome
/-- A value that is told in another form. -/
def told (d : Nat) : List Ft → Option (Value × Value × List Ft)
 | .vl k v u :: fs => bif Nat.beq k d then some (v, u, fs) else none
 | _ => none
/-- One operation: the frame's new entries, the facts left, the equations that are to hold. -/
def ev1 (P : Program) (w : World) (n : Nat) (O : Array Oper) (o : Oper) (L nw : Frm) (fs : List Ft) : Option (Frm × List Ft × List Eqn) :=
 match o.dst with
 | none => none
 | some d => bif Nat.blt d n then
  (match wantL O L n o with
  | none => none
  | some false => some ((d, undef) :: nw, fs, [])
  | some true => match kindOf L o.op with
   | .plain => bif known L o.op then (match (execOp (rho L) o).run P w with
    | .ok (.value v) w' => (match told d fs with
     | some (v0, u, fs) => some ((d, u) :: nw, fs, [.w w' w, .v (some v) (some v0)])
     | none => some ((d, v) :: nw, fs, [.w w' w]))
    | _ => none) else none
   | .told1 => (match fs, o.op.operands[0]? with
    | .g1 f v r :: fs, some x => some ((d, r) :: nw, fs, [.o o.op (f x), .v (opv L x) (some v)])
    | _, _ => none)
   | .told2 => (match fs, o.op.operands[0]?, o.op.operands[1]? with
    | .g2 f v u r :: fs, some x, some y => some ((d, r) :: nw, fs, [.o o.op (f x y), .v (opv L x) (some v), .v (opv L y) (some u)])
    | _, _, _ => none)
   | .told3 => (match fs, o.op.operands[0]?, o.op.operands[1]?, o.op.operands[2]? with
    | .g3 f v u t r :: fs, some x, some y, some z => some ((d, r) :: nw, fs, [.o o.op (f x y z), .v (opv L x) (some v), .v (opv L y) (some u), .v (opv L z) (some t)])
    | _, _, _, _ => none)
   | .stop => none) else none
theorem told_ok {P : Program} {w : World} {d : Nat} {fs fs' : List Ft} {v u : Value} (h : told d fs = some (v, u, fs')) (hF : AllF P w fs) : v = u ∧ AllF P w fs' := by
 unfold told at h
 split at h
 ·rename_i k v1 u1 fs1
  cases hk : Nat.beq k d with
  | false => rw [hk] at h; cases h
  | true => rw [hk] at h; cases h; exact hF
 ·cases h
theorem kind_select {L : Frm} {o : Op} (h : kindOf L o = .plain) : ∀ cs b, o ≠ .select cs b := by
 rintro cs b rfl
 cases h
theorem rho_eq {ds : List Deferred} {n : Nat} {L : Frm} {a : Act} (E : EnvS ds n L a) {o : Oper} (hk : known L o.op = true) (hs : ∀ cs b, o.op ≠ .select cs b) : execOp a.eval o = execOp (rho L) o := by
 refine execOp_congr o hs fun x hx => ?_
 unfold known at hk
 rw [List.all_eq_true] at hk
 have h := hk x (by simpa using hx)
 obtain ⟨v, hv⟩ := Option.isSome_iff_exists.1 h
 rw [E.opv hv]
 unfold rho
 rw [hv]; rfl
theorem ev1_ok {P : Program} {rd : Option Nat} {w : World} {n : Nat} {O : Array Oper} {o : Oper} {L nw nw' L0 : Frm} {fs fs' : List Ft} {es : List Eqn} {ds : List Deferred} {a : Act} {Q : Exit → Act → World → Prop} {l : List Oper}
  (hL : L = nw ++ L0) (h : ev1 P w n O o L nw fs = some (nw', fs', es)) (E : EnvS ds n L a) (hF : AllF P w fs) (he : AllE es)
  (k : AllF P w fs' → ∀ a', EnvS ds n (nw' ++ L0) a' → wpListIn (fen rd) 0 P O Q l a' w) : wpListIn (fen rd) 0 P O Q (o :: l) a w := by
 subst hL
 unfold ev1 at h
 split at h
 ·cases h
 ·rename_i d hd
  cases hdn : Nat.blt d n with
  | false => rw [hdn] at h; cases h
  | true =>
   rw [hdn] at h
   have hdn' : d < n := by simpa [Nat.blt_eq] using hdn
   simp only [cond_true] at h
   have hput : ∀ v, EnvS ds n ((d, v) :: (nw ++ L0)) (a.put o.dst v) := fun v => by rw [hd]; exact E.put hdn'
   split at h
   ·cases h
   ·rename_i hw
    cases h
    -- not wanted
    unfold wantL at hw
    split at hw
    ·cases hw
    ·rename_i j b hg
     split at hw
     ·cases hw
     ·rename_i s hs
      cases hsn : Nat.blt s n with
      | false => rw [hsn] at hw; cases hw
      | true =>
       rw [hsn] at hw
       have hsn' : s < n := by simpa [Nat.blt_eq] using hsn
       simp only [cond_true] at hw
       refine sf_no ?_ (k hF _ (hput undef))
       rw [wanted_some hg, yield_eq hs (by rw [E.size]; exact hsn')]
       split at hw
       ·rename_i c hc
        rw [E.at_ s _ hc]
        have : (c == b) = false := Option.some.inj hw
        cases c <;> cases b <;> simp_all
       ·rename_i hc
        rw [E.at_ s _ hc]; rfl
       ·cases hw
   ·rename_i hw
    have hwant : Region.wanted o (yielded O a.tmps) = true := by
     unfold wantL at hw
     split at hw
     ·rename_i hg; exact wanted_none hg _
     ·rename_i j b hg
      split at hw
      ·cases hw
      ·rename_i s hs
       cases hsn : Nat.blt s n with
       | false => rw [hsn] at hw; cases hw
       | true =>
        rw [hsn] at hw
        have hsn' : s < n := by simpa [Nat.blt_eq] using hsn
        simp only [cond_true] at hw
        rw [wanted_some hg, yield_eq hs (by rw [E.size]; exact hsn')]
        split at hw
        ·rename_i c hc
         rw [E.at_ s _ hc]
         have : (c == b) = true := Option.some.inj hw
         cases c <;> cases b <;> simp_all
        ·cases hw
        ·cases hw
    split at h
    ·rename_i hk
     cases hkn : known (nw ++ L0) o.op with
     | false => rw [hkn] at h; cases h
     | true =>
      rw [hkn] at h
      simp only [cond_true] at h
      split at h
      ·rename_i v w' hr
       split at h
       ·rename_i v0 u fs9 ht
        cases h
        have hww : w' = w := he.1
        subst hww
        obtain ⟨e1, e2⟩ := told_ok ht hF
        have e3 : v = v0 := Option.some.inj he.2.1
        exact sf_val hwant (by rw [rho_eq E hkn (kind_select hk), hr, e3, e1]) (k e2 _ (hput u))
       ·cases h
        have hww : w' = w := he.1
        subst hww
        exact sf_val hwant (by rw [rho_eq E hkn (kind_select hk)]; exact hr) (k hF _ (hput v))
      ·cases h
    ·split at h
     ·rename_i f v r fs9 x hx
      cases h
      have e1 : o.op = f x := he.1
      have e2 : opv (nw ++ L0) x = some v := he.2.1
      exact sf_val hwant (hF.1 o _ x e1 (E.opv e2)) (k hF.2 _ (hput r))
     ·cases h
    ·split at h
     ·rename_i f v u r fs9 x y hx hy
      cases h
      have e1 : o.op = f x y := he.1
      have e2 : opv (nw ++ L0) x = some v := he.2.1
      have e3 : opv (nw ++ L0) y = some u := he.2.2.1
      exact sf_val hwant (hF.1 o _ x y e1 (E.opv e2) (E.opv e3)) (k hF.2 _ (hput r))
     ·cases h
    ·split at h
     ·rename_i f v u t r fs9 x y z hx hy hz
      cases h
      have e1 : o.op = f x y z := he.1
      have e2 : opv (nw ++ L0) x = some v := he.2.1
      have e3 : opv (nw ++ L0) y = some u := he.2.2.1
      have e4 : opv (nw ++ L0) z = some t := he.2.2.2.1
      exact sf_val hwant (hF.1 o _ x y z e1 (E.opv e2) (E.opv e3) (E.opv e4)) (k hF.2 _ (hput r))
     ·cases h
    ·cases h
/-- From one place on, without a call, to another one. -/
def run (P : Program) (w : World) (n : Nat) (L0 : Frm) (r' i' : Nat) : Nat → Md → Frm → List Ft → Option (Md × Frm × List Ft × List Eqn)
 | 0, _, _, _ => none
 | f + 1, m, nw, fs => match m with
  | .ops r O l i k => match Nat.beq r r' && Nat.beq i i' with
   | true => some (.ops r O l i k, nw, fs, [])
   | false => match l with
    | [] => run P w n L0 r' i' f (.kon k) nw fs
    | o :: l => match ev1 P w n O o (nw ++ L0) nw fs with
     | some (nw, fs, es) => match run P w n L0 r' i' f (.ops r O l (i + 1) k) nw fs with
      | some (m, nw, fs, es') => some (m, nw, fs, es ++ es')
      | none => none
     | none => none
  | .drw r O k => match Nat.beq r r' && Nat.beq i' 0 with
   | true => some (.drw r O k, nw, fs, [])
   | false => none
  | .ret => some (.ret, nw, fs, [])
  | .nrm => some (.nrm, nw, fs, [])
  | .kon k => run P w n L0 r' i' f (ctlK k) nw fs
  | .code c k => match ctlC (nw ++ L0) k c with
   | some m => run P w n L0 r' i' f m nw fs
   | none => none
theorem run_ok {P : Program} {w : World} {n : Nat} {L0 : Frm} {r' i' : Nat} {R : Pst} {ds : List Deferred} :
  ∀ (f : Nat) {m m' : Md} {nw nw' : Frm} {fs fs' : List Ft} {es : List Eqn}, run P w n L0 r' i' f m nw fs = some (m', nw', fs', es) → AllF P w fs → AllE es →
   (∀ a', EnvS ds n (nw' ++ L0) a' → m'.wp P R a' w) → ∀ a, EnvS ds n (nw ++ L0) a → m.wp P R a w := by
 intro f
 induction f with
 | zero => intro m m' nw nw' fs fs' es h; cases h
 | succ f ih =>
  intro m m' nw nw' fs fs' es h hF hE k a E
  cases m with
  | ops r O l i kk =>
   unfold run at h
   simp only at h
   split at h
   ·cases h; exact k a E
   ·cases l with
    | nil => exact ih h hF hE k a E
    | cons o l =>
     simp only at h
     split at h
     ·rename_i nw1 fs1 es1 h1
      split at h
      ·rename_i m2 nw2 fs2 es2 h2
       cases h
       obtain ⟨e1, e2⟩ := AllE.app hE
       exact ev1_ok rfl h1 E hF e1 fun hF1 a1 E1 => ih h2 hF1 e2 k a1 E1
      ·cases h
     ·cases h
  | drw r O kk =>
   unfold run at h
   simp only at h
   split at h
   ·cases h; exact k a E
   ·cases h
  | ret => unfold run at h; cases h; exact k a E
  | nrm => unfold run at h; cases h; exact k a E
  | kon kk => exact ctlK_ok (ih h hF hE k a E)
  | code c kk =>
   unfold run at h
   simp only at h
   split at h
   ·rename_i m1 h1
    exact ctlC_ok E h1 (ih h hF hE k a E)
   ·cases h
/-- A region that draws its order, of plain operations alone: each is done over what it waits for. -/
def depL (ops : Array Oper) (i : Nat) (T : List (Nat × Value)) : Nat → Frm
 | 0 => []
 | j + 1 => match depOn ops i j with
  | true => match T[j]? with
   | some x => x :: depL ops i T j
   | none => depL ops i T j
  | false => depL ops i T j
def quiet (P : Program) (w : World) (n : Nat) (O : Array Oper) (base : Frm) : List Oper → Nat → List (Nat × Value) → List Ft → Option (List (Nat × Value) × List Ft × List Eqn)
 | [], _, T, fs => some (T, fs, [])
 | o :: l, i, T, fs => match ev1 P w n O o (depL O i T i ++ base) [] fs with
  | some ([x], fs, es) => match quiet P w n O base l (i + 1) (T ++ [x]) fs with
   | some (T, fs, es') => some (T, fs, es ++ es')
   | none => none
  | _ => none
/-- The first entries of slots outside a list. -/
def firsts : Frm → List Nat → Frm
 | [], _ => []
 | x :: l, seen => match seen.contains x.1 with
  | true => firsts l seen
  | false => x :: firsts l (x.1 :: seen)
theorem firsts_mem : ∀ {L : Frm} {seen : List Nat} {x}, x ∈ firsts L seen → look L x.1 = some x.2 ∧ x.1 ∉ seen
 | y :: l, seen, x, h => by
  unfold firsts at h
  cases hc : seen.contains y.1 with
  | true =>
   rw [hc] at h
   obtain ⟨h1, h2⟩ := firsts_mem (L := l) h
   refine ⟨?_, h2⟩
   unfold look
   have : (y.1 == x.1) = false := by
    rw [beq_eq_false_iff_ne]; intro e
    rw [e] at hc; exact h2 (by simpa using hc)
   rw [this]; exact h1
  | false =>
   rw [hc] at h
   rcases List.mem_cons.1 h with rfl | h
   ·refine ⟨?_, by simpa using hc⟩
    unfold look; simp
   ·obtain ⟨h1, h2⟩ := firsts_mem (L := l) h
    rw [List.mem_cons, not_or] at h2
    refine ⟨?_, h2.2⟩
    unfold look
    have : (y.1 == x.1) = false := by rw [beq_eq_false_iff_ne]; exact fun e => h2.1 e.symm
    rw [this]; exact h1
theorem firsts_of : ∀ {L : Frm} {seen : List Nat} {s : Nat} {v : Value}, look L s = some v → s ∉ seen → (s, v) ∈ firsts L seen
 | [], _, s, v, h, _ => by cases h
 | y :: l, seen, s, v, h, hn => by
  unfold look at h
  unfold firsts
  cases hy : (y.1 == s) with
  | true =>
   rw [hy] at h
   have e : y.1 = s := beq_iff_eq.1 hy
   have hc : seen.contains y.1 = false := by rw [e]; simpa using hn
   rw [hc]
   have : y.2 = v := Option.some.inj h
   subst this
   exact List.mem_cons.2 (.inl (by rw [← e]))
  | false =>
   rw [hy] at h
   have hne : y.1 ≠ s := beq_eq_false_iff_ne.1 hy
   cases hc : seen.contains y.1 with
   | true => exact firsts_of (L := l) h hn
   | false => exact List.mem_cons_of_mem _ (firsts_of (L := l) h (by rw [List.mem_cons, not_or]; exact ⟨fun e => hne e.symm, hn⟩))
def dstsOf (O : Array Oper) : List Nat := O.toList.filterMap (·.dst)
theorem depL_look {O : Array Oper} {i : Nat} {T : List (Nat × Value)} : ∀ {j : Nat} {s : Nat} {v : Value}, look (depL O i T j) s = some v → ∃ q, q < j ∧ depOn O i q = true ∧ T[q]? = some (s, v)
 | 0, s, v, h => by cases h
 | j + 1, s, v, h => by
  unfold depL at h
  split at h
  ·rename_i hd
   split at h
   ·rename_i x hx
    unfold look at h
    cases hs : (x.1 == s) with
    | true =>
     rw [hs] at h
     have e : x = (s, v) := Prod.ext (beq_iff_eq.1 hs) (Option.some.inj h)
     exact ⟨j, Nat.lt_succ_self j, hd, by rw [hx, e]⟩
    | false =>
     rw [hs] at h
     obtain ⟨q, h1, h2⟩ := depL_look (j := j) h
     exact ⟨q, Nat.lt_succ_of_lt h1, h2⟩
   ·obtain ⟨q, h1, h2⟩ := depL_look (j := j) h
    exact ⟨q, Nat.lt_succ_of_lt h1, h2⟩
  ·obtain ⟨q, h1, h2⟩ := depL_look (j := j) h
   exact ⟨q, Nat.lt_succ_of_lt h1, h2⟩
theorem look_app {L M : Frm} {s : Nat} {v : Value} (h : look (L ++ M) s = some v) : look L s = some v ∨ look M s = some v := by
 induction L with
 | nil => exact .inr h
 | cons x l ih =>
  rw [List.cons_append, look_cons] at h
  rw [look_cons]
  cases hx : (x.1 == s) with
  | true => rw [hx] at h; exact .inl h
  | false => rw [hx] at h; exact ih h
theorem look_mem : ∀ {L : Frm} {s : Nat} {v : Value}, look L s = some v → (s, v) ∈ L
 | x :: l, s, v, h => by
  unfold look at h
  cases hx : (x.1 == s) with
  | true =>
   rw [hx] at h
   have : x = (s, v) := Prod.ext (beq_iff_eq.1 hx) (Option.some.inj h)
   exact List.mem_cons.2 (.inl this.symm)
  | false => rw [hx] at h; exact List.mem_cons_of_mem _ (look_mem (L := l) h)
theorem look_none : ∀ {L : Frm} {s : Nat}, look L s = none → ∀ x ∈ L, x.1 ≠ s
 | y :: l, s, h, x, hx => by
  unfold look at h
  cases hy : (y.1 == s) with
  | true => rw [hy] at h; cases h
  | false =>
   rw [hy] at h
   rcases List.mem_cons.1 hx with rfl | hx
   ·exact beq_eq_false_iff_ne.1 hy
   ·exact look_none (L := l) h x hx
theorem look_app2 {L M : Frm} {s : Nat} {v : Value} (h : look (L ++ M) s = some v) : look L s = some v ∨ (look L s = none ∧ look M s = some v) := by
 induction L with
 | nil => exact .inr ⟨rfl, h⟩
 | cons x l ih =>
  rw [List.cons_append, look_cons] at h
  rw [look_cons]
  cases hx : (x.1 == s) with
  | true => rw [hx] at h; exact .inl h
  | false => rw [hx] at h; exact ih h
theorem look_app_none {L M : Frm} {s : Nat} (h : look L s = none) : look (L ++ M) s = look M s := by
 induction L with
 | nil => rfl
 | cons x l ih =>
  rw [look_cons] at h
  rw [List.cons_append, look_cons]
  cases hx : (x.1 == s) with
  | true => rw [hx] at h; cases h
  | false => rw [hx] at h; exact ih h
theorem firsts_nd {L : Frm} {seen : List Nat} {s : Nat} {v : Value} (h : look (firsts L seen) s = some v) : (s, v) ∈ firsts L seen := look_mem h
theorem ev1_dst {P : Program} {w : World} {n : Nat} {O : Array Oper} {o : Oper} {L : Frm} {fs fs' : List Ft} {es : List Eqn} {x : Nat × Value} {s : Nat} (h : ev1 P w n O o L [] fs = some ([x], fs', es)) (hd : o.dst = some s) : x.1 = s := by
 unfold ev1 at h
 rw [hd] at h
 simp only at h
 cases hdn : Nat.blt s n with
 | false => rw [hdn] at h; cases h
 | true =>
  rw [hdn] at h
  simp only [cond_true] at h
  split at h
  ·cases h
  ·cases h; rfl
  ·split at h
   ·cases hkn : known L o.op with
    | false => rw [hkn] at h; cases h
    | true =>
     rw [hkn] at h
     simp only [cond_true] at h
     split at h
     ·split at h
      ·cases h; rfl
      ·cases h; rfl
     ·cases h
   ·split at h
    ·cases h; rfl
    ·cases h
   ·split at h
    ·cases h; rfl
    ·cases h
   ·split at h
    ·cases h; rfl
    ·cases h
   ·cases h
theorem ev1_fs {P : Program} {w : World} {n : Nat} {O : Array Oper} {o : Oper} {L nw nw' : Frm} {fs fs' : List Ft} {es : List Eqn} (h : ev1 P w n O o L nw fs = some (nw', fs', es)) (hF : AllF P w fs) : AllF P w fs' := by
 unfold ev1 at h
 split at h
 ·cases h
 ·rename_i d hd
  cases hdn : Nat.blt d n with
  | false => rw [hdn] at h; cases h
  | true =>
   rw [hdn] at h
   simp only [cond_true] at h
   split at h
   ·cases h
   ·cases h; exact hF
   ·split at h
    ·cases hkn : known L o.op with
     | false => rw [hkn] at h; cases h
     | true =>
      rw [hkn] at h
      simp only [cond_true] at h
      split at h
      ·split at h
       ·rename_i ht
        cases h; exact (told_ok ht hF).2
       ·cases h; exact hF
      ·cases h
    ·split at h
     ·cases h; exact hF.2
     ·cases h
    ·split at h
     ·cases h; exact hF.2
     ·cases h
    ·split at h
     ·cases h; exact hF.2
     ·cases h
    ·cases h
/-- What quiet says of each operation. -/
theorem quiet_at {P : Program} {w : World} {n : Nat} {O : Array Oper} {base : Frm} : ∀ {l : List Oper} {i : Nat} {T T' : List (Nat × Value)} {fs fs' : List Ft} {es : List Eqn}, quiet P w n O base l i T fs = some (T', fs', es) → T.length = i → AllF P w fs → AllE es →
  T'.length = i + l.length ∧ (∃ M, T' = T ++ M) ∧ ∀ j o, l[j]? = some o → ∃ x T1 fs1 fs2 es1, (∃ M, T' = T1 ++ M) ∧ T1.length = i + j ∧ T'[i + j]? = some x ∧ ev1 P w n O o (depL O (i + j) T1 (i + j) ++ base) [] fs1 = some ([x], fs2, es1) ∧ AllF P w fs1 ∧ AllE es1
 | [], i, T, T', fs, fs', es, h, hi, hF, hE => by
  cases h
  exact ⟨by simp [hi], ⟨[], by simp⟩, fun j o hj => by simp at hj⟩
 | o :: l, i, T, T', fs, fs', es, h, hi, hF, hE => by
  unfold quiet at h
  split at h
  ·rename_i x fs1 es1 h1
   split at h
   ·rename_i T2 fs2 es2 h2
    cases h
    obtain ⟨e1, e2⟩ := AllE.app hE
    have hF1 := ev1_fs h1 hF
    obtain ⟨g1, ⟨M, g2⟩, g4⟩ := quiet_at (l := l) h2 (by simp [hi]) hF1 e2
    refine ⟨by rw [g1, List.length_cons]; omega, ⟨x :: M, by rw [g2]; simp⟩, fun j o' hj => ?_⟩
    cases j with
    | zero =>
     cases hj
     refine ⟨x, T, fs, fs1, es1, ⟨x :: M, by rw [g2]; simp⟩, by simpa using hi, ?_, h1, hF, e1⟩
     rw [g2, Nat.add_zero, ← hi]; simp
    | succ j =>
     obtain ⟨y, T1, f1, f2, s1, q1, q2, q3, q4, q5, q6⟩ := g4 j o' hj
     have ea : i + 1 + j = i + (j + 1) := by omega
     rw [ea] at q2 q3 q4
     exact ⟨y, T1, f1, f2, s1, q1, q2, q3, q4, q5, q6⟩
   ·cases h
  ·cases h
/-- One operation of a region that draws, by ev1: as9 the law on such regions asks for it. -/
theorem ev1_step {P : Program} {rd : Option Nat} {w : World} {n : Nat} {O : Array Oper} {o : Oper} {L : Frm} {fs fs' : List Ft} {es : List Eqn} {x : Nat × Value} {ds : List Deferred} {a : Act} {Q : Exit → Act → World → Prop} {M : World → Prop}
  (h : ev1 P w n O o L [] fs = some ([x], fs', es)) (E : EnvS ds n L a) (hF : AllF P w fs) (he : AllE es) (hM : M w) :
  (Region.wanted o (yielded O a.tmps) = true → o.wpIn (fen rd) 0 P a w (fun a' w' => a' = putT a (some x) ∧ M w') Q) ∧ (Region.wanted o (yielded O a.tmps) = false → (∀ y, some x = some y → y.2 = undef) ∧ M w) := by
 unfold ev1 at h
 split at h
 ·cases h
 ·rename_i d hd
  cases hdn : Nat.blt d n with
  | false => rw [hdn] at h; cases h
  | true =>
   rw [hdn] at h
   simp only [cond_true] at h
   have hval : ∀ v, (execOp a.eval o).run P w = .ok (.value v) w → x = (d, v) → o.wpIn (fen rd) 0 P a w (fun a' w' => a' = putT a (some x) ∧ M w') Q := by
    rintro v hr rfl
    exact wf_val1 hr hd hM
   split at h
   ·cases h
   ·rename_i hw
    cases h
    refine ⟨fun hq => ?_, fun _ => ⟨fun y hy => by cases hy; rfl, hM⟩⟩
    exfalso
    unfold wantL at hw
    split at hw
    ·cases hw
    ·rename_i j b hg
     split at hw
     ·cases hw
     ·rename_i s hs
      cases hsn : Nat.blt s n with
      | false => rw [hsn] at hw; cases hw
      | true =>
       rw [hsn] at hw
       have hsn' : s < n := by simpa [Nat.blt_eq] using hsn
       simp only [cond_true] at hw
       rw [wanted_some hg, yield_eq hs (by rw [E.size]; exact hsn')] at hq
       split at hw
       ·rename_i c hc
        rw [E.at_ s _ hc] at hq
        have : (c == b) = false := Option.some.inj hw
        cases c <;> cases b <;> simp_all
       ·rename_i hc
        rw [E.at_ s _ hc] at hq; cases hq
       ·cases hw
   ·rename_i hw
    have hwant : Region.wanted o (yielded O a.tmps) = true := by
     unfold wantL at hw
     split at hw
     ·rename_i hg; exact wanted_none hg _
     ·rename_i j b hg
      split at hw
      ·cases hw
      ·rename_i s hs
       cases hsn : Nat.blt s n with
       | false => rw [hsn] at hw; cases hw
       | true =>
        rw [hsn] at hw
        have hsn' : s < n := by simpa [Nat.blt_eq] using hsn
        simp only [cond_true] at hw
        rw [wanted_some hg, yield_eq hs (by rw [E.size]; exact hsn')]
        split at hw
        ·rename_i c hc
         rw [E.at_ s _ hc]
         have : (c == b) = true := Option.some.inj hw
         cases c <;> cases b <;> simp_all
        ·cases hw
        ·cases hw
    refine ⟨fun _ => ?_, fun hq => by rw [hwant] at hq; cases hq⟩
    split at h
    ·rename_i hk
     cases hkn : known L o.op with
     | false => rw [hkn] at h; cases h
     | true =>
      rw [hkn] at h
      simp only [cond_true] at h
      split at h
      ·rename_i v w' hr
       split at h
       ·rename_i v0 u fs9 ht
        cases h
        have hww : w' = w := he.1
        subst hww
        obtain ⟨e1, e2⟩ := told_ok ht hF
        have e3 : v = v0 := Option.some.inj he.2.1
        exact hval u (by rw [rho_eq E hkn (kind_select hk), hr, e3, e1]) rfl
       ·cases h
        have hww : w' = w := he.1
        subst hww
        exact hval v (by rw [rho_eq E hkn (kind_select hk)]; exact hr) rfl
      ·cases h
    ·split at h
     ·rename_i f v r fs9 x hx
      cases h
      have e1 : o.op = f x := he.1
      have e2 : opv L x = some v := he.2.1
      exact hval r (hF.1 o _ x e1 (E.opv e2)) rfl
     ·cases h
    ·split at h
     ·rename_i f v u r fs9 x y hx hy
      cases h
      have e1 : o.op = f x y := he.1
      have e2 : opv L x = some v := he.2.1
      have e3 : opv L y = some u := he.2.2.1
      exact hval r (hF.1 o _ x y e1 (E.opv e2) (E.opv e3)) rfl
     ·cases h
    ·split at h
     ·rename_i f v u t r fs9 x y z hx hy hz
      cases h
      have e1 : o.op = f x y z := he.1
      have e2 : opv L x = some v := he.2.1
      have e3 : opv L y = some u := he.2.2.1
      have e4 : opv L z = some t := he.2.2.2.1
      exact hval r (hF.1 o _ x y z e1 (E.opv e2) (E.opv e3) (E.opv e4)) rfl
     ·cases h
    ·cases h
/-- A quiet region that draws. -/
theorem quiet_ok {P : Program} {rd : Option Nat} {w : World} {n r : Nat} {O : Array Oper} {L : Frm} {T : List (Nat × Value)} {fs fs' : List Ft} {es : List Eqn} {ds : List Deferred} {a : Act} {Q : Exit → Act → World → Prop}
  (hm : P.follows .mixedOrders = true) (hord : ordered O = true) (hT : tableOKg O n (firsts L (dstsOf O)) (T.map some) = true)
  (hq : quiet P w.drew n O (firsts L (dstsOf O)) O.toList 0 [] fs = some (T, fs', es)) (hF : AllF P w.drew fs) (he : AllE es) (E : EnvS ds n L a)
  (k : ∀ a', EnvS ds n (T ++ L) a' → Q .normal a' w.drew) : (Code.region r O true).wpIn (fen rd) 0 P Q a w := by
 obtain ⟨g1, _, g2⟩ := quiet_at hq rfl hF he
 have hbase : EnvD ds n (firsts L (dstsOf O)) a := ⟨E.size, fun x hx => E.at_ _ _ (firsts_mem hx).1, E.df⟩
 refine wpF_region_invg (n := n) (base := firsts L (dstsOf O)) (T := T.map some) (M := fun _ wm => wm = w.drew) hm hord hT hbase rfl ?_ ?_
 ·intro i o t lst a1 w1 ho hTi hl E1 D DL hM
  subst hM
  obtain ⟨x, T1, fs1, fs2, es1, ⟨M, q1⟩, q2, q3, q4, q5, q6⟩ := g2 i o (by simpa using ho)
  rw [Nat.zero_add] at q2 q3 q4
  have ht : t = some x := by
   rw [List.getElem?_map, q3] at hTi
   exact (Option.some.inj hTi).symm
  subst ht
  refine ev1_step q4 ⟨E1.size, fun s v hs => ?_, E1.df⟩ q5 q6 rfl
  rcases look_app hs with h | h
  ·obtain ⟨q, h1, h2, h3⟩ := depL_look h
   refine D q (s, v) h2 ?_
   rw [List.getElem?_map, q1, List.getElem?_append_left (by rw [q2]; exact h1), h3]; rfl
  ·have := firsts_nd h
   exact E1.at_ (s, v) this
 ·intro a1 w1 E1 V hM
  subst hM
  refine k a1 ⟨E1.size, fun s v hs => ?_, E1.df⟩
  rcases look_app2 hs with h | ⟨h0, h⟩
  ·obtain ⟨j, hj⟩ := List.getElem?_of_mem (look_mem h)
   exact V j (s, v) (by rw [List.getElem?_map, hj]; rfl)
  ·refine E1.at_ (s, v) (firsts_of h fun hd => ?_)
   -- an assigned slot is in the table
   unfold dstsOf at hd
   rw [List.mem_filterMap] at hd
   obtain ⟨o, ho, hod⟩ := hd
   obtain ⟨j, hj⟩ := List.getElem?_of_mem ho
   obtain ⟨x, T1, fs1, fs2, es1, _, q2, q3, q4, _, _⟩ := g2 j o hj
   have hx : x.1 = s := ev1_dst q4 hod
   have := look_none h0 x (List.mem_of_getElem? q3)
   exact this hx
/-! ### from place to place -/
def locOf : Md → Option (Array Oper × Bool × List Kon × List Oper × Nat)
 | .ops _ O l _ k => some (O, false, k, l, 0)
 | .drw r O k => some (O, true, k, [], r)
 | _ => none
def tgtOf (B : Code) (r i : Nat) : Option (Array Oper × Bool × List Kon × List Oper × Nat) :=
 match findR r B [] with
 | some (O, false, k) => some (O, false, k, O.toList.drop i, 0)
 | some (O, true, k) => match i with
  | 0 => some (O, true, k, [], r)
  | _ + 1 => none
 | none => none
def hasS (L : Frm) (s : Nat) : Bool := L.any fun x => Nat.beq x.1 s
/-- A slot that was assigned is told anew, or was not told before. -/
def okSh (nw N L0 : Frm) : Bool := nw.all fun x => hasS N x.1 || !hasS L0 x.1
abbrev Res := Option (Md × Frm × List Ft × List Eqn)
/-- Where it begins: the code's head, or a place. -/
def begOf (B : Code) : Option (Nat × Nat) → Option Md
 | none => some (.code B [])
 | some (r, i) => match findR r B [] with
  | some (O, false, k) => some (.ops r O (O.toList.drop i) i k)
  | some (O, true, k) => match i with
   | 0 => none
   | _ + 1 => some (.kon k)
  | none => none
def go (P : Program) (w : World) (n : Nat) (B : Code) (p : Option (Nat × Nat)) (L : Frm) (r' i' : Nat) (F : List Ft) : Res :=
 match begOf B p with
 | some m => run P w n L r' i' 5000 m [] F
 | none => none
abbrev Chk := Option (Option (Array Oper × Bool × List Kon × List Oper × Nat) × List (Option Value) × List Eqn × Bool)
def lhs (x : Res) (N L : Frm) : Chk :=
 match x with
 | some (m, nw, _, es) => match locOf m with
  | some z => some (some z, N.map (fun y => look (nw ++ L) y.1), es.map Eqn.l, okSh nw N L)
  | none => none
 | none => none
def rhs (x : Res) (N : Frm) (B : Code) (r' i' : Nat) : Chk :=
 match x with
 | some (_, _, _, es) => some (tgtOf B r' i', N.map (fun y => some y.2), es.map Eqn.r, true)
 | none => some (none, [], [], true)
/-- The claim of a place, or of the code's head. -/
def AtO (P : Program) (B : Code) (R : Pst) (ds : List Deferred) (n : Nat) (p : Option (Nat × Nat)) (L : Frm) (w : World) : Prop :=
 match p with
 | none => ∀ a, EnvS ds n L a → B.wpIn (fen R.rd) 0 P R.q a w
 | some (r, i) => At P B R ds n r i L w
section
variable {P : Program} {B : Code} {R : Pst} {ds : List Deferred} {n : Nat} {p : Option (Nat × Nat)} {L N : Frm} {w : World} {r' i' : Nat} {F : List Ft}
theorem frame_sub {nw : Frm} (hv : N.map (fun y => look (nw ++ L) y.1) = N.map (fun y => some y.2)) (ho : okSh nw N L = true) : ∀ s v, look (N ++ L) s = some v → look (nw ++ L) s = some v := by
 intro s v h
 have hall : ∀ y ∈ N, look (nw ++ L) y.1 = some y.2 := List.map_inj_left.1 hv
 rcases look_app2 h with h1 | ⟨h0, h1⟩
 ·exact hall (s, v) (look_mem h1)
 ·cases hn : look nw s with
  | none => rw [look_app_none hn]; exact h1
  | some u =>
   exfalso
   have hm := look_mem hn
   unfold okSh at ho
   have := List.all_eq_true.1 ho (s, u) hm
   simp only [Bool.or_eq_true, Bool.not_eq_true'] at this
   rcases this with h2 | h2
   ·unfold hasS at h2
    obtain ⟨y, hy, he⟩ := List.any_eq_true.1 h2
    exact look_none h0 y hy (by simpa using he)
   ·unfold hasS at h2
    have h3 : (L.any fun x => Nat.beq x.1 s) = true := List.any_eq_true.2 ⟨(s, v), look_mem h1, by simp⟩
    rw [h2] at h3; cases h3
theorem go_ok {m : Md} {nw : Frm} {fs : List Ft} {es : List Eqn} (h : go P w n B p L r' i' F = some (m, nw, fs, es)) (hF : AllF P w F) (hE : AllE es) (k : ∀ a, EnvS ds n (nw ++ L) a → m.wp P R a w) : AtO P B R ds n p L w := by
 unfold go at h
 cases hb : begOf B p with
 | none => rw [hb] at h; cases h
 | some m0 =>
  rw [hb] at h
  have hk := run_ok (R := R) (ds := ds) 5000 h hF hE k
  cases p with
  | none =>
   cases hb
   exact hk
  | some q =>
   obtain ⟨r, i⟩ := q
   unfold begOf at hb
   simp only at hb
   cases hf : findR r B [] with
   | none => rw [hf] at hb; cases hb
   | some z =>
    obtain ⟨O, dr, kk⟩ := z
    rw [hf] at hb
    refine ⟨O, dr, kk, hf, fun a E => ?_⟩
    cases dr with
    | false => cases hb; exact hk a E
    | true =>
     cases i with
     | zero => cases hb
     | succ i => cases hb; exact hk a E
/-- From the equation that the kernel checks. -/
theorem chk_out {x : Res} (h : lhs x N L = rhs x N B r' i') : ∃ m nw fs es, x = some (m, nw, fs, es) ∧ AllE es ∧ (∃ z, locOf m = some z ∧ tgtOf B r' i' = some z) ∧ ∀ s v, look (N ++ L) s = some v → look (nw ++ L) s = some v := by
 cases x with
 | none => cases h
 | some z =>
  obtain ⟨m, nw, fs, es⟩ := z
  unfold lhs at h
  simp only at h
  split at h
  ·rename_i z hz
   have h := Option.some.inj h
   obtain ⟨h1, h⟩ := Prod.mk.inj h
   obtain ⟨h2, h⟩ := Prod.mk.inj h
   obtain ⟨h3, h4⟩ := Prod.mk.inj h
   exact ⟨m, nw, fs, es, rfl, AllE.of h3, ⟨z, hz, h1.symm⟩, frame_sub h2 h4⟩
  ·cases h
/-- Straight on. -/
theorem seg (r' i' : Nat) (N : Frm) (hF : AllF P w F) (k : AtO P B R ds n (some (r', i')) (N ++ L) w) (h : lhs (go P w n B p L r' i' F) N L = rhs (go P w n B p L r' i' F) N B r' i' := by kernel_rfl) : AtO P B R ds n p L w := by
 obtain ⟨m, nw, fs, es, hx, hE, ⟨z, hl, ht⟩, hs⟩ := chk_out h
 obtain ⟨O, dr, kk, hf, hk⟩ := k
 refine go_ok hx hF hE fun a E => ?_
 have hk := hk a (E.sub hs)
 unfold tgtOf at ht
 rw [hf] at ht
 cases dr with
 | false =>
  cases ht
  cases m with
  | ops r O1 l i k1 => cases hl; exact hk
  | drw r O1 k1 => cases hl
  | _ => cases hl
 | true =>
  cases i' with
  | zero =>
   cases ht
   cases m with
   | ops r O1 l i k1 => cases hl
   | drw r O1 k1 => cases hl; exact hk
   | _ => cases hl
  | succ i' => cases ht
/-- The operation at a place: what the machine answers over the frame. -/
def opAt (P : Program) (w : World) (n : Nat) (LL : Frm) : Md → Option (Nat × Except Unit (Next × World))
 | .ops _ O (o :: _) _ _ => match o.dst, wantL O LL n o with
  | some d, some true => bif Nat.blt d n && known LL o.op && (match o.op with | .select _ _ => false | _ => true) then (match (execOp (rho LL) o).run P w with
   | .ok x w' => some (d, .ok (x, w'))
   | _ => none) else none
  | _, _ => none
 | _ => none
def opOf (P : Program) (w : World) (n : Nat) (L : Frm) (x : Res) : Option (Nat × Except Unit (Next × World)) :=
 match x with
 | some (m, nw, _, _) => opAt P w n (nw ++ L) m
 | none => none
/-- An operation with an answer that can be computed: where it stands, and how it goes on. -/
theorem oper_at {d : Nat} {x : Next} {w' : World} (hF : AllF P w F) (h : (lhs (go P w n B p L r' i' F) N L, opOf P w n L (go P w n B p L r' i' F)) = (rhs (go P w n B p L r' i' F) N B r' i', some (d, .ok (x, w'))))
  (k : ∀ (O : Array Oper) (kk : List Kon) (o : Oper) (l : List Oper) (a : Act), findR r' B [] = some (O, false, kk) → O.toList.drop i' = o :: l → EnvS ds n (N ++ L) a → o.dst = some d → d < n → Region.wanted o (yielded O a.tmps) = true → (execOp a.eval o).run P w = .ok x w' → wpListIn (fen R.rd) 0 P O (post P R kk) (o :: l) a w) : AtO P B R ds n p L w := by
 obtain ⟨h1, h2⟩ := Prod.mk.inj h
 obtain ⟨m, nw, fs, es, hx, hE, ⟨z, hl, ht⟩, hs⟩ := chk_out h1
 rw [hx] at h2
 refine go_ok hx hF hE fun a E => ?_
 unfold opOf opAt at h2
 cases m with
 | ops r O l i k1 =>
  cases l with
  | nil => cases h2
  | cons o l =>
   simp only at h2
   split at h2
   ·rename_i d1 hd hw
    cases hc : (Nat.blt d1 n && known (nw ++ L) o.op && (match o.op with | .select _ _ => false | _ => true)) with
    | false => rw [hc] at h2; cases h2
    | true =>
     rw [hc] at h2
     simp only [cond_true] at h2
     simp only [Bool.and_eq_true] at hc
     obtain ⟨⟨hdn, hkn⟩, hsel⟩ := hc
     split at h2
     ·rename_i y w1 hr
      cases h2
      unfold tgtOf at ht
      cases hf : findR r' B [] with
      | none => rw [hf] at ht; cases ht
      | some z1 =>
       obtain ⟨O1, dr, kk⟩ := z1
       rw [hf] at ht
       cases dr with
       | true =>
        cases i' with
        | zero => cases ht; cases hl
        | succ i' => cases ht
       | false =>
        cases ht
        have hl : (some (O, false, k1, o :: l, 0) : Option (Array Oper × Bool × List Kon × List Oper × Nat)) = some (O1, false, kk, O1.toList.drop i', 0) := hl
        simp only [Option.some.injEq, Prod.mk.injEq] at hl
        obtain ⟨rfl, _, rfl, hl, _⟩ := hl
        have hsel' : ∀ cs b, o.op ≠ .select cs b := by
         intro cs b e; rw [e] at hsel; cases hsel
        refine k O k1 o l a hf hl.symm (E.sub hs) hd (by simpa [Nat.blt_eq] using hdn) ?_ (by rw [rho_eq E hkn hsel']; exact hr)
        -- wanted
        unfold wantL at hw
        split at hw
        ·rename_i hg; exact wanted_none hg _
        ·rename_i j b hg
         split at hw
         ·cases hw
         ·rename_i s hss
          cases hsn : Nat.blt s n with
          | false => rw [hsn] at hw; cases hw
          | true =>
           rw [hsn] at hw
           have hsn' : s < n := by simpa [Nat.blt_eq] using hsn
           simp only [cond_true] at hw
           rw [wanted_some hg, yield_eq hss (by rw [E.size]; exact hsn')]
           split at hw
           ·rename_i c hc
            rw [E.at_ s _ hc]
            have : (c == b) = true := Option.some.inj hw
            cases c <;> cases b <;> simp_all
           ·cases hw
           ·cases hw
     ·cases h2
   ·cases h2
 | _ => cases h2
/-- A call. -/
theorem cal (r' i' d : Nat) (N : Frm) {f : FuncId} {args : Array Value} {K : Value → World → Prop} (hF : AllF P w F) (hc : Calls P f args w fun e w' => ∃ v, e = .returned v ∧ K v w') (k : ∀ v w', K v w' → AtO P B R ds n (some (r', i' + 1)) ((d, v) :: (N ++ L)) w') (h : (lhs (go P w n B p L r' i' F) N L, opOf P w n L (go P w n B p L r' i' F)) = (rhs (go P w n B p L r' i' F) N B r' i', some (d, .ok (.enter f args, w))) := by kernel_rfl) : AtO P B R ds n p L w :=
 oper_at hF h fun O kk o l a hf hd1 E hd hdn hw hr => by
  refine sf_call (R := K) hw hr hc fun v w' hK => ?_
  obtain ⟨O1, dr, k1, hf1, hk⟩ := k v w' hK
  rw [hf] at hf1
  cases hf1
  have := hk _ (E.put (v := v) hdn)
  rw [hd]
  have hdr : O.toList.drop (i' + 1) = l := by rw [← List.tail_drop, hd1]; rfl
  show wpListIn (fen R.rd) 0 P O (post P R kk) l _ w'
  rw [← hdr]; exact this
/-- A call whose answer is known. -/
theorem calv (r' i' d : Nat) (N : Frm) {f : FuncId} {args : Array Value} {v : Value} {K : World → Prop} (hF : AllF P w F) (hc : Calls P f args w fun e w' => e = .returned v ∧ K w') (k : ∀ w', K w' → AtO P B R ds n (some (r', i' + 1)) ((d, v) :: (N ++ L)) w') (h : (lhs (go P w n B p L r' i' F) N L, opOf P w n L (go P w n B p L r' i' F)) = (rhs (go P w n B p L r' i' F) N B r' i', some (d, .ok (.enter f args, w))) := by kernel_rfl) : AtO P B R ds n p L w :=
 cal r' i' d N (K := fun u w' => u = v ∧ K w') hF (hc.mono fun e w' h => ⟨v, h.1, rfl, h.2⟩) (fun u w' ⟨hu, hK⟩ => by subst hu; exact k w' hK) h
/-- An operation that answers with a value in another world. -/
theorem opx (r' i' d : Nat) (N : Frm) {v : Value} {w' : World} (hF : AllF P w F) (k : AtO P B R ds n (some (r', i' + 1)) ((d, v) :: (N ++ L)) w') (h : (lhs (go P w n B p L r' i' F) N L, opOf P w n L (go P w n B p L r' i' F)) = (rhs (go P w n B p L r' i' F) N B r' i', some (d, .ok (.value v, w'))) := by kernel_rfl) : AtO P B R ds n p L w :=
 oper_at hF h fun O kk o l a hf hd1 E hd hdn hw hr => by
  refine sf_val hw hr ?_
  obtain ⟨O1, dr, k1, hf1, hk⟩ := k
  rw [hf] at hf1
  cases hf1
  have := hk _ (E.put (v := v) hdn)
  rw [hd]
  have hdr : O.toList.drop (i' + 1) = l := by rw [← List.tail_drop, hd1]; rfl
  rw [← hdr]; exact this
/-- Fewer slots are told. -/
theorem fewer {r i : Nat} (L' : Frm) (k : AtO P B R ds n (some (r, i)) L' w) (h : L'.map (fun y => look L y.1) = L'.map (fun y => some y.2) := by kernel_rfl) : AtO P B R ds n (some (r, i)) L w := by
 obtain ⟨O, dr, kk, hf, hk⟩ := k
 exact ⟨O, dr, kk, hf, fun a E => hk a (E.sub fun s v hs => (List.map_inj_left.1 h) (s, v) (look_mem hs))⟩
/-- The end. -/
def finL (x : Res) (N L : Frm) : Option (Bool × List (Option Value) × List Eqn) :=
 match x with
 | some (m, nw, _, es) => some (match m with | .ret => true | .nrm => true | _ => false, N.map (fun y => look (nw ++ L) y.1), es.map Eqn.l)
 | none => none
def finR (x : Res) (N : Frm) : Option (Bool × List (Option Value) × List Eqn) :=
 match x with
 | some (_, _, _, es) => some (true, N.map (fun y => some y.2), es.map Eqn.r)
 | none => some (true, [], [])
theorem fin_ (N : Frm) (hF : AllF P w F) (h : finL (go P w n B p L 1000000 0 F) N L = finR (go P w n B p L 1000000 0 F) N) (k : ∀ a, EnvS ds n N a → R.q .ret a w ∧ R.q .normal a w) : AtO P B R ds n p L w := by
 cases hx : go P w n B p L 1000000 0 F with
 | none => rw [hx] at h; cases h
 | some z =>
  obtain ⟨m, nw, fs, es⟩ := z
  rw [hx] at h
  have h := Option.some.inj h
  obtain ⟨h1, h⟩ := Prod.mk.inj h
  obtain ⟨h2, h3⟩ := Prod.mk.inj h
  refine go_ok hx hF (AllE.of h3) fun a E => ?_
  have hk := k a (E.sub fun s v hs => (List.map_inj_left.1 h2) (s, v) (look_mem hs))
  cases m with
  | ret => exact hk.1
  | nrm => exact hk.2
  | _ => cases h1
end
section
variable {P : Program} {B : Code} {fn : Func} {Φ : Ending → World → Prop} {n : Nat} {p : Option (Nat × Nat)} {L : Frm} {w : World} {F : List Ft}
theorem EnvS.to {ds : List Deferred} {L : Frm} {a : Act} (E : EnvS ds n L a) (h : L.map (fun y => look L y.1) = L.map (fun y => some y.2)) : EnvD ds n L a := ⟨E.size, fun x hx => E.at_ _ _ ((List.map_inj_left.1 h) x hx), E.df⟩
theorem rt0 (hr : fn.results = #[]) (hF : AllF P w F) (k : Φ (.returned (.tuple #[])) w) (h : finL (go P w n B p L 1000000 0 F) [] L = finR (go P w n B p L 1000000 0 F) [] := by kernel_rfl) : AtO P B (whole (bodyPost P fn Φ)) [] n p L w :=
 fin_ [] hF h fun a E => by
  have := ret_nil (P := P) (R := Φ) hr (E.to rfl) k
  exact ⟨this.2, this.1⟩
theorem rt1 (t : Nat) (v : Value) (hr : fn.results = #[.tmp t]) (hF : AllF P w F) (k : Φ (.returned v) w) (h : finL (go P w n B p L 1000000 0 F) [(t, v)] L = finR (go P w n B p L 1000000 0 F) [(t, v)] := by kernel_rfl) : AtO P B (whole (bodyPost P fn Φ)) [] n p L w :=
 fin_ [(t, v)] hF h fun a E => by
  have hv : a.eval (.tmp t) = v := E.at_ t v (by simp [look])
  have := ret_tmp (P := P) (R := Φ) hr (L := []) ⟨E.size, fun x hx => (by cases hx), E.df⟩ hv k
  exact ⟨this, this⟩
theorem env_args {args : Array Value} (hn : fn.ntmps = n) {L : Frm} (hL : L = (List.range args.size).zip args.toList) (hs : args.size ≤ n) : EnvS [] n L { tmps := args ++ Array.replicate (fn.ntmps - args.size) undef, defers := [] } := by
 refine ⟨?_, ?_, rfl⟩
 ·simp [hn]; omega
 ·intro s v h
  subst hL
  have hm := look_mem h
  obtain ⟨j, hj⟩ := List.getElem?_of_mem hm
  rw [List.getElem?_zip_eq_some] at hj
  obtain ⟨h1, h2⟩ := hj
  have hlt := (List.getElem?_eq_some_iff.1 h2).1
  have : j = s := by
   rw [List.getElem?_range (by simpa using hlt)] at h1
   exact Option.some.inj h1
  subst this
  show (args ++ Array.replicate (fn.ntmps - args.size) undef).getD j undef = v
  rw [Array.getD_eq_getD_getElem?, Array.getElem?_append_left (by simpa using hlt)]
  have : args[j]? = some v := by simpa using h2
  rw [this]; rfl
theorem beg {f : FuncId} {args : Array Value} (hf : P.funcs[f]? = some fn) (hb : fn.body = some B) (hn : fn.ntmps = n) (L : Frm) (hL : L = (List.range args.size).zip args.toList) (hs : Nat.ble args.size n = true) (k : ∀ Φ' : Ending → World → Prop, (∀ e w', Φ e w' → Φ' e w') → AtO P B (whole (bodyPost P fn Φ')) [] n none L w) : Calls P f args w Φ := by
 have hs : args.size ≤ n := Nat.le_of_ble_eq_true hs
 exact calls_of_wp hf hb (wpIn_wide.1 (k Φ (fun _ _ h => h) _ (env_args hn hL hs)))
theorem f0 : AllF P w [] := trivial
theorem fc {f : Ft} {l : List Ft} (h : f.ok P w) (t : AllF P w l) : AllF P w (f :: l) := ⟨h, t⟩
end
/-! ### regions that draw, stores, further effects -/
section
variable {P : Program} {B : Code} {R : Pst} {ds : List Deferred} {n : Nat} {p : Option (Nat × Nat)} {L N : Frm} {w : World} {r r' i' : Nat} {F : List Ft}
def drqL (P : Program) (w : World) (n : Nat) (B : Code) (r : Nat) (L N : Frm) (F : List Ft) : Option (Bool × Bool × Bool × List (Option Value) × List Eqn × Bool) :=
 match findR r B [] with
 | some (O, true, _) => match quiet P w n O (firsts L (dstsOf O)) O.toList 0 [] F with
  | some (T, _, es) => some (P.follows .mixedOrders, ordered O, tableOKg O n (firsts L (dstsOf O)) (T.map some), N.map (fun y => look (T ++ L) y.1), es.map Eqn.l, okSh T N L)
  | none => none
 | _ => none
def drqR (P : Program) (w : World) (n : Nat) (B : Code) (r : Nat) (L N : Frm) (F : List Ft) : Option (Bool × Bool × Bool × List (Option Value) × List Eqn × Bool) :=
 match findR r B [] with
 | some (O, true, _) => match quiet P w n O (firsts L (dstsOf O)) O.toList 0 [] F with
  | some (T, _, es) => some (true, true, true, N.map (fun y => some y.2), es.map Eqn.r, true)
  | none => some (true, true, true, [], [], true)
 | _ => some (true, true, true, [], [], true)
/-- A quiet region that draws its order. -/
theorem drq (N : Frm) {w5 : World} (hw : w5 = w.drew) (hF : AllF P w5 F) (k : AtO P B R ds n (some (r, 1)) (N ++ L) w5) (h : drqL P w5 n B r L N F = drqR P w5 n B r L N F := by kernel_rfl) : AtO P B R ds n (some (r, 0)) L w := by
 subst hw
 unfold drqL drqR at h
 obtain ⟨O1, dr, kk, hf, hk⟩ := k
 rw [hf] at h
 cases dr with
 | false => cases h
 | true =>
  simp only at h
  refine ⟨O1, true, kk, hf, fun a E => ?_⟩
  cases hq : quiet P w.drew n O1 (firsts L (dstsOf O1)) O1.toList 0 [] F with
  | none => rw [hq] at h; cases h
  | some z =>
   obtain ⟨T, fs, es⟩ := z
   rw [hq] at h
   simp only [Option.some.injEq, Prod.mk.injEq] at h
   obtain ⟨h1, h2, h3, h4, h5, h6⟩ := h
   exact quiet_ok h1 h2 h3 hq hF (AllE.of h5) E fun a' E' => hk a' (E'.sub (frame_sub h4 h6))
/-- What stands at a place: an operation of two operands (or of one). -/
def twoAt (n : Nat) (LL : Frm) (f : Operand → Operand → Op) : Md → Option (Option Nat × Bool × Option Bool × Op × Op × Option Value × Option Value)
 | .ops _ O (o :: _) _ _ => match o.op.operands[0]?, o.op.operands[1]? with
  | some x, some y => some (o.dst, o.guard.isNone, wantL O LL n o, o.op, f x y, opv LL x, opv LL y)
  | _, _ => none
 | _ => none
def twoL (x : Res) (n : Nat) (L : Frm) (f : Operand → Operand → Op) : Option (Option Nat × Bool × Option Bool × Op × Option Value × Option Value) :=
 match x with
 | some (m, nw, _, _) => match twoAt n (nw ++ L) f m with
  | some (d, g, wt, a, b, u, v) => some (d, g, wt, a, u, v)
  | none => none
 | none => none
def twoR (x : Res) (n : Nat) (L : Frm) (f : Operand → Operand → Op) (d : Option Nat) (g : Bool) (v u : Value) : Option (Option Nat × Bool × Option Bool × Op × Option Value × Option Value) :=
 match x with
 | some (m, nw, _, _) => match twoAt n (nw ++ L) f m with
  | some (_, g0, _, _, b, _, _) => some (d, (match g with | true => true | false => g0), some true, b, some v, some u)
  | none => some (none, true, none, f (.tmp 0) (.tmp 0), none, none)
 | none => some (none, true, none, f (.tmp 0) (.tmp 0), none, none)
theorem want_true {O : Array Oper} {o : Oper} {a : Act} (hw : wantL O L n o = some true) (E : EnvS ds n L a) : Region.wanted o (yielded O a.tmps) = true := by
 unfold wantL at hw
 split at hw
 ·rename_i hg; exact wanted_none hg _
 ·rename_i j b hg
  split at hw
  ·cases hw
  ·rename_i s hss
   cases hsn : Nat.blt s n with
   | false => rw [hsn] at hw; cases hw
   | true =>
    rw [hsn] at hw
    have hsn' : s < n := by simpa [Nat.blt_eq] using hsn
    simp only [cond_true] at hw
    rw [wanted_some hg, yield_eq hss (by rw [E.size]; exact hsn')]
    split at hw
    ·rename_i c hc
     rw [E.at_ s _ hc]
     have : (c == b) = true := Option.some.inj hw
     cases c <;> cases b <;> simp_all
    ·cases hw
    ·cases hw
/-- An operation of two operands at a place, told from outside. -/
theorem two_at {f : Operand → Operand → Op} {d : Option Nat} {g : Bool} {v u : Value} (hF : AllF P w F)
  (h : (lhs (go P w n B p L r' i' F) N L, twoL (go P w n B p L r' i' F) n L f) = (rhs (go P w n B p L r' i' F) N B r' i', twoR (go P w n B p L r' i' F) n L f d g v u))
  (k : ∀ (O : Array Oper) (kk : List Kon) (o : Oper) (l : List Oper) (a : Act) x y, findR r' B [] = some (O, false, kk) → O.toList.drop i' = o :: l → EnvS ds n (N ++ L) a → o.dst = d → (g = true → o.guard = none) → Region.wanted o (yielded O a.tmps) = true → o.op = f x y → a.eval x = v → a.eval y = u → wpListIn (fen R.rd) 0 P O (post P R kk) (o :: l) a w) : AtO P B R ds n p L w := by
 obtain ⟨h1, h2⟩ := Prod.mk.inj h
 obtain ⟨m, nw, fs, es, hx, hE, ⟨z, hl, ht⟩, hs⟩ := chk_out h1
 rw [hx] at h2
 refine go_ok hx hF hE fun a E => ?_
 unfold twoL twoR at h2
 simp only at h2
 cases hta : twoAt n (nw ++ L) f m with
 | none => rw [hta] at h2; cases h2
 | some q =>
  obtain ⟨d1, g1, wt, oa, ob, u1, v1⟩ := q
  rw [hta] at h2
  simp only [Option.some.injEq, Prod.mk.injEq] at h2
  obtain ⟨rfl, hg1, rfl, rfl, rfl, rfl⟩ := h2
  cases m with
  | ops r O l i k1 =>
   cases l with
   | nil => cases hta
   | cons o l =>
    unfold twoAt at hta
    simp only at hta
    split at hta
    ·rename_i x y hx0 hy0
     simp only [Option.some.injEq, Prod.mk.injEq] at hta
     obtain ⟨q1, q2, q3, q4, q5, q6, q7⟩ := hta
     unfold tgtOf at ht
     cases hf : findR r' B [] with
     | none => rw [hf] at ht; cases ht
     | some z1 =>
      obtain ⟨O1, dr, kk⟩ := z1
      rw [hf] at ht
      cases dr with
      | true =>
       cases i' with
       | zero => cases ht; cases hl
       | succ i' => cases ht
      | false =>
       cases ht
       have hl : (some (O, false, k1, o :: l, 0) : Option (Array Oper × Bool × List Kon × List Oper × Nat)) = some (O1, false, kk, O1.toList.drop i', 0) := hl
       simp only [Option.some.injEq, Prod.mk.injEq] at hl
       obtain ⟨rfl, _, rfl, hl, _⟩ := hl
       refine k O k1 o l a x y hf hl.symm (E.sub hs) q1 (fun hg => ?_) (want_true q3 E) (q4.trans q5.symm) (E.opv q6) (E.opv q7)
       subst hg
       have : g1 = true := hg1
       rw [this] at q2
       simpa using q2
    ·cases hta
  | _ => cases hta
/-- A store, told from outside. -/
def StF (P : Program) (w : World) (f : Operand → Operand → Op) (v u : Value) (w' : World) : Prop := ∀ (o : Oper) (ρ : Operand → Value) x y, o.op = f x y → ρ x = v → ρ y = u → (execOp ρ o).run P w = .ok .skip w'
theorem sto (r' i' : Nat) (N : Frm) {f : Operand → Operand → Op} {v u : Value} {w' : World} (hF : AllF P w F) (hs : StF P w f v u w') (k : AtO P B R ds n (some (r', i' + 1)) (N ++ L) w') (h : (lhs (go P w n B p L r' i' F) N L, twoL (go P w n B p L r' i' F) n L f) = (rhs (go P w n B p L r' i' F) N B r' i', twoR (go P w n B p L r' i' F) n L f none false v u) := by kernel_rfl) : AtO P B R ds n p L w :=
 two_at hF h fun O kk o l a x y hf hd1 E hd _ hw ho hx hy => by
  refine sf_skip hw (hs o _ x y ho hx hy) hd ?_
  obtain ⟨O1, dr, k1, hf1, hk⟩ := k
  rw [hf] at hf1
  cases hf1
  have := hk _ E
  have hdr : O.toList.drop (i' + 1) = l := by rw [← List.tail_drop, hd1]; rfl
  rw [← hdr]; exact this
end
section
variable {P : Program} {B : Code} {fn : Func} {Φ : Ending → World → Prop} {n : Nat} {p : Option (Nat × Nat)} {L : Frm} {w : World} {F : List Ft}
theorem res2 {a : Act} {t t2 : Nat} {u v : Value} (hr : fn.results = #[.tmp t, .tmp t2]) (E : a.defers = []) (hu : a.eval (.tmp t) = u) (hv : a.eval (.tmp t2) = v) (k : Φ (.returned (.tuple #[u, v])) w) : bodyPost P fn Φ .ret a w := by
 refine ⟨E, .tuple #[u, v], ?_, k⟩
 unfold results
 rw [hr]
 have h1 : a.tmps.getD t undef = u := hu
 have h2 : a.tmps.getD t2 undef = v := hv
 rw [Array.getD_eq_getD_getElem?] at h1 h2
 simp [h1, h2]
theorem rt2 (t t2 : Nat) (u v : Value) (hr : fn.results = #[.tmp t, .tmp t2]) (hn : (t == t2) = false) (hF : AllF P w F) (k : Φ (.returned (.tuple #[u, v])) w) (h : finL (go P w n B p L 1000000 0 F) [(t, u), (t2, v)] L = finR (go P w n B p L 1000000 0 F) [(t, u), (t2, v)] := by kernel_rfl) : AtO P B (whole (bodyPost P fn Φ)) [] n p L w :=
 fin_ _ hF h fun a E => by
  have := res2 (P := P) (Φ := Φ) hr E.df (E.at_ t u (by simp [look])) (E.at_ t2 v (by simp [look, hn])) k
  exact ⟨this, this⟩
end
/-! ### what is told of operations -/
section
variable {P : Program} {w : World} {t : TypeId} {m n : Int}
theorem tv (k : Nat) {b c : Bool} (h : b = c) : Ft.ok P w (.vl k (.bool b) (.bool c)) := congrArg Value.bool h
theorem tadd (m n : Int) (ht : P.underlying t = some (.int .i64)) (h : -9223372036854775808 ≤ m + n ∧ m + n ≤ 9223372036854775807 := by omega) : Ft.ok P w (.g2 (fun x y => .binOp .add t x y t) (.int .i64 m) (.int .i64 n) (.int .i64 (m + n))) := fun _ _ _ _ ho hx hy => run_iadd ht hx hy h.1 h.2 ho
theorem tsub (m n : Int) (ht : P.underlying t = some (.int .i64)) (h : -9223372036854775808 ≤ m - n ∧ m - n ≤ 9223372036854775807 := by omega) : Ft.ok P w (.g2 (fun x y => .binOp .sub t x y t) (.int .i64 m) (.int .i64 n) (.int .i64 (m - n))) := fun _ _ _ _ ho hx hy => run_isub ht hx hy h.1 h.2 ho
theorem tmul (m n : Int) (ht : P.underlying t = some (.int .i64)) (h : -9223372036854775808 ≤ m * n ∧ m * n ≤ 9223372036854775807 := by omega) : Ft.ok P w (.g2 (fun x y => .binOp .mul t x y t) (.int .i64 m) (.int .i64 n) (.int .i64 (m * n))) := fun _ _ _ _ ho hx hy => run_imul ht hx hy h.1 h.2 ho
end
end Go.Pl
/- A walk by computation, with memory as9 a list of entries; what is told of operations. Over whatever program. -/
set_option linter.unusedVariables false
set_option linter.unusedSimpArgs false
namespace Go.Pl
open Go.RowKit
/-! ### memory: what a function owns, one entry each -/
/-- A part of memory: its blocks, and what holds of them. -/
structure Ent where
 B : Nat → Prop
 H : World → Prop
 lt : ∀ {w k}, H w → B k → k < w.heap.size
 fr : ∀ {w w' G}, H w → Fr G w w' → (∀ k, B k → ¬ G k) → H w'
/-- Since w0 but F and new blocks nothing was changed; the entries hold, are apart, and are new or of F. -/
structure Mm (F : Nat → Prop) (w0 w : World) (M : List Ent) : Prop where
 fr : Fr F w0 w
 at_ : ∀ e ∈ M, e.H w
 own : ∀ e ∈ M, ∀ k, e.B k → k < w0.heap.size → F k
 nd : M.Pairwise fun x y => ∀ k, x.B k → ¬ y.B k
section
variable {F G : Nat → Prop} {w0 w w' : World} {M : List Ent}
theorem Mm.nil (F : Nat → Prop) (w : World) : Mm F w w [] := ⟨Fr.refl _ _, fun _ h => (by cases h), fun _ h => (by cases h), .nil⟩
theorem Mm.get (h : Mm F w0 w M) (j : Nat) {e : Ent} (hj : M[j]? = some e) : e.H w := h.at_ e (List.mem_of_getElem? hj)
/-- Nothing of it was changed. -/
theorem Mm.q (h : Mm F w0 w M) (f : Fr (fun _ => False) w w') : Mm F w0 w' M :=
 ⟨h.fr.trans' f (fun _ _ => False.elim), fun e he => e.fr (h.at_ e he) f (fun _ _ => id), h.own, h.nd⟩
/-- A new entry, of new blocks. -/
theorem Mm.add (h : Mm F w0 w M) (f : Fr (fun _ => False) w w') (e : Ent) (he : e.H w') (hb : ∀ k, e.B k → w.heap.size ≤ k) : Mm F w0 w' (M ++ [e]) := by
 refine ⟨h.fr.trans' f (fun _ _ => False.elim), fun x hx => ?_, fun x hx k hk hl => ?_, ?_⟩
 ·rcases List.mem_append.1 hx with hx | hx
  ·exact x.fr (h.at_ x hx) f (fun _ _ => id)
  ·rw [List.mem_singleton] at hx; subst hx; exact he
 ·rcases List.mem_append.1 hx with hx | hx
  ·exact h.own x hx k hk hl
  ·rw [List.mem_singleton] at hx; subst hx
   have := hb k hk; have := h.fr.size; omega
 ·refine List.pairwise_append.2 ⟨h.nd, List.pairwise_singleton _ _, fun x hx y hy k hk hy' => ?_⟩
  rw [List.mem_singleton] at hy; subst hy
  have := x.lt (h.at_ x hx) hk; have := hb k hy'; omega
/-- An entry was changed; its blocks are its own or new. -/
theorem Mm.put (h : Mm F w0 w M) (j : Nat) {e e' : Ent} (hj : M[j]? = some e) (f : Fr G w w') (hG : ∀ k, k < w.heap.size → G k → e.B k) (he : e'.H w') (hb : ∀ k, e'.B k → e.B k ∨ w.heap.size ≤ k) : Mm F w0 w' (M.set j e') := by
 have hlt := (List.getElem?_eq_some_iff.1 hj).1
 have hje := (List.getElem?_eq_some_iff.1 hj).2
 have hap : ∀ i (hi : i < M.length), i ≠ j → ∀ k, M[i].B k → ¬ e.B k := by
  intro i hi hij k hk hek
  rw [← hje] at hek
  rcases Nat.lt_or_ge i j with hl | hl
  ·exact List.pairwise_iff_getElem.1 h.nd i j hi hlt hl k hk hek
  ·exact List.pairwise_iff_getElem.1 h.nd j i hlt hi (by omega) k hek hk
 have hmem : ∀ x ∈ M.set j e', x = e' ∨ ∃ i, ∃ hi : i < M.length, i ≠ j ∧ x = M[i] := by
  intro x hx
  obtain ⟨i, hi, rfl⟩ := List.mem_iff_getElem.1 hx
  rw [List.getElem_set]
  by_cases hij : j = i
  ·rw [if_pos hij]; exact .inl rfl
  ·rw [if_neg hij]; exact .inr ⟨i, by simpa using hi, fun e => hij e.symm, rfl⟩
 have hej : e ∈ M := List.mem_of_getElem? hj
 refine ⟨h.fr.trans' f fun r hr hg => h.own e hej r (hG r (Nat.lt_of_lt_of_le hr h.fr.size) hg) hr, fun x hx => ?_, fun x hx k hk hl => ?_, ?_⟩
 ·rcases hmem x hx with rfl | ⟨i, hi, hij, rfl⟩
  ·exact he
  ·exact (M[i]).fr (h.at_ _ (List.getElem_mem hi)) f fun k hk hg => hap i hi hij k hk (hG k ((M[i]).lt (h.at_ _ (List.getElem_mem hi)) hk) hg)
 ·rcases hmem x hx with rfl | ⟨i, hi, hij, rfl⟩
  ·rcases hb k hk with hb | hb
   ·exact h.own e hej k hb hl
   ·have := h.fr.size; omega
  ·exact h.own _ (List.getElem_mem hi) k hk hl
 ·rw [List.pairwise_iff_getElem]
  intro a b ha hb' hab k hka hkb
  rw [List.length_set] at ha hb'
  rw [List.getElem_set] at hka hkb
  by_cases ea : j = a
  ·rw [if_pos ea] at hka
   have eb : j ≠ b := by omega
   rw [if_neg eb] at hkb
   rcases hb k hka with h1 | h1
   ·exact hap b hb' (fun z => eb z.symm) k hkb h1
   ·have := (M[b]).lt (h.at_ _ (List.getElem_mem hb')) hkb; omega
  ·rw [if_neg ea] at hka
   by_cases eb : j = b
   ·rw [if_pos eb] at hkb
    rcases hb k hkb with h1 | h1
    ·exact hap a ha (fun z => ea z.symm) k hka h1
    ·have := (M[a]).lt (h.at_ _ (List.getElem_mem ha)) hka; omega
   ·rw [if_neg eb] at hkb
    exact List.pairwise_iff_getElem.1 h.nd a b ha hb' hab k hka hkb
/-- Some of the entries. -/
def pickE (M : List Ent) : List Nat → List Ent
 | [] => []
 | j :: l => match M[j]? with
  | some e => e :: pickE M l
  | none => pickE M l
theorem Mm.sub {M' : List Ent} (h : Mm F w0 w M) (hs : M'.Sublist M) : Mm F w0 w M' :=
 ⟨h.fr, fun e he => h.at_ e (hs.subset he), fun e he => h.own e (hs.subset he), h.nd.sublist hs⟩
theorem Mm.cast {M' : List Ent} (h : Mm F w0 w M) (e : M = M') : Mm F w0 w M' := e ▸ h
theorem pickE_mem {M : List Ent} : ∀ {l : List Nat} {e}, e ∈ pickE M l → ∃ j ∈ l, M[j]? = some e
 | [], e, h => by cases h
 | j :: l, e, h => by
  unfold pickE at h
  split at h
  ·rename_i x hx
   rcases List.mem_cons.1 h with rfl | h
   ·exact ⟨j, .head _, hx⟩
   ·obtain ⟨i, hi, h⟩ := pickE_mem h; exact ⟨i, .tail _ hi, h⟩
  ·obtain ⟨i, hi, h⟩ := pickE_mem h; exact ⟨i, .tail _ hi, h⟩
theorem Mm.pick (h : Mm F w0 w M) (l : List Nat) {M' : List Ent} (hM : pickE M l = M' := by rfl) (hl : l.Nodup := by decide) : Mm F w0 w M' := by
 subst hM
 refine ⟨h.fr, fun e he => ?_, fun e he => ?_, ?_⟩
 ·obtain ⟨j, _, hj⟩ := pickE_mem he; exact h.at_ e (List.mem_of_getElem? hj)
 ·obtain ⟨j, _, hj⟩ := pickE_mem he; exact h.own e (List.mem_of_getElem? hj)
 ·induction l with
  | nil => exact .nil
  | cons j l ih =>
   unfold pickE
   rw [List.nodup_cons] at hl
   split
   ·rename_i e he
    refine List.pairwise_cons.2 ⟨fun y hy => ?_, ih hl.2⟩
    obtain ⟨i, hi, hy⟩ := pickE_mem hy
    have hij : i ≠ j := fun e => hl.1 (e ▸ hi)
    obtain ⟨h1, rfl⟩ := List.getElem?_eq_some_iff.1 he
    obtain ⟨h2, rfl⟩ := List.getElem?_eq_some_iff.1 hy
    intro k hk hk'
    rcases Nat.lt_or_ge i j with hl | hl
    ·exact List.pairwise_iff_getElem.1 h.nd i j h2 h1 hl k hk' hk
    ·exact List.pairwise_iff_getElem.1 h.nd j i h1 h2 (by omega) k hk hk'
   ·exact ih hl.2
end
/-- A block that is known whole. -/
def bk (b : Nat) (cs : Array Value) (T : TypeId) : Ent where
 B k := k = b
 H w := w.heap[b]? = some (.cells cs T (0, 0))
 lt h e := by subst e; exact lt_of_blk h
 fr h f hn := f.obj h (hn _ rfl)
/-- A row of one's own. -/
def rw_ {α : Type} (f : α → List Value) (c : Nat) (E : TypeId) (v : Value) (L : List α) : Ent where
 B k := v.ownBlock = some k
 H w := ow f c E w 0 v L
 lt h e := (h.lt e).2
 fr h f' hn := h.fr f' hn
/-- A map as9 a function. -/
def mp (P : Program) (K : TypeId) (b n : Nat) (m : Value → Option Value) : Ent where
 B k := k = b
 H w := MapN P K w b n m
 lt h e := by subst e; exact h.lt
 fr h f hn := h.fr f (hn _ rfl)
/-! ### short names of values -/
abbrev vI (n : Int) : Value := .int .i64 n
abbrev vB (b : Bool) : Value := .bool b
abbrev vP (b k : Nat) : Value := .pointer (some ⟨b, k, none⟩)
abbrev vL (p : Option Addr) (n c : Nat) : Value := .slice p n c
abbrev vA (l : List Value) : Value := .agg l.toArray
/-! ### events -/
section
variable {P : Program} {B : Code} {R : Pst} {ds : List Deferred} {n : Nat} {p : Option (Nat × Nat)} {L : Frm} {w w0 : World} {F : List Ft} {F0 : Nat → Prop} {M : List Ent}
/-- A call that changes nothing old. -/
theorem calm (r' i' d : Nat) (N : Frm) {f : FuncId} {args : Array Value} {v : Value} (hF : AllF P w F) (hM : Mm F0 w0 w M) (hc : Calls P f args w fun e w' => e = .returned v ∧ Fr (fun _ => False) w w') (k : ∀ w', Mm F0 w0 w' M → AtO P B R ds n (some (r', i' + 1)) ((d, v) :: (N ++ L)) w') (h : (lhs (go P w n B p L r' i' F) N L, opOf P w n L (go P w n B p L r' i' F)) = (rhs (go P w n B p L r' i' F) N B r' i', some (d, .ok (.enter f args, w))) := by kernel_rfl) : AtO P B R ds n p L w :=
 calv r' i' d N hF hc (fun w' f => k w' (hM.q f)) h
/-- A call that changes nothing old, with an answer of which K is known. -/
theorem calk (r' i' d : Nat) (N : Frm) {f : FuncId} {args : Array Value} {K : Value → World → Prop} (hF : AllF P w F) (hM : Mm F0 w0 w M) (hc : Calls P f args w fun e w' => (∃ v, e = .returned v ∧ K v w') ∧ Fr (fun _ => False) w w') (k : ∀ v w', K v w' → Mm F0 w0 w' M → Fr (fun _ => False) w w' → AtO P B R ds n (some (r', i' + 1)) ((d, v) :: (N ++ L)) w') (h : (lhs (go P w n B p L r' i' F) N L, opOf P w n L (go P w n B p L r' i' F)) = (rhs (go P w n B p L r' i' F) N B r' i', some (d, .ok (.enter f args, w))) := by kernel_rfl) : AtO P B R ds n p L w :=
 cal r' i' d N (K := fun v w' => K v w' ∧ Fr (fun _ => False) w w') hF (hc.mono fun e w' ⟨⟨v, h1, h2⟩, h3⟩ => ⟨v, h1, h2, h3⟩) (fun v w' ⟨h1, f⟩ => k v w' h1 (hM.q f) f) h
/-- A new block. -/
theorem newm (r' i' d : Nat) (N : Frm) {cs : Array Value} {T : TypeId} {v : Nat → Value} (hF : AllF P w F) (hM : Mm F0 w0 w M) (k : ∀ b w', Mm F0 w0 w' (M ++ [bk b cs T]) → AtO P B R ds n (some (r', i' + 1)) ((d, v b) :: (N ++ L)) w') (h : (lhs (go P w n B p L r' i' F) N L, opOf P w n L (go P w n B p L r' i' F)) = (rhs (go P w n B p L r' i' F) N B r' i', some (d, .ok (.value (v w.heap.size), w.alloc (.cells cs T)))) := by kernel_rfl) : AtO P B R ds n p L w :=
 opx r' i' d N hF (k _ _ (hM.add ((Fr.refl _ _).alloc _) _ (blk_alloc_new _ _) fun k e => by have : k = w.heap.size := e; omega)) h
/-- A new map. -/
theorem newmp (r' i' d : Nat) (N : Frm) (K : TypeId) (hF : AllF P w F) (hM : Mm F0 w0 w M) (k : ∀ b w', Mm F0 w0 w' (M ++ [mp P K b 0 fun _ => none]) → AtO P B R ds n (some (r', i' + 1)) ((d, .map (some b)) :: (N ++ L)) w') (h : (lhs (go P w n B p L r' i' F) N L, opOf P w n L (go P w n B p L r' i' F)) = (rhs (go P w n B p L r' i' F) N B r' i', some (d, .ok (.value (.map (some w.heap.size)), w.alloc (.map #[] 0)))) := by kernel_rfl) : AtO P B R ds n p L w :=
 opx r' i' d N hF (k _ _ (hM.add ((Fr.refl _ _).alloc _) _ (MapN.made w) fun k e => by have : k = w.heap.size := e; omega)) h
/-- A row with further cells. -/
def putA (cs : Array Value) (k : Nat) : List Value → Array Value
 | [] => cs
 | v :: l => putA (cs.setIfInBounds k v) (k + 1) l
theorem putA_size {l : List Value} : ∀ {cs : Array Value} {k : Nat}, (putA cs k l).size = cs.size := by
 induction l with
 | nil => intro cs k; rfl
 | cons v l ih => intro cs k; unfold putA; rw [ih]; simp
theorem run_storeCells {P : Program} {b : Nat} {T0 : TypeId} : ∀ (l : List Value) {cs : Array Value} {k i : Nat} {w : World}, w.heap[b]? = some (.cells cs T0 (0, 0)) → k + i + l.length ≤ cs.size → l.all (·.oneCell') = true →
  ∃ w', (storeCells ⟨b, k, none⟩ l i).run P w = .ok () w' ∧ w'.heap[b]? = some (.cells (putA cs (k + i) l) T0 (0, 0)) ∧ Fr (fun r => r = b) w w'
 | [], cs, k, i, w, h, _, _ => ⟨w, by simp [storeCells], h, Fr.refl _ _⟩
 | v :: l, cs, k, i, w, h, hk, ho => by
  rw [List.length_cons] at hk
  rw [List.all_cons, Bool.and_eq_true] at ho
  have hc : w.cell? ⟨b, k + i, none⟩ = some cs[k + i] := by rw [cell_of_blk h]; exact Array.getElem?_eq_getElem (by omega)
  have hz := free_of_blk h (k + i)
  obtain ⟨w', h1, h2, h3⟩ := run_storeCells (P := P) l (k := k) (i := i + 1) (blk_setCell_same (off := k + i) h v) (by simp; omega) ho.2
  refine ⟨w', ?_, by unfold putA; exact h2, ((Fr.refl (fun r => r = b) w).setCell (p := ⟨b, k + i, none⟩) (fun _ => rfl) v).trans h3⟩
  have ha : (⟨b, k, none⟩ : Addr).add i = ⟨b, k + i, none⟩ := by
   unfold Addr.add; split
   ·rename_i h; subst h; rfl
   ·rfl
  unfold storeCells
  rw [ha]
  simp [go_sem, run_store P w _ v _ ho.1, hc, hz, h1]
/-- A store into a block that is known whole. -/
theorem stm (r' i' : Nat) (N : Frm) (T : TypeId) (j k : Nat) {b : Nat} {cs : Array Value} {T0 : TypeId} (v : Value) (hF : AllF P w F) (hM : Mm F0 w0 w M) (hj : M[j]? = some (bk b cs T0)) (kk : ∀ w', Mm F0 w0 w' (M.set j (bk b (putA cs k v.cells.toList) T0)) → AtO P B R ds n (some (r', i' + 1)) (N ++ L) w') (hT : (Nat.ble (k + v.cells.size) cs.size, v.cells.toList.all (·.oneCell'), (P.info? T).map (·.size)) = (true, true, some v.cells.size) := by kernel_rfl) (h : (lhs (go P w n B p L r' i' F) N L, twoL (go P w n B p L r' i' F) n L (fun x y => .store T x y)) = (rhs (go P w n B p L r' i' F) N B r' i', twoR (go P w n B p L r' i' F) n L (fun x y => .store T x y) none false (vP b k) v) := by kernel_rfl) : AtO P B R ds n p L w := by
 obtain ⟨h1, h2⟩ := Prod.mk.inj hT
 obtain ⟨h3, h2⟩ := Prod.mk.inj h2
 have h1 := Nat.le_of_ble_eq_true h1
 obtain ⟨w', g1, g2, g3⟩ := run_storeCells (P := P) v.cells.toList (k := k) (i := 0) (hM.get j hj) (by simpa using h1) h3
 refine sto (w' := w') r' i' N hF (fun o ρ x y ho hx hy => ?_) (kk w' (hM.put j hj g3 (fun k _ e => e) g2 fun k e => .inl e)) h
 obtain ⟨i, hi, hs⟩ := Option.map_eq_some_iff.1 h2
 have hs : i.size = v.cells.size := hs
 simp only [execOp, ho, hx, hy, Instr.storeAt, Instr.sureAddr, storeVar, sizeOf, typeInfo]
 generalize v.cells = c at *
 simp [go_sem, hi, hs, g1]
end
/-! ### what is told of operations -/
section
variable {P : Program} {w w0 : World} {F0 : Nat → Prop} {M : List Ent}
/-- A type of one cell. -/
def scT (P : Program) (T : TypeId) : Bool := match P.underlying T with | some (.struct _) => false | some (.array _ _) => false | some _ => true | none => false
/-- A struct's or an array's type of so many cells. -/
def agT (P : Program) (T : TypeId) (k : Nat) : Bool := match P.underlying T with | some (.struct _) => (P.info? T).map (·.size) == some k | some (.array _ _) => (P.info? T).map (·.size) == some k | _ => false
theorem run_load1 {T : TypeId} {g off : Nat} {v : Value} (hT : scT P T = true) (h : w.cell? ⟨g, off, none⟩ = some v) : (Instr.loadAt T (.pointer (some ⟨g, off, none⟩))).run P w = .ok v w := by
 unfold scT at hT
 cases hu : P.underlying T with
 | none => rw [hu] at hT; cases hT
 | some d =>
  rw [hu] at hT
  cases d <;> first | (cases hT; done) | simp [Instr.loadAt, Instr.sureAddr, loadVar, isAgg, run_underlying hu, go_sem, h]
theorem run_loadA {T : TypeId} {g off : Nat} {l : List Value} (hT : agT P T l.length = true) (h : w.rangeAt g off l) : (Instr.loadAt T (.pointer (some ⟨g, off, none⟩))).run P w = .ok (.agg l.toArray) w := by
 unfold agT at hT
 cases hu : P.underlying T with
 | none => rw [hu] at hT; cases hT
 | some d =>
  rw [hu] at hT
  cases d <;> first | (cases hT; done) | exact run_loadAt_mid w g off T l _ h hu rfl (by simpa using hT)
theorem op_load {T : TypeId} {u v : Value} (h : (Instr.loadAt T u).run P w = .ok v w) : Ft.ok P w (.g1 (.load T) u v) := fun o ρ x ho hx => by
 simp only [execOp, ho, hx, Sem.run_bind, h, Result.andThen_ok, Sem.run_pure]
/-- A load of one cell. -/
theorem ld (T : TypeId) {g off : Nat} {v : Value} (h : w.cell? ⟨g, off, none⟩ = some v) (hT : scT P T = true := by kernel_rfl) : Ft.ok P w (.g1 (.load T) (vP g off) v) := op_load (run_load1 hT h)
/-- A load of a struct. -/
theorem la (T : TypeId) {g off : Nat} {l : List Value} (h : w.rangeAt g off l) (hT : agT P T l.length = true := by kernel_rfl) : Ft.ok P w (.g1 (.load T) (vP g off) (vA l)) := op_load (run_loadA hT h)
/-- The same, of memory that was so at the start. -/
theorem ld0 (T : TypeId) {g off : Nat} {v : Value} (hM : Mm F0 w0 w M) (h : w0.cell? ⟨g, off, none⟩ = some v) (hn : ¬ F0 g := by exact fun h => h) (hT : scT P T = true := by kernel_rfl) : Ft.ok P w (.g1 (.load T) (vP g off) v) := ld T (hM.fr.cell h hn) hT
theorem Fr.row {w' : World} {g off : Nat} {l : List Value} (f : Fr F0 w w') (h : w.rangeAt g off l) (hn : ¬ F0 g) : w'.rangeAt g off l := fun j u hu => f.cell (h j u hu) hn
theorem la0 (T : TypeId) {g off : Nat} {l : List Value} (hM : Mm F0 w0 w M) (h : w0.rangeAt g off l) (hn : ¬ F0 g := by exact fun h => h) (hT : agT P T l.length = true := by kernel_rfl) : Ft.ok P w (.g1 (.load T) (vP g off) (vA l)) := la T (hM.fr.row h hn) hT
/-- A load out of a block that is known whole. -/
theorem ldm (T : TypeId) (j k : Nat) {b : Nat} {cs : Array Value} {T0 : TypeId} {v : Value} (hM : Mm F0 w0 w M) (hj : M[j]? = some (bk b cs T0)) (hv : cs[k]? = some v) (hT : scT P T = true := by kernel_rfl) : Ft.ok P w (.g1 (.load T) (vP b k) v) := ld T (bx (hM.get j hj) k hv) hT
theorem lam (T : TypeId) (j k n : Nat) {b : Nat} {cs : Array Value} {T0 : TypeId} (hM : Mm F0 w0 w M) (hj : M[j]? = some (bk b cs T0)) (hT : agT P T ((cs.toList.drop k).take n).length = true := by kernel_rfl) : Ft.ok P w (.g1 (.load T) (vP b k) (vA ((cs.toList.drop k).take n))) :=
 la T (fun i u hu => by
  rw [cell_of_blk (hM.get j hj)]
  have hi := (List.getElem?_eq_some_iff.1 hu).1
  rw [List.length_take] at hi
  rw [List.getElem?_take_of_lt (by omega), List.getElem?_drop, Array.getElem?_toList] at hu
  exact hu) hT
/-- How many cells an element has. -/
def szE (P : Program) (T : TypeId) : Nat := match P.underlying T with | some (.slice e) => ((P.info? e).map (·.size)).getD 0 | some (.array _ e) => ((P.info? e).map (·.size)).getD 0 | _ => 0
def isSl (P : Program) (T : TypeId) : Bool := match P.underlying T with | some (.slice e) => (P.info? e).isSome | _ => false
/-- An element's address. -/
theorem ix (T : TypeId) (cap : Nat) {p : Option Addr} {g off n i : Nat} (hp : p = some ⟨g, off, none⟩) (hi : i < n) {z : Int} (hz : z = (i : Int) := by rfl) (hT : isSl P T = true := by kernel_rfl) : Ft.ok P w (.g2 (.indexAddr T) (vL p n cap) (vI z) (vP g (off + i * szE P T))) := fun o ρ x y ho hx hy => by
 subst hp hz
 unfold isSl at hT
 unfold szE
 cases hu : P.underlying T with
 | none => rw [hu] at hT; cases hT
 | some d =>
  rw [hu] at hT
  cases d with
  | slice e =>
   obtain ⟨q, hq⟩ := Option.isSome_iff_exists.1 hT
   have h1 : (i : Int) < n := by omega
   simp [execOp, ho, hx, hy, Instr.indexAt, run_underlying hu, go_sem, hi, sizeOf, typeInfo, hq]
  | _ => cases hT
end
end Go.Pl
/- What is told of operations: texts, bytes, numbers; sources; short words. Over whatever program. -/
set_option linter.unusedVariables false
set_option linter.unusedSimpArgs false
namespace Go.Pl
open Go.RowKit
/-! ### short words -/
theorem srec {p : Nat → Prop} (h : ∀ m, (∀ k, k < m → p k) → p m) (m : Nat) : p m := Nat.strongRecOn m h
theorem dt {p : Prop} [Decidable p] (h : decide p = true) : p := of_decide_eq_true h
theorem df {p : Prop} [Decidable p] (h : decide p = false) : ¬ p := of_decide_eq_false h
theorem et {α : Type} [BEq α] [LawfulBEq α] {a b : α} (h : (a == b) = true) : a = b := eq_of_beq h
theorem ef {α : Type} [BEq α] [LawfulBEq α] {a b : α} (h : (a == b) = false) : a ≠ b := fun e => by rw [e, beq_self_eq_true] at h; cases h
theorem gl {α : Type} {l : List α} {i : Nat} {x : α} (h : l[i]? = some x) : i < l.length := (List.getElem?_eq_some_iff.1 h).1
theorem geb {α : Type} {l : List α} {i : Nat} (h : i < l.length) : ∃ x, l[i]? = some x := ⟨_, List.getElem?_eq_getElem h⟩
theorem gd {α : Type} {l : List α} {i : Nat} {x : α} (h : l[i]? = some x) : l.drop i = x :: l.drop (i + 1) := by
  obtain ⟨h1, h2⟩ := List.getElem?_eq_some_iff.1 h
  rw [List.drop_eq_getElem_cons h1, h2]
theorem gm {α : Type} {l : List α} {i : Nat} {x : α} (h : l[i]? = some x) : x ∈ l := List.mem_of_getElem? h
theorem gt_ {α : Type} {l : List α} {i : Nat} {x : α} (h : l[i]? = some x) : l.take (i + 1) = l.take i ++ [x] := by
  obtain ⟨h1, h2⟩ := List.getElem?_eq_some_iff.1 h
  rw [List.take_add_one, h]; rfl
/-! ### texts -/
abbrev Bys := List UInt8
/-- A text's bytes. -/
def ofL (l : Bys) : ByteArray := ⟨l.toArray⟩
theorem ofL_inj {a b : Bys} : ofL a = ofL b ↔ a = b := by
  unfold ofL
  constructor
  · intro h
    have := congrArg (fun x : ByteArray => x.data.toList) h
    simpa using this
  · rintro rfl; rfl
theorem ofL_toList (a : Bys) : (ofL a).toList = a := by rw [ByteArray.toList_eq]; unfold ofL; simp
theorem ofL_of (s : ByteArray) : ofL s.toList = s := by
  rw [ByteArray.toList_eq]; unfold ofL; simp
theorem ofL_size (a : Bys) : (ofL a).size = a.length := by unfold ofL; simp [ByteArray.size]
theorem exists_ofL (s : ByteArray) : ∃ l, s = ofL l := ⟨_, (ofL_of s).symm⟩
theorem ofL_eq (a b : Bys) : (decide (ofL a = ofL b)) = (a == b) := by
  rw [Bool.eq_iff_iff, beq_iff_eq, decide_eq_true_eq, ofL_inj]
abbrev vS (s : Bys) : Value := .string (ofL s)
/-- Bytes in order. -/
def blt (a b : Bys) : Bool := Op.bytesLess a b
theorem bl_tri : ∀ (x y : List UInt8), (Op.bytesLess x y || x == y) = !Op.bytesLess y x
  | [], [] => by simp [Op.bytesLess]
  | _ :: _, [] => by simp [Op.bytesLess]
  | [], _ :: _ => by simp [Op.bytesLess]
  | a :: x, b :: y => by
    have ih := bl_tri x y
    simp only [Op.bytesLess]
    rcases (by rcases Nat.lt_trichotomy a.toNat b.toNat with h | h | h
               · exact .inl (UInt8.lt_iff_toNat_lt.2 h)
               · exact .inr (.inl (UInt8.toNat.inj h))
               · exact .inr (.inr (UInt8.lt_iff_toNat_lt.2 h)) : a < b ∨ a = b ∨ b < a) with h | h | h
    · have h1 : ¬ b < a := fun k => UInt8.lt_irrefl _ (UInt8.lt_trans h k)
      have h2 : (b == a) = false := by rw [beq_eq_false_iff_ne]; rintro rfl; exact UInt8.lt_irrefl _ h
      simp [h, h1, h2]
    · subst h
      have h1 : ¬ a < a := UInt8.lt_irrefl a
      simp only [h1, decide_false, Bool.false_or, beq_self_eq_true, Bool.true_and]
      rw [← ih]; simp
    · have h1 : ¬ a < b := fun k => UInt8.lt_irrefl _ (UInt8.lt_trans h k)
      have h2 : (a == b) = false := by rw [beq_eq_false_iff_ne]; rintro rfl; exact UInt8.lt_irrefl _ h
      simp [h, h1, h2]
/-! ### sources -/
section
variable {α : Type} {f : α → List Value} {c : Nat}
/-- v is a slice that holds L. -/
def Src (f : α → List Value) (c : Nat) (w : World) (v : Value) (L : List α) : Prop := ∃ p cap, v = .slice p L.length cap ∧ L.length ≤ cap ∧ cap ≤ 9223372036854775807 ∧ srcAt f c w w.heap.size p L ∧ (p = none → cap = 0)
theorem Src.fr {w w' : World} {v : Value} {L : List α} (h : Src f c w v L) (k : Fr (fun _ => False) w w') : Src f c w' v L := by
  obtain ⟨p, cap, h1, h2, h3, h4, h5⟩ := h
  exact ⟨p, cap, h1, h2, h3, (h4.fr k fun _ _ h => h).mono k.size, h5⟩
theorem Src.nil (w : World) : Src f c w (.slice none 0 0) ([] : List α) := ⟨none, 0, rfl, Nat.le_refl _, by omega, .inl rfl, fun _ => rfl⟩
theorem Src.bnd {w : World} {v : Value} {L : List α} (h : Src f c w v L) : L.length ≤ 9223372036854775807 := by
  obtain ⟨p, cap, h1, h2, h3, h4, h5⟩ := h; omega
/-- The slice at p holds L. -/
structure SrcP (f : α → List Value) (c : Nat) (w : World) (p : Option Addr) (cap : Nat) (L : List α) : Prop where
  le : L.length ≤ cap
  ca : cap ≤ 9223372036854775807
  at_ : srcAt f c w w.heap.size p L
  nil : p = none → cap = 0
theorem Src.op {w : World} {v : Value} {L : List α} (h : Src f c w v L) : ∃ p cap, v = vL p L.length cap ∧ SrcP f c w p cap L := by
  obtain ⟨p, cap, h1, h2, h3, h4, h5⟩ := h
  exact ⟨p, cap, h1, h2, h3, h4, h5⟩
theorem SrcP.src {w : World} {p : Option Addr} {cap : Nat} {L : List α} (h : SrcP f c w p cap L) : Src f c w (vL p L.length cap) L := ⟨p, cap, rfl, h.le, h.ca, h.at_, h.nil⟩
theorem SrcP.fr {w w' : World} {p : Option Addr} {cap : Nat} {L : List α} (h : SrcP f c w p cap L) (k : Fr (fun _ => False) w w') : SrcP f c w' p cap L := ⟨h.le, h.ca, (h.at_.fr k fun _ _ h => h).mono k.size, h.nil⟩
theorem Src.p {w : World} {p : Option Addr} {n cap : Nat} {L : List α} (h : Src f c w (vL p n cap) L) : n = L.length ∧ SrcP f c w p cap L := by
  obtain ⟨p', cap', h1, h2⟩ := h.op
  cases h1
  exact ⟨rfl, h2⟩
theorem SrcP.bnd {w : World} {p : Option Addr} {cap : Nat} {L : List α} (h : SrcP f c w p cap L) : L.length ≤ 9223372036854775807 := Nat.le_trans h.le h.ca
theorem SrcP.el {w : World} {p : Option Addr} {cap : Nat} {L : List α} (h : SrcP f c w p cap L) {i : Nat} (hi : i < L.length) : ∃ y, L[i]? = some y ∧ ∃ g off, p = some ⟨g, off, none⟩ ∧ w.rangeAt g (off + i * c) (f y) := by
  obtain ⟨g, off, h1, _, h2⟩ := h.at_.at hi
  exact ⟨_, List.getElem?_eq_getElem hi, g, off, h1, h2 i _ (List.getElem?_eq_getElem hi)⟩
/-- The slice at p holds L, in a block below B. -/
structure SrcB (f : α → List Value) (c : Nat) (w : World) (B : Nat) (p : Option Addr) (cap : Nat) (L : List α) : Prop where
  le : L.length ≤ cap
  ca : cap ≤ 9223372036854775807
  at_ : srcAt f c w B p L
  nil : p = none → cap = 0
theorem SrcP.b {w w' : World} {p : Option Addr} {cap : Nat} {L : List α} (h : SrcP f c w p cap L) (k : Fr (fun _ => False) w w') : SrcB f c w' w.heap.size p cap L := ⟨h.le, h.ca, h.at_.fr k fun _ _ h => h, h.nil⟩
theorem SrcB.bnd {w : World} {B : Nat} {p : Option Addr} {cap : Nat} {L : List α} (h : SrcB f c w B p cap L) : L.length ≤ 9223372036854775807 := Nat.le_trans h.le h.ca
theorem SrcB.eb {w : World} {B : Nat} {p : Option Addr} {cap : Nat} {L : List α} {G : Nat → Prop} (h : SrcB f c w B p cap L) (hG : ∀ k, G k → B ≤ k) {i : Nat} (hi : i < L.length) : ∃ y, L[i]? = some y ∧ ∃ g off, p = some ⟨g, off, none⟩ ∧ w.rangeAt g (off + i * c) (f y) ∧ ¬ G g := by
  obtain ⟨g, off, h1, h3, h2⟩ := h.at_.at hi
  exact ⟨_, List.getElem?_eq_getElem hi, g, off, h1, h2 i _ (List.getElem?_eq_getElem hi), fun k => by have := hG g k; omega⟩
theorem rs {w : World} {g off : Nat} {l : List Value} (h : w.rangeAt g off l) (k n : Nat) : w.rangeAt g (off + k) ((l.drop k).take n) := by
  intro j u hu
  have hj : j < n := by
    have := (List.getElem?_eq_some_iff.1 hu).1
    rw [List.length_take] at this; omega
  rw [List.getElem?_take_of_lt hj, List.getElem?_drop] at hu
  rw [Nat.add_assoc]; exact h _ _ hu
end
/-! ### what is told -/
section
variable {P : Program} {w w0 : World} {T : TypeId}
theorem rz {f : Operand → Operand → Op} {v u : Value} {b c : Bool} (h : Ft.ok P w (.g2 f v u (.bool b))) (e : b = c) : Ft.ok P w (.g2 f v u (.bool c)) := by subst e; exact h
theorem seq (T : TypeId) (a b : Bys) : Ft.ok P w (.g2 (fun x y => .binOp .eql T x y T) (vS a) (vS b) (vB (a == b))) := fun _ _ _ _ ho hx hy => by
  rw [← ofL_eq]; exact run_seql hx hy ho
theorem sne (T : TypeId) (a b : Bys) : Ft.ok P w (.g2 (fun x y => .binOp .neq T x y T) (vS a) (vS b) (vB (!(a == b)))) := fun _ _ _ _ ho hx hy => by
  rw [← ofL_eq]; exact run_sneq hx hy ho
theorem run_sleq {s u : ByteArray} {o : Oper} {ρ : Operand → Value} {x y : Operand} {t : TypeId} (hx : ρ x = .string s) (hy : ρ y = .string u) (ho : o.op = .binOp .leq t x y t) : (execOp ρ o).run P w = .ok (.value (.bool (!Op.bytesLess u.toList s.toList))) w := by
  simp [execOp, ho, hx, hy, go_sem]; exact bl_tri _ _
theorem sle (T : TypeId) (a b : Bys) : Ft.ok P w (.g2 (fun x y => .binOp .leq T x y T) (vS a) (vS b) (vB (!(blt b a)))) := fun o ρ x y ho hx hy => by
  have := run_sleq (P := P) (w := w) (o := o) (ρ := ρ) (t := T) hx hy ho
  rw [ofL_toList, ofL_toList] at this; exact this
theorem tlen (T : TypeId) (s : Bys) (hT : P.underlying T = some .string := by kernel_rfl) : Ft.ok P w (.g1 (fun x => .call ⟨.builtin .len, #[x], #[T]⟩) (vS s) (vI s.length)) := fun o ρ x ho hx => by
  have := ofL_size s
  simp [execOp, ho, hx, resolve, invoke, go_sem, this, hT]
theorem run_byte (hT : P.underlying T = some .string) {s : Bys} {b : UInt8} {i : Nat} {o : Oper} {ρ : Operand → Value} {x y : Operand} (ho : o.op = .index T x y) (hx : ρ x = .string (ofL s)) (hy : ρ y = .int .i64 i) (hb : s[i]? = some b) : (execOp ρ o).run P w = .ok (.value (.int .u8 b.toNat)) w := by
  have hi : i < s.length := (List.getElem?_eq_some_iff.1 hb).1
  have h1 : (i : Int) < s.length := by omega
  have h2 := ofL_size s
  have h3 : (ofL s)[i]'(by rw [h2]; exact hi) = b := by
    have := (List.getElem?_eq_some_iff.1 hb).2
    unfold ofL; simpa [ByteArray.getElem_eq_getElem_data] using this
  simp [execOp, ho, hx, hy, go_sem, h1, h2, hi, h3, hT]
theorem byt (T : TypeId) {s : Bys} {i : Nat} {b : UInt8} (h : s[i]? = some b) {z : Int} (hz : z = (i : Int) := by rfl) (hT : P.underlying T = some .string := by kernel_rfl) : Ft.ok P w (.g2 (.index T) (vS s) (vI z) (.int .u8 (b.toNat : Int))) := fun _ _ _ _ ho hx hy => run_byte hT ho hx (by rw [hy, hz]) h
theorem tquo (m n : Int) (ht : P.underlying T = some (.int .i64)) (hm : 0 ≤ m ∧ m ≤ 9223372036854775807 := by omega) (hn : 0 < n ∧ n ≤ 9223372036854775807 := by omega) : Ft.ok P w (.g2 (fun x y => .binOp .quo T x y T) (vI m) (vI n) (vI (m / n))) := fun o ρ x y ho hx hy => by
  have h1 := Int.ediv_nonneg hm.1 (show 0 ≤ n by omega)
  have h2 := Int.ediv_le_self n hm.1
  have h3 : ¬ n = 0 := by omega
  have h4 := IntWalk.i64_in (m / n) ⟨by omega, by omega⟩
  have h5 : m.tdiv n = m / n := Int.tdiv_eq_ediv_of_nonneg hm.1
  simp [execOp, ho, hx, hy, go_sem, h3, h5, h4, run_underlying ht]
theorem trem (m n : Int) (ht : P.underlying T = some (.int .i64)) (hm : 0 ≤ m ∧ m ≤ 9223372036854775807 := by omega) (hn : 0 < n ∧ n ≤ 9223372036854775807 := by omega) : Ft.ok P w (.g2 (fun x y => .binOp .rem T x y T) (vI m) (vI n) (vI (m % n))) := fun o ρ x y ho hx hy => by
  have h1 := Int.emod_nonneg m (show n ≠ 0 by omega)
  have h2 := Int.emod_lt_of_pos m hn.1
  have h3 : ¬ n = 0 := by omega
  have h4 := IntWalk.i64_in (m % n) ⟨by omega, by omega⟩
  have h5 : m.tmod n = m % n := Int.tmod_eq_emod_of_nonneg hm.1
  simp [execOp, ho, hx, hy, go_sem, h3, h5, h4, run_underlying ht]
theorem taddw (m n : Int) (ht : P.underlying T = some (.int .i64)) : Ft.ok P w (.g2 (fun x y => .binOp .add T x y T) (vI m) (vI n) (vI (IntKind.i64.wrap (m + n)))) := fun o ρ x y ho hx hy => by
  simp [execOp, ho, hx, hy, go_sem, run_underlying ht]
theorem max_if (a b : Int) : (if a < b then b else a) = max a b := by omega
theorem min_if (a b : Int) : (if b < a then b else a) = min a b := by omega
theorem tmin (T : TypeId) (m n : Int) : Ft.ok P w (.g2 (fun x y => .call ⟨.builtin .min, #[x, y], #[T, T]⟩) (vI m) (vI n) (vI (min m n))) := fun o ρ x y ho hx hy => by
  simp [execOp, ho, hx, hy, resolve, invoke, go_sem, ← min_if]
theorem tmax (T : TypeId) (m n : Int) : Ft.ok P w (.g2 (fun x y => .call ⟨.builtin .max, #[x, y], #[T, T]⟩) (vI m) (vI n) (vI (max m n))) := fun o ρ x y ho hx hy => by
  simp [execOp, ho, hx, hy, resolve, invoke, go_sem, ← max_if]
end
theorem putA_all : ∀ (l : List Value) (pre : List Value) (cs : Array Value), cs.size = pre.length + l.length → cs.toList.take pre.length = pre → putA cs pre.length l = (pre ++ l).toArray
  | [], pre, cs, hs, hp => by
    simp only [List.length_nil, Nat.add_zero] at hs
    have : cs.toList = pre := by rw [← hp, List.take_of_length_le (by simp [hs])]
    simp [putA, ← this]
  | v :: l, pre, cs, hs, hp => by
    unfold putA
    rw [List.length_cons] at hs
    have := putA_all l (pre ++ [v]) (cs.setIfInBounds pre.length v) (by simp; omega) (by
      have h1 : pre.length < cs.toList.length := by simp; omega
      simp only [Array.toList_setIfInBounds, List.length_append, List.length_singleton]
      rw [List.take_set, List.take_add_one, hp, List.getElem?_eq_getElem h1]
      simp)
    simpa using this
/-- The cells of a type's zero value. -/
def zT (P : Program) (T : TypeId) : Array Value := match P.info? T with
  | some i => (match i.zero with | some v => v.cells | none => #[])
  | none => #[]
section
variable {P : Program} {B : Code} {R : Pst} {ds : List Deferred} {n : Nat} {p : Option (Nat × Nat)} {L : Frm} {w w0 : World} {F : List Ft} {F0 : Nat → Prop} {M : List Ent}
/-- A variable that is made and written. -/
theorem varm (r' i' d : Nat) (N N2 : Frm) (T : TypeId) (v : Value) (hF : AllF P w F) (hM : Mm F0 w0 w M) (k : ∀ b w', Mm F0 w0 w' (M ++ [bk b v.cells T]) → AtO P B R ds n (some (r', i' + 2)) (N2 ++ (d, vP b 0) :: (N ++ L)) w')
    (hT : ((zT P T).size, v.cells.toList.all (·.oneCell'), (P.info? T).map (·.size)) = (v.cells.size, true, some v.cells.size) := by kernel_rfl)
    (h : (lhs (go P w n B p L r' i' F) N L, opOf P w n L (go P w n B p L r' i' F)) = (rhs (go P w n B p L r' i' F) N B r' i', some (d, .ok (.value (vP w.heap.size 0), w.alloc (.cells (zT P T) T)))) := by kernel_rfl)
    (h2 : ∀ b w', (lhs (go P w' n B (some (r', i' + 1)) ((d, vP b 0) :: (N ++ L)) r' (i' + 1) []) N2 ((d, vP b 0) :: (N ++ L)), twoL (go P w' n B (some (r', i' + 1)) ((d, vP b 0) :: (N ++ L)) r' (i' + 1) []) n ((d, vP b 0) :: (N ++ L)) (fun x y => .store T x y)) = (rhs (go P w' n B (some (r', i' + 1)) ((d, vP b 0) :: (N ++ L)) r' (i' + 1) []) N2 B r' (i' + 1), twoR (go P w' n B (some (r', i' + 1)) ((d, vP b 0) :: (N ++ L)) r' (i' + 1) []) n ((d, vP b 0) :: (N ++ L)) (fun x y => .store T x y) none false (vP b 0) v) := by intro b w'; kernel_rfl) : AtO P B R ds n p L w := by
  obtain ⟨h1, h3⟩ := Prod.mk.inj hT
  have h3 := Prod.mk.inj h3
  refine newm r' i' d N (v := fun b => vP b 0) hF hM (fun b w1 hM1 => ?_) h
  refine stm r' (i' + 1) N2 T M.length 0 v f0 hM1 (b := b) (cs := zT P T) (T0 := T) (by simp) (fun w2 hM2 => ?_) ?_ (h2 b w1)
  · have hs : putA (zT P T) 0 v.cells.toList = v.cells := by
      have := putA_all v.cells.toList [] (zT P T) (by simp [h1]) (by simp)
      simpa using this
    rw [hs] at hM2
    have : (M ++ [bk b (zT P T) T]).set M.length (bk b v.cells T) = M ++ [bk b v.cells T] := by simp
    rw [this] at hM2
    exact k b w2 hM2
  · rw [h3.1, h3.2, h1]; simp
end
section
variable {P : Program} {w : World}
/-- A part of a text. -/
theorem tsl3 (T : TypeId) (l : Bys) (i j : Nat) (hij : i ≤ j) (hj : j ≤ l.length) {y z : Int} (hy' : y = (i : Int)) (hz' : z = (j : Int)) (hT : P.underlying T = some .string := by kernel_rfl) : Ft.ok P w (.g3 (fun x a b => .slice T x (some a) (some b) none) (vS l) (vI y) (vI z) (vS ((l.take j).drop i))) := fun o ρ x a b ho hx ha hb => by
  subst hy' hz'
  have h1 : (0 : Int) ≤ (i : Int) := by omega
  have h2 : (i : Int) ≤ (j : Int) := by omega
  have h2' : (j : Int) ≤ (l.length : Int) := by omega
  have h3 : (ofL l).extract i j = ofL ((l.take j).drop i) := by
    apply ByteArray.ext; apply Array.ext'
    simp [ofL, List.take_drop]
    rw [Nat.add_sub_cancel' hij]
  simp [execOp, ho, hx, ha, hb, go_sem, hT, ofL_size, h1, h2, h2', h3]
theorem tsl2 (T : TypeId) (l : Bys) (i : Nat) (hi : i ≤ l.length) {y : Int} (hy' : y = (i : Int)) (hT : P.underlying T = some .string := by kernel_rfl) : Ft.ok P w (.g2 (fun x a => .slice T x (some a) none none) (vS l) (vI y) (vS (l.drop i))) := fun o ρ x a ho hx ha => by
  subst hy'
  have h1 : (0 : Int) ≤ (i : Int) := by omega
  have h2 : (i : Int) ≤ (l.length : Int) := by omega
  have h3 : (ofL l).extract i l.length = ofL (l.drop i) := by
    apply ByteArray.ext; apply Array.ext'
    simp [ofL, List.take_of_length_le]
  simp [execOp, ho, hx, ha, go_sem, hT, ofL_size, h1, h2, h3]
end
end Go.Pl
/- Arrays as9 blocks whose cells are told by a function; results in a cell. Over whatever program. -/
set_option linter.unusedVariables false
set_option linter.unusedSimpArgs false
namespace Go.Pl
open Go.RowKit
/-- n cells, told by a function. -/
def TbA (n : Nat) (cs : Array Value) (t : Nat → Value) : Prop := cs.size = n ∧ ∀ i, i < n → cs[i]? = some (t i)
theorem TbA.set {n : Nat} {cs : Array Value} {t : Nat → Value} (h : TbA n cs t) {k : Nat} (hk : k < n) (v : Value) : TbA n (cs.setIfInBounds k v) (fun i => if i = k then v else t i) := by
 refine ⟨by simp [h.1], fun i hi => ?_⟩
 rw [Array.getElem?_setIfInBounds]
 by_cases e : k = i
 ·subst e; simp [h.1, hk]
 ·rw [if_neg e, h.2 i hi]; simp only [if_neg (Ne.symm e)]
theorem TbA.ext {n : Nat} {cs : Array Value} {t t' : Nat → Value} (h : TbA n cs t) (e : ∀ i, i < n → t i = t' i) : TbA n cs t' := ⟨h.1, fun i hi => by rw [h.2 i hi, e i hi]⟩
theorem TbA.one {n : Nat} {cs : Array Value} {t : Nat → Value} (h : TbA n cs t) (ht : ∀ i, (t i).oneCell' = true) : cs.all (·.oneCell') = true := by
 rw [Array.all_eq_true]
 intro i hi
 have := h.2 i (by rw [← h.1]; exact hi)
 rw [Array.getElem?_eq_getElem hi] at this
 rw [Option.some.inj this]; exact ht i
section
variable {P : Program} {w w0 : World} {F0 : Nat → Prop} {M : List Ent}
def isAr (P : Program) (T : TypeId) (n : Nat) : Bool := match P.underlying T with | some (.array m e) => m == n && (P.info? e).isSome && Nat.blt 1 n | _ => false
/-- An element's address in an array. -/
theorem ixar (T : TypeId) (n : Nat) (kd : IntKind) (g off i : Nat) (hi : i < n) {z : Int} (hz : z = (i : Int) := by rfl) (hT : isAr P T n = true := by kernel_rfl) : Ft.ok P w (.g2 (.indexAddr T) (vP g off) (.int kd z) (vP g (off + i * szE P T))) := fun o ρ x y ho hx hy => by
 subst hz
 unfold isAr at hT
 unfold szE
 cases hu : P.underlying T with
 | none => rw [hu] at hT; cases hT
 | some d =>
  rw [hu] at hT
  cases d with
  | array m e =>
   simp only [Bool.and_eq_true, beq_iff_eq] at hT
   obtain ⟨⟨rfl, h2⟩, h3⟩ := hT
   obtain ⟨q, hq⟩ := Option.isSome_iff_exists.1 h2
   have h4 : ¬ m ≤ 1 := by rw [Nat.blt_eq] at h3; omega
   simp [execOp, ho, hx, hy, Instr.indexAt, run_underlying hu, go_sem, hi, sizeOf, typeInfo, hq, h4]
  | _ => cases hT
/-- A load of a cell of an array. -/
theorem ldt (T : TypeId) (j : Nat) {b i : Nat} {cs : Array Value} {T0 : TypeId} {v : Value} (hM : Mm F0 w0 w M) (hj : M[j]? = some (bk b cs T0)) (hv : cs[i]? = some v) (hT : scT P T = true := by kernel_rfl) : Ft.ok P w (.g1 (.load T) (vP b (0 + i * 1)) v) := by
 have := ld (P := P) T (bx (hM.get j hj) i hv) hT
 rw [show 0 + i * 1 = i by omega]; exact this
/-- A load of a whole array. -/
theorem lac (T : TypeId) (j : Nat) {b n : Nat} {cs : Array Value} {T0 : TypeId} (hM : Mm F0 w0 w M) (hj : M[j]? = some (bk b cs T0)) (hs : cs.size = n) (hT : agT P T n = true := by kernel_rfl) : Ft.ok P w (.g1 (.load T) (vP b 0) (.agg cs)) := by
 have := la (P := P) (w := w) T (g := b) (off := 0) (l := cs.toList) (fun i u hu => by
  rw [cell_of_blk (hM.get j hj), Nat.zero_add, ← Array.getElem?_toList]; exact hu) (by rw [Array.length_toList, hs]; exact hT)
 simpa using this
theorem run_loadW (T : TypeId) (j : Nat) {b n : Nat} {cs : Array Value} {T0 : TypeId} (hM : Mm F0 w0 w M) (hj : M[j]? = some (bk b cs T0)) (hs : cs.size = n) (hT : agT P T n = true := by kernel_rfl) : (Instr.loadAt T (vP b 0)).run P w = .ok (.agg cs) w := by
 have := run_loadA (P := P) (w := w) (T := T) (g := b) (off := 0) (l := cs.toList) (by rw [Array.length_toList, hs]; exact hT) (fun i u hu => by
  rw [cell_of_blk (hM.get j hj), Nat.zero_add, ← Array.getElem?_toList]; exact hu)
 simpa using this
/-- An element of an array's value. -/
theorem ixv (T : TypeId) (n : Nat) {kd : IntKind} {i : Nat} {cs : Array Value} {v : Value} (h : cs[i]? = some v) (hs : cs.size = n) (hT : (match P.underlying T with | some (.array m e) => m == n && scT P e && ((P.info? e).map (·.size) == some 1) && Nat.blt 1 n | _ => false) = true := by kernel_rfl) {z : Int} (hz : z = (i : Int) := by rfl) : Ft.ok P w (.g2 (.index T) (.agg cs) (.int kd z) v) := fun o ρ x y ho hx hy => by
 subst hz
 have hi := (Array.getElem?_eq_some_iff.1 h).1
 cases hu : P.underlying T with
 | none => rw [hu] at hT; cases hT
 | some d =>
  rw [hu] at hT
  cases d with
  | array m e =>
   simp only [Bool.and_eq_true, beq_iff_eq] at hT
   obtain ⟨⟨⟨rfl, h2⟩, h3⟩, h4⟩ := hT
   have h5 : ¬ m ≤ 1 := by rw [Nat.blt_eq] at h4; omega
   have hi' : i < m := by omega
   obtain ⟨q, hq, hq1⟩ := Option.map_eq_some_iff.1 h3
   have hq1 : q.size = 1 := hq1
   unfold scT at h2
   cases he : P.underlying e with
   | none => rw [he] at h2; cases h2
   | some d2 =>
    rw [he] at h2
    have hv : cs[i] = v := (Array.getElem?_eq_some_iff.1 h).2
    cases d2 <;> first | (cases h2; done) | simp [execOp, ho, hx, hy, Instr.index, run_underlying hu, run_underlying he, go_sem, hi', sizeOf, typeInfo, hq, hq1, h5, isAgg, part, h, hv]
  | _ => cases hT
end
section
variable {P : Program} {B : Code} {R : Pst} {ds : List Deferred} {n : Nat} {p : Option (Nat × Nat)} {L : Frm} {w w0 : World} {F : List Ft} {F0 : Nat → Prop} {M : List Ent}
/-- A store of one cell at a place that is told. -/
theorem stm1 (r' i' : Nat) (N : Frm) (T : TypeId) (j i : Nat) {b : Nat} {cs : Array Value} {T0 : TypeId} (v : Value) (hF : AllF P w F) (hM : Mm F0 w0 w M) (hj : M[j]? = some (bk b cs T0)) (hi : i < cs.size) (kk : ∀ w', Mm F0 w0 w' (M.set j (bk b (cs.setIfInBounds i v) T0)) → AtO P B R ds n (some (r', i' + 1)) (N ++ L) w') (hT : (v.cells, v.oneCell', (P.info? T).map (·.size)) = (#[v], true, some 1) := by kernel_rfl) (h : (lhs (go P w n B p L r' i' F) N L, twoL (go P w n B p L r' i' F) n L (fun x y => .store T x y)) = (rhs (go P w n B p L r' i' F) N B r' i', twoR (go P w n B p L r' i' F) n L (fun x y => .store T x y) none false (vP b (0 + i * 1)) v) := by kernel_rfl) : AtO P B R ds n p L w := by
 obtain ⟨h1, h2⟩ := Prod.mk.inj hT
 obtain ⟨h3, h2⟩ := Prod.mk.inj h2
 have hcs : (#[v] : Array Value).size = 1 := rfl
 obtain ⟨w', g1, g2, g3⟩ := run_storeCells (P := P) [v] (k := i) (i := 0) (hM.get j hj) (by simp; omega) (by simp [h3])
 refine sto (w' := w') r' i' N hF (fun o ρ x y ho hx hy => ?_) (kk w' (hM.put j hj g3 (fun k _ e => e) g2 fun k e => .inl e)) h
 obtain ⟨q, hi, hs⟩ := Option.map_eq_some_iff.1 h2
 have hs : q.size = 1 := hs
 simp only [execOp, ho, hx, hy, Instr.storeAt, Instr.sureAddr, storeVar, sizeOf, typeInfo]
 rw [h1]
 rw [show 0 + i * 1 = i by omega]
 have g1 : (storeCells ⟨b, i, none⟩ (#[v] : Array Value).toList).run P w = .ok () w' := g1
 generalize (#[v] : Array Value) = c at *
 have hc : c.size = 1 := hcs
 simp [go_sem, hi, hs, g1, hc]
/-- A store of a whole array. -/
theorem stma (r' i' : Nat) (N : Frm) (T : TypeId) (j : Nat) {b m : Nat} {cs cs' : Array Value} {T0 : TypeId} (hF : AllF P w F) (hM : Mm F0 w0 w M) (hj : M[j]? = some (bk b cs T0)) (h1 : cs.size = m) (h2 : cs'.size = m) (h3 : cs'.all (·.oneCell') = true) (kk : ∀ w', Mm F0 w0 w' (M.set j (bk b cs' T0)) → AtO P B R ds n (some (r', i' + 1)) (N ++ L) w') (hT : (P.info? T).map (·.size) = some m := by kernel_rfl) (h : (lhs (go P w n B p L r' i' F) N L, twoL (go P w n B p L r' i' F) n L (fun x y => .store T x y)) = (rhs (go P w n B p L r' i' F) N B r' i', twoR (go P w n B p L r' i' F) n L (fun x y => .store T x y) none false (vP b 0) (.agg cs')) := by kernel_rfl) : AtO P B R ds n p L w := by
 obtain ⟨w', g1, g2, g3⟩ := run_storeCells (P := P) cs'.toList (k := 0) (i := 0) (hM.get j hj) (by simp; omega) (by rw [List.all_eq_true]; rw [Array.all_eq_true'] at h3; intro x hx; exact h3 x (by simpa using hx))
 have hp : putA cs (0 + 0) cs'.toList = cs' := by
  have := putA_all cs'.toList [] cs (by simp; omega) (by simp)
  simpa using this
 rw [hp] at g2
 refine sto (w' := w') r' i' N hF (fun o ρ x y ho hx hy => ?_) (kk w' (hM.put j hj g3 (fun k _ e => e) g2 fun k e => .inl e)) h
 obtain ⟨q, hi, hs⟩ := Option.map_eq_some_iff.1 hT
 have hs : q.size = m := hs
 simp only [execOp, ho, hx, hy, Instr.storeAt, Instr.sureAddr, storeVar, sizeOf, typeInfo]
 have e : (Value.agg cs').cells = cs' := rfl
 rw [e]
 simp [go_sem, hi, hs, h2, g1]
end
section
variable {P : Program} {B : Code} {fn : Func} {Φ : Ending → World → Prop} {n : Nat} {p : Option (Nat × Nat)} {L : Frm} {w : World} {F : List Ft}
/-- The result lies in a cell. -/
theorem rtc (t T : Nat) {g : Nat} {v : Value} (hr : fn.results = #[.cell t T]) (hv : (Instr.loadAt T (vP g 0)).run P w = .ok v w) (hF : AllF P w F) (k : Φ (.returned v) w) (h : finL (go P w n B p L 1000000 0 F) [(t, vP g 0)] L = finR (go P w n B p L 1000000 0 F) [(t, vP g 0)] := by kernel_rfl) : AtO P B (whole (bodyPost P fn Φ)) [] n p L w :=
 fin_ [(t, vP g 0)] hF h fun a E => by
  have hv' : a.eval (.tmp t) = vP g 0 := E.at_ t _ (by simp [look])
  have key : ∃ u, (results fn a.tmps).run P w = .ok u w ∧ Φ (.returned u) w := ⟨v, by
   have hl : a.tmps.getD t undef = vP g 0 := hv'
   simp only [Instr.loadAt, Instr.sureAddr, Sem.run_bind, Sem.run_pure, Result.andThen_ok] at hv
   have hl' : a.tmps[t]?.getD undef = vP g 0 := by simpa using hl
   simp [results, hr, hl', asAddr, hv], k⟩
  exact ⟨⟨E.df, key⟩, ⟨E.df, key⟩⟩
end
end Go.Pl
