/- A region that draws its order, by what holds whatever has been done: over whatever program. -/
import Derived.Test.YtjaffpnegdcjnaaGreatDoorSEnv
import Derived.Orders
set_option linter.unusedVariables false
set_option linter.unusedSimpArgs false
namespace Go.Pl
open Go.RowKit
variable {ds : List Deferred} {P : Program} {ops : Array Oper} {Q : Exit → Act → World → Prop}
/-- Operation i waits for operation j. -/
def depOn (ops : Array Oper) (i j : Nat) : Bool := ((ops[i]?).map fun o => o.after.toList.any fun e => Region.binds .any e && e.on == j).getD false
/-- Every operation waits for earlier ones alone. -/
def ordered (ops : Array Oper) : Bool := (List.range ops.size).all fun i => ((ops[i]?).map fun o => o.after.all fun e => !Region.binds .any e || decide (e.on < i)).getD true
theorem ready_iff {listed : Array Bool} {i : Nat} : i ∈ Region.ready .any ops listed ↔ i < ops.size ∧ listed.getD i true = false ∧ ∃ o, ops[i]? = some o ∧ ∀ e ∈ o.after, Region.binds .any e = true → listed.getD e.on false = true := by
  unfold Region.ready
  simp only [List.mem_filter, List.mem_range, Bool.and_eq_true, Bool.not_eq_true']
  constructor
  · rintro ⟨h1, h2, h3⟩
    refine ⟨h1, h2, ?_⟩
    obtain ⟨o, ho⟩ : ∃ o, ops[i]? = some o := ⟨_, Array.getElem?_eq_getElem h1⟩
    rw [ho] at h3
    refine ⟨o, ho, fun e he hb => ?_⟩
    simp only [Option.map_some, Option.getD_some, Array.all_eq_true'] at h3
    have := h3 e he
    simpa [hb] using this
  · rintro ⟨h1, h2, o, ho, h3⟩
    refine ⟨h1, h2, ?_⟩
    rw [ho]
    simp only [Option.map_some, Option.getD_some, Array.all_eq_true']
    intro e he
    cases hb : Region.binds .any e with
    | false => rfl
    | true => simpa using h3 e he hb
theorem all_listed (hord : ordered ops = true) {listed : Array Bool} (hs : listed.size = ops.size) (hr : Region.ready .any ops listed = []) : ∀ i, i < ops.size → listed.getD i false = true := by
  intro i
  induction i using Nat.strongRecOn with
  | _ i ih =>
    intro hi
    apply Classical.byContradiction
    intro hn
    have hl : i < listed.size := by omega
    have h2 : listed.getD i true = false := by
      rw [Array.getD_eq_getD_getElem?, Array.getElem?_eq_getElem hl] at hn ⊢
      simpa using hn
    obtain ⟨o, ho⟩ : ∃ o, ops[i]? = some o := ⟨_, Array.getElem?_eq_getElem hi⟩
    have : i ∈ Region.ready .any ops listed := by
      refine ready_iff.2 ⟨hi, h2, o, ho, fun e he hb9 => ?_⟩
      have h4 := List.all_eq_true.1 hord i (by simpa using hi)
      rw [ho] at h4
      simp only [Option.map_some, Option.getD_some, Array.all_eq_true'] at h4
      have := h4 e he
      rw [hb9] at this
      simp only [Bool.not_true, Bool.false_or, decide_eq_true_eq] at this
      exact ih _ this (by omega)
    rw [hr] at this
    simp at this
/-- What holds in the midst of such a region. -/
structure RInv (ds : List Deferred) (n : Nat) (base : List (Nat × Value)) (T : List (Option (Nat × Value))) (M : (Nat → Bool) → World → Prop) (listed : Array Bool) (a : Act) (w : World) : Prop where
  env : EnvD ds n base a
  vals : ∀ j x, T[j]? = some (some x) → listed.getD j false = true → a.eval (.tmp x.1) = x.2
  mem : M (fun j => listed.getD j false) w
def tableOK (ops : Array Oper) (n : Nat) (base : List (Nat × Value)) (T : List (Option (Nat × Value))) : Bool :=
  (T.length == ops.size) && ((List.range ops.size).all fun i => ((ops[i]?).bind fun o => (T[i]?).map fun t => (o.guard.isNone && (o.dst == t.map (·.1)) && (match t with | some x => decide (x.1 < n) && !(base.map (·.1)).contains x.1 && ((List.range T.length).all fun j => j == i || (match T[j]? with | some (some y) => y.1 != x.1 | _ => true)) | none => true))).getD false)
def putT (a : Act) : Option (Nat × Value) → Act
  | some x => a.put (some x.1) x.2
  | none => a
theorem count_set {l : List Bool} : ∀ {i : Nat}, l[i]? = some false → ((l.set i true).filter (!·)).length + 1 = (l.filter (!·)).length := by
  induction l with
  | nil => intro i h; simp at h
  | cons b l ih =>
    intro i h
    cases i with
    | zero => simp at h; subst h; simp
    | succ i =>
      simp at h
      have := ih h
      cases b <;> simp [this] <;> omega
theorem wpAny_inv {n : Nat} {base : List (Nat × Value)} {T : List (Option (Nat × Value))} {M : (Nat → Bool) → World → Prop} (hord : ordered ops = true) (hT : tableOK ops n base T = true)
    (step : ∀ (i : Nat) (o : Oper) (t : Option (Nat × Value)) (lst : Nat → Bool) (a : Act) (w : World), ops[i]? = some o → T[i]? = some t → lst i = false → EnvD ds n base a → (∀ (j : Nat) (x : Nat × Value), depOn ops i j = true → T[j]? = some (some x) → a.eval (.tmp x.1) = x.2) → (∀ j, depOn ops i j = true → lst j = true) → M lst w →
      o.wp P a w (fun a' w' => a' = putT a t ∧ M (fun j => j == i || lst j) w') Q)
    (hend : ∀ a w, EnvD ds n base a → (∀ (j : Nat) (x : Nat × Value), T[j]? = some (some x) → a.eval (.tmp x.1) = x.2) → M (fun j => decide (j < ops.size)) w → Q .normal a w) :
    ∀ (fuel : Nat) (listed : Array Bool) (a : Act) (w : World), listed.size = ops.size → (listed.toList.filter (!·)).length ≤ fuel → RInv ds n base T M listed a w → wpAny P .any ops Q fuel listed a w := by
  have hfin : ∀ (listed : Array Bool) (a : Act) (w : World), listed.size = ops.size → Region.ready .any ops listed = [] → RInv ds n base T M listed a w → Q .normal a w := by
    intro listed a w hs hr h
    have hall := all_listed hord hs hr
    have hlen : T.length = ops.size := by
      unfold tableOK at hT; simp only [Bool.and_eq_true, beq_iff_eq] at hT; exact hT.1
    refine hend a w h.env (fun j x hj => h.vals j x hj (hall j (by rw [← hlen]; exact (List.getElem?_eq_some_iff.1 hj).1))) ?_
    have e : (fun j => listed.getD j false) = fun j => decide (j < ops.size) := by
      funext j
      by_cases hj : j < ops.size
      · rw [hall j hj, decide_eq_true hj]
      · rw [decide_eq_false hj, Array.getD_eq_getD_getElem?, Array.getElem?_eq_none (by omega)]; rfl
    rw [← e]; exact h.mem
  intro fuel
  induction fuel with
  | zero =>
    intro listed a w hs hc h
    have hr : Region.ready .any ops listed = [] := by
      apply List.eq_nil_iff_forall_not_mem.2
      intro i hi
      obtain ⟨h1, h2, _⟩ := ready_iff.1 hi
      have hl : i < listed.size := by omega
      have : listed[i]? = some false := by
        rw [Array.getD_eq_getD_getElem?, Array.getElem?_eq_getElem hl] at h2
        rw [Array.getElem?_eq_getElem hl]; simpa using h2
      have hm : false ∈ listed.toList.filter (!·) := by
        rw [List.mem_filter]; exact ⟨Array.mem_toList_iff.2 (Array.mem_of_getElem? this), rfl⟩
      have := List.length_pos_of_mem hm
      omega
    exact ⟨hr, hfin listed a w hs hr h⟩
  | succ fuel ih =>
    intro listed a w hs hc h
    refine ⟨fun hr => hfin listed a w hs hr h, fun i hi => ?_⟩
    obtain ⟨h1, h2, o, ho, hdep⟩ := ready_iff.1 hi
    have hT' := hT
    unfold tableOK at hT'
    simp only [Bool.and_eq_true, beq_iff_eq] at hT'
    obtain ⟨hlen, hall⟩ := hT'
    have hi' := List.all_eq_true.1 hall i (by simpa using h1)
    obtain ⟨t, ht⟩ : ∃ t, T[i]? = some t := ⟨_, List.getElem?_eq_getElem (by omega)⟩
    rw [ho, ht] at hi'
    simp only [Option.bind_some, Option.map_some, Option.getD_some, Bool.and_eq_true, beq_iff_eq] at hi'
    obtain ⟨⟨hg, hd⟩, hx⟩ := hi'
    have hl : i < listed.size := by omega
    have hf : listed.getD i false = false := by
      rw [Array.getD_eq_getD_getElem?, Array.getElem?_eq_getElem hl] at h2 ⊢
      simpa using h2
    have hf' : listed[i]? = some false := by
      rw [Array.getD_eq_getD_getElem?, Array.getElem?_eq_getElem hl] at hf
      rw [Array.getElem?_eq_getElem hl]; simpa using hf
    have hdl : ∀ j, depOn ops i j = true → listed.getD j false = true := by
      intro j hj
      unfold depOn at hj
      rw [ho] at hj
      simp only [Option.map_some, Option.getD_some, List.any_eq_true, Array.mem_toList_iff] at hj
      obtain ⟨e, he, hb⟩ := hj
      simp only [Bool.and_eq_true, beq_iff_eq] at hb
      rw [← hb.2]; exact hdep e he hb.1
    have hstep := step i o t (fun j => listed.getD j false) a w ho ht hf h.env (fun j x hj hx => h.vals j x hx (hdl j hj)) hdl h.mem
    unfold wpOp
    simp only [ho]
    have hg' : o.guard = none := by cases hgg : o.guard with | none => rfl | some g => rw [hgg] at hg; simp at hg
    rw [wanted_none hg']
    simp only [if_true]
    left
    refine Oper.wp_mono ?_ hstep
    rintro a' w' ⟨rfl, hM⟩
    have hset : ∀ j, (listed.setIfInBounds i true).getD j false = (j == i || listed.getD j false) := by
      intro j
      rw [Array.getD_eq_getD_getElem?, Array.getElem?_setIfInBounds]
      by_cases e : i = j
      · subst e; simp [hl]
      · have e' : (j == i) = false := by simpa using Ne.symm e
        simp [e, e', Array.getD_eq_getD_getElem?]
    refine ih _ _ _ (by simpa using hs) ?_ ⟨?_, ?_, ?_⟩
    · have := count_set (l := listed.toList) (i := i) (by simpa using hf')
      simp only [Array.toList_setIfInBounds]
      omega
    · cases t with
      | none => exact h.env
      | some x =>
        simp only [Bool.and_eq_true, decide_eq_true_eq, Bool.not_eq_true'] at hx
        have hp := h.env.put (v := x.2) hx.1.1 hx.1.2
        exact ⟨hp.size, fun y hy => hp.at_ y (List.mem_cons_of_mem _ hy), hp.df⟩
    · intro j x hj hlj
      rw [hset] at hlj
      cases t with
      | none =>
        by_cases e : j = i
        · subst e; rw [ht] at hj; simp at hj
        · have e' : (j == i) = false := by simpa using e
          rw [e', Bool.false_or] at hlj
          exact h.vals j x hj hlj
      | some y =>
        simp only [Bool.and_eq_true, decide_eq_true_eq, Bool.not_eq_true'] at hx
        show (a.put (some y.1) y.2).eval (.tmp x.1) = x.2
        rw [eval_put (by rw [h.env.size]; exact hx.1.1)]
        by_cases e : j = i
        · subst e; rw [ht] at hj; simp at hj; subst hj; rw [if_pos rfl]
        · have e' : (j == i) = false := by simpa using e
          rw [e', Bool.false_or] at hlj
          have h5 := List.all_eq_true.1 hx.2 j (by simpa using (List.getElem?_eq_some_iff.1 hj).1)
          rw [hj, e', Bool.false_or] at h5
          have h6 : x.1 ≠ y.1 := by simpa using h5
          rw [if_neg h6]
          exact h.vals j x hj hlj
    · have e : (fun j => (listed.setIfInBounds i true).getD j false) = fun j => j == i || listed.getD j false := funext hset
      rw [e]; exact hM
theorem wp_region_inv {id n : Nat} {base : List (Nat × Value)} {T : List (Option (Nat × Value))} {M : (Nat → Bool) → World → Prop} {a : Act} {w : World} (hm : P.follows .mixedOrders = true) (hord : ordered ops = true) (hT : tableOK ops n base T = true)
    (E : EnvD ds n base a) (hM : M (fun _ => false) w.drew)
    (step : ∀ (i : Nat) (o : Oper) (t : Option (Nat × Value)) (lst : Nat → Bool) (a : Act) (w : World), ops[i]? = some o → T[i]? = some t → lst i = false → EnvD ds n base a → (∀ (j : Nat) (x : Nat × Value), depOn ops i j = true → T[j]? = some (some x) → a.eval (.tmp x.1) = x.2) → (∀ j, depOn ops i j = true → lst j = true) → M lst w →
      o.wp P a w (fun a' w' => a' = putT a t ∧ M (fun j => j == i || lst j) w') Q)
    (hend : ∀ a w, EnvD ds n base a → (∀ (j : Nat) (x : Nat × Value), T[j]? = some (some x) → a.eval (.tmp x.1) = x.2) → M (fun j => decide (j < ops.size)) w → Q .normal a w) :
    (Code.region id ops true).wp P Q a w := by
  refine wp_region_any hm (wpAny_inv hord hT step hend _ _ _ _ (by simp) ?_ ⟨E, ?_, ?_⟩)
  · exact Nat.le_trans (List.length_filter_le _ _) (by simp)
  · intro j x hj hlj
    rw [Array.getD_eq_getD_getElem?, Array.getElem?_replicate] at hlj
    split at hlj <;> simp at hlj
  · have e : (fun j => (Array.replicate ops.size false).getD j false) = fun _ => false := by
      funext j
      rw [Array.getD_eq_getD_getElem?, Array.getElem?_replicate]
      split <;> rfl
    rw [e]; exact hM
section
variable {o : Oper} {a : Act} {w w' : World} {d : Nat} {v : Value} {M : World → Prop}
theorem val_wp (hr : (execOp a.eval o).run P w = .ok (.value v) w) (hd : o.dst = some d) (hM : M w) : o.wp P a w (fun a' w' => a' = putT a (some (d, v)) ∧ M w') Q := by
  unfold Oper.wp; rw [hr, Oper.upon_value, hd]; exact ⟨rfl, hM⟩
end
end Go.Pl
namespace Go.Pl
theorem then_e {next : Act → World → Prop} {Q1 : Exit → Act → World → Prop} {id : Nat} {a : Act} {w : World} (h : Q1 (.exit id) a w) : Exit.then next Q1 (.exit id) a w := h
theorem blk_e {Q1 : Exit → Act → World → Prop} {id : Nat} {a : Act} {w : World} (h : Q1 .normal a w) : Exit.inBlock id Q1 (.exit id) a w := by
  unfold Exit.inBlock; simp only [if_true]; exact h
theorem blk_x {Q1 : Exit → Act → World → Prop} {id id' : Nat} {a : Act} {w : World} (hne : id' ≠ id) (h : Q1 (.exit id') a w) : Exit.inBlock id Q1 (.exit id') a w := by
  unfold Exit.inBlock; simp only [if_neg hne]; exact h
end Go.Pl
