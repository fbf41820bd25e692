/- A drawn region with guarded operations, whose values hang on letters that are fixed on the way (a block that an operation makes). -/
import Derived.Test.YtjaffpnegdcjnaaGreatDoorSDrg
set_option linter.unusedVariables false
set_option linter.unusedSimpArgs false
namespace Go.Pl
open Go.RowKit
variable {ds : List Deferred} {P : Program} {ops : Array Oper} {Q : Exit → Act → World → Prop}
/-- What an operation does in such a region: the letters may be fixed anew, what was done keeps its values. -/
def StepX {G : Type} (T : G → List (Option (Nat × Value))) (M : G → (Nat → Bool) → World → Prop) (i : Nat) (γ : G) (lst : Nat → Bool) (a a' : Act) (w' : World) : Prop :=
  ∃ γ' t, (T γ')[i]? = some t ∧ a' = putT a t ∧ (∀ j, lst j = true → (T γ')[j]? = (T γ)[j]?) ∧ M γ' (fun j => j == i || lst j) w'
/-- Beside the table: slots with an old value as long as the operation that writes them is to come. -/
def tableOKu (ops : Array Oper) (n : Nat) (base : List (Nat × Value)) (U : List (Nat × Value × Nat)) (T : List (Option (Nat × Value))) : Bool :=
  tableOKg ops n base T && U.all fun x => (List.range T.length).all fun j => j == x.2.2 || (match T[j]? with | some (some y) => y.1 != x.1 | _ => true)
theorem tableOKu_g {n : Nat} {base : List (Nat × Value)} {U : List (Nat × Value × Nat)} {T : List (Option (Nat × Value))} (h : tableOKu ops n base U T = true) : tableOKg ops n base T = true := by
  unfold tableOKu at h; rw [Bool.and_eq_true] at h; exact h.1
theorem tableOKu_u {n : Nat} {base : List (Nat × Value)} {U : List (Nat × Value × Nat)} {T : List (Option (Nat × Value))} (h : tableOKu ops n base U T = true) {x : Nat × Value × Nat} (hx : x ∈ U) {j : Nat} {y : Nat × Value} (hj : T[j]? = some (some y)) (hne : j ≠ x.2.2) : x.1 ≠ y.1 := by
  unfold tableOKu at h; rw [Bool.and_eq_true] at h
  have h2 := List.all_eq_true.1 (List.all_eq_true.1 h.2 x hx) j (by simpa using (List.getElem?_eq_some_iff.1 hj).1)
  have e' : (j == x.2.2) = false := by simpa using hne
  rw [hj, e', Bool.false_or] at h2
  intro e; rw [e] at h2; simp at h2
structure RInvU (ds : List Deferred) (ops : Array Oper) (n : Nat) (base : List (Nat × Value)) (U : List (Nat × Value × Nat)) (T : List (Option (Nat × Value))) (M : (Nat → Bool) → World → Prop) (listed : Array Bool) (a : Act) (w : World) : Prop where
  inv : RInv ds n base T M listed a w
  old : ∀ x ∈ U, listed.getD x.2.2 false = false → a.eval (.tmp x.1) = x.2.1
  cl : ∀ j k, depOn ops j k = true → listed.getD j false = true → listed.getD k false = true
theorem wpAny_invx {G : Type} {n : Nat} {base : List (Nat × Value)} {U : List (Nat × Value × Nat)} {T : G → List (Option (Nat × Value))} {M : G → (Nat → Bool) → World → Prop} (hord : ordered ops = true) (hT : ∀ γ, tableOKu ops n base U (T γ) = true)
    (step : ∀ (i : Nat) (o : Oper) (γ : G) (lst : Nat → Bool) (a : Act) (w : World), ops[i]? = some o → lst i = false → EnvD ds n base a → (∀ (j : Nat) (x : Nat × Value), depOn ops i j = true → (T γ)[j]? = some (some x) → a.eval (.tmp x.1) = x.2) → (∀ j, depOn ops i j = true → lst j = true) → (∀ j k, depOn ops j k = true → lst j = true → lst k = true) → (∀ x ∈ U, depOn ops x.2.2 i = true → a.eval (.tmp x.1) = x.2.1) → M γ lst w →
      (Region.wanted o (yielded ops a.tmps) = true → o.wp P a w (StepX T M i γ lst a) Q) ∧ (Region.wanted o (yielded ops a.tmps) = false → (∀ x, (T γ)[i]? = some (some x) → x.2 = undef) ∧ M γ (fun j => j == i || lst j) w))
    (hend : ∀ γ a w, EnvD ds n base a → (∀ (j : Nat) (x : Nat × Value), (T γ)[j]? = some (some x) → a.eval (.tmp x.1) = x.2) → M γ (fun j => decide (j < ops.size)) w → Q .normal a w) :
    ∀ (fuel : Nat) (γ : G) (listed : Array Bool) (a : Act) (w : World), listed.size = ops.size → (listed.toList.filter (!·)).length ≤ fuel → RInvU ds ops n base U (T γ) (M γ) listed a w → wpAny P .any ops Q fuel listed a w := by
  have hfin : ∀ (γ : G) (listed : Array Bool) (a : Act) (w : World), listed.size = ops.size → Region.ready .any ops listed = [] → RInvU ds ops n base U (T γ) (M γ) listed a w → Q .normal a w := by
    intro γ listed a w hs hr h
    have hall := all_listed hord hs hr
    have hlen : (T γ).length = ops.size := by
      have hT := tableOKu_g (hT γ)
      unfold tableOKg at hT; simp only [Bool.and_eq_true, beq_iff_eq] at hT; exact hT.1
    refine hend γ a w h.inv.env (fun j x hj => h.inv.vals j x hj (hall j (by rw [← hlen]; exact (List.getElem?_eq_some_iff.1 hj).1))) ?_
    have e : (fun j => listed.getD j false) = fun j => decide (j < ops.size) := by
      funext j
      by_cases hj : j < ops.size
      · rw [hall j hj, decide_eq_true hj]
      · rw [decide_eq_false hj, Array.getD_eq_getD_getElem?, Array.getElem?_eq_none (by omega)]; rfl
    rw [← e]; exact h.inv.mem
  intro fuel
  induction fuel with
  | zero =>
    intro γ listed a w hs hc h
    have hr : Region.ready .any ops listed = [] := by
      apply List.eq_nil_iff_forall_not_mem.2
      intro i hi
      obtain ⟨h1, h2, _⟩ := ready_iff.1 hi
      have hl : i < listed.size := by omega
      have : listed[i]? = some false := by
        rw [Array.getD_eq_getD_getElem?, Array.getElem?_eq_getElem hl] at h2
        rw [Array.getElem?_eq_getElem hl]; simpa using h2
      have hm : false ∈ listed.toList.filter (!·) := by
        rw [List.mem_filter]; exact ⟨Array.mem_toList_iff.2 (Array.mem_of_getElem? this), rfl⟩
      have := List.length_pos_of_mem hm
      omega
    exact ⟨hr, hfin γ listed a w hs hr h⟩
  | succ fuel ih =>
    intro γ listed a w hs hc h
    refine ⟨fun hr => hfin γ listed a w hs hr h, fun i hi => ?_⟩
    obtain ⟨h1, h2, o, ho, hdep⟩ := ready_iff.1 hi
    have hlenT : ∀ γ, (T γ).length = ops.size := fun γ => by
      have hT' := tableOKu_g (hT γ)
      unfold tableOKg at hT'
      simp only [Bool.and_eq_true, beq_iff_eq] at hT'
      exact hT'.1
    have hl : i < listed.size := by omega
    have hf : listed.getD i false = false := by
      rw [Array.getD_eq_getD_getElem?, Array.getElem?_eq_getElem hl] at h2 ⊢
      simpa using h2
    have hf' : listed[i]? = some false := by
      rw [Array.getD_eq_getD_getElem?, Array.getElem?_eq_getElem hl] at hf
      rw [Array.getElem?_eq_getElem hl]; simpa using hf
    have hdl : ∀ j, depOn ops i j = true → listed.getD j false = true := by
      intro j hj
      unfold depOn at hj
      rw [ho] at hj
      simp only [Option.map_some, Option.getD_some, List.any_eq_true, Array.mem_toList_iff] at hj
      obtain ⟨e, he, hb⟩ := hj
      simp only [Bool.and_eq_true, beq_iff_eq] at hb
      rw [← hb.2]; exact hdep e he hb.1
    have hstep := step i o γ (fun j => listed.getD j false) a w ho hf h.inv.env (fun j x hj hx => h.inv.vals j x hx (hdl j hj)) hdl h.cl (fun x hx hk => h.old x hx (by
      cases hkl : listed.getD x.2.2 false with
      | false => rfl
      | true => have := h.cl _ _ hk hkl; rw [hf] at this; cases this)) h.inv.mem
    unfold wpOp
    simp only [ho]
    have hgo : ∀ a' w', StepX T M i γ (fun j => listed.getD j false) a a' w' → wpAny P .any ops Q fuel (listed.setIfInBounds i true) a' w' := ?_
    · cases hw : Region.wanted o (yielded ops a.tmps) with
      | true =>
        simp only [if_true]
        left
        exact Oper.wp_mono hgo (hstep.1 hw)
      | false =>
        obtain ⟨h3, h4⟩ := hstep.2 hw
        obtain ⟨t, ht⟩ : ∃ t, (T γ)[i]? = some t := ⟨_, List.getElem?_eq_getElem (by rw [hlenT]; exact h1)⟩
        have hT' := tableOKu_g (hT γ)
        unfold tableOKg at hT'
        simp only [Bool.and_eq_true, beq_iff_eq] at hT'
        obtain ⟨hlen, hall⟩ := hT'
        have hi' := List.all_eq_true.1 hall i (by simpa using h1)
        rw [ho, ht] at hi'
        simp only [Option.bind_some, Option.map_some, Option.getD_some, Bool.and_eq_true, beq_iff_eq] at hi'
        obtain ⟨hd, hx⟩ := hi'
        refine hgo _ _ ⟨γ, t, ht, ?_, fun _ _ => rfl, h4⟩
        cases t with
        | none => rw [show o.dst = none from hd]; rfl
        | some x => rw [show o.dst = some x.1 from hd, ← h3 x ht]; rfl
    rintro a' w' ⟨γ', t, ht, rfl, hkeep, hM⟩
    have hT' := tableOKu_g (hT γ')
    unfold tableOKg at hT'
    simp only [Bool.and_eq_true, beq_iff_eq] at hT'
    obtain ⟨hlen, hall⟩ := hT'
    have hi' := List.all_eq_true.1 hall i (by simpa using h1)
    rw [ho, ht] at hi'
    simp only [Option.bind_some, Option.map_some, Option.getD_some, Bool.and_eq_true, beq_iff_eq] at hi'
    obtain ⟨hd, hx⟩ := hi'
    have hset : ∀ j, (listed.setIfInBounds i true).getD j false = (j == i || listed.getD j false) := by
      intro j
      rw [Array.getD_eq_getD_getElem?, Array.getElem?_setIfInBounds]
      by_cases e : i = j
      · subst e; simp [hl]
      · have e' : (j == i) = false := by simpa using Ne.symm e
        simp [e, e', Array.getD_eq_getD_getElem?]
    refine ih γ' _ _ _ (by simpa using hs) ?_ ⟨⟨?_, ?_, ?_⟩, ?_, ?_⟩
    · have := count_set (l := listed.toList) (i := i) (by simpa using hf')
      simp only [Array.toList_setIfInBounds]
      omega
    · cases t with
      | none => exact h.inv.env
      | some x =>
        simp only [Bool.and_eq_true, decide_eq_true_eq, Bool.not_eq_true'] at hx
        have hp := h.inv.env.put (v := x.2) hx.1.1 hx.1.2
        exact ⟨hp.size, fun y hy => hp.at_ y (List.mem_cons_of_mem _ hy), hp.df⟩
    · intro j x hj hlj
      rw [hset] at hlj
      have hltj := (List.getElem?_eq_some_iff.1 hj).1
      cases t with
      | none =>
        by_cases e : j = i
        · subst e; rw [ht] at hj; simp at hj
        · have e' : (j == i) = false := by simpa using e
          rw [e', Bool.false_or] at hlj
          rw [hkeep j hlj] at hj; exact h.inv.vals j x hj hlj
      | some y =>
        simp only [Bool.and_eq_true, decide_eq_true_eq, Bool.not_eq_true'] at hx
        show (a.put (some y.1) y.2).eval (.tmp x.1) = x.2
        rw [eval_put (by rw [h.inv.env.size]; exact hx.1.1)]
        by_cases e : j = i
        · subst e; rw [ht] at hj; simp at hj; subst hj; rw [if_pos rfl]
        · have e' : (j == i) = false := by simpa using e
          rw [e', Bool.false_or] at hlj
          have h5 := List.all_eq_true.1 hx.2 j (by simpa using hltj)
          rw [hj, e', Bool.false_or] at h5
          have h6 : x.1 ≠ y.1 := by simpa using h5
          rw [if_neg h6]
          rw [hkeep j hlj] at hj; exact h.inv.vals j x hj hlj
    · have e : (fun j => (listed.setIfInBounds i true).getD j false) = fun j => j == i || listed.getD j false := funext hset
      rw [e]; exact hM
    · intro x hx2 hlx
      rw [hset] at hlx
      have hne : i ≠ x.2.2 := by
        intro e; rw [← e] at hlx; simp at hlx
      have hlo : listed.getD x.2.2 false = false := by
        have e' : (x.2.2 == i) = false := by simpa using Ne.symm hne
        rw [e', Bool.false_or] at hlx; exact hlx
      cases t with
      | none => exact h.old x hx2 hlo
      | some y =>
        have hsl := tableOKu_u (hT γ') hx2 ht hne
        simp only [Bool.and_eq_true, decide_eq_true_eq, Bool.not_eq_true'] at hx
        show (a.put (some y.1) y.2).eval (.tmp x.1) = x.2.1
        rw [eval_put (by rw [h.inv.env.size]; exact hx.1.1), if_neg hsl]
        exact h.old x hx2 hlo
    · intro j k hjk hj
      rw [hset] at hj ⊢
      by_cases e : j = i
      · subst e; rw [hdl k hjk]; simp
      · have e' : (j == i) = false := by simpa using e
        rw [e', Bool.false_or] at hj
        rw [h.cl j k hjk hj]; simp
theorem wp_region_invx {G : Type} (γ0 : G) {id n : Nat} {base : List (Nat × Value)} {U : List (Nat × Value × Nat)} {T : G → List (Option (Nat × Value))} {M : G → (Nat → Bool) → World → Prop} {a : Act} {w : World} (hm : P.follows .mixedOrders = true) (hord : ordered ops = true) (hT : ∀ γ, tableOKu ops n base U (T γ) = true)
    (E : EnvD ds n base a) (hU : ∀ x ∈ U, a.eval (.tmp x.1) = x.2.1) (hM : M γ0 (fun _ => false) w.drew)
    (step : ∀ (i : Nat) (o : Oper) (γ : G) (lst : Nat → Bool) (a : Act) (w : World), ops[i]? = some o → lst i = false → EnvD ds n base a → (∀ (j : Nat) (x : Nat × Value), depOn ops i j = true → (T γ)[j]? = some (some x) → a.eval (.tmp x.1) = x.2) → (∀ j, depOn ops i j = true → lst j = true) → (∀ j k, depOn ops j k = true → lst j = true → lst k = true) → (∀ x ∈ U, depOn ops x.2.2 i = true → a.eval (.tmp x.1) = x.2.1) → M γ lst w →
      (Region.wanted o (yielded ops a.tmps) = true → o.wp P a w (StepX T M i γ lst a) Q) ∧ (Region.wanted o (yielded ops a.tmps) = false → (∀ x, (T γ)[i]? = some (some x) → x.2 = undef) ∧ M γ (fun j => j == i || lst j) w))
    (hend : ∀ γ a w, EnvD ds n base a → (∀ (j : Nat) (x : Nat × Value), (T γ)[j]? = some (some x) → a.eval (.tmp x.1) = x.2) → M γ (fun j => decide (j < ops.size)) w → Q .normal a w) :
    (Code.region id ops true).wp P Q a w := by
  refine wp_region_any hm (wpAny_invx hord hT step hend _ γ0 _ _ _ (by simp) ?_ ⟨⟨E, ?_, ?_⟩, fun x hx _ => hU x hx, ?_⟩)
  · exact Nat.le_trans (List.length_filter_le _ _) (by simp)
  · intro j x hj hlj
    rw [Array.getD_eq_getD_getElem?, Array.getElem?_replicate] at hlj
    split at hlj <;> simp at hlj
  · have e : (fun j => (Array.replicate ops.size false).getD j false) = fun _ => false := by
      funext j
      rw [Array.getD_eq_getD_getElem?, Array.getElem?_replicate]
      split <;> rfl
    rw [e]; exact hM
  · intro j k _ hlj
    rw [Array.getD_eq_getD_getElem?, Array.getElem?_replicate] at hlj
    split at hlj <;> simp at hlj
section
variable {G : Type} {T : G → List (Option (Nat × Value))} {M : G → (Nat → Bool) → World → Prop} {i : Nat} {γ : G} {lst : Nat → Bool} {o : Oper} {a : Act} {w w' : World} {d : Nat} {v : Value}
theorem valx (hT : (T γ)[i]? = some (some (d, v))) (hr : (execOp a.eval o).run P w = .ok (.value v) w) (hd : o.dst = some d) (hM : M γ (fun j => j == i || lst j) w) : o.wp P a w (StepX T M i γ lst a) Q := by
  unfold Oper.wp; rw [hr, Oper.upon_value, hd]; exact ⟨γ, _, hT, rfl, fun _ _ => rfl, hM⟩
theorem valxw (γ' : G) (hT : (T γ')[i]? = some (some (d, v))) (hr : (execOp a.eval o).run P w = .ok (.value v) w') (hd : o.dst = some d) (hk : ∀ j, lst j = true → (T γ')[j]? = (T γ)[j]?) (hM : M γ' (fun j => j == i || lst j) w') : o.wp P a w (StepX T M i γ lst a) Q := by
  unfold Oper.wp; rw [hr, Oper.upon_value, hd]; exact ⟨γ', _, hT, rfl, hk, hM⟩
theorem storex (hT : (T γ)[i]? = some none) (hr : (execOp a.eval o).run P w = .ok .skip w') (hd : o.dst = none) (hM : M γ (fun j => j == i || lst j) w') : o.wp P a w (StepX T M i γ lst a) Q := by
  unfold Oper.wp; rw [hr, Oper.upon_skip, hd]; exact ⟨γ, _, hT, rfl, fun _ _ => rfl, hM⟩
theorem callx {f : FuncId} {args : Array Value} {F : World → Prop} (hT : (T γ)[i]? = some (some (d, v))) (hr : (execOp a.eval o).run P w = .ok (.enter f args) w) (hc : Calls P f args w fun e w' => e = .returned v ∧ F w') (hd : o.dst = some d) (hM : ∀ w', F w' → M γ (fun j => j == i || lst j) w') : o.wp P a w (StepX T M i γ lst a) Q := by
  unfold Oper.wp; rw [hr, Oper.upon_enter]
  refine hc.mono ?_
  rintro e w' ⟨rfl, hF⟩
  show StepX T M i γ lst a _ _
  rw [hd]; exact ⟨γ, _, hT, rfl, fun _ _ => rfl, hM w' hF⟩
theorem callxw {f : FuncId} {args : Array Value} {F : Value → World → Prop} (hr : (execOp a.eval o).run P w = .ok (.enter f args) w) (hc : Calls P f args w fun e w' => ∃ v, e = .returned v ∧ F v w') (hd : o.dst = some d) (hM : ∀ v w', F v w' → ∃ γ', (T γ')[i]? = some (some (d, v)) ∧ (∀ j, lst j = true → (T γ')[j]? = (T γ)[j]?) ∧ M γ' (fun j => j == i || lst j) w') : o.wp P a w (StepX T M i γ lst a) Q := by
  unfold Oper.wp; rw [hr, Oper.upon_enter]
  refine hc.mono ?_
  rintro e w' ⟨v, rfl, hF⟩
  obtain ⟨γ', h1, h2, h3⟩ := hM v w' hF
  show StepX T M i γ lst a _ _
  rw [hd]; exact ⟨γ', _, h1, rfl, h2, h3⟩
end
end Go.Pl
