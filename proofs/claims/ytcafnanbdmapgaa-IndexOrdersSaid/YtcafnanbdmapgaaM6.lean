/- heap.Push, heap.Pop. -/
import Derived.Test.YtcafnanbdmapgaaM5
set_option linter.unusedVariables false
set_option linter.unusedSimpArgs false
namespace Go.Proofs.Ytcafnanbdmapgaa
open Go.RowKit Go.Pl

theorem Hp.push {X : List Wt} {x : Wt} (h : Hp (fx X) X.length) : HpUp (fx (X ++ [x])) (X ++ [x]).length X.length := by
  have hfx : ∀ k, k < X.length → fx (X ++ [x]) k = fx X k := fun k hk => by unfold fx; rw [List.getElem?_append_left hk]
  refine ⟨fun k h1 h2 h3 => ?_, fun k h1 h2 h3 h4 => ?_⟩
  · simp only [List.length_append, List.length_singleton] at h2
    have := h k h1 (by omega)
    unfold gE at *
    rw [hfx k (by omega), hfx _ (by omega)]
    exact this
  · simp only [List.length_append, List.length_singleton] at h2
    omega
/-- How heap.Push ends. -/
def HPushP (w : World) (q B : Nat) (v : Value) (S : Nat → Prop) (X : List Wt) (x : Wt) (e : Ending) (w' : World) : Prop :=
  e = .returned (.tuple #[]) ∧ ∃ v' X', X'.Perm (X ++ [x]) ∧ Hp (fx X') X'.length ∧ HAt w' q B v' S X' ∧ Fr (fun k => k = q ∨ v.ownBlock = some k) w w'
/-- How heap.Pop ends. -/
def HPopP (w : World) (q B : Nat) (v : Value) (S : Nat → Prop) (X : List Wt) (e : Ending) (w' : World) : Prop :=
  ∃ x v' Y, e = .returned (.iface 76 (.agg (wtC x))) ∧ (x :: Y).Perm X ∧ (∀ y ∈ X, ¬ LsW y x) ∧ Hp (fx Y) Y.length ∧ HAt w' q B v' S Y ∧ Fr (fun k => k = q ∨ v.ownBlock = some k) w w'

set_option maxRecDepth 100000 in
set_option maxHeartbeats 4000000 in
theorem hpush_calls {w : World} {q B : Nat} {v : Value} {S : Nat → Prop} {X : List Wt} (hH : HAt w q B v S X) (hS : ∀ k, S k → k < B ∧ k ≠ q) (hqB : q < B) (hhp : Hp (fx X) X.length) (hB : B ≤ w.heap.size) (hln : X.length ≤ 900000) {x : Wt} (hX : WtAt w S x) : Calls Try.prog 40 #[.iface 74 (.pointer (some ⟨q, 0, none⟩)), .iface 76 (.agg (wtC x))] w (HPushP w q B v S X x) := by
  refine wp_start2 Try.func40 rfl rfl (n := 12) (by decide) fun a E => ?_
  have hf : Fr (fun _ => False) w w := Fr.refl _ _
  refine wp_seq ?_
  refine wp_region_lit ?_
  refine env_put (d := 4) (v := .iface 74 (.pointer (some ⟨q, 0, none⟩))) E rfl (by decide) rfl (wanted_none rfl _) (run_move rfl (E.get 0 rfl)) fun a E => ?_
  refine env_put (d := 5) (v := .iface 76 (.agg (wtC x))) E rfl (by decide) rfl (wanted_none rfl _) (run_move rfl (E.get 2 rfl)) fun a E => ?_
  refine env_call (d := 6) (v := .tuple #[]) (F := fun w8 => ∃ v8, QAt w8 q B v8 (X ++ [x]) ∧ (v8.ownBlock = v.ownBlock ∨ ∀ k, v8.ownBlock = some k → w.heap.size ≤ k) ∧ Fr (fun k => k = q ∨ v.ownBlock = some k) w w8) E rfl (by decide) rfl (wanted_none rfl _) (run_inv1 (mt_push q _) (enters_of Try.func112 (by kernel_rfl) rfl) rfl (E.get 1 rfl) (E.get 0 rfl)) (pushq_calls hH.1 hB (by omega) x) fun a w3 f1 E => ?_
  obtain ⟨v8, hQ8, hl8, f1⟩ := f1
  have hH8 : HAt w3 q B v8 S (X ++ [x]) := ⟨hQ8, fun z hz => by
    rcases List.mem_append.1 hz with hz | hz
    · exact (hH.2 z hz).fr f1 (fun k hk e => by have := hS k hk; rcases e with e | e; omega; have := (hH.1.2.lt e).1; omega)
    · simp only [List.mem_singleton] at hz; subst hz
      exact hX.fr f1 (fun k hk e => by have := hS k hk; rcases e with e | e; omega; have := (hH.1.2.lt e).1; omega)⟩
  have fT : Fr (fun k => k = q ∨ v.ownBlock = some k) w w3 := f1
  obtain ⟨pn, nn, cn, hvv⟩ := oWt_slice hQ8.2
  obtain ⟨pn, cn, hvv, _⟩ := hQ8.2.src wtL_len
  subst hvv
  refine wpList_nil ?_
  refine then_n ?_
  refine wp_region_lit ?_
  refine env_put (d := 7) (v := .iface 74 (.pointer (some ⟨q, 0, none⟩))) E rfl (by decide) rfl (wanted_none rfl _) (run_move rfl (E.get 3 rfl)) fun a E => ?_
  refine env_put (d := 8) (v := .iface 74 (.pointer (some ⟨q, 0, none⟩))) E rfl (by decide) rfl (wanted_none rfl _) (run_move rfl (E.get 4 rfl)) fun a E => ?_
  refine env_call (d := 9) (v := .int .i64 ((X ++ [x]).length : Int)) E rfl (by decide) rfl (wanted_none rfl _) (run_inv0 (mt_len q _) (enters_of Try.func42 (by kernel_rfl) rfl) rfl (E.get 0 rfl) ) (lenq_calls hH8.1.1) fun a w4 f1 E => ?_
  have hH8 := hH8.fr f1 id (fun _ _ h => h) (fun _ _ h => h)
  have fT := fT.trans' f1 (fun _ _ h => h.elim)
  clear f1
  have hlx : (X ++ [x]).length = X.length + 1 := by simp
  refine env_put (d := 10) (v := .int .i64 (((X ++ [x]).length : Int) - 1)) E rfl (by decide) rfl (wanted_none rfl _) (run_isub Try.underlying3 (E.get 0 rfl) rfl (by omega) (by omega) rfl) fun a E => ?_
  refine env_call (d := 11) (v := .tuple #[]) (F := fun w8 => ∃ X1, X1.Perm (X ++ [x]) ∧ Hp (fx X1) X1.length ∧ HAt w8 q B (.slice pn (X ++ [x]).length cn) S X1 ∧ Fr (fun k => (Value.slice pn (X ++ [x]).length cn).ownBlock = some k) w4 w8) E rfl (by decide) rfl (wanted_none rfl _) (run_call2 (enters_of Try.func50 (by kernel_rfl) rfl) rfl rfl (E.get 3 rfl) (E.get 0 rfl)) (by have hup := up_calls hH8 hS (j0 := X.length) (by omega) hhp.push (by omega); rw [show (X.length : Int) = ((X ++ [x]).length : Int) - 1 by omega] at hup; exact hup) fun a w5 f1 E => ?_
  obtain ⟨X1, hp1, hh1, hH9, f1⟩ := f1
  refine wpList_nil ?_
  exact (ret_nil rfl E ⟨rfl, _, X1, hp1, hh1, hH9, fT.trans' f1 (fun r hr e => by rcases hl8 with e2 | e2; (rw [e2] at e; exact .inr e); (have := e2 r e; omega))⟩).1
set_option maxRecDepth 100000 in
set_option maxHeartbeats 4000000 in
theorem hpop_calls {w : World} {q B : Nat} {v : Value} {S : Nat → Prop} {X : List Wt} (hH : HAt w q B v S X) (hS : ∀ k, S k → k < B ∧ k ≠ q) (hqB : q < B) (hhp : Hp (fx X) X.length) (hB : B ≤ w.heap.size) (hln : X.length ≤ 900000) (hne : X ≠ []) : Calls Try.prog 43 #[.iface 74 (.pointer (some ⟨q, 0, none⟩))] w (HPopP w q B v S X) := by
  refine wp_start1 Try.func43 rfl rfl (n := 15) (by decide) fun a E => ?_
  have hf : Fr (fun _ => False) w w := Fr.refl _ _
  obtain ⟨n, hn⟩ : ∃ n, X.length = n + 1 := ⟨X.length - 1, by have := List.length_pos_iff.2 hne; omega⟩
  obtain ⟨pn, cn, hvv, _⟩ := hH.1.2.src wtL_len
  subst hvv
  obtain ⟨x0, hx0⟩ : ∃ x0, X[0]? = some x0 := ⟨_, List.getElem?_eq_getElem (by omega)⟩
  obtain ⟨xn, hxn⟩ : ∃ xn, X[n]? = some xn := ⟨_, List.getElem?_eq_getElem (by omega)⟩
  refine wp_seq ?_
  refine wp_region_lit ?_
  refine env_put (d := 2) (v := Value.nilIface) E rfl (by decide) rfl (wanted_none rfl _) (run_assign rfl rfl) fun a E => ?_
  refine wpList_nil ?_
  refine then_n ?_
  refine wp_seq ?_
  refine wp_region_lit ?_
  refine env_put (d := 4) (v := .iface 74 (.pointer (some ⟨q, 0, none⟩))) E rfl (by decide) rfl (wanted_none rfl _) (run_move rfl (E.get 1 rfl)) fun a E => ?_
  refine env_call (d := 5) (v := .int .i64 (X.length : Int)) E rfl (by decide) rfl (wanted_none rfl _) (run_inv0 (mt_len q _) (enters_of Try.func42 (by kernel_rfl) rfl) rfl (E.get 0 rfl) ) (lenq_calls hH.1.1) fun a w3 f1 E => ?_
  have hH := hH.fr f1 id (fun _ _ h => h) (fun _ _ h => h)
  have hf := hf.trans f1
  clear f1
  refine env_put (d := 6) (v := .int .i64 ((X.length : Int) - 1)) E rfl (by decide) rfl (wanted_none rfl _) (run_isub Try.underlying3 (E.get 0 rfl) rfl (by omega) (by omega) rfl) fun a E => ?_
  refine env_put (d := 3) (v := .int .i64 ((X.length : Int) - 1)) E rfl (by decide) rfl (wanted_none rfl _) (run_assign rfl (E.get 0 rfl)) fun a E => ?_
  refine wpList_nil ?_
  refine then_n ?_
  refine wp_seq ?_
  rw [show (X.length : Int) - 1 = (n : Int) by omega] at E
  refine wp_region_lit ?_
  refine env_put (d := 7) (v := .iface 74 (.pointer (some ⟨q, 0, none⟩))) E rfl (by decide) rfl (wanted_none rfl _) (run_move rfl (E.get 5 rfl)) fun a E => ?_
  refine env_put (d := 8) (v := .int .i64 (n : Int)) E rfl (by decide) rfl (wanted_none rfl _) (run_move rfl (E.get 1 rfl)) fun a E => ?_
  refine env_call (d := 9) (v := .tuple #[]) (F := fun w8 => QAt w8 q B (.slice pn X.length cn) (swp X 0 n x0 xn) ∧ Fr (fun k => (Value.slice pn X.length cn).ownBlock = some k) w3 w8) E rfl (by decide) rfl (wanted_none rfl _) (run_inv2 (mt_swap q _) (enters_of Try.func113 (by kernel_rfl) rfl) rfl (E.get 1 rfl) rfl (E.get 0 rfl)) (swapq_calls (i := 0) hH.1 hx0 hxn) fun a w4 f1 E => ?_
  obtain ⟨hQ4, f1⟩ := f1
  have hH4 : HAt w4 q B (.slice pn X.length cn) S (swp X 0 n x0 xn) := ⟨hQ4, fun z hz => (hH.2 z ((swp_perm hx0 hxn).mem_iff.1 hz)).fr f1 (fun k hk e => by have := hS k hk; have := (hH.1.2.lt e).1; omega)⟩
  have fT : Fr (fun k => k = q ∨ (Value.slice pn X.length cn).ownBlock = some k) w w4 := (hf.mono fun _ _ h => h.elim).trans' f1 (fun _ _ e => .inr e)
  have hp4 := swp_perm hx0 hxn
  have hD : HpDn (fx (swp X 0 n x0 xn)) n 0 := by
    rw [fx_swp hx0 hxn]
    refine ⟨fun k h1 h2 h3 => ?_, fun k h1 h2 h3 h4 => absurd h4 (by omega)⟩
    unfold gE
    rw [sw_o _ (by omega) (by omega), sw_o _ h3 (by omega)]
    exact hhp k h1 (by omega)
  refine wpList_nil ?_
  refine then_n ?_
  refine wp_seq ?_
  refine wp_region_lit ?_
  refine env_put (d := 10) (v := .iface 74 (.pointer (some ⟨q, 0, none⟩))) E rfl (by decide) rfl (wanted_none rfl _) (run_move rfl (E.get 8 rfl)) fun a E => ?_
  refine env_put (d := 11) (v := .int .i64 (n : Int)) E rfl (by decide) rfl (wanted_none rfl _) (run_move rfl (E.get 4 rfl)) fun a E => ?_
  refine env_callv (d := 12) (R := fun u w8 => (∃ b, u = .bool b) ∧ ∃ X1, X1.Perm (swp X 0 n x0 xn) ∧ Hp (fx X1) n ∧ (∀ k, n ≤ k → X1[k]? = (swp X 0 n x0 xn)[k]?) ∧ HAt w8 q B (.slice pn X.length cn) S X1 ∧ Fr (fun k => (Value.slice pn X.length cn).ownBlock = some k) w4 w8) E rfl (by decide) rfl (wanted_none rfl _) (run_call3 (enters_of Try.func51 (by kernel_rfl) rfl) rfl rfl (E.get 1 rfl) rfl (E.get 0 rfl)) ((down_calls hH4 hS (n := n) (by rw [swp_len]; omega) hD (by rw [swp_len]; omega)).mono fun e w8 hh => by obtain ⟨⟨b, hb⟩, h2⟩ := hh; exact ⟨_, hb, ⟨b, rfl⟩, h2⟩) fun a w5 u9 hR E => ?_
  obtain ⟨⟨b9, rfl⟩, X1, hp1, hh1, hk1, hH5, f1⟩ := hR
  have fT := fT.trans' f1 (fun _ _ e => .inr e)
  have hlx1 : X1.length = n + 1 := by rw [hp1.length_eq, swp_len, hn]
  have hx1n : X1[n]? = some x0 := by rw [hk1 n (Nat.le_refl _), List.getElem?_set, if_pos rfl, if_pos (by rw [List.length_set]; omega)]
  have hX1 : X1 = X1.take n ++ [x0] := by
    have h9 := List.take_append_drop n X1
    have h8 : X1.drop n = [x0] := by
      have h7 := List.drop_eq_getElem_cons (l := X1) (i := n) (by omega)
      rw [h7, List.drop_eq_nil_of_le (by omega)]
      have h6 := (List.getElem?_eq_some_iff.1 hx1n).2
      rw [h6]
    rw [h8] at h9; exact h9.symm
  obtain ⟨Y, hY⟩ : ∃ Y, Y = X1.take n := ⟨_, rfl⟩
  rw [← hY] at hX1
  have hYl : Y.length = n := by rw [hY, List.length_take]; omega
  rw [hX1] at hH5
  refine wpList_nil ?_
  refine then_n ?_
  refine wp_seq ?_
  refine wp_region_lit ?_
  refine env_put (d := 13) (v := .iface 74 (.pointer (some ⟨q, 0, none⟩))) E rfl (by decide) rfl (wanted_none rfl _) (run_move rfl (E.get 11 rfl)) fun a E => ?_
  refine env_callv (d := 14) (R := fun u w8 => u = .iface 76 (.agg (wtC x0)) ∧ ∃ v8, QAt w8 q B v8 Y ∧ v8.ownBlock = (Value.slice pn X.length cn).ownBlock ∧ Fr (fun k => k = q) w5 w8) E rfl (by decide) rfl (wanted_none rfl _) (run_inv0 (mt_pop q _) (enters_of Try.func111 (by kernel_rfl) rfl) rfl (E.get 0 rfl) ) ((popq_calls hH5.1 (by omega)).mono fun e w8 hh => ⟨_, hh.1, rfl, hh.2⟩) fun a w6 u9 hR E => ?_
  obtain ⟨rfl, v8, hQ8, hv8, f1⟩ := hR
  have hfin : HPopP w q B (.slice pn X.length cn) S X (.returned (.iface 76 (.agg (wtC x0)))) w6 := by
    refine ⟨x0, v8, Y, rfl, ?_, ?_, ?_, ⟨hQ8, fun z hz => (hH5.2 z (by simp [hz])).fr f1 (fun k hk e => by have := hS k hk; omega)⟩, fT.trans' f1 (fun _ _ e => .inl e)⟩
    · refine List.Perm.trans ?_ (hp1.trans hp4)
      rw [hX1]
      exact (List.perm_append_comm (l₁ := [x0]) (l₂ := Y))
    · intro y hy
      obtain ⟨k, hk⟩ := List.mem_iff_getElem?.1 hy
      have h9 := hhp.min k (List.getElem?_eq_some_iff.1 hk).1
      rw [fx_of hk, fx_of hx0] at h9; exact h9
    · rw [hYl]
      intro k h1 h2
      have h9 := hh1 k h1 h2
      unfold gE at *
      have hfx : ∀ k, k < n → fx Y k = fx X1 k := fun k hk => by unfold fx; rw [hX1, List.getElem?_append_left (by omega)]
      rw [hfx k h2, hfx _ (by omega)]; exact h9
  refine env_set (d := 2) (v := .iface 76 (.agg (wtC x0))) E rfl (by decide) (wanted_none rfl _) (run_assign rfl (E.get 0 rfl)) fun a E => ?_
  refine wpList_nil ?_
  refine then_n ?_
  refine wp_ret ?_
  exact ret_tmp (t := 2) rfl E (E.get 0 rfl) hfin
end Go.Proofs.Ytcafnanbdmapgaa
set_option linter.unusedVariables false
set_option linter.unusedSimpArgs false
namespace Go.Proofs.Ytcafnanbdmapgaa
open Go.RowKit Go.Pl

/-- Entry d is nearer than e (at the same distance: the lesser Id). -/
def ns (pt : Pt) (d e : En) : Prop := dsB d.2 pt < dsB e.2 pt ∨ dsB d.2 pt = dsB e.2 pt ∧ sl d.1 e.1
instance (pt : Pt) (d e : En) : Decidable (ns pt d e) := by unfold ns; infer_instance
theorem ns_irrefl (pt : Pt) (d : En) : ¬ ns pt d d := by
  unfold ns
  rintro (h | ⟨_, h⟩)
  · omega
  · exact sl_irrefl _ h
theorem ns_trans {pt : Pt} {d e f : En} (h : ns pt d e) (k : ns pt e f) : ns pt d f := by
  unfold ns at *
  rcases h with h | ⟨h1, h2⟩
  · rcases k with k | ⟨k1, _⟩ <;> (left; omega)
  · rcases k with k | ⟨k1, k2⟩
    · left; omega
    · exact .inr ⟨h1.trans k1, sl_trans h2 k2⟩
theorem ns_asymm {pt : Pt} {d e : En} (h : ns pt d e) : ¬ ns pt e d := fun k => ns_irrefl _ _ (ns_trans h k)
/-- Two entries of different Ids are in order, one way or the other. -/
theorem ns_tri {pt : Pt} {d e : En} (h : d.1 ≠ e.1) : ns pt d e ∨ ns pt e d := by
  unfold ns
  rcases Int.lt_trichotomy (dsB d.2 pt) (dsB e.2 pt) with h1 | h1 | h1
  · exact .inl (.inl h1)
  · rcases sl_tri d.1 e.1 with h2 | h2 | h2
    · exact .inl (.inr ⟨h1, h2⟩)
    · exact absurd h2 h
    · exact .inr (.inr ⟨h1.symm, h2⟩)
  · exact .inr (.inl h1)
theorem ns_ntrans {pt : Pt} {d e f : En} (h : ¬ ns pt e d) (k : ¬ ns pt f e) : ¬ ns pt f d := by
  intro hfd
  by_cases hde : d.1 = e.1
  · unfold ns at *
    rw [hde] at h hfd
    by_cases h1 : dsB e.2 pt = dsB d.2 pt
    · apply k
      rcases hfd with q | ⟨q1, q2⟩
      · left; omega
      · exact .inr ⟨by omega, q2⟩
    · rcases hfd with q | ⟨q1, q2⟩
      · apply k; left
        have : ¬ dsB e.2 pt < dsB d.2 pt := fun h2 => h (.inl h2)
        omega
      · apply k; left
        have : ¬ dsB e.2 pt < dsB d.2 pt := fun h2 => h (.inl h2)
        omega
  · rcases ns_tri (pt := pt) hde with h1 | h1
    · exact k (ns_trans hfd h1)
    · exact h h1
/-- The entries in order of their distance. -/
def srtN (pt : Pt) (L : List En) : List En := L.mergeSort fun d e => decide (¬ ns pt e d)
theorem srtN_perm (pt : Pt) (L : List En) : (srtN pt L).Perm L := List.mergeSort_perm _ _
theorem srtN_srt {pt : Pt} {L : List En} (h : (L.map (·.1)).Nodup) : (srtN pt L).Pairwise (ns pt) := by
  have h1 : (srtN pt L).Pairwise fun d e => decide (¬ ns pt e d) = true := by
    unfold srtN
    refine List.pairwise_mergeSort ?_ ?_ _
    · intro a b c h1 h2
      simp only [decide_eq_true_eq] at *
      exact ns_ntrans h1 h2
    · intro a b
      simp only [Bool.or_eq_true, decide_eq_true_eq]
      by_cases hb : ns pt b a
      · exact .inr (ns_asymm hb)
      · exact .inl hb
  have h2 : (srtN pt L).Pairwise fun d e => d.1 ≠ e.1 := by
    have := ((srtN_perm pt L).map (·.1)).nodup_iff.2 h
    rwa [List.Nodup, List.pairwise_map] at this
  refine (h1.and h2).imp ?_
  rintro d e ⟨h3, h4⟩
  simp only [decide_eq_true_eq] at h3
  exact (ns_tri h4).resolve_right h3
/-- Two strictly ordered lists with the same members are one. -/
theorem srt_unique {α : Type} {r : α → α → Prop} (ha : ∀ a b, r a b → ¬ r b a) : ∀ {l k : List α}, l.Pairwise r → k.Pairwise r → (∀ x, x ∈ l ↔ x ∈ k) → l = k
  | [], [], _, _, _ => rfl
  | [], b :: k, _, _, h => absurd ((h b).2 (by simp)) (by simp)
  | a :: l, [], _, _, h => absurd ((h a).1 (by simp)) (by simp)
  | a :: l, b :: k, h1, h2, h => by
    rw [List.pairwise_cons] at h1 h2
    have hirr : ∀ x, ¬ r x x := fun x hx => ha x x hx hx
    have e : a = b := by
      rcases List.mem_cons.1 ((h a).1 (by simp)) with h3 | h3
      · exact h3
      · rcases List.mem_cons.1 ((h b).2 (by simp)) with h4 | h4
        · exact h4.symm
        · exact absurd (h1.1 b h4) (ha _ _ (h2.1 a h3))
    subst e
    rw [srt_unique ha h1.2 h2.2]
    intro x
    constructor
    · intro hx
      rcases List.mem_cons.1 ((h x).1 (by simp [hx])) with h3 | h3
      · subst h3; exact absurd (h1.1 x hx) (hirr x)
      · exact h3
    · intro hx
      rcases List.mem_cons.1 ((h x).2 (by simp [hx])) with h3 | h3
      · subst h3; exact absurd (h2.1 x hx) (hirr x)
      · exact h3

/-- The entries below what waits. -/
abbrev rst (X : List Wt) : List En := X.flatMap (·.c.2.2)
theorem rst_perm {X Y : List Wt} (h : X.Perm Y) : (rst X).Perm (rst Y) := h.flatMap_right _
/-- D has been handed out in order; X waits; P is to be pushed. -/
structure Ner (pt : Pt) (L D : List En) (X : List Wt) (P : List En) : Prop where
  perm : (D ++ (rst X ++ P)).Perm L
  srt : D.Pairwise (ns pt)
  le : ∀ d ∈ D, ∀ e ∈ rst X ++ P, ns pt d e
  far : ∀ x ∈ X, x.far = dsB x.c.2.1 pt
/-- What is known of a waiting node: its entries lie in its box; a leaf is its one entry. -/
def Wok (x : Wt) : Prop := (∀ e ∈ x.c.2.2, inB e.2 x.c.2.1) ∧ (x.h = 0 → x.c.2.2 = [(x.id, x.c.2.1)]) ∧ x.c.2.2 ≠ []
theorem Wok.of {w : World} {S : Nat → Prop} {x : Wt} (h : WtAt w S x) : Wok x := by
  refine ⟨h.in_, fun h0 => ?_, h.ne⟩
  obtain ⟨⟨pb, b, L⟩, hh, far⟩ := x
  simp only at h0
  subst h0
  obtain ⟨_, id, _, h3⟩ := h
  simp only at h3
  subst h3
  rfl
section
variable {pt : Pt} {L D P : List En} {X Y X' : List Wt} {x : Wt}
theorem Ner.leaf (H : Ner pt L D X []) (hL : (L.map (·.1)).Nodup) (hp : (x :: Y).Perm X) (hm : ∀ y ∈ X, ¬ LsW y x) (hok : ∀ y ∈ X, Wok y) (h0 : x.h = 0) : Ner pt L (D ++ [(x.id, x.c.2.1)]) Y [] := by
  have hx : x ∈ X := hp.mem_iff.1 (by simp)
  have hxe := (hok x hx).2.1 h0
  have hrp := rst_perm hp
  have hrx : rst (x :: Y) = (x.id, x.c.2.1) :: rst Y := by
    show x.c.2.2 ++ rst Y = _
    rw [hxe]; rfl
  rw [hrx] at hrp
  have hmem : ∀ e, e ∈ rst Y → e ∈ rst X := fun e he => hrp.mem_iff.1 (by simp [he])
  have hxm : (x.id, x.c.2.1) ∈ rst X := hrp.mem_iff.1 (by simp)
  refine ⟨?_, ?_, ?_, fun y hy => H.far y (hp.mem_iff.1 (by simp [hy]))⟩
  · refine List.Perm.trans ?_ H.perm
    rw [List.append_assoc]
    refine (List.Perm.refl D).append ?_
    simp only [List.append_nil, List.singleton_append]
    exact hrp
  · rw [List.pairwise_append]
    refine ⟨H.srt, by simp, fun d hd e he => ?_⟩
    simp at he; subst he
    exact H.le d hd _ (by simp [hxm])
  · intro d hd e he
    simp only [List.append_nil] at he
    rcases List.mem_append.1 hd with hd | hd
    · exact H.le d hd e (by simp [hmem e he])
    · simp at hd; subst hd
      obtain ⟨y, hy, hey⟩ := List.mem_flatMap.1 he
      have hyX : y ∈ X := hp.mem_iff.1 (by simp [hy])
      have hnl := hm y hyX
      have hfy := H.far y hyX
      have hfx := H.far x hx
      have hin := ((hok y hyX).1 e hey).far pt
      have hle : x.far ≤ y.far := by
        have : ¬ y.far < x.far := fun h => hnl (.inl h)
        omega
      unfold ns
      simp only
      by_cases hlt : dsB x.c.2.1 pt < dsB e.2 pt
      · exact .inl hlt
      · right
        have hfe : y.far = x.far := by omega
        refine ⟨by omega, ?_⟩
        have hy0 : y.h = 0 := by
          apply Classical.byContradiction
          intro hh
          exact hnl (.inr ⟨hfe, .inl ⟨hh, h0⟩⟩)
        have hye := (hok y hyX).2.1 hy0
        rw [hye] at hey
        simp at hey; subst hey
        have hns : ¬ sl y.id x.id := fun h => hnl (.inr ⟨hfe, .inr ⟨by simp [h0, hy0], h⟩⟩)
        rcases sl_tri x.id y.id with h | h | h
        · exact h
        · exfalso
          have hnd : ((D ++ (rst X ++ [])).map (fun e : En => e.1)).Nodup := (H.perm.map (fun e : En => e.1)).nodup_iff.2 hL
          rw [List.append_nil, List.map_append, List.nodup_append] at hnd
          have h2 := (hrp.map (fun e : En => e.1)).nodup_iff.2 hnd.2.1
          rw [List.map_cons, List.nodup_cons] at h2
          exact h2.1 (List.mem_map.2 ⟨_, he, h.symm⟩)
        · exact absurd h hns
theorem Ner.inner (H : Ner pt L D X []) (hp : (x :: Y).Perm X) : Ner pt L D Y x.c.2.2 := by
  have hrp := rst_perm hp
  have hrx : rst (x :: Y) = x.c.2.2 ++ rst Y := rfl
  rw [hrx] at hrp
  have h2 : (rst Y ++ x.c.2.2).Perm (rst X ++ []) := by rw [List.append_nil]; exact List.perm_append_comm.trans hrp
  exact ⟨((List.Perm.refl D).append h2).trans H.perm, H.srt, fun d hd e he => H.le d hd e (h2.mem_iff.1 he), fun y hy => H.far y (hp.mem_iff.1 (by simp [hy]))⟩
theorem Ner.push (H : Ner pt L D Y (x.c.2.2 ++ P)) (hp : X'.Perm (Y ++ [x])) (hf : x.far = dsB x.c.2.1 pt) : Ner pt L D X' P := by
  have h1 := rst_perm hp
  have hrx : rst (Y ++ [x]) = rst Y ++ x.c.2.2 := by simp
  rw [hrx] at h1
  have h2 : (rst X' ++ P).Perm (rst Y ++ (x.c.2.2 ++ P)) := by rw [← List.append_assoc]; exact h1.append (List.Perm.refl P)
  refine ⟨((List.Perm.refl D).append h2).trans H.perm, H.srt, fun d hd e he => H.le d hd e (h2.mem_iff.1 he), fun y hy => ?_⟩
  rcases List.mem_append.1 (hp.mem_iff.1 hy) with h | h
  · exact H.far y h
  · simp at h; subst h; exact hf
/-- What has been handed out is the beginning of the whole. -/
theorem Ner.pre (H : Ner pt L D X P) (hL : (L.map (·.1)).Nodup) : ∃ K, srtN pt L = D ++ K := by
  have hnd : ((D ++ (rst X ++ P)).map (·.1)).Nodup := (H.perm.map (fun e : En => e.1)).nodup_iff.2 hL
  have hnr : ((rst X ++ P).map (·.1)).Nodup := by
    rw [List.map_append, List.nodup_append] at hnd; exact hnd.2.1
  refine ⟨srtN pt (rst X ++ P), ?_⟩
  refine srt_unique (fun a b => ns_asymm) (srtN_srt hL) ?_ fun e => ?_
  · rw [List.pairwise_append]
    exact ⟨H.srt, srtN_srt hnr, fun d hd e he => H.le d hd e ((srtN_perm _ _).mem_iff.1 he)⟩
  · rw [(srtN_perm pt L).mem_iff, ← H.perm.mem_iff]
    simp only [List.mem_append, (srtN_perm pt (rst X ++ P)).mem_iff]
theorem Ner.take (H : Ner pt L D X P) (hL : (L.map (·.1)).Nodup) {n : Nat} (hn : D.length = n ∨ D.length ≤ n ∧ X = [] ∧ P = []) : (srtN pt L).take n = D := by
  obtain ⟨K, hK⟩ := H.pre hL
  rcases hn with hn | ⟨hn, hX, hP⟩
  · rw [hK, List.take_append_of_le_length (by omega), List.take_of_length_le (by omega)]
  · subst hX hP
    have h1 := H.perm.length_eq
    have h2 := (srtN_perm pt L).length_eq
    have h3 : K = [] := by
      apply List.eq_nil_of_length_eq_zero
      rw [hK] at h2
      simp at h1 h2
      omega
    rw [hK, h3, List.append_nil, List.take_of_length_le hn]
theorem Ner.len (H : Ner pt L D X P) (hok : ∀ y ∈ X, Wok y) : X.length + D.length + P.length ≤ L.length := by
  have h1 := H.perm.length_eq
  simp only [List.length_append] at h1
  have h2 : X.length ≤ (rst X).length := by
    clear H h1
    induction X with
    | nil => simp
    | cons y X ih =>
      have h3 := ih fun z hz => hok z (by simp [hz])
      have h4 := List.length_pos_iff.2 (hok y (by simp)).2.2
      show X.length + 1 ≤ (y.c.2.2 ++ rst X).length
      rw [List.length_append]
      omega
  omega
end
/-- How much is left to do. -/
def wgt (X : List Wt) : Nat := (X.map fun x => (x.h + 1) * x.c.2.2.length).sum
theorem wgt_perm {X Y : List Wt} (h : X.Perm Y) : wgt X = wgt Y := (h.map _).sum_nat
theorem wgt_cons (x : Wt) (X : List Wt) : wgt (x :: X) = (x.h + 1) * x.c.2.2.length + wgt X := by simp [wgt]
theorem wgt_app (X Y : List Wt) : wgt (X ++ Y) = wgt X + wgt Y := by simp [wgt]
/-- The nearest of an index. -/
def NearR (m : ByteArray → Option Bx) (pt : Pt) (n : Int) (R : List ByteArray) : Prop := ∃ L, EnOf L m ∧ R = ((srtN pt L).take n.toNat).map (·.1)
end Go.Proofs.Ytcafnanbdmapgaa
