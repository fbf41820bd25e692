/- Two indexes side by side. -/
import Derived.Test.YtcafnanbdmapgaaO5
set_option linter.unusedVariables false
set_option linter.unusedSimpArgs false
namespace Go.Proofs.Ytcafnanbdmapgaa
open Go.RowKit Go.Pl

/-- Two indexes, at q and at r; U: what they own together. -/
structure Xx (w : World) (B q N : Nat) (m : ByteArray → Option Bx) (r N2 : Nat) (m2 : ByteArray → Option Bx) (U : Nat → Prop) : Prop where
  ex : ∃ T σ, Ix w B q N T m ∧ Ix w B r N2 σ m2 ∧ (∀ k, T k → ¬ σ k) ∧ (∀ k, U k ↔ T k ∨ σ k)
section
variable {w w' : World} {B q N r N2 : Nat} {m m2 : ByteArray → Option Bx} {U : Nat → Prop}
theorem Xx.swap (h : Xx w B q N m r N2 m2 U) : Xx w B r N2 m2 q N m U := by
  obtain ⟨T, σ, h1, h2, h3, h4⟩ := h
  exact ⟨σ, T, h2, h1, fun k hk ht => h3 k ht hk, fun k => (h4 k).trans Or.comm⟩
theorem Xx.lt (h : Xx w B q N m r N2 m2 U) : ∀ k, U k → B ≤ k ∧ k < w.heap.size := by
  obtain ⟨T, σ, h1, h2, h3, h4⟩ := h
  intro k hk
  rcases (h4 k).1 hk with h | h
  · exact h1.lt k h
  · exact h2.lt k h
theorem Xx.fr (h : Xx w B q N m r N2 m2 U) (hf : Fr (fun _ => False) w w') (_ : ∀ k, U k → ¬ (fun _ : Nat => False) k) : Xx w' B q N m r N2 m2 U := by
  obtain ⟨T, σ, h1, h2, h3, h4⟩ := h
  exact ⟨T, σ, h1.fr hf (fun _ _ h => h), h2.fr hf (fun _ _ h => h), h3, h4⟩
theorem Xx.mono {N' N2' : Nat} (h : Xx w B q N m r N2 m2 U) (hN : N ≤ N') (hN2 : N2 ≤ N2') : Xx w B q N' m r N2' m2 U := by
  obtain ⟨T, σ, h1, h2, h3, h4⟩ := h
  exact ⟨T, σ, h1.mono hN, h2.mono hN2, h3, h4⟩
theorem Xx.ok (h : Xx w B q N m r N2 m2 U) : ∀ s b, m s = some b → okB b := by
  obtain ⟨T, σ, h1, h2, h3, h4⟩ := h
  exact h1.ok
/-- What a step leaves. -/
def XxS (w : World) (B q N : Nat) (m : ByteArray → Option Bx) (r N2 : Nat) (m2 : ByteArray → Option Bx) (U U' : Nat → Prop) (w' : World) : Prop := Xx w' B q N m r N2 m2 U' ∧ Fr U w w' ∧ TT w U U'
theorem XxS.swap {U' : Nat → Prop} (h : XxS w B q N m r N2 m2 U U' w') : XxS w B r N2 m2 q N m U U' w' := ⟨h.1.swap, h.2⟩
theorem xx_x {T T' σ : Nat → Prop} {N' : Nat} {m' : ByteArray → Option Bx} (hX : Ix w' B q N' T' m') (hf : Fr T w w') (ht : TT w T T') (h1 : Ix w B q N T m) (h2 : Ix w B r N2 σ m2) (h3 : ∀ k, T k → ¬ σ k) (h4 : ∀ k, U k ↔ T k ∨ σ k) : XxS w B q N' m' r N2 m2 U (fun k => T' k ∨ σ k) w' := by
  refine ⟨⟨T', σ, hX, h2.fr hf (fun k hk ht => h3 k ht hk), fun k hk hs => ?_, fun _ => Iff.rfl⟩, hf.mono (fun k _ hk => (h4 k).2 (.inl hk)), ?_⟩
  · rcases ht k hk with h | h
    · exact h3 k h hs
    · have := (h2.lt k hs).2; omega
  · rintro k (hk | hk)
    · rcases ht k hk with h | h
      · exact .inl ((h4 k).2 (.inl h))
      · exact .inr h
    · exact .inl ((h4 k).2 (.inr hk))
theorem xx_put (h : Xx w B q N m r N2 m2 U) (hN : N ≤ 100000) (s : ByteArray) (hs : s.size ≤ maxLen) (b : Bx) : Calls Try.prog 29 #[.pointer (some ⟨q, 0, none⟩), .string s, .agg (bxC b)] w fun e w' => e = .returned (.int .i64 (putE m s b)) ∧ ∃ U', XxS w B q (N + 1) (putM m s b) r N2 m2 U U' w' := by
  obtain ⟨T, σ, h1, h2, h3, h4⟩ := h
  refine (ix_put h1 hN s hs b).mono ?_
  rintro e w' ⟨h6, h7, h8⟩
  exact ⟨h6, _, xx_x h7 h8 (TT.refl _ _) h1 h2 h3 h4⟩
theorem xx_drop (h : Xx w B q N m r N2 m2 U) (s : ByteArray) (hs : s.size ≤ maxLen) : Calls Try.prog 30 #[.pointer (some ⟨q, 0, none⟩), .string s] w fun e w' => e = .returned (.int .i64 (dropE m s)) ∧ ∃ U', XxS w B q N (delB m s) r N2 m2 U U' w' := by
  obtain ⟨T, σ, h1, h2, h3, h4⟩ := h
  refine (ix_drop h1 s hs).mono ?_
  rintro e w' ⟨h6, h7, h8⟩
  exact ⟨h6, _, xx_x h7 h8 (TT.refl _ _) h1 h2 h3 h4⟩
theorem xx_box (h : Xx w B q N m r N2 m2 U) (s : ByteArray) (hs : s.size ≤ maxLen) : Calls Try.prog 16 #[.pointer (some ⟨q, 0, none⟩), .string s] w fun e w' => e = .returned (.tuple #[.agg (bxC ((m s).getD ((0, 0), (0, 0)))), .bool (m s).isSome]) ∧ Fr (fun _ => False) w w' := by
  obtain ⟨T, σ, h1, h2, h3, h4⟩ := h
  exact ix_box h1 s hs
theorem xx_q {v : Value} {R : List ByteArray} {T σ : Nat → Prop} (hl : R.length ≤ 1000000) (hQ : IxQ w B q N T m v R w') (h1 : Ix w B q N T m) (h2 : Ix w B r N2 σ m2) (h3 : ∀ k, T k → ¬ σ k) (h4 : ∀ k, U k ↔ T k ∨ σ k) : ∃ U', XxS w B q N m r N2 m2 U U' w' ∧ Rw w' U' v R := by
  obtain ⟨T', k3, k4, k5, ⟨C, k6, k7⟩, k8⟩ := hQ
  refine ⟨_, xx_x k3 k4 k5 h1 h2 h3 h4, hl, C, k7, ?_⟩
  rintro k hk (hT | hs)
  · exact k8 k hk hT
  · have := (h2.lt k hs).2; have := (k7.lt hk).1; omega
theorem xx_in (h : Xx w B q N m r N2 m2 U) (hN : N ≤ 100000) (b : Bx) : Calls Try.prog 19 #[.pointer (some ⟨q, 0, none⟩), .agg (bxC b)] w fun e w' => ∃ v, e = .returned v ∧ ∃ R U', InS m b R ∧ XxS w B q N m r N2 m2 U U' w' ∧ Rw w' U' v R := by
  obtain ⟨T, σ, h1, h2, h3, h4⟩ := h
  refine (ix_in h1 hN b).mono ?_
  rintro e w' ⟨v, R, k1, k2, k3⟩
  have hl := k2.len h1
  obtain ⟨U', k4, k5⟩ := xx_q (by omega) k3 h1 h2 h3 h4
  exact ⟨v, k1, R, U', k2, k4, k5⟩
theorem NearS.le {T : Nat → Prop} (h : Ix w B q N T m) {pt : Pt} {n : Int} {R : List ByteArray} (k : NearS m pt n R) : R.length ≤ N := by
  unfold NearS at k
  split at k
  · obtain ⟨L, hL, rfl⟩ := k
    have := h.enlen hL
    have h9 := (srtN_perm pt L).length_eq
    rw [List.length_map, List.length_take]
    omega
  · rw [k]; exact Nat.zero_le _
theorem xx_near (h : Xx w B q N m r N2 m2 U) (hN : N ≤ 100000) (pt : Pt) (n : Int) : Calls Try.prog 21 #[.pointer (some ⟨q, 0, none⟩), .agg (ptC pt), .int .i64 n] w fun e w' => ∃ v, e = .returned v ∧ ∃ R U', NearS m pt n R ∧ XxS w B q N m r N2 m2 U U' w' ∧ Rw w' U' v R := by
  obtain ⟨T, σ, h1, h2, h3, h4⟩ := h
  refine (ix_near h1 hN pt n).mono ?_
  rintro e w' ⟨v, R, k1, k2, k3⟩
  have hl := NearS.le h1 k2
  obtain ⟨U', k4, k5⟩ := xx_q (by omega) k3 h1 h2 h3 h4
  exact ⟨v, k1, R, U', k2, k4, k5⟩
theorem xx_new {T : Nat → Prop} (h : Ix w B q N T m) (hB : B ≤ w.heap.size) : Calls Try.prog 11 #[] w fun e w' => ∃ u, e = .returned u ∧ ∃ r U', u = .pointer (some ⟨r, 0, none⟩) ∧ Xx w' B q N m r 0 (fun _ => none) U' ∧ Fr T w w' ∧ TT w T U' := by
  refine (ix_new w).mono ?_
  rintro e w' ⟨r, σ, h1, h2, h3⟩
  refine ⟨_, h1, r, fun k => T k ∨ σ k, rfl, ⟨T, σ, h.fr h3 (fun _ _ h => h), h2.base hB, fun k hk hs => ?_, fun _ => Iff.rfl⟩, h3.mono (fun _ _ h => h.elim), ?_⟩
  · have := (h2.lt k hs).1; have := (h.lt k hk).2; omega
  · rintro k (hk | hk)
    · exact .inl hk
    · exact .inr (h2.lt k hk).1
end
section
variable {o : Oper} {w : World} {ρ : Operand → Value} {x y : Operand} {s t : ByteArray}
theorem run_sadd (hx : ρ x = .string s) (hy : ρ y = .string t) (hl : s.size + t.size ≤ 1000) (ho : o.op = .binOp .add 9 x y 9) : (execOp ρ o).run Try.prog w = .ok (.value (.string (s ++ t))) w := by
  simp [execOp, ho, hx, hy, go_sem]
  omega
end
/-- The other Ids are long. -/
theorem long_ne {oth s id : ByteArray} (ho : oth.size = 101) (hs : s.size ≤ 100) : s ≠ oth ++ id := fun e => by
  have := congrArg ByteArray.size e
  rw [ByteArray.size_append] at this
  omega
section
variable {l : List Wo} {oth : ByteArray} {m my : ByteArray → Option Bx} {i : Nat} {y : Wo}
/-- Every Id is short, or another one of an operation. -/
def OA (l : List Wo) (oth : ByteArray) (my : ByteArray → Option Bx) : Prop := ∀ s b, my s = some b → s.size ≤ 100 ∨ ∃ (t : Nat) (o : Wo), l[t]? = some o ∧ s = oth ++ o.2.1
theorem putM_ne {s s' : ByteArray} {b : Bx} (h : s' ≠ s) : putM m s b s' = m s' := by
  unfold putM; split
  · unfold updB; rw [if_neg h]
  · rfl
theorem OA.put (h : OA l oth my) (ho : oth.size = 101) (h0 : ∀ s : ByteArray, s.size ≤ 100 → my s = none) (hy : l[i]? = some y) (b : Bx) : OA l oth (putM my (oth ++ y.2.1) b) ∧ ∀ s : ByteArray, s.size ≤ 100 → putM my (oth ++ y.2.1) b s = none := by
  refine ⟨fun s c hs => ?_, fun s hs => ?_⟩
  · by_cases e : s = oth ++ y.2.1
    · exact .inr ⟨i, y, hy, e⟩
    · rw [putM_ne e] at hs; exact h s c hs
  · rw [putM_ne (long_ne ho hs)]; exact h0 s hs
/-- What the loop from the end knows, k operations left. -/
structure OB (l : List Wo) (oth : ByteArray) (m my : ByteArray → Option Bx) (k : Nat) : Prop where
  a : OA l oth my
  s : ∀ s : ByteArray, s.size ≤ 100 → my s = none ∨ my s = m s
  d : ∀ (t : Nat) (o : Wo), k ≤ t → l[t]? = some o → my o.2.1 = m o.2.1
theorem OB.start (h : OA l oth my) (h0 : ∀ s : ByteArray, s.size ≤ 100 → my s = none) : OB l oth m my l.length :=
  ⟨h, fun s hs => .inl (h0 s hs), fun t o ht ho => by have := (List.getElem?_eq_some_iff.1 ho).1; omega⟩
theorem OB.keep (h : OB l oth m my (i + 1)) (hy : l[i]? = some y) (he : my y.2.1 = m y.2.1) : OB l oth m my i :=
  ⟨h.a, h.s, fun t o ht ho => by
    by_cases e : t = i
    · subst e; rw [hy] at ho; obtain rfl := Option.some.inj ho; exact he
    · exact h.d t o (by omega) ho⟩
theorem OB.put {c : Bx} (h : OB l oth m my (i + 1)) (hy : l[i]? = some y) (hsz : y.2.1.size ≤ 100) (hm : m y.2.1 = some c) : OB l oth m (updB my y.2.1 c) i := by
  refine ⟨fun s b hs => ?_, fun s hs => ?_, fun t o ht ho => ?_⟩
  · unfold updB at hs; split at hs
    · rename_i e; rw [e]; exact .inl hsz
    · exact h.a s b hs
  · unfold updB; split
    · rename_i e; rw [e, hm]; exact .inr rfl
    · exact h.s s hs
  · unfold updB; split
    · rename_i e; rw [e, hm]
    · rename_i hne
      by_cases e : t = i
      · subst e; rw [hy] at ho; obtain rfl := Option.some.inj ho; exact absurd rfl hne
      · exact h.d t o (by omega) ho
/-- What the loop that drops knows. -/
structure OC (l : List Wo) (oth : ByteArray) (m my : ByteArray → Option Bx) (j : Nat) : Prop where
  s : ∀ s : ByteArray, s.size ≤ 100 → my s = m s
  a : ∀ s b, my s = some b → s.size ≤ 100 ∨ ∃ (t : Nat) (o : Wo), j ≤ t ∧ l[t]? = some o ∧ s = oth ++ o.2.1
theorem OB.done {n : Int} (h : OB l oth (mOf l) my 0) (hsh : shB l n = true) : OC l oth (mOf l) my 0 := by
  refine ⟨fun s hs => ?_, fun s b hb => ?_⟩
  · rcases h.s s hs with h1 | h1
    · cases hm : mOf l s with
      | none => exact h1
      | some b =>
        obtain ⟨o, ho, rfl⟩ := mOf_id hm
        obtain ⟨t, ht, hte⟩ := List.mem_iff_getElem.1 ho
        rw [← hm]
        exact h.d t o (Nat.zero_le _) (by rw [List.getElem?_eq_getElem ht, hte])
    · exact h1
  · rcases h.a s b hb with h1 | ⟨t, o, h1, h2⟩
    · exact .inl h1
    · exact .inr ⟨t, o, Nat.zero_le _, h1, h2⟩
theorem OC.drop (h : OC l oth m my i) (ho : oth.size = 101) (hy : l[i]? = some y) : OC l oth m (delB my (oth ++ y.2.1)) (i + 1) := by
  refine ⟨fun s hs => ?_, fun s b hb => ?_⟩
  · unfold delB; rw [if_neg (long_ne ho hs)]; exact h.s s hs
  · unfold delB at hb; split at hb
    · cases hb
    · rename_i hne
      rcases h.a s b hb with h1 | ⟨t, o, h1, h2, h3⟩
      · exact .inl h1
      · right
        refine ⟨t, o, ?_, h2, h3⟩
        by_cases e : t = i
        · subst e; rw [hy] at h2; obtain rfl := Option.some.inj h2; exact absurd h3 hne
        · omega
theorem OC.done {n : Int} (h : OC l oth (mOf l) my l.length) (hsh : shB l n = true) : my = mOf l := by
  funext s
  by_cases hs : s.size ≤ 100
  · exact h.s s hs
  · cases h1 : my s with
    | some b =>
      rcases h.a s b h1 with h2 | ⟨t, o, h2, h3, _⟩
      · exact absurd h2 hs
      · have := (List.getElem?_eq_some_iff.1 h3).1; omega
    | none =>
      cases h2 : mOf l s with
      | none => rfl
      | some b =>
        obtain ⟨o, ho, rfl⟩ := mOf_id h2
        exact absurd (shB.id hsh o ho) hs
end
end Go.Proofs.Ytcafnanbdmapgaa
