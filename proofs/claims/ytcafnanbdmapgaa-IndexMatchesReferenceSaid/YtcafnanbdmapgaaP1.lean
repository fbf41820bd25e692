/- An index and the reference's index side by side. -/
import Derived.Test.YtcafnanbdmapgaaO5
set_option linter.unusedVariables false
set_option linter.unusedSimpArgs false
namespace Go.Proofs.Ytcafnanbdmapgaa
open Go.RowKit Go.Pl

/-- The program's index at q and the reference's at r; U: what they own together. -/
structure Two (w : World) (B q N : Nat) (m : ByteArray → Option Bx) (r : Nat) (I : List ByteArray) (J : List Bx) (U : Nat → Prop) : Prop where
  ex : ∃ T σ, Ix w B q N T m ∧ RIA w r σ I J ∧ (∀ k, T k → ¬ σ k) ∧ (∀ k, U k ↔ T k ∨ σ k)
  ge : ∀ k, U k → B ≤ k
theorem RIA.lt {w : World} {r : Nat} {σ : Nat → Prop} {I J} (h : RIA w r σ I J) : ∀ k, σ k → k < w.heap.size := by
  obtain ⟨iv, bv, h⟩ := h; exact h.lt
theorem RIA.fr {w w' : World} {r : Nat} {σ F : Nat → Prop} {I J} (h : RIA w r σ I J) (hf : Fr F w w') (hd : ∀ k, σ k → ¬ F k) : RIA w' r σ I J := by
  obtain ⟨iv, bv, h⟩ := h; exact ⟨iv, bv, h.fr hf hd⟩
section
variable {w w' : World} {B q N r : Nat} {m : ByteArray → Option Bx} {I : List ByteArray} {J : List Bx} {U : Nat → Prop}
theorem Two.lt (h : Two w B q N m r I J U) : ∀ k, U k → B ≤ k ∧ k < w.heap.size := by
  obtain ⟨⟨T, σ, h1, h2, h3, h4⟩, h5⟩ := h
  intro k hk
  refine ⟨h5 k hk, ?_⟩
  rcases (h4 k).1 hk with h | h
  · exact (h1.lt k h).2
  · exact h2.lt k h
theorem Two.fr (h : Two w B q N m r I J U) (hf : Fr (fun _ => False) w w') (_ : ∀ k, U k → ¬ (fun _ : Nat => False) k) : Two w' B q N m r I J U := by
  obtain ⟨⟨T, σ, h1, h2, h3, h4⟩, h5⟩ := h
  exact ⟨⟨T, σ, h1.fr hf (fun _ _ h => h), h2.fr hf (fun _ _ h => h), h3, h4⟩, h5⟩
theorem Two.mono {N' : Nat} (h : Two w B q N m r I J U) (hN : N ≤ N') : Two w B q N' m r I J U := by
  obtain ⟨⟨T, σ, h1, h2, h3, h4⟩, h5⟩ := h
  exact ⟨⟨T, σ, h1.mono hN, h2, h3, h4⟩, h5⟩
/-- What a step leaves. -/
def TwoS (w : World) (B q N : Nat) (m : ByteArray → Option Bx) (r : Nat) (I : List ByteArray) (J : List Bx) (U U' : Nat → Prop) (w' : World) : Prop := Two w' B q N m r I J U' ∧ Fr U w w' ∧ TT w U U'
theorem two_x {T T' σ : Nat → Prop} {N' : Nat} {m' : ByteArray → Option Bx} (hX : Ix w' B q N' T' m') (hf : Fr T w w') (ht : TT w T T') (h1 : Ix w B q N T m) (h2 : RIA w r σ I J) (h3 : ∀ k, T k → ¬ σ k) (h4 : ∀ k, U k ↔ T k ∨ σ k) (h5 : ∀ k, U k → B ≤ k) : TwoS w B q N' m' r I J U (fun k => T' k ∨ σ k) w' := by
  refine ⟨⟨⟨T', σ, hX, h2.fr hf (fun k hk ht => h3 k ht hk), fun k hk hs => ?_, fun _ => Iff.rfl⟩, ?_⟩, hf.mono (fun k _ hk => (h4 k).2 (.inl hk)), ?_⟩
  · rcases ht k hk with h | h
    · exact h3 k h hs
    · have := h2.lt k hs; omega
  · rintro k (hk | hk)
    · exact (hX.lt k hk).1
    · exact h5 k ((h4 k).2 (.inr hk))
  · rintro k (hk | hk)
    · rcases ht k hk with h | h
      · exact .inl ((h4 k).2 (.inl h))
      · exact .inr h
    · exact .inl ((h4 k).2 (.inr hk))
theorem two_y {T σ σ' : Nat → Prop} {I' : List ByteArray} {J' : List Bx} (hY : RIA w' r σ' I' J') (hf : Fr σ w w') (ht : ∀ k, k < w.heap.size → σ' k → σ k) (hB : B ≤ w.heap.size) (h1 : Ix w B q N T m) (h3 : ∀ k, T k → ¬ σ k) (h4 : ∀ k, U k ↔ T k ∨ σ k) (h5 : ∀ k, U k → B ≤ k) : TwoS w B q N m r I' J' U (fun k => T k ∨ σ' k) w' := by
  have ht2 : ∀ k, σ' k → σ k ∨ w.heap.size ≤ k := fun k hk => by
    by_cases h : k < w.heap.size
    · exact .inl (ht k h hk)
    · exact .inr (by omega)
  refine ⟨⟨⟨T, σ', h1.fr hf h3, hY, fun k hk hs => ?_, fun _ => Iff.rfl⟩, ?_⟩, hf.mono (fun k _ hk => (h4 k).2 (.inr hk)), ?_⟩
  · rcases ht2 k hs with h | h
    · exact h3 k hk h
    · have := (h1.lt k hk).2; omega
  · rintro k (hk | hk)
    · exact (h1.lt k hk).1
    · rcases ht2 k hk with h | h
      · exact h5 k ((h4 k).2 (.inr h))
      · omega
  · rintro k (hk | hk)
    · exact .inl ((h4 k).2 (.inl hk))
    · rcases ht2 k hk with h | h
      · exact .inl ((h4 k).2 (.inr h))
      · exact .inr h
theorem Two.size (h : Two w B q N m r I J U) : B ≤ w.heap.size := by
  obtain ⟨⟨T, σ, h1, h2, h3, h4⟩, h5⟩ := h
  obtain ⟨⟨mb, S, rv, pk, k1, k2, k3, k4⟩, k5⟩ := h1
  have := k5 q k2; omega
theorem Two.ok (h : Two w B q N m r I J U) : ∀ s b, m s = some b → okB b := by
  obtain ⟨⟨T, σ, h1, h2, h3, h4⟩, h5⟩ := h
  exact h1.ok
theorem Two.len (h : Two w B q N m r I J U) (hR : RefOf m I J) : I.length ≤ N := by
  obtain ⟨⟨T, σ, h1, h2, h3, h4⟩, h5⟩ := h
  have := h1.enlen hR.en
  rw [List.length_zip, ← hR.len, Nat.min_self] at this
  exact this
theorem two_do (h : Two w B q N m r I J U) (hN : N ≤ 100000) (o : Wo) (hsz : o.2.1.size ≤ maxLen) : Calls Try.prog 15 #[.pointer (some ⟨q, 0, none⟩), .agg (opC o)] w fun e w' => e = .returned (.int .i64 (doE m o)) ∧ ∃ U', TwoS w B q (N + 1) (doM m o) r I J U U' w' := by
  obtain ⟨⟨T, σ, h1, h2, h3, h4⟩, h5⟩ := h
  refine (do_calls h1 hN o hsz).mono ?_
  rintro e w' ⟨h6, h7, h8⟩
  exact ⟨h6, _, two_x h7 h8 (TT.refl _ _) h1 h2 h3 h4 h5⟩
theorem two_put (h : Two w B q N m r I J U) (hIJ : I.length = J.length) (hI : I.length ≤ 100000) (s : ByteArray) (b : Bx) : Calls Try.prog 14 #[.pointer (some ⟨r, 0, none⟩), .string s, .agg (bxC b)] w fun e w' => e = .returned (.int .i64 (rput I J s b).1) ∧ ∃ U', TwoS w B q N m r (rput I J s b).2.1 (rput I J s b).2.2 U U' w' := by
  have hB := h.size
  obtain ⟨⟨T, σ, h1, ⟨iv, bv, h2⟩, h3, h4⟩, h5⟩ := h
  refine (rput_calls h2 hIJ hI s b).mono ?_
  rintro e w' ⟨h6, σ', h7, h8, h9⟩
  exact ⟨h6, _, two_y h7 h8 h9 hB h1 h3 h4 h5⟩
theorem two_drop (h : Two w B q N m r I J U) (hIJ : I.length = J.length) (hI : I.length ≤ 100000) (s : ByteArray) : Calls Try.prog 13 #[.pointer (some ⟨r, 0, none⟩), .string s] w fun e w' => e = .returned (.int .i64 (rdrop I J s).1) ∧ ∃ U', TwoS w B q N m r (rdrop I J s).2.1 (rdrop I J s).2.2 U U' w' := by
  have hB := h.size
  obtain ⟨⟨T, σ, h1, ⟨iv, bv, h2⟩, h3, h4⟩, h5⟩ := h
  refine (rdrop_calls h2 hIJ hI s).mono ?_
  rintro e w' ⟨h6, σ', h7, h8, h9⟩
  exact ⟨h6, _, two_y h7 h8 h9 hB h1 h3 h4 h5⟩
theorem two_box (h : Two w B q N m r I J U) (s : ByteArray) (hs : s.size ≤ maxLen) : Calls Try.prog 16 #[.pointer (some ⟨q, 0, none⟩), .string s] w fun e w' => e = .returned (.tuple #[.agg (bxC ((m s).getD ((0, 0), (0, 0)))), .bool (m s).isSome]) ∧ Fr (fun _ => False) w w' := by
  obtain ⟨⟨T, σ, h1, h2, h3, h4⟩, h5⟩ := h
  exact ix_box h1 s hs
theorem two_rbox (h : Two w B q N m r I J U) (hR : RefOf m I J) (s : ByteArray) : Calls Try.prog 17 #[.pointer (some ⟨r, 0, none⟩), .string s] w fun e w' => e = .returned (.tuple #[.agg (bxC ((m s).getD ((0, 0), (0, 0)))), .bool (m s).isSome]) ∧ Fr (fun _ => False) w w' := by
  obtain ⟨⟨T, σ, h1, ⟨iv, bv, h2⟩, h3, h4⟩, h5⟩ := h
  refine (rbox_calls h2 hR.len s).mono ?_
  rintro e w' ⟨h6, h7⟩
  rw [hR.box s] at h6
  exact ⟨h6, h7⟩
theorem two_in (h : Two w B q N m r I J U) (hN : N ≤ 100000) (b : Bx) : Calls Try.prog 19 #[.pointer (some ⟨q, 0, none⟩), .agg (bxC b)] w fun e w' => ∃ v, e = .returned v ∧ ∃ R U', InS m b R ∧ TwoS w B q N m r I J U U' w' ∧ Rw w' U' v R := by
  obtain ⟨⟨T, σ, h1, h2, h3, h4⟩, h5⟩ := h
  refine (ix_in h1 hN b).mono ?_
  rintro e w' ⟨v, R, k1, k2, T', k3, k4, k5, ⟨C, k6, k7⟩, k8⟩
  have hl := k2.len h1
  refine ⟨v, k1, R, _, k2, two_x k3 k4 k5 h1 h2 h3 h4 h5, by omega, C, k7, ?_⟩
  rintro k hk (hT | hs)
  · exact k8 k hk hT
  · have := h2.lt k hs; have := (k7.lt hk).1; omega
theorem NearS.len {T : Nat → Prop} (h : Ix w B q N T m) {pt : Pt} {n : Int} {R : List ByteArray} (k : NearS m pt n R) : R.length ≤ N := by
  unfold NearS at k
  split at k
  · obtain ⟨L, hL, rfl⟩ := k
    have := h.enlen hL
    have h9 := (srtN_perm pt L).length_eq
    rw [List.length_map, List.length_take]
    omega
  · rw [k]; exact Nat.zero_le _
theorem two_near (h : Two w B q N m r I J U) (hN : N ≤ 100000) (pt : Pt) (n : Int) : Calls Try.prog 21 #[.pointer (some ⟨q, 0, none⟩), .agg (ptC pt), .int .i64 n] w fun e w' => ∃ v, e = .returned v ∧ ∃ R U', NearS m pt n R ∧ TwoS w B q N m r I J U U' w' ∧ Rw w' U' v R := by
  obtain ⟨⟨T, σ, h1, h2, h3, h4⟩, h5⟩ := h
  refine (ix_near h1 hN pt n).mono ?_
  rintro e w' ⟨v, R, k1, k2, T', k3, k4, k5, ⟨C, k6, k7⟩, k8⟩
  have hl := NearS.len h1 k2
  refine ⟨v, k1, R, _, k2, two_x k3 k4 k5 h1 h2 h3 h4 h5, by omega, C, k7, ?_⟩
  rintro k hk (hT | hs)
  · exact k8 k hk hT
  · have := h2.lt k hs; have := (k7.lt hk).1; omega
theorem two_rin (h : Two w B q N m r I J U) (hR : RefOf m I J) (hN : N ≤ 100000) (b : Bx) : Calls Try.prog 20 #[.pointer (some ⟨r, 0, none⟩), .agg (bxC b)] w fun e w' => ∃ v, e = .returned v ∧ ∃ R U', InS m b R ∧ TwoS w B q N m r I J U U' w' ∧ Rw w' U' v R := by
  have hl := h.len hR
  have hlt := h.lt
  have h0 := h
  obtain ⟨⟨T, σ, h1, ⟨iv, bv, h2⟩, h3, h4⟩, h5⟩ := h
  refine (rin_calls h2 hR.len (by omega) b).mono ?_
  rintro e w' ⟨v, k1, k2, k3⟩
  have h6 := (hR.inS b).len h1
  exact ⟨v, k1, _, U, hR.inS b, ⟨h0.fr k3 (fun _ _ h => h), k3.mono (fun _ _ h => h.elim), TT.refl _ _⟩, by omega, _, k2, fun k hk hu => by have := (hlt k hu).2; have := (k2.lt hk).1; omega⟩
theorem two_rnear (h : Two w B q N m r I J U) (hR : RefOf m I J) (hN : N ≤ 100000) (pt : Pt) (n : Int) : Calls Try.prog 22 #[.pointer (some ⟨r, 0, none⟩), .agg (ptC pt), .int .i64 n] w fun e w' => ∃ v, e = .returned v ∧ ∃ R U', NearS m pt n R ∧ TwoS w B q N m r I J U U' w' ∧ Rw w' U' v R := by
  have hl := h.len hR
  have hlt := h.lt
  have h0 := h
  obtain ⟨⟨T, σ, h1, ⟨iv, bv, h2⟩, h3, h4⟩, h5⟩ := h
  refine (rnear_calls h2 hR.len (by omega) (fun b hb => ?_) pt n).mono ?_
  · obtain ⟨i, hi, hbe⟩ := List.mem_iff_getElem.1 hb
    have hi2 : i < I.length := by rw [hR.len]; exact hi
    exact hR.ok I[i] b ((hR.mem _ _).1 (List.mem_of_getElem? (zip_get (List.getElem?_eq_getElem hi2) (by rw [List.getElem?_eq_getElem hi, hbe]))))
  · rintro e w' ⟨v, k1, k2, k3⟩
    have h6 := NearS.len h1 (hR.nearS pt n)
    exact ⟨v, k1, _, U, hR.nearS pt n, ⟨h0.fr k3 (fun _ _ h => h), k3.mono (fun _ _ h => h.elim), TT.refl _ _⟩, by omega, _, k2, fun k hk hu => by have := (hlt k hu).2; have := (k2.lt hk).1; omega⟩
theorem two_new {T : Nat → Prop} (h : Ix w B q N T m) (hB : B ≤ w.heap.size) : Calls Try.prog 12 #[] w fun e w' => ∃ u, e = .returned u ∧ ∃ r U', u = .pointer (some ⟨r, 0, none⟩) ∧ Two w' B q N m r [] [] U' ∧ Fr T w w' ∧ TT w T U' := by
  refine (rnew_calls w).mono ?_
  rintro e w' ⟨r, σ, h1, h2, h3, h4⟩
  refine ⟨_, h1, r, fun k => T k ∨ σ k, rfl, ⟨⟨T, σ, h.fr h3 (fun _ _ h => h), h2, fun k hk hs => ?_, fun _ => Iff.rfl⟩, ?_⟩, h3.mono (fun _ _ h => h.elim), ?_⟩
  · have := h4 k hs; have := (h.lt k hk).2; omega
  · rintro k (hk | hk)
    · exact (h.lt k hk).1
    · have := h4 k hk; omega
  · rintro k (hk | hk)
    · exact .inl hk
    · exact .inr (h4 k hk)
end
end Go.Proofs.Ytcafnanbdmapgaa
