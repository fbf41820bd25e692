/- The sweep, over indices: what it collects, sorted, is all pairs that meet. -/
set_option linter.unusedVariables false
set_option linter.unusedSimpArgs false
namespace Go.Swp

theorem snoc_ind {α : Type} {motive : List α → Prop} (nil : motive []) (snoc : ∀ I a, motive I → motive (I ++ [a])) (I : List α) : motive I := by
  rw [← List.reverse_reverse I]
  induction I.reverse with
  | nil => exact nil
  | cons a l ih => rw [List.reverse_cons]; exact snoc _ a ih

section
variable {n : Nat} (xl xh : Fin n → Int) (K : Fin n → Fin n → Int) (Y : Fin n → Fin n → Bool)

/-- What stays of the active ones at a. -/
def stay (A : List (Fin n)) (a : Fin n) : List (Fin n) := A.filter fun b => !decide (xh b < xl a)
def pairOf (a b : Fin n) : Fin n × Fin n := if a ≤ b then (a, b) else (b, a)
/-- The meeting of a with b, if there is one. -/
def hit (a b : Fin n) : Option (Fin n × Fin n) := if Y a b = true ∧ K a b ≠ 0 then some (pairOf a b) else none
def stepS (s : List (Fin n) × List (Fin n × Fin n)) (a : Fin n) : List (Fin n) × List (Fin n × Fin n) := (stay xl xh s.1 a ++ [a], s.2 ++ (stay xl xh s.1 a).filterMap (hit K Y a))
def runS (I : List (Fin n)) : List (Fin n) × List (Fin n × Fin n) := I.foldl (stepS xl xh K Y) ([], [])
theorem runS_snoc (I : List (Fin n)) (a : Fin n) : runS xl xh K Y (I ++ [a]) = stepS xl xh K Y (runS xl xh K Y I) a := by
  unfold runS; rw [List.foldl_append]; rfl

/-- All pairs that meet, in order. -/
def spec : List (Fin n × Fin n) := (List.finRange n).flatMap fun i => (List.finRange n).filterMap fun j => if i < j ∧ K i j ≠ 0 then some (i, j) else none

def lt2 (x y : Fin n × Fin n) : Bool := decide (x.1 < y.1) || (decide (x.1 = y.1) && decide (x.2 < y.2))

theorem pairOf_lt {a b : Fin n} (h : a ≠ b) : (pairOf a b).1 < (pairOf a b).2 := by
  unfold pairOf; split
  · simp only; omega
  · simp only; omega

variable {xl xh K Y}

theorem mem_spec {x : Fin n × Fin n} : x ∈ spec K ↔ x.1 < x.2 ∧ K x.1 x.2 ≠ 0 := by
  obtain ⟨i, j⟩ := x
  unfold spec
  simp only [List.mem_flatMap, List.mem_finRange, true_and, List.mem_filterMap]
  constructor
  · rintro ⟨a, b, h⟩
    split at h
    · rename_i hc
      simp only [Option.some.injEq, Prod.mk.injEq] at h
      obtain ⟨rfl, rfl⟩ := h
      exact hc
    · cases h
  · rintro ⟨h1, h2⟩
    exact ⟨i, j, by rw [if_pos ⟨h1, h2⟩]⟩

theorem finRange_sorted (n : Nat) : (List.finRange n).Pairwise (· < ·) := by
  rw [List.pairwise_iff_getElem]
  intro i j hi hj h
  simp only [List.getElem_finRange]
  exact h

theorem spec_sorted : (spec K).Pairwise fun x y => lt2 x y = true := by
  unfold spec
  rw [List.pairwise_flatMap]
  constructor
  · intro i _
    rw [List.pairwise_filterMap]
    refine (finRange_sorted n).imp ?_
    intro a b hab x hx y hy
    split at hx
    · split at hy
      · simp only [Option.some.injEq] at hx hy
        subst hx hy
        simp [lt2, hab]
      · cases hy
    · cases hx
  · refine (finRange_sorted n).imp ?_
    intro a b hab x hx y hy
    simp only [List.mem_filterMap, List.mem_finRange, true_and] at hx hy
    obtain ⟨_, hx⟩ := hx
    obtain ⟨_, hy⟩ := hy
    split at hx
    · split at hy
      · simp only [Option.some.injEq] at hx hy
        subst hx hy
        simp [lt2, hab]
      · cases hy
    · cases hx

/-- What is active behind a prefix: all of it that may still meet what comes. -/
theorem act_mem : ∀ (I : List (Fin n)) (a b : Fin n), (∀ x ∈ I, xl x ≤ xl a) → I.Pairwise (fun x y => xl x ≤ xl y) → (b ∈ stay xl xh (runS xl xh K Y I).1 a ↔ b ∈ I ∧ ¬ xh b < xl a) := by
  intro I
  induction I using snoc_ind with
  | nil => intro a b _ _; simp [runS, stay]
  | snoc I c ih =>
    intro a b ha hs
    rw [List.pairwise_append] at hs
    have ih' := ih c b (fun x hx => hs.2.2 x hx c (by simp)) hs.1
    have hca := ha c (by simp)
    rw [runS_snoc]
    unfold stepS
    simp only
    unfold stay at ih' ⊢
    simp only [List.mem_filter, List.mem_append, List.mem_singleton, Bool.not_eq_true', decide_eq_false_iff_not] at ih' ⊢
    constructor
    · rintro ⟨h | h, h2⟩
      · exact ⟨.inl (ih'.1 h).1, h2⟩
      · exact ⟨.inr h, h2⟩
    · rintro ⟨h | h, h2⟩
      · exact ⟨.inl (ih'.2 ⟨h, by omega⟩), h2⟩
      · exact ⟨.inr h, h2⟩

/-- What has been collected: the meetings of all pairs so far. -/
theorem out_mem (hx : ∀ a b, xh b < xl a → K a b = 0) (hy : ∀ a b, Y a b = false → K a b = 0) (hc : ∀ a b, K a b = K b a) : ∀ (I : List (Fin n)) (x : Fin n × Fin n), I.Nodup → I.Pairwise (fun x y => xl x ≤ xl y) → (x ∈ (runS xl xh K Y I).2 ↔ x.1 ∈ I ∧ x.2 ∈ I ∧ x.1 < x.2 ∧ K x.1 x.2 ≠ 0) := by
  intro I
  induction I using snoc_ind with
  | nil => intro x _ _; simp [runS]
  | snoc I c ih =>
    intro x hn hs
    rw [List.nodup_append] at hn
    have hcI : c ∉ I := fun h => hn.2.2 c h c (by simp) rfl
    have hs' := hs
    rw [List.pairwise_append] at hs
    have ih' := ih x hn.1 hs.1
    have hact := fun b => act_mem (xl := xl) (xh := xh) (K := K) (Y := Y) I c b (fun x hx => hs.2.2 x hx c (by simp)) hs.1
    rw [runS_snoc]
    unfold stepS
    simp only [List.mem_append, List.mem_filterMap, List.mem_singleton, ih']
    constructor
    · rintro (⟨h1, h2, h3, h4⟩ | ⟨b, hb, hh⟩)
      · exact ⟨.inl h1, .inl h2, h3, h4⟩
      · have hbI := ((hact b).1 hb).1
        have hne : c ≠ b := fun e => hcI (by rw [e]; exact hbI)
        unfold hit at hh
        split at hh
        · rename_i hk
          simp only [Option.some.injEq] at hh
          subst hh
          have hlt := pairOf_lt hne
          refine ⟨?_, ?_, hlt, ?_⟩
          · unfold pairOf; split
            · exact .inr rfl
            · exact .inl hbI
          · unfold pairOf; split
            · exact .inl hbI
            · exact .inr rfl
          · unfold pairOf; split
            · exact hk.2
            · simp only; rw [hc]; exact hk.2
        · cases hh
    · rintro ⟨h1, h2, h3, h4⟩
      by_cases e1 : x.1 ∈ I
      · by_cases e2 : x.2 ∈ I
        · exact .inl ⟨e1, e2, h3, h4⟩
        · have e3 : x.2 = c := h2.resolve_left e2
          refine .inr ⟨x.1, (hact x.1).2 ⟨e1, fun hl => ?_⟩, ?_⟩
          · have := hx c x.1 hl
            rw [hc, ← e3] at this; exact h4 this
          · have hk : K c x.1 ≠ 0 := by rw [hc, ← e3]; exact h4
            unfold hit
            rw [if_pos ⟨by cases hYv : Y c x.1 with | true => rfl | false => exact absurd (hy _ _ hYv) hk, hk⟩]
            unfold pairOf
            rw [if_neg (by rw [← e3]; omega), ← e3]
      · have e3 : x.1 = c := h1.resolve_left e1
        have e2 : x.2 ∈ I := by
          rcases h2 with h2 | h2
          · exact h2
          · rw [e3, h2] at h3; omega
        refine .inr ⟨x.2, (hact x.2).2 ⟨e2, fun hl => ?_⟩, ?_⟩
        · have := hx c x.2 hl
          rw [← e3] at this; exact h4 this
        · have hk : K c x.2 ≠ 0 := by rw [← e3]; exact h4
          unfold hit
          rw [if_pos ⟨by cases hYv : Y c x.2 with | true => rfl | false => exact absurd (hy _ _ hYv) hk, hk⟩]
          unfold pairOf
          rw [if_pos (by rw [← e3]; omega), ← e3]

theorem stay_nodup {A : List (Fin n)} (h : A.Nodup) (a : Fin n) : (stay xl xh A a).Nodup := h.sublist List.filter_sublist
theorem act_nodup : ∀ (I : List (Fin n)), I.Nodup → (runS xl xh K Y I).1.Nodup ∧ ∀ b ∈ (runS xl xh K Y I).1, b ∈ I := by
  intro I
  induction I using snoc_ind with
  | nil => intro _; simp [runS]
  | snoc I c ih =>
    intro hn
    rw [List.nodup_append] at hn
    obtain ⟨h1, h2⟩ := ih hn.1
    rw [runS_snoc]
    unfold stepS
    simp only
    have hsub : ∀ b ∈ stay xl xh (runS xl xh K Y I).1 c, b ∈ I := fun b hb => h2 b (List.mem_filter.1 hb).1
    refine ⟨?_, ?_⟩
    · rw [List.nodup_append]
      refine ⟨stay_nodup h1 c, by simp, fun x hx y hy e => ?_⟩
      simp only [List.mem_singleton] at hy
      subst hy e
      exact hn.2.2 x (hsub x hx) x (by simp) rfl
    · intro b hb
      rcases List.mem_append.1 hb with hb | hb
      · exact List.mem_append_left _ (hsub b hb)
      · exact List.mem_append_right _ hb

theorem pairOf_inj {c a b : Fin n} (h : pairOf c a = pairOf c b) : a = b := by
  unfold pairOf at h
  split at h <;> split at h <;> simp only [Prod.mk.injEq] at h <;> omega

/-- No meeting is collected twice. -/
theorem out_nodup : ∀ (I : List (Fin n)), I.Nodup → (runS xl xh K Y I).2.Nodup ∧ ∀ x ∈ (runS xl xh K Y I).2, x.1 ∈ I ∧ x.2 ∈ I := by
  intro I
  induction I using snoc_ind with
  | nil => intro _; simp [runS]
  | snoc I c ih =>
    intro hn
    have hn' := hn
    rw [List.nodup_append] at hn
    have hcI : c ∉ I := fun h => hn.2.2 c h c (by simp) rfl
    obtain ⟨h1, h2⟩ := ih hn.1
    obtain ⟨a1, a2⟩ := act_nodup (xl := xl) (xh := xh) (K := K) (Y := Y) I hn.1
    rw [runS_snoc]
    unfold stepS
    simp only
    have hsub : ∀ b ∈ stay xl xh (runS xl xh K Y I).1 c, b ∈ I := fun b hb => a2 b (List.mem_filter.1 hb).1
    have hin : ∀ b x, hit K Y c b = some x → x = pairOf c b := fun b x h => by
      unfold hit at h; split at h
      · exact (Option.some.inj h).symm
      · cases h
    refine ⟨?_, ?_⟩
    · rw [List.nodup_append]
      refine ⟨h1, ?_, fun x hx y hy e => ?_⟩
      · rw [List.Nodup, List.pairwise_filterMap]
        refine (stay_nodup a1 c).imp ?_
        intro a b hab x hx y hy e
        rw [hin _ _ hx, hin _ _ hy] at e
        exact hab (pairOf_inj e)
      · subst e
        obtain ⟨b, hb, hh⟩ := List.mem_filterMap.1 hy
        have := h2 x hx
        rw [hin _ _ hh] at this
        unfold pairOf at this
        split at this
        · exact hcI this.1
        · exact hcI this.2
    · intro x hx
      rcases List.mem_append.1 hx with hx | hx
      · have := h2 x hx; exact ⟨List.mem_append_left _ this.1, List.mem_append_left _ this.2⟩
      · obtain ⟨b, hb, hh⟩ := List.mem_filterMap.1 hx
        rw [hin _ _ hh]
        unfold pairOf
        split
        · exact ⟨List.mem_append_right _ (by simp), List.mem_append_left _ (hsub b hb)⟩
        · exact ⟨List.mem_append_left _ (hsub b hb), List.mem_append_right _ (by simp)⟩

theorem lt2_total (x y : Fin n × Fin n) : lt2 x y = true ∨ x = y ∨ lt2 y x = true := by
  obtain ⟨a, b⟩ := x
  obtain ⟨c, d⟩ := y
  simp only [lt2, Bool.or_eq_true, decide_eq_true_eq, Bool.and_eq_true, Prod.mk.injEq]
  omega
theorem lt2_asymm {x y : Fin n × Fin n} (h : lt2 x y = true) : lt2 y x = false := by
  rw [Bool.eq_false_iff]
  intro h2
  simp only [lt2, Bool.or_eq_true, decide_eq_true_eq, Bool.and_eq_true] at h h2
  omega
theorem lt2_trans {x y z : Fin n × Fin n} (h : lt2 x y = true) (h2 : lt2 y z = true) : lt2 x z = true := by
  simp only [lt2, Bool.or_eq_true, decide_eq_true_eq, Bool.and_eq_true] at *
  omega

/-- Sorted lists of the same members are one. -/
theorem sorted_ext {α : Type} {r : α → α → Prop} (hirr : ∀ a, ¬ r a a) (hasy : ∀ a b, r a b → ¬ r b a) : ∀ {l l' : List α}, l.Pairwise r → l'.Pairwise r → (∀ x, x ∈ l ↔ x ∈ l') → l = l' := by
  intro l l' h1 h2 h
  have n1 : l.Nodup := List.Pairwise.imp (S := fun a b => a ≠ b) (fun {a b} hab e => hirr a (by subst e; exact hab)) h1
  have n2 : l'.Nodup := List.Pairwise.imp (S := fun a b => a ≠ b) (fun {a b} hab e => hirr a (by subst e; exact hab)) h2
  have hp : l.Perm l' := (List.perm_ext_iff_of_nodup n1 n2).2 h
  exact hp.eq_of_pairwise (fun a b _ _ hab hba => absurd hba (hasy a b hab)) h1 h2

/-- What the sweep hands back. -/
theorem sweep_spec (hx : ∀ a b, xh b < xl a → K a b = 0) (hy : ∀ a b, Y a b = false → K a b = 0) (hc : ∀ a b, K a b = K b a) {I : List (Fin n)} (hp : I.Perm (List.finRange n)) (hs : I.Pairwise fun x y => xl x ≤ xl y)
    {out : List (Fin n × Fin n)} (ho : out.Perm (runS xl xh K Y I).2) (hso : out.Pairwise fun x y => lt2 y x = false) : out = spec K := by
  have hn : I.Nodup := hp.nodup_iff.2 (List.nodup_finRange n)
  have hall : ∀ a, a ∈ I := fun a => hp.mem_iff.2 (List.mem_finRange a)
  have hon : out.Nodup := ho.nodup_iff.2 (out_nodup I hn).1
  have hst : out.Pairwise fun x y => lt2 x y = true := by
    have := hso.and hon
    refine this.imp ?_
    rintro x y ⟨h1, h2⟩
    rcases lt2_total x y with h | h | h
    · exact h
    · exact absurd h h2
    · rw [h1] at h; cases h
  refine sorted_ext (fun a h => by have := lt2_asymm h; rw [h] at this; cases this) (fun a b h h2 => by have := lt2_asymm h; rw [h2] at this; cases this) hst spec_sorted fun x => ?_
  rw [ho.mem_iff, out_mem hx hy hc I x hn hs, mem_spec]
  exact ⟨fun h => h.2.2, fun h => ⟨hall _, hall _, h⟩⟩
end
end Go.Swp
