/- Spans of a week in plain Lean: valid lists, the minutes they have, the one valid list of any spans. -/
import Derived.WalkKit
set_option linter.unusedVariables false
set_option linter.unusedSimpArgs false
namespace Go.Proofs.YtjaffpnegdcjnaaGreatDoor
abbrev Sp := Int × Int
/-- Valid behind a minute. -/
def vl : Int → List Sp → Bool
  | _, [] => true
  | lo, s :: l => decide (lo < s.1) && decide (s.1 < s.2) && decide (s.2 ≤ 10080) && vl s.2 l
/-- A minute of a list. -/
def mn (l : List Sp) (m : Int) : Prop := ∃ s ∈ l, s.1 ≤ m ∧ m < s.2
theorem mn_nil (m : Int) : ¬ mn [] m := by rintro ⟨s, h, _⟩; cases h
theorem mn_cons {s : Sp} {l : List Sp} {m : Int} : mn (s :: l) m ↔ (s.1 ≤ m ∧ m < s.2) ∨ mn l m := by
  unfold mn; simp
theorem mn_append {a b : List Sp} {m : Int} : mn (a ++ b) m ↔ mn a m ∨ mn b m := by
  unfold mn
  constructor
  · rintro ⟨s, h, k⟩
    rcases List.mem_append.1 h with h | h
    · exact .inl ⟨s, h, k⟩
    · exact .inr ⟨s, h, k⟩
  · rintro (⟨s, h, k⟩ | ⟨s, h, k⟩)
    · exact ⟨s, List.mem_append_left _ h, k⟩
    · exact ⟨s, List.mem_append_right _ h, k⟩
theorem mn_perm {a b : List Sp} (h : a.Perm b) {m : Int} : mn a m ↔ mn b m := by
  unfold mn
  constructor
  · rintro ⟨s, h1, k⟩; exact ⟨s, h.mem_iff.1 h1, k⟩
  · rintro ⟨s, h1, k⟩; exact ⟨s, h.mem_iff.2 h1, k⟩
theorem vl_cons {lo : Int} {s : Sp} {l : List Sp} : vl lo (s :: l) = true ↔ lo < s.1 ∧ s.1 < s.2 ∧ s.2 ≤ 10080 ∧ vl s.2 l = true := by
  simp [vl, and_assoc]
theorem vl_mono {lo lo' : Int} {l : List Sp} (h : vl lo l = true) (hl : lo' ≤ lo) : vl lo' l = true := by
  cases l with
  | nil => rfl
  | cons s l =>
    obtain ⟨h1, h2, h3, h4⟩ := vl_cons.1 h
    exact vl_cons.2 ⟨by omega, h2, h3, h4⟩
theorem vl_lo {lo : Int} {l : List Sp} (h : vl lo l = true) {m : Int} (hm : mn l m) : lo < m := by
  induction l generalizing lo with
  | nil => exact absurd hm (mn_nil m)
  | cons s l ih =>
    obtain ⟨h1, h2, h3, h4⟩ := vl_cons.1 h
    rcases mn_cons.1 hm with h5 | h5
    · omega
    · have := ih h4 h5; omega
theorem vl_hi {lo : Int} {l : List Sp} (h : vl lo l = true) {m : Int} (hm : mn l m) : m < 10080 := by
  induction l generalizing lo with
  | nil => exact absurd hm (mn_nil m)
  | cons s l ih =>
    obtain ⟨h1, h2, h3, h4⟩ := vl_cons.1 h
    rcases mn_cons.1 hm with h5 | h5
    · omega
    · exact ih h4 h5
/-- A valid list is known by its minutes. -/
theorem vl_uniq : ∀ {a b : List Sp} {lo lo' : Int}, vl lo a = true → vl lo' b = true → (∀ m, mn a m ↔ mn b m) → a = b
  | [], [], _, _, _, _, _ => rfl
  | [], t :: b, lo, lo', _, hb, h => by
    obtain ⟨h1, h2, h3, h4⟩ := vl_cons.1 hb
    exact absurd ((h t.1).2 (mn_cons.2 (.inl (by omega)))) (mn_nil _)
  | s :: a, [], lo, lo', ha, _, h => by
    obtain ⟨h1, h2, h3, h4⟩ := vl_cons.1 ha
    exact absurd ((h s.1).1 (mn_cons.2 (.inl (by omega)))) (mn_nil _)
  | s :: a, t :: b, lo, lo', ha, hb, h => by
    obtain ⟨h1, h2, h3, h4⟩ := vl_cons.1 ha
    obtain ⟨k1, k2, k3, k4⟩ := vl_cons.1 hb
    have e1 : s.1 = t.1 := by
      have x1 := (h s.1).1 (mn_cons.2 (.inl (by omega)))
      have x2 := (h t.1).2 (mn_cons.2 (.inl (by omega)))
      rcases mn_cons.1 x1 with x1 | x1 <;> rcases mn_cons.1 x2 with x2 | x2
      · omega
      · have := vl_lo h4 x2; omega
      · have := vl_lo k4 x1; omega
      · have := vl_lo h4 x2; have := vl_lo k4 x1; omega
    have e2 : s.2 = t.2 := by
      rcases Int.lt_trichotomy s.2 t.2 with hlt | he | hlt
      · have x := (h s.2).2 (mn_cons.2 (.inl (by omega)))
        rcases mn_cons.1 x with x | x
        · omega
        · have := vl_lo h4 x; omega
      · exact he
      · have x := (h t.2).1 (mn_cons.2 (.inl (by omega)))
        rcases mn_cons.1 x with x | x
        · omega
        · have := vl_lo k4 x; omega
    obtain rfl : s = t := Prod.ext e1 e2
    congr 1
    refine vl_uniq h4 k4 fun m => ?_
    have hm := h m
    rw [mn_cons, mn_cons] at hm
    constructor
    · intro x
      rcases hm.1 (.inr x) with y | y
      · have := vl_lo h4 x; omega
      · exact y
    · intro x
      rcases hm.2 (.inr x) with y | y
      · have := vl_lo k4 x; omega
      · exact y
/-! ### uniting -/
/-- One more span behind those that were united. -/
def ustep (out : List Sp) (s : Sp) : List Sp :=
  match out.getLast? with
  | some q => if s.1 ≤ q.2 then out.dropLast ++ [(q.1, max q.2 s.2)] else out ++ [s]
  | none => out ++ [s]
def unite (l : List Sp) : List Sp := l.foldl ustep []
/-- Valid, by the end: what comes behind begins behind the last one's end. -/
theorem vl_snoc {lo : Int} {l : List Sp} {s : Sp} : vl lo (l ++ [s]) = true ↔ vl lo l = true ∧ lo < s.1 ∧ (∀ q, l.getLast? = some q → q.2 < s.1) ∧ s.1 < s.2 ∧ s.2 ≤ 10080 := by
  induction l generalizing lo with
  | nil => simp [vl]; omega
  | cons x l ih =>
    rw [List.cons_append, vl_cons, ih, vl_cons]
    cases l with
    | nil => simp [vl]; omega
    | cons y l =>
      simp only [List.getLast?_cons_cons]
      constructor
      · rintro ⟨h1, h2, h3, h4, h5, h6, h7, h8⟩; exact ⟨⟨h1, h2, h3, h4⟩, by omega, h6, h7, h8⟩
      · rintro ⟨⟨h1, h2, h3, h4⟩, h5, h6, h7, h8⟩
        refine ⟨h1, h2, h3, h4, ?_, h6, h7, h8⟩
        obtain ⟨q, hq⟩ : ∃ q, (y :: l).getLast? = some q := ⟨_, List.getLast?_eq_some_getLast (by simp)⟩
        have := h6 q hq
        have hm : mn (y :: l) (q.2 - 1) := by
          refine ⟨q, List.mem_of_getLast? hq, ?_, by omega⟩
          have hv := h4
          have : ∀ {lo : Int} {l : List Sp}, vl lo l = true → ∀ s ∈ l, s.1 < s.2 := by
            intro lo l
            induction l generalizing lo with
            | nil => intro _ s hs; cases hs
            | cons z l ih => intro h s hs; obtain ⟨a, b, c, d⟩ := vl_cons.1 h; rcases List.mem_cons.1 hs with rfl | hs; exact b; exact ih d s hs
          have := this hv q (List.mem_of_getLast? hq); omega
        have := vl_lo h4 hm; omega
structure Un (out : List Sp) (l : List Sp) : Prop where
  ok : vl (-1) out = true
  at_ : ∀ m, mn out m ↔ mn l m
theorem ustep_un {out l : List Sp} {s : Sp} (h : Un out l) (h0 : 0 ≤ s.1) (h1 : s.1 < s.2) (h2 : s.2 ≤ 10080) (hs : ∀ q, out.getLast? = some q → q.1 ≤ s.1) : Un (ustep out s) (l ++ [s]) := by
  unfold ustep
  cases hq : out.getLast? with
  | none =>
    have : out = [] := by simpa using hq
    subst this
    simp only [List.nil_append]
    refine ⟨vl_cons.2 ⟨by omega, h1, h2, rfl⟩, fun m => ?_⟩
    rw [mn_append, ← h.at_ m]; simp [mn_nil]
  | some q =>
    simp only
    have hqs := hs q hq
    split
    · rename_i hle
      obtain ⟨o, rfl⟩ : ∃ o, out = o ++ [q] := List.getLast?_eq_some_iff.1 hq
      have hok := vl_snoc.1 h.ok
      obtain ⟨a1, a2, a3, a4, a5⟩ := hok
      simp only [List.dropLast_concat]
      refine ⟨vl_snoc.2 ⟨a1, a2, a3, by simp only; omega, by simp only; omega⟩, fun m => ?_⟩
      rw [mn_append, mn_append, ← h.at_ m, mn_append]
      simp only [mn_cons, mn_nil, or_false]
      constructor
      · rintro (h | h)
        · exact .inl (.inl h)
        · by_cases hm : m < q.2
          · exact .inl (.inr ⟨h.1, hm⟩)
          · exact .inr (by omega)
      · rintro ((h | h) | h)
        · exact .inl h
        · exact .inr (by omega)
        · exact .inr (by omega)
    · rename_i hle
      refine ⟨vl_snoc.2 ⟨h.ok, by omega, fun p hp => by rw [hq] at hp; obtain rfl := Option.some.inj hp; omega, h1, h2⟩, fun m => ?_⟩
      rw [mn_append, mn_append, h.at_ m]
theorem ustep_last {out : List Sp} {s : Sp} (hs : ∀ q, out.getLast? = some q → q.1 ≤ s.1) : ∃ q, (ustep out s).getLast? = some q ∧ q.1 ≤ s.1 := by
  unfold ustep
  cases hq : out.getLast? with
  | none => exact ⟨s, by simp, Int.le_refl _⟩
  | some q =>
    simp only
    split
    · exact ⟨(q.1, max q.2 s.2), by simp, hs q hq⟩
    · exact ⟨s, by simp, Int.le_refl _⟩
/-- Spans of the week. -/
def wk (l : List Sp) : Prop := ∀ s ∈ l, 0 ≤ s.1 ∧ s.1 < s.2 ∧ s.2 ≤ 10080
theorem unite_un {l : List Sp} (hw : wk l) (hp : l.Pairwise fun a b => a.1 ≤ b.1) : Un (unite l) l := by
  have main : ∀ (l out done : List Sp), Un out done → wk l → l.Pairwise (fun a b => a.1 ≤ b.1) → (∀ q, out.getLast? = some q → ∀ s ∈ l, q.1 ≤ s.1) → Un (l.foldl ustep out) (done ++ l) := by
    intro l
    induction l with
    | nil => intro out done h _ _ _; simpa using h
    | cons s l ih =>
      intro out done h hw hp hq
      rw [List.foldl_cons]
      have hs := hw s (by simp)
      have := ih (ustep out s) (done ++ [s]) (ustep_un h hs.1 hs.2.1 hs.2.2 fun q hq' => hq q hq' s (by simp)) (fun x hx => hw x (by simp [hx])) (List.pairwise_cons.1 hp).2 (fun q hq' x hx => by
        obtain ⟨q2, h2, h3⟩ := ustep_last (out := out) (s := s) fun q hq' => hq q hq' s (by simp)
        rw [h2] at hq'; obtain rfl := Option.some.inj hq'
        have := (List.pairwise_cons.1 hp).1 x hx; omega)
      simpa using this
  exact main l [] [] ⟨rfl, fun m => Iff.rfl⟩ hw hp (by simp)
def insS (s : Sp) : List Sp → List Sp
  | [] => [s]
  | x :: l => if s.1 ≤ x.1 then s :: x :: l else x :: insS s l
def srtS : List Sp → List Sp
  | [] => []
  | s :: l => insS s (srtS l)
theorem insS_perm (s : Sp) (l : List Sp) : (insS s l).Perm (s :: l) := by
  induction l with
  | nil => exact .refl _
  | cons x l ih =>
    unfold insS
    split
    · exact .refl _
    · exact (ih.cons x).trans (.swap _ _ _)
theorem srtS_perm (l : List Sp) : (srtS l).Perm l := by
  induction l with
  | nil => exact .refl _
  | cons x l ih => exact (insS_perm x _).trans (ih.cons x)
theorem insS_sorted {s : Sp} {l : List Sp} (h : l.Pairwise fun a b => a.1 ≤ b.1) : (insS s l).Pairwise fun a b => a.1 ≤ b.1 := by
  induction l with
  | nil => simp [insS]
  | cons x l ih =>
    obtain ⟨h1, h2⟩ := List.pairwise_cons.1 h
    unfold insS
    split
    · rename_i hle
      refine List.pairwise_cons.2 ⟨fun y hy => ?_, h⟩
      rcases List.mem_cons.1 hy with rfl | hy
      · exact hle
      · have := h1 y hy; omega
    · rename_i hle
      refine List.pairwise_cons.2 ⟨fun y hy => ?_, ih h2⟩
      rcases List.mem_cons.1 ((insS_perm s l).mem_iff.1 hy) with rfl | hy
      · omega
      · exact h1 y hy
theorem srtS_sorted (l : List Sp) : (srtS l).Pairwise fun a b => a.1 ≤ b.1 := by
  induction l with
  | nil => simp [srtS]
  | cons x l ih => exact insS_sorted ih
/-- The one valid list of the minutes of any spans. -/
def canon (l : List Sp) : List Sp := unite (srtS l)
theorem wk_perm {a b : List Sp} (h : a.Perm b) (hw : wk b) : wk a := fun s hs => hw s (h.mem_iff.1 hs)
theorem canon_un {l : List Sp} (hw : wk l) : Un (canon l) l := by
  have h := unite_un (wk_perm (srtS_perm l) hw) (srtS_sorted l)
  exact ⟨h.ok, fun m => (h.at_ m).trans (mn_perm (srtS_perm l))⟩
theorem Un.eq {a b l : List Sp} (h : Un a l) (k : Un b l) : a = b := vl_uniq h.ok k.ok fun m => (h.at_ m).trans (k.at_ m).symm
theorem Un.of {a l l' : List Sp} (h : Un a l) (k : ∀ m, mn l m ↔ mn l' m) : Un a l' := ⟨h.ok, fun m => (h.at_ m).trans (k m)⟩
theorem unite_canon {l s : List Sp} (hw : wk l) (hp : s.Perm l) (hs : s.Pairwise fun a b => a.1 ≤ b.1) : unite s = canon l :=
  ((unite_un (wk_perm hp hw) hs).of fun m => mn_perm hp).eq (canon_un hw)
theorem vl_wk {lo : Int} (h0 : -1 ≤ lo) {l : List Sp} (h : vl lo l = true) : wk l := by
  induction l generalizing lo with
  | nil => intro s hs; cases hs
  | cons x l ih =>
    obtain ⟨a, b, c, d⟩ := vl_cons.1 h
    intro s hs
    rcases List.mem_cons.1 hs with rfl | hs
    · exact ⟨by omega, b, c⟩
    · exact ih (by omega) d s hs
theorem canon_len (l : List Sp) : (canon l).length ≤ l.length := by
  have main : ∀ (l out : List Sp), (l.foldl ustep out).length ≤ out.length + l.length := by
    intro l
    induction l with
    | nil => intro out; simp
    | cons s l ih =>
      intro out
      rw [List.foldl_cons]
      refine Nat.le_trans (ih _) ?_
      have : (ustep out s).length ≤ out.length + 1 := by
        unfold ustep
        split
        · split
          · (try simp) <;> (try omega)
          · simp
        · simp
      simp; omega
  have := main (srtS l) []
  rw [(srtS_perm l).length_eq] at this
  simpa [canon, unite] using this
/-! ### the operations on valid lists -/
/-- The gaps of a list from a minute on. -/
def gaps : Int → List Sp → List Sp
  | fr, [] => if fr < 10080 then [(fr, 10080)] else []
  | fr, s :: l => (if fr < s.1 then [(fr, s.1)] else []) ++ gaps s.2 l
def notL (l : List Sp) : List Sp := gaps 0 l
theorem gaps_un {l : List Sp} : ∀ {fr : Int}, vl (fr - 1) l = true → 0 ≤ fr → fr ≤ 10080 → vl (fr - 1) (gaps fr l) = true ∧ ∀ m, mn (gaps fr l) m ↔ fr ≤ m ∧ m < 10080 ∧ ¬ mn l m := by
  induction l with
  | nil =>
    intro fr _ h0 h1
    unfold gaps
    split
    · refine ⟨vl_cons.2 ⟨by simp only; omega, by simp only; omega, Int.le_refl _, rfl⟩, fun m => ?_⟩
      simp only [mn_cons, mn_nil, or_false, not_false_eq_true, and_true]
    · refine ⟨rfl, fun m => ?_⟩
      simp only [mn_nil, false_iff]; omega
  | cons s l ih =>
    intro fr h h0 h1
    obtain ⟨a, b, c, d⟩ := vl_cons.1 h
    obtain ⟨i1, i2⟩ := ih (fr := s.2) (vl_mono d (by omega)) (by omega) c
    have hs : ∀ m, mn (gaps s.2 l) m ↔ s.2 ≤ m ∧ m < 10080 ∧ ¬ mn l m := i2
    unfold gaps
    split
    · refine ⟨vl_cons.2 ⟨by simp only; omega, by simp only; omega, by simp only; omega, vl_mono i1 (by simp only; omega)⟩, fun m => ?_⟩
      rw [List.singleton_append, mn_cons, hs, mn_cons]
      simp only
      constructor
      · rintro (h | ⟨h2, h3, h4⟩)
        · refine ⟨by omega, by omega, ?_⟩
          rintro (h5 | h5)
          · omega
          · have := vl_lo d h5; omega
        · refine ⟨by omega, h3, ?_⟩
          rintro (h5 | h5)
          · omega
          · exact h4 h5
      · rintro ⟨h2, h3, h4⟩
        by_cases hm : m < s.1
        · exact .inl ⟨h2, hm⟩
        · refine .inr ⟨?_, h3, fun h5 => h4 (.inr h5)⟩
          by_cases h6 : s.2 ≤ m
          · exact h6
          · exact absurd (.inl ⟨by omega, by omega⟩) h4
    · refine ⟨vl_mono i1 (by omega), fun m => ?_⟩
      rw [List.nil_append, hs, mn_cons]
      constructor
      · rintro ⟨h2, h3, h4⟩
        refine ⟨by omega, h3, ?_⟩
        rintro (h5 | h5)
        · omega
        · exact h4 h5
      · rintro ⟨h2, h3, h4⟩
        refine ⟨?_, h3, fun h5 => h4 (.inr h5)⟩
        by_cases h6 : s.2 ≤ m
        · exact h6
        · exact absurd (.inl ⟨by omega, by omega⟩) h4
theorem notL_un {l : List Sp} (h : vl (-1) l = true) : vl (-1) (notL l) = true ∧ ∀ m, mn (notL l) m ↔ 0 ≤ m ∧ m < 10080 ∧ ¬ mn l m := gaps_un (fr := 0) h (by omega) (by omega)
def eitherL (a b : List Sp) : List Sp := canon (a ++ b)
def bothL (a b : List Sp) : List Sp := notL (eitherL (notL a) (notL b))
theorem eitherL_un {a b : List Sp} (ha : vl (-1) a = true) (hb : vl (-1) b = true) : vl (-1) (eitherL a b) = true ∧ ∀ m, mn (eitherL a b) m ↔ mn a m ∨ mn b m := by
  have hw : wk (a ++ b) := fun s hs => by
    rcases List.mem_append.1 hs with h | h
    · exact vl_wk (Int.le_refl _) ha s h
    · exact vl_wk (Int.le_refl _) hb s h
  have h := canon_un hw
  exact ⟨h.ok, fun m => (h.at_ m).trans mn_append⟩
theorem mn_rng {l : List Sp} (h : vl (-1) l = true) {m : Int} (hm : mn l m) : 0 ≤ m ∧ m < 10080 := ⟨by have := vl_lo h hm; omega, vl_hi h hm⟩
theorem bothL_un {a b : List Sp} (ha : vl (-1) a = true) (hb : vl (-1) b = true) : vl (-1) (bothL a b) = true ∧ ∀ m, mn (bothL a b) m ↔ mn a m ∧ mn b m := by
  obtain ⟨na, na'⟩ := notL_un ha
  obtain ⟨nb, nb'⟩ := notL_un hb
  obtain ⟨e, e'⟩ := eitherL_un na nb
  obtain ⟨n, n'⟩ := notL_un e
  refine ⟨n, fun m => ?_⟩
  rw [show mn (bothL a b) m ↔ _ from n' m, e', na', nb']
  constructor
  · rintro ⟨h1, h2, h3⟩
    refine ⟨Classical.byContradiction fun h => h3 (.inl ⟨h1, h2, h⟩), Classical.byContradiction fun h => h3 (.inr ⟨h1, h2, h⟩)⟩
  · rintro ⟨h1, h2⟩
    obtain ⟨r1, r2⟩ := mn_rng ha h1
    refine ⟨r1, r2, ?_⟩
    rintro (⟨_, _, h⟩ | ⟨_, _, h⟩)
    · exact h h1
    · exact h h2
end Go.Proofs.YtjaffpnegdcjnaaGreatDoor
