/- The reference index and the entries that it stands for, in plain words. -/
import Derived.Test.YtcafnanbdmapgaaM8
set_option linter.unusedVariables false
set_option linter.unusedSimpArgs false
namespace Go.Proofs.Ytcafnanbdmapgaa
open Go.RowKit Go.Pl

theorem at_take (I : List ByteArray) (s : ByteArray) : I.take (atL I s) = I.takeWhile fun x => Op.bytesLess x.toList s.toList := by
  unfold atL
  induction I with
  | nil => rfl
  | cons y I ih =>
    by_cases h : Op.bytesLess y.toList s.toList = true
    · rw [List.takeWhile_cons, if_pos h, List.length_cons, List.take_succ_cons, ih]
    · rw [List.takeWhile_cons, if_neg h]; rfl
theorem at_drop (I : List ByteArray) (s : ByteArray) : I.drop (atL I s) = I.dropWhile fun x => Op.bytesLess x.toList s.toList := by
  unfold atL
  induction I with
  | nil => rfl
  | cons y I ih =>
    by_cases h : Op.bytesLess y.toList s.toList = true
    · rw [List.takeWhile_cons, if_pos h, List.length_cons, List.drop_succ_cons, ih, List.dropWhile_cons, if_pos h]
    · rw [List.takeWhile_cons, if_neg h, List.dropWhile_cons, if_neg h]; rfl
theorem at_lo {I : List ByteArray} {s x : ByteArray} (h : x ∈ I.take (atL I s)) : sl x s := by
  rw [at_take] at h
  have := List.all_takeWhile (p := fun x : ByteArray => Op.bytesLess x.toList s.toList) (l := I)
  exact List.all_eq_true.1 this x h
theorem at_hi {I : List ByteArray} {s : ByteArray} (hI : I.Pairwise sl) : ∀ x, x ∈ I.drop (atL I s) → ¬ sl x s := by
  rw [at_drop]
  induction I with
  | nil => intro x h; cases h
  | cons y I ih =>
    rw [List.pairwise_cons] at hI
    by_cases h : Op.bytesLess y.toList s.toList = true
    · rw [List.dropWhile_cons, if_pos h]; exact ih hI.2
    · rw [List.dropWhile_cons, if_neg h]
      intro x hx
      rcases List.mem_cons.1 hx with rfl | hx
      · exact h
      · exact fun k => h (sl_trans (hI.1 x hx) k)
theorem hasL_iff {I : List ByteArray} (hI : I.Pairwise sl) (s : ByteArray) : hasL I s = true ↔ s ∈ I := by
  unfold hasL
  constructor
  · intro h
    cases h2 : I[atL I s]? with
    | none => rw [h2] at h; cases h
    | some y =>
      rw [h2] at h
      simp at h
      subst h
      exact List.mem_of_getElem? h2
  · intro h
    have h1 : s ∈ I.take (atL I s) ++ I.drop (atL I s) := by rw [List.take_append_drop]; exact h
    rcases List.mem_append.1 h1 with h2 | h2
    · exact absurd (at_lo h2) (sl_irrefl s)
    · have h3 := at_hi (s := s) hI
      have h4 : (I.drop (atL I s)).Pairwise sl := hI.sublist (List.drop_sublist _ _)
      cases h5 : I.drop (atL I s) with
      | nil => rw [h5] at h2; cases h2
      | cons y K =>
        have h6 : I[atL I s]? = some y := by
          have := congrArg (fun l => l[0]?) h5
          simpa [List.getElem?_drop] using this
        rw [h6]
        simp only [decide_eq_true_eq]
        rw [h5] at h2 h3 h4
        rcases List.mem_cons.1 h2 with h7 | h7
        · exact h7.symm
        · exact absurd ((List.pairwise_cons.1 h4).1 s h7) (h3 y (by simp))
/-- What the reference index stands for. -/
structure RefOf (m : ByteArray → Option Bx) (I : List ByteArray) (J : List Bx) : Prop where
  len : I.length = J.length
  srt : I.Pairwise sl
  mem : ∀ s b, (s, b) ∈ I.zip J ↔ m s = some b
  ok : ∀ s b, m s = some b → okB b
theorem zip_fst {I : List ByteArray} {J : List Bx} (h : I.length = J.length) : (I.zip J).map (·.1) = I := by
  rw [show (fun x : ByteArray × Bx => x.1) = Prod.fst from rfl, List.map_fst_zip (by omega)]
theorem RefOf.some_iff {m I J} (h : RefOf m I J) (s : ByteArray) : (m s).isSome = true ↔ s ∈ I := by
  constructor
  · intro h1
    obtain ⟨b, hb⟩ := Option.isSome_iff_exists.1 h1
    have := (h.mem s b).2 hb
    have h2 : s ∈ (I.zip J).map (·.1) := List.mem_map.2 ⟨_, this, rfl⟩
    rwa [zip_fst h.len] at h2
  · intro h1
    rw [← zip_fst h.len] at h1
    obtain ⟨⟨s', b⟩, h2, rfl⟩ := List.mem_map.1 h1
    rw [(h.mem _ b).1 h2]; rfl
theorem RefOf.has {m I J} (h : RefOf m I J) (s : ByteArray) : hasL I s = (m s).isSome := by
  rw [Bool.eq_iff_iff, hasL_iff h.srt, h.some_iff]
theorem RefOf.new : RefOf (fun _ => none) [] [] := ⟨rfl, List.Pairwise.nil, by simp, fun s b h => by cases h⟩
theorem hasL_at {I : List ByteArray} {s : ByteArray} (h : hasL I s = true) : I[atL I s]? = some s := by
  unfold hasL at h
  cases h2 : I[atL I s]? with
  | none => rw [h2] at h; cases h
  | some y => rw [h2] at h; simp at h; rw [h]
/-- Put. -/
def putE (m : ByteArray → Option Bx) (s : ByteArray) (b : Bx) : Int := if okB b then (if (m s).isSome then 9 else 0) else 1
def putM (m : ByteArray → Option Bx) (s : ByteArray) (b : Bx) : ByteArray → Option Bx := if okB b ∧ (m s).isSome = false then updB m s b else m
def dropE (m : ByteArray → Option Bx) (s : ByteArray) : Int := if (m s).isSome then 0 else 11
theorem delB_none {m : ByteArray → Option Bx} {s : ByteArray} (h : m s = none) : delB m s = m := by
  funext x; unfold delB; split
  · rename_i e; rw [e, h]
  · rfl
theorem RefOf.put {m I J} (h : RefOf m I J) (s : ByteArray) (b : Bx) : (rput I J s b).1 = putE m s b ∧ RefOf (putM m s b) (rput I J s b).2.1 (rput I J s b).2.2 := by
  unfold rput putE putM
  by_cases hb : okB b
  · simp only [hb, decide_true, Bool.not_true, Bool.false_eq_true, if_false, if_true, true_and]
    rw [h.has]
    by_cases hs : (m s).isSome = true
    · rw [if_pos hs, if_pos hs, if_neg (by rw [hs]; decide)]
      exact ⟨rfl, h⟩
    · have hsf : (m s).isSome = false := by simpa using hs
      rw [if_neg hs, if_neg hs, if_pos hsf]
      refine ⟨rfl, ?_⟩
      have hle := atL_le I s
      have hns : s ∉ I := fun h1 => hs ((h.some_iff s).2 h1)
      have hlen : (I.take (atL I s)).length = (J.take (atL I s)).length := by simp [h.len]
      have hz : I.zip J = (I.take (atL I s)).zip (J.take (atL I s)) ++ (I.drop (atL I s)).zip (J.drop (atL I s)) := by
        rw [← List.zip_append hlen, List.take_append_drop, List.take_append_drop]
      refine ⟨?_, ?_, ?_, ?_⟩
      · have := h.len
        simp only [List.length_append, List.length_cons, List.length_take, List.length_drop]; omega
      · rw [List.pairwise_append]
        refine ⟨h.srt.sublist (List.take_sublist _ _), ?_, ?_⟩
        · rw [List.pairwise_cons]
          refine ⟨fun x hx => ?_, h.srt.sublist (List.drop_sublist _ _)⟩
          rcases sl_tri s x with h1 | h1 | h1
          · exact h1
          · subst h1; exact absurd (List.mem_of_mem_drop hx) hns
          · exact absurd h1 (at_hi h.srt x hx)
        · intro x hx y hy
          rcases List.mem_cons.1 hy with rfl | hy
          · exact at_lo hx
          · have h1 := List.pairwise_append.1 (show (I.take (atL I s) ++ I.drop (atL I s)).Pairwise sl by rw [List.take_append_drop]; exact h.srt)
            exact h1.2.2 x hx y hy
      · intro s' b'
        simp only
        rw [List.zip_append hlen, List.zip_cons_cons, List.mem_append, List.mem_cons]
        have h3 := h.mem s' b'
        rw [hz, List.mem_append] at h3
        unfold updB
        by_cases e : s' = s
        · subst e
          rw [if_pos rfl]
          have h4 : m s' = none := by simpa using hsf
          rw [h4] at h3
          constructor
          · rintro (h5 | h5 | h5)
            · cases h3.1 (.inl h5)
            · simp at h5; rw [h5]
            · cases h3.1 (.inr h5)
          · intro h5
            simp at h5; rw [h5]; simp
        · rw [if_neg e, ← h3]
          constructor
          · rintro (h5 | h5 | h5)
            · exact .inl h5
            · simp at h5; exact absurd h5.1 e
            · exact .inr h5
          · rintro (h5 | h5)
            · exact .inl h5
            · exact .inr (.inr h5)
      · intro s' b' h1
        unfold updB at h1
        split at h1
        · obtain rfl := Option.some.inj h1; exact hb
        · exact h.ok s' b' h1
  · simp only [hb, decide_false, Bool.not_false, if_true, if_false, false_and]
    exact ⟨trivial, h⟩
/-- Drop. -/
theorem RefOf.drop {m I J} (h : RefOf m I J) (s : ByteArray) : (rdrop I J s).1 = dropE m s ∧ RefOf (delB m s) (rdrop I J s).2.1 (rdrop I J s).2.2 := by
  unfold rdrop dropE
  rw [h.has]
  by_cases hs : (m s).isSome = true
  · rw [hs]
    simp only [Bool.not_true, Bool.false_eq_true, if_false, if_true, true_and]
    have hhas : hasL I s = true := by rw [h.has]; exact hs
    have hat := hasL_at hhas
    have hlt := hasL_lt hhas
    have hlJ : atL I s < J.length := by rw [← h.len]; exact hlt
    have hlen : (I.take (atL I s)).length = (J.take (atL I s)).length := by simp [h.len]
    have hIe : I.drop (atL I s) = s :: I.drop (atL I s + 1) := by
      rw [List.drop_eq_getElem_cons hlt, (List.getElem?_eq_some_iff.1 hat).2]
    have hJe : J.drop (atL I s) = J[atL I s] :: J.drop (atL I s + 1) := List.drop_eq_getElem_cons hlJ
    have hz : I.zip J = (I.take (atL I s)).zip (J.take (atL I s)) ++ (s, J[atL I s]) :: (I.drop (atL I s + 1)).zip (J.drop (atL I s + 1)) := by
      rw [← List.zip_cons_cons, ← hIe, ← hJe, ← List.zip_append hlen, List.take_append_drop, List.take_append_drop]
    have hIs : I = I.take (atL I s) ++ s :: I.drop (atL I s + 1) := by rw [← hIe, List.take_append_drop]
    have hp : (I.take (atL I s) ++ s :: I.drop (atL I s + 1)).Pairwise sl := by rw [← hIs]; exact h.srt
    rw [List.pairwise_append] at hp
    obtain ⟨hp1, hp2, hp3⟩ := hp
    rw [List.pairwise_cons] at hp2
    refine ⟨?_, ?_, ?_, ?_⟩
    · have := h.len
      simp only [List.length_append, List.length_take, List.length_drop]; omega
    · rw [List.pairwise_append]
      exact ⟨hp1, hp2.2, fun x hx y hy => hp3 x hx y (by simp [hy])⟩
    · intro s' b'
      rw [List.zip_append hlen, List.mem_append]
      have h3 := h.mem s' b'
      rw [hz, List.mem_append, List.mem_cons] at h3
      unfold delB
      by_cases e : s' = s
      · subst e
        rw [if_pos rfl]
        constructor
        · rintro (h5 | h5)
          · exact absurd (hp3 s' (List.of_mem_zip h5).1 s' (by simp)) (sl_irrefl _)
          · exact absurd (hp2.1 s' (List.of_mem_zip h5).1) (sl_irrefl _)
        · intro h5; cases h5
      · rw [if_neg e, ← h3]
        constructor
        · rintro (h5 | h5)
          · exact .inl h5
          · exact .inr (.inr h5)
        · rintro (h5 | h5 | h5)
          · exact .inl h5
          · simp at h5; exact absurd h5.1 e
          · exact .inr h5
    · intro s' b' h1
      unfold delB at h1
      split at h1
      · cases h1
      · exact h.ok s' b' h1
  · have hsf : (m s).isSome = false := by simpa using hs
    rw [hsf]
    simp only [Bool.not_false, if_true, Bool.false_eq_true, if_false, true_and]
    rw [delB_none (by simpa using hsf)]
    exact h
theorem RefOf.box {m I J} (h : RefOf m I J) (s : ByteArray) : rbox I J s = ((m s).getD ((0, 0), (0, 0)), (m s).isSome) := by
  unfold rbox
  by_cases hs : hasL I s = true
  · rw [if_pos hs]
    have hat := hasL_at hs
    have hlt := hasL_lt hs
    have hlJ : atL I s < J.length := by rw [← h.len]; exact hlt
    have h1 : J[atL I s]? = some J[atL I s] := List.getElem?_eq_getElem hlJ
    have h2 := (h.mem s J[atL I s]).1 (List.mem_of_getElem? (zip_get hat h1))
    rw [h1, h2]; rfl
  · rw [if_neg hs]
    rw [h.has] at hs
    have : m s = none := by simpa using hs
    rw [this]; rfl
theorem RefOf.en {m I J} (h : RefOf m I J) : EnOf (I.zip J) m := by
  refine ⟨?_, h.mem⟩
  rw [zip_fst h.len]
  refine h.srt.imp ?_
  intro a b hab e
  subst e
  exact sl_irrefl _ hab
theorem RefOf.in_ {m I J} (h : RefOf m I J) (q : Bx) : InR m q (rinL I J q) := by
  unfold rinL
  constructor
  · have h1 : (((I.zip J).filter fun x => decide (mtB x.2 q)).map (·.1)).Sublist I := by
      have := ((List.filter_sublist (p := fun x : ByteArray × Bx => decide (mtB x.2 q)) (l := I.zip J)).map (·.1))
      rwa [zip_fst h.len] at this
    exact h.srt.sublist h1
  · intro s
    rw [List.mem_map]
    constructor
    · rintro ⟨⟨s', b⟩, h1, rfl⟩
      rw [List.mem_filter] at h1
      exact ⟨b, (h.mem _ b).1 h1.1, by simpa using h1.2⟩
    · rintro ⟨c, h1, h2⟩
      exact ⟨(s, c), List.mem_filter.2 ⟨(h.mem s c).2 h1, by simpa using h2⟩, rfl⟩
theorem InR.uniq {m : ByteArray → Option Bx} {q : Bx} {R R' : List ByteArray} (h : InR m q R) (k : InR m q R') : R = R' :=
  srt_unique (fun _ _ => sl_asymm) h.1 k.1 fun s => (h.2 s).trans (k.2 s).symm
theorem NearR.uniq {m : ByteArray → Option Bx} {pt : Pt} {n : Int} {R R' : List ByteArray} (h : NearR m pt n R) (k : NearR m pt n R') : R = R' := by
  obtain ⟨L, h1, rfl⟩ := h
  obtain ⟨L', k1, rfl⟩ := k
  have : srtN pt L = srtN pt L' := srt_unique (fun _ _ => ns_asymm) (srtN_srt h1.1) (srtN_srt k1.1) fun x => by
    rw [(srtN_perm pt L).mem_iff, (srtN_perm pt L').mem_iff]
    exact (h1.2 x.1 x.2).trans (k1.2 x.1 x.2).symm
  rw [this]
theorem tks_mono (d : Nat → Int) (N : Nat) {i : Nat} {k : Nat} : ∀ j, i ≤ j → tks d N i k = true → tks d N j k = true := by
  intro j
  induction j with
  | zero => intro h1 h2; rwa [show i = 0 by omega] at h2
  | succ j ih =>
    intro h1 h2
    by_cases e : i = j + 1
    · rwa [e] at h2
    · unfold tks; rw [ih (by omega) h2]; simp
theorem tks_of (d : Nat → Int) (N : Nat) {i : Nat} : ∀ k, tks d N k i = true → ∃ j, j < k ∧ i = (bst d (tks d N j) N).toNat := by
  intro k
  induction k with
  | zero => intro h; simp [tks] at h
  | succ k ih =>
    intro h
    unfold tks at h
    simp only [Bool.or_eq_true, beq_iff_eq] at h
    rcases h with h | h
    · exact ⟨k, by omega, h⟩
    · obtain ⟨j, h1, h2⟩ := ih h
      exact ⟨j, by omega, h2⟩
theorem RefOf.near {m I J} (h : RefOf m I J) (q : Pt) (n : Int) : NearR m q n (rnearL I J q n) := by
  refine ⟨I.zip J, h.en, ?_⟩
  have hzl : (I.zip J).length = I.length := by rw [List.length_zip, h.len]; omega
  obtain ⟨d, hd⟩ : ∃ d, d = dsJ J q := ⟨_, rfl⟩
  obtain ⟨b, hb⟩ : ∃ b : Nat → Nat, b = fun k => (bst d (tks d I.length k) I.length).toNat := ⟨_, rfl⟩
  have hc := tks_count d I.length
  have hb0 : ∀ k, k < I.length → (b k : Int) = bst d (tks d I.length k) I.length ∧ b k < I.length := fun k hk => by
    have h1 := (hc I.length (Nat.le_refl _)).2 k hk
    have h2 := (bst_lt d (tks d I.length k) I.length).2
    rw [hb]; simp only; omega
  have hfree : ∀ k, k < I.length → tks d I.length k (b k) = false := fun k hk => by
    have h1 := (hc I.length (Nat.le_refl _)).2 k hk
    rw [hb]; exact bst_free d _ _ h1
  have hK : srtN q (I.zip J) = (List.range I.length).map fun k => (I.zip J)[b k]?.getD (ByteArray.empty, ((0, 0), (0, 0))) := by
    refine srt_unique (fun _ _ => ns_asymm) (srtN_srt h.en.1) ?_ fun x => ?_
    · rw [List.pairwise_map]
      refine List.Pairwise.imp_of_mem ?_ List.pairwise_lt_range
      intro i j hi hj hij
      rw [List.mem_range] at hi hj
      have h1 : tks d I.length i (b j) = false := by
        cases h2 : tks d I.length i (b j) with
        | false => rfl
        | true => have := tks_mono d I.length j (by omega) h2; rw [hfree j hj] at this; cases this
      have h2 := bst_min d (tks d I.length i) I.length (b j) (hb0 j hj).2 h1
      rw [← (hb0 i hi).1] at h2
      have hne : b i ≠ b j := fun e => by
        have h3 : tks d I.length (i + 1) (b i) = true := by unfold tks; rw [hb]; simp
        have := tks_mono d I.length j (by omega) h3
        rw [e, hfree j hj] at this; cases this
      have hi2 := (hb0 i hi).2
      have hj2 := (hb0 j hj).2
      have hJi : b i < J.length := by rw [← h.len]; exact hi2
      have hJj : b j < J.length := by rw [← h.len]; exact hj2
      have e1 : (I.zip J)[b i]? = some (I[b i], J[b i]) := zip_get (List.getElem?_eq_getElem hi2) (List.getElem?_eq_getElem hJi)
      have e2 : (I.zip J)[b j]? = some (I[b j], J[b j]) := zip_get (List.getElem?_eq_getElem hj2) (List.getElem?_eq_getElem hJj)
      rw [e1, e2]
      simp only [Option.getD_some]
      have d1 : d (b i) = dsB J[b i] q := by rw [hd]; exact dsJ_of (List.getElem?_eq_getElem hJi)
      have d2 : d (b j) = dsB J[b j] q := by rw [hd]; exact dsJ_of (List.getElem?_eq_getElem hJj)
      rw [Int.toNat_natCast, d1, d2] at h2
      unfold ns
      simp only
      rcases h2.2 with h3 | ⟨h3, h4⟩
      · exact .inl h3
      · refine .inr ⟨h3, ?_⟩
        exact List.pairwise_iff_getElem.1 h.srt (b i) (b j) hi2 hj2 (by omega)
    · rw [(srtN_perm q _).mem_iff, List.mem_map]
      constructor
      · intro hx
        obtain ⟨i, hi, hxi⟩ := List.mem_iff_getElem.1 hx
        have hi2 : i < I.length := by rw [← hzl]; exact hi
        have hall : tks d I.length I.length i = true := by
          have h1 := (hc I.length (Nat.le_refl _)).1
          have h2 := (List.countP_eq_length (p := tks d I.length I.length) (l := List.range I.length)).1 (by rw [h1, List.length_range])
          exact h2 i (List.mem_range.2 hi2)
        obtain ⟨j, hj, e⟩ := tks_of d I.length _ hall
        have e2 : b j = i := by rw [hb]; exact e.symm
        exact ⟨j, List.mem_range.2 hj, by rw [e2, List.getElem?_eq_getElem hi, hxi]; rfl⟩
      · rintro ⟨k, hk, rfl⟩
        rw [List.mem_range] at hk
        have h1 : b k < (I.zip J).length := by rw [hzl]; exact (hb0 k hk).2
        rw [List.getElem?_eq_getElem h1]
        exact List.getElem_mem h1
  rw [hK, ← List.map_take, List.take_range, List.map_map]
  unfold rnearL
  apply List.map_congr_left
  intro k hk
  rw [List.mem_range] at hk
  have hk2 : k < I.length := by omega
  have h1 := (hb0 k hk2).2
  have hJ1 : b k < J.length := by rw [← h.len]; exact h1
  have e1 : (I.zip J)[b k]? = some (I[b k], J[b k]) := zip_get (List.getElem?_eq_getElem h1) (List.getElem?_eq_getElem hJ1)
  simp only [Function.comp_apply, e1, Option.getD_some]
  unfold nrId
  rw [← hd]
  have : (bst d (tks d I.length k) I.length).toNat = b k := by rw [hb]
  rw [this, List.getElem?_eq_getElem h1]; rfl
end Go.Proofs.Ytcafnanbdmapgaa
set_option linter.unusedVariables false
set_option linter.unusedSimpArgs false
namespace Go.Proofs.Ytcafnanbdmapgaa
open Go.RowKit Go.Pl

/-- An index with the blocks T from B on. -/
structure Ix (w : World) (B p N : Nat) (T : Nat → Prop) (m : ByteArray → Option Bx) : Prop where
  at_ : ∃ mb S rv pk, IxAt w p mb N S m rv pk ∧ T p ∧ T mb ∧ ∀ k, S k → T k
  lt : ∀ k, T k → B ≤ k ∧ k < w.heap.size
theorem Ix.ok {w B p N T m} (h : Ix w B p N T m) : ∀ s b, m s = some b → okB b := by
  obtain ⟨⟨mb, S, rv, pk, h1, _⟩, _⟩ := h
  exact h1.ok
theorem Ix.fr {w w' : World} {B p N : Nat} {T F : Nat → Prop} {m} (h : Ix w B p N T m) (hf : Fr F w w') (hT : ∀ k, T k → ¬ F k) : Ix w' B p N T m := by
  obtain ⟨⟨mb, S, rv, pk, h1, h2, h3, h4⟩, h5⟩ := h
  exact ⟨⟨mb, S, rv, pk, h1.fr hf (hT p h2) (hT mb h3) (fun k hk => hT k (h4 k hk)), h2, h3, h4⟩, fun k hk => ⟨(h5 k hk).1, Nat.lt_of_lt_of_le (h5 k hk).2 hf.size⟩⟩
theorem Ix.mono {w : World} {B p N N' : Nat} {T : Nat → Prop} {m} (h : Ix w B p N T m) (hN : N ≤ N') : Ix w B p N' T m := by
  obtain ⟨⟨mb, S, rv, pk, h1, h2⟩, h5⟩ := h
  exact ⟨⟨mb, S, rv, pk, h1.mono hN, h2⟩, h5⟩
theorem Ix.base {w : World} {B B' p N : Nat} {T : Nat → Prop} {m} (h : Ix w B p N T m) (hN : B' ≤ B) : Ix w B' p N T m :=
  ⟨h.at_, fun k hk => ⟨Nat.le_trans hN (h.lt k hk).1, (h.lt k hk).2⟩⟩
section
variable {w : World} {B p N : Nat} {T : Nat → Prop} {m : ByteArray → Option Bx}
theorem ix_new (w : World) : Calls Try.prog 11 #[] w fun e w' => ∃ p T, e = .returned (.pointer (some ⟨p, 0, none⟩)) ∧ Ix w' w.heap.size p 0 T (fun _ => none) ∧ Fr (fun _ => False) w w' := by
  refine (new_calls w).mono ?_
  rintro e w' ⟨p, mb, h1, h2, h3, h4, h5⟩
  refine ⟨p, fun k => k = p ∨ k = mb, h1, ⟨⟨mb, _, _, _, h2, .inl rfl, .inr rfl, fun _ h => h.elim⟩, ?_⟩, h3⟩
  rintro k (rfl | rfl)
  · exact ⟨h4, lt_of_blk h2.hp⟩
  · exact ⟨h5, h2.hm.lt⟩
/-- What a change leaves. -/
def IxW (w : World) (B p N : Nat) (T : Nat → Prop) (m : ByteArray → Option Bx) (w' : World) : Prop := Ix w' B p N T m ∧ Fr T w w'
theorem ix_put (h : Ix w B p N T m) (hN : N ≤ 100000) (s : ByteArray) (hs : s.size ≤ maxLen) (b : Bx) : Calls Try.prog 29 #[.pointer (some ⟨p, 0, none⟩), .string s, .agg (bxC b)] w fun e w' => e = .returned (.int .i64 (putE m s b)) ∧ IxW w B p (N + 1) T (putM m s b) w' := by
  obtain ⟨⟨mb, S, rv, pk, h1, h2, h3, h4⟩, h5⟩ := h
  have fin : ∀ (m' : ByteArray → Option Bx) (v : Int) N' e w', N' ≤ N + 1 → IxPost p mb N' S m' (.int .i64 v) w e w' → e = .returned (.int .i64 v) ∧ IxW w B p (N + 1) T m' w' := by
    rintro m' v N' e w' hN' ⟨he, rv', pk', h6, h7⟩
    refine ⟨he, ⟨⟨mb, S, rv', pk', h6.mono hN', h2, h3, h4⟩, fun k hk => ⟨(h5 k hk).1, Nat.lt_of_lt_of_le (h5 k hk).2 h7.size⟩⟩, h7.mono ?_⟩
    rintro k hk (rfl | rfl)
    · exact h2
    · exact h3
  refine (put_calls h1 hN s hs b).mono ?_
  intro e w' hh
  unfold putE putM
  by_cases hb : okB b
  · rw [if_pos hb] at hh ⊢
    by_cases hm : (m s).isSome = true
    · rw [if_pos hm] at hh ⊢
      rw [if_neg (by rw [hm]; simp)]
      exact fin _ _ _ _ _ (Nat.le_refl _) hh
    · rw [if_neg hm] at hh ⊢
      rw [if_pos ⟨hb, by simpa using hm⟩]
      exact fin _ _ _ _ _ (Nat.le_refl _) hh
  · rw [if_neg hb] at hh ⊢
    rw [if_neg (fun k => hb k.1)]
    exact fin _ _ _ _ _ (Nat.le_succ _) hh
theorem ix_drop (h : Ix w B p N T m) (s : ByteArray) (hs : s.size ≤ maxLen) : Calls Try.prog 30 #[.pointer (some ⟨p, 0, none⟩), .string s] w fun e w' => e = .returned (.int .i64 (dropE m s)) ∧ IxW w B p N T (delB m s) w' := by
  obtain ⟨⟨mb, S, rv, pk, h1, h2, h3, h4⟩, h5⟩ := h
  have fin : ∀ (m' : ByteArray → Option Bx) (v : Int) e w', IxPost p mb N S m' (.int .i64 v) w e w' → e = .returned (.int .i64 v) ∧ IxW w B p N T m' w' := by
    rintro m' v e w' ⟨he, rv', pk', h6, h7⟩
    refine ⟨he, ⟨⟨mb, S, rv', pk', h6, h2, h3, h4⟩, fun k hk => ⟨(h5 k hk).1, Nat.lt_of_lt_of_le (h5 k hk).2 h7.size⟩⟩, h7.mono ?_⟩
    rintro k hk (rfl | rfl)
    · exact h2
    · exact h3
  refine (drop_calls h1 s hs).mono ?_
  intro e w' hh
  unfold dropE
  by_cases hm : (m s).isSome = true
  · rw [if_pos hm] at hh ⊢
    exact fin _ _ _ _ hh
  · rw [if_neg hm] at hh ⊢
    rw [delB_none (by simpa using hm)]
    exact fin _ _ _ _ hh
theorem ix_box (h : Ix w B p N T m) (s : ByteArray) (hs : s.size ≤ maxLen) : Calls Try.prog 16 #[.pointer (some ⟨p, 0, none⟩), .string s] w fun e w' => e = .returned (.tuple #[.agg (bxC ((m s).getD ((0, 0), (0, 0)))), .bool (m s).isSome]) ∧ Fr (fun _ => False) w w' := by
  obtain ⟨⟨mb, S, rv, pk, h1, h2, h3, h4⟩, h5⟩ := h
  exact box_p_calls h1 s hs
/-- What a question leaves: a row from C on, the index below C. -/
def IxQ (w : World) (B p N : Nat) (T : Nat → Prop) (m : ByteArray → Option Bx) (v : Value) (R : List ByteArray) (w' : World) : Prop :=
  ∃ T', Ix w' B p N T' m ∧ Fr T w w' ∧ (∀ k, T' k → T k ∨ w.heap.size ≤ k) ∧ (∃ C, w.heap.size ≤ C ∧ oStr w' C v R) ∧ ∀ k, v.ownBlock = some k → ¬ T' k
/-- The Ids that meet a box. -/
def InS (m : ByteArray → Option Bx) (q : Bx) (R : List ByteArray) : Prop := if okB q then InR m q R else R = []
def NearS (m : ByteArray → Option Bx) (pt : Pt) (n : Int) (R : List ByteArray) : Prop := if isP pt then NearR m pt n R else R = []
theorem InS.uniq {m q R R'} (h : InS m q R) (k : InS m q R') : R = R' := by
  unfold InS at h k
  split at h
  · rename_i e; rw [if_pos e] at k; exact h.uniq k
  · rename_i e; rw [if_neg e] at k; rw [h, k]
theorem NearS.uniq {m pt n R R'} (h : NearS m pt n R) (k : NearS m pt n R') : R = R' := by
  unfold NearS at h k
  split at h
  · rename_i e; rw [if_pos e] at k; exact h.uniq k
  · rename_i e; rw [if_neg e] at k; rw [h, k]
theorem RefOf.inS {m I J} (h : RefOf m I J) (q : Bx) : InS m q (if okB q then rinL I J q else []) := by
  unfold InS; split
  · exact h.in_ q
  · rfl
theorem RefOf.nearS {m I J} (h : RefOf m I J) (q : Pt) (n : Int) : NearS m q n (if isP q then rnearL I J q n else []) := by
  unfold NearS; split
  · exact h.near q n
  · rfl
theorem ix_keep {mb C : Nat} {S : Nat → Prop} {rv : Value} {pk : Bool} {w' : World} {v : Value} {R : List ByteArray} (h1 : IxAt w p mb N S m rv pk) (h2 : T p) (h3 : T mb) (h4 : ∀ k, S k → T k) (h5 : ∀ k, T k → B ≤ k ∧ k < w.heap.size) (hB : B ≤ w.heap.size) (hC : w.heap.size ≤ C) (hO : oStr w' C v R) (hk : IxKeep w p mb N S m C w') : IxQ w B p N T m v R w' := by
  obtain ⟨S', rv', pk', h6, h7, h8⟩ := hk
  have hp := (h5 p h2).2
  have hm := (h5 mb h3).2
  have hz := h7.size
  refine ⟨fun k => k = p ∨ k = mb ∨ S' k, ⟨⟨mb, S', rv', pk', h6, .inl rfl, .inr (.inl rfl), fun k hk => .inr (.inr hk)⟩, ?_⟩, h7.mono (fun k hk e => by subst e; exact h2), ?_, ⟨C, hC, hO⟩, ?_⟩
  · rintro k (rfl | rfl | hk)
    · exact ⟨(h5 _ h2).1, by omega⟩
    · exact ⟨(h5 _ h3).1, by omega⟩
    · refine ⟨?_, h6.lt k hk⟩
      rcases (h8 k hk).1 with h9 | h9
      · exact (h5 k (h4 k h9)).1
      · omega
  · rintro k (rfl | rfl | hk)
    · exact .inl h2
    · exact .inl h3
    · rcases (h8 k hk).1 with h9 | h9
      · exact .inl (h4 k h9)
      · exact .inr h9
  · intro k hk hT
    have h9 := (hO.lt hk).1
    rcases hT with rfl | rfl | hT
    · omega
    · omega
    · have := (h8 k hT).2; omega
theorem ix_in (h : Ix w B p N T m) (hN : N ≤ 100000) (b : Bx) : Calls Try.prog 19 #[.pointer (some ⟨p, 0, none⟩), .agg (bxC b)] w fun e w' => ∃ v R, e = .returned v ∧ InS m b R ∧ IxQ w B p N T m v R w' := by
  obtain ⟨⟨mb, S, rv, pk, h1, h2, h3, h4⟩, h5⟩ := h
  refine (in_calls h1 hN b).mono ?_
  rintro e w' ⟨v, R, C, h6, h7, h8, h9, h10⟩
  exact ⟨v, R, h6, h9, ix_keep h1 h2 h3 h4 h5 (by have := h5 p h2; omega) h7 h8 h10⟩
theorem ix_near (h : Ix w B p N T m) (hN : N ≤ 100000) (pt : Pt) (n : Int) : Calls Try.prog 21 #[.pointer (some ⟨p, 0, none⟩), .agg (ptC pt), .int .i64 n] w fun e w' => ∃ v R, e = .returned v ∧ NearS m pt n R ∧ IxQ w B p N T m v R w' := by
  obtain ⟨⟨mb, S, rv, pk, h1, h2, h3, h4⟩, h5⟩ := h
  refine (near_calls h1 hN pt n).mono ?_
  rintro e w' ⟨v, R, C, h6, h7, h8, h9, h10⟩
  exact ⟨v, R, h6, h9, ix_keep h1 h2 h3 h4 h5 (by have := h5 p h2; omega) h7 h8 h10⟩
/-- The length of a row of Ids. -/
theorem InS.len {w B p N T m} (h : Ix w B p N T m) {q : Bx} {R : List ByteArray} (k : InS m q R) : R.length ≤ N := by
  unfold InS at k
  split at k
  · by_cases h0 : R = []
    · rw [h0]; exact Nat.zero_le _
    · obtain ⟨⟨mb, S, rv, pk, h1, _⟩, _⟩ := h
      obtain ⟨es, c, _, hE, hs⟩ := h1.hm
      have h2 : R.length ≤ (es.toList.map fun e => match e.key with | .string s => s | _ => ByteArray.empty).length := by
        refine len_sub _ _ (k.1.imp fun {a b} hab e => by subst e; exact sl_irrefl _ hab) fun s hs2 => ?_
        obtain ⟨b, hb, _⟩ := (k.2 s).1 hs2
        obtain ⟨e, he, hk, _⟩ := (hE.at_ (.string s) (.agg (bxC b))).1 (by rw [bxM_str, hb]; rfl)
        exact List.mem_map.2 ⟨e, he, by rw [hk]⟩
      simp only [List.length_map, Array.length_toList] at h2
      omega
  · rw [k]; exact Nat.zero_le _
end
end Go.Proofs.Ytcafnanbdmapgaa
