/- Plain geometry on integers: how two segments meet, as the program computes it and as the reference does; boxes apart; moving. -/
set_option linter.unusedVariables false
set_option linter.unusedSimpArgs false
namespace Go.Geo

abbrev Pt := Int × Int
abbrev Sg := Pt × Pt
def crs (a b c : Pt) : Int := (b.1 - a.1) * (c.2 - a.2) - (b.2 - a.2) * (c.1 - a.1)
def cmpI (a b : Int) : Int := if a < b then -1 else if b < a then 1 else 0
def cmpP (a b : Pt) : Int := if a.1 = b.1 then cmpI a.2 b.2 else cmpI a.1 b.1
def leP (a b : Pt) : Prop := a.1 < b.1 ∨ a.1 = b.1 ∧ a.2 ≤ b.2
def ltP (a b : Pt) : Prop := a.1 < b.1 ∨ a.1 = b.1 ∧ a.2 < b.2
def ori (a b c : Pt) : Int := cmpI (crs a b c) 0
instance (a b : Pt) : Decidable (leP a b) := by unfold leP; infer_instance
instance (a b : Pt) : Decidable (ltP a b) := by unfold ltP; infer_instance

theorem cmpP_le {a b : Pt} : cmpP a b ≤ 0 ↔ leP a b := by
  unfold cmpP cmpI leP; split <;> split <;> (try split) <;> omega
theorem cmpP_pos {a b : Pt} : 0 < cmpP a b ↔ ltP b a := by
  unfold cmpP cmpI ltP; split <;> split <;> (try split) <;> omega
theorem cmpP_neg {a b : Pt} : cmpP a b < 0 ↔ ltP a b := by
  unfold cmpP cmpI ltP; split <;> split <;> (try split) <;> omega
theorem pt_eq {a b : Pt} : a = b ↔ a.1 = b.1 ∧ a.2 = b.2 := Prod.ext_iff
theorem cmpP_zero {a b : Pt} : cmpP a b = 0 ↔ a = b := by
  rw [pt_eq]; unfold cmpP cmpI; split <;> split <;> (try split) <;> omega
theorem cmpP_m1 {a b : Pt} : cmpP a b = -1 ↔ ltP a b := by
  unfold cmpP cmpI ltP; split <;> split <;> (try split) <;> omega
theorem cmpI_neg {n : Int} : cmpI n 0 < 0 ↔ n < 0 := by unfold cmpI; split <;> (try split) <;> omega
theorem cmpI_pos {n : Int} : 0 < cmpI n 0 ↔ 0 < n := by unfold cmpI; split <;> (try split) <;> omega
theorem cmpI_zero {n : Int} : cmpI n 0 = 0 ↔ n = 0 := by unfold cmpI; split <;> (try split) <;> omega
theorem cmpI_cases (n : Int) : (n < 0 ∧ cmpI n 0 = -1) ∨ (n = 0 ∧ cmpI n 0 = 0) ∨ (0 < n ∧ cmpI n 0 = 1) := by
  unfold cmpI; split <;> (try split) <;> omega
theorem sg_mul_neg {m n : Int} : cmpI m 0 * cmpI n 0 < 0 ↔ (m < 0 ∧ 0 < n) ∨ (0 < m ∧ n < 0) := by
  rcases cmpI_cases m with ⟨h, e⟩ | ⟨h, e⟩ | ⟨h, e⟩ <;> rcases cmpI_cases n with ⟨h2, e2⟩ | ⟨h2, e2⟩ | ⟨h2, e2⟩ <;> rw [e, e2] <;> omega
theorem sg_mul_pos {m n : Int} : 0 < cmpI m 0 * cmpI n 0 ↔ (m < 0 ∧ n < 0) ∨ (0 < m ∧ 0 < n) := by
  rcases cmpI_cases m with ⟨h, e⟩ | ⟨h, e⟩ | ⟨h, e⟩ <;> rcases cmpI_cases n with ⟨h2, e2⟩ | ⟨h2, e2⟩ | ⟨h2, e2⟩ <;> rw [e, e2] <;> omega
theorem sg_mul_zero {m n : Int} : cmpI m 0 * cmpI n 0 = 0 ↔ m = 0 ∨ n = 0 := by
  rcases cmpI_cases m with ⟨h, e⟩ | ⟨h, e⟩ | ⟨h, e⟩ <;> rcases cmpI_cases n with ⟨h2, e2⟩ | ⟨h2, e2⟩ | ⟨h2, e2⟩ <;> rw [e, e2] <;> omega

/-- The reference's On. -/
def onB (s : Sg) (p : Pt) : Prop := (min s.1.1 s.2.1 ≤ p.1 ∧ p.1 ≤ max s.1.1 s.2.1 ∧ min s.1.2 s.2.2 ≤ p.2 ∧ p.2 ≤ max s.1.2 s.2.2) ∧ crs s.1 s.2 p = 0
instance (s : Sg) (p : Pt) : Decidable (onB s p) := by unfold onB; infer_instance

theorem onB_swap (a b p : Pt) : onB (a, b) p ↔ onB (b, a) p := by
  unfold onB
  simp only [Int.min_comm a.1 b.1, Int.max_comm a.1 b.1, Int.min_comm a.2 b.2, Int.max_comm a.2 b.2]
  have : crs a b p = - crs b a p := by unfold crs; grind
  rw [this]; omega

/-- On a line, being in the box of two points is being between them. -/
theorem box_between (a b p : Pt) (hab : ltP a b) (hc : crs a b p = 0) :
    (min a.1 b.1 ≤ p.1 ∧ p.1 ≤ max a.1 b.1 ∧ min a.2 b.2 ≤ p.2 ∧ p.2 ≤ max a.2 b.2) ↔ leP a p ∧ leP p b := by
  unfold crs at hc
  unfold ltP at hab
  unfold leP
  have hc' : (b.1 - a.1) * (p.2 - a.2) = (b.2 - a.2) * (p.1 - a.1) := by omega
  rcases hab with h | ⟨h, h2⟩
  · have hD : 0 < b.1 - a.1 := by omega
    constructor
    · rintro ⟨h1, h2, h3, h4⟩
      constructor
      · by_cases e : p.1 = a.1
        · rw [show p.1 - a.1 = 0 by omega, Int.mul_zero] at hc'
          rcases Int.mul_eq_zero.1 hc' with h5 | h5 <;> omega
        · omega
      · by_cases e : p.1 = b.1
        · have : (b.1 - a.1) * (p.2 - b.2) = 0 := by
            rw [show p.2 - b.2 = (p.2 - a.2) - (b.2 - a.2) by omega, Int.mul_sub, hc', e, Int.mul_comm (b.2 - a.2)]; omega
          rcases Int.mul_eq_zero.1 this with h5 | h5 <;> omega
        · omega
    · rintro ⟨h1, h2⟩
      have u0 : 0 ≤ p.1 - a.1 := by omega
      have u1 : p.1 - a.1 ≤ b.1 - a.1 := by omega
      have hx : min a.1 b.1 ≤ p.1 ∧ p.1 ≤ max a.1 b.1 := by omega
      refine ⟨hx.1, hx.2, ?_⟩
      by_cases hh : 0 ≤ b.2 - a.2
      · have v0 : 0 ≤ (b.1 - a.1) * (p.2 - a.2) := by rw [hc']; exact Int.mul_nonneg hh u0
        have v1 : (b.1 - a.1) * (p.2 - a.2) ≤ (b.1 - a.1) * (b.2 - a.2) := by rw [hc', Int.mul_comm (b.1 - a.1)]; exact Int.mul_le_mul_of_nonneg_left u1 hh
        have w0 : 0 ≤ p.2 - a.2 := Int.nonneg_of_mul_nonneg_right v0 hD
        have w1 : p.2 - a.2 ≤ b.2 - a.2 := Int.le_of_mul_le_mul_left v1 hD
        omega
      · have hh' : 0 ≤ -(b.2 - a.2) := by omega
        have v0 : 0 ≤ (b.1 - a.1) * (-(p.2 - a.2)) := by
          rw [Int.mul_neg, hc', ← Int.neg_mul]; exact Int.mul_nonneg hh' u0
        have v1 : (b.1 - a.1) * (-(p.2 - a.2)) ≤ (b.1 - a.1) * (-(b.2 - a.2)) := by
          rw [Int.mul_neg, hc', ← Int.neg_mul, Int.mul_comm (b.1 - a.1)]; exact Int.mul_le_mul_of_nonneg_left u1 hh'
        have w0 : 0 ≤ -(p.2 - a.2) := Int.nonneg_of_mul_nonneg_right v0 hD
        have w1 : -(p.2 - a.2) ≤ -(b.2 - a.2) := Int.le_of_mul_le_mul_left v1 hD
        omega
  · have hz : p.1 = a.1 := by
      rw [show b.1 - a.1 = 0 by omega, Int.zero_mul] at hc'
      rcases Int.mul_eq_zero.1 hc'.symm with h5 | h5 <;> omega
    omega

theorem onB_iff {a b p : Pt} (h : leP a b) : onB (a, b) p ↔ crs a b p = 0 ∧ leP a p ∧ leP p b ∧ (a ≠ b ∨ p = a) := by
  by_cases e : a = b
  · subst e
    unfold onB leP
    simp only [ne_eq, not_true_eq_false, false_or]
    constructor
    · rintro ⟨h1, h2⟩
      have : p = a := pt_eq.2 ⟨by omega, by omega⟩
      subst this
      exact ⟨h2, by omega, by omega, rfl⟩
    · rintro ⟨h1, _, _, rfl⟩
      exact ⟨by omega, h1⟩
  · have hlt : ltP a b := by
      unfold leP at h; unfold ltP
      rw [pt_eq] at e; omega
    unfold onB
    simp only
    constructor
    · rintro ⟨h1, h2⟩
      have := (box_between a b p hlt h2).1 h1
      exact ⟨h2, this.1, this.2, .inl e⟩
    · rintro ⟨h1, h2, h3, _⟩
      exact ⟨(box_between a b p hlt h1).2 ⟨h2, h3⟩, h1⟩

def C (s t : Sg) (p : Pt) : Prop := onB s p ∧ onB t p
instance (s t : Sg) (p : Pt) : Decidable (C s t p) := by unfold C; infer_instance
def isEnd (s : Sg) (p : Pt) : Prop := p = s.1 ∨ p = s.2
instance (s : Sg) (p : Pt) : Decidable (isEnd s p) := by unfold isEnd; infer_instance
def any4 (s t : Sg) (f : Pt → Prop) : Prop := f s.1 ∨ f s.2 ∨ f t.1 ∨ f t.2
instance (s t : Sg) (f : Pt → Prop) [DecidablePred f] : Decidable (any4 s t f) := by unfold any4; infer_instance
theorem any4_iff {s t : Sg} {f : Pt → Prop} : any4 s t f ↔ ∃ p, (isEnd s p ∨ isEnd t p) ∧ f p := by
  unfold any4 isEnd
  constructor
  · rintro (h | h | h | h)
    · exact ⟨_, .inl (.inl rfl), h⟩
    · exact ⟨_, .inl (.inr rfl), h⟩
    · exact ⟨_, .inr (.inl rfl), h⟩
    · exact ⟨_, .inr (.inr rfl), h⟩
  · rintro ⟨p, (h | h) | (h | h), hf⟩ <;> subst h <;> simp [hf]

def sameS (s t : Sg) : Prop := s = t ∨ s.1 = t.2 ∧ s.2 = t.1
instance (s t : Sg) : Decidable (sameS s t) := by unfold sameS; infer_instance
def many (s t : Sg) : Prop := any4 s t fun p => any4 s t fun q => p ≠ q ∧ C s t p ∧ C s t q
instance (s t : Sg) : Decidable (many s t) := by unfold many; infer_instance
def crossing (s t : Sg) : Prop := ori s.1 s.2 t.1 * ori s.1 s.2 t.2 < 0 ∧ ori t.1 t.2 s.1 * ori t.1 t.2 s.2 < 0
instance (s t : Sg) : Decidable (crossing s t) := by unfold crossing; infer_instance

/-- How two segments meet, by the common ends. -/
def kindR (s t : Sg) : Int :=
  if sameS s t then 4 else if many s t then 5 else if any4 s t fun p => C s t p ∧ isEnd s p ∧ isEnd t p then 1
  else if any4 s t (C s t) then 2 else if crossing s t then 3 else 0

theorem kindR_congr {s t s' t' : Sg} (h1 : sameS s t ↔ sameS s' t') (h2 : ∀ p, (isEnd s p ∨ isEnd t p) ↔ (isEnd s' p ∨ isEnd t' p)) (h3 : ∀ p, C s t p ↔ C s' t' p) (h4 : ∀ p, (isEnd s p ∧ isEnd t p) ↔ (isEnd s' p ∧ isEnd t' p)) (h5 : crossing s t ↔ crossing s' t') : kindR s t = kindR s' t' := by
  unfold kindR
  have e2 : many s t ↔ many s' t' := by
    unfold many
    simp only [any4_iff, h2, h3]
  have e3 : any4 s t (fun p => C s t p ∧ isEnd s p ∧ isEnd t p) ↔ any4 s' t' (fun p => C s' t' p ∧ isEnd s' p ∧ isEnd t' p) := by
    simp only [any4_iff, h2, h3, h4]
  have e4 : any4 s t (C s t) ↔ any4 s' t' (C s' t') := by
    simp only [any4_iff, h2, h3]
  simp only [h1, e2, e3, e4, h5]

theorem kindR_comm (s t : Sg) : kindR s t = kindR t s :=
  kindR_congr (by unfold sameS; constructor <;> (rintro (h | ⟨h1, h2⟩) <;> first | (left; exact h.symm) | (right; exact ⟨h2.symm, h1.symm⟩)))
    (fun p => Or.comm) (fun p => And.comm) (fun p => And.comm) (by unfold crossing; exact And.comm)

theorem ori_swap (a b c : Pt) : ori b a c = - ori a b c := by
  unfold ori
  have : crs b a c = - crs a b c := by unfold crs; grind
  rw [this]
  rcases cmpI_cases (crs a b c) with ⟨h, e⟩ | ⟨h, e⟩ | ⟨h, e⟩ <;> rcases cmpI_cases (-crs a b c) with ⟨h2, e2⟩ | ⟨h2, e2⟩ | ⟨h2, e2⟩ <;> omega

theorem kindR_swap (a b : Pt) (t : Sg) : kindR (a, b) t = kindR (b, a) t :=
  kindR_congr (by
      obtain ⟨c, d⟩ := t
      unfold sameS; simp only [Prod.mk.injEq]
      constructor
      · rintro (⟨h1, h2⟩ | ⟨h1, h2⟩)
        · exact .inr ⟨h2, h1⟩
        · exact .inl ⟨h2, h1⟩
      · rintro (⟨h1, h2⟩ | ⟨h1, h2⟩)
        · exact .inr ⟨h2, h1⟩
        · exact .inl ⟨h2, h1⟩)
    (fun p => by unfold isEnd; simp only [Or.comm (a := p = a)]) (fun p => by unfold C; rw [onB_swap]) (fun p => by unfold isEnd; simp only [Or.comm (a := p = a)])
    (by unfold crossing; simp only; rw [ori_swap a b t.1, ori_swap a b t.2, Int.neg_mul_neg, Int.mul_comm (ori t.1 t.2 a)])

/-! ### the program's way -/
def srt (s : Sg) : Sg := if 0 < cmpP s.1 s.2 then (s.2, s.1) else s
theorem srt_le (s : Sg) : leP (srt s).1 (srt s).2 := by
  unfold srt
  split
  · rename_i h; rw [cmpP_pos] at h; simp only; unfold ltP at h; unfold leP; omega
  · rename_i h; exact cmpP_le.1 (by omega)
theorem srt_of_le {s : Sg} (h : leP s.1 s.2) : srt s = s := by
  unfold srt; rw [if_neg]; have := cmpP_le.2 h; omega
theorem kindR_srt (s t : Sg) : kindR (srt s) (srt t) = kindR s t := by
  have h : ∀ s t : Sg, kindR (srt s) t = kindR s t := fun s t => by
    unfold srt
    split
    · exact (kindR_swap s.1 s.2 t).symm
    · rfl
  rw [h, kindR_comm, h, kindR_comm]

def onS (s : Sg) (p : Pt) : Bool := decide (ori (srt s).1 (srt s).2 p = 0) && (decide (cmpP (srt s).1 p ≤ 0) && (decide (cmpP p (srt s).2 ≤ 0) && (!decide ((srt s).1 = (srt s).2) || decide (p = (srt s).1))))
theorem onS_iff (s : Sg) (p : Pt) : onS s p = true ↔ onB s p := by
  have h1 : onB s p ↔ onB (srt s) p := by
    unfold srt; split
    · exact onB_swap s.1 s.2 p
    · rfl
  rw [h1, show srt s = ((srt s).1, (srt s).2) from rfl, onB_iff (srt_le s)]
  unfold onS ori
  simp [cmpI_zero, cmpP_le]

def low (s t : Sg) : Pt := if 0 < cmpP t.1 s.1 then t.1 else s.1
def high (s t : Sg) : Pt := if cmpP t.2 s.2 < 0 then t.2 else s.2
/-- online, its first segment being a point if one of them is. -/
def online1 (s t : Sg) : Int :=
  if s.1 = s.2 then (if onS t s.1 = false then 0 else if s.1 = t.1 ∨ s.1 = t.2 then 1 else 2)
  else if cmpP (low s t) (high s t) = -1 then 5 else if cmpP (low s t) (high s t) = 0 then 1 else 0
def online (s t : Sg) : Int := if t.1 = t.2 then online1 t s else online1 s t
def flat (s t : Sg) : Prop := s.1 = s.2 ∨ t.1 = t.2 ∨ (ori s.1 s.2 t.1 = 0 ∧ ori s.1 s.2 t.2 = 0)
instance (s t : Sg) : Decidable (flat s t) := by unfold flat; infer_instance
def meetsS (s t : Sg) : Int :=
  if s = t then 4 else if flat s t then online s t
  else if 0 < ori s.1 s.2 t.1 * ori s.1 s.2 t.2 ∨ 0 < ori t.1 t.2 s.1 * ori t.1 t.2 s.2 then 0
  else if ori s.1 s.2 t.1 * ori s.1 s.2 t.2 < 0 ∧ ori t.1 t.2 s.1 * ori t.1 t.2 s.2 < 0 then 3
  else if ori s.1 s.2 t.1 * ori s.1 s.2 t.2 = 0 ∧ ori t.1 t.2 s.1 * ori t.1 t.2 s.2 = 0 then 1 else 2

theorem leP_antisymm {a b : Pt} (h1 : leP a b) (h2 : leP b a) : a = b := by rw [pt_eq]; unfold leP at *; omega
theorem leP_refl (a : Pt) : leP a a := by unfold leP; omega
theorem leP_trans {a b c : Pt} (h1 : leP a b) (h2 : leP b c) : leP a c := by unfold leP at *; omega
theorem leP_total (a b : Pt) : leP a b ∨ leP b a := by unfold leP; omega
theorem ltP_iff {a b : Pt} : ltP a b ↔ ¬ leP b a := by unfold ltP leP; omega
theorem lt_of_le_ne {a b : Pt} (h : leP a b) (hne : a ≠ b) : ltP a b := by rw [ltP_iff]; exact fun h2 => hne (leP_antisymm h h2)
theorem same_sorted {s t : Sg} (hs : leP s.1 s.2) (ht : leP t.1 t.2) (h : sameS s t) : s = t := by
  rcases h with h | ⟨h1, h2⟩
  · exact h
  · rw [h1, h2] at hs
    have := leP_antisymm hs ht
    exact Prod.ext (by rw [h1]; exact this) (by rw [h2]; exact this.symm)

/-- One of the two is a point. -/
theorem point_kind (s t : Sg) (hs : s.1 = s.2) (ht : leP t.1 t.2) (hne : s ≠ t) : online1 s t = kindR s t := by
  have hle : leP s.1 s.2 := by rw [hs]; exact leP_refl _
  have hC : ∀ p, C s t p ↔ p = s.1 ∧ onB t s.1 := fun p => by
    unfold C
    rw [show onB s p ↔ p = s.1 from (onB_iff (a := s.1) (b := s.2) hle).trans ⟨fun h => h.2.2.2.resolve_left fun h' => h' hs, fun h => by
      subst h; exact ⟨by rw [← hs]; unfold crs; grind, leP_refl _, hle, .inr rfl⟩⟩]
    constructor
    · rintro ⟨rfl, h⟩; exact ⟨rfl, h⟩
    · rintro ⟨rfl, h⟩; exact ⟨rfl, h⟩
  unfold online1 kindR
  rw [if_pos hs, if_neg (fun h => hne (same_sorted hle ht h))]
  have h2 : ¬ many s t := by
    unfold many; simp only [any4_iff, hC]
    rintro ⟨p, _, q, _, hpq, ⟨rfl, _⟩, rfl, _⟩
    exact hpq rfl
  have h5 : ¬ crossing s t := by
    rintro ⟨h, _⟩
    have : crs s.1 s.2 t.1 = 0 := by rw [← hs]; unfold crs; grind
    unfold ori at h
    rw [this, show cmpI 0 0 = 0 from rfl, Int.zero_mul] at h
    omega
  have h3 : any4 s t (fun p => C s t p ∧ isEnd s p ∧ isEnd t p) ↔ onB t s.1 ∧ (s.1 = t.1 ∨ s.1 = t.2) := by
    simp only [any4_iff, hC]
    constructor
    · rintro ⟨p, _, ⟨rfl, h⟩, _, h2⟩; exact ⟨h, h2⟩
    · rintro ⟨h, h2⟩; exact ⟨s.1, .inl (.inl rfl), ⟨rfl, h⟩, .inl rfl, h2⟩
  have h4 : any4 s t (C s t) ↔ onB t s.1 := by
    simp only [any4_iff, hC]
    constructor
    · rintro ⟨p, _, rfl, h⟩; exact h
    · intro h; exact ⟨s.1, .inl (.inl rfl), rfl, h⟩
  rw [if_neg h2, if_neg h5]
  simp only [h3, h4]
  by_cases hon : onB t s.1
  · have := (onS_iff t s.1).2 hon
    simp [this, hon]
  · have : onS t s.1 = false := by rw [Bool.eq_false_iff, ne_eq, onS_iff]; exact hon
    simp [this, hon]

/-- Points on one line: what is on the line of two of them is on that of two others. -/
theorem line_trans {a b c d p : Pt} (hab : a ≠ b) (h1 : crs a b c = 0) (h2 : crs a b d = 0) (h3 : crs a b p = 0) : crs c d p = 0 := by
  have k1 : (b.1 - a.1) * crs c d p = 0 := by unfold crs at *; grind
  have k2 : (b.2 - a.2) * crs c d p = 0 := by unfold crs at *; grind
  rcases Int.mul_eq_zero.1 k1 with h | h
  · rcases Int.mul_eq_zero.1 k2 with h' | h'
    · exact absurd (pt_eq.2 ⟨by omega, by omega⟩) hab
    · exact h'
  · exact h

/-- Two segments on one line. -/
theorem line_kind (s t : Sg) (hs : ltP s.1 s.2) (ht : ltP t.1 t.2) (hne : s ≠ t) (h1 : crs s.1 s.2 t.1 = 0) (h2 : crs s.1 s.2 t.2 = 0) : online1 s t = kindR s t := by
  have hsn : s.1 ≠ s.2 := fun e => by rw [e] at hs; unfold ltP at hs; omega
  have htn : t.1 ≠ t.2 := fun e => by rw [e] at ht; unfold ltP at ht; omega
  have hsl : leP s.1 s.2 := by unfold ltP at hs; unfold leP; omega
  have htl : leP t.1 t.2 := by unfold ltP at ht; unfold leP; omega
  have z1 : crs s.1 s.2 s.1 = 0 := by unfold crs; grind
  have z2 : crs s.1 s.2 s.2 = 0 := by unfold crs; grind
  have hl : ∀ p, isEnd s p ∨ isEnd t p → crs s.1 s.2 p = 0 := by
    rintro p ((rfl | rfl) | (rfl | rfl)) <;> assumption
  have hC : ∀ p, isEnd s p ∨ isEnd t p → (C s t p ↔ leP (low s t) p ∧ leP p (high s t)) := fun p hp => by
    have k1 : onB s p ↔ leP s.1 p ∧ leP p s.2 := (onB_iff (a := s.1) (b := s.2) hsl).trans ⟨fun h => ⟨h.2.1, h.2.2.1⟩, fun h => ⟨hl p hp, h.1, h.2, .inl hsn⟩⟩
    have k2 : onB t p ↔ leP t.1 p ∧ leP p t.2 := (onB_iff (a := t.1) (b := t.2) htl).trans ⟨fun h => ⟨h.2.1, h.2.2.1⟩, fun h => ⟨line_trans hsn h1 h2 (hl p hp), h.1, h.2, .inl htn⟩⟩
    unfold C; rw [k1, k2]
    unfold low high
    constructor
    · rintro ⟨⟨a, b⟩, c, d⟩
      constructor
      · split <;> assumption
      · split <;> assumption
    · rintro ⟨a, b⟩
      have l1 : leP s.1 (if 0 < cmpP t.1 s.1 then t.1 else s.1) ∧ leP t.1 (if 0 < cmpP t.1 s.1 then t.1 else s.1) := by
        split
        · rename_i h; rw [cmpP_pos] at h; exact ⟨by unfold ltP at h; unfold leP; omega, leP_refl _⟩
        · rename_i h; rw [cmpP_pos, ltP_iff, Classical.not_not] at h; exact ⟨leP_refl _, h⟩
      have l2 : leP (if cmpP t.2 s.2 < 0 then t.2 else s.2) s.2 ∧ leP (if cmpP t.2 s.2 < 0 then t.2 else s.2) t.2 := by
        split
        · rename_i h; rw [cmpP_neg] at h; exact ⟨by unfold ltP at h; unfold leP; omega, leP_refl _⟩
        · rename_i h; rw [cmpP_neg, ltP_iff, Classical.not_not] at h; exact ⟨leP_refl _, h⟩
      exact ⟨⟨leP_trans l1.1 a, leP_trans b l2.1⟩, leP_trans l1.2 a, leP_trans b l2.2⟩
  have hlow : isEnd s (low s t) ∨ isEnd t (low s t) := by unfold low isEnd; split <;> simp
  have hhigh : isEnd s (high s t) ∨ isEnd t (high s t) := by unfold high isEnd; split <;> simp
  have hx : ¬ crossing s t := by
    rintro ⟨h, _⟩
    unfold ori at h
    rw [h1, show cmpI 0 0 = 0 from rfl, Int.zero_mul] at h; omega
  have hboth : low s t = high s t → isEnd s (low s t) ∧ isEnd t (low s t) := by
    intro e
    unfold low at e ⊢
    unfold high at e
    unfold isEnd
    split at e <;> split at e
    · exact absurd e htn
    · rw [if_pos (by assumption)]; exact ⟨.inr e, .inl rfl⟩
    · rw [if_neg (by assumption)]; exact ⟨.inl rfl, .inr e⟩
    · exact absurd e hsn
  unfold online1 kindR
  rw [if_neg hsn, if_neg (fun h => hne (same_sorted hsl htl h)), if_neg hx]
  by_cases e1 : ltP (low s t) (high s t)
  · have hle : leP (low s t) (high s t) := by unfold ltP at e1; unfold leP; omega
    rw [if_pos (cmpP_m1.2 e1), if_pos]
    unfold many
    simp only [any4_iff]
    refine ⟨_, hlow, _, hhigh, fun e => ?_, (hC _ hlow).2 ⟨leP_refl _, hle⟩, (hC _ hhigh).2 ⟨hle, leP_refl _⟩⟩
    rw [e] at e1; unfold ltP at e1; omega
  · rw [if_neg (fun h => e1 (cmpP_m1.1 h))]
    have hle : leP (high s t) (low s t) := by rw [ltP_iff, Classical.not_not] at e1; exact e1
    have hu : ∀ p, isEnd s p ∨ isEnd t p → C s t p → p = low s t ∧ low s t = high s t := fun p hp hc => by
      have := (hC p hp).1 hc
      have e2 := leP_antisymm (leP_trans this.1 this.2) hle
      exact ⟨leP_antisymm (by rw [e2]; exact this.2) this.1, e2⟩
    have hm : ¬ many s t := by
      unfold many; simp only [any4_iff]
      rintro ⟨p, hp, q, hq, hpq, h3, h4⟩
      exact hpq ((hu p hp h3).1.trans (hu q hq h4).1.symm)
    rw [if_neg hm]
    by_cases e2 : low s t = high s t
    · rw [if_pos (cmpP_zero.2 e2), if_pos]
      rw [any4_iff]
      exact ⟨_, hlow, (hC _ hlow).2 ⟨leP_refl _, by rw [← e2]; exact leP_refl _⟩, hboth e2⟩
    · rw [if_neg (fun h => e2 (cmpP_zero.1 h)), if_neg, if_neg]
      · rw [any4_iff]; rintro ⟨p, hp, hc⟩; exact e2 (hu p hp hc).2
      · rw [any4_iff]; rintro ⟨p, hp, hc, _⟩; exact e2 (hu p hp hc).2

theorem lex_scale {K m x1 x2 y1 y2 : Int} (hK : 0 < K) (hm : 0 ≤ m) (h1 : K * x1 = m * y1) (h2 : K * x2 = m * y2) (hy : 0 < y1 ∨ y1 = 0 ∧ 0 ≤ y2) : 0 < x1 ∨ x1 = 0 ∧ 0 ≤ x2 := by
  rcases hy with h | ⟨h, h'⟩
  · have : 0 ≤ K * x1 := by rw [h1]; exact Int.mul_nonneg hm (by omega)
    have hx := Int.nonneg_of_mul_nonneg_right this hK
    by_cases e : x1 = 0
    · rw [e, Int.mul_zero] at h1
      rcases Int.mul_eq_zero.1 h1.symm with h3 | h3
      · rw [h3, Int.zero_mul] at h2
        rcases Int.mul_eq_zero.1 h2 with h4 | h4 <;> omega
      · omega
    · omega
  · rw [h, Int.mul_zero] at h1
    have e : x1 = 0 := by rcases Int.mul_eq_zero.1 h1 with h4 | h4 <;> omega
    have : 0 ≤ K * x2 := by rw [h2]; exact Int.mul_nonneg hm h'
    have := Int.nonneg_of_mul_nonneg_right this hK
    omega
theorem lex_neg {K m x1 x2 y1 y2 : Int} (hK : 0 < K) (hm : 0 < m) (h1 : K * x1 = - (m * y1)) (h2 : K * x2 = - (m * y2)) (hy : 0 < y1 ∨ y1 = 0 ∧ 0 < y2) : x1 < 0 ∨ x1 = 0 ∧ x2 < 0 := by
  rcases hy with h | ⟨h, h'⟩
  · have := Int.mul_pos hm h
    have : 0 < K * (-x1) := by rw [Int.mul_neg]; omega
    have := Int.pos_of_mul_pos_right this hK
    omega
  · rw [h, Int.mul_zero] at h1
    have e : x1 = 0 := by rcases Int.mul_eq_zero.1 (show K * x1 = 0 by omega) with h4 | h4 <;> omega
    have := Int.mul_pos hm h'
    have : 0 < K * (-x2) := by rw [Int.mul_neg]; omega
    have := Int.pos_of_mul_pos_right this hK
    omega

def ss (c d : Int) : Prop := (c < 0 ∧ d < 0) ∨ (0 < c ∧ 0 < d)

def opp (c d : Int) : Prop := (c < 0 ∧ 0 < d) ∨ (0 < c ∧ d < 0)
instance (c d : Int) : Decidable (ss c d) := by unfold ss; infer_instance
instance (c d : Int) : Decidable (opp c d) := by unfold opp; infer_instance
theorem sg_mul_opp {m n : Int} : cmpI m 0 * cmpI n 0 < 0 ↔ opp m n := sg_mul_neg
theorem sg_mul_ss {m n : Int} : 0 < cmpI m 0 * cmpI n 0 ↔ ss m n := sg_mul_pos
theorem ss_ne {c d : Int} (h : ss c d) : c ≠ 0 ∧ d ≠ 0 := by unfold ss at h; omega
theorem opp_ne {c d : Int} (h : opp c d) : c ≠ 0 ∧ d ≠ 0 := by unfold opp at h; omega
theorem ss_opp {c d : Int} (h : ss c d) : ¬ opp c d := by unfold ss at h; unfold opp; omega
theorem sign_cases (c d : Int) : ss c d ∨ opp c d ∨ c = 0 ∨ d = 0 := by unfold ss opp; omega

/-- An end of one segment that lies on the line of the other one. -/
theorem on_cross {A B D E : Pt} (hAB : ltP A B) (a0 : crs A B D = 0) (hn : ¬ (crs D E A = 0 ∧ crs D E B = 0)) : onB (A, B) D ↔ ¬ ss (crs D E A) (crs D E B) := by
  have hle : leP A B := by unfold ltP at hAB; unfold leP; omega
  have hne : A ≠ B := fun e => by rw [e] at hAB; unfold ltP at hAB; omega
  rw [onB_iff hle]
  have i1 : (crs D E A - crs D E B) * (D.1 - A.1) = crs D E A * (B.1 - A.1) := by unfold crs at *; grind
  have i2 : (crs D E A - crs D E B) * (D.2 - A.2) = crs D E A * (B.2 - A.2) := by unfold crs at *; grind
  have i3 : (crs D E A - crs D E B) * (B.1 - D.1) = - (crs D E B * (B.1 - A.1)) := by unfold crs at *; grind
  have i4 : (crs D E A - crs D E B) * (B.2 - D.2) = - (crs D E B * (B.2 - A.2)) := by unfold crs at *; grind
  have hne0 : crs D E A = 0 → crs D E B ≠ 0 := fun h1 h2 => hn ⟨h1, h2⟩
  have hy : 0 < B.1 - A.1 ∨ B.1 - A.1 = 0 ∧ 0 < B.2 - A.2 := by unfold ltP at hAB; omega
  generalize crs D E A = c at *
  generalize crs D E B = d at *
  have hy' : 0 < B.1 - A.1 ∨ B.1 - A.1 = 0 ∧ 0 ≤ B.2 - A.2 := by omega
  have main : leP A D ∧ leP D B ↔ ¬ ss c d := by
    constructor
    · rintro ⟨h1, h2⟩ hss
      unfold leP at h1 h2
      rcases hss with ⟨hc, hd⟩ | ⟨hc, hd⟩
      · rcases Int.lt_trichotomy c d with h | h | h
        · have := lex_neg (K := d - c) (m := -d) (x1 := B.1 - D.1) (x2 := B.2 - D.2) (by omega) (by omega) (by rw [show d - c = -(c - d) by omega, Int.neg_mul, i3, Int.neg_mul]) (by rw [show d - c = -(c - d) by omega, Int.neg_mul, i4, Int.neg_mul]) hy
          omega
        · subst h
          rw [Int.sub_self, Int.zero_mul] at i1 i2
          rcases Int.mul_eq_zero.1 i1.symm with h3 | h3
          · omega
          · rcases Int.mul_eq_zero.1 i2.symm with h4 | h4 <;> omega
        · have := lex_neg (K := c - d) (m := -c) (x1 := D.1 - A.1) (x2 := D.2 - A.2) (by omega) (by omega) (by rw [i1, Int.neg_mul, Int.neg_neg]) (by rw [i2, Int.neg_mul, Int.neg_neg]) hy
          omega
      · rcases Int.lt_trichotomy c d with h | h | h
        · have := lex_neg (K := d - c) (m := c) (x1 := D.1 - A.1) (x2 := D.2 - A.2) (by omega) (by omega) (by rw [show d - c = -(c - d) by omega, Int.neg_mul, i1]) (by rw [show d - c = -(c - d) by omega, Int.neg_mul, i2]) hy
          omega
        · subst h
          rw [Int.sub_self, Int.zero_mul] at i1 i2
          rcases Int.mul_eq_zero.1 i1.symm with h3 | h3
          · omega
          · rcases Int.mul_eq_zero.1 i2.symm with h4 | h4 <;> omega
        · have := lex_neg (K := c - d) (m := d) (x1 := B.1 - D.1) (x2 := B.2 - D.2) (by omega) (by omega) i3 i4 hy
          omega
    · intro hss
      unfold ss at hss
      have hcd : (0 ≤ c ∧ d ≤ 0 ∧ 0 < c - d) ∨ (c ≤ 0 ∧ 0 ≤ d ∧ 0 < d - c) := by omega
      unfold leP
      rcases hcd with ⟨h1, h2, h3⟩ | ⟨h1, h2, h3⟩
      · have k1 := lex_scale (x1 := D.1 - A.1) (x2 := D.2 - A.2) h3 h1 i1 i2 hy'
        have k2 := lex_scale (m := -d) (x1 := B.1 - D.1) (x2 := B.2 - D.2) h3 (by omega) (by rw [i3, Int.neg_mul]) (by rw [i4, Int.neg_mul]) hy'
        omega
      · have k1 := lex_scale (m := -c) (x1 := D.1 - A.1) (x2 := D.2 - A.2) h3 (by omega) (by rw [show d - c = -(c - d) by omega, Int.neg_mul, i1, Int.neg_mul]) (by rw [show d - c = -(c - d) by omega, Int.neg_mul, i2, Int.neg_mul]) hy'
        have k2 := lex_scale (m := d) (x1 := B.1 - D.1) (x2 := B.2 - D.2) h3 h2 (by rw [show d - c = -(c - d) by omega, Int.neg_mul, i3, Int.neg_neg]) (by rw [show d - c = -(c - d) by omega, Int.neg_mul, i4, Int.neg_neg]) hy'
        omega
  constructor
  · rintro ⟨_, h1, h2, _⟩; exact main.1 ⟨h1, h2⟩
  · intro h; exact ⟨a0, (main.2 h).1, (main.2 h).2, .inl hne⟩

theorem crs_flip (D E A : Pt) : crs E D A = - crs D E A := by unfold crs; grind
theorem crs_l (A B : Pt) : crs A B A = 0 := by unfold crs; grind
theorem crs_r (A B : Pt) : crs A B B = 0 := by unfold crs; grind
theorem meet_pt {A B D E : Pt} (hn : ¬ (crs A B D = 0 ∧ crs A B E = 0)) (h1 : crs A B D = 0) (h2 : crs D E A = 0) : D = A := by
  apply Classical.byContradiction
  intro hne
  have := line_trans (a := D) (b := A) (c := A) (d := B) (p := E) hne (crs_r _ _) (by unfold crs at *; grind) (by unfold crs at *; grind)
  exact hn ⟨h1, this⟩

theorem own_on {s : Sg} (h : leP s.1 s.2) : onB s s.1 ∧ onB s s.2 := by
  constructor
  · exact (onB_iff (a := s.1) (b := s.2) h).2 ⟨crs_l _ _, leP_refl _, h, .inr rfl⟩
  · refine (onB_iff (a := s.1) (b := s.2) h).2 ⟨crs_r _ _, h, leP_refl _, ?_⟩
    by_cases e : s.1 = s.2
    · exact .inr e.symm
    · exact .inl e

theorem not_many {s t : Sg} {p0 : Pt} (h : ∀ p, isEnd s p ∨ isEnd t p → C s t p → p = p0) : ¬ many s t := by
  unfold many; simp only [any4_iff]
  rintro ⟨p, hp, q, hq, hne, h1, h2⟩
  exact hne ((h p hp h1).trans (h q hq h2).symm)

/-- Two segments that are not on one line. -/
theorem free_kind (s t : Sg) (hs : ltP s.1 s.2) (ht : ltP t.1 t.2) (hnf : ¬ (crs s.1 s.2 t.1 = 0 ∧ crs s.1 s.2 t.2 = 0)) :
    (if 0 < ori s.1 s.2 t.1 * ori s.1 s.2 t.2 ∨ 0 < ori t.1 t.2 s.1 * ori t.1 t.2 s.2 then 0
  else if ori s.1 s.2 t.1 * ori s.1 s.2 t.2 < 0 ∧ ori t.1 t.2 s.1 * ori t.1 t.2 s.2 < 0 then 3
  else if ori s.1 s.2 t.1 * ori s.1 s.2 t.2 = 0 ∧ ori t.1 t.2 s.1 * ori t.1 t.2 s.2 = 0 then 1 else 2) = kindR s t := by
  have hsl : leP s.1 s.2 := by unfold ltP at hs; unfold leP; omega
  have htl : leP t.1 t.2 := by unfold ltP at ht; unfold leP; omega
  have htn : t.1 ≠ t.2 := fun e => by rw [e] at ht; unfold ltP at ht; omega
  have hne : ¬ sameS s t := fun h => hnf (by rw [← same_sorted hsl htl h]; exact ⟨crs_l _ _, crs_r _ _⟩)
  have hnf2 : ¬ (crs t.1 t.2 s.1 = 0 ∧ crs t.1 t.2 s.2 = 0) := fun ⟨h1, h2⟩ => hnf ⟨line_trans htn h1 h2 (crs_l _ _), line_trans htn h1 h2 (crs_r _ _)⟩
  have hnf' : ¬ (crs s.1 s.2 t.2 = 0 ∧ crs s.1 s.2 t.1 = 0) := fun h => hnf h.symm
  have hnf2' : ¬ (crs t.1 t.2 s.2 = 0 ∧ crs t.1 t.2 s.1 = 0) := fun h => hnf2 h.symm
  have ssn : ∀ x y : Int, ss (-x) (-y) ↔ ss x y := fun x y => by unfold ss; omega
  have ssc : ∀ x y : Int, ss x y ↔ ss y x := fun x y => by unfold ss; omega
  have o1 := own_on hsl
  have o2 := own_on htl
  have cD : C s t t.1 ↔ crs s.1 s.2 t.1 = 0 ∧ ¬ ss (crs t.1 t.2 s.1) (crs t.1 t.2 s.2) := by
    unfold C
    constructor
    · rintro ⟨h, _⟩; exact ⟨h.2, (on_cross hs h.2 hnf2).1 h⟩
    · rintro ⟨h1, h2⟩; exact ⟨(on_cross hs h1 hnf2).2 h2, o2.1⟩
  have cE : C s t t.2 ↔ crs s.1 s.2 t.2 = 0 ∧ ¬ ss (crs t.1 t.2 s.1) (crs t.1 t.2 s.2) := by
    have := fun h1 => on_cross (A := s.1) (B := s.2) (D := t.2) (E := t.1) hs h1 (by rw [crs_flip t.1 t.2 s.1, crs_flip t.1 t.2 s.2]; omega)
    rw [crs_flip t.1 t.2 s.1, crs_flip t.1 t.2 s.2, ssn] at this
    unfold C
    constructor
    · rintro ⟨h, _⟩; exact ⟨h.2, (this h.2).1 h⟩
    · rintro ⟨h1, h2⟩; exact ⟨(this h1).2 h2, o2.2⟩
  have cA : C s t s.1 ↔ crs t.1 t.2 s.1 = 0 ∧ ¬ ss (crs s.1 s.2 t.1) (crs s.1 s.2 t.2) := by
    unfold C
    constructor
    · rintro ⟨_, h⟩; exact ⟨h.2, (on_cross ht h.2 hnf).1 h⟩
    · rintro ⟨h1, h2⟩; exact ⟨o1.1, (on_cross ht h1 hnf).2 h2⟩
  have cB : C s t s.2 ↔ crs t.1 t.2 s.2 = 0 ∧ ¬ ss (crs s.1 s.2 t.1) (crs s.1 s.2 t.2) := by
    have := fun h1 => on_cross (A := t.1) (B := t.2) (D := s.2) (E := s.1) ht h1 (by rw [crs_flip s.1 s.2 t.1, crs_flip s.1 s.2 t.2]; omega)
    rw [crs_flip s.1 s.2 t.1, crs_flip s.1 s.2 t.2, ssn] at this
    unfold C
    constructor
    · rintro ⟨_, h⟩; exact ⟨h.2, (this h.2).1 h⟩
    · rintro ⟨h1, h2⟩; exact ⟨o1.2, (this h1).2 h2⟩
  have eAD : crs s.1 s.2 t.1 = 0 → crs t.1 t.2 s.1 = 0 → t.1 = s.1 := meet_pt hnf
  have eAE : crs s.1 s.2 t.2 = 0 → crs t.1 t.2 s.1 = 0 → t.2 = s.1 := fun h1 h2 => meet_pt hnf' h1 (by rw [crs_flip t.1 t.2 s.1]; omega)
  have eBD : crs s.1 s.2 t.1 = 0 → crs t.1 t.2 s.2 = 0 → t.1 = s.2 := fun h1 h2 => meet_pt (A := s.2) (B := s.1) (D := t.1) (E := t.2) (by rw [crs_flip s.1 s.2 t.1, crs_flip s.1 s.2 t.2]; omega) (by rw [crs_flip s.1 s.2 t.1]; omega) h2
  have eBE : crs s.1 s.2 t.2 = 0 → crs t.1 t.2 s.2 = 0 → t.2 = s.2 := fun h1 h2 => meet_pt (A := s.2) (B := s.1) (D := t.2) (E := t.1) (by rw [crs_flip s.1 s.2 t.1, crs_flip s.1 s.2 t.2]; omega) (by rw [crs_flip s.1 s.2 t.2]; omega) (by rw [crs_flip t.1 t.2 s.2]; omega)
  have fAD : t.1 = s.1 → crs t.1 t.2 s.1 = 0 := fun h => by rw [← h]; exact crs_l _ _
  have fBD : t.1 = s.2 → crs t.1 t.2 s.2 = 0 := fun h => by rw [← h]; exact crs_l _ _
  have fAE : t.2 = s.1 → crs t.1 t.2 s.1 = 0 := fun h => by rw [← h]; exact crs_r _ _
  have fBE : t.2 = s.2 → crs t.1 t.2 s.2 = 0 := fun h => by rw [← h]; exact crs_r _ _
  have gAD : t.1 = s.1 → crs s.1 s.2 t.1 = 0 := fun h => by rw [h]; exact crs_l _ _
  have gBD : t.1 = s.2 → crs s.1 s.2 t.1 = 0 := fun h => by rw [h]; exact crs_r _ _
  have gAE : t.2 = s.1 → crs s.1 s.2 t.2 = 0 := fun h => by rw [h]; exact crs_l _ _
  have gBE : t.2 = s.2 → crs s.1 s.2 t.2 = 0 := fun h => by rw [h]; exact crs_r _ _
  have hall : ∀ f : Pt → Prop, (∀ p, isEnd s p ∨ isEnd t p → f p) ↔ f s.1 ∧ f s.2 ∧ f t.1 ∧ f t.2 := fun f => by
    constructor
    · intro h; exact ⟨h _ (.inl (.inl rfl)), h _ (.inl (.inr rfl)), h _ (.inr (.inl rfl)), h _ (.inr (.inr rfl))⟩
    · rintro ⟨h1, h2, h3, h4⟩ p ((rfl | rfl) | (rfl | rfl)) <;> assumption
  unfold kindR
  rw [if_neg hne]
  have hx : crossing s t ↔ ori s.1 s.2 t.1 * ori s.1 s.2 t.2 < 0 ∧ ori t.1 t.2 s.1 * ori t.1 t.2 s.2 < 0 := Iff.rfl
  unfold ori at hx ⊢
  rw [sg_mul_opp, sg_mul_opp] at hx
  simp only [sg_mul_ss, sg_mul_opp, sg_mul_zero]
  generalize crs s.1 s.2 t.1 = a at *
  generalize crs s.1 s.2 t.2 = b at *
  generalize crs t.1 t.2 s.1 = c at *
  generalize crs t.1 t.2 s.2 = d at *
  clear hnf' hnf2' ssn ssc o1 o2 hs ht hsl htl htn hne
  have hab : a = 0 → b ≠ 0 := fun h h' => hnf ⟨h, h'⟩
  have hba : b = 0 → a ≠ 0 := fun h h' => hnf ⟨h', h⟩
  have hcd : c = 0 → d ≠ 0 := fun h h' => hnf2 ⟨h, h'⟩
  have hdc : d = 0 → c ≠ 0 := fun h h' => hnf2 ⟨h', h⟩
  by_cases h1 : ss a b ∨ ss c d
  · rw [if_pos h1]
    have hno : ∀ p, isEnd s p ∨ isEnd t p → ¬ C s t p := by
      rw [hall, cA, cB, cD, cE]
      rcases h1 with h1 | h1
      · have := ss_ne h1
        exact ⟨fun h => h.2 h1, fun h => h.2 h1, fun h => this.1 h.1, fun h => this.2 h.1⟩
      · have := ss_ne h1
        exact ⟨fun h => this.1 h.1, fun h => this.2 h.1, fun h => h.2 h1, fun h => h.2 h1⟩
    have hnx : ¬ crossing s t := by
      rw [hx]; rintro ⟨h2, h3⟩
      rcases h1 with h1 | h1
      · exact ss_opp h1 h2
      · exact ss_opp h1 h3
    rw [if_neg, if_neg, if_neg, if_neg hnx]
    · rw [any4_iff]; rintro ⟨p, hp, h⟩; exact hno p hp h
    · rw [any4_iff]; rintro ⟨p, hp, h, _⟩; exact hno p hp h
    · exact not_many (p0 := s.1) fun p hp h => absurd h (hno p hp)
  · rw [if_neg h1]
    have n1 : ¬ ss a b := fun h => h1 (.inl h)
    have n2 : ¬ ss c d := fun h => h1 (.inr h)
    by_cases h2 : opp a b ∧ opp c d
    · rw [if_pos h2]
      have hno : ∀ p, isEnd s p ∨ isEnd t p → ¬ C s t p := by
        have k1 := opp_ne h2.1
        have k2 := opp_ne h2.2
        rw [hall, cA, cB, cD, cE]
        exact ⟨fun h => k2.1 h.1, fun h => k2.2 h.1, fun h => k1.1 h.1, fun h => k1.2 h.1⟩
      rw [if_neg, if_neg, if_neg, if_pos (hx.2 h2)]
      · rw [any4_iff]; rintro ⟨p, hp, h⟩; exact hno p hp h
      · rw [any4_iff]; rintro ⟨p, hp, h, _⟩; exact hno p hp h
      · exact not_many (p0 := s.1) fun p hp h => absurd h (hno p hp)
    · rw [if_neg h2]
      by_cases h3 : (a = 0 ∨ b = 0) ∧ (c = 0 ∨ d = 0)
      · rw [if_pos h3]
        obtain ⟨p0, e1, e2, hc, hu⟩ : ∃ p0, isEnd s p0 ∧ isEnd t p0 ∧ C s t p0 ∧ ∀ p, isEnd s p ∨ isEnd t p → C s t p → p = p0 := by
          obtain ⟨ha | hb, hc | hd⟩ := h3
          · have e := eAD ha hc
            refine ⟨s.1, .inl rfl, .inl e.symm, cA.2 ⟨hc, n1⟩, ?_⟩
            rw [hall, cA, cB, cD, cE]
            exact ⟨fun _ => rfl, fun h => absurd h.1 (hcd hc), fun _ => e, fun h => absurd h.1 (hab ha)⟩
          · have e := eBD ha hd
            refine ⟨s.2, .inr rfl, .inl e.symm, cB.2 ⟨hd, n1⟩, ?_⟩
            rw [hall, cA, cB, cD, cE]
            exact ⟨fun h => absurd h.1 (hdc hd), fun _ => rfl, fun _ => e, fun h => absurd h.1 (hab ha)⟩
          · have e := eAE hb hc
            refine ⟨s.1, .inl rfl, .inr e.symm, cA.2 ⟨hc, n1⟩, ?_⟩
            rw [hall, cA, cB, cD, cE]
            exact ⟨fun _ => rfl, fun h => absurd h.1 (hcd hc), fun h => absurd h.1 (hba hb), fun _ => e⟩
          · have e := eBE hb hd
            refine ⟨s.2, .inr rfl, .inr e.symm, cB.2 ⟨hd, n1⟩, ?_⟩
            rw [hall, cA, cB, cD, cE]
            exact ⟨fun h => absurd h.1 (hdc hd), fun _ => rfl, fun h => absurd h.1 (hba hb), fun _ => e⟩
        rw [if_neg (not_many hu), if_pos]
        rw [any4_iff]; exact ⟨p0, .inl e1, hc, e1, e2⟩
      · rw [if_neg h3]
        obtain ⟨p0, hp0, he, hc, hu⟩ : ∃ p0, (isEnd s p0 ∨ isEnd t p0) ∧ ¬ (isEnd s p0 ∧ isEnd t p0) ∧ C s t p0 ∧ ∀ p, isEnd s p ∨ isEnd t p → C s t p → p = p0 := by
          have hz : a = 0 ∨ b = 0 ∨ c = 0 ∨ d = 0 := by
            rcases sign_cases a b with h | h | h | h
            · exact absurd h n1
            · rcases sign_cases c d with k | k | k | k
              · exact absurd k n2
              · exact absurd ⟨h, k⟩ h2
              · exact .inr (.inr (.inl k))
              · exact .inr (.inr (.inr k))
            · exact .inl h
            · exact .inr (.inl h)
          rcases hz with hz | hz | hz | hz
          · have kc : c ≠ 0 := fun h => h3 ⟨.inl hz, .inl h⟩
            have kd : d ≠ 0 := fun h => h3 ⟨.inl hz, .inr h⟩
            refine ⟨t.1, .inr (.inl rfl), fun ⟨h, _⟩ => ?_, cD.2 ⟨hz, n2⟩, ?_⟩
            · rcases h with h | h
              · exact kc (fAD h)
              · exact kd (fBD h)
            · rw [hall, cA, cB, cD, cE]
              exact ⟨fun h => absurd h.1 kc, fun h => absurd h.1 kd, fun _ => rfl, fun h => absurd h.1 (hab hz)⟩
          · have kc : c ≠ 0 := fun h => h3 ⟨.inr hz, .inl h⟩
            have kd : d ≠ 0 := fun h => h3 ⟨.inr hz, .inr h⟩
            refine ⟨t.2, .inr (.inr rfl), fun ⟨h, _⟩ => ?_, cE.2 ⟨hz, n2⟩, ?_⟩
            · rcases h with h | h
              · exact kc (fAE h)
              · exact kd (fBE h)
            · rw [hall, cA, cB, cD, cE]
              exact ⟨fun h => absurd h.1 kc, fun h => absurd h.1 kd, fun h => absurd h.1 (hba hz), fun _ => rfl⟩
          · have ka : a ≠ 0 := fun h => h3 ⟨.inl h, .inl hz⟩
            have kb : b ≠ 0 := fun h => h3 ⟨.inr h, .inl hz⟩
            refine ⟨s.1, .inl (.inl rfl), fun ⟨_, h⟩ => ?_, cA.2 ⟨hz, n1⟩, ?_⟩
            · rcases h with h | h
              · exact ka (gAD h.symm)
              · exact kb (gAE h.symm)
            · rw [hall, cA, cB, cD, cE]
              exact ⟨fun _ => rfl, fun h => absurd h.1 (hcd hz), fun h => absurd h.1 ka, fun h => absurd h.1 kb⟩
          · have ka : a ≠ 0 := fun h => h3 ⟨.inl h, .inr hz⟩
            have kb : b ≠ 0 := fun h => h3 ⟨.inr h, .inr hz⟩
            refine ⟨s.2, .inl (.inr rfl), fun ⟨_, h⟩ => ?_, cB.2 ⟨hz, n1⟩, ?_⟩
            · rcases h with h | h
              · exact ka (gBD h.symm)
              · exact kb (gBE h.symm)
            · rw [hall, cA, cB, cD, cE]
              exact ⟨fun h => absurd h.1 (hdc hz), fun _ => rfl, fun h => absurd h.1 ka, fun h => absurd h.1 kb⟩
        rw [if_neg (not_many hu), if_neg, if_pos]
        · rw [any4_iff]; exact ⟨p0, hp0, hc⟩
        · rw [any4_iff]; rintro ⟨p, hp, hc2, h4, h5⟩
          rw [hu p hp hc2] at h4 h5
          exact he ⟨h4, h5⟩

theorem online_comm_pt {s t : Sg} (h : t.1 = t.2) : online s t = online1 t s := by unfold online; rw [if_pos h]

/-- The program's way is the reference's. -/
theorem meetsS_eq (s t : Sg) (hs : leP s.1 s.2) (ht : leP t.1 t.2) : meetsS s t = kindR s t := by
  unfold meetsS
  by_cases e : s = t
  · rw [if_pos e, kindR, if_pos (.inl e)]
  rw [if_neg e]
  by_cases hf : flat s t
  · rw [if_pos hf]
    unfold online
    by_cases h1 : t.1 = t.2
    · rw [if_pos h1, point_kind t s h1 hs (fun h => e h.symm), kindR_comm]
    · rw [if_neg h1]
      by_cases h2 : s.1 = s.2
      · exact point_kind s t h2 ht e
      · rcases hf with h | h | ⟨h3, h4⟩
        · exact absurd h h2
        · exact absurd h h1
        · exact line_kind s t (lt_of_le_ne hs h2) (lt_of_le_ne ht h1) e (cmpI_zero.1 h3) (cmpI_zero.1 h4)
  · rw [if_neg hf]
    unfold flat ori at hf
    simp only [cmpI_zero] at hf
    exact free_kind s t (lt_of_le_ne hs fun h => hf (.inl h)) (lt_of_le_ne ht fun h => hf (.inr (.inl h))) fun h => hf (.inr (.inr h))
def meetsF (s t : Sg) : Int := meetsS (srt s) (srt t)
theorem meetsF_eq (s t : Sg) : meetsF s t = kindR s t := by
  unfold meetsF; rw [meetsS_eq _ _ (srt_le s) (srt_le t), kindR_srt]

theorem opp_sum {a b c d x y u v : Int} (h1 : opp a b) (h2 : opp c d) (hs : b - a + d - c = 0) (hx : 0 < x) (hy : 0 < y) (hu : u ≤ 0) (hv : v ≤ 0) : b * x - a * y + d * u - c * v ≠ 0 := by
  rcases h1 with ⟨ha, hb⟩ | ⟨ha, hb⟩
  · rcases h2 with ⟨hc, hd⟩ | ⟨hc, hd⟩
    · omega
    · have k1 := Int.mul_pos hb hx
      have k2 := Int.mul_pos (show 0 < -a by omega) hy
      have k3 := Int.mul_nonneg (show 0 ≤ -d by omega) (show 0 ≤ -u by omega)
      have k4 := Int.mul_nonneg (show 0 ≤ c by omega) (show 0 ≤ -v by omega)
      rw [Int.neg_mul] at k2
      rw [Int.neg_mul_neg] at k3
      rw [Int.mul_neg] at k4
      omega
  · rcases h2 with ⟨hc, hd⟩ | ⟨hc, hd⟩
    · have k1 := Int.mul_pos (show 0 < -b by omega) hx
      have k2 := Int.mul_pos (show 0 < a by omega) hy
      have k3 := Int.mul_nonneg (show 0 ≤ d by omega) (show 0 ≤ -u by omega)
      have k4 := Int.mul_nonneg (show 0 ≤ -c by omega) (show 0 ≤ -v by omega)
      rw [Int.neg_mul] at k1
      rw [Int.mul_neg] at k3
      rw [Int.neg_mul_neg] at k4
      omega
    · omega

theorem crossing_opp {s t : Sg} (h : crossing s t) : opp (crs s.1 s.2 t.1) (crs s.1 s.2 t.2) ∧ opp (crs t.1 t.2 s.1) (crs t.1 t.2 s.2) := by
  unfold crossing ori at h
  exact ⟨sg_mul_opp.1 h.1, sg_mul_opp.1 h.2⟩
theorem crs_sum (s t : Sg) : crs s.1 s.2 t.2 - crs s.1 s.2 t.1 + crs t.1 t.2 s.2 - crs t.1 t.2 s.1 = 0 := by unfold crs; grind
theorem crs_x (s t : Sg) (m : Int) : crs s.1 s.2 t.2 * (t.1.1 - m) - crs s.1 s.2 t.1 * (t.2.1 - m) + crs t.1 t.2 s.2 * (s.1.1 - m) - crs t.1 t.2 s.1 * (s.2.1 - m) = 0 := by unfold crs; grind
theorem crs_y (s t : Sg) (m : Int) : crs s.1 s.2 t.2 * (t.1.2 - m) - crs s.1 s.2 t.1 * (t.2.2 - m) + crs t.1 t.2 s.2 * (s.1.2 - m) - crs t.1 t.2 s.1 * (s.2.2 - m) = 0 := by unfold crs; grind

theorem kindR_none {s t : Sg} (h1 : ¬ sameS s t) (h2 : ∀ p, ¬ C s t p) (h3 : ¬ crossing s t) : kindR s t = 0 := by
  unfold kindR
  rw [if_neg h1, if_neg, if_neg, if_neg, if_neg h3]
  · rw [any4_iff]; rintro ⟨p, _, h⟩; exact h2 p h
  · rw [any4_iff]; rintro ⟨p, _, h, _⟩; exact h2 p h
  · exact not_many (p0 := s.1) fun p _ h => absurd h (h2 p)

theorem apart_x {s t : Sg} (h : max s.1.1 s.2.1 < min t.1.1 t.2.1) : kindR s t = 0 := by
  refine kindR_none ?_ ?_ ?_
  · rintro (e | ⟨e1, e2⟩)
    · subst e; omega
    · rw [e1, e2] at h; omega
  · rintro p ⟨h1, h2⟩
    have := h1.1; have := h2.1; omega
  · intro hc
    obtain ⟨h1, h2⟩ := crossing_opp hc
    exact opp_sum h1 h2 (crs_sum s t) (x := t.1.1 - max s.1.1 s.2.1) (y := t.2.1 - max s.1.1 s.2.1) (u := s.1.1 - max s.1.1 s.2.1) (v := s.2.1 - max s.1.1 s.2.1) (by omega) (by omega) (by omega) (by omega) (crs_x s t _)
theorem apart_y {s t : Sg} (h : max s.1.2 s.2.2 < min t.1.2 t.2.2) : kindR s t = 0 := by
  refine kindR_none ?_ ?_ ?_
  · rintro (e | ⟨e1, e2⟩)
    · subst e; omega
    · rw [e1, e2] at h; omega
  · rintro p ⟨h1, h2⟩
    have := h1.1; have := h2.1; omega
  · intro hc
    obtain ⟨h1, h2⟩ := crossing_opp hc
    exact opp_sum h1 h2 (crs_sum s t) (x := t.1.2 - max s.1.2 s.2.2) (y := t.2.2 - max s.1.2 s.2.2) (u := s.1.2 - max s.1.2 s.2.2) (v := s.2.2 - max s.1.2 s.2.2) (by omega) (by omega) (by omega) (by omega) (crs_y s t _)

/-! ### moving -/
def mv (v : Pt) (p : Pt) : Pt := (p.1 + v.1, p.2 + v.2)
def mvS (v : Pt) (s : Sg) : Sg := (mv v s.1, mv v s.2)
theorem crs_mv (v a b c : Pt) : crs (mv v a) (mv v b) (mv v c) = crs a b c := by unfold crs mv; grind
theorem cmpP_mv (v a b : Pt) : cmpP (mv v a) (mv v b) = cmpP a b := by
  unfold cmpP cmpI mv; simp
theorem mv_inj {v a b : Pt} : mv v a = mv v b ↔ a = b := by unfold mv; rw [pt_eq, pt_eq]; simp
theorem onB_mv (v : Pt) (s : Sg) (p : Pt) : onB (mvS v s) (mv v p) ↔ onB s p := by
  unfold onB mvS
  simp only [crs_mv]
  unfold mv
  simp only
  constructor
  · rintro ⟨h, h2⟩; exact ⟨by omega, h2⟩
  · rintro ⟨h, h2⟩; exact ⟨by omega, h2⟩
theorem kindR_mv (v : Pt) (s t : Sg) : kindR (mvS v s) (mvS v t) = kindR s t := by
  have hC : ∀ p, C (mvS v s) (mvS v t) (mv v p) ↔ C s t p := fun p => by unfold C; rw [onB_mv, onB_mv]
  have hE : ∀ (s : Sg) p, isEnd (mvS v s) (mv v p) ↔ isEnd s p := fun s p => by unfold isEnd mvS; simp only [mv_inj]
  have hA : ∀ f : Pt → Prop, any4 (mvS v s) (mvS v t) f ↔ any4 s t (fun p => f (mv v p)) := fun f => Iff.rfl
  unfold kindR many
  have h1 : sameS (mvS v s) (mvS v t) ↔ sameS s t := by
    unfold sameS mvS; simp only [mv_inj, Prod.ext_iff (x := (mv v s.1, _)), Prod.ext_iff (x := s)]
  have h5 : crossing (mvS v s) (mvS v t) ↔ crossing s t := by
    unfold crossing mvS ori; simp only [crs_mv]
  simp only [hA, hC, hE, h1, h5, ne_eq, mv_inj]
end Go.Geo
