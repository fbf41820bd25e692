/- Tokens of texts that are put together, in plain Lean. -/
import Derived.Test.YtjaffpnegdcjnaaGreatDoorRPd
set_option linter.unusedVariables false
set_option linter.unusedSimpArgs false
namespace Go.Proofs.YtjaffpnegdcjnaaGreatDoor
theorem takeWhile_app {p : UInt8 → Bool} {l r : Bys} (h : ∀ b ∈ l, p b = true) (hr : ∀ b, r.head? = some b → p b = false) : (l ++ r).takeWhile p = l ∧ (l ++ r).dropWhile p = r := by
  induction l with
  | nil =>
    cases r with
    | nil => exact ⟨rfl, rfl⟩
    | cons b r => have := hr b rfl; simp [this]
  | cons c l ih =>
    have h1 := ih fun b hb => h b (List.mem_cons_of_mem _ hb)
    have h2 := h c List.mem_cons_self
    simp only [List.cons_append, List.takeWhile_cons, List.dropWhile_cons, h2, if_true, h1.1, h1.2, and_self]
theorem u8_all {p : UInt8 → Bool} (h : (List.range 256).all (fun n => p (UInt8.ofNat n)) = true) (b : UInt8) : p b = true := by
  have := List.all_eq_true.1 h b.toNat (List.mem_range.2 b.toNat_lt)
  simpa using this
theorem cls (b : UInt8) : (!isSym b || (!isBlk b && b != 35 && !isLet b && !isDig b && b != 34 && !isWrd b)) = true := u8_all (p := fun b => !isSym b || (!isBlk b && b != 35 && !isLet b && !isDig b && b != 34 && !isWrd b)) (by decide +kernel) b
theorem clsL (b : UInt8) : (!isLet b || (!isBlk b && b != 35 && !isDig b && isWrd b)) = true := u8_all (p := fun b => !isLet b || (!isBlk b && b != 35 && !isDig b && isWrd b)) (by decide +kernel) b
theorem clsD (b : UInt8) : (!isDig b || (!isBlk b && b != 35 && !isLet b && isWrd b)) = true := u8_all (p := fun b => !isDig b || (!isBlk b && b != 35 && !isLet b && isWrd b)) (by decide +kernel) b
theorem isSym_cls {b : UInt8} (h : isSym b = true) : isBlk b = false ∧ (b == 35) = false ∧ isLet b = false ∧ isDig b = false ∧ (b == 34) = false ∧ isWrd b = false := by
  have := cls b
  rw [h] at this
  simp only [Bool.not_true, Bool.false_or, Bool.and_eq_true, Bool.not_eq_true', bne_iff_ne] at this
  obtain ⟨⟨⟨⟨⟨h1, h2⟩, h3⟩, h4⟩, h5⟩, h6⟩ := this
  exact ⟨h1, beq_false_of_ne h2, h3, h4, beq_false_of_ne h5, h6⟩
theorem isLet_cls {b : UInt8} (h : isLet b = true) : isBlk b = false ∧ (b == 35) = false ∧ isDig b = false ∧ isWrd b = true := by
  have := clsL b
  rw [h] at this
  simp only [Bool.not_true, Bool.false_or, Bool.and_eq_true, Bool.not_eq_true', bne_iff_ne] at this
  obtain ⟨⟨⟨h1, h2⟩, h3⟩, h4⟩ := this
  exact ⟨h1, beq_false_of_ne h2, h3, h4⟩
theorem isDig_cls {b : UInt8} (h : isDig b = true) : isBlk b = false ∧ (b == 35) = false ∧ isLet b = false ∧ isWrd b = true := by
  have := clsD b
  rw [h] at this
  simp only [Bool.not_true, Bool.false_or, Bool.and_eq_true, Bool.not_eq_true', bne_iff_ne] at this
  obtain ⟨⟨⟨h1, h2⟩, h3⟩, h4⟩ := this
  exact ⟨h1, beq_false_of_ne h2, h3, h4⟩
theorem one_blk {c : UInt8} {l : Bys} (h : isBlk c = true) : one c l = (0, [], 0, 0) := by unfold one; rw [if_pos h]
theorem one_sym {c : UInt8} {l : Bys} (h : isSym c = true) : one c l = (4, [c], 0, 0) := by
  obtain ⟨h1, h2, h3, h4, h5, _⟩ := isSym_cls h
  unfold one; simp only [h1, h2, h3, h4, h5, h, Bool.false_eq_true, if_false, if_true]
theorem one_let {c : UInt8} {l r : Bys} (h : isLet c = true) (hl : ∀ b ∈ l, isWrd b = true) (hr : ∀ b, r.head? = some b → isWrd b = false) (hn : l.length + 1 ≤ 24) : one c (l ++ r) = (1, c :: l, l.length, 0) := by
  obtain ⟨h1, h2, h3, h4⟩ := isLet_cls h
  obtain ⟨e1, _⟩ := takeWhile_app hl hr
  unfold one; simp only [h1, h2, h, e1, Bool.false_eq_true, if_false, if_true]
  rw [if_neg (by omega)]
theorem one_dig {c : UInt8} {l r : Bys} (h : isDig c = true) (hl : ∀ b ∈ l, isDig b = true) (hr : ∀ b, r.head? = some b → isWrd b = false) (hn : l.length + 1 ≤ 7) : one c (l ++ r) = (2, c :: l, l.length, 0) := by
  obtain ⟨h1, h2, h3, h4⟩ := isDig_cls h
  obtain ⟨e1, e2⟩ := takeWhile_app hl (r := r) (fun b hb => by
    have := hr b hb
    cases hd : isDig b with
    | false => rfl
    | true => rw [(isDig_cls hd).2.2.2] at this; cases this)
  unfold one; simp only [h1, h2, h3, h, e1, e2, Bool.false_eq_true, if_false, if_true]
  rw [if_neg]
  simp only [Bool.or_eq_true, decide_eq_true_eq, not_or]
  refine ⟨by omega, ?_⟩
  cases r with
  | nil => simp
  | cons d r => simp [hr d rfl]
/-- A token that can be written anew: no string. -/
def tokW {α : Type} (t : Tok α) : Prop :=
  (t.1 = 1 ∧ ∃ c l, t.2.1 = c :: l ∧ isLet c = true ∧ (∀ b ∈ l, isWrd b = true) ∧ l.length + 1 ≤ 24) ∨ (t.1 = 2 ∧ ∃ c l, t.2.1 = c :: l ∧ isDig c = true ∧ (∀ b ∈ l, isDig b = true) ∧ l.length + 1 ≤ 7) ∨ (t.1 = 4 ∧ ∃ c, t.2.1 = [c] ∧ isSym c = true)
theorem lexL_blk {c : UInt8} {l : Bys} (h : isBlk c = true) (a : Int) : lexL (c :: l) a = lexL l (a + 1) := by
  rw [lexL_cons, one_blk h]; simp
theorem lexL_tok {α : Type} {t : Tok α} (h : tokW t) {r : Bys} (hr : t.1 ≠ 4 → ∀ b, r.head? = some b → isWrd b = false) (a : Int) : lexL (t.2.1 ++ r) a = ((t.1, t.2.1, a), 0) :: lexL r (a + t.2.1.length) := by
  rcases h with ⟨hk, c, l, ht, hc, hl, hn⟩ | ⟨hk, c, l, ht, hc, hl, hn⟩ | ⟨hk, c, ht, hc⟩
  · rw [ht, List.cons_append, lexL_cons, one_let hc hl (hr (by omega)) hn, hk]
    simp only [bne_self_eq_false, Bool.false_eq_true, if_false, List.length_cons]
    rw [if_neg (by decide)]
    have : (l ++ r).drop l.length = r := by simp
    rw [this, show a + 1 + (l.length : Int) = a + ((l.length + 1 : Nat) : Int) by omega]
  · rw [ht, List.cons_append, lexL_cons, one_dig hc hl (hr (by omega)) hn, hk]
    simp only [bne_self_eq_false, Bool.false_eq_true, if_false, List.length_cons]
    rw [if_neg (by decide)]
    have : (l ++ r).drop l.length = r := by simp
    rw [this, show a + 1 + (l.length : Int) = a + ((l.length + 1 : Nat) : Int) by omega]
  · rw [ht, List.cons_append, lexL_cons, one_sym hc, hk]
    simp
theorem one_w {c : UInt8} {l : Bys} (h : (one c l).2.2.2 = 0) (hk : (one c l).1 ≠ 0) (hs : (one c l).1 ≠ 3) (a : Int) : tokW ((one c l).1, (one c l).2.1, a) := by
  unfold one at *
  split at h
  · rename_i h1; rw [if_pos h1] at hk; exact absurd rfl hk
  rename_i h1; rw [if_neg h1] at hk hs ⊢
  split at h
  · rename_i h2; rw [if_pos h2] at hk; exact absurd rfl hk
  rename_i h2; rw [if_neg h2] at hk hs ⊢
  split at h
  · rename_i h3; rw [if_pos h3]
    refine .inl ⟨rfl, c, _, rfl, h3, fun b hb => mem_takeWhile hb, ?_⟩
    simp only at h
    split at h
    · cases h
    · omega
  rename_i h3; rw [if_neg h3] at hk hs ⊢
  split at h
  · rename_i h4
    rw [if_pos h4]
    by_cases h5 : (l.takeWhile isDig).length + 1 > 7
    · simp only at h
      rw [if_pos (by simp [h5])] at h; cases h
    · exact .inr (.inl ⟨rfl, c, _, rfl, h4, fun b hb => mem_takeWhile hb, by omega⟩)
  rename_i h4; rw [if_neg h4] at hk hs ⊢
  split at h
  · rename_i h5; rw [if_pos h5] at hk hs ⊢
    cases hq : strL l with
    | none => rw [hq] at hk; exact absurd rfl hk
    | some r => rw [hq] at hs; exact absurd rfl hs
  rename_i h5; rw [if_neg h5] at hk hs ⊢
  split at h
  · rename_i h6; rw [if_pos h6]; exact .inr (.inr ⟨rfl, c, rfl, h6⟩)
  · cases h
theorem lexL_w : ∀ (n : Nat) (l : Bys) (a : Int), l.length ≤ n → ∀ x ∈ lexL l a, x.2 = 0 → x.1.1 ≠ 3 → tokW x.1 := by
  intro n
  induction n with
  | zero => intro l a h; have : l = [] := by cases l with | nil => rfl | cons => simp at h
            subst this; intro x hx; cases hx
  | succ n ih =>
    intro l a h x hx h0 h3
    cases l with
    | nil => cases hx
    | cons c l =>
      simp only [List.length_cons] at h
      rw [lexL_cons] at hx
      split at hx
      · rename_i he
        simp only [List.mem_singleton] at hx
        subst hx
        simp only at h0
        rw [h0] at he; cases he
      · rename_i he
        split at hx
        · exact ih _ _ (by simp; omega) x hx h0 h3
        · rename_i hk
          rcases List.mem_cons.1 hx with rfl | hx
          · exact one_w (by simpa using he) (by simpa using hk) h3 a
          · exact ih _ _ (by simp; omega) x hx h0 h3
/-- The offsets of the tokens increase. -/
theorem lexL_inc : ∀ (n : Nat) (l : Bys) (a : Int), l.length ≤ n → ((lexL l a).Pairwise fun x y => x.1.2.2 < y.1.2.2) ∧ ∀ x ∈ lexL l a, a ≤ x.1.2.2 ∧ x.1.2.2 < a + l.length := by
  intro n
  induction n with
  | zero => intro l a h; have : l = [] := by cases l with | nil => rfl | cons => simp at h
            subst this; exact ⟨.nil, fun x hx => by cases hx⟩
  | succ n ih =>
    intro l a h
    cases l with
    | nil => exact ⟨.nil, fun x hx => by cases hx⟩
    | cons c l =>
      simp only [List.length_cons] at h ⊢
      rw [lexL_cons]
      have ih2 : ∀ k, ∀ x ∈ lexL (l.drop k) (a + 1 + k), a + 1 ≤ x.1.2.2 ∧ x.1.2.2 < a + ((l.length + 1 : Nat) : Int) := fun k x hx => by
        by_cases hk : k ≤ l.length
        · have := (ih (l.drop k) (a + 1 + k) (by simp; omega)).2 x hx
          rw [List.length_drop] at this
          omega
        · rw [List.drop_of_length_le (by omega)] at hx; cases hx
      split
      · exact ⟨List.pairwise_singleton _ _, fun x hx => by rw [List.mem_singleton] at hx; subst hx; simp only; omega⟩
      · split
        · exact ⟨(ih _ _ (by simp; omega)).1, fun x hx => by have := ih2 _ x hx; omega⟩
        · refine ⟨List.pairwise_cons.2 ⟨fun y hy => by have := ih2 _ y hy; simp only; omega, (ih _ _ (by simp; omega)).1⟩, fun x hx => ?_⟩
          rcases List.mem_cons.1 hx with rfl | hx
          · simp only; omega
          · have := ih2 _ x hx; omega
def sh (k : Int) (x : Tok Int × Int) : Tok Int × Int := ((x.1.1, x.1.2.1, x.1.2.2 + k), x.2)
theorem lexL_sh : ∀ (n : Nat) (l : Bys) (a k : Int), l.length ≤ n → lexL l (a + k) = (lexL l a).map (sh k) := by
  intro n
  induction n with
  | zero => intro l a k h; have : l = [] := by cases l with | nil => rfl | cons => simp at h
            subst this; rfl
  | succ n ih =>
    intro l a k h
    cases l with
    | nil => rfl
    | cons c l =>
      simp only [List.length_cons] at h
      rw [lexL_cons, lexL_cons]
      have := ih (l.drop (one c l).2.2.1) (a + 1 + (one c l).2.2.1) k (by simp; omega)
      rw [show a + k + 1 + ((one c l).2.2.1 : Int) = a + 1 + (one c l).2.2.1 + k by omega, this]
      split
      · rfl
      · split
        · rfl
        · rfl
theorem strL_app : ∀ (n : Nat) (l r : Bys), l.length ≤ n → ∀ {s : Bys} {k : Nat}, strL l = some (s, k) → strL (l ++ r) = some (s, k) ∧ k ≤ l.length := by
  intro n
  induction n with
  | zero => intro l r h s k hs; have : l = [] := by cases l with | nil => rfl | cons => simp at h
            subst this; cases hs
  | succ n ih =>
    intro l r h s k hs
    cases l with
    | nil => cases hs
    | cons c l =>
      simp only [List.length_cons, List.cons_append] at h ⊢
      unfold strL at hs ⊢
      split at hs
      · rename_i h1; rw [if_pos h1]; cases hs; exact ⟨rfl, by omega⟩
      rename_i h1; rw [if_neg h1]
      split at hs
      · cases hs
      rename_i h2; rw [if_neg h2]
      split at hs
      · rename_i h3; rw [if_pos h3]
        cases l with
        | nil => cases hs
        | cons d l =>
          simp only [List.cons_append] at hs ⊢
          split at hs
          · rename_i h4; rw [if_pos h4]
            cases hq : strL l with
            | none => rw [hq] at hs; cases hs
            | some q =>
              obtain ⟨s1, k1⟩ := q
              rw [hq] at hs
              obtain ⟨e, e2⟩ := ih l r (by simp only [List.length_cons] at h; omega) hq
              rw [e]
              cases hs
              exact ⟨rfl, by simp only [List.length_cons]; omega⟩
          · cases hs
      · rename_i h3; rw [if_neg h3]
        cases hq : strL l with
        | none => rw [hq] at hs; cases hs
        | some q =>
          obtain ⟨s1, k1⟩ := q
          rw [hq] at hs
          obtain ⟨e, e2⟩ := ih l r (by omega) hq
          rw [e]
          cases hs
          exact ⟨rfl, by omega⟩
theorem takeWhile_nl {p : UInt8 → Bool} (hp : p 10 = false) (l r : Bys) : (l ++ 10 :: r).takeWhile p = l.takeWhile p ∧ (l ++ 10 :: r).dropWhile p = l.dropWhile p ++ 10 :: r := by
  induction l with
  | nil => simp [hp]
  | cons c l ih =>
    simp only [List.cons_append, List.takeWhile_cons, List.dropWhile_cons]
    split
    · exact ⟨by rw [ih.1], ih.2⟩
    · exact ⟨rfl, rfl⟩
theorem takeWhile_len (p : UInt8 → Bool) (l : Bys) : (l.takeWhile p).length ≤ l.length := by
  induction l with
  | nil => simp
  | cons c l ih => rw [List.takeWhile_cons]; split <;> simp; omega
theorem one_nl {c : UInt8} {l : Bys} (h : (one c l).2.2.2 = 0) (r : Bys) : one c (l ++ 10 :: r) = one c l ∧ (one c l).2.2.1 ≤ l.length := by
  have hw := takeWhile_nl (p := isWrd) (by decide) l r
  have hd := takeWhile_nl (p := isDig) (by decide) l r
  have hh := takeWhile_nl (p := (· != 10)) (by decide) l r
  unfold one at *
  rw [hw.1, hd.1, hd.2, hh.1]
  split
  · exact ⟨rfl, Nat.zero_le _⟩
  rename_i h1; rw [if_neg h1] at h
  split
  · exact ⟨rfl, takeWhile_len _ _⟩
  rename_i h2; rw [if_neg h2] at h
  split
  · exact ⟨rfl, takeWhile_len _ _⟩
  rename_i h3; rw [if_neg h3] at h
  split
  · refine ⟨?_, takeWhile_len _ _⟩
    cases hq : l.dropWhile isDig with
    | nil => simp [isWrd, isLet, isDig]
    | cons d q => rfl
  rename_i h4; rw [if_neg h4] at h
  split
  · rename_i h5; rw [if_pos h5] at h
    cases hq : strL l with
    | none => rw [hq] at h; cases h
    | some q =>
      obtain ⟨s, k⟩ := q
      obtain ⟨e, e2⟩ := strL_app _ l (10 :: r) (Nat.le_refl _) hq
      rw [e]; exact ⟨rfl, e2⟩
  rename_i h5; rw [if_neg h5] at h
  split
  · exact ⟨rfl, by simp⟩
  · rename_i h6; rw [if_neg h6] at h; cases h
/-- A text without an error, and a further one behind a line feed. -/
theorem lexL_app : ∀ (n : Nat) (l : Bys) (a : Int) (r : Bys), l.length ≤ n → errOf (lexL l a) = none → lexL (l ++ 10 :: r) a = lexL l a ++ lexL r (a + l.length + 1) := by
  intro n
  induction n with
  | zero => intro l a r h _; have : l = [] := by cases l with | nil => rfl | cons => simp at h
            subst this
            rw [List.nil_append, lexL_blk (by decide)]; simp [lexL_nil]
  | succ n ih =>
    intro l a r h he
    cases l with
    | nil => rw [List.nil_append, lexL_blk (by decide)]; simp [lexL_nil]
    | cons c l =>
      simp only [List.length_cons, List.cons_append] at h ⊢
      rw [lexL_cons] at he ⊢
      rw [lexL_cons]
      split at he
      · rename_i h1
        unfold errOf at he
        rw [if_pos (by simpa using h1)] at he; cases he
      · rename_i h1
        have h0 : (one c l).2.2.2 = 0 := by simpa using h1
        obtain ⟨e, e2⟩ := one_nl h0 r
        rw [e, if_neg h1]
        have hdr : (l ++ 10 :: r).drop (one c l).2.2.1 = l.drop (one c l).2.2.1 ++ 10 :: r := List.drop_append_of_le_length e2
        have hl : a + 1 + ((one c l).2.2.1 : Int) + ((l.drop (one c l).2.2.1).length : Int) + 1 = a + ((l.length + 1 : Nat) : Int) + 1 := by rw [List.length_drop]; omega
        split at he
        · rename_i h2
          rw [if_pos h2, if_pos h2, hdr, if_neg h1, ih _ _ r (by simp; omega) he, hl]
        · rename_i h2
          unfold errOf at he
          rw [if_neg (by simp)] at he
          rw [if_neg h2, if_neg h2, hdr, if_neg h1, ih _ _ r (by simp; omega) he, hl]
          rfl
end Go.Proofs.YtjaffpnegdcjnaaGreatDoor
