/- Tokens of a text in plain Lean. -/
import Derived.Test.YtjaffpnegdcjnaaGreatDoorSPa
set_option linter.unusedVariables false
set_option linter.unusedSimpArgs false
namespace Go.Proofs.YtjaffpnegdcjnaaGreatDoor
abbrev Bys := List UInt8
def isLet (b : UInt8) : Bool := (97 ≤ b && b ≤ 122) || (65 ≤ b && b ≤ 90)
def isDig (b : UInt8) : Bool := 48 ≤ b && b ≤ 57
def isWrd (b : UInt8) : Bool := isLet b || isDig b || b == 95
def isBlk (b : UInt8) : Bool := b == 32 || b == 9 || b == 10
def symL : Bys := [59, 44, 46, 58, 40, 41, 123, 125, 91, 93, 61, 60, 62, 47, 45]
def isSym (b : UInt8) : Bool := symL.contains b
/-- A token: kind, text, offset. -/
abbrev Tok (α : Type) := Int × Bys × α
/-- What a string stands for, and how many bytes it takes behind the first quote. -/
def strL : Bys → Option (Bys × Nat)
  | [] => none
  | c :: l =>
    if c == 34 then some ([], 1)
    else if c == 10 then none
    else if c == 92 then
      match l with
      | [] => none
      | d :: l => if d == 92 || d == 34 || d == 110 then (strL l).map fun r => ((if d == 110 then 10 else d) :: r.1, r.2 + 2) else none
    else (strL l).map fun r => (c :: r.1, r.2 + 1)
/-- What begins at a byte: the kind (0: a gap), the text, how many bytes behind the first, an error. -/
def one (c : UInt8) (l : Bys) : Int × Bys × Nat × Int :=
  if isBlk c then (0, [], 0, 0)
  else if c == 35 then (0, [], (l.takeWhile (· != 10)).length, 0)
  else if isLet c then (1, c :: l.takeWhile isWrd, (l.takeWhile isWrd).length, if (l.takeWhile isWrd).length + 1 > 24 then 2 else 0)
  else if isDig c then (2, c :: l.takeWhile isDig, (l.takeWhile isDig).length, if (l.takeWhile isDig).length + 1 > 7 || (match (l.dropWhile isDig) with | d :: _ => isWrd d | [] => false) then 4 else 0)
  else if c == 34 then (match strL l with | some (s, k) => (3, s, k, 0) | none => (0, [], 0, 3))
  else if isSym c then (4, [c], 0, 0)
  else (0, [], 0, 3)
/-- The tokens, each with its error (0: none; the last one alone can have one). -/
def lexF : Nat → Bys → Int → List (Tok Int × Int)
  | 0, _, _ => []
  | _ + 1, [], _ => []
  | n + 1, c :: l, at_ =>
    match one c l with
    | (k, s, m, e) =>
      if e != 0 then [((k, s, at_), e)]
      else if k == 0 then lexF n (l.drop m) (at_ + 1 + m)
      else ((k, s, at_), 0) :: lexF n (l.drop m) (at_ + 1 + m)
def lexL (l : Bys) (at_ : Int) : List (Tok Int × Int) := lexF l.length l at_
theorem lexF_fuel : ∀ (n : Nat) (l : Bys) (a : Int), l.length ≤ n → lexF n l a = lexL l a := by
  have main : ∀ (n m : Nat) (l : Bys) (a : Int), l.length ≤ n → l.length ≤ m → lexF n l a = lexF m l a := by
    intro n
    induction n with
    | zero =>
      intro m l a h _
      have : l = [] := by cases l with | nil => rfl | cons => simp at h
      subst this
      cases m <;> rfl
    | succ n ih =>
      intro m l a h h2
      cases l with
      | nil => cases m <;> rfl
      | cons c l =>
        cases m with
        | zero => simp at h2
        | succ m =>
          simp only [List.length_cons] at h h2
          unfold lexF
          have hd : ∀ k, (l.drop k).length ≤ l.length := fun k => by simp
          split
          split
          · rfl
          · split
            · exact ih m _ _ (Nat.le_trans (hd _) (by omega)) (Nat.le_trans (hd _) (by omega))
            · rw [ih m _ _ (Nat.le_trans (hd _) (by omega)) (Nat.le_trans (hd _) (by omega))]
  intro n l a h
  exact main n l.length l a h (Nat.le_refl _)
theorem lexL_nil (a : Int) : lexL [] a = [] := rfl
theorem lexL_cons (c : UInt8) (l : Bys) (a : Int) : lexL (c :: l) a =
    if (one c l).2.2.2 != 0 then [(((one c l).1, (one c l).2.1, a), (one c l).2.2.2)]
    else if (one c l).1 == 0 then lexL (l.drop (one c l).2.2.1) (a + 1 + (one c l).2.2.1)
    else (((one c l).1, (one c l).2.1, a), 0) :: lexL (l.drop (one c l).2.2.1) (a + 1 + (one c l).2.2.1) := by
  show lexF (l.length + 1) (c :: l) a = _
  rw [lexF]
  have : ∀ k, lexF l.length (l.drop k) (a + 1 + k) = lexL (l.drop k) (a + 1 + k) := fun k => lexF_fuel _ _ _ (by simp)
  rw [← this]
/-- The first error, with its offset. -/
def errOf : List (Tok Int × Int) → Option (Int × Int)
  | [] => none
  | x :: l => if x.2 != 0 then some (x.2, x.1.2.2) else errOf l
/-- lexer.Lex: the tokens, or the error. -/
def lexP (l : Bys) : Except (Int × Int) (List (Tok Int)) := match errOf (lexL l 0) with | some e => .error e | none => .ok ((lexL l 0).map (·.1))
theorem lexL_len : ∀ (n : Nat) (l : Bys) (a : Int), l.length ≤ n → (lexL l a).length ≤ l.length := by
  intro n
  induction n with
  | zero => intro l a h; have : l = [] := by cases l with | nil => rfl | cons => simp at h
            subst this; simp [lexL_nil]
  | succ n ih =>
    intro l a h
    cases l with
    | nil => simp [lexL_nil]
    | cons c l =>
      simp only [List.length_cons] at h
      rw [lexL_cons]
      have := fun k b => ih (l.drop k) b (by simp; omega)
      split
      · simp
      · split
        · refine Nat.le_trans (this _ _) ?_; simp; omega
        · simp only [List.length_cons]
          have := this (one c l).2.2.1 (a + 1 + (one c l).2.2.1)
          rw [List.length_drop] at this
          omega
/-- A token as the lexer makes it. -/
def tokOK {α : Type} (t : Tok α) : Prop :=
  (t.1 = 1 ∧ (∃ c l, t.2.1 = c :: l ∧ isLet c = true)) ∨ (t.1 = 2 ∧ t.2.1 ≠ [] ∧ t.2.1.length ≤ 7 ∧ ∀ b ∈ t.2.1, isDig b = true) ∨ t.1 = 3 ∨ (t.1 = 4 ∧ ∃ c, t.2.1 = [c] ∧ isSym c = true)
theorem mem_takeWhile {p : UInt8 → Bool} {l : Bys} {b : UInt8} (h : b ∈ l.takeWhile p) : p b = true := by
  induction l with
  | nil => cases h
  | cons c l ih =>
    rw [List.takeWhile_cons] at h
    split at h
    · rename_i hc
      rcases List.mem_cons.1 h with rfl | h
      · exact hc
      · exact ih h
    · cases h
theorem one_ok {c : UInt8} {l : Bys} (h : (one c l).2.2.2 = 0) (hk : (one c l).1 ≠ 0) (a : Int) : tokOK ((one c l).1, (one c l).2.1, a) := by
  unfold one at *
  split at h
  · rename_i h1; rw [if_pos h1] at hk; exact absurd rfl hk
  rename_i h1; rw [if_neg h1] at hk ⊢
  split at h
  · rename_i h2; rw [if_pos h2] at hk; exact absurd rfl hk
  rename_i h2; rw [if_neg h2] at hk ⊢
  split at h
  · rename_i h3; rw [if_pos h3]; exact .inl ⟨rfl, c, _, rfl, h3⟩
  rename_i h3; rw [if_neg h3] at hk ⊢
  split at h
  · rename_i h4
    rw [if_pos h4]
    by_cases h5 : (l.takeWhile isDig).length + 1 > 7
    · simp only at h
      rw [if_pos (by simp [h5])] at h; cases h
    · refine .inr (.inl ⟨rfl, by simp, by simp only [List.length_cons]; omega, fun b hb => ?_⟩)
      rcases List.mem_cons.1 hb with rfl | hb
      · exact h4
      · exact mem_takeWhile hb
  rename_i h4; rw [if_neg h4] at hk ⊢
  split at h
  · rename_i h5; rw [if_pos h5] at hk ⊢
    cases hs : strL l with
    | none => rw [hs] at hk; exact absurd rfl hk
    | some r => obtain ⟨s, k⟩ := r; exact .inr (.inr (.inl rfl))
  rename_i h5; rw [if_neg h5] at hk ⊢
  split at h
  · rename_i h6; rw [if_pos h6]; exact .inr (.inr (.inr ⟨rfl, c, rfl, h6⟩))
  · cases h
theorem lexL_ok : ∀ (n : Nat) (l : Bys) (a : Int), l.length ≤ n → ∀ x ∈ lexL l a, x.2 = 0 → tokOK x.1 ∧ a ≤ x.1.2.2 ∧ x.1.2.2 < a + l.length := by
  intro n
  induction n with
  | zero => intro l a h; have : l = [] := by cases l with | nil => rfl | cons => simp at h
            subst this; intro x hx; cases hx
  | succ n ih =>
    intro l a h x hx h0
    cases l with
    | nil => cases hx
    | cons c l =>
      simp only [List.length_cons] at h ⊢
      rw [lexL_cons] at hx
      have ih2 : ∀ k, x ∈ lexL (l.drop k) (a + 1 + k) → tokOK x.1 ∧ a ≤ x.1.2.2 ∧ x.1.2.2 < a + ((l.length + 1 : Nat) : Int) := fun k hx => by
        by_cases hk : k ≤ l.length
        · obtain ⟨h1, h2, h3⟩ := ih (l.drop k) _ (by simp; omega) x hx h0
          rw [List.length_drop] at h3
          exact ⟨h1, by omega, by omega⟩
        · rw [List.drop_of_length_le (by omega)] at hx; cases hx
      split at hx
      · rename_i he
        simp only [List.mem_singleton] at hx
        subst hx
        simp only at h0
        rw [h0] at he; cases he
      · rename_i he
        split at hx
        · exact ih2 _ hx
        · rename_i hk
          rcases List.mem_cons.1 hx with rfl | hx
          · refine ⟨one_ok (by simpa using he) (by simpa using hk) a, by simp only; omega, by simp only; omega⟩
          · exact ih2 _ hx
end Go.Proofs.YtjaffpnegdcjnaaGreatDoor
