/- The canonical text of spans, and what it is read as, in plain Lean. -/
import Derived.Test.YtjaffpnegdcjnaaGreatDoorSPe
set_option linter.unusedVariables false
set_option linter.unusedSimpArgs false
namespace Go.Proofs.YtjaffpnegdcjnaaGreatDoor
def dg (n : Nat) : UInt8 := UInt8.ofNat (48 + n)
def decS (n : Nat) : Bys := if n < 10 then [dg n] else [dg (n / 10), dg (n % 10)]
def dec2 (n : Nat) : Bys := [dg (n / 10), dg (n % 10)]
/-- The clock of a minute of the day. -/
def clk (m : Int) : Bys := decS (m / 60).toNat ++ 58 :: dec2 (m % 60).toNat
/-- The days of some minutes, with the minutes of the day. -/
def pcsF : Nat → Int → Int → List (Int × Int × Int)
  | 0, _, _ => []
  | n + 1, f, t => if f < t then (f / 1440, f - f / 1440 * 1440, min t ((f / 1440 + 1) * 1440) - f / 1440 * 1440) :: pcsF n (min t ((f / 1440 + 1) * 1440)) t else []
def pcs (s : Sp) : List (Int × Int × Int) := pcsF 8 s.1 s.2
def dayT (d : Int) : Bys := days.getD d.toNat []
def pcT (p : Int × Int × Int) : Bys := dayT p.1 ++ 32 :: (clk p.2.1 ++ 45 :: clk p.2.2)
def joinC : List Bys → Bys
  | [] => []
  | [x] => x
  | x :: y :: l => x ++ 44 :: 32 :: joinC (y :: l)
def textC (l : List Sp) : Bys := match l with
  | [] => never
  | s :: _ => if s == (0, 10080) then always else joinC ((l.flatMap pcs).map pcT)
/-- hours.Text: the text and the error. -/
def textR (l : List Sp) : Bys × Int := if vl (-1) l = false then ([], 1) else if l.length > 60 then ([], 2) else (textC l, 0)
def pcOK (p : Int × Int × Int) : Prop := 0 ≤ p.1 ∧ p.1 < 7 ∧ 0 ≤ p.2.1 ∧ p.2.1 < p.2.2 ∧ p.2.2 ≤ 1440
theorem pcsF_ok : ∀ (n : Nat) {f t : Int}, 0 ≤ f → t ≤ 10080 → ∀ p ∈ pcsF n f t, pcOK p := by
  intro n
  induction n with
  | zero => intro f t _ _ p hp; cases hp
  | succ n ih =>
    intro f t h0 h1 p hp
    unfold pcsF at hp
    split at hp
    · rcases List.mem_cons.1 hp with rfl | hp
      · unfold pcOK; simp only; omega
      · exact ih (by omega) h1 p hp
    · cases hp
theorem pcs_ok {l : List Sp} (hw : wk l) : ∀ p ∈ l.flatMap pcs, pcOK p := by
  intro p hp
  obtain ⟨s, hs, hp⟩ := List.mem_flatMap.1 hp
  obtain ⟨h0, h1, h2⟩ := hw s hs
  exact pcsF_ok 8 h0 h2 p hp
theorem errOf_none : ∀ (l : List (Tok Int × Int)), errOf l = none ↔ ∀ x ∈ l, x.2 = 0 := by
  intro l
  induction l with
  | nil => exact ⟨(fun _ x hx => by cases hx), fun _ => rfl⟩
  | cons x l ih =>
    unfold errOf
    by_cases h : x.2 = 0
    · rw [if_neg (by simp [h]), ih]
      exact ⟨fun k y hy => by rcases List.mem_cons.1 hy with rfl | hy; exact h; exact k y hy, fun k y hy => k y (List.mem_cons_of_mem _ hy)⟩
    · rw [if_pos (by simpa using h)]
      exact ⟨(fun k => by cases k), fun k => absurd (k x List.mem_cons_self) h⟩
end Go.Proofs.YtjaffpnegdcjnaaGreatDoor
