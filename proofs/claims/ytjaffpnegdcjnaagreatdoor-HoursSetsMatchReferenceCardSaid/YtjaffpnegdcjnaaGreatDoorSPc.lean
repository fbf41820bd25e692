/- Reading hours in plain Lean, over whatever offsets. -/
import Derived.Test.YtjaffpnegdcjnaaGreatDoorSPb
set_option linter.unusedVariables false
set_option linter.unusedSimpArgs false
namespace Go.Proofs.YtjaffpnegdcjnaaGreatDoor
section
variable {α : Type}
abbrev Res (α β : Type) := Except (Int × α) β
def sees (k : Int) (xs : List Bys) : List (Tok α) → Bool
  | [] => false
  | t :: _ => t.1 == k && (xs.isEmpty || xs.contains t.2.1)
def take (en : α) (k : Int) (xs : List Bys) (ts : List (Tok α)) : Res α (Tok α × List (Tok α)) :=
  match ts with
  | [] => .error (6, en)
  | t :: l => if sees k xs (t :: l) then .ok (t, l) else .error (5, t.2.2)
def numT (t : Bys) : Int := t.foldl (fun n b => 10 * n + ((b.toNat : Int) - 48)) 0
def cColon : Bys := [58]
def cDash : Bys := [45]
def cComma : Bys := [44]
def days : List Bys := [[109, 111], [116, 117], [119, 101], [116, 104], [102, 114], [115, 97], [115, 117]]
def always : Bys := [97, 108, 119, 97, 121, 115]
def never : Bys := [110, 101, 118, 101, 114]
def clock (en : α) (most : Int) (ts : List (Tok α)) : Res α ((Int × α) × List (Tok α)) :=
  match take en 2 [] ts with
  | .error e => .error e
  | .ok (h, ts) =>
    if numT h.2.1 > most then .error (10, h.2.2)
    else match take en 4 [cColon] ts with
      | .error e => .error e
      | .ok (_, ts) => match take en 2 [] ts with
        | .error e => .error e
        | .ok (m, ts) =>
          if m.2.1.length != 2 || numT m.2.1 > 59 || (numT h.2.1 == 24 && numT m.2.1 > 0) then .error (10, m.2.2)
          else .ok ((60 * numT h.2.1 + numT m.2.1, h.2.2), ts)
/-- The spans of some minutes, which may go on in the next week. -/
def addL (f t : Int) : List Sp := if t > 10080 then [(f, min t 10080), (0, t - 10080)] else [(f, min t 10080)]
/-- The spans of a time on days from a first one on. -/
def dayL (f n a b : Int) : List Sp := (List.range n.toNat).flatMap fun (i : Nat) => addL ((f + (i : Int)).tmod 7 * 1440 + a) ((f + (i : Int)).tmod 7 * 1440 + b)
/-- One time of some days. -/
def time (en : α) (f t : Int) (ts : List (Tok α)) : Res α (List Sp × List (Tok α)) :=
  match clock en 23 ts with
  | .error e => .error e
  | .ok ((a, _), ts) => match take en 4 [cDash] ts with
    | .error e => .error e
    | .ok (_, ts) => match clock en 24 ts with
      | .error e => .error e
      | .ok ((b, at_), ts) =>
        if a == b then .error (10, at_) else .ok (dayL f ((t - f + 7).tmod 7 + 1) a (if b < a then b + 1440 else b), ts)
/-- Whether a further time of the same days follows. -/
def more : List (Tok α) → Bool
  | t :: u :: l => sees 4 [cComma] (t :: u :: l) && u.1 == 2
  | _ => false
def times (en : α) (f t : Int) : Nat → List (Tok α) → Res α (List Sp × List (Tok α))
  | 0, _ => .error (6, en)
  | n + 1, ts => match time en f t ts with
    | .error e => .error e
    | .ok (s, ts) => if more ts then (match times en f t n (ts.drop 1) with | .error e => .error e | .ok (s', ts) => .ok (s ++ s', ts)) else .ok (s, ts)
def idx (d : Bys) : Int := days.findIdx (· == d)
def dys (en : α) (ts : List (Tok α)) : Res α ((Int × Int) × List (Tok α)) :=
  match take en 1 days ts with
  | .error e => .error e
  | .ok (f, ts) =>
    if sees 4 [cDash] ts then (match take en 1 days (ts.drop 1) with
      | .error e => .error e
      | .ok (t, ts) => .ok ((idx f.2.1, idx t.2.1), ts))
    else .ok ((idx f.2.1, idx f.2.1), ts)
def part (en : α) (ts : List (Tok α)) : Res α (List Sp × List (Tok α)) :=
  match dys en ts with
  | .error e => .error e
  | .ok ((f, t), ts) => times en f t (ts.length + 1) ts
def parts (en : α) : Nat → List (Tok α) → Res α (List Sp × List (Tok α))
  | 0, _ => .error (6, en)
  | n + 1, ts => match part en ts with
    | .error e => .error e
    | .ok (s, ts) => if sees 4 [cComma] ts then (match parts en n (ts.drop 1) with | .error e => .error e | .ok (s', ts) => .ok (s ++ s', ts)) else .ok (s, ts)
def fin : Res α (List Sp × List (Tok α)) → Res α (List Sp)
  | .error e => .error e
  | .ok (s, []) => .ok s
  | .ok (_, t :: _) => .error (5, t.2.2)
def textQ (en : α) (ts : List (Tok α)) : Res α (List Sp × List (Tok α)) :=
  if sees 1 [always] ts then .ok (addL 0 10080, ts.drop 1) else if sees 1 [never] ts then .ok ([], ts.drop 1) else parts en (ts.length + 1) ts
def textP (en : α) (ts : List (Tok α)) : Res α (List Sp) := fin (textQ en ts)
end
/-- hours.Parse. -/
def parseP (l : Bys) : Except (Int × Int) (List Sp) :=
  match lexP l with
  | .error e => .error e
  | .ok ts => match textP (l.length : Int) ts with
    | .error e => .error e
    | .ok s => if (canon s).length > 60 then .error (2, (l.length : Int)) else .ok (canon s)
section
variable {α : Type} {en : α}
theorem take_ok {k : Int} {xs : List Bys} {ts : List (Tok α)} {t : Tok α} {l : List (Tok α)} (h : take en k xs ts = .ok (t, l)) : ts = t :: l ∧ t.1 = k ∧ (xs = [] ∨ t.2.1 ∈ xs) := by
  unfold take at h
  split at h
  · cases h
  · split at h
    · rename_i hs
      cases h
      unfold sees at hs
      simp only [Bool.and_eq_true, beq_iff_eq, Bool.or_eq_true, List.isEmpty_iff, List.contains_eq_mem, decide_eq_true_eq] at hs
      exact ⟨rfl, hs.1, hs.2⟩
    · cases h
theorem take_len {k : Int} {xs : List Bys} {ts : List (Tok α)} {t : Tok α} {l : List (Tok α)} (h : take en k xs ts = .ok (t, l)) : l.length + 1 = ts.length := by
  rw [(take_ok h).1]; simp
theorem clock_ok {most : Int} {ts l : List (Tok α)} {r : Int × α} (h : clock en most ts = .ok (r, l)) : l.length + 3 = ts.length := by
  unfold clock at h
  split at h
  · cases h
  · rename_i h1
    split at h
    · cases h
    · split at h
      · cases h
      · rename_i h2
        split at h
        · cases h
        · rename_i h3
          split at h
          · cases h
          · cases h
            have := take_len h1; have := take_len h2; have := take_len h3; omega
theorem time_ok {f t : Int} {ts l : List (Tok α)} {s : List Sp} (h : time en f t ts = .ok (s, l)) : l.length + 7 = ts.length := by
  unfold time at h
  split at h
  · cases h
  · rename_i h1
    split at h
    · cases h
    · rename_i h2
      split at h
      · cases h
      · rename_i h3
        split at h
        · cases h
        · cases h
          have := clock_ok h1; have := take_len h2; have := clock_ok h3; omega
theorem times_len {f t : Int} : ∀ (n : Nat) {ts l : List (Tok α)} {s : List Sp}, times en f t n ts = .ok (s, l) → l.length < ts.length := by
  intro n
  induction n with
  | zero => intro ts l s h; cases h
  | succ n ih =>
    intro ts l s h
    unfold times at h
    split at h
    · cases h
    · rename_i h1
      have := time_ok h1
      split at h
      · split at h
        · cases h
        · rename_i h2
          cases h
          have h3 := ih h2
          rw [List.length_drop] at h3; omega
      · cases h; omega
/-- The fuel makes no difference. -/
theorem times_fuel {f t : Int} : ∀ (n m : Nat) (ts : List (Tok α)), ts.length < n → ts.length < m → times en f t n ts = times en f t m ts := by
  intro n
  induction n with
  | zero => intro m ts h; omega
  | succ n ih =>
    intro m ts h h2
    cases m with
    | zero => omega
    | succ m =>
      unfold times
      split
      · rfl
      · rename_i h1
        have := time_ok h1
        rw [ih m _ (by rw [List.length_drop]; omega) (by rw [List.length_drop]; omega)]
theorem dys_len {ts l : List (Tok α)} {r : Int × Int} (h : dys en ts = .ok (r, l)) : l.length < ts.length := by
  unfold dys at h
  split at h
  · cases h
  · rename_i h1
    have := take_len h1
    split at h
    · split at h
      · cases h
      · rename_i h2
        have h3 := take_len h2
        rw [List.length_drop] at h3
        cases h; omega
    · cases h; omega
theorem part_len {ts l : List (Tok α)} {s : List Sp} (h : part en ts = .ok (s, l)) : l.length < ts.length := by
  unfold part at h
  split at h
  · cases h
  · rename_i h1
    have := dys_len h1; have := times_len _ h; omega
theorem parts_fuel : ∀ (n m : Nat) (ts : List (Tok α)), ts.length < n → ts.length < m → parts en n ts = parts en m ts := by
  intro n
  induction n with
  | zero => intro m ts h; omega
  | succ n ih =>
    intro m ts h h2
    cases m with
    | zero => omega
    | succ m =>
      unfold parts
      split
      · rfl
      · rename_i h1
        have := part_len h1
        rw [ih m _ (by rw [List.length_drop]; omega) (by rw [List.length_drop]; omega)]
end
end Go.Proofs.YtjaffpnegdcjnaaGreatDoor
