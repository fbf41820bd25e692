/- Reading hours: offsets make no difference; what comes behind a part makes none. -/
import Derived.Test.YtjaffpnegdcjnaaGreatDoorRPc
set_option linter.unusedVariables false
set_option linter.unusedSimpArgs false
namespace Go.Proofs.YtjaffpnegdcjnaaGreatDoor
section
variable {α β : Type} (φ : α → β)
def mT (t : Tok α) : Tok β := (t.1, t.2.1, φ t.2.2)
def mE (e : Int × α) : Int × β := (e.1, φ e.2)
def mR {γ δ : Type} (g : γ → δ) : Res α γ → Res β δ
  | .error e => .error (mE φ e)
  | .ok x => .ok (g x)
theorem sees_nat (k : Int) (xs : List Bys) (ts : List (Tok α)) : sees k xs (ts.map (mT φ)) = sees k xs ts := by
  cases ts <;> rfl
theorem take_nat (en : α) (k : Int) (xs : List Bys) (ts : List (Tok α)) : take (φ en) k xs (ts.map (mT φ)) = mR φ (fun r => (mT φ r.1, r.2.map (mT φ))) (take en k xs ts) := by
  cases ts with
  | nil => rfl
  | cons t l =>
    unfold take
    rw [List.map_cons]
    simp only
    rw [show sees k xs (mT φ t :: l.map (mT φ)) = sees k xs (t :: l) from rfl]
    split <;> rfl
theorem clock_nat (en : α) (most : Int) (ts : List (Tok α)) : clock (φ en) most (ts.map (mT φ)) = mR φ (fun r => ((r.1.1, φ r.1.2), r.2.map (mT φ))) (clock en most ts) := by
  unfold clock
  rw [take_nat]
  cases h1 : take en 2 [] ts with
  | error e => rfl
  | ok r =>
    obtain ⟨h, ts1⟩ := r
    simp only [mR]
    rw [show (mT φ h).2.1 = h.2.1 from rfl]
    split
    · rfl
    · rw [take_nat]
      cases h2 : take en 4 [cColon] ts1 with
      | error e => rfl
      | ok r =>
        obtain ⟨c, ts2⟩ := r
        simp only [mR]
        rw [take_nat]
        cases h3 : take en 2 [] ts2 with
        | error e => rfl
        | ok r =>
          obtain ⟨m, ts3⟩ := r
          simp only [mR]
          rw [show (mT φ m).2.1 = m.2.1 from rfl]
          split <;> rfl
theorem time_nat (en : α) (f t : Int) (ts : List (Tok α)) : time (φ en) f t (ts.map (mT φ)) = mR φ (fun r => (r.1, r.2.map (mT φ))) (time en f t ts) := by
  unfold time
  rw [clock_nat]
  cases h1 : clock en 23 ts with
  | error e => rfl
  | ok r =>
    obtain ⟨⟨a, x⟩, ts1⟩ := r
    simp only [mR]
    rw [take_nat]
    cases h2 : take en 4 [cDash] ts1 with
    | error e => rfl
    | ok r =>
      obtain ⟨c, ts2⟩ := r
      simp only [mR]
      rw [clock_nat]
      cases h3 : clock en 24 ts2 with
      | error e => rfl
      | ok r =>
        obtain ⟨⟨b, y⟩, ts3⟩ := r
        simp only [mR]
        split <;> rfl
theorem more_nat (ts : List (Tok α)) : more (ts.map (mT φ)) = more ts := by
  rcases ts with _ | ⟨t, _ | ⟨u, l⟩⟩ <;> rfl
theorem times_nat (en : α) (f t : Int) : ∀ (n : Nat) (ts : List (Tok α)), times (φ en) f t n (ts.map (mT φ)) = mR φ (fun r => (r.1, r.2.map (mT φ))) (times en f t n ts) := by
  intro n
  induction n with
  | zero => intro ts; rfl
  | succ n ih =>
    intro ts
    unfold times
    rw [time_nat]
    cases h1 : time en f t ts with
    | error e => rfl
    | ok r =>
      obtain ⟨s, ts1⟩ := r
      simp only [mR]
      rw [more_nat]
      split
      · rw [← List.map_drop, ih]
        cases times en f t n (ts1.drop 1) <;> rfl
      · rfl
theorem dys_nat (en : α) (ts : List (Tok α)) : dys (φ en) (ts.map (mT φ)) = mR φ (fun r => (r.1, r.2.map (mT φ))) (dys en ts) := by
  unfold dys
  rw [take_nat]
  cases h1 : take en 1 days ts with
  | error e => rfl
  | ok r =>
    obtain ⟨c, ts1⟩ := r
    simp only [mR]
    rw [sees_nat]
    split
    · rw [← List.map_drop, take_nat]
      cases take en 1 days (ts1.drop 1) <;> rfl
    · rfl
theorem part_nat (en : α) (ts : List (Tok α)) : part (φ en) (ts.map (mT φ)) = mR φ (fun r => (r.1, r.2.map (mT φ))) (part en ts) := by
  unfold part
  rw [dys_nat]
  cases h1 : dys en ts with
  | error e => rfl
  | ok r =>
    obtain ⟨⟨a, b⟩, ts1⟩ := r
    simp only [mR]
    rw [List.length_map, times_nat]
    rfl
theorem parts_nat (en : α) : ∀ (n : Nat) (ts : List (Tok α)), parts (φ en) n (ts.map (mT φ)) = mR φ (fun r => (r.1, r.2.map (mT φ))) (parts en n ts) := by
  intro n
  induction n with
  | zero => intro ts; rfl
  | succ n ih =>
    intro ts
    unfold parts
    rw [part_nat]
    cases h1 : part en ts with
    | error e => rfl
    | ok r =>
      obtain ⟨s, ts1⟩ := r
      simp only [mR]
      rw [sees_nat]
      split
      · rw [← List.map_drop, ih]
        cases parts en n (ts1.drop 1) <;> rfl
      · rfl
theorem textP_nat (en : α) (ts : List (Tok α)) : textP (φ en) (ts.map (mT φ)) = mR φ id (textP en ts) := by
  have main : ∀ (x : Res α (List Sp × List (Tok α))), fin (mR φ (fun r => (r.1, r.2.map (mT φ))) x) = mR φ id (fin x) := by
    intro x
    rcases x with e | ⟨s, _ | ⟨t, l⟩⟩ <;> rfl
  unfold textP
  rw [← main]
  congr 1
  unfold textQ
  rw [sees_nat, sees_nat, List.length_map]
  split
  · simp [mR, List.map_drop]
  · split
    · simp [mR, List.map_drop]
    · exact parts_nat φ en _ ts
end
section
variable {α : Type} {en : α}
theorem sees_app {k : Int} {xs : List Bys} {ts r : List (Tok α)} (h : ts ≠ []) : sees k xs (ts ++ r) = sees k xs ts := by
  cases ts with
  | nil => exact absurd rfl h
  | cons t l => rfl
theorem take_app {k : Int} {xs : List Bys} {ts l r : List (Tok α)} {t : Tok α} {en' : α} (h : take en k xs ts = .ok (t, l)) : take en' k xs (ts ++ r) = .ok (t, l ++ r) := by
  have h1 := (take_ok h).1
  subst h1
  unfold take at h ⊢
  simp only [List.cons_append] at h ⊢
  split at h
  · rename_i hs; rw [show sees k xs (t :: (l ++ r)) = sees k xs (t :: l) from rfl, if_pos hs]
  · cases h
theorem clock_app {most : Int} {ts l r : List (Tok α)} {x : Int × α} {en' : α} (h : clock en most ts = .ok (x, l)) : clock en' most (ts ++ r) = .ok (x, l ++ r) := by
  unfold clock at h ⊢
  split at h
  · cases h
  · rename_i t1 ts1 h1
    rw [take_app h1]
    simp only
    split at h
    · cases h
    · rename_i hn
      rw [if_neg hn]
      split at h
      · cases h
      · rename_i t2 ts2 h2
        rw [take_app h2]
        simp only
        split at h
        · cases h
        · rename_i t3 ts3 h3
          rw [take_app h3]
          simp only
          split at h
          · cases h
          · rename_i hn2
            rw [if_neg hn2]
            cases h; rfl
theorem time_app {f t : Int} {ts l r : List (Tok α)} {s : List Sp} {en' : α} (h : time en f t ts = .ok (s, l)) : time en' f t (ts ++ r) = .ok (s, l ++ r) := by
  unfold time at h ⊢
  split at h
  · cases h
  · rename_i a x ts1 h1
    rw [clock_app h1]
    simp only
    split at h
    · cases h
    · rename_i c ts2 h2
      rw [take_app h2]
      simp only
      split at h
      · cases h
      · rename_i b y ts3 h3
        rw [clock_app h3]
        simp only
        split at h
        · cases h
        · rename_i hn
          rw [if_neg hn]
          cases h; rfl
/-- What follows is no number. -/
def noNum : List (Tok α) → Prop
  | _ :: u :: _ => u.1 ≠ 2
  | _ => True
theorem more_app {ts r : List (Tok α)} (h1 : more ts = false) (h2 : ts = [] → noNum r) (h3 : ∀ t, ts = [t] → ∀ u, r.head? = some u → u.1 ≠ 2 ) : more (ts ++ r) = false := by
  rcases ts with _ | ⟨t, _ | ⟨u, l⟩⟩
  · have := h2 rfl
    rcases r with _ | ⟨t, _ | ⟨u, l⟩⟩
    · rfl
    · rfl
    · simp only [List.nil_append, more]
      simp only [noNum] at this
      simp [this]
  · rcases r with _ | ⟨u, l⟩
    · rfl
    · have := h3 t rfl u rfl
      simp [more, this]
  · exact h1
theorem times_app {f t : Int} {r : List (Tok α)} {en' : α} (hr : noNum r) (hr2 : ∀ u, r.head? = some u → u.1 ≠ 2) : ∀ (n m : Nat) {ts l : List (Tok α)} {s : List Sp}, (ts ++ r).length < m → times en f t n ts = .ok (s, l) → times en' f t m (ts ++ r) = .ok (s, l ++ r) := by
  intro n
  induction n with
  | zero => intro m ts l s _ h; cases h
  | succ n ih =>
    intro m ts l s hm h
    cases m with
    | zero => omega
    | succ m =>
      unfold times at h ⊢
      split at h
      · cases h
      · rename_i s1 ts1 h1
        rw [time_app h1]
        simp only
        split at h
        · rename_i hmo
          have hne : ts1 ≠ [] := by rintro rfl; cases hmo
          have : more (ts1 ++ r) = true := by
            rcases ts1 with _ | ⟨t, _ | ⟨u, l⟩⟩
            · cases hmo
            · cases hmo
            · exact hmo
          rw [if_pos this]
          split at h
          · cases h
          · rename_i s2 ts2 h2
            have hl := time_ok h1
            obtain ⟨t0, ts0, rfl⟩ := List.exists_cons_of_ne_nil hne
            have h3 := ih m (ts := ts0) (by simp only [List.length_append, List.length_cons] at hm hl ⊢; omega) h2
            simp only [List.cons_append, List.drop_succ_cons, List.drop_zero]
            rw [h3]
            cases h; rfl
        · rename_i hmo
          rw [if_neg (by rw [more_app (by simpa using hmo) (fun _ => hr) (fun _ _ => hr2)]; simp)]
          cases h; rfl
theorem dys_app {ts l r : List (Tok α)} {x : Int × Int} {en' : α} (h : dys en ts = .ok (x, l)) (hl : l ≠ []) : dys en' (ts ++ r) = .ok (x, l ++ r) := by
  unfold dys at h ⊢
  split at h
  · cases h
  · rename_i f ts1 h1
    rw [take_app h1]
    simp only
    have hne : ts1 ≠ [] := by
      rintro rfl
      simp [sees] at h; exact hl h.2
    rw [sees_app hne]
    obtain ⟨t0, ts0, rfl⟩ := List.exists_cons_of_ne_nil hne
    split at h
    · rename_i hs
      rw [if_pos hs]
      split at h
      · cases h
      · rename_i u ts2 h2
        simp only [List.cons_append, List.drop_succ_cons, List.drop_zero] at h2 ⊢
        rw [take_app h2]
        cases h; rfl
    · rename_i hs
      rw [if_neg hs]
      cases h; rfl
theorem times_nil {f t : Int} : ∀ (n : Nat) {s : List Sp} {l : List (Tok α)}, times en f t n [] ≠ .ok (s, l) := by
  intro n s l h
  have := times_len n h
  simp at this
theorem part_app {ts l r : List (Tok α)} {s : List Sp} {en' : α} (hr : noNum r) (hr2 : ∀ u, r.head? = some u → u.1 ≠ 2) (h : part en ts = .ok (s, l)) : part en' (ts ++ r) = .ok (s, l ++ r) := by
  unfold part at h ⊢
  split at h
  · cases h
  · rename_i a b ts1 h1
    have hne : ts1 ≠ [] := by rintro rfl; exact times_nil _ h
    rw [dys_app h1 hne]
    simp only
    exact times_app hr hr2 _ _ (by omega) h
/-- Parts, and further ones behind a comma. -/
theorem parts_app {c : Tok α} {r : List (Tok α)} {en' : α} (hc : sees 4 [cComma] [c] = true) (hr2 : ∀ u, r.head? = some u → u.1 ≠ 2) : ∀ (n m : Nat) {ts : List (Tok α)} {s s' : List Sp} {l' : List (Tok α)} {m' : Nat}, (ts ++ c :: r).length < m → parts en n ts = .ok (s, []) → parts en' m' r = .ok (s', l') → r.length < m' → parts en' m (ts ++ c :: r) = .ok (s ++ s', l') := by
  have hn : noNum (c :: r) := by
    cases r with
    | nil => trivial
    | cons u r => exact hr2 u rfl
  have hn2 : ∀ u, (c :: r).head? = some u → u.1 ≠ 2 := by
    rintro u hu
    simp at hu; subst hu
    intro h
    simp [sees, h] at hc
  intro n
  induction n with
  | zero => intro m ts s s' l' m' _ h; cases h
  | succ n ih =>
    intro m ts s s' l' m' hm h h2 hm'
    cases m with
    | zero => omega
    | succ m =>
      unfold parts at h ⊢
      split at h
      · cases h
      · rename_i s1 ts1 h1
        rw [part_app hn hn2 h1]
        simp only
        have hl := part_len h1
        split at h
        · rename_i hs
          have hne : ts1 ≠ [] := by rintro rfl; cases hs
          obtain ⟨t0, ts0, rfl⟩ := List.exists_cons_of_ne_nil hne
          rw [sees_app (by simp), if_pos hs]
          simp only [List.drop_succ_cons, List.drop_zero] at h
          split at h
          · cases h
          · rename_i s2 ts2 h3
            cases h
            have := ih m (ts := ts0) (by simp only [List.length_append, List.length_cons] at hm hl ⊢; omega) h3 h2 hm'
            simp only [List.cons_append, List.drop_succ_cons, List.drop_zero]
            rw [this]
            simp
        · rename_i hs
          cases h
          simp only [List.nil_append, List.drop_succ_cons, List.drop_zero]
          rw [show sees 4 [cComma] (c :: r) = sees 4 [cComma] [c] from rfl, if_pos hc, parts_fuel m m' r (by simp only [List.length_append, List.length_cons] at hm; omega) hm', h2]
end
example : parseP [109, 111, 45, 116, 117, 32, 57, 58, 48, 48, 45, 49, 55, 58, 51, 48] = .ok [(540, 1050), (1980, 2490)] := by kernel_rfl
end Go.Proofs.YtjaffpnegdcjnaaGreatDoor
