/- Reading: where errors are, what the spans are; gaps; parts behind parts; in plain Lean. -/
import Derived.Test.YtjaffpnegdcjnaaGreatDoorSPf
set_option linter.unusedVariables false
set_option linter.unusedSimpArgs false
namespace Go.Proofs.YtjaffpnegdcjnaaGreatDoor
section
variable {α : Type} {en : α} {E : Int × α → Prop}
/-- The errors that may come. -/
def Hs (E : Int × α → Prop) (en : α) (ts : List (Tok α)) : Prop := E (6, en) ∧ ∀ t ∈ ts, E (5, t.2.2) ∧ E (10, t.2.2)
theorem Hs.drop {ts : List (Tok α)} (h : Hs E en ts) (k : Nat) : Hs E en (ts.drop k) := ⟨h.1, fun t ht => h.2 t (List.mem_of_mem_drop ht)⟩
def Tk (ts : List (Tok α)) : Prop := ∀ t ∈ ts, tokOK t
theorem Tk.drop {ts : List (Tok α)} (h : Tk ts) (k : Nat) : Tk (ts.drop k) := fun t ht => h t (List.mem_of_mem_drop ht)
theorem numT_go (l : Bys) : ∀ (n : Int), 0 ≤ n → (∀ b ∈ l, isDig b = true) → 0 ≤ l.foldl (fun n b => 10 * n + ((b.toNat : Int) - 48)) n := by
  induction l with
  | nil => intro n h _; exact h
  | cons c l ih =>
    intro n h hd
    have hc := hd c List.mem_cons_self
    have : 48 ≤ c.toNat := by
      unfold isDig at hc
      rw [Bool.and_eq_true] at hc
      have := of_decide_eq_true hc.1
      exact UInt8.le_iff_toNat_le.1 this
    have h9 : 0 ≤ 10 * n + ((c.toNat : Int) - 48) := by omega
    exact ih _ h9 fun b hb => hd b (List.mem_cons_of_mem _ hb)
theorem num_nonneg {t : Tok α} (h : tokOK t) (hk : t.1 = 2) : 0 ≤ numT t.2.1 := by
  rcases h with ⟨h, _⟩ | ⟨h, _, _, h2⟩ | h | ⟨h, _⟩
  · omega
  · exact numT_go _ 0 (Int.le_refl _) h2
  · omega
  · omega
theorem take_tk {k : Int} {xs : List Bys} {ts : List (Tok α)} {t : Tok α} {l : List (Tok α)} (hk : Tk ts) (h : take en k xs ts = .ok (t, l)) : tokOK t ∧ t.1 = k ∧ Tk l := by
  obtain ⟨h1, h2, _⟩ := take_ok h
  subst h1
  exact ⟨hk t List.mem_cons_self, h2, fun u hu => hk u (List.mem_cons_of_mem _ hu)⟩
theorem clock_rng {most x : Int} {a : α} {ts l : List (Tok α)} (hk : Tk ts) (h : clock en most ts = .ok ((x, a), l)) : 0 ≤ x ∧ x ≤ 60 * most + 59 ∧ (most = 24 → x ≤ 1440) ∧ Tk l := by
  unfold clock at h
  split at h
  · cases h
  · rename_i t ts1 he
    obtain ⟨t1, t2, t3⟩ := take_tk hk he
    have hn := num_nonneg t1 t2
    split at h
    · cases h
    · rename_i hmo
      split at h
      · cases h
      · rename_i c ts2 he2
        obtain ⟨_, _, t4⟩ := take_tk t3 he2
        split at h
        · cases h
        · rename_i m ts3 he3
          obtain ⟨u1, u2, u3⟩ := take_tk t4 he3
          have hm := num_nonneg u1 u2
          split at h
          · cases h
          · rename_i hb
            simp only [Bool.or_eq_true, bne_iff_ne, decide_eq_true_eq, Bool.and_eq_true, beq_iff_eq, not_or, not_and] at hb
            cases h
            exact ⟨by omega, by omega, fun e => by omega, u3⟩
theorem addL_wk {f t : Int} (h0 : 0 ≤ f) (h1 : f < t) (h2 : f < 10080) (h3 : t ≤ 20160) : wk (addL f t) := by
  unfold addL
  split
  · intro s hs
    simp only [List.mem_cons, List.not_mem_nil, or_false] at hs
    rcases hs with rfl | rfl <;> simp only <;> omega
  · intro s hs
    rw [List.mem_singleton] at hs
    subst hs; simp only; omega
theorem wk_app {a b : List Sp} (ha : wk a) (hb : wk b) : wk (a ++ b) := fun s hs => (List.mem_append.1 hs).elim (ha s) (hb s)
theorem dayL_wk {f n a b : Int} (hf : 0 ≤ f) (ha : 0 ≤ a) (hab : a < b) (ha2 : a < 1440) (hb : b ≤ 2880) : wk (dayL f n a b) := by
  intro s hs
  unfold dayL at hs
  obtain ⟨i, hi, hs⟩ := List.mem_flatMap.1 hs
  have h1 : 0 ≤ (f + (i : Int)).tmod 7 ∧ (f + (i : Int)).tmod 7 < 7 := by rw [Int.tmod_eq_emod_of_nonneg (by omega)]; omega
  exact addL_wk (by omega) (by omega) (by omega) (by omega) s hs
theorem time_wk {f t : Int} (hf : 0 ≤ f) {ts l : List (Tok α)} {s : List Sp} (hk : Tk ts) (h : time en f t ts = .ok (s, l)) : wk s ∧ Tk l := by
  unfold time at h
  split at h
  · cases h
  · rename_i a x ts1 h1
    obtain ⟨a1, a2, _, k1⟩ := clock_rng hk h1
    split at h
    · cases h
    · rename_i c ts2 h2
      obtain ⟨_, _, k2⟩ := take_tk k1 h2
      split at h
      · cases h
      · rename_i b y ts3 h3
        obtain ⟨b1, _, b2, k3⟩ := clock_rng k2 h3
        have b2 := b2 rfl
        split at h
        · cases h
        · rename_i hab
          simp only [beq_iff_eq] at hab
          cases h
          refine ⟨dayL_wk hf a1 ?_ (by omega) ?_, k3⟩ <;> split <;> omega
theorem times_wk {f t : Int} (hf : 0 ≤ f) : ∀ (n : Nat) {ts l : List (Tok α)} {s : List Sp}, Tk ts → times en f t n ts = .ok (s, l) → wk s ∧ Tk l := by
  intro n
  induction n with
  | zero => intro ts l s _ h; cases h
  | succ n ih =>
    intro ts l s hk h
    unfold times at h
    split at h
    · cases h
    · rename_i s1 ts1 h1
      obtain ⟨w1, k1⟩ := time_wk hf hk h1
      split at h
      · split at h
        · cases h
        · rename_i s2 ts2 h2
          obtain ⟨w2, k2⟩ := ih (k1.drop 1) h2
          cases h
          exact ⟨wk_app w1 w2, k2⟩
      · cases h; exact ⟨w1, k1⟩
theorem dys_tk {ts l : List (Tok α)} {f t : Int} (hk : Tk ts) (h : dys en ts = .ok ((f, t), l)) : 0 ≤ f ∧ f < 7 ∧ 0 ≤ t ∧ t < 7 ∧ Tk l := by
  have hidx : ∀ d ∈ days, 0 ≤ idx d ∧ idx d < 7 := by decide +kernel
  unfold dys at h
  split at h
  · cases h
  · rename_i x ts1 h1
    obtain ⟨_, _, k1⟩ := take_tk hk h1
    have hx := (take_ok h1).2.2.resolve_left (by decide)
    split at h
    · split at h
      · cases h
      · rename_i y ts2 h2
        obtain ⟨_, _, k2⟩ := take_tk (k1.drop 1) h2
        have hy := (take_ok h2).2.2.resolve_left (by decide)
        cases h
        exact ⟨(hidx _ hx).1, (hidx _ hx).2, (hidx _ hy).1, (hidx _ hy).2, k2⟩
    · cases h
      exact ⟨(hidx _ hx).1, (hidx _ hx).2, (hidx _ hx).1, (hidx _ hx).2, k1⟩
theorem part_wk {ts l : List (Tok α)} {s : List Sp} (hk : Tk ts) (h : part en ts = .ok (s, l)) : wk s ∧ Tk l := by
  unfold part at h
  split at h
  · cases h
  · rename_i a b ts1 h1
    obtain ⟨h2, _, _, _, h3⟩ := dys_tk hk h1
    exact times_wk h2 _ h3 h
theorem parts_wk : ∀ (n : Nat) {ts l : List (Tok α)} {s : List Sp}, Tk ts → parts en n ts = .ok (s, l) → wk s ∧ Tk l := by
  intro n
  induction n with
  | zero => intro ts l s _ h; cases h
  | succ n ih =>
    intro ts l s hk h
    unfold parts at h
    split at h
    · cases h
    · rename_i s1 ts1 h1
      obtain ⟨w1, k1⟩ := part_wk hk h1
      split at h
      · split at h
        · cases h
        · rename_i s2 ts2 h2
          obtain ⟨w2, k2⟩ := ih (k1.drop 1) h2
          cases h
          exact ⟨wk_app w1 w2, k2⟩
      · cases h; exact ⟨w1, k1⟩
theorem textP_wk {ts : List (Tok α)} {s : List Sp} (hk : Tk ts) (h : textP en ts = .ok s) : wk s := by
  unfold textP at h
  cases hq : textQ en ts with
  | error q => rw [hq] at h; cases h
  | ok q =>
    obtain ⟨s', l⟩ := q
    rw [hq] at h
    cases l with
    | cons t l => cases h
    | nil =>
      cases h
      unfold textQ at hq
      split at hq
      · injection hq with hq; rw [show s = addL 0 10080 from (congrArg Prod.fst hq).symm]; exact addL_wk (by omega) (by omega) (by omega) (by omega)
      · split at hq
        · injection hq with hq; rw [show s = [] from (congrArg Prod.fst hq).symm]; intro s hs; cases hs
        · exact (parts_wk _ hk hq).1
end
-- ---- what Parse answers
theorem lexP_cases (l : Bys) : (∃ e a, lexP l = .error (e, a) ∧ e ≠ 0 ∧ 0 ≤ a ∧ a < l.length) ∨ (lexP l = .ok ((lexL l 0).map (·.1)) ∧ ∀ x ∈ lexL l 0, x.2 = 0) := by
  have hm : ∀ (q : List (Tok Int × Int)) (e : Int × Int), errOf q = some e → e.1 ≠ 0 ∧ ∃ x ∈ q, x.1.2.2 = e.2 := by
    intro q
    induction q with
    | nil => intro e h; cases h
    | cons x q ih =>
      intro e h
      unfold errOf at h
      split at h
      · rename_i h1
        cases h
        exact ⟨by simpa using h1, x, List.mem_cons_self, rfl⟩
      · obtain ⟨h1, y, hy, h2⟩ := ih e h
        exact ⟨h1, y, List.mem_cons_of_mem _ hy, h2⟩
  unfold lexP
  cases he : errOf (lexL l 0) with
  | some e =>
    obtain ⟨h1, x, hx, h2⟩ := hm _ _ he
    have := (lexL_inc _ l 0 (Nat.le_refl _)).2 x hx
    exact .inl ⟨e.1, e.2, rfl, h1, by omega, by omega⟩
  | none => exact .inr ⟨rfl, (errOf_none _).1 he⟩
theorem lexP_tk {l : Bys} {ts : List (Tok Int)} (h : lexP l = .ok ts) : ts = (lexL l 0).map (·.1) ∧ errOf (lexL l 0) = none ∧ Tk ts ∧ (∀ t ∈ ts, 0 ≤ t.2.2 ∧ t.2.2 < l.length) ∧ ts.length ≤ l.length := by
  rcases lexP_cases l with ⟨e, a, h1, _⟩ | ⟨h1, h2⟩
  · rw [h1] at h; cases h
  · rw [h1] at h
    cases h
    refine ⟨rfl, (errOf_none _).2 h2, fun t ht => ?_, fun t ht => ?_, ?_⟩
    · obtain ⟨x, hx, rfl⟩ := List.mem_map.1 ht
      exact (lexL_ok _ l 0 (Nat.le_refl _) x hx (h2 x hx)).1
    · obtain ⟨x, hx, rfl⟩ := List.mem_map.1 ht
      have := (lexL_inc _ l 0 (Nat.le_refl _)).2 x hx
      omega
    · rw [List.length_map]; exact lexL_len _ l 0 (Nat.le_refl _)
end Go.Proofs.YtjaffpnegdcjnaaGreatDoor
