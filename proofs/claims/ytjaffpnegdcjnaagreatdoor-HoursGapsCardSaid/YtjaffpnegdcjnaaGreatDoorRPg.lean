/- Reading: where errors are, what the spans are; gaps; parts behind parts; in plain Lean. -/
import Derived.Test.YtjaffpnegdcjnaaGreatDoorRPf
set_option linter.unusedVariables false
set_option linter.unusedSimpArgs false
namespace Go.Proofs.YtjaffpnegdcjnaaGreatDoor
section
variable {α : Type} {en : α} {E : Int × α → Prop}
/-- The errors that may come. -/
def Hs (E : Int × α → Prop) (en : α) (ts : List (Tok α)) : Prop := E (6, en) ∧ ∀ t ∈ ts, E (5, t.2.2) ∧ E (10, t.2.2)
theorem Hs.tl {ts : List (Tok α)} (h : Hs E en ts) : ∀ t ∈ ts, E (5, t.2.2) ∧ E (10, t.2.2) := h.2
theorem Hs.drop {ts : List (Tok α)} (h : Hs E en ts) (k : Nat) : Hs E en (ts.drop k) := ⟨h.1, fun t ht => h.2 t (List.mem_of_mem_drop ht)⟩
def Er {β : Type} (E : Int × α → Prop) (en : α) : Res α (β × List (Tok α)) → Prop
  | .error e => E e
  | .ok (_, l) => Hs E en l
theorem take_err {ts : List (Tok α)} (h : Hs E en ts) (k : Int) (xs : List Bys) : Er E en (take en k xs ts) := by
  unfold take
  cases ts with
  | nil => exact h.1
  | cons t l =>
    simp only
    split
    · exact h.drop 1
    · exact (h.2 t List.mem_cons_self).1
theorem clock_err {ts : List (Tok α)} (h : Hs E en ts) (m : Int) : Er E en (clock en m ts) := by
  have h1 := take_err h 2 []
  unfold clock
  split
  · rename_i e he; rw [he] at h1; exact h1
  · rename_i t ts1 he
    rw [he] at h1
    have ht : t ∈ ts := by rw [(take_ok he).1]; exact List.mem_cons_self
    split
    · exact (h.2 t ht).2
    · have h2 := take_err (ts := ts1) h1 4 [cColon]
      split
      · rename_i e he2; rw [he2] at h2; exact h2
      · rename_i t2 ts2 he2
        rw [he2] at h2
        have h3 := take_err (ts := ts2) h2 2 []
        split
        · rename_i e he3; rw [he3] at h3; exact h3
        · rename_i t3 ts3 he3
          rw [he3] at h3
          have hm : t3 ∈ ts2 := by rw [(take_ok he3).1]; exact List.mem_cons_self
          split
          · exact (Hs.tl (ts := ts2) h2 t3 hm).2
          · exact h3
theorem clock_at {ts l : List (Tok α)} {m x : Int} {a : α} (h : clock en m ts = .ok ((x, a), l)) : ∃ t ∈ ts, t.2.2 = a := by
  unfold clock at h
  split at h
  · cases h
  · rename_i t ts1 he
    have ht : t ∈ ts := by rw [(take_ok he).1]; exact List.mem_cons_self
    split at h
    · cases h
    · split at h
      · cases h
      · split at h
        · cases h
        · split at h
          · cases h
          · cases h; exact ⟨t, ht, rfl⟩
theorem time_err {ts : List (Tok α)} (h : Hs E en ts) (f t : Int) : Er E en (time en f t ts) := by
  have h1 := clock_err h 23
  unfold time
  split
  · rename_i e he; rw [he] at h1; exact h1
  · rename_i a x ts1 he
    rw [he] at h1
    have h2 := take_err (ts := ts1) h1 4 [cDash]
    split
    · rename_i e he2; rw [he2] at h2; exact h2
    · rename_i t2 ts2 he2
      rw [he2] at h2
      have h3 := clock_err (ts := ts2) h2 24
      split
      · rename_i e he3; rw [he3] at h3; exact h3
      · rename_i b y ts3 he3
        rw [he3] at h3
        split
        · obtain ⟨t, ht, e⟩ := clock_at he3
          have := (Hs.tl (ts := ts2) h2 t ht).2
          rw [e] at this; exact this
        · exact h3
theorem times_err (f t : Int) : ∀ (n : Nat) {ts : List (Tok α)}, Hs E en ts → Er E en (times en f t n ts) := by
  intro n
  induction n with
  | zero => intro ts h; exact h.1
  | succ n ih =>
    intro ts h
    have h1 := time_err h f t
    unfold times
    split
    · rename_i e he; rw [he] at h1; exact h1
    · rename_i s ts1 he
      rw [he] at h1
      split
      · have h2 := ih (ts := ts1.drop 1) (Hs.drop (ts := ts1) h1 1)
        split
        · rename_i e he2; rw [he2] at h2; exact h2
        · rename_i s2 ts2 he2; rw [he2] at h2; exact h2
      · exact h1
theorem dys_err {ts : List (Tok α)} (h : Hs E en ts) : Er E en (dys en ts) := by
  have h1 := take_err h 1 days
  unfold dys
  split
  · rename_i e he; rw [he] at h1; exact h1
  · rename_i t ts1 he
    rw [he] at h1
    split
    · have h2 := take_err (ts := ts1.drop 1) (Hs.drop (ts := ts1) h1 1) 1 days
      split
      · rename_i e he2; rw [he2] at h2; exact h2
      · rename_i t2 ts2 he2; rw [he2] at h2; exact h2
    · exact h1
theorem part_err {ts : List (Tok α)} (h : Hs E en ts) : Er E en (part en ts) := by
  have h1 := dys_err h
  unfold part
  split
  · rename_i e he; rw [he] at h1; exact h1
  · rename_i a b ts1 he
    rw [he] at h1
    exact times_err _ _ _ h1
theorem parts_err : ∀ (n : Nat) {ts : List (Tok α)}, Hs E en ts → Er E en (parts en n ts) := by
  intro n
  induction n with
  | zero => intro ts h; exact h.1
  | succ n ih =>
    intro ts h
    have h1 := part_err h
    unfold parts
    split
    · rename_i e he; rw [he] at h1; exact h1
    · rename_i s ts1 he
      rw [he] at h1
      split
      · have h2 := ih (ts := ts1.drop 1) (Hs.drop (ts := ts1) h1 1)
        split
        · rename_i e he2; rw [he2] at h2; exact h2
        · rename_i s2 ts2 he2; rw [he2] at h2; exact h2
      · exact h1
theorem textP_err {ts : List (Tok α)} (h : Hs E en ts) {e : Int × α} (he : textP en ts = .error e) : E e := by
  have : Er E en (textQ en ts) := by
    unfold textQ
    split
    · exact h.drop 1
    · split
      · exact h.drop 1
      · exact parts_err _ h
  unfold textP at he
  cases hq : textQ en ts with
  | error q => rw [hq] at he this; cases he; exact this
  | ok q =>
    obtain ⟨s, l⟩ := q
    rw [hq] at he this
    cases l with
    | nil => cases he
    | cons t l => cases he; exact (Hs.tl (ts := t :: l) this t List.mem_cons_self).1
/-- Where an error is: at the end, or at a token. -/
theorem textP_at {ts : List (Tok α)} {c : Int} {x : α} (he : textP en ts = .error (c, x)) : c ≠ 0 ∧ (x = en ∨ ∃ t ∈ ts, t.2.2 = x) :=
  textP_err (E := fun e => e.1 ≠ 0 ∧ (e.2 = en ∨ ∃ t ∈ ts, t.2.2 = e.2)) ⟨⟨by simp, .inl rfl⟩, fun t ht => ⟨⟨by simp, .inr ⟨t, ht, rfl⟩⟩, ⟨by simp, .inr ⟨t, ht, rfl⟩⟩⟩⟩ he
-- ---- the spans
def Tk (ts : List (Tok α)) : Prop := ∀ t ∈ ts, tokOK t
theorem Tk.drop {ts : List (Tok α)} (h : Tk ts) (k : Nat) : Tk (ts.drop k) := fun t ht => h t (List.mem_of_mem_drop ht)
theorem numT_go (l : Bys) : ∀ (n : Int), 0 ≤ n → (∀ b ∈ l, isDig b = true) → 0 ≤ l.foldl (fun n b => 10 * n + ((b.toNat : Int) - 48)) n := by
  induction l with
  | nil => intro n h _; exact h
  | cons c l ih =>
    intro n h hd
    have hc := hd c List.mem_cons_self
    have : 48 ≤ c.toNat := by
      unfold isDig at hc
      rw [Bool.and_eq_true] at hc
      have := of_decide_eq_true hc.1
      exact UInt8.le_iff_toNat_le.1 this
    have h9 : 0 ≤ 10 * n + ((c.toNat : Int) - 48) := by omega
    exact ih _ h9 fun b hb => hd b (List.mem_cons_of_mem _ hb)
theorem num_nonneg {t : Tok α} (h : tokOK t) (hk : t.1 = 2) : 0 ≤ numT t.2.1 := by
  rcases h with ⟨h, _⟩ | ⟨h, _, _, h2⟩ | h | ⟨h, _⟩
  · omega
  · exact numT_go _ 0 (Int.le_refl _) h2
  · omega
  · omega
theorem take_tk {k : Int} {xs : List Bys} {ts : List (Tok α)} {t : Tok α} {l : List (Tok α)} (hk : Tk ts) (h : take en k xs ts = .ok (t, l)) : tokOK t ∧ t.1 = k ∧ Tk l := by
  obtain ⟨h1, h2, _⟩ := take_ok h
  subst h1
  exact ⟨hk t List.mem_cons_self, h2, fun u hu => hk u (List.mem_cons_of_mem _ hu)⟩
theorem clock_rng {most x : Int} {a : α} {ts l : List (Tok α)} (hk : Tk ts) (h : clock en most ts = .ok ((x, a), l)) : 0 ≤ x ∧ x ≤ 60 * most + 59 ∧ (most = 24 → x ≤ 1440) ∧ Tk l := by
  unfold clock at h
  split at h
  · cases h
  · rename_i t ts1 he
    obtain ⟨t1, t2, t3⟩ := take_tk hk he
    have hn := num_nonneg t1 t2
    split at h
    · cases h
    · rename_i hmo
      split at h
      · cases h
      · rename_i c ts2 he2
        obtain ⟨_, _, t4⟩ := take_tk t3 he2
        split at h
        · cases h
        · rename_i m ts3 he3
          obtain ⟨u1, u2, u3⟩ := take_tk t4 he3
          have hm := num_nonneg u1 u2
          split at h
          · cases h
          · rename_i hb
            simp only [Bool.or_eq_true, bne_iff_ne, decide_eq_true_eq, Bool.and_eq_true, beq_iff_eq, not_or, not_and] at hb
            cases h
            exact ⟨by omega, by omega, fun e => by omega, u3⟩
theorem addL_wk {f t : Int} (h0 : 0 ≤ f) (h1 : f < t) (h2 : f < 10080) (h3 : t ≤ 20160) : wk (addL f t) := by
  unfold addL
  split
  · intro s hs
    simp only [List.mem_cons, List.not_mem_nil, or_false] at hs
    rcases hs with rfl | rfl <;> simp only <;> omega
  · intro s hs
    rw [List.mem_singleton] at hs
    subst hs; simp only; omega
theorem wk_app {a b : List Sp} (ha : wk a) (hb : wk b) : wk (a ++ b) := fun s hs => (List.mem_append.1 hs).elim (ha s) (hb s)
theorem dayL_wk {f n a b : Int} (hf : 0 ≤ f) (ha : 0 ≤ a) (hab : a < b) (ha2 : a < 1440) (hb : b ≤ 2880) : wk (dayL f n a b) := by
  intro s hs
  unfold dayL at hs
  obtain ⟨i, hi, hs⟩ := List.mem_flatMap.1 hs
  have h1 : 0 ≤ (f + (i : Int)).tmod 7 ∧ (f + (i : Int)).tmod 7 < 7 := by rw [Int.tmod_eq_emod_of_nonneg (by omega)]; omega
  exact addL_wk (by omega) (by omega) (by omega) (by omega) s hs
theorem time_wk {f t : Int} (hf : 0 ≤ f) {ts l : List (Tok α)} {s : List Sp} (hk : Tk ts) (h : time en f t ts = .ok (s, l)) : wk s ∧ Tk l := by
  unfold time at h
  split at h
  · cases h
  · rename_i a x ts1 h1
    obtain ⟨a1, a2, _, k1⟩ := clock_rng hk h1
    split at h
    · cases h
    · rename_i c ts2 h2
      obtain ⟨_, _, k2⟩ := take_tk k1 h2
      split at h
      · cases h
      · rename_i b y ts3 h3
        obtain ⟨b1, _, b2, k3⟩ := clock_rng k2 h3
        have b2 := b2 rfl
        split at h
        · cases h
        · rename_i hab
          simp only [beq_iff_eq] at hab
          cases h
          refine ⟨dayL_wk hf a1 ?_ (by omega) ?_, k3⟩ <;> split <;> omega
theorem times_wk {f t : Int} (hf : 0 ≤ f) : ∀ (n : Nat) {ts l : List (Tok α)} {s : List Sp}, Tk ts → times en f t n ts = .ok (s, l) → wk s ∧ Tk l := by
  intro n
  induction n with
  | zero => intro ts l s _ h; cases h
  | succ n ih =>
    intro ts l s hk h
    unfold times at h
    split at h
    · cases h
    · rename_i s1 ts1 h1
      obtain ⟨w1, k1⟩ := time_wk hf hk h1
      split at h
      · split at h
        · cases h
        · rename_i s2 ts2 h2
          obtain ⟨w2, k2⟩ := ih (k1.drop 1) h2
          cases h
          exact ⟨wk_app w1 w2, k2⟩
      · cases h; exact ⟨w1, k1⟩
theorem dys_tk {ts l : List (Tok α)} {f t : Int} (hk : Tk ts) (h : dys en ts = .ok ((f, t), l)) : 0 ≤ f ∧ f < 7 ∧ 0 ≤ t ∧ t < 7 ∧ Tk l := by
  have hidx : ∀ d ∈ days, 0 ≤ idx d ∧ idx d < 7 := by decide +kernel
  unfold dys at h
  split at h
  · cases h
  · rename_i x ts1 h1
    obtain ⟨_, _, k1⟩ := take_tk hk h1
    have hx := (take_ok h1).2.2.resolve_left (by decide)
    split at h
    · split at h
      · cases h
      · rename_i y ts2 h2
        obtain ⟨_, _, k2⟩ := take_tk (k1.drop 1) h2
        have hy := (take_ok h2).2.2.resolve_left (by decide)
        cases h
        exact ⟨(hidx _ hx).1, (hidx _ hx).2, (hidx _ hy).1, (hidx _ hy).2, k2⟩
    · cases h
      exact ⟨(hidx _ hx).1, (hidx _ hx).2, (hidx _ hx).1, (hidx _ hx).2, k1⟩
theorem part_wk {ts l : List (Tok α)} {s : List Sp} (hk : Tk ts) (h : part en ts = .ok (s, l)) : wk s ∧ Tk l := by
  unfold part at h
  split at h
  · cases h
  · rename_i a b ts1 h1
    obtain ⟨h2, _, _, _, h3⟩ := dys_tk hk h1
    exact times_wk h2 _ h3 h
theorem parts_wk : ∀ (n : Nat) {ts l : List (Tok α)} {s : List Sp}, Tk ts → parts en n ts = .ok (s, l) → wk s ∧ Tk l := by
  intro n
  induction n with
  | zero => intro ts l s _ h; cases h
  | succ n ih =>
    intro ts l s hk h
    unfold parts at h
    split at h
    · cases h
    · rename_i s1 ts1 h1
      obtain ⟨w1, k1⟩ := part_wk hk h1
      split at h
      · split at h
        · cases h
        · rename_i s2 ts2 h2
          obtain ⟨w2, k2⟩ := ih (k1.drop 1) h2
          cases h
          exact ⟨wk_app w1 w2, k2⟩
      · cases h; exact ⟨w1, k1⟩
theorem textP_wk {ts : List (Tok α)} {s : List Sp} (hk : Tk ts) (h : textP en ts = .ok s) : wk s := by
  unfold textP at h
  cases hq : textQ en ts with
  | error q => rw [hq] at h; cases h
  | ok q =>
    obtain ⟨s', l⟩ := q
    rw [hq] at h
    cases l with
    | cons t l => cases h
    | nil =>
      cases h
      unfold textQ at hq
      split at hq
      · injection hq with hq; rw [show s = addL 0 10080 from (congrArg Prod.fst hq).symm]; exact addL_wk (by omega) (by omega) (by omega) (by omega)
      · split at hq
        · injection hq with hq; rw [show s = [] from (congrArg Prod.fst hq).symm]; intro s hs; cases hs
        · exact (parts_wk _ hk hq).1
end
-- ---- what Parse answers
theorem lexP_cases (l : Bys) : (∃ e a, lexP l = .error (e, a) ∧ e ≠ 0 ∧ 0 ≤ a ∧ a < l.length) ∨ (lexP l = .ok ((lexL l 0).map (·.1)) ∧ ∀ x ∈ lexL l 0, x.2 = 0) := by
  have hm : ∀ (q : List (Tok Int × Int)) (e : Int × Int), errOf q = some e → e.1 ≠ 0 ∧ ∃ x ∈ q, x.1.2.2 = e.2 := by
    intro q
    induction q with
    | nil => intro e h; cases h
    | cons x q ih =>
      intro e h
      unfold errOf at h
      split at h
      · rename_i h1
        cases h
        exact ⟨by simpa using h1, x, List.mem_cons_self, rfl⟩
      · obtain ⟨h1, y, hy, h2⟩ := ih e h
        exact ⟨h1, y, List.mem_cons_of_mem _ hy, h2⟩
  unfold lexP
  cases he : errOf (lexL l 0) with
  | some e =>
    obtain ⟨h1, x, hx, h2⟩ := hm _ _ he
    have := (lexL_inc _ l 0 (Nat.le_refl _)).2 x hx
    exact .inl ⟨e.1, e.2, rfl, h1, by omega, by omega⟩
  | none => exact .inr ⟨rfl, (errOf_none _).1 he⟩
theorem lexP_tk {l : Bys} {ts : List (Tok Int)} (h : lexP l = .ok ts) : ts = (lexL l 0).map (·.1) ∧ errOf (lexL l 0) = none ∧ Tk ts ∧ (∀ t ∈ ts, 0 ≤ t.2.2 ∧ t.2.2 < l.length) ∧ ts.length ≤ l.length := by
  rcases lexP_cases l with ⟨e, a, h1, _⟩ | ⟨h1, h2⟩
  · rw [h1] at h; cases h
  · rw [h1] at h
    cases h
    refine ⟨rfl, (errOf_none _).2 h2, fun t ht => ?_, fun t ht => ?_, ?_⟩
    · obtain ⟨x, hx, rfl⟩ := List.mem_map.1 ht
      exact (lexL_ok _ l 0 (Nat.le_refl _) x hx (h2 x hx)).1
    · obtain ⟨x, hx, rfl⟩ := List.mem_map.1 ht
      have := (lexL_inc _ l 0 (Nat.le_refl _)).2 x hx
      omega
    · rw [List.length_map]; exact lexL_len _ l 0 (Nat.le_refl _)
theorem parse_cases (l : Bys) : (∃ e a, parseP l = .error (e, a) ∧ e ≠ 0 ∧ 0 ≤ a ∧ a ≤ l.length) ∨ (∃ s, parseP l = .ok s ∧ vl (-1) s = true ∧ s.length ≤ 60) := by
  unfold parseP
  cases hl : lexP l with
  | error e =>
    rcases lexP_cases l with ⟨e', a, h1, h2, h3, h4⟩ | ⟨h1, _⟩
    · rw [hl] at h1; cases h1
      exact .inl ⟨e', a, rfl, h2, h3, by omega⟩
    · rw [hl] at h1; cases h1
  | ok ts =>
    obtain ⟨_, _, hk, hr, _⟩ := lexP_tk hl
    simp only
    cases ht : textP (l.length : Int) ts with
    | error e =>
      obtain ⟨c, x⟩ := e
      obtain ⟨h1, h2⟩ := textP_at ht
      refine .inl ⟨c, x, rfl, h1, ?_⟩
      rcases h2 with rfl | ⟨t, h3, rfl⟩
      · omega
      · have := hr t h3; omega
    | ok s =>
      have hw := textP_wk hk ht
      simp only
      split
      · exact .inl ⟨2, _, rfl, by omega, by omega, by omega⟩
      · exact .inr ⟨_, rfl, (canon_un hw).ok, by omega⟩
-- ---- parts
theorem canon_either {a b : List Sp} (ha : wk a) (hb : wk b) : canon (a ++ b) = eitherL (canon a) (canon b) := by
  have h1 := canon_un (wk_app ha hb)
  have ka := canon_un ha
  have kb := canon_un hb
  have h2 := eitherL_un ka.ok kb.ok
  exact vl_uniq h1.ok h2.1 fun m => by rw [h1.at_, h2.2, ka.at_, kb.at_, mn_append]
/-- A text of parts. -/
def isParts (l : Bys) : Prop := ∃ ts t l' s, lexP l = .ok ts ∧ ts = t :: l' ∧ t.2.1 ≠ always ∧ t.2.1 ≠ never ∧ textP (l.length : Int) ts = .ok s ∧ (canon s).length ≤ 60 ∧ parseP l = .ok (canon s)
theorem isParts_of {l : Bys} {ts : List (Tok Int)} {t : Tok Int} {l' : List (Tok Int)} {a : List Sp} (h : lexP l = .ok ts) (ht : ts = t :: l') (h1 : t.2.1 ≠ always) (h2 : t.2.1 ≠ never) (hp : parseP l = .ok a) : isParts l := by
  refine ⟨ts, t, l', ?_⟩
  have hp' := hp
  unfold parseP at hp'
  rw [h] at hp'
  simp only at hp'
  cases hq : textP (l.length : Int) ts with
  | error e => rw [hq] at hp'; cases hp'
  | ok s =>
    rw [hq] at hp'
    simp only at hp'
    split at hp'
    · cases hp'
    · rename_i hn
      cases hp'
      exact ⟨s, h, ht, h1, h2, rfl, by omega, hp⟩
theorem parts_textP {α : Type} {en : α} {t : Tok α} {l : List (Tok α)} {s : List Sp} (h1 : t.2.1 ≠ always) (h2 : t.2.1 ≠ never) : textP en (t :: l) = .ok s ↔ parts en ((t :: l).length + 1) (t :: l) = .ok (s, []) := by
  have e1 : sees 1 [always] (t :: l) = false := by simp [sees, h1]
  have e2 : sees 1 [never] (t :: l) = false := by simp [sees, h2]
  unfold textP textQ
  rw [e1, e2]
  simp only [Bool.false_eq_true, if_false]
  cases parts en ((t :: l).length + 1) (t :: l) with
  | error e => exact ⟨(fun h => by cases h), (fun h => by cases h)⟩
  | ok q =>
    obtain ⟨s', r⟩ := q
    cases r with
    | nil => exact ⟨(fun h => by cases h; rfl), (fun h => by cases h; rfl)⟩
    | cons x r => exact ⟨(fun h => by cases h), (fun h => by cases h)⟩
theorem parts_hd {α : Type} {en : α} {n : Nat} {t : Tok α} {l : List (Tok α)} {q : List Sp × List (Tok α)} (h : parts en n (t :: l) = .ok q) : t.1 = 1 := by
  cases n with
  | zero => cases h
  | succ n =>
    unfold parts part dys at h
    cases h1 : take en 1 days (t :: l) with
    | error e => rw [h1] at h; cases h
    | ok r =>
      obtain ⟨x, r⟩ := r
      obtain ⟨e, h2, _⟩ := take_ok h1
      cases e; exact h2
/-- Two texts of parts with a comma between them. -/
theorem parts_law {a b : Bys} {sa sb : List Sp} (ha : isParts a) (hb : isParts b) (ea : parseP a = .ok sa) (eb : parseP b = .ok sb) :
    parseP (a ++ [10, 44, 32] ++ b) = if (eitherL sa sb).length > 60 then .error (2, ((a ++ [10, 44, 32] ++ b).length : Int)) else .ok (eitherL sa sb) := by
  obtain ⟨t1, x, r1, s1, l1, h1, n1, m1, p1, c1, q1⟩ := ha
  obtain ⟨t2, y, r2, s2, l2, h2, n2, m2, p2, c2, q2⟩ := hb
  rw [q1] at ea; cases ea
  rw [q2] at eb; cases eb
  obtain ⟨e1, f1, k1, _, _⟩ := lexP_tk l1
  obtain ⟨e2, f2, k2, _, _⟩ := lexP_tk l2
  have hlex : lexL (a ++ [10, 44, 32] ++ b) 0 = lexL a 0 ++ ((4, cComma, (a.length : Int) + 1), 0) :: (lexL b 0).map (sh ((a.length : Int) + 3)) := by
    have : a ++ [10, 44, 32] ++ b = a ++ 10 :: ([44] ++ 32 :: b) := by simp
    rw [this, lexL_app _ a 0 _ (Nat.le_refl _) f1, lexL_tok (t := ((4, [44], ()) : Tok Unit)) (sym_w (by decide)) (fun h => absurd rfl h), lexL_blk (by decide)]
    have := lexL_sh _ b 0 ((a.length : Int) + 3) (Nat.le_refl _)
    rw [← this]
    simp only [List.length_singleton, cComma]
    rw [show (0 : Int) + (a.length : Int) + 1 = (a.length : Int) + 1 by omega, show (a.length : Int) + 1 + ((1 : Nat) : Int) + 1 = 0 + ((a.length : Int) + 3) by omega]
  have herr : errOf (lexL (a ++ [10, 44, 32] ++ b) 0) = none := by
    rw [hlex, errOf_none]
    intro z hz
    rcases List.mem_append.1 hz with hz | hz
    · exact (errOf_none _).1 f1 z hz
    · rcases List.mem_cons.1 hz with rfl | hz
      · rfl
      · obtain ⟨u, hu, rfl⟩ := List.mem_map.1 hz
        exact (errOf_none _).1 f2 u hu
  have htok : (lexL (a ++ [10, 44, 32] ++ b) 0).map (·.1) = t1 ++ (4, cComma, (a.length : Int) + 1) :: t2.map (mT (· + ((a.length : Int) + 3))) := by
    rw [hlex, List.map_append, List.map_cons, ← e1, List.map_map, e2, List.map_map]
    rfl
  obtain ⟨n, hn⟩ : ∃ n, n = ((a ++ [10, 44, 32] ++ b).length : Int) := ⟨_, rfl⟩
  have hp2 : textP n (t2.map (mT (· + ((a.length : Int) + 3)))) = .ok s2 := by
    have := textP_nat (· + ((a.length : Int) + 3)) (b.length : Int) t2
    rw [p2] at this
    have e : (b.length : Int) + ((a.length : Int) + 3) = n := by rw [hn]; simp; omega
    simp only [e] at this
    exact this
  have hT : textP n (t1 ++ (4, cComma, (a.length : Int) + 1) :: t2.map (mT (· + ((a.length : Int) + 3)))) = .ok (s1 ++ s2) := by
    subst h1 h2
    rw [List.cons_append, parts_textP n1 m1]
    rw [parts_textP n1 m1] at p1
    rw [List.map_cons, parts_textP (by exact n2) (by exact m2)] at hp2
    have hy := parts_hd hp2
    have := parts_app (c := (4, cComma, (a.length : Int) + 1)) (r := (y :: r2).map (mT (· + ((a.length : Int) + 3)))) (by rfl) (fun u hu => by rw [List.map_cons] at hu; cases hu; rw [hy]; decide) ((x :: r1).length + 1) ((x :: (r1 ++ (4, cComma, (a.length : Int) + 1) :: List.map (mT (· + ((a.length : Int) + 3))) (y :: r2))).length + 1) (by simp) p1 hp2 (by simp)
    exact this
  unfold parseP lexP
  rw [herr]
  simp only
  rw [htok, ← hn, hT]
  simp only
  rw [canon_either (textP_wk k1 p1) (textP_wk k2 p2)]
-- ---- gaps
def spaced (ts : List (Tok Int)) : Bys := ts.flatMap fun t => t.2.1 ++ [10]
def plc (a : Int) : List (Tok Int) → Int → Int → Int
  | [], _, p => p
  | t :: ts, n, p => plc a ts (n + (t.2.1.length + 1 : Nat)) (if t.2.2 == a then n else p)
/-- The tokens of the spaced text. -/
def spTok : List (Tok Int) → Int → List (Tok Int)
  | [], _ => []
  | t :: ts, n => (t.1, t.2.1, n) :: spTok ts (n + (t.2.1.length + 1 : Nat))
theorem spaced_lex : ∀ (ts : List (Tok Int)) (n : Int), (∀ t ∈ ts, tokW t) → lexL (spaced ts) n = (spTok ts n).map (·, 0) := by
  intro ts
  induction ts with
  | nil => intro n _; rfl
  | cons t ts ih =>
    intro n h
    have ht := h t List.mem_cons_self
    have : spaced (t :: ts) = t.2.1 ++ 10 :: spaced ts := by simp [spaced]
    rw [this, lexL_tok ht (fun _ b hb => by cases hb; decide), lexL_blk (by decide)]
    have := ih (n + (t.2.1.length + 1 : Nat)) fun u hu => h u (List.mem_cons_of_mem _ hu)
    simp only [spTok, List.map_cons]
    rw [← this, show n + (t.2.1.length : Int) + 1 = n + ((t.2.1.length + 1 : Nat) : Int) by omega]
/-- Pairs of offsets. -/
def both : List (Tok Int) → Int → List (Tok (Int × Int))
  | [], _ => []
  | t :: ts, n => (t.1, t.2.1, (t.2.2, n)) :: both ts (n + (t.2.1.length + 1 : Nat))
theorem both_fst : ∀ (ts : List (Tok Int)) (n : Int), (both ts n).map (mT Prod.fst) = ts := by
  intro ts
  induction ts with
  | nil => intro n; rfl
  | cons t ts ih => intro n; simp only [both, List.map_cons, ih]; rfl
theorem both_snd : ∀ (ts : List (Tok Int)) (n : Int), (both ts n).map (mT Prod.snd) = spTok ts n := by
  intro ts
  induction ts with
  | nil => intro n; rfl
  | cons t ts ih => intro n; simp only [both, spTok, List.map_cons, ih]; rfl
theorem plc_none {a : Int} : ∀ (ts : List (Tok Int)) (n p : Int), (∀ t ∈ ts, t.2.2 ≠ a) → plc a ts n p = p := by
  intro ts
  induction ts with
  | nil => intro n p _; rfl
  | cons t ts ih =>
    intro n p h
    unfold plc
    rw [if_neg (by simpa using h t List.mem_cons_self)]
    exact ih _ _ fun u hu => h u (List.mem_cons_of_mem _ hu)
theorem both_plc : ∀ (ts : List (Tok Int)) (n p : Int), 0 ≤ n → (ts.Pairwise fun x y => x.2.2 < y.2.2) → ∀ u ∈ both ts n, plc u.2.2.1 ts n p = u.2.2.2 ∧ 0 ≤ u.2.2.2 ∧ ∃ t ∈ ts, t.2.2 = u.2.2.1 := by
  intro ts
  induction ts with
  | nil => intro n p _ _ u hu; cases hu
  | cons t ts ih =>
    intro n p hn hp u hu
    rw [List.pairwise_cons] at hp
    rcases List.mem_cons.1 hu with rfl | hu
    · refine ⟨?_, hn, t, List.mem_cons_self, rfl⟩
      unfold plc
      simp only [beq_self_eq_true, if_true]
      exact plc_none _ _ _ fun v hv => by have := hp.1 v hv; omega
    · have := ih (n + (t.2.1.length + 1 : Nat)) (if t.2.2 == u.2.2.1 then n else p) (by omega) hp.2 u hu
      obtain ⟨h1, h2, v, hv, h3⟩ := this
      exact ⟨h1, h2, v, List.mem_cons_of_mem _ hv, h3⟩
theorem one_len {c : UInt8} {l : Bys} (h : (one c l).1 ≠ 3) : (one c l).2.1.length ≤ 1 + (one c l).2.2.1 := by
  unfold one at *
  split
  · simp
  rename_i h1; rw [if_neg h1] at h
  split
  · simp
  rename_i h2; rw [if_neg h2] at h
  split
  · simp; omega
  rename_i h3; rw [if_neg h3] at h
  split
  · simp; omega
  rename_i h4; rw [if_neg h4] at h
  split
  · rename_i h5; rw [if_pos h5] at h
    cases hq : strL l with
    | none => simp
    | some q => rw [hq] at h; exact absurd rfl h
  · split <;> simp
theorem spaced_len : ∀ (n : Nat) (l : Bys) (a : Int), l.length ≤ n → (∀ x ∈ lexL l a, x.1.1 ≠ 3) → (spaced ((lexL l a).map (·.1))).length ≤ 2 * l.length := by
  intro n
  induction n with
  | zero => intro l a h _; have : l = [] := by cases l with | nil => rfl | cons => simp at h
            subst this; simp [lexL_nil, spaced]
  | succ n ih =>
    intro l a h h3
    cases l with
    | nil => simp [lexL_nil, spaced]
    | cons c l =>
      simp only [List.length_cons] at h ⊢
      rw [lexL_cons] at h3 ⊢
      have ih := fun b => ih (l.drop (one c l).2.2.1) b (by simp; omega)
      rw [List.length_drop] at ih
      have hm : (one c l).1 ≠ 3 → (one c l).2.1.length ≤ 1 + l.length := fun h9 => by
        unfold one at *
        have ht1 := takeWhile_len isWrd l
        have ht2 := takeWhile_len isDig l
        split
        · simp
        rename_i h1; rw [if_neg h1] at h9
        split
        · simp
        rename_i h2; rw [if_neg h2] at h9
        split
        · simp; omega
        rename_i h3; rw [if_neg h3] at h9
        split
        · simp; omega
        rename_i h4; rw [if_neg h4] at h9
        split
        · rename_i h5; rw [if_pos h5] at h9
          cases hq : strL l with
          | none => simp
          | some q => rw [hq] at h9; exact absurd rfl h9
        · split <;> simp
      split
      · rename_i he
        rw [if_pos he] at h3
        have := hm (h3 _ List.mem_cons_self)
        simp [spaced]; omega
      · rename_i he
        rw [if_neg he] at h3
        split
        · rename_i hk
          rw [if_pos hk] at h3
          have := ih _ h3; omega
        · rename_i hk
          rw [if_neg hk] at h3
          have h5 := one_len (c := c) (l := l) (h3 _ List.mem_cons_self)
          have h4 := ih _ fun x hx => h3 x (List.mem_cons_of_mem _ hx)
          have h6 := hm (h3 _ List.mem_cons_self)
          have : ∀ (t : Tok Int) (q : List (Tok Int)), (spaced (t :: q)).length = t.2.1.length + 1 + (spaced q).length := fun t q => by simp [spaced]; omega
          rw [List.map_cons, this]
          simp only
          omega
/-- What a text with one line feed behind each token is read as. -/
theorem gaps_law {l : Bys} {ts : List (Tok Int)} (h : lexP l = .ok ts) (h3 : ∀ t ∈ ts, t.1 ≠ 3) :
    (spaced ts).length ≤ 2 * l.length ∧
    ((∃ s, parseP l = .ok s ∧ parseP (spaced ts) = .ok s) ∨
     ∃ c x y, parseP l = .error (c, x) ∧ parseP (spaced ts) = .error (c, y) ∧ ((x = l.length ∧ y = (spaced ts).length) ∨ (x ≠ l.length ∧ y = plc x ts 0 (-1) ∧ 0 ≤ y))) := by
  obtain ⟨e, f, hk, hr, _⟩ := lexP_tk h
  have hx3 : ∀ x ∈ lexL l 0, x.1.1 ≠ 3 := fun x hx => h3 _ (by rw [e]; exact List.mem_map_of_mem hx)
  have hw : ∀ t ∈ ts, tokW t := by
    intro t ht
    rw [e] at ht
    obtain ⟨x, hx, rfl⟩ := List.mem_map.1 ht
    exact lexL_w _ l 0 (Nat.le_refl _) x hx ((errOf_none _).1 f x hx) (hx3 x hx)
  have hlen : (spaced ts).length ≤ 2 * l.length := by rw [e]; exact spaced_len _ l 0 (Nat.le_refl _) hx3
  refine ⟨hlen, ?_⟩
  have hs := spaced_lex ts 0 hw
  have hse : errOf (lexL (spaced ts) 0) = none := by
    rw [hs, errOf_none]
    intro x hx
    obtain ⟨t, _, rfl⟩ := List.mem_map.1 hx
    rfl
  have hst : (lexL (spaced ts) 0).map (·.1) = spTok ts 0 := by rw [hs, List.map_map]; exact List.map_id _
  have hinc : ts.Pairwise fun x y => x.2.2 < y.2.2 := by
    rw [e, List.pairwise_map]
    exact (lexL_inc _ l 0 (Nat.le_refl _)).1
  obtain ⟨n1, hn1⟩ : ∃ n, n = (l.length : Int) := ⟨_, rfl⟩
  obtain ⟨n2, hn2⟩ : ∃ n, n = ((spaced ts).length : Int) := ⟨_, rfl⟩
  have g1 := textP_nat Prod.fst (n1, n2) (both ts 0)
  have g2 := textP_nat Prod.snd (n1, n2) (both ts 0)
  rw [both_fst] at g1
  rw [both_snd] at g2
  simp only at g1 g2
  unfold parseP lexP
  rw [hse, f]
  simp only
  rw [hst, ← e, ← hn1, ← hn2, g1, g2]
  cases hq : textP (n1, n2) (both ts 0) with
  | error q =>
    obtain ⟨c, x, y⟩ := q
    refine .inr ⟨c, x, y, rfl, rfl, ?_⟩
    rcases (textP_at hq).2 with h5 | ⟨u, hu, h5⟩
    · cases h5; exact .inl ⟨rfl, rfl⟩
    · obtain ⟨h6, h7, t, ht, h8⟩ := both_plc ts 0 (-1) (Int.le_refl _) hinc u hu
      rw [h5] at h6 h7 h8
      have := hr t ht
      exact .inr ⟨by omega, h6.symm, h7⟩
  | ok s =>
    simp only [mR, id]
    split
    · exact .inr ⟨2, n1, n2, rfl, rfl, .inl ⟨rfl, rfl⟩⟩
    · exact .inl ⟨_, rfl, rfl⟩
end Go.Proofs.YtjaffpnegdcjnaaGreatDoor
