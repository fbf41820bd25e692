/- HoursMatchesReference of the planisphere program: for texts of at most 3000 bytes and lists of at most 150 spans, Parse, Text and Valid agree with the reference implementation. Conditions: those of the given row and its card. -/
import Derived.Test.YtjaffpnegdcjnaaGreatDoorT5
import Derived.Deep.LoopGhost
import Derived.Test.YtjaffpnegdcjnaaGreatDoorTie
import Derived.LaidMore
import Derived.Lib.LaidU8
import Derived.MakeChecks
import Derived.ProofKit
import Derived.Deep.Slices
import Derived.OpenShut
import Derived.Test.YtjaffpnegdcjnaaGreatDoorCards
import Derived.Stop.Joined
import Derived.SevenTiedAt
/- The reference parser: a part. -/
set_option linter.unusedVariables false
set_option linter.unusedSimpArgs false
namespace Go.Proofs.YtjaffpnegdcjnaaGreatDoor
open Go.RowKit Go.Pl
/-- A clock's reading: from token i on, with the first error e at x, to token i' with e' at x'; v: its minute, y: its place. -/
def Ck (en : Int) (ts : List (Tok Int)) (b : Bool) (i : Nat) (e x v y : Int) (i' : Nat) (e' x' : Int) : Prop :=
 ∃ (h m : Tok Int) (i1 : Nat) (e1 x1 e2 x2 e3 x3 e4 x4 : Int), (h, i1, e1, x1) = numR en ts i e x ∧ (e2, x2) = rngA b h e1 x1 ∧ (e3, x3) = mustE en [58] (ts.drop i1) e2 x2 ∧ (m, i', e4, x4) = numR en ts (i1 + 1) e3 x3 ∧ (e', x') = rngB h m e4 x4 ∧ v = 60 * numT h.2.1 + numT m.2.1 ∧ y = h.2.2
theorem numR_ge {en : Int} {ts : List (Tok Int)} {i : Nat} {e x : Int} : i ≤ (numR en ts i e x).2.1 ∧ (numR en ts i e x).2.1 ≤ i + 1 := by
 unfold numR
 split
 ·split
  ·exact ⟨Nat.le_refl _, Nat.le_succ _⟩
  ·split
   ·exact ⟨Nat.le_succ _, Nat.le_refl _⟩
   ·exact ⟨Nat.le_refl _, Nat.le_succ _⟩
 ·exact ⟨Nat.le_refl _, Nat.le_succ _⟩
section
variable {en : Int} {ts : List (Tok Int)} {b : Bool} {i : Nat} {e x v y : Int} {i' : Nat} {e' x' : Int}
theorem Ck.err (c : Ck en ts b i e x v y i' e' x') (k : e ≠ 0) : e' = e ∧ x' = x := by
 obtain ⟨h, m, i1, e1, x1, e2, x2, e3, x3, e4, x4, q1, q2, q3, q4, q5, _, _⟩ := c
 rw [numR_err k] at q1; cases q1
 rw [rngA_err k] at q2; cases q2
 rw [mustE_err k] at q3; cases q3
 rw [numR_err k] at q4; cases q4
 rw [rngB_err k] at q5; cases q5
 exact ⟨rfl, rfl⟩
theorem Ck.bnd (c : Ck en ts b i e x v y i' e' x') : i + 1 ≤ i' ∧ i' ≤ i + 3 := by
 obtain ⟨h, m, i1, e1, x1, e2, x2, e3, x3, e4, x4, q1, q2, q3, q4, q5, _, _⟩ := c
 have h1 := numR_ge (en := en) (ts := ts) (i := i) (e := e) (x := x)
 rw [← q1] at h1
 have h2 := numR_ge (en := en) (ts := ts) (i := i1 + 1) (e := e3) (x := x3)
 rw [← q4] at h2
 simp only at h1 h2
 omega
theorem Ck.rng (hk : Tk ts) (c : Ck en ts b i e x v y i' e' x') : 0 ≤ v ∧ v ≤ 610000000 := by
 obtain ⟨h, m, i1, e1, x1, e2, x2, e3, x3, e4, x4, q1, q2, q3, q4, q5, rfl, _⟩ := c
 have h1 := numR_dig hk (en := en) (i := i) (e := e) (x := x)
 rw [← q1] at h1
 have h2 := numR_dig hk (en := en) (i := i1 + 1) (e := e3) (x := x3)
 rw [← q4] at h2
 have h3 := numT_rng h1.1 h1.2.1
 have h4 := numT_rng h2.1 h2.2.1
 simp only at h3 h4
 omega
theorem Ck.ok (hk : Tk ts) (c : Ck en ts b i 0 x v y i' e' x') : match clock en (if b = true then 23 else 24) (ts.drop i) with
  | .ok ((a, z), l) => e' = 0 ∧ v = a ∧ y = z ∧ l = ts.drop i'
  | .error (c, z) => c ≠ 0 ∧ (e', x') = (c, z) := by
 obtain ⟨h, m, i1, e1, x1, e2, x2, e3, x3, e4, x4, q1, q2, q3, q4, q5, rfl, rfl⟩ := c
 exact clk_ok hk q1 q2 q3 q4 q5
end
/-- A time's reading, put together. -/
theorem time_st {en : Int} {ts : List (Tok Int)} (hk : Tk ts) {i : Nat} {x a y0 : Int} {i1 : Nat} {e1 x1 e2 x2 b y : Int} {i3 : Nat} {e3 x3 e4 x4 : Int}
  (c1 : Ck en ts true i 0 x a y0 i1 e1 x1) (m1 : (e2, x2) = mustE en [45] (ts.drop i1) e1 x1) (c2 : Ck en ts false (i1 + 1) e2 x2 b y i3 e3 x3) (r : (e4, x4) = if e3 = 0 ∧ a = b then (10, y) else (e3, x3)) (f t : Int) :
  match time en f t (ts.drop i) with
  | .error (c, z) => c ≠ 0 ∧ e4 = c ∧ x4 = z
  | .ok (s, l) => e4 = 0 ∧ s = dayL f ((t - f + 7).tmod 7 + 1) a (if b < a then b + 1440 else b) ∧ l = ts.drop i3 ∧ 0 ≤ a ∧ a < 1440 ∧ 0 ≤ b ∧ b ≤ 1440 ∧ a ≠ b := by
 unfold time
 have h1 := c1.ok hk
 rw [if_pos rfl] at h1
 cases t1 : clock en 23 (ts.drop i) with
 | error q =>
  obtain ⟨c, z⟩ := q
  rw [t1] at h1
  obtain ⟨hc, h1⟩ := h1
  cases h1
  rw [mustE_err hc] at m1; cases m1
  obtain ⟨rfl, rfl⟩ := c2.err hc
  rw [if_neg (fun h => hc h.1)] at r; cases r
  exact ⟨hc, rfl, rfl⟩
 | ok q =>
  obtain ⟨⟨a9, z9⟩, l9⟩ := q
  rw [t1] at h1
  obtain ⟨rfl, rfl, rfl, rfl⟩ := h1
  have hr1 := clock_rng (hk.drop i) t1
  simp only
  rw [mustE_take (by decide) (hk.drop _)] at m1
  cases t2 : take en 4 [cDash] (ts.drop i1) with
  | error q =>
   obtain ⟨c, z⟩ := q
   have hc := take_err5 t2
   have t2' : take en 4 [[45]] (ts.drop i1) = .error (c, z) := t2
   rw [t2'] at m1; cases m1
   obtain ⟨rfl, rfl⟩ := c2.err hc
   rw [if_neg (fun h => hc h.1)] at r; cases r
   exact ⟨hc, rfl, rfl⟩
  | ok q =>
   obtain ⟨t9, l8⟩ := q
   have hl8 := take_drop t2
   subst hl8
   have t2' : take en 4 [[45]] (ts.drop i1) = .ok (t9, ts.drop (i1 + 1)) := t2
   rw [t2'] at m1; cases m1
   simp only
   have h2 := c2.ok hk
   rw [if_neg (by decide)] at h2
   cases t3 : clock en 24 (ts.drop (i1 + 1)) with
   | error q =>
    obtain ⟨c, z⟩ := q
    rw [t3] at h2
    obtain ⟨hc, h2⟩ := h2
    cases h2
    rw [if_neg (fun h => hc h.1)] at r; cases r
    exact ⟨hc, rfl, rfl⟩
   | ok q =>
    obtain ⟨⟨b9, z8⟩, l7⟩ := q
    rw [t3] at h2
    obtain ⟨rfl, rfl, rfl, rfl⟩ := h2
    have hr2 := clock_rng (hk.drop (i1 + 1)) t3
    simp only
    by_cases hab : a = b
    ·rw [if_pos ⟨rfl, hab⟩] at r; cases r
     rw [if_pos (by simpa using hab)]
     exact ⟨by decide, rfl, rfl⟩
    ·rw [if_neg (fun h => hab h.2)] at r; cases r
     rw [if_neg (by simpa using hab)]
     exact ⟨rfl, rfl, rfl, hr1.1, by omega, hr2.1, hr2.2.2.1 rfl, hab⟩
/-- Days. -/
theorem sees_dash {ts : List (Tok Int)} (hk : Tk ts) : seesR [45] ts = sees 4 [cDash] ts := seesR_sym (by decide) hk
theorem sees_comma {ts : List (Tok Int)} (hk : Tk ts) : seesR [44] ts = sees 4 [cComma] ts := seesR_sym (by decide) hk
theorem idx_take {en : Int} {ts l : List (Tok Int)} {t : Tok Int} (h : take en 1 days ts = .ok (t, l)) : 0 ≤ idx t.2.1 ∧ idx t.2.1 < 7 := by
 have hm := (take_ok h).2.2.resolve_left (by decide)
 have : ∀ d ∈ days, 0 ≤ idx d ∧ idx d < 7 := by decide +kernel
 exact this _ hm
theorem take_some {en k : Int} {xs : List Bys} {ts l : List (Tok Int)} {i : Nat} {t : Tok Int} (h : take en k xs (ts.drop i) = .ok (t, l)) : i + 1 ≤ ts.length := by
 have := take_len h
 rw [List.length_drop] at this; omega
theorem dys_st {en : Int} {ts : List (Tok Int)} (hk : Tk ts) {i : Nat} {x d1 : Int} {i1 : Nat} {e1 x1 d2 : Int} {i2 : Nat} {e2 x2 : Int}
  (q1 : (d1, i1, e1, x1) = dyR en ts i 0 x) (q2 : (d2, i2, e2, x2) = if e1 = 0 ∧ seesR [45] (ts.drop i1) = true then dyR en ts (i1 + 1) e1 x1 else (d1, i1, e1, x1)) :
  match dys en (ts.drop i) with
  | .error (c, z) => c ≠ 0 ∧ e2 = c ∧ x2 = z
  | .ok ((f, t), l) => e2 = 0 ∧ f = d1 ∧ t = d2 ∧ l = ts.drop i2 ∧ i2 ≤ ts.length ∧ 0 ≤ d1 ∧ d1 < 7 ∧ 0 ≤ d2 ∧ d2 < 7 := by
 unfold dys
 rw [dyR_take] at q1
 cases t1 : take en 1 days (ts.drop i) with
 | error q =>
  obtain ⟨c, z⟩ := q
  have hc := take_err5 t1
  rw [t1] at q1; cases q1
  rw [if_neg (fun h => hc h.1)] at q2; cases q2
  exact ⟨hc, rfl, rfl⟩
 | ok q =>
  obtain ⟨t9, l9⟩ := q
  have hl9 := take_drop t1
  subst hl9
  have hb1 := idx_take t1
  have hs1 := take_some t1
  rw [t1] at q1; cases q1
  simp only
  rw [sees_dash (hk.drop _)] at q2
  cases hs : sees 4 [cDash] (ts.drop (i + 1)) with
  | false =>
   rw [if_neg (fun h => by rw [hs] at h; cases h.2)] at q2; cases q2
   exact ⟨rfl, rfl, rfl, rfl, hs1, hb1.1, hb1.2, hb1.1, hb1.2⟩
  | true =>
   rw [if_pos ⟨rfl, hs⟩, dyR_take] at q2
   simp only [if_true]
   have hdd : (ts.drop (i + 1)).drop 1 = ts.drop (i + 1 + 1) := by rw [List.drop_drop]
   rw [hdd]
   cases t2 : take en 1 days (ts.drop (i + 1 + 1)) with
   | error q =>
    obtain ⟨c, z⟩ := q
    have hc := take_err5 t2
    rw [t2] at q2; cases q2
    exact ⟨hc, rfl, rfl⟩
   | ok q =>
    obtain ⟨t8, l8⟩ := q
    have hl8 := take_drop t2
    subst hl8
    have hb2 := idx_take t2
    have hs2 := take_some t2
    rw [t2] at q2; cases q2
    exact ⟨rfl, rfl, rfl, rfl, hs2, hb1.1, hb1.2, hb2.1, hb2.2⟩
/-- Where a part's reader stands: an error; or further times follow; or the end of the part. -/
def PtS (R : Res Int (List Sp × List (Tok Int))) (en f t : Int) (ts : List (Tok Int)) (i : Nat) (e x : Int) (ag : Bool) (s : List Sp) : Prop :=
 (e ≠ 0 ∧ R = .error (e, x)) ∨ (e = 0 ∧ i ≤ ts.length ∧ wk s ∧ (ag = true → R = match times en f t ((ts.drop i).length + 1) (ts.drop i) with | .error q => .error q | .ok (s', l) => .ok (s ++ s', l)) ∧ (ag = false → R = .ok (s, ts.drop i)))
theorem PtS.start {en : Int} {ts : List (Tok Int)} {i i2 : Nat} {d1 d2 e2 x2 : Int}
  (h : match dys en (ts.drop i) with
   | .error (c, z) => c ≠ 0 ∧ e2 = c ∧ x2 = z
   | .ok ((f, t), l) => e2 = 0 ∧ f = d1 ∧ t = d2 ∧ l = ts.drop i2 ∧ i2 ≤ ts.length ∧ 0 ≤ d1 ∧ d1 < 7 ∧ 0 ≤ d2 ∧ d2 < 7) :
  PtS (part en (ts.drop i)) en d1 d2 ts i2 e2 x2 true [] := by
 unfold part
 cases t1 : dys en (ts.drop i) with
 | error q =>
  obtain ⟨c, z⟩ := q
  rw [t1] at h
  obtain ⟨hc, rfl, rfl⟩ := h
  exact .inl ⟨hc, rfl⟩
 | ok q =>
  obtain ⟨⟨f, t⟩, l⟩ := q
  rw [t1] at h
  obtain ⟨rfl, rfl, rfl, rfl, h1, _⟩ := h
  refine .inr ⟨rfl, h1, fun s hs => (by cases hs), fun _ => ?_, fun h => by cases h⟩
  simp only
  cases times en f t ((ts.drop i2).length + 1) (ts.drop i2) with
  | error q => rfl
  | ok q => rfl
theorem more_atR {ts : List (Tok Int)} {i : Nat} (hk : Tk ts) : more (ts.drop i) = true ↔ seesR [44] (ts.drop i) = true ∧ ∃ u, ts[i + 1]? = some u ∧ u.1 = 2 := by
 rw [sees_comma (hk.drop _)]
 have hu : ts[i + 1]? = (ts.drop i)[1]? := by rw [List.getElem?_drop]
 rw [hu]
 cases ts.drop i with
 | nil => simp [more, sees]
 | cons t l =>
  cases l with
  | nil => simp [more]
  | cons u l => simp [more]
theorem PtS.next {R : Res Int (List Sp × List (Tok Int))} {en f t : Int} {ts : List (Tok Int)} (hk : Tk ts) (hf : 0 ≤ f) {i i3 i5 : Nat} {x a b e4 x4 : Int} {s : List Sp} {ag : Bool} (P : PtS R en f t ts i 0 x true s) (hi3 : i3 ≤ i + 7)
  (h : match time en f t (ts.drop i) with
   | .error (c, z) => c ≠ 0 ∧ e4 = c ∧ x4 = z
   | .ok (s, l) => e4 = 0 ∧ s = dayL f ((t - f + 7).tmod 7 + 1) a (if b < a then b + 1440 else b) ∧ l = ts.drop i3 ∧ 0 ≤ a ∧ a < 1440 ∧ 0 ≤ b ∧ b ≤ 1440 ∧ a ≠ b)
  (hm : more (ts.drop i3) = ag) (h5 : e4 = 0 → i5 = if ag then i3 + 1 else i3) :
  PtS R en f t ts i5 e4 x4 ag (s ++ dayL f ((t - f + 7).tmod 7 + 1) a (if b < a then b + 1440 else b)) := by
 rcases P with ⟨h0, _⟩ | ⟨_, hi, hw, hR, _⟩
 ·exact absurd rfl h0
 have hR := hR rfl
 unfold times at hR
 cases t1 : time en f t (ts.drop i) with
 | error q =>
  obtain ⟨c, z⟩ := q
  rw [t1] at h hR
  obtain ⟨hc, rfl, rfl⟩ := h
  exact .inl ⟨hc, hR⟩
 | ok q =>
  obtain ⟨s1, l1⟩ := q
  rw [t1] at h hR
  have hlen := time_ok t1
  have hwk := (time_wk hf (hk.drop i) t1).1
  obtain ⟨rfl, rfl, rfl, h2⟩ := h
  rw [List.length_drop, List.length_drop] at hlen
  have h5 := h5 rfl
  simp only at hR
  rw [hm] at hR
  refine .inr ⟨rfl, ?_, wk_app hw hwk, fun e => ?_, fun e => ?_⟩
  ·cases ag with
   | false => rw [if_neg (by decide)] at h5; omega
   | true =>
    rw [if_pos rfl] at h5
    obtain ⟨_, u, hu, _⟩ := (more_atR hk).1 hm
    have := (List.getElem?_eq_some_iff.1 hu).1
    omega
  ·subst e
   rw [if_pos rfl] at h5 hR
   subst h5
   have hdd : (ts.drop i3).drop 1 = ts.drop (i3 + 1) := by rw [List.drop_drop]
   rw [hdd, times_fuel _ ((ts.drop (i3 + 1)).length + 1) _ (by rw [List.length_drop, List.length_drop]; omega) (by omega)] at hR
   rw [hR]
   cases times en f t ((ts.drop (i3 + 1)).length + 1) (ts.drop (i3 + 1)) with
   | error q => rfl
   | ok q => obtain ⟨s', l'⟩ := q; simp only [List.append_assoc]
  ·subst e
   rw [if_neg (by decide)] at h5 hR
   subst h5
   exact hR
/-- The minutes from one on, around the week. -/
def arB (s : Int) (k : Int) (m : Nat) : Bool := decide (((m : Int) - s) % 10080 < k)
theorem arB_addL {s n : Int} (h0 : 0 ≤ s) (h1 : s < 10080) (hn : 0 ≤ n) (h2 : n ≤ 1440) {m : Nat} (hm : m < 10080) : arB s n m = mnB (addL s (s + n)) m := by
 unfold arB addL
 rw [Bool.eq_iff_iff, decide_eq_true_eq]
 split
 ·unfold mnB
  simp only [List.any_cons, List.any_nil, Bool.or_false, Bool.or_eq_true, Bool.and_eq_true, decide_eq_true_eq]
  omega
 ·unfold mnB
  simp only [List.any_cons, List.any_nil, Bool.or_false, Bool.or_eq_true, Bool.and_eq_true, decide_eq_true_eq]
  omega
theorem arB_zero {s : Int} {m : Nat} : arB s 0 m = false := by unfold arB; rw [decide_eq_false_iff_not]; omega
theorem arB_succ {s k : Int} (h0 : 0 ≤ s) (hk : 0 ≤ k) (h2 : k < 10080) {m : Nat} (hm : m < 10080) : arB s (k + 1) m = (arB s k m || decide ((m : Int) = (s + k) % 10080)) := by
 unfold arB
 rw [Bool.eq_iff_iff]
 simp only [Bool.or_eq_true, decide_eq_true_eq]
 omega
theorem dayL_succ {f a b : Int} {j : Nat} : dayL f ((j : Int) + 1) a b = dayL f j a b ++ addL ((f + (j : Int)).tmod 7 * 1440 + a) ((f + (j : Int)).tmod 7 * 1440 + b) := by
 unfold dayL
 rw [show ((j : Int) + 1).toNat = j + 1 by omega, show ((j : Nat) : Int).toNat = j by omega, List.range_succ, List.flatMap_append, List.flatMap_singleton]
theorem mnB_app {a b : List Sp} {m : Int} : mnB (a ++ b) m = (mnB a m || mnB b m) := by unfold mnB; rw [List.any_append]
theorem mnB_nil {m : Int} : mnB [] m = false := rfl
theorem dayL_zero {f a b : Int} : dayL f ((0 : Nat) : Int) a b = [] := rfl
theorem fill_day {d1 va bb d : Int} {j : Nat} (hd : d = (d1 + j) % 7) (h0 : 0 ≤ d1) (ha : 0 ≤ va) (ha2 : va < 1440) (hb : va ≤ bb) (hb2 : bb ≤ va + 1440) {tt td tk : Nat → Bool} {m : Nat} (hm : m < 10080) (h1 : td m = (tt m || mnB (dayL d1 j va bb) m)) (h2 : tk m = (td m || arB (1440 * d + va) (bb - va) m)) : tk m = (tt m || mnB (dayL d1 ((j : Int) + 1) va bb) m) := by
 rw [h2, h1, dayL_succ, mnB_app, ← Bool.or_assoc, arB_addL (by omega) (by omega) (by omega) (by omega) hm, Int.tmod_eq_emod_of_nonneg (by omega), ← hd]
 rw [show 1440 * d + va = d * 1440 + va by omega, show d * 1440 + va + (bb - va) = d * 1440 + bb by omega]
theorem dyR_le {en : Int} {ts : List (Tok Int)} {i : Nat} {e x : Int} : (dyR en ts i e x).2.1 ≤ i + 1 := by
 unfold dyR
 split
 ·split
  ·exact Nat.le_succ _
  ·split
   ·exact Nat.le_succ _
   ·exact Nat.le_refl _
 ·exact Nat.le_succ _
theorem dys_pos {en : Int} {ts : List (Tok Int)} {i i2 : Nat} {d1 d2 e2 x2 : Int}
  (h : match dys en (ts.drop i) with
   | .error (c, z) => c ≠ 0 ∧ e2 = c ∧ x2 = z
   | .ok ((f, t), l) => e2 = 0 ∧ f = d1 ∧ t = d2 ∧ l = ts.drop i2 ∧ i2 ≤ ts.length ∧ 0 ≤ d1 ∧ d1 < 7 ∧ 0 ≤ d2 ∧ d2 < 7) (h0 : e2 = 0) : 0 ≤ d1 ∧ d1 < 7 ∧ 0 ≤ d2 ∧ d2 < 7 := by
 cases t1 : dys en (ts.drop i) with
 | error q =>
  obtain ⟨c, z⟩ := q
  rw [t1] at h
  exact absurd (h.2.1.symm.trans h0) h.1
 | ok q =>
  obtain ⟨⟨f, t⟩, l⟩ := q
  rw [t1] at h
  exact h.2.2.2.2.2
theorem time_pos {en f t : Int} {ts : List (Tok Int)} {i i3 : Nat} {a b e4 x4 : Int}
  (h : match time en f t (ts.drop i) with
   | .error (c, z) => c ≠ 0 ∧ e4 = c ∧ x4 = z
   | .ok (s, l) => e4 = 0 ∧ s = dayL f ((t - f + 7).tmod 7 + 1) a (if b < a then b + 1440 else b) ∧ l = ts.drop i3 ∧ 0 ≤ a ∧ a < 1440 ∧ 0 ≤ b ∧ b ≤ 1440 ∧ a ≠ b) (h0 : e4 = 0) : 0 ≤ a ∧ a < 1440 ∧ 0 ≤ b ∧ b ≤ 1440 ∧ a ≠ b := by
 cases t1 : time en f t (ts.drop i) with
 | error q =>
  obtain ⟨c, z⟩ := q
  rw [t1] at h
  exact absurd (h.2.1.symm.trans h0) h.1
 | ok q =>
  obtain ⟨s, l⟩ := q
  rw [t1] at h
  exact h.2.2.2
theorem PtS.le {R : Res Int (List Sp × List (Tok Int))} {en f t : Int} {ts : List (Tok Int)} {i : Nat} {x : Int} {ag : Bool} {s : List Sp} (P : PtS R en f t ts i 0 x ag s) : i ≤ ts.length := by
 rcases P with ⟨h0, _⟩ | ⟨_, h, _⟩
 ·exact absurd rfl h0
 ·exact h
theorem PtS.out {R : Res Int (List Sp × List (Tok Int))} {en f t : Int} {ts : List (Tok Int)} {i : Nat} {e x : Int} {ag : Bool} {s : List Sp} (P : PtS R en f t ts i e x ag s) (h : ag = false ∨ e ≠ 0) : (e ≠ 0 ∧ R = .error (e, x)) ∨ (e = 0 ∧ i ≤ ts.length ∧ wk s ∧ R = .ok (s, ts.drop i)) := by
 rcases P with h0 | ⟨h0, h1, h2, _, h3⟩
 ·exact .inl h0
 ·exact .inr ⟨h0, h1, h2, h3 (h.resolve_right (fun k => k h0))⟩
/-- What part leaves: an error, or the spans of the part added to the week. -/
def PartP (R : Res Int (List Sp × List (Tok Int))) (rb wb G : Nat) (en : Int) (ts : List (Tok Int)) (t : Nat → Bool) (w w' : World) : Prop :=
 Fr (fun r => r = rb ∨ r = wb) w w' ∧ ∃ (i : Nat) (e x : Int) (tt : Nat → Bool), RdS w' rb G en ts i e x ∧ wkB w' wb tt ∧ ((e ≠ 0 ∧ R = .error (e, x)) ∨ (e = 0 ∧ i ≤ ts.length ∧ ∃ s, wk s ∧ R = .ok (s, ts.drop i) ∧ ∀ m, m < 10080 → tt m = (t m || mnB s m)))
theorem clockC_calls {w : World} {rb G : Nat} {en : Int} {ts : List (Tok Int)} {i : Nat} {e x : Int} (hR : RdS w rb G en ts i e x) (hk : Tk ts) (hi : i ≤ 900000) (b : Bool) : Calls Tryz.prog 64 #[.pointer (some ⟨rb, 0, none⟩), .bool b] w fun e' w' => ∃ (v y : Int) (i' : Nat) (e2 x2 : Int), e' = .returned (.tuple #[.int .i64 v, .int .i64 y]) ∧ Ck en ts b i e x v y i' e2 x2 ∧ Fr (fun r => r = rb) w w' ∧ RdS w' rb G en ts i' e2 x2 :=
 (clock64_calls hR hk hi b).mono fun e' w' ⟨h, m, i1, i4, e1, x1, e2, x2, e3, x3, q, q1, q2, q3, q4, q5, h6, h7, h8⟩ => ⟨_, _, i4, q.2.1, q.2.2, h6, ⟨h, m, i1, e1, x1, e2, x2, e3, x3, q.1.1, q.1.2, q1, q2, q3, q4, q5, rfl, rfl⟩, h8, h7⟩
set_option maxRecDepth 100000 in
set_option maxHeartbeats 4000000 in
theorem rpart_calls {w : World} {rb wb G : Nat} {en : Int} {ts : List (Tok Int)} {i : Nat} {x : Int} (hR : RdS w rb G en ts i 0 x) (hk : Tk ts) (hi : i ≤ 800000) (hln : ts.length ≤ 800000) {t : Nat → Bool} (hwb : wkB w wb t) (hne : rb < wb) : Calls Tryz.prog 38 #[.pointer (some ⟨rb, 0, none⟩), .pointer (some ⟨wb, 0, none⟩)] w fun e' w' => e' = .returned (.tuple #[]) ∧ PartP (part en (ts.drop i)) rb wb G en ts t w w' := by
 refine wp_start2 Tryz.func38 rfl rfl (n := 141) (by decide) fun a E => ?_
 have hf : Fr (fun _ => False) w w := Fr.refl _ _
 have hf : Fr (fun r => r = rb ∨ r = wb) w w := Fr.refl _ _
 have hR0 := hR
 have hrl := hR.lt
 have hwl := hwb.lt
 obtain ⟨Rp, hRp⟩ : ∃ R, R = part en (ts.drop i) := ⟨_, rfl⟩
 obtain ⟨hGr, lv, hrb, htkS⟩ := id hR0
 obtain ⟨pl, cl, hlv, hlv0, hlv1, hts, hzl⟩ := htkS
 subst hlv
 refine s_ (r_ (ep E rfl (m_ rfl E.g0) fun a E => ?_))
 obtain ⟨⟨d1, i1, e1, x1⟩, hn1⟩ : ∃ q, q = dyR en ts (i) (0) (x) := ⟨_, rfl⟩
 have hdi1 := dyR_le (en := en) (ts := ts) (i := i) (e := 0) (x := x)
 rw [← hn1] at hdi1
 replace hdi1 : i1 ≤ i + 1 := hdi1
 refine env_callv (d := 15) (R := fun u w8 => u = .int .i64 d1 ∧ Fr (fun r => r = rb) w w8 ∧ RdS w8 rb G en ts (i1) (e1) (x1)) E rfl (by decide) rfl (wanted_none rfl _) (run_call1 (enters_of Tryz.func63 (by kernel_rfl) rfl) rfl rfl E.g0) ((rday_calls hR0 (by omega)).mono fun e w8 h => by rw [← hn1] at h; exact ⟨_, h.1, rfl, h.2⟩) fun a w1 u ⟨hu, f1, hR2⟩ E => ?_
 subst hu
 have hwb := wkB.fr hwb f1 nq_
 have hf := hf.trans' f1 (fun r hr e => .inl e)
 clear f1
 have hR0 := hR2
 clear hR2
 obtain ⟨hGr, lv, hrb, htkS⟩ := id hR0
 obtain ⟨pl, cl, hlv, hlv0, hlv1, hts, hzl⟩ := htkS
 subst hlv
 refine ep E rfl (a_ rfl E.g0) fun a E => n_ (t_ (s_ (r_ (ep E rfl (m_ rfl E.g0) fun a E => ep E rfl (a_ rfl E.g0) fun a E => n_ (t_ (wp_seq_cut (fun a w2 => ∃ (d3 : Int) (i3 : Nat) (e3 x3 : Int), Env 141 [(0, .pointer (some ⟨rb, 0, none⟩)), (1, .pointer (some ⟨wb, 0, none⟩)), (4, .int .i64 d1), (5, .int .i64 d3)] a ∧ RdS w2 rb G en ts i3 e3 x3 ∧ wkB w2 wb t ∧ Fr (fun r => r = rb ∨ r = wb) w w2 ∧ (d3, i3, e3, x3) = if e1 = 0 ∧ seesR [45] (ts.drop i1) = true then dyR en ts (i1 + 1) e1 x1 else (d1, i1, e1, x1)) ?_ ?_))))))
 ·refine s_ ?_
  refine r_ (ep E rfl (m_ rfl E.g5) fun a E => ep E rfl (i_ rfl E.g0) fun a E => ep (v := .pointer (some ⟨rb, 3, none⟩)) E rfl (fa62_3 rfl E.g0) fun a E => ep (v := .int .i64 e1) E rfl (run_lde rfl E.g0 (bx hrb 3 rfl)) fun a E => ep (v := .bool (e1 == 0)) E rfl (run_ieql E.g0 rfl Tryz.underlying25 rfl) fun a E => ep E rfl (m_ rfl E.g0) fun a E => ?_)
  cases hq156 : (e1 == 0) with
  | false =>
   rw [hq156] at E
   have hz1 : ¬ e1 = 0 := by simpa using hq156
   refine ek E rfl rfl E.g0 fun a E => ek E rfl rfl E.g1 fun a E => ep (v := .bool false) E rfl (run_pick_f rfl E.g2 rfl) fun a E => n_ (t_ (c_f E.g0 (k_ (t_ ?_))))
   exact ⟨d1, i1, e1, x1, E.of ⟨E.g14, E.g15, E.g11, E.g9, trivial⟩, hR0, hwb, hf, (if_neg (fun h => hz1 h.1)).symm⟩
  | true =>
   rw [hq156] at E
   have hz1 : e1 = 0 := by simpa using hq156
   refine eg E rfl (wy_ E E.g0) (m_ rfl E.g11) fun a E => env_call (d := 24) (v := .bool (seesR [45] (ts.drop i1))) E rfl (by decide) rfl (wy_ E E.g1) (run_call2 (enters_of Tryz.func36 (by kernel_rfl) rfl) rfl rfl E.g0 rfl) (seesR_calls hR0 [45]) fun a w1 f1 E => ?_
   have hwb := wkB.fr hwb f1 id
   have hrb := f1.obj hrb id
   have hts := srcAt.fr hts f1 (fun r hr => id)
   have hR0 := RdS.fr hR0 f1 (fun r hr => id)
   have hf := hf.trans' f1 (fun _ _ h => h.elim)
   clear f1
   refine ep (v := .bool (seesR [45] (ts.drop i1))) E rfl (run_pick_t rfl E.g2 E.g0) fun a E => n_ (t_ ?_)
   cases hq157 : (seesR [45] (ts.drop i1)) with
   | false =>
    rw [hq157] at E
    refine c_f E.g0 (k_ (t_ ?_))
    exact ⟨d1, i1, e1, x1, E.of ⟨E.g14, E.g15, E.g11, E.g9, trivial⟩, hR0, hwb, hf, (if_neg (fun h => by first | exact Bool.false_ne_true h.2 | (have h9 := hq157; rw [h.2] at h9; cases h9))).symm⟩
   | true =>
    rw [hq157] at E
    refine c_t E.g0 (s_ (r_ (ep E rfl (m_ rfl E.g14) fun a E => ep E rfl (i_ rfl E.g0) fun a E => ep (v := .pointer (some ⟨rb, 1, none⟩)) E rfl (fa62_1 rfl E.g0) fun a E => ep (v := .int .i64 (i1 : Int)) E rfl (run_ldi rfl E.g0 (bx hrb 1 rfl)) fun a E => ep (v := .int .i64 ((i1 : Int) + 1)) E rfl (run_iadd Tryz.underlying3 E.g0 rfl (by omega) (by omega) rfl) fun a E => ep E rfl (i_ rfl E.g4) fun a E => ep (v := .pointer (some ⟨rb, 1, none⟩)) E rfl (fa62_1 rfl E.g0) fun a E => env_st1 (j := 1) E rfl (wanted_none rfl _) hrb (run_st3 rfl E.g0 E.g2 (bx hrb 1 rfl) (free_of_blk hrb 1)) fun w1 hrbn f1 E => ?_)))
    replace hrbn : w1.heap[rb]? = some (.cells #[.slice (pl) ts.length cl, .int .i64 ((i1 : Int) + 1), .int .i64 en, .int .i64 e1, .int .i64 x1] 62 (0, 0)) := hrbn
    have hwb := wkB.fr hwb f1 nq_
    have hts := srcAt.fr hts f1 (fun _ hr => nq_)
    have hf := hf.trans' f1 (fun _ hr => nq_)
    clear f1
    replace hrb := hrbn
    refine n_ (t_ ?_)
    have hR0 : RdS w1 rb G en ts (i1 + 1) (e1) (x1) := by
     have h9 := hrb
     exact ⟨hGr, _, h9, ⟨pl, cl, rfl, hlv0, hlv1, hts, hzl⟩⟩
    obtain ⟨hGr, lv, hrb, htkS⟩ := id hR0
    obtain ⟨pl, cl, hlv, hlv0, hlv1, hts, hzl⟩ := htkS
    subst hlv
    refine r_ (ep E rfl (m_ rfl E.g21) fun a E => ?_)
    obtain ⟨⟨d2, i2, e2, x2⟩, hn2⟩ : ∃ q, q = dyR en ts (i1 + 1) (e1) (x1) := ⟨_, rfl⟩
    have hdi2 := dyR_le (en := en) (ts := ts) (i := i1 + 1) (e := e1) (x := x1)
    rw [← hn2] at hdi2
    replace hdi2 : i2 ≤ i1 + 1 + 1 := hdi2
    refine env_callv (d := 34) (R := fun u w8 => u = .int .i64 d2 ∧ Fr (fun r => r = rb) w1 w8 ∧ RdS w8 rb G en ts (i2) (e2) (x2)) E rfl (by decide) rfl (wanted_none rfl _) (run_call1 (enters_of Tryz.func63 (by kernel_rfl) rfl) rfl rfl E.g0) ((rday_calls hR0 (by omega)).mono fun e w8 h => by rw [← hn2] at h; exact ⟨_, h.1, rfl, h.2⟩) fun a w1 u ⟨hu, f1, hR2⟩ E => ?_
    subst hu
    have hwb := wkB.fr hwb f1 nq_
    have hf := hf.trans' f1 (fun r hr e => .inl e)
    clear f1
    have hR0 := hR2
    clear hR2
    obtain ⟨hGr, lv, hrb, htkS⟩ := id hR0
    obtain ⟨pl, cl, hlv, hlv0, hlv1, hts, hzl⟩ := htkS
    subst hlv
    refine es_ E rfl (a_ rfl E.g0) fun a E => n_ (t_ ?_)
    exact ⟨d2, i2, e2, x2, E.of ⟨E.g23, E.g24, E.g20, E.g0, trivial⟩, hR0, hwb, hf, by rw [if_pos ⟨hz1, by first | rfl | exact hq157⟩]; exact hn2⟩
 clear E
 rintro a w2 ⟨d3, i3, e3, x3, E, hR0, hwb, hf, hqA⟩
 have hD := dys_st hk hn1 hqA
 have hP := PtS.start hD
 rw [← hRp] at hP
 have hdb := dys_pos hD
 obtain ⟨hGr, lv, hrb, htkS⟩ := id hR0
 obtain ⟨pl, cl, hlv, hlv0, hlv1, hts, hzl⟩ := htkS
 subst hlv
 refine s_ (r_ (ep (v := .bool true) E rfl (a_ rfl rfl) fun a E => n_ (t_ (bk_ (wp_loop_ghost (fun k9 a w2 => ∃ (i7 : Nat) (e7 x7 : Int) (ag : Bool) (s : List Sp) (tt : Nat → Bool), Env 141 [(6, .bool ag), (0, .pointer (some ⟨rb, 0, none⟩)), (1, .pointer (some ⟨wb, 0, none⟩)), (4, .int .i64 d1), (5, .int .i64 d3)] a ∧ PtS Rp en d1 d3 ts i7 e7 x7 ag s ∧ RdS w2 rb G en ts i7 e7 x7 ∧ wkB w2 wb tt ∧ (e7 = 0 → ∀ m, m < 10080 → tt m = (t m || mnB s m)) ∧ (ag = true → e7 = 0 → ts.length - i7 < k9) ∧ (e7 = 0 → 0 ≤ d1 ∧ d1 < 7 ∧ 0 ≤ d3 ∧ d3 < 7) ∧ Fr (fun r => r = rb ∨ r = wb) w w2) (ts.length + 1) ?_ ?_)))))
 ·exact ⟨i3, e3, x3, true, [], t, E.of ⟨E.g0, E.g1, E.g2, E.g3, E.g4, trivial⟩, hP, hR0, hwb, fun _ m _ => by rw [mnB_nil, Bool.or_false], fun _ _ => by omega, hdb, hf⟩
 clear E hP hR0 hwb hf hdb hD
 rintro k9 a w2 ⟨i7, e7, x7, ag, s, tt, E, hP, hR0, hwb, htt, hkm, hdb, hf⟩
 obtain ⟨hGr, lv, hrb, htkS⟩ := id hR0
 obtain ⟨pl, cl, hlv, hlv0, hlv1, hts, hzl⟩ := htkS
 subst hlv
 refine s_ (s_ (r_ (ep E rfl (m_ rfl E.g0) fun a E => ep E rfl (m_ rfl E.g0) fun a E => ?_)))
 cases hq158 : ag with
 | false =>
  rw [hq158] at E
  refine ek E rfl rfl E.g0 fun a E => ek E rfl rfl E.g1 fun a E => ek E rfl rfl E.g2 fun a E => ek E rfl rfl E.g3 fun a E => ek E rfl rfl E.g4 fun a E => ep (v := .bool false) E rfl (run_pick_f rfl E.g5 rfl) fun a E => n_ (t_ (c_f E.g0 (x_ (te_ (te_ (be_ ((ret_nil rfl E ⟨rfl, hf, i7, e7, x7, tt, hR0, hwb, ?_⟩).1)))))))
  subst hRp
  exact (hP.out (.inl hq158)).imp id fun ⟨h1, h2, h3, h4⟩ => ⟨h1, h2, s, h3, h4, htt h1⟩
 | true =>
  rw [hq158] at E
  refine eg E rfl (wy_ E E.g0) (m_ rfl E.g3) fun a E => eg E rfl (wy_ E E.g1) (i_ rfl E.g0) fun a E => eg (v := .pointer (some ⟨rb, 3, none⟩)) E rfl (wy_ E E.g2) (fa62_3 rfl E.g0) fun a E => eg (v := .int .i64 e7) E rfl (wy_ E E.g3) (run_lde rfl E.g0 (bx hrb 3 rfl)) fun a E => eg (v := .bool (e7 == 0)) E rfl (wy_ E E.g4) (run_ieql E.g0 rfl Tryz.underlying25 rfl) fun a E => ep (v := .bool (e7 == 0)) E rfl (run_pick_t rfl E.g5 E.g0) fun a E => n_ (t_ ?_)
  cases hq159 : (e7 == 0) with
  | false =>
   rw [hq159] at E
   have hz7 : ¬ e7 = 0 := by simpa using hq159
   refine c_f E.g0 (x_ (te_ (te_ (be_ ((ret_nil rfl E ⟨rfl, hf, i7, e7, x7, tt, hR0, hwb, ?_⟩).1)))))
   subst hRp
   exact (hP.out (.inr hz7)).imp id fun ⟨h1, h2, h3, h4⟩ => ⟨h1, h2, s, h3, h4, htt h1⟩
  | true =>
   rw [hq159] at E
   have hz7 : e7 = 0 := by simpa using hq159
   refine c_t E.g0 (k_ (t_ (bk_ (s_ ?_))))
   replace E : Env 141 [(0, .pointer (some ⟨rb, 0, none⟩)), (1, .pointer (some ⟨wb, 0, none⟩)), (4, .int .i64 d1), (5, .int .i64 d3)] a := E.of ⟨E.g9, E.g10, E.g11, E.g12, trivial⟩
   have hag := hq158
   rw [hz7, hag] at hP
   rw [hz7] at hR0
   have hi7l := hP.le
   have hdb := hdb hz7
   obtain ⟨hGr, lv, hrb, htkS⟩ := id hR0
   obtain ⟨pl, cl, hlv, hlv0, hlv1, hts, hzl⟩ := htkS
   subst hlv
   refine r_ (ep E rfl (m_ rfl E.g0) fun a E => env_callv (d := 45) (R := fun u w8 => ∃ (v y : Int) (i' : Nat) (e2 x2 : Int), u = .tuple #[.int .i64 v, .int .i64 y] ∧ Ck en ts true (i7) (0) (x7) v y i' e2 x2 ∧ Fr (fun r => r = rb) w2 w8 ∧ RdS w8 rb G en ts i' e2 x2) E rfl (by decide) rfl (wanted_none rfl _) (run_call2 (enters_of Tryz.func64 (by kernel_rfl) rfl) rfl rfl E.g0 rfl) ((clockC_calls hR0 hk (by omega) true).mono fun e w8 ⟨v, y, i', e2, x2, h1, h2⟩ => ⟨_, h1, v, y, i', e2, x2, rfl, h2⟩) fun a w1 u ⟨va, ya, ia, ea, xa, hu, cKa, f1, hR2⟩ E => ?_)
   subst hu
   have hBa := cKa.bnd
   have hGa := cKa.rng hk
   have hwb := wkB.fr hwb f1 nq_
   have hf := hf.trans' f1 (fun r hr e => .inl e)
   clear f1
   have hR0 := hR2
   clear hR2
   obtain ⟨hGr, lv, hrb, htkS⟩ := id hR0
   obtain ⟨pl, cl, hlv, hlv0, hlv1, hts, hzl⟩ := htkS
   subst hlv
   refine ep E rfl (m_ rfl E.g0) fun a E => ep (v := .int .i64 va) E rfl (run_ext0 rfl E.g0) fun a E => ep (v := .int .i64 ya) E rfl (run_ext1 rfl E.g1) fun a E => ep E rfl (a_ rfl E.g1) fun a E => ep E rfl (a_ rfl E.g1) fun a E => n_ (t_ (s_ (r_ (ep E rfl (m_ rfl E.g7) fun a E => ?_))))
   obtain ⟨⟨em, xm⟩, hmm⟩ : ∃ q, q = mustE en [45] (ts.drop (ia)) (ea) (xa) := ⟨_, rfl⟩
   refine env_callv (d := 49) (R := fun u w8 => u = .tuple #[] ∧ Fr (fun r => r = rb) w1 w8 ∧ RdS w8 rb G en ts (ia + 1) (em) (xm)) E rfl (by decide) rfl (wanted_none rfl _) (run_call2 (enters_of Tryz.func65 (by kernel_rfl) rfl) rfl rfl E.g0 rfl) ((must_calls hR0 (by omega) [45]).mono fun e w8 h => by rw [← hmm] at h; exact ⟨_, h.1, rfl, h.2⟩) fun a w1 u ⟨hu, f1, hR2⟩ E => ?_
   subst hu
   have hwb := wkB.fr hwb f1 nq_
   have hf := hf.trans' f1 (fun r hr e => .inl e)
   clear f1
   have hR0 := hR2
   clear hR2
   obtain ⟨hGr, lv, hrb, htkS⟩ := id hR0
   obtain ⟨pl, cl, hlv, hlv0, hlv1, hts, hzl⟩ := htkS
   subst hlv
   refine n_ (t_ (s_ (r_ (ep E rfl (m_ rfl E.g9) fun a E => env_callv (d := 52) (R := fun u w8 => ∃ (v y : Int) (i' : Nat) (e2 x2 : Int), u = .tuple #[.int .i64 v, .int .i64 y] ∧ Ck en ts false (ia + 1) (em) (xm) v y i' e2 x2 ∧ Fr (fun r => r = rb) w1 w8 ∧ RdS w8 rb G en ts i' e2 x2) E rfl (by decide) rfl (wanted_none rfl _) (run_call2 (enters_of Tryz.func64 (by kernel_rfl) rfl) rfl rfl E.g0 rfl) ((clockC_calls hR0 hk (by omega) false).mono fun e w8 ⟨v, y, i', e2, x2, h1, h2⟩ => ⟨_, h1, v, y, i', e2, x2, rfl, h2⟩) fun a w1 u ⟨vb, yb, ib, eb, xb, hu, cKb, f1, hR2⟩ E => ?_))))
   subst hu
   have hBb := cKb.bnd
   have hGb := cKb.rng hk
   have hwb := wkB.fr hwb f1 nq_
   have hf := hf.trans' f1 (fun r hr e => .inl e)
   clear f1
   have hR0 := hR2
   clear hR2
   obtain ⟨hGr, lv, hrb, htkS⟩ := id hR0
   obtain ⟨pl, cl, hlv, hlv0, hlv1, hts, hzl⟩ := htkS
   subst hlv
   refine ep E rfl (m_ rfl E.g0) fun a E => ep (v := .int .i64 vb) E rfl (run_ext0 rfl E.g0) fun a E => ep (v := .int .i64 yb) E rfl (run_ext1 rfl E.g1) fun a E => ep E rfl (a_ rfl E.g1) fun a E => ep E rfl (a_ rfl E.g1) fun a E => n_ (t_ (wp_seq_cut (fun a w2 => ∃ (er xr : Int), Env 141 [(0, .pointer (some ⟨rb, 0, none⟩)), (1, .pointer (some ⟨wb, 0, none⟩)), (4, .int .i64 d1), (5, .int .i64 d3), (7, .int .i64 va), (9, .int .i64 vb)] a ∧ RdS w2 rb G en ts ib er xr ∧ wkB w2 wb tt ∧ Fr (fun r => r = rb ∨ r = wb) w w2 ∧ (er, xr) = if eb = 0 ∧ va = vb then (10, yb) else (eb, xb)) ?_ ?_))
   ·refine s_ ?_
    refine r_ (ep E rfl (m_ rfl E.g16) fun a E => ep E rfl (i_ rfl E.g0) fun a E => ep (v := .pointer (some ⟨rb, 3, none⟩)) E rfl (fa62_3 rfl E.g0) fun a E => ep (v := .int .i64 eb) E rfl (run_lde rfl E.g0 (bx hrb 3 rfl)) fun a E => ep (v := .bool (eb == 0)) E rfl (run_ieql E.g0 rfl Tryz.underlying25 rfl) fun a E => ep E rfl (m_ rfl E.g0) fun a E => ?_)
    cases hq160 : (eb == 0) with
    | false =>
     rw [hq160] at E
     have hzb : ¬ eb = 0 := by simpa using hq160
     refine ek E rfl rfl E.g0 fun a E => ek E rfl rfl E.g1 fun a E => ek E rfl rfl E.g2 fun a E => ep (v := .bool false) E rfl (run_pick_f rfl E.g3 rfl) fun a E => n_ (t_ (c_f E.g0 (k_ (t_ ?_))))
     exact ⟨eb, xb, E.of ⟨E.g26, E.g27, E.g28, E.g29, E.g20, E.g11, trivial⟩, hR0, hwb, hf, (if_neg (fun h => hzb h.1)).symm⟩
    | true =>
     rw [hq160] at E
     have hzb : eb = 0 := by simpa using hq160
     refine eg E rfl (wy_ E E.g0) (m_ rfl E.g16) fun a E => eg E rfl (wy_ E E.g1) (m_ rfl E.g8) fun a E => eg (v := .bool (va == vb)) E rfl (wy_ E E.g2) (run_ieql E.g1 E.g0 Tryz.underlying3 rfl) fun a E => ep (v := .bool (va == vb)) E rfl (run_pick_t rfl E.g3 E.g0) fun a E => n_ (t_ ?_)
     cases hq161 : (va == vb) with
     | false =>
      rw [hq161] at E
      have hab : ¬ va = vb := by simpa using hq161
      refine c_f E.g0 (k_ (t_ ?_))
      exact ⟨eb, xb, E.of ⟨E.g26, E.g27, E.g28, E.g29, E.g20, E.g11, trivial⟩, hR0, hwb, hf, (if_neg (fun h => hab h.2)).symm⟩
     | true =>
      rw [hq161] at E
      have hab : va = vb := by simpa using hq161
      refine c_t E.g0 (r_ (ep E rfl (m_ rfl E.g26) fun a E => ep E rfl (m_ rfl E.g11) fun a E => env_callv (d := 67) (R := fun u w8 => u = .tuple #[] ∧ Fr (fun r => r = rb) w1 w8 ∧ RdS w8 rb G en ts (ib) ((firstE eb xb (10, yb)).1) ((firstE eb xb (10, yb)).2)) E rfl (by decide) rfl (wanted_none rfl _) (run_call3 (enters_of Tryz.func41 (by kernel_rfl) rfl) rfl rfl E.g1 rfl E.g0) ((raise_calls hR0 10 yb).mono fun e w8 h => ⟨_, h.1, rfl, h.2⟩) fun a w1 u ⟨hu, f1, hR2⟩ E => ?_))
      subst hu
      have hwb := wkB.fr hwb f1 nq_
      have hf := hf.trans' f1 (fun r hr e => .inl e)
      clear f1
      have hR0 := hR2
      clear hR2
      obtain ⟨hGr, lv, hrb, htkS⟩ := id hR0
      obtain ⟨pl, cl, hlv, hlv0, hlv1, hts, hzl⟩ := htkS
      subst hlv
      refine n_ (t_ ?_)
      have hqf : firstE eb xb (10, yb) = (10, yb) := if_pos hzb
      rw [hqf] at hR0
      exact ⟨10, yb, E.of ⟨E.g29, E.g30, E.g31, E.g32, E.g23, E.g14, trivial⟩, hR0, hwb, hf, (if_pos ⟨hzb, hab⟩).symm⟩
   clear E
   rintro a w2 ⟨er, xr, E, hR0, hwb, hf, hqB⟩
   have hT := time_st hk cKa hmm cKb hqB d1 d3
   have hi7 : ib ≤ i7 + 7 := by omega
   obtain ⟨bb, hbb⟩ : ∃ bb, bb = if vb < va then vb + 1440 else vb := ⟨_, rfl⟩
   obtain ⟨hGr, lv, hrb, htkS⟩ := id hR0
   obtain ⟨pl, cl, hlv, hlv0, hlv1, hts, hzl⟩ := htkS
   subst hlv
   refine wp_seq_cut (fun a w2 => ∃ (t2 : Nat → Bool), Env 141 [(0, .pointer (some ⟨rb, 0, none⟩)), (1, .pointer (some ⟨wb, 0, none⟩)), (4, .int .i64 d1), (5, .int .i64 d3)] a ∧ RdS w2 rb G en ts ib er xr ∧ wkB w2 wb t2 ∧ Fr (fun r => r = rb ∨ r = wb) w w2 ∧ (er = 0 → ∀ m, m < 10080 → t2 m = (tt m || mnB (dayL d1 ((d3 - d1 + 7).tmod 7 + 1) va (if vb < va then vb + 1440 else vb)) m))) ?_ ?_
   ·refine s_ ?_
    refine r_ (ep E rfl (m_ rfl E.g2) fun a E => ep E rfl (a_ rfl E.g0) fun a E => n_ (t_ (bk_ (wp_loop (fun a w2 => ∃ (d : Int) (j : Nat) (td : Nat → Bool), Env 141 [(11, .int .i64 d), (0, .pointer (some ⟨rb, 0, none⟩)), (1, .pointer (some ⟨wb, 0, none⟩)), (4, .int .i64 d1), (5, .int .i64 d3), (7, .int .i64 va), (9, .int .i64 vb)] a ∧ (er = 0 → d = (d1 + j) % 7 ∧ (j : Int) ≤ (d3 - d1 + 7) % 7 ∧ ∀ m, m < 10080 → td m = (tt m || mnB (dayL d1 j va bb) m)) ∧ RdS w2 rb G en ts ib er xr ∧ wkB w2 wb td ∧ Fr (fun r => r = rb ∨ r = wb) w w2) (fun a _ => ((intOf (a.eval (.tmp 5)) - intOf (a.eval (.tmp 11))) % 7).toNat) ?_ ?_))))
    ·exact ⟨d1, 0, tt, E.of ⟨E.g0, E.g2, E.g3, E.g4, E.g5, E.g6, E.g7, trivial⟩, fun _ => ⟨by omega, by omega, fun m _ => by rw [dayL_zero, mnB_nil, Bool.or_false]⟩, hR0, hwb, hf⟩
    clear E
    rintro a w2 ⟨d, j, td, E, hd, hR0, hwb, hf⟩
    have hmu : ((intOf (a.eval (.tmp 5)) - intOf (a.eval (.tmp 11))) % 7).toNat = ((d3 - d) % 7).toNat := by rw [E.g4, E.g0]; first | rfl | (simp [intOf]; done) | (simp only [intOf]; omega)
    rw [hmu]
    clear hmu
    obtain ⟨hGr, lv, hrb, htkS⟩ := id hR0
    obtain ⟨pl, cl, hlv, hlv0, hlv1, hts, hzl⟩ := htkS
    subst hlv
    refine s_ (s_ (r_ (ep E rfl (m_ rfl E.g1) fun a E => ep E rfl (i_ rfl E.g0) fun a E => ep (v := .pointer (some ⟨rb, 3, none⟩)) E rfl (fa62_3 rfl E.g0) fun a E => ep (v := .int .i64 er) E rfl (run_lde rfl E.g0 (bx hrb 3 rfl)) fun a E => ep (v := .bool (er == 0)) E rfl (run_ieql E.g0 rfl Tryz.underlying25 rfl) fun a E => n_ (t_ ?_))))
    cases hq163 : (er == 0) with
    | false =>
     rw [hq163] at E
     have hzr : ¬ er = 0 := by simpa using hq163
     refine c_f E.g0 (x_ (te_ (te_ (be_ (t_ ?_)))))
     exact ⟨td, E.of ⟨E.g6, E.g7, E.g8, E.g9, trivial⟩, hR0, hwb, hf, fun h => absurd h hzr⟩
    | true =>
     rw [hq163] at E
     have hzr : er = 0 := by simpa using hq163
     refine c_t E.g0 (k_ (t_ (s_ (bk_ (s_ ?_)))))
     have hbp := time_pos hT hzr
     obtain ⟨hd1, hj, htd⟩ := hd hzr
     have hbb2 : va ≤ bb ∧ bb ≤ va + 1440 := by rw [hbb]; split <;> omega
     have hd7 : 0 ≤ d ∧ d < 7 := by omega
     refine r_ (ep E rfl (m_ rfl E.g11) fun a E => ep E rfl (m_ rfl E.g11) fun a E => ep (v := .int .i64 (vb - va)) E rfl (run_isub Tryz.underlying3 E.g1 E.g0 (by omega) (by omega) rfl) fun a E => ep E rfl (a_ rfl E.g0) fun a E => n_ (t_ (wp_seq_cut (fun a w2 => ∃ (nn : Int), Env 141 [(12, .int .i64 nn), (11, .int .i64 d), (0, .pointer (some ⟨rb, 0, none⟩)), (1, .pointer (some ⟨wb, 0, none⟩)), (4, .int .i64 d1), (5, .int .i64 d3), (7, .int .i64 va), (9, .int .i64 vb)] a ∧ RdS w2 rb G en ts ib er xr ∧ wkB w2 wb td ∧ Fr (fun r => r = rb ∨ r = wb) w w2 ∧ nn = bb - va) ?_ ?_)))
     ·refine s_ ?_
      refine r_ (ep E rfl (m_ rfl E.g15) fun a E => ep E rfl (m_ rfl E.g15) fun a E => ep (v := .bool (decide (vb < va))) E rfl (run_ilss E.g1 E.g0 Tryz.underlying3 rfl) fun a E => n_ (t_ ?_))
      cases hq164 : (decide (vb < va)) with
      | false =>
       rw [hq164] at E
       have hlt9 := of_decide_eq_false hq164
       refine c_f E.g0 (k_ (t_ ?_))
       exact ⟨(vb - va), E.of ⟨E.g3, E.g12, E.g13, E.g14, E.g15, E.g16, E.g17, E.g18, trivial⟩, hR0, hwb, hf, by rw [hbb, if_neg hlt9]⟩
      | true =>
       rw [hq164] at E
       have hlt9 := of_decide_eq_true hq164
       refine c_t E.g0 (r_ (ep E rfl (m_ rfl E.g3) fun a E => ep (v := .int .i64 ((vb - va) + 1440)) E rfl (run_iadd Tryz.underlying3 E.g0 rfl (by omega) (by omega) rfl) fun a E => es_ E rfl (a_ rfl E.g0) fun a E => n_ (t_ ?_)))
       exact ⟨((vb - va) + 1440), E.of ⟨E.g0, E.g14, E.g15, E.g16, E.g17, E.g18, E.g19, E.g20, trivial⟩, hR0, hwb, hf, by rw [hbb, if_pos hlt9]; omega⟩
     clear E
     rintro a w2 ⟨nn, E, hR0, hwb, hf, hnn⟩
     obtain ⟨hGr, lv, hrb, htkS⟩ := id hR0
     obtain ⟨pl, cl, hlv, hlv0, hlv1, hts, hzl⟩ := htkS
     subst hlv
     refine s_ (s_ (r_ (ep (v := .int .i64 0) E rfl (a_ rfl rfl) fun a E => n_ (t_ (bk_ (wp_loop (fun a w2 => ∃ (k : Nat) (tk : Nat → Bool), Env 141 [(13, .int .i64 (k : Int)), (12, .int .i64 nn), (11, .int .i64 d), (0, .pointer (some ⟨rb, 0, none⟩)), (1, .pointer (some ⟨wb, 0, none⟩)), (4, .int .i64 d1), (5, .int .i64 d3), (7, .int .i64 va), (9, .int .i64 vb)] a ∧ (k : Int) ≤ nn ∧ (∀ m, m < 10080 → tk m = (td m || arB (1440 * d + va) k m)) ∧ RdS w2 rb G en ts ib er xr ∧ wkB w2 wb tk ∧ Fr (fun r => r = rb ∨ r = wb) w w2) (fun a _ => (intOf (a.eval (.tmp 12)) - intOf (a.eval (.tmp 13))).toNat) ?_ ?_))))))
     ·exact ⟨0, td, E.of ⟨E.g0, E.g1, E.g2, E.g3, E.g4, E.g5, E.g6, E.g7, E.g8, trivial⟩, by omega, fun m _ => by rw [show (((0 : Nat) : Int)) = 0 from rfl, arB_zero, Bool.or_false], hR0, hwb, hf⟩
     clear E
     rintro a w2 ⟨k, tk, E, hk9, htk, hR0, hwb, hf⟩
     have hmu : (intOf (a.eval (.tmp 12)) - intOf (a.eval (.tmp 13))).toNat = (nn - k).toNat := by rw [E.g1, E.g0]; first | rfl | (simp [intOf]; done) | (simp only [intOf]; omega)
     rw [hmu]
     clear hmu
     obtain ⟨hGr, lv, hrb, htkS⟩ := id hR0
     obtain ⟨pl, cl, hlv, hlv0, hlv1, hts, hzl⟩ := htkS
     subst hlv
     refine s_ (s_ (r_ (ep E rfl (m_ rfl E.g0) fun a E => ep E rfl (m_ rfl E.g2) fun a E => ep (v := .bool (decide ((k : Int) < nn))) E rfl (run_ilss E.g1 E.g0 Tryz.underlying3 rfl) fun a E => n_ (t_ ?_))))
     cases hq166 : (decide ((k : Int) < nn)) with
     | false =>
      rw [hq166] at E
      have hkn := of_decide_eq_false hq166
      refine c_f E.g0 (x_ (te_ (te_ (be_ (t_ (s_ ?_))))))
      have hkn9 : (k : Int) = nn := by omega
      have hfl : ∀ m, m < 10080 → tk m = (td m || arB (1440 * d + va) (bb - va) m) := fun m hm => by rw [htk m hm, hkn9, hnn]
      refine r_ (ep E rfl (m_ rfl E.g5) fun a E => ep E rfl (m_ rfl E.g10) fun a E => ep (v := .bool (d == d3)) E rfl (run_ieql E.g1 E.g0 Tryz.underlying3 rfl) fun a E => n_ (t_ ?_))
      cases hq167 : (d == d3) with
      | false =>
       rw [hq167] at E
       have hde : ¬ d = d3 := by simpa using hq167
       refine c_f E.g0 (k_ (b_ (t_ (r_ (ep E rfl (m_ rfl E.g8) fun a E => ep (v := .int .i64 (d + 1)) E rfl (run_iadd Tryz.underlying3 E.g0 rfl (by omega) (by omega) rfl) fun a E => ep (v := .int .i64 ((d + 1) % 7)) E rfl (run_irem E.g0 rfl (by omega) (by omega) (by omega) (by omega) rfl) fun a E => es_ E rfl (a_ rfl E.g0) fun a E => n_ (t_ ?_))))))
       refine ⟨⟨(d + 1) % 7, j + 1, tk, E.of ⟨E.g0, E.g12, E.g13, E.g14, E.g15, E.g16, E.g17, trivial⟩, fun _ => ⟨by omega, by omega, fun m hm => ?_⟩, hR0, hwb, hf⟩, ?_⟩
       ·have e9 : ((j + 1 : Nat) : Int) = (j : Int) + 1 := by omega
        rw [e9]; exact fill_day hd1 hdb.1 hbp.1 hbp.2.1 (by omega) (by omega) hm (htd m hm) (hfl m hm)
       ·rw [E.g15, E.g0]; simp only [intOf]; omega
      | true =>
       rw [hq167] at E
       have hde : d = d3 := by simpa using hq167
       refine c_t E.g0 (x_ (blk_x (by decide) (te_ (te_ (be_ (t_ ?_))))))
       have hjn : (d3 - d1 + 7).tmod 7 = (j : Int) := by rw [Int.tmod_eq_emod_of_nonneg (by omega)]; omega
       exact ⟨tk, E.of ⟨E.g9, E.g10, E.g11, E.g12, trivial⟩, hR0, hwb, hf, fun _ m hm => by rw [hjn, ← hbb]; exact fill_day hd1 hdb.1 hbp.1 hbp.2.1 (by omega) (by omega) hm (htd m hm) (hfl m hm)⟩
     | true =>
      rw [hq166] at E
      have hkn := of_decide_eq_true hq166
      refine c_t E.g0 (k_ (t_ (s_ (bk_ ?_))))
      obtain ⟨mm, hmm9⟩ : ∃ mm : Nat, ((((1440 * d) + va) + (k : Int)) % 10080) = (mm : Int) := ⟨(((((1440 * d) + va) + (k : Int)) % 10080)).toNat, by omega⟩
      have hmm8 : mm < 10080 := by omega
      refine r_ (ep E rfl (m_ rfl E.g7) fun a E => ep E rfl (m_ rfl E.g6) fun a E => ep (v := .int .i64 (1440 * d)) E rfl (run_imul Tryz.underlying3 rfl E.g0 (by omega) (by omega) rfl) fun a E => ep E rfl (m_ rfl E.g13) fun a E => ep (v := .int .i64 ((1440 * d) + va)) E rfl (run_iadd Tryz.underlying3 E.g1 E.g0 (by omega) (by omega) rfl) fun a E => ep E rfl (m_ rfl E.g8) fun a E => ep (v := .int .i64 (((1440 * d) + va) + (k : Int))) E rfl (run_iadd Tryz.underlying3 E.g1 E.g0 (by omega) (by omega) rfl) fun a E => ep (v := .int .i64 ((((1440 * d) + va) + (k : Int)) % 10080)) E rfl (run_irem E.g0 rfl (by omega) (by omega) (by omega) (by omega) rfl) fun a E => ep E rfl (i_ rfl E.g7) fun a E => ep (v := .pointer (some ⟨wb, (0 + mm), none⟩)) E rfl (run_index65 (i := mm) rfl E.g0 (E.g1.trans (by rw [hmm9])) hmm8) fun a E => env_stw E rfl (wanted_none rfl _) rfl E.g0 rfl hwb hmm8 fun w1 hwbn f1 E => ?_)
      have hrb := f1.obj hrb nq_
      have hts := srcAt.fr hts f1 (fun _ hr => nq_)
      have hR0 := RdS.fr hR0 f1 (fun _ hr => nq_)
      have hf := hf.trans' f1 (fun _ hr => nq_)
      clear f1
      replace hwb := hwbn
      refine n_ (b_ (t_ (r_ (ep E rfl (m_ rfl E.g13) fun a E => ep (v := .int .i64 ((k : Int) + 1)) E rfl (run_iadd Tryz.underlying3 E.g0 rfl (by omega) (by omega) rfl) fun a E => es_ E rfl (a_ rfl E.g0) fun a E => n_ (t_ ?_)))))
      refine ⟨⟨k + 1, _, E.of ⟨E.g0, E.g16, E.g17, E.g18, E.g19, E.g20, E.g21, E.g22, E.g23, trivial⟩, by omega, fun m hm => ?_, hR0, hwb, hf⟩, ?_⟩
      ·have e9 : ((k + 1 : Nat) : Int) = (k : Int) + 1 := by omega
       rw [e9, arB_succ (by omega) (by omega) (by omega) hm, ← Bool.or_assoc, ← htk m hm]
       by_cases h9 : m = mm
       ·rw [if_pos h9, decide_eq_true (by rw [h9]; omega), Bool.or_true]
       ·rw [if_neg h9, decide_eq_false (by omega), Bool.or_false]
      ·rw [E.g16, E.g0]; simp only [intOf]; omega
   clear E
   rintro a w2 ⟨t2, E, hR0, hwb, hf, hC⟩
   obtain ⟨hGr, lv, hrb, htkS⟩ := id hR0
   obtain ⟨pl, cl, hlv, hlv0, hlv1, hts, hzl⟩ := htkS
   subst hlv
   refine s_ ?_
   cases hq168 : (seesR [44] (ts.drop ib)) with
   | false =>
    refine wp_region_invg (n := 141) (base := [(0, .pointer (some ⟨rb, 0, none⟩)), (1, .pointer (some ⟨wb, 0, none⟩)), (4, .int .i64 d1), (5, .int .i64 d3)]) (T := [some (103, .pointer (some ⟨rb, 0, none⟩)), some (104, .bool false), some (105, .bool false), some (106, undef), some (107, undef), some (108, undef), some (109, undef), some (110, undef), some (111, undef), some (112, undef), some (113, undef), some (114, undef), some (115, undef), some (116, undef), some (117, .bool false), some (118, .bool false), some (119, undef), some (120, undef), some (121, undef), some (122, undef), some (123, undef), some (124, undef), some (125, undef), some (126, undef), some (127, undef), some (128, undef), some (129, undef), some (130, undef), some (131, undef), some (132, .bool false), some (6, .bool false)]) (M := fun _ wm => Fr (fun _ => False) w2 wm) (by kernel_rfl) (by kernel_rfl) (by kernel_rfl) (E.of ⟨E.g0, E.g1, E.g2, E.g3, trivial⟩) (Fr.refl _ _).drew ?_ ?_
    ·intro j9 o9 t9 ls9 a w5 ho hT0 hl E D DL hM
     have hwb := wkB.fr hwb hM id
     have hrb := hM.obj hrb id
     have hts := srcAt.fr hts hM (fun r hr => id)
     have hR0 := RdS.fr hR0 hM (fun r hr => id)
     match j9, ho, hT0, hl, D, DL with
     | 0, ho, hT0, hl, D, DL => exact y0_ ho hT0 (val_wp (m_ rfl E.g0) rfl hM)
     | 1, ho, hT0, hl, D, DL => exact y0_ ho hT0 (call_wp (run_call2 (enters_of Tryz.func36 (by kernel_rfl) rfl) rfl rfl (D 0 _ rfl rfl) rfl) (by have h := (seesR_calls hR0 [44]); rw [hq168] at h; exact h) rfl fun w9 f1 => (hM.trans f1))
     | 2, ho, hT0, hl, D, DL => exact y0_ ho hT0 (val_wp (m_ rfl (D 1 _ rfl rfl)) rfl hM)
     | 3, ho, hT0, hl, D, DL => exact y2_ ho hT0 E (D 2 _ rfl rfl) hM
     | 4, ho, hT0, hl, D, DL => exact y2_ ho hT0 E (D 2 _ rfl rfl) hM
     | 5, ho, hT0, hl, D, DL => exact y2_ ho hT0 E (D 2 _ rfl rfl) hM
     | 6, ho, hT0, hl, D, DL => exact y2_ ho hT0 E (D 2 _ rfl rfl) hM
     | 7, ho, hT0, hl, D, DL => exact y2_ ho hT0 E (D 2 _ rfl rfl) hM
     | 8, ho, hT0, hl, D, DL => exact y2_ ho hT0 E (D 2 _ rfl rfl) hM
     | 9, ho, hT0, hl, D, DL => exact y2_ ho hT0 E (D 2 _ rfl rfl) hM
     | 10, ho, hT0, hl, D, DL => exact y2_ ho hT0 E (D 2 _ rfl rfl) hM
     | 11, ho, hT0, hl, D, DL => exact y2_ ho hT0 E (D 2 _ rfl rfl) hM
     | 12, ho, hT0, hl, D, DL => exact y2_ ho hT0 E (D 2 _ rfl rfl) hM
     | 13, ho, hT0, hl, D, DL => exact y2_ ho hT0 E (D 2 _ rfl rfl) hM
     | 14, ho, hT0, hl, D, DL => exact y0_ ho hT0 (val_wp (run_pick_f rfl (D 2 _ rfl rfl) rfl) rfl hM)
     | 15, ho, hT0, hl, D, DL => exact y0_ ho hT0 (val_wp (m_ rfl (D 14 _ rfl rfl)) rfl hM)
     | 16, ho, hT0, hl, D, DL => exact y2_ ho hT0 E (D 15 _ rfl rfl) hM
     | 17, ho, hT0, hl, D, DL => exact y2_ ho hT0 E (D 15 _ rfl rfl) hM
     | 18, ho, hT0, hl, D, DL => exact y2_ ho hT0 E (D 15 _ rfl rfl) hM
     | 19, ho, hT0, hl, D, DL => exact y2_ ho hT0 E (D 15 _ rfl rfl) hM
     | 20, ho, hT0, hl, D, DL => exact y2_ ho hT0 E (D 15 _ rfl rfl) hM
     | 21, ho, hT0, hl, D, DL => exact y2_ ho hT0 E (D 15 _ rfl rfl) hM
     | 22, ho, hT0, hl, D, DL => exact y2_ ho hT0 E (D 15 _ rfl rfl) hM
     | 23, ho, hT0, hl, D, DL => exact y2_ ho hT0 E (D 15 _ rfl rfl) hM
     | 24, ho, hT0, hl, D, DL => exact y2_ ho hT0 E (D 15 _ rfl rfl) hM
     | 25, ho, hT0, hl, D, DL => exact y2_ ho hT0 E (D 15 _ rfl rfl) hM
     | 26, ho, hT0, hl, D, DL => exact y2_ ho hT0 E (D 15 _ rfl rfl) hM
     | 27, ho, hT0, hl, D, DL => exact y2_ ho hT0 E (D 15 _ rfl rfl) hM
     | 28, ho, hT0, hl, D, DL => exact y2_ ho hT0 E (D 15 _ rfl rfl) hM
     | 29, ho, hT0, hl, D, DL => exact y0_ ho hT0 (val_wp (run_pick_f rfl (D 15 _ rfl rfl) rfl) rfl hM)
     | 30, ho, hT0, hl, D, DL => exact y0_ ho hT0 (val_wp (a_ rfl (D 29 _ rfl rfl)) rfl hM)
     | j9 + 31, ho, hT0, hl, D, DL => exact absurd hT0 (by simp)
    ·intro a w5 E V hM
     have E := E.add (V 30 _ rfl)
     clear V
     have hwb := wkB.fr hwb hM id
     have hrb := hM.obj hrb id
     have hts := srcAt.fr hts hM (fun r hr => id)
     have hR0 := RdS.fr hR0 hM (fun r hr => id)
     have hf := hf.trans' hM (fun _ _ h => h.elim)
     clear hM
     refine t_ (s_ (r_ (ep E rfl (m_ rfl E.g0) fun a E => n_ (t_ (c_f E.g0 (k_ (b_ (t_ ?_))))))))
     have hmr : more (ts.drop ib) = false := by
      rw [Bool.eq_false_iff]
      intro h9
      obtain ⟨h8, u9, h7, h6⟩ := (more_atR hk).1 h9
      rw [hq168] at h8; cases h8
     have hP2 := hP.next (i5 := ib) hk hdb.1 hi7 hT hmr (fun _ => by simp)
     exact ⟨k9 - 1, by have := hkm hag hz7; omega, ib, er, xr, false, _, t2, E.of ⟨E.g1, E.g2, E.g3, E.g4, E.g5, trivial⟩, hP2, hR0, hwb, fun h m hm => by rw [hC h m hm, htt hz7 m hm, mnB_app, Bool.or_assoc], fun h _ => by exact absurd h Bool.false_ne_true, fun _ => hdb, hf⟩
   | true =>
    cases hq170 : (decide (((ib : Int) + 1) < (ts.length : Int))) with
    | false =>
     have hlen := of_decide_eq_false hq170
     refine wp_region_invg (n := 141) (base := [(0, .pointer (some ⟨rb, 0, none⟩)), (1, .pointer (some ⟨wb, 0, none⟩)), (4, .int .i64 d1), (5, .int .i64 d3)]) (T := [some (103, .pointer (some ⟨rb, 0, none⟩)), some (104, .bool true), some (105, .bool true), some (106, .pointer (some ⟨rb, 0, none⟩)), some (107, .pointer (some ⟨rb, 0, none⟩)), some (108, .pointer (some ⟨rb, 1, none⟩)), some (109, .int .i64 (ib : Int)), some (110, .int .i64 ((ib : Int) + 1)), some (111, .pointer (some ⟨rb, 0, none⟩)), some (112, .pointer (some ⟨rb, 0, none⟩)), some (113, .pointer (some ⟨rb, 0, none⟩)), some (114, .slice (pl) ts.length cl), some (115, .int .i64 (ts.length : Int)), some (116, .bool false), some (117, .bool false), some (118, .bool false), some (119, undef), some (120, undef), some (121, undef), some (122, undef), some (123, undef), some (124, undef), some (125, undef), some (126, undef), some (127, undef), some (128, undef), some (129, undef), some (130, undef), some (131, undef), some (132, .bool false), some (6, .bool false)]) (M := fun _ wm => Fr (fun _ => False) w2 wm) (by kernel_rfl) (by kernel_rfl) (by kernel_rfl) (E.of ⟨E.g0, E.g1, E.g2, E.g3, trivial⟩) (Fr.refl _ _).drew ?_ ?_
     ·intro j9 o9 t9 ls9 a w5 ho hT0 hl E D DL hM
      have hwb := wkB.fr hwb hM id
      have hrb := hM.obj hrb id
      have hts := srcAt.fr hts hM (fun r hr => id)
      have hR0 := RdS.fr hR0 hM (fun r hr => id)
      match j9, ho, hT0, hl, D, DL with
      | 0, ho, hT0, hl, D, DL => exact y0_ ho hT0 (val_wp (m_ rfl E.g0) rfl hM)
      | 1, ho, hT0, hl, D, DL => exact y0_ ho hT0 (call_wp (run_call2 (enters_of Tryz.func36 (by kernel_rfl) rfl) rfl rfl (D 0 _ rfl rfl) rfl) (by have h := (seesR_calls hR0 [44]); rw [hq168] at h; exact h) rfl fun w9 f1 => (hM.trans f1))
      | 2, ho, hT0, hl, D, DL => exact y0_ ho hT0 (val_wp (m_ rfl (D 1 _ rfl rfl)) rfl hM)
      | 3, ho, hT0, hl, D, DL => exact y1_ ho hT0 E (D 2 _ rfl rfl) (val_wp (m_ rfl E.g0) rfl hM)
      | 4, ho, hT0, hl, D, DL => exact y1_ ho hT0 E (D 2 _ rfl rfl) (val_wp (i_ rfl (D 3 _ rfl rfl)) rfl hM)
      | 5, ho, hT0, hl, D, DL => exact y1_ ho hT0 E (D 2 _ rfl rfl) (val_wp (fa62_1 rfl (D 4 _ rfl rfl)) rfl hM)
      | 6, ho, hT0, hl, D, DL => exact y1_ ho hT0 E (D 2 _ rfl rfl) (val_wp (run_ldi rfl (D 5 _ rfl rfl) (bx hrb 1 rfl)) rfl hM)
      | 7, ho, hT0, hl, D, DL => exact y1_ ho hT0 E (D 2 _ rfl rfl) (val_wp (run_iadd Tryz.underlying3 (D 6 _ rfl rfl) rfl (by omega) (by omega) rfl) rfl hM)
      | 8, ho, hT0, hl, D, DL => exact y1_ ho hT0 E (D 2 _ rfl rfl) (val_wp (m_ rfl E.g0) rfl hM)
      | 9, ho, hT0, hl, D, DL => exact y1_ ho hT0 E (D 2 _ rfl rfl) (val_wp (i_ rfl (D 8 _ rfl rfl)) rfl hM)
      | 10, ho, hT0, hl, D, DL => exact y1_ ho hT0 E (D 2 _ rfl rfl) (val_wp (fa62_0 rfl (D 9 _ rfl rfl)) rfl hM)
      | 11, ho, hT0, hl, D, DL => exact y1_ ho hT0 E (D 2 _ rfl rfl) (val_wp (run_ld34 rfl (D 10 _ rfl rfl) (bx hrb 0 rfl)) rfl hM)
      | 12, ho, hT0, hl, D, DL => exact y1_ ho hT0 E (D 2 _ rfl rfl) (val_wp (run_len34 rfl (D 11 _ rfl rfl)) rfl hM)
      | 13, ho, hT0, hl, D, DL => exact y1_ ho hT0 E (D 2 _ rfl rfl) (val_wp ((run_ilss (D 7 _ rfl rfl) (D 12 _ rfl rfl) Tryz.underlying3 rfl).trans (by rw [hq170] <;> rfl)) rfl hM)
      | 14, ho, hT0, hl, D, DL => exact y0_ ho hT0 (val_wp (run_pick_t rfl (D 2 _ rfl rfl) (D 13 _ rfl rfl)) rfl hM)
      | 15, ho, hT0, hl, D, DL => exact y0_ ho hT0 (val_wp (m_ rfl (D 14 _ rfl rfl)) rfl hM)
      | 16, ho, hT0, hl, D, DL => exact y2_ ho hT0 E (D 15 _ rfl rfl) hM
      | 17, ho, hT0, hl, D, DL => exact y2_ ho hT0 E (D 15 _ rfl rfl) hM
      | 18, ho, hT0, hl, D, DL => exact y2_ ho hT0 E (D 15 _ rfl rfl) hM
      | 19, ho, hT0, hl, D, DL => exact y2_ ho hT0 E (D 15 _ rfl rfl) hM
      | 20, ho, hT0, hl, D, DL => exact y2_ ho hT0 E (D 15 _ rfl rfl) hM
      | 21, ho, hT0, hl, D, DL => exact y2_ ho hT0 E (D 15 _ rfl rfl) hM
      | 22, ho, hT0, hl, D, DL => exact y2_ ho hT0 E (D 15 _ rfl rfl) hM
      | 23, ho, hT0, hl, D, DL => exact y2_ ho hT0 E (D 15 _ rfl rfl) hM
      | 24, ho, hT0, hl, D, DL => exact y2_ ho hT0 E (D 15 _ rfl rfl) hM
      | 25, ho, hT0, hl, D, DL => exact y2_ ho hT0 E (D 15 _ rfl rfl) hM
      | 26, ho, hT0, hl, D, DL => exact y2_ ho hT0 E (D 15 _ rfl rfl) hM
      | 27, ho, hT0, hl, D, DL => exact y2_ ho hT0 E (D 15 _ rfl rfl) hM
      | 28, ho, hT0, hl, D, DL => exact y2_ ho hT0 E (D 15 _ rfl rfl) hM
      | 29, ho, hT0, hl, D, DL => exact y0_ ho hT0 (val_wp (run_pick_f rfl (D 15 _ rfl rfl) rfl) rfl hM)
      | 30, ho, hT0, hl, D, DL => exact y0_ ho hT0 (val_wp (a_ rfl (D 29 _ rfl rfl)) rfl hM)
      | j9 + 31, ho, hT0, hl, D, DL => exact absurd hT0 (by simp)
     ·intro a w5 E V hM
      have E := E.add (V 30 _ rfl)
      clear V
      have hwb := wkB.fr hwb hM id
      have hrb := hM.obj hrb id
      have hts := srcAt.fr hts hM (fun r hr => id)
      have hR0 := RdS.fr hR0 hM (fun r hr => id)
      have hf := hf.trans' hM (fun _ _ h => h.elim)
      clear hM
      refine t_ (s_ (r_ (ep E rfl (m_ rfl E.g0) fun a E => n_ (t_ (c_f E.g0 (k_ (b_ (t_ ?_))))))))
      have hmr : more (ts.drop ib) = false := by
       rw [Bool.eq_false_iff]
       intro h9
       obtain ⟨h8, u9, h7, h6⟩ := (more_atR hk).1 h9
       have := (List.getElem?_eq_some_iff.1 h7).1; omega
      have hP2 := hP.next (i5 := ib) hk hdb.1 hi7 hT hmr (fun _ => by simp)
      exact ⟨k9 - 1, by have := hkm hag hz7; omega, ib, er, xr, false, _, t2, E.of ⟨E.g1, E.g2, E.g3, E.g4, E.g5, trivial⟩, hP2, hR0, hwb, fun h m hm => by rw [hC h m hm, htt hz7 m hm, mnB_app, Bool.or_assoc], fun h _ => by exact absurd h Bool.false_ne_true, fun _ => hdb, hf⟩
    | true =>
     have hlen := of_decide_eq_true hq170
     have hlt8 : ib + 1 < ts.length := by omega
     obtain ⟨u, hu⟩ : ∃ y, ts[ib + 1]? = some y := ⟨_, List.getElem?_eq_getElem hlt8⟩
     obtain ⟨g172, off172, hpe172, hgl172, hrow172⟩ := hts.at hlt8
     replace hrow172 := hrow172 (ib + 1) u hu
     refine wp_region_invg (n := 141) (base := [(0, .pointer (some ⟨rb, 0, none⟩)), (1, .pointer (some ⟨wb, 0, none⟩)), (4, .int .i64 d1), (5, .int .i64 d3)]) (T := [some (103, .pointer (some ⟨rb, 0, none⟩)), some (104, .bool true), some (105, .bool true), some (106, .pointer (some ⟨rb, 0, none⟩)), some (107, .pointer (some ⟨rb, 0, none⟩)), some (108, .pointer (some ⟨rb, 1, none⟩)), some (109, .int .i64 (ib : Int)), some (110, .int .i64 ((ib : Int) + 1)), some (111, .pointer (some ⟨rb, 0, none⟩)), some (112, .pointer (some ⟨rb, 0, none⟩)), some (113, .pointer (some ⟨rb, 0, none⟩)), some (114, .slice (pl) ts.length cl), some (115, .int .i64 (ts.length : Int)), some (116, .bool true), some (117, .bool true), some (118, .bool true), some (119, .pointer (some ⟨rb, 0, none⟩)), some (120, .pointer (some ⟨rb, 0, none⟩)), some (121, .pointer (some ⟨rb, 0, none⟩)), some (122, .slice (pl) ts.length cl), some (123, .pointer (some ⟨rb, 0, none⟩)), some (124, .pointer (some ⟨rb, 0, none⟩)), some (125, .pointer (some ⟨rb, 1, none⟩)), some (126, .int .i64 (ib : Int)), some (127, .int .i64 ((ib : Int) + 1)), some (128, .pointer (some ⟨g172, (off172 + (ib + 1) * 3), none⟩)), some (129, .pointer (some ⟨g172, ((off172 + (ib + 1) * 3) + 0), none⟩)), some (130, .int .i64 u.1), some (131, .bool (u.1 == 2)), some (132, .bool (u.1 == 2)), some (6, .bool (u.1 == 2))]) (M := fun _ wm => Fr (fun _ => False) w2 wm) (by kernel_rfl) (by kernel_rfl) (by kernel_rfl) (E.of ⟨E.g0, E.g1, E.g2, E.g3, trivial⟩) (Fr.refl _ _).drew ?_ ?_
     ·intro j9 o9 t9 ls9 a w5 ho hT0 hl E D DL hM
      have hwb := wkB.fr hwb hM id
      have hrb := hM.obj hrb id
      have hts := srcAt.fr hts hM (fun r hr => id)
      have hR0 := RdS.fr hR0 hM (fun r hr => id)
      have hrow172 := fun j u hu => hM.cell (hrow172 j u hu) id
      match j9, ho, hT0, hl, D, DL with
      | 0, ho, hT0, hl, D, DL => exact y0_ ho hT0 (val_wp (m_ rfl E.g0) rfl hM)
      | 1, ho, hT0, hl, D, DL => exact y0_ ho hT0 (call_wp (run_call2 (enters_of Tryz.func36 (by kernel_rfl) rfl) rfl rfl (D 0 _ rfl rfl) rfl) (by have h := (seesR_calls hR0 [44]); rw [hq168] at h; exact h) rfl fun w9 f1 => (hM.trans f1))
      | 2, ho, hT0, hl, D, DL => exact y0_ ho hT0 (val_wp (m_ rfl (D 1 _ rfl rfl)) rfl hM)
      | 3, ho, hT0, hl, D, DL => exact y1_ ho hT0 E (D 2 _ rfl rfl) (val_wp (m_ rfl E.g0) rfl hM)
      | 4, ho, hT0, hl, D, DL => exact y1_ ho hT0 E (D 2 _ rfl rfl) (val_wp (i_ rfl (D 3 _ rfl rfl)) rfl hM)
      | 5, ho, hT0, hl, D, DL => exact y1_ ho hT0 E (D 2 _ rfl rfl) (val_wp (fa62_1 rfl (D 4 _ rfl rfl)) rfl hM)
      | 6, ho, hT0, hl, D, DL => exact y1_ ho hT0 E (D 2 _ rfl rfl) (val_wp (run_ldi rfl (D 5 _ rfl rfl) (bx hrb 1 rfl)) rfl hM)
      | 7, ho, hT0, hl, D, DL => exact y1_ ho hT0 E (D 2 _ rfl rfl) (val_wp (run_iadd Tryz.underlying3 (D 6 _ rfl rfl) rfl (by omega) (by omega) rfl) rfl hM)
      | 8, ho, hT0, hl, D, DL => exact y1_ ho hT0 E (D 2 _ rfl rfl) (val_wp (m_ rfl E.g0) rfl hM)
      | 9, ho, hT0, hl, D, DL => exact y1_ ho hT0 E (D 2 _ rfl rfl) (val_wp (i_ rfl (D 8 _ rfl rfl)) rfl hM)
      | 10, ho, hT0, hl, D, DL => exact y1_ ho hT0 E (D 2 _ rfl rfl) (val_wp (fa62_0 rfl (D 9 _ rfl rfl)) rfl hM)
      | 11, ho, hT0, hl, D, DL => exact y1_ ho hT0 E (D 2 _ rfl rfl) (val_wp (run_ld34 rfl (D 10 _ rfl rfl) (bx hrb 0 rfl)) rfl hM)
      | 12, ho, hT0, hl, D, DL => exact y1_ ho hT0 E (D 2 _ rfl rfl) (val_wp (run_len34 rfl (D 11 _ rfl rfl)) rfl hM)
      | 13, ho, hT0, hl, D, DL => exact y1_ ho hT0 E (D 2 _ rfl rfl) (val_wp ((run_ilss (D 7 _ rfl rfl) (D 12 _ rfl rfl) Tryz.underlying3 rfl).trans (by rw [hq170] <;> rfl)) rfl hM)
      | 14, ho, hT0, hl, D, DL => exact y0_ ho hT0 (val_wp (run_pick_t rfl (D 2 _ rfl rfl) (D 13 _ rfl rfl)) rfl hM)
      | 15, ho, hT0, hl, D, DL => exact y0_ ho hT0 (val_wp (m_ rfl (D 14 _ rfl rfl)) rfl hM)
      | 16, ho, hT0, hl, D, DL => exact y1_ ho hT0 E (D 15 _ rfl rfl) (val_wp (m_ rfl E.g0) rfl hM)
      | 17, ho, hT0, hl, D, DL => exact y1_ ho hT0 E (D 15 _ rfl rfl) (val_wp (i_ rfl (D 16 _ rfl rfl)) rfl hM)
      | 18, ho, hT0, hl, D, DL => exact y1_ ho hT0 E (D 15 _ rfl rfl) (val_wp (fa62_0 rfl (D 17 _ rfl rfl)) rfl hM)
      | 19, ho, hT0, hl, D, DL => exact y1_ ho hT0 E (D 15 _ rfl rfl) (val_wp (run_ld34 rfl (D 18 _ rfl rfl) (bx hrb 0 rfl)) rfl hM)
      | 20, ho, hT0, hl, D, DL => exact y1_ ho hT0 E (D 15 _ rfl rfl) (val_wp (m_ rfl E.g0) rfl hM)
      | 21, ho, hT0, hl, D, DL => exact y1_ ho hT0 E (D 15 _ rfl rfl) (val_wp (i_ rfl (D 20 _ rfl rfl)) rfl hM)
      | 22, ho, hT0, hl, D, DL => exact y1_ ho hT0 E (D 15 _ rfl rfl) (val_wp (fa62_1 rfl (D 21 _ rfl rfl)) rfl hM)
      | 23, ho, hT0, hl, D, DL => exact y1_ ho hT0 E (D 15 _ rfl rfl) (val_wp (run_ldi rfl (D 22 _ rfl rfl) (bx hrb 1 rfl)) rfl hM)
      | 24, ho, hT0, hl, D, DL => exact y1_ ho hT0 E (D 15 _ rfl rfl) (val_wp (run_iadd Tryz.underlying3 (D 23 _ rfl rfl) rfl (by omega) (by omega) rfl) rfl hM)
      | 25, ho, hT0, hl, D, DL => exact y1_ ho hT0 E (D 15 _ rfl rfl) (val_wp (run_index34 (i := (ib + 1)) rfl ((D 19 _ rfl rfl).trans (by rw [hpe172])) ((D 24 _ rfl rfl).trans (by rw [show ((ib : Int) + 1) = ((ib + 1 : Nat) : Int) by omega])) hlt8) rfl hM)
      | 26, ho, hT0, hl, D, DL => exact y1_ ho hT0 E (D 15 _ rfl rfl) (val_wp (fa38_0 rfl (D 25 _ rfl rfl)) rfl hM)
      | 27, ho, hT0, hl, D, DL => exact y1_ ho hT0 E (D 15 _ rfl rfl) (val_wp (run_ldi rfl (D 26 _ rfl rfl) (hrow172 0 _ rfl)) rfl hM)
      | 28, ho, hT0, hl, D, DL => exact y1_ ho hT0 E (D 15 _ rfl rfl) (val_wp (run_ieql (D 27 _ rfl rfl) rfl Tryz.underlying3 rfl) rfl hM)
      | 29, ho, hT0, hl, D, DL => exact y0_ ho hT0 (val_wp (run_pick_t rfl (D 15 _ rfl rfl) (D 28 _ rfl rfl)) rfl hM)
      | 30, ho, hT0, hl, D, DL => exact y0_ ho hT0 (val_wp (a_ rfl (D 29 _ rfl rfl)) rfl hM)
      | j9 + 31, ho, hT0, hl, D, DL => exact absurd hT0 (by simp)
     ·intro a w5 E V hM
      have E := E.add (V 30 _ rfl)
      clear V
      have hwb := wkB.fr hwb hM id
      have hrb := hM.obj hrb id
      have hts := srcAt.fr hts hM (fun r hr => id)
      have hR0 := RdS.fr hR0 hM (fun r hr => id)
      have hrow172 := fun j u hu => hM.cell (hrow172 j u hu) id
      have hf := hf.trans' hM (fun _ _ h => h.elim)
      clear hM
      refine t_ (s_ (r_ (ep E rfl (m_ rfl E.g0) fun a E => n_ (t_ ?_))))
      cases hq174 : (u.1 == 2) with
      | false =>
       rw [hq174] at E
       have hu2 : ¬ u.1 = 2 := by simpa using hq174
       refine c_f E.g0 (k_ (b_ (t_ ?_)))
       have hmr : more (ts.drop ib) = false := by
        rw [Bool.eq_false_iff]
        intro h9
        obtain ⟨h8, u9, h7, h6⟩ := (more_atR hk).1 h9
        rw [hu] at h7; cases h7; exact hu2 h6
       have hP2 := hP.next (i5 := ib) hk hdb.1 hi7 hT hmr (fun _ => by simp)
       exact ⟨k9 - 1, by have := hkm hag hz7; omega, ib, er, xr, false, _, t2, E.of ⟨E.g1, E.g2, E.g3, E.g4, E.g5, trivial⟩, hP2, hR0, hwb, fun h m hm => by rw [hC h m hm, htt hz7 m hm, mnB_app, Bool.or_assoc], fun h _ => by exact absurd h Bool.false_ne_true, fun _ => hdb, hf⟩
      | true =>
       rw [hq174] at E
       have hu2 : u.1 = 2 := by simpa using hq174
       refine c_t E.g0 (r_ (ep E rfl (m_ rfl E.g2) fun a E => ep E rfl (i_ rfl E.g0) fun a E => ep (v := .pointer (some ⟨rb, 1, none⟩)) E rfl (fa62_1 rfl E.g0) fun a E => ep (v := .int .i64 (ib : Int)) E rfl (run_ldi rfl E.g0 (bx hrb 1 rfl)) fun a E => ep (v := .int .i64 ((ib : Int) + 1)) E rfl (run_iadd Tryz.underlying3 E.g0 rfl (by omega) (by omega) rfl) fun a E => ep E rfl (i_ rfl E.g4) fun a E => ep (v := .pointer (some ⟨rb, 1, none⟩)) E rfl (fa62_1 rfl E.g0) fun a E => env_st1 (j := 1) E rfl (wanted_none rfl _) hrb (run_st3 rfl E.g0 E.g2 (bx hrb 1 rfl) (free_of_blk hrb 1)) fun w1 hrbn f1 E => ?_))
       replace hrbn : w1.heap[rb]? = some (.cells #[.slice (pl) ts.length cl, .int .i64 ((ib : Int) + 1), .int .i64 en, .int .i64 er, .int .i64 xr] 62 (0, 0)) := hrbn
       have hwb := wkB.fr hwb f1 nq_
       have hts := srcAt.fr hts f1 (fun _ hr => nq_)
       have hrow172 := fun j u hu => f1.cell (hrow172 j u hu) nq_
       have hf := hf.trans' f1 (fun _ hr => nq_)
       clear f1
       replace hrb := hrbn
       refine n_ ?_
       have hR0 : RdS w1 rb G en ts (ib + 1) (er) (xr) := by
        have h9 := hrb
        exact ⟨hGr, _, h9, ⟨pl, cl, rfl, hlv0, hlv1, hts, hzl⟩⟩
       obtain ⟨hGr, lv, hrb, htkS⟩ := id hR0
       obtain ⟨pl, cl, hlv, hlv0, hlv1, hts, hzl⟩ := htkS
       subst hlv
       refine b_ (t_ ?_)
       have hmr : more (ts.drop ib) = true := (more_atR hk).2 ⟨hq168, u, hu, hu2⟩
       have hP2 := hP.next (i5 := ib + 1) hk hdb.1 hi7 hT hmr (fun _ => by simp)
       exact ⟨k9 - 1, by have := hkm hag hz7; omega, ib + 1, er, xr, true, _, t2, E.of ⟨E.g8, E.g9, E.g10, E.g11, E.g12, trivial⟩, hP2, hR0, hwb, fun h m hm => by rw [hC h m hm, htt hz7 m hm, mnB_app, Bool.or_assoc], fun h _ => by have := hkm hag hz7; omega, fun _ => hdb, hf⟩
end Go.Proofs.YtjaffpnegdcjnaaGreatDoor
/- The reference parser. -/
set_option linter.unusedVariables false
set_option linter.unusedSimpArgs false
namespace Go.Proofs.YtjaffpnegdcjnaaGreatDoor
open Go.RowKit Go.Pl
theorem run_b62 {o : Oper} {w : World} {ρ : Operand → Value} {x y : Operand} {p : Option Addr} {m c : Nat} {n : Int} (ho : o.op = .build 62 #[(0, x), (2, y)]) (hx : ρ x = .slice p m c) (hy : ρ y = .int .i64 n) : (execOp ρ o).run Tryz.prog w = .ok (.value (.agg #[.slice p m c, .int .i64 0, .int .i64 n, .int .i64 0, .int .i64 0])) w := by
 simp [execOp, ho, hx, hy, go_sem]
theorem run_box62 {o : Oper} {w : World} {ρ : Operand → Value} {x : Operand} {p : Option Addr} {m c : Nat} {n : Int} (ho : o.op = .box 62 x) (hx : ρ x = .agg #[.slice p m c, .int .i64 0, .int .i64 n, .int .i64 0, .int .i64 0]) : (execOp ρ o).run Tryz.prog w = .ok (.value (.pointer (some ⟨w.heap.size, 0, none⟩))) (w.alloc (.cells #[.slice p m c, .int .i64 0, .int .i64 n, .int .i64 0, .int .i64 0] 62)) := by
 simp [execOp, ho, hx, go_sem]
/-- A word: of the tokens that the lexer makes only a name is written so, but for strings. -/
theorem seesR_word {c d : UInt8} {r : Bys} (hc : isLet c = true) {ts : List (Tok Int)} (hk : Tk ts) : seesR (c :: d :: r) ts = sees 1 [c :: d :: r] ts := by
 cases ts with
 | nil => rfl
 | cons t l =>
  have hs := isLet_cls hc
  show (t.1 != 3 && t.2.1 == (c :: d :: r)) = (t.1 == 1 && (([c :: d :: r] : List Bys).isEmpty || ([c :: d :: r] : List Bys).contains t.2.1))
  rcases hk t (by simp) with ⟨h1, c9, r9, h2, h3⟩ | ⟨h1, h2, h3, h4⟩ | h1 | ⟨h1, d9, h2, h3⟩
  ·rw [h1, Bool.eq_iff_iff]; simp
  ·have hn : ¬ t.2.1 = c :: d :: r := by
    intro h; rw [h] at h4
    have h5 := h4 c (by simp)
    have := hs.2.2.1
    rw [h5] at this; cases this
   rw [h1, beq_eq_false_iff_ne.2 hn]; simp
  ·rw [h1]; simp
  ·have hn : ¬ t.2.1 = c :: d :: r := by
    intro h; rw [h2] at h; cases h
   rw [h1, beq_eq_false_iff_ne.2 hn]; simp
/-- Where the parser stands ahead of a further part: an error; or what follows if there is a comma. -/
def PsI (Q : Res Int (List Sp × List (Tok Int))) (en : Int) (ts : List (Tok Int)) (i : Nat) (e x : Int) (s : List Sp) : Prop :=
 (e ≠ 0 ∧ Q = .error (e, x)) ∨ (e = 0 ∧ i ≤ ts.length ∧ wk s ∧ Q = if sees 4 [cComma] (ts.drop i) = true then (match parts en ((ts.drop (i + 1)).length + 1) (ts.drop (i + 1)) with | .error q => .error q | .ok (s', l) => .ok (s ++ s', l)) else .ok (s, ts.drop i))
/-- Where it stands behind the parts. -/
def PsE (Q : Res Int (List Sp × List (Tok Int))) (ts : List (Tok Int)) (i : Nat) (e x : Int) (s : List Sp) : Prop :=
 (e ≠ 0 ∧ Q = .error (e, x)) ∨ (e = 0 ∧ i ≤ ts.length ∧ wk s ∧ Q = .ok (s, ts.drop i))
theorem PsI.part {Q : Res Int (List Sp × List (Tok Int))} {en : Int} {ts : List (Tok Int)} {i i2 : Nat} {e2 x2 : Int} {s : List Sp} {t tt : Nat → Bool} (hw : wk s) (ht : ∀ m, m < 10080 → t m = mnB s m)
  (hQ : Q = match parts en ((ts.drop i).length + 1) (ts.drop i) with | .error q => .error q | .ok (s', l) => .ok (s ++ s', l))
  (h : (e2 ≠ 0 ∧ part en (ts.drop i) = .error (e2, x2)) ∨ (e2 = 0 ∧ i2 ≤ ts.length ∧ ∃ s2, wk s2 ∧ part en (ts.drop i) = .ok (s2, ts.drop i2) ∧ ∀ m, m < 10080 → tt m = (t m || mnB s2 m))) :
  ∃ s3, PsI Q en ts i2 e2 x2 s3 ∧ (e2 = 0 → (∀ m, m < 10080 → tt m = mnB s3 m) ∧ i < i2) := by
 unfold parts at hQ
 rcases h with ⟨h0, h1⟩ | ⟨rfl, h1, s2, h2, h3, h4⟩
 ·rw [h1] at hQ
  exact ⟨s, .inl ⟨h0, hQ⟩, fun k => absurd k h0⟩
 ·rw [h3] at hQ
  have hlen := part_len h3
  rw [List.length_drop, List.length_drop] at hlen
  refine ⟨s ++ s2, .inr ⟨rfl, h1, wk_app hw h2, ?_⟩, fun _ => ⟨fun m hm => by rw [h4 m hm, ht m hm, mnB_app], by omega⟩⟩
  simp only at hQ
  cases hs : sees 4 [cComma] (ts.drop i2) with
  | false => rw [hs] at hQ; rw [hQ]; rfl
  | true =>
   rw [hs, if_pos rfl] at hQ
   rw [if_pos rfl, hQ, List.drop_drop, parts_fuel _ ((ts.drop (i2 + 1)).length + 1) _ (by rw [List.length_drop, List.length_drop]; omega) (by omega)]
   cases parts en ((ts.drop (i2 + 1)).length + 1) (ts.drop (i2 + 1)) with
   | error q => rfl
   | ok q => obtain ⟨s', l'⟩ := q; simp only [List.append_assoc]
theorem PsI.out {Q : Res Int (List Sp × List (Tok Int))} {en : Int} {ts : List (Tok Int)} {i : Nat} {e x : Int} {s : List Sp} (P : PsI Q en ts i e x s) (hk : Tk ts) (h : e ≠ 0 ∨ seesR [44] (ts.drop i) = false) : PsE Q ts i e x s := by
 rcases P with h0 | ⟨h0, h1, h2, h3⟩
 ·exact .inl h0
 ·have h4 := h.resolve_left (fun k => k h0)
  rw [sees_comma (hk.drop _)] at h4
  rw [h4] at h3
  exact .inr ⟨h0, h1, h2, h3⟩
theorem PsI.on {Q : Res Int (List Sp × List (Tok Int))} {en : Int} {ts : List (Tok Int)} {i : Nat} {x : Int} {s : List Sp} (P : PsI Q en ts i 0 x s) (hk : Tk ts) (h : seesR [44] (ts.drop i) = true) : i + 1 ≤ ts.length ∧ wk s ∧ Q = match parts en ((ts.drop (i + 1)).length + 1) (ts.drop (i + 1)) with | .error q => .error q | .ok (s', l) => .ok (s ++ s', l) := by
 rcases P with h0 | ⟨h0, h1, h2, h3⟩
 ·exact absurd rfl h0.1
 ·have h5 := h
  rw [sees_comma (hk.drop _)] at h
  rw [if_pos h] at h3
  refine ⟨?_, h2, h3⟩
  rcases Nat.lt_or_ge i ts.length with h6 | h6
  ·exact h6
  ·rw [List.drop_of_length_le h6] at h5; cases h5
theorem textQ_prt {en : Int} {ts : List (Tok Int)} (h1 : sees 1 [always] ts = false) (h2 : sees 1 [never] ts = false) : textQ en ts = match parts en ((ts.drop 0).length + 1) (ts.drop 0) with | .error q => .error q | .ok (s', l) => .ok ([] ++ s', l) := by
 unfold textQ
 rw [h1, h2, List.drop_zero]
 simp only [Bool.false_eq_true, if_false]
 cases parts en (ts.length + 1) ts with
 | error q => rfl
 | ok q => rfl
theorem sees_pos {k : Int} {xs : List Bys} {ts : List (Tok Int)} (h : sees k xs ts = true) : 0 + 1 ≤ ts.length := by
 cases ts with
 | nil => cases h
 | cons t l => simp
theorem textQ_always {en : Int} {ts : List (Tok Int)} (h1 : sees 1 [always] ts = true) : PsE (textQ en ts) ts (0 + 1) 0 0 [(0, 10080)] := by
 refine .inr ⟨rfl, sees_pos h1, fun s hs => ?_, ?_⟩
 ·rw [List.mem_singleton] at hs; subst hs; simp only; omega
 ·unfold textQ
  rw [if_pos h1]; rfl
theorem textQ_never {en : Int} {ts : List (Tok Int)} (h1 : sees 1 [always] ts = false) (h2 : sees 1 [never] ts = true) : PsE (textQ en ts) ts (0 + 1) 0 0 [] := by
 refine .inr ⟨rfl, sees_pos h2, fun s hs => (by cases hs), ?_⟩
 unfold textQ
 rw [h1, if_neg (by simp), if_pos h2]
/-- Behind the whole text. -/
def PsT (en : Int) (ts : List (Tok Int)) (e x : Int) (s : List Sp) : Prop := (e ≠ 0 ∧ textP en ts = .error (e, x)) ∨ (e = 0 ∧ wk s ∧ textP en ts = .ok s)
theorem PsE.err {en : Int} {ts : List (Tok Int)} {i : Nat} {e x : Int} {s : List Sp} (P : PsE (textQ en ts) ts i e x s) (h : e ≠ 0) : PsT en ts e x s := by
 rcases P with ⟨_, h1⟩ | ⟨h0, _⟩
 ·exact .inl ⟨h, by unfold textP; rw [h1]; rfl⟩
 ·exact absurd h0 h
theorem PsE.fin {en : Int} {ts : List (Tok Int)} {i : Nat} {x : Int} {s : List Sp} (P : PsE (textQ en ts) ts i 0 x s) (h : ts.length ≤ i) : PsT en ts 0 x s := by
 rcases P with ⟨h0, _⟩ | ⟨_, _, h1, h2⟩
 ·exact absurd rfl h0
 ·refine .inr ⟨rfl, h1, ?_⟩
  unfold textP
  rw [h2, List.drop_of_length_le h]; rfl
theorem PsE.more {en : Int} {ts : List (Tok Int)} {i : Nat} {x : Int} {s : List Sp} (P : PsE (textQ en ts) ts i 0 x s) (h : i < ts.length) : PsT en ts (firstE 0 x (failP en (ts.drop i))).1 (firstE 0 x (failP en (ts.drop i))).2 s := by
 rcases P with ⟨h0, _⟩ | ⟨_, _, h1, h2⟩
 ·exact absurd rfl h0
 ·obtain ⟨t, ht⟩ : ∃ t, ts[i]? = some t := ⟨_, List.getElem?_eq_getElem h⟩
  have hd := drop_tok ht
  have hq : firstE 0 x (failP en (ts.drop i)) = (5, t.2.2) := by rw [hd]; rfl
  rw [hq]
  refine .inl ⟨by show (5 : Int) ≠ 0; decide, ?_⟩
  unfold textP
  rw [h2, hd]; rfl
theorem parse_end {s : Bys} {ts : List (Tok Int)} (hl : lexP s = .ok ts) {en e x e2 x2 : Int} (hen : en = (s.length : Int)) {S : List Sp} {tt : Nat → Bool} (P : PsT en ts e x S) (ht : e = 0 → ∀ m, m < 10080 → tt m = mnB S m)
  (h2 : (e2, x2) = if 60 < (runs tt 10080).length then firstE e x (2, en) else (e, x)) : (e2 ≠ 0 → parseP s = .error (e2, x2)) ∧ (e2 = 0 → parseP s = .ok (runs tt 10080)) := by
 subst hen
 rcases P with ⟨h0, h1⟩ | ⟨rfl, hw, h1⟩
 ·have : (e2, x2) = (e, x) := by
   rw [h2]; split
   ·exact if_neg h0
   ·rfl
  cases this
  exact ⟨fun _ => by unfold parseP; rw [hl]; simp only; rw [h1], fun k => absurd k h0⟩
 ·have hu := canon_un hw
  have hr : runs tt 10080 = canon S := runs_uniq hu.ok fun m hm => by rw [ht rfl m hm, mnB_iff]; exact (hu.at_ m).symm
  rw [hr] at h2 ⊢
  by_cases h60 : 60 < (canon S).length
  ·rw [if_pos h60] at h2
   have h3 : (e2, x2) = (2, (s.length : Int)) := h2
   cases h3
   exact ⟨fun _ => by unfold parseP; rw [hl]; simp only; rw [h1]; simp only; rw [if_pos h60], fun k => by cases k⟩
  ·rw [if_neg h60] at h2
   cases h2
   exact ⟨fun k => absurd rfl k, fun _ => by unfold parseP; rw [hl]; simp only; rw [h1]; simp only; rw [if_neg h60]⟩
set_option maxRecDepth 100000 in
set_option maxHeartbeats 4000000 in
theorem rparse_calls (s : Bys) (hs : s.length ≤ 4900) (w : World) : Calls Tryz.prog 14 #[.string (ofL s)] w fun e w' => match parseP s with | .error (c, x) => e = .returned (.tuple #[.slice none 0 0, .int .i64 c, .int .i64 x]) ∧ Fr (fun _ => False) w w' | .ok l => ∃ v, e = .returned (.tuple #[v, .int .i64 0, .int .i64 0]) ∧ SpV w' v l ∧ Fr (fun _ => False) w w' := by
 refine wp_start1 Tryz.func14 rfl rfl (n := 110) (by decide) fun a E => ?_
 have hf : Fr (fun _ => False) w w := Fr.refl _ _
 refine s_ (r_ (ep (v := .slice none 0 0) E rfl (a_ rfl rfl) fun a E => ep (v := .int .i64 0) E rfl (a_ rfl rfl) fun a E => ep (v := .int .i64 0) E rfl (a_ rfl rfl) fun a E => n_ (t_ (s_ ?_))))
 rcases hlx : lexP s with ⟨c, x⟩ | ts
 ·have hc0 : c ≠ 0 := by
   rcases lexP_cases s with ⟨e1, a1, h1, h2, _⟩ | ⟨h1, _⟩
   ·rw [hlx] at h1; cases h1; exact h2
   ·rw [hlx] at h1; cases h1
  have hP0 : parseP s = .error (c, x) := by unfold parseP; rw [hlx]
  refine r_ (ep E rfl (m_ rfl E.g3) fun a E => ec_ (v := .tuple #[.slice none 0 0, .int .i64 c, .int .i64 x]) E rfl (run_call1 (enters_of Tryz.func35 (by kernel_rfl) rfl) rfl rfl E.g0) ((rlex_calls s (by omega) _).mono fun e w8 h => by rw [hlx] at h; exact h) fun a w1 f1 E => ?_)
  have hf := hf.trans' f1 (fun _ _ h => h.elim)
  clear f1
  refine ep E rfl (m_ rfl E.g0) fun a E => ep (v := .slice none 0 0) E rfl (run_ex0of3 rfl E.g0) fun a E => ep (v := .int .i64 c) E rfl (run_ex1of3 rfl E.g1) fun a E => ep (v := .int .i64 x) E rfl (run_ex2of3 rfl E.g2) fun a E => ep E rfl (a_ rfl E.g2) fun a E => ep E rfl (a_ rfl E.g2) fun a E => ep E rfl (a_ rfl E.g2) fun a E => n_ (t_ (s_ (s_ (r_ (ep E rfl (m_ rfl E.g1) fun a E => ep (v := .bool (c != 0)) E rfl (run_ineq E.g0 rfl Tryz.underlying25 rfl) fun a E => n_ (t_ ?_))))))
  cases hq156 : (c != 0) with
  | false =>
   rw [hq156] at E
   exact absurd (by simpa using hq156) hc0
  | true =>
   rw [hq156] at E
   refine c_t E.g0 (s_ (r_ (ep E rfl (m_ rfl E.g3) fun a E => ep E rfl (m_ rfl E.g3) fun a E => es_ (v := .slice none 0 0) E rfl (a_ rfl rfl) fun a E => es_ E rfl (a_ rfl E.g2) fun a E => es_ E rfl (a_ rfl E.g2) fun a E => n_ (t_ (wr_ (tr_ (ret_tmp3 (t := 2) (t2 := 3) (t3 := 4) rfl E E.g2 E.g1 E.g0 ?_)))))))
   rw [hP0]
   exact ⟨rfl, hf⟩
 ·obtain ⟨hts1, _, hts2, hts3, hts4⟩ := lexP_tk hlx
  refine r_ (ep E rfl (m_ rfl E.g3) fun a E => env_callv (d := 13) (R := fun u w8 => (∃ v, u = .tuple #[v, .int .i64 0, .int .i64 0] ∧ TkV w8 v ts) ∧ Fr (fun _ => False) w w8) E rfl (by decide) rfl (wanted_none rfl _) (run_call1 (enters_of Tryz.func35 (by kernel_rfl) rfl) rfl rfl E.g0) ((rlex_calls s (by omega) _).mono fun e w8 h => by rw [hlx] at h; obtain ⟨v, h1, h2, h3⟩ := h; exact ⟨_, h1, ⟨v, rfl, h2⟩, h3⟩) fun a w1 u ⟨⟨v, hu, hv⟩, f1⟩ E => ?_)
  subst hu
  obtain ⟨pt, ct, rfl, hct1, hct2, htk, hzt⟩ := hv
  obtain ⟨Gt, hGt0⟩ : ∃ G, G = w1.heap.size := ⟨_, rfl⟩
  rw [← hGt0] at htk
  have hGt : Gt ≤ w1.heap.size := by omega
  have hf := hf.trans' f1 (fun _ _ h => h.elim)
  clear f1
  refine ep E rfl (m_ rfl E.g0) fun a E => ep (v := .slice (pt) ts.length ct) E rfl (run_ex0of3 rfl E.g0) fun a E => ep (v := .int .i64 0) E rfl (run_ex1of3 rfl E.g1) fun a E => ep (v := .int .i64 0) E rfl (run_ex2of3 rfl E.g2) fun a E => ep E rfl (a_ rfl E.g2) fun a E => ep E rfl (a_ rfl E.g2) fun a E => ep E rfl (a_ rfl E.g2) fun a E => n_ (t_ (s_ (s_ (r_ (ep E rfl (m_ rfl E.g1) fun a E => ep (v := .bool false) E rfl (run_ineq (m := 0) (n := 0) E.g0 rfl Tryz.underlying25 rfl) fun a E => n_ (t_ (c_f E.g0 (k_ (t_ (s_ (r_ (ep E rfl (m_ rfl E.g4) fun a E => ep E rfl (m_ rfl E.g15) fun a E => ep (v := .int .i64 (s.length : Int)) E rfl (run_slen rfl E.g0) fun a E => ep (v := .agg #[.slice (pt) ts.length ct, .int .i64 0, .int .i64 (s.length : Int), .int .i64 0, .int .i64 0]) E rfl (run_b62 rfl E.g2 E.g0) fun a E => env_new (d := 25) E rfl (by decide) rfl (wanted_none rfl _) (run_box62 rfl E.g0) fun a w1 rb erb hrb f1 E => ?_))))))))))))
  have hnrb : w.heap.size ≤ rb := by have := hf.size; omega
  have htk := srcAt.fr htk f1 (fun r hr => id)
  have hGt := Nat.le_trans hGt f1.size
  have hf := hf.trans' f1 (fun _ _ h => h.elim)
  clear f1
  refine ep E rfl (a_ rfl E.g0) fun a E => n_ (t_ (s_ (r_ (ep (v := .agg Tryz.zeroCells65) E rfl (run_build65 rfl) fun a E => env_box65 (d := 27) E rfl (by decide) rfl (wanted_none rfl _) rfl E.g0 fun a w1 wb ewb hwb f1 E => ?_))))
  have hnwb : w.heap.size ≤ wb := by have := hf.size; omega
  have hlrbwb : rb < wb := by have := lt_of_blk hrb; omega
  have htk := srcAt.fr htk f1 (fun r hr => id)
  have hGt := Nat.le_trans hGt f1.size
  have hrb := f1.obj hrb id
  have hf := hf.trans' f1 (fun _ _ h => h.elim)
  clear f1
  refine ep E rfl (a_ rfl E.g0) fun a E => n_ (t_ ?_)
  obtain ⟨G, en, i0, hen, hi0, hR0⟩ : ∃ (G : Nat) (en : Int) (i0 : Nat), en = (s.length : Int) ∧ i0 = 0 ∧ RdS w1 rb G en ts i0 0 0 := ⟨rb, _, 0, rfl, rfl, Nat.le_refl _, _, hrb, pt, ct, rfl, hct1, hct2, htk.mono (by omega), hzt⟩
  have hi0s : i0 = 0 := hi0
  obtain ⟨hGr, lv, hrb, htkS⟩ := id hR0
  obtain ⟨pl, cl, hlv, hlv0, hlv1, hts, hzl⟩ := htkS
  subst hlv
  refine wp_seq_cut (fun a w2 => ∃ (i3 : Nat) (e3 x3 : Int) (S3 : List Sp) (t3 : Nat → Bool) (wq : Nat), Env 110 [(0, .string (ofL s)), (5, .slice (pt) ts.length ct), (8, .pointer (some ⟨rb, 0, none⟩)), (9, .pointer (some ⟨wq, 0, none⟩))] a ∧ RdS w2 rb G en ts i3 e3 x3 ∧ wkB w2 wq t3 ∧ PsE (textQ en ts) ts i3 e3 x3 S3 ∧ rb < wq ∧ w.heap.size ≤ wq ∧ (e3 = 0 → ∀ m, m < 10080 → t3 m = mnB S3 m) ∧ Fr (fun _ => False) w w2) ?_ ?_
  ·refine s_ ?_
   refine r_ (ep E rfl (m_ rfl E.g3) fun a E => ec_ (v := .bool (seesR [97, 108, 119, 97, 121, 115] (ts.drop i0))) E rfl (run_call2 (enters_of Tryz.func36 (by kernel_rfl) rfl) rfl rfl E.g0 rfl) (seesR_calls hR0 [97, 108, 119, 97, 121, 115]) fun a w1 f1 E => ?_)
   have hwb := wkB.fr hwb f1 id
   have hrb := f1.obj hrb id
   have hts := srcAt.fr hts f1 (fun r hr => id)
   have hR0 := RdS.fr hR0 f1 (fun r hr => id)
   have hf := hf.trans' f1 (fun _ _ h => h.elim)
   clear f1
   refine n_ (t_ ?_)
   cases hq157 : (seesR [97, 108, 119, 97, 121, 115] (ts.drop i0)) with
   | false =>
    rw [hq157] at E
    have hal : sees 1 [always] ts = false := by have h9 := hq157; rw [hi0, List.drop_zero, seesR_word (by decide) hts2] at h9; exact h9
    refine c_f E.g0 (s_ (r_ (ep E rfl (m_ rfl E.g5) fun a E => ec_ (v := .bool (seesR [110, 101, 118, 101, 114] (ts.drop i0))) E rfl (run_call2 (enters_of Tryz.func36 (by kernel_rfl) rfl) rfl rfl E.g0 rfl) (seesR_calls hR0 [110, 101, 118, 101, 114]) fun a w1 f1 E => ?_)))
    have hwb := wkB.fr hwb f1 id
    have hrb := f1.obj hrb id
    have hts := srcAt.fr hts f1 (fun r hr => id)
    have hR0 := RdS.fr hR0 f1 (fun r hr => id)
    have hf := hf.trans' f1 (fun _ _ h => h.elim)
    clear f1
    refine n_ (t_ ?_)
    cases hq158 : (seesR [110, 101, 118, 101, 114] (ts.drop i0)) with
    | false =>
     rw [hq158] at E
     have hne : sees 1 [never] ts = false := by have h9 := hq158; rw [hi0, List.drop_zero, seesR_word (by decide) hts2] at h9; exact h9
     refine c_f E.g0 (s_ (r_ (ep E rfl (m_ rfl E.g7) fun a E => ep E rfl (m_ rfl E.g5) fun a E => env_callv (d := 51) (R := fun u w8 => u = .tuple #[] ∧ PartP (part en (ts.drop (i0))) rb wb G en ts (fun _ => false) w1 w8) E rfl (by decide) rfl (wanted_none rfl _) (run_call2 (enters_of Tryz.func38 (by kernel_rfl) rfl) rfl rfl E.g1 E.g0) ((rpart_calls hR0 hts2 (by omega) (by omega) hwb (by omega)).mono fun e w8 h => ⟨_, h.1, rfl, h.2⟩) fun a w1 u ⟨hu, hQp⟩ E => ?_)))
     subst hu
     obtain ⟨f1, iN, eN, xN, tN, hR0, hwb, hPt⟩ := hQp
     have hf := hf.trans' f1 (fun r hr e => by omega)
     clear f1
     obtain ⟨hGr, lv, hrb, htkS⟩ := id hR0
     obtain ⟨pl, cl, hlv, hlv0, hlv1, hts, hzl⟩ := htkS
     subst hlv
     refine n_ (t_ (bk_ ?_))
     have hP1 := textQ_prt (en := en) hal hne
     rw [← hi0] at hP1
     obtain ⟨s0, hP, hs0⟩ := PsI.part (t := fun _ => false) (s := []) (fun s hs => by cases hs) (fun m _ => rfl) hP1 hPt
     refine wp_loop_ghost (fun k9 a w2 => ∃ (i7 : Nat) (e7 x7 : Int) (sp : List Sp) (tt : Nat → Bool), Env 110 [(8, .pointer (some ⟨rb, 0, none⟩)), (9, .pointer (some ⟨wb, 0, none⟩)), (0, .string (ofL s)), (5, .slice (pt) ts.length ct)] a ∧ PsI (textQ en ts) en ts i7 e7 x7 sp ∧ RdS w2 rb G en ts i7 e7 x7 ∧ wkB w2 wb tt ∧ (e7 = 0 → ∀ m, m < 10080 → tt m = mnB sp m) ∧ (e7 = 0 → ts.length - i7 < k9) ∧ Fr (fun _ => False) w w2) (ts.length + 1) ?_ ?_
     ·exact ⟨iN, eN, xN, s0, tN, E.of ⟨E.g10, E.g7, E.g30, E.g20, trivial⟩, hP, hR0, hwb, fun h => (hs0 h).1, fun _ => by omega, hf⟩
     clear E hP hP1 hs0 hR0 hwb hf hPt
     rintro k9 a w2 ⟨i7, e7, x7, sp, tt, E, hP, hR0, hwb, htt, hkm, hf⟩
     obtain ⟨hGr, lv, hrb, htkS⟩ := id hR0
     obtain ⟨pl, cl, hlv, hlv0, hlv1, hts, hzl⟩ := htkS
     subst hlv
     refine s_ (s_ (r_ (ep E rfl (m_ rfl E.g0) fun a E => ep E rfl (i_ rfl E.g0) fun a E => ep (v := .pointer (some ⟨rb, 3, none⟩)) E rfl (fa62_3 rfl E.g0) fun a E => ep (v := .int .i64 e7) E rfl (run_lde rfl E.g0 (bx hrb 3 rfl)) fun a E => ep (v := .bool (e7 == 0)) E rfl (run_ieql E.g0 rfl Tryz.underlying25 rfl) fun a E => ep E rfl (m_ rfl E.g0) fun a E => ?_)))
     cases hq159 : (e7 == 0) with
     | false =>
      rw [hq159] at E
      have hz7 : ¬ e7 = 0 := by simpa using hq159
      refine ek E rfl rfl E.g0 fun a E => ek E rfl rfl E.g1 fun a E => ep (v := .bool false) E rfl (run_pick_f rfl E.g2 rfl) fun a E => n_ (t_ (c_f E.g0 (x_ (te_ (te_ (be_ (t_ ?_)))))))
      exact ⟨i7, e7, x7, sp, tt, wb, E.of ⟨E.g11, E.g12, E.g9, E.g10, trivial⟩, hR0, hwb, hP.out hts2 (.inl hz7), hlrbwb, hnwb, htt, hf⟩
     | true =>
      rw [hq159] at E
      have hz7 : e7 = 0 := by simpa using hq159
      refine eg E rfl (wy_ E E.g0) (m_ rfl E.g6) fun a E => env_call (d := 59) (v := .bool (seesR [44] (ts.drop i7))) E rfl (by decide) rfl (wy_ E E.g1) (run_call2 (enters_of Tryz.func36 (by kernel_rfl) rfl) rfl rfl E.g0 rfl) (seesR_calls hR0 [44]) fun a w1 f1 E => ?_
      have hwb := wkB.fr hwb f1 id
      have hrb := f1.obj hrb id
      have hts := srcAt.fr hts f1 (fun r hr => id)
      have hR0 := RdS.fr hR0 f1 (fun r hr => id)
      have hf := hf.trans' f1 (fun _ _ h => h.elim)
      clear f1
      refine ep (v := .bool (seesR [44] (ts.drop i7))) E rfl (run_pick_t rfl E.g2 E.g0) fun a E => n_ (t_ ?_)
      cases hq160 : (seesR [44] (ts.drop i7)) with
      | false =>
       rw [hq160] at E
       refine c_f E.g0 (x_ (te_ (te_ (be_ (t_ ?_)))))
       exact ⟨i7, e7, x7, sp, tt, wb, E.of ⟨E.g11, E.g12, E.g9, E.g10, trivial⟩, hR0, hwb, hP.out hts2 (.inr hq160), hlrbwb, hnwb, htt, hf⟩
      | true =>
       rw [hq160] at E
       refine c_t E.g0 (k_ (t_ (bk_ (s_ ?_))))
       rw [hz7] at hP hR0
       have hon := hP.on hts2 hq160
       obtain ⟨hGr, lv, hrb, htkS⟩ := id hR0
       obtain ⟨pl, cl, hlv, hlv0, hlv1, hts, hzl⟩ := htkS
       subst hlv
       refine r_ (ep E rfl (m_ rfl E.g9) fun a E => ep E rfl (i_ rfl E.g0) fun a E => ep (v := .pointer (some ⟨rb, 1, none⟩)) E rfl (fa62_1 rfl E.g0) fun a E => ep (v := .int .i64 (i7 : Int)) E rfl (run_ldi rfl E.g0 (bx hrb 1 rfl)) fun a E => ep (v := .int .i64 ((i7 : Int) + 1)) E rfl (run_iadd Tryz.underlying3 E.g0 rfl (by omega) (by omega) rfl) fun a E => ep E rfl (i_ rfl E.g4) fun a E => ep (v := .pointer (some ⟨rb, 1, none⟩)) E rfl (fa62_1 rfl E.g0) fun a E => env_st1 (j := 1) E rfl (wanted_none rfl _) hrb (run_st3 rfl E.g0 E.g2 (bx hrb 1 rfl) (free_of_blk hrb 1)) fun w1 hrbn f1 E => ?_)
       replace hrbn : w1.heap[rb]? = some (.cells #[.slice (pl) ts.length cl, .int .i64 ((i7 : Int) + 1), .int .i64 en, .int .i64 0, .int .i64 x7] 62 (0, 0)) := hrbn
       have hwb := wkB.fr hwb f1 nq_
       have hts := srcAt.fr hts f1 (fun _ hr => nq_)
       have hf := hf.trans' f1 (fun _ hr => nq_)
       clear f1
       replace hrb := hrbn
       refine n_ (t_ ?_)
       have hR0 : RdS w1 rb G en ts (i7 + 1) (0) (x7) := by
        have h9 := hrb
        exact ⟨hGr, _, h9, ⟨pl, cl, rfl, hlv0, hlv1, hts, hzl⟩⟩
       obtain ⟨hGr, lv, hrb, htkS⟩ := id hR0
       obtain ⟨pl, cl, hlv, hlv0, hlv1, hts, hzl⟩ := htkS
       subst hlv
       refine r_ (ep E rfl (m_ rfl E.g16) fun a E => ep E rfl (m_ rfl E.g18) fun a E => env_callv (d := 70) (R := fun u w8 => u = .tuple #[] ∧ PartP (part en (ts.drop (i7 + 1))) rb wb G en ts tt w1 w8) E rfl (by decide) rfl (wanted_none rfl _) (run_call2 (enters_of Tryz.func38 (by kernel_rfl) rfl) rfl rfl E.g1 E.g0) ((rpart_calls hR0 hts2 (by omega) (by omega) hwb (by omega)).mono fun e w8 h => ⟨_, h.1, rfl, h.2⟩) fun a w1 u ⟨hu, hQp⟩ E => ?_)
       subst hu
       obtain ⟨f1, iN, eN, xN, tN, hR0, hwb, hPt⟩ := hQp
       have hf := hf.trans' f1 (fun r hr e => by omega)
       clear f1
       obtain ⟨hGr, lv, hrb, htkS⟩ := id hR0
       obtain ⟨pl, cl, hlv, hlv0, hlv1, hts, hzl⟩ := htkS
       subst hlv
       refine n_ (b_ (t_ ?_))
       obtain ⟨s1, hP1, hs1⟩ := PsI.part hon.2.1 (htt hz7) hon.2.2 hPt
       exact ⟨k9 - 1, by have := hkm hz7; omega, iN, eN, xN, s1, tN, E.of ⟨E.g19, E.g20, E.g21, E.g22, trivial⟩, hP1, hR0, hwb, fun h => (hs1 h).1, fun h => by have := hkm hz7; have := (hs1 h).2; omega, hf⟩
    | true =>
     rw [hq158] at E
     have hne : sees 1 [never] ts = true := by have h9 := hq158; rw [hi0, List.drop_zero, seesR_word (by decide) hts2] at h9; exact h9
     refine c_t E.g0 (r_ (ep E rfl (m_ rfl E.g7) fun a E => ep E rfl (i_ rfl E.g0) fun a E => ep (v := .pointer (some ⟨rb, 1, none⟩)) E rfl (fa62_1 rfl E.g0) fun a E => ep (v := .int .i64 (i0 : Int)) E rfl (run_ldi rfl E.g0 (bx hrb 1 rfl)) fun a E => ep (v := .int .i64 ((i0 : Int) + 1)) E rfl (run_iadd Tryz.underlying3 E.g0 rfl (by omega) (by omega) rfl) fun a E => ep E rfl (i_ rfl E.g4) fun a E => ep (v := .pointer (some ⟨rb, 1, none⟩)) E rfl (fa62_1 rfl E.g0) fun a E => env_st1 (j := 1) E rfl (wanted_none rfl _) hrb (run_st3 rfl E.g0 E.g2 (bx hrb 1 rfl) (free_of_blk hrb 1)) fun w1 hrbn f1 E => ?_))
     replace hrbn : w1.heap[rb]? = some (.cells #[.slice (pl) ts.length cl, .int .i64 ((i0 : Int) + 1), .int .i64 en, .int .i64 0, .int .i64 0] 62 (0, 0)) := hrbn
     have hwb := wkB.fr hwb f1 nq_
     have hts := srcAt.fr hts f1 (fun _ hr => nq_)
     have hf := hf.trans' f1 (fun _ hr => nq_)
     clear f1
     replace hrb := hrbn
     refine n_ (t_ ?_)
     have hR0 : RdS w1 rb G en ts (i0 + 1) (0) (0) := by
      have h9 := hrb
      exact ⟨hGr, _, h9, ⟨pl, cl, rfl, hlv0, hlv1, hts, hzl⟩⟩
     obtain ⟨hGr, lv, hrb, htkS⟩ := id hR0
     obtain ⟨pl, cl, hlv, hlv0, hlv1, hts, hzl⟩ := htkS
     subst hlv
     exact ⟨i0 + 1, 0, 0, [], _, wb, E.of ⟨E.g34, E.g24, E.g14, E.g11, trivial⟩, hR0, hwb, by rw [hi0]; exact textQ_never hal hne, hlrbwb, hnwb, fun _ m _ => rfl, hf⟩
   | true =>
    rw [hq157] at E
    have hal : sees 1 [always] ts = true := by have h9 := hq157; rw [hi0, List.drop_zero, seesR_word (by decide) hts2] at h9; exact h9
    refine c_t E.g0 (s_ (r_ (ep E rfl (m_ rfl E.g5) fun a E => ep E rfl (i_ rfl E.g0) fun a E => ep (v := .pointer (some ⟨rb, 1, none⟩)) E rfl (fa62_1 rfl E.g0) fun a E => ep (v := .int .i64 (i0 : Int)) E rfl (run_ldi rfl E.g0 (bx hrb 1 rfl)) fun a E => ep (v := .int .i64 ((i0 : Int) + 1)) E rfl (run_iadd Tryz.underlying3 E.g0 rfl (by omega) (by omega) rfl) fun a E => ep E rfl (i_ rfl E.g4) fun a E => ep (v := .pointer (some ⟨rb, 1, none⟩)) E rfl (fa62_1 rfl E.g0) fun a E => env_st1 (j := 1) E rfl (wanted_none rfl _) hrb (run_st3 rfl E.g0 E.g2 (bx hrb 1 rfl) (free_of_blk hrb 1)) fun w1 hrbn f1 E => ?_)))
    replace hrbn : w1.heap[rb]? = some (.cells #[.slice (pl) ts.length cl, .int .i64 ((i0 : Int) + 1), .int .i64 en, .int .i64 0, .int .i64 0] 62 (0, 0)) := hrbn
    have hwb := wkB.fr hwb f1 nq_
    have hts := srcAt.fr hts f1 (fun _ hr => nq_)
    have hf := hf.trans' f1 (fun _ hr => nq_)
    clear f1
    replace hrb := hrbn
    refine n_ (t_ ?_)
    have hR0 : RdS w1 rb G en ts (i0 + 1) (0) (0) := by
     have h9 := hrb
     exact ⟨hGr, _, h9, ⟨pl, cl, rfl, hlv0, hlv1, hts, hzl⟩⟩
    obtain ⟨hGr, lv, hrb, htkS⟩ := id hR0
    obtain ⟨pl, cl, hlv, hlv0, hlv1, hts, hzl⟩ := htkS
    subst hlv
    refine r_ (ep (v := .agg (spA (0, 10080))) E rfl (run_of48 rfl rfl rfl) fun a E => env_one22s (d := 38) (s := (0, 10080)) E rfl (by decide) rfl (wanted_none rfl _) rfl E.g0 fun a w1 u1 hu1 f1 E => ?_)
    have hwb := wkB.fr hwb f1 id
    have hrb := f1.obj hrb id
    have hts := srcAt.fr hts f1 (fun r hr => id)
    have hR0 := RdS.fr hR0 f1 (fun r hr => id)
    have hf := hf.trans' f1 (fun _ _ h => h.elim)
    clear f1
    refine env_callv (d := 39) (R := fun u w8 => ∃ b, u = .pointer (some ⟨b, 0, none⟩) ∧ wkB w8 b (fun k => mnB [(0, 10080)] k) ∧ w1.heap.size ≤ b ∧ Fr (fun _ => False) w1 w8) E rfl (by decide) rfl (wanted_none rfl _) (run_call1 (enters_of Tryz.func37 (by kernel_rfl) rfl) rfl rfl E.g0) ((rset_calls hu1 (by intro q hq; rw [List.mem_singleton] at hq; subst hq; simp only; omega)).mono fun e w8 h => by obtain ⟨b, rfl, h⟩ := h; exact ⟨_, rfl, b, rfl, h⟩) fun a w1 u ⟨wa, hu, hwa, hwas, f1⟩ E => ?_
    subst hu
    have hwa1 : w.heap.size ≤ wa := by have := hf.size; omega
    have hwa2 : rb < wa := by have := hR0.lt; omega
    have hwb := wkB.fr hwb f1 id
    have hrb := f1.obj hrb id
    have hts := srcAt.fr hts f1 (fun r hr => id)
    have hR0 := RdS.fr hR0 f1 (fun r hr => id)
    have hu1 := Src.fr hu1 f1
    have hf := hf.trans' f1 (fun _ _ h => h.elim)
    clear f1
    refine es_ E rfl (a_ rfl E.g0) fun a E => n_ (t_ ?_)
    exact ⟨i0 + 1, 0, 0, _, _, wa, E.of ⟨E.g35, E.g25, E.g15, E.g0, trivial⟩, hR0, hwa, by rw [hi0]; exact textQ_always hal, hwa2, hwa1, fun _ m _ => rfl, hf⟩
  clear E
  rintro a w2 ⟨i3, e3, x3, S3, t3, wq, E, hR0, hwq, hE, hwq2, hwq3, ht3, hf⟩
  obtain ⟨hGr, lv, hrb, htkS⟩ := id hR0
  obtain ⟨pl, cl, hlv, hlv0, hlv1, hts, hzl⟩ := htkS
  subst hlv
  refine wp_seq_cut (fun a w2 => ∃ (e5 x5 : Int), Env 110 [(0, .string (ofL s)), (8, .pointer (some ⟨rb, 0, none⟩)), (9, .pointer (some ⟨wq, 0, none⟩))] a ∧ RdS w2 rb G en ts i3 e5 x5 ∧ wkB w2 wq t3 ∧ PsT en ts e5 x5 S3 ∧ (e5 = 0 → e3 = 0) ∧ Fr (fun _ => False) w w2) ?_ ?_
  ·refine s_ ?_
   refine r_ (ep E rfl (m_ rfl E.g2) fun a E => ep E rfl (i_ rfl E.g0) fun a E => ep (v := .pointer (some ⟨rb, 3, none⟩)) E rfl (fa62_3 rfl E.g0) fun a E => ep (v := .int .i64 e3) E rfl (run_lde rfl E.g0 (bx hrb 3 rfl)) fun a E => ep (v := .bool (e3 == 0)) E rfl (run_ieql E.g0 rfl Tryz.underlying25 rfl) fun a E => ep E rfl (m_ rfl E.g0) fun a E => ?_)
   cases hq161 : (e3 == 0) with
   | false =>
    rw [hq161] at E
    have hz3 : ¬ e3 = 0 := by simpa using hq161
    refine ek E rfl rfl E.g0 fun a E => ek E rfl rfl E.g1 fun a E => ek E rfl rfl E.g2 fun a E => ek E rfl rfl E.g3 fun a E => ek E rfl rfl E.g4 fun a E => ek E rfl rfl E.g5 fun a E => ek E rfl rfl E.g6 fun a E => ep (v := .bool false) E rfl (run_pick_f rfl E.g7 rfl) fun a E => n_ (t_ (c_f E.g0 (k_ (t_ ?_))))
    exact ⟨e3, x3, E.of ⟨E.g14, E.g16, E.g17, trivial⟩, hR0, hwq, hE.err hz3, id, hf⟩
   | true =>
    rw [hq161] at E
    have hz3 : e3 = 0 := by simpa using hq161
    refine eg E rfl (wy_ E E.g0) (m_ rfl E.g8) fun a E => eg E rfl (wy_ E E.g1) (i_ rfl E.g0) fun a E => eg (v := .pointer (some ⟨rb, 1, none⟩)) E rfl (wy_ E E.g2) (fa62_1 rfl E.g0) fun a E => eg (v := .int .i64 (i3 : Int)) E rfl (wy_ E E.g3) (run_ldi rfl E.g0 (bx hrb 1 rfl)) fun a E => eg E rfl (wy_ E E.g4) (m_ rfl E.g11) fun a E => eg (v := .int .i64 (ts.length : Int)) E rfl (wy_ E E.g5) (run_len34 rfl E.g0) fun a E => eg (v := .bool (decide ((i3 : Int) < (ts.length : Int)))) E rfl (wy_ E E.g6) (run_ilss E.g2 E.g0 Tryz.underlying3 rfl) fun a E => ep (v := .bool (decide ((i3 : Int) < (ts.length : Int)))) E rfl (run_pick_t rfl E.g7 E.g0) fun a E => n_ (t_ ?_)
    cases hq162 : (decide ((i3 : Int) < (ts.length : Int))) with
    | false =>
     rw [hq162] at E
     have hi9 := of_decide_eq_false hq162
     refine c_f E.g0 (k_ (t_ ?_))
     rw [hz3] at hE hR0
     exact ⟨0, x3, E.of ⟨E.g14, E.g16, E.g17, trivial⟩, hR0, hwq, hE.fin (by omega), fun _ => hz3, hf⟩
    | true =>
     rw [hq162] at E
     have hi9 := of_decide_eq_true hq162
     refine c_t E.g0 (r_ (ep E rfl (m_ rfl E.g16) fun a E => env_callv (d := 86) (R := fun u w8 => u = .tuple #[] ∧ Fr (fun r => r = rb) w2 w8 ∧ RdS w8 rb G en ts (i3) ((firstE e3 x3 (failP en (ts.drop i3))).1) ((firstE e3 x3 (failP en (ts.drop i3))).2)) E rfl (by decide) rfl (wanted_none rfl _) (run_call1 (enters_of Tryz.func39 (by kernel_rfl) rfl) rfl rfl E.g0) ((fail_calls hR0).mono fun e w8 h => ⟨_, h.1, rfl, h.2⟩) fun a w1 u ⟨hu, f1, hR2⟩ E => ?_))
     subst hu
     have hwq := wkB.fr hwq f1 nq_
     have hf := hf.trans' f1 (fun r hr e => by omega)
     clear f1
     have hR0 := hR2
     clear hR2
     obtain ⟨hGr, lv, hrb, htkS⟩ := id hR0
     obtain ⟨pl, cl, hlv, hlv0, hlv1, hts, hzl⟩ := htkS
     subst hlv
     refine n_ (t_ ?_)
     rw [hz3] at hE hR0
     exact ⟨_, _, E.of ⟨E.g16, E.g18, E.g19, trivial⟩, hR0, hwq, hE.more (by omega), fun _ => hz3, hf⟩
  clear E
  rintro a w2 ⟨e5, x5, E, hR0, hwq, hT, ht5, hf⟩
  obtain ⟨hGr, lv, hrb, htkS⟩ := id hR0
  obtain ⟨pl, cl, hlv, hlv0, hlv1, hts, hzl⟩ := htkS
  subst hlv
  refine s_ (r_ (ep E rfl (m_ rfl E.g2) fun a E => env_callv (d := 88) (R := fun u w8 => SpV w8 u (runs t3 10080) ∧ Fr (fun _ => False) w2 w8) E rfl (by decide) rfl (wanted_none rfl _) (run_call1 (enters_of Tryz.func40 (by kernel_rfl) rfl) rfl rfl E.g0) ((spans_calls hwq).mono fun e w8 h => by obtain ⟨v, rfl, h⟩ := h; exact ⟨_, rfl, h⟩) fun a w1 u2 ⟨hu2, f1⟩ E => ?_))
  have hwq := wkB.fr hwq f1 id
  have hrb := f1.obj hrb id
  have hts := srcAt.fr hts f1 (fun r hr => id)
  have hR0 := RdS.fr hR0 f1 (fun r hr => id)
  have hf := hf.trans' f1 (fun _ _ h => h.elim)
  clear f1
  refine ep E rfl (a_ rfl E.g0) fun a E => n_ (t_ (wp_seq_cut (fun a w2 => ∃ (e6 x6 : Int), Env 110 [(0, .string (ofL s)), (8, .pointer (some ⟨rb, 0, none⟩)), (10, u2)] a ∧ RdS w2 rb G en ts i3 e6 x6 ∧ (e6 = 0 → SpV w2 u2 (runs t3 10080)) ∧ ((e6, x6) = if 60 < (runs t3 10080).length then firstE e5 x5 (2, en) else (e5, x5)) ∧ Fr (fun _ => False) w w2) ?_ ?_))
  ·refine s_ ?_
   refine r_ (ep E rfl (m_ rfl E.g0) fun a E => ep (v := .int .i64 ((runs t3 10080).length : Int)) E rfl (run_len22s hu2 rfl E.g0) fun a E => ep (v := .bool (decide (60 < ((runs t3 10080).length : Int)))) E rfl (run_igtr E.g0 rfl Tryz.underlying3 rfl) fun a E => n_ (t_ ?_))
   cases hq163 : (decide (60 < ((runs t3 10080).length : Int))) with
   | false =>
    rw [hq163] at E
    have h60 := of_decide_eq_false hq163
    refine c_f E.g0 (k_ (t_ ?_))
    exact ⟨e5, x5, E.of ⟨E.g6, E.g7, E.g3, trivial⟩, hR0, fun _ => hu2, (if_neg (by omega)).symm, hf⟩
   | true =>
    rw [hq163] at E
    have h60 := of_decide_eq_true hq163
    refine c_t E.g0 (r_ (ep E rfl (m_ rfl E.g7) fun a E => ep E rfl (m_ rfl E.g7) fun a E => ep (v := .int .i64 (s.length : Int)) E rfl (run_slen rfl E.g0) fun a E => env_callv (d := 95) (R := fun u w8 => u = .tuple #[] ∧ Fr (fun r => r = rb) w1 w8 ∧ RdS w8 rb G en ts (i3) ((firstE e5 x5 (2, (s.length : Int))).1) ((firstE e5 x5 (2, (s.length : Int))).2)) E rfl (by decide) rfl (wanted_none rfl _) (run_call3 (enters_of Tryz.func41 (by kernel_rfl) rfl) rfl rfl E.g2 rfl E.g0) ((raise_calls hR0 2 (s.length : Int)).mono fun e w8 h => ⟨_, h.1, rfl, h.2⟩) fun a w1 u ⟨hu, f1, hR2⟩ E => ?_))
    subst hu
    have hwq := wkB.fr hwq f1 nq_
    have hf := hf.trans' f1 (fun r hr e => by omega)
    clear f1
    have hR0 := hR2
    clear hR2
    obtain ⟨hGr, lv, hrb, htkS⟩ := id hR0
    obtain ⟨pl, cl, hlv, hlv0, hlv1, hts, hzl⟩ := htkS
    subst hlv
    refine n_ (t_ ?_)
    exact ⟨_, _, E.of ⟨E.g10, E.g11, E.g7, trivial⟩, hR0, fun h => absurd h (by unfold firstE; split <;> simp_all), by rw [if_pos (by omega), hen], hf⟩
  clear E
  rintro a w2 ⟨e6, x6, E, hR0, hso, hq6, hf⟩
  obtain ⟨hGr, lv, hrb, htkS⟩ := id hR0
  obtain ⟨pl, cl, hlv, hlv0, hlv1, hts, hzl⟩ := htkS
  subst hlv
  have hend := parse_end hlx hen hT (fun h => ht3 (ht5 h)) hq6
  refine s_ (s_ (r_ (ep E rfl (m_ rfl E.g1) fun a E => ep E rfl (i_ rfl E.g0) fun a E => ep (v := .pointer (some ⟨rb, 3, none⟩)) E rfl (fa62_3 rfl E.g0) fun a E => ep (v := .int .i64 e6) E rfl (run_lde rfl E.g0 (bx hrb 3 rfl)) fun a E => ep (v := .bool (e6 != 0)) E rfl (run_ineq E.g0 rfl Tryz.underlying25 rfl) fun a E => n_ (t_ ?_))))
  cases hq164 : (e6 != 0) with
  | false =>
   rw [hq164] at E
   have hz6 : e6 = 0 := by simpa using hq164
   refine c_f E.g0 (k_ (t_ (s_ (r_ (ep E rfl (m_ rfl E.g7) fun a E => ep E rfl (a_ rfl E.g0) fun a E => ep (v := .int .i64 0) E rfl (a_ rfl rfl) fun a E => ep (v := .int .i64 0) E rfl (a_ rfl rfl) fun a E => n_ (t_ (wr_ (ret_tmp3 (t := 2) (t2 := 3) (t3 := 4) rfl E E.g2 E.g1 E.g0 ?_))))))))
   rw [hend.2 hz6]
   exact ⟨_, rfl, hso hz6, hf⟩
  | true =>
   rw [hq164] at E
   have hz6 : ¬ e6 = 0 := by simpa using hq164
   refine c_t E.g0 (s_ (wp_region_inv (n := 110) (base := [(100, .bool true), (99, .int .i64 e6), (98, .pointer (some ⟨rb, 3, none⟩)), (97, .pointer (some ⟨rb, 0, none⟩)), (96, .pointer (some ⟨rb, 0, none⟩)), (0, .string (ofL s)), (8, .pointer (some ⟨rb, 0, none⟩)), (10, u2)]) (T := [some (101, .pointer (some ⟨rb, 0, none⟩)), some (102, .pointer (some ⟨rb, 0, none⟩)), some (103, .pointer (some ⟨rb, 3, none⟩)), some (104, .int .i64 e6), some (105, .pointer (some ⟨rb, 0, none⟩)), some (106, .pointer (some ⟨rb, 0, none⟩)), some (107, .pointer (some ⟨rb, 4, none⟩)), some (108, .int .i64 x6), some (2, .slice none 0 0), some (3, .int .i64 e6), some (4, .int .i64 x6)]) (M := fun _ wm => Fr (fun _ => False) w2 wm) (by kernel_rfl) (by kernel_rfl) (by kernel_rfl) (E.of ⟨E.g0, E.g1, E.g2, E.g3, E.g4, E.g5, E.g6, E.g7, trivial⟩) (Fr.refl _ _).drew ?_ ?_))
   ·intro j9 o9 t9 ls9 a w5 ho hT0 hl E D DL hM
    have hso := fun h9 => Src.fr (hso h9) hM
    have hrb := hM.obj hrb id
    have hts := srcAt.fr hts hM (fun r hr => id)
    have hR0 := RdS.fr hR0 hM (fun r hr => id)
    match j9, ho, hT0, hl, D, DL with
    | 0, ho, hT0, hl, D, DL => exact y9_ ho hT0 (val_wp (m_ rfl E.g6) rfl hM)
    | 1, ho, hT0, hl, D, DL => exact y9_ ho hT0 (val_wp (i_ rfl (D 0 _ rfl rfl)) rfl hM)
    | 2, ho, hT0, hl, D, DL => exact y9_ ho hT0 (val_wp (fa62_3 rfl (D 1 _ rfl rfl)) rfl hM)
    | 3, ho, hT0, hl, D, DL => exact y9_ ho hT0 (val_wp (run_lde rfl (D 2 _ rfl rfl) (bx hrb 3 rfl)) rfl hM)
    | 4, ho, hT0, hl, D, DL => exact y9_ ho hT0 (val_wp (m_ rfl E.g6) rfl hM)
    | 5, ho, hT0, hl, D, DL => exact y9_ ho hT0 (val_wp (i_ rfl (D 4 _ rfl rfl)) rfl hM)
    | 6, ho, hT0, hl, D, DL => exact y9_ ho hT0 (val_wp (fa62_4 rfl (D 5 _ rfl rfl)) rfl hM)
    | 7, ho, hT0, hl, D, DL => exact y9_ ho hT0 (val_wp (run_ldi rfl (D 6 _ rfl rfl) (bx hrb 4 rfl)) rfl hM)
    | 8, ho, hT0, hl, D, DL => exact y9_ ho hT0 (val_wp (a_ rfl rfl) rfl hM)
    | 9, ho, hT0, hl, D, DL => exact y9_ ho hT0 (val_wp (a_ rfl (D 3 _ rfl rfl)) rfl hM)
    | 10, ho, hT0, hl, D, DL => exact y9_ ho hT0 (val_wp (a_ rfl (D 7 _ rfl rfl)) rfl hM)
    | j9 + 11, ho, hT0, hl, D, DL => exact absurd hT0 (by simp)
   ·intro a w5 E V hM
    have E := E.add (V 8 _ rfl)
    have E := E.add (V 9 _ rfl)
    have E := E.add (V 10 _ rfl)
    clear V
    have hso := fun h9 => Src.fr (hso h9) hM
    have hrb := hM.obj hrb id
    have hts := srcAt.fr hts hM (fun r hr => id)
    have hR0 := RdS.fr hR0 hM (fun r hr => id)
    have hf := hf.trans' hM (fun _ _ h => h.elim)
    clear hM
    refine t_ (wr_ (tr_ (ret_tmp3 (t := 2) (t2 := 3) (t3 := 4) rfl E E.g2 E.g1 E.g0 ?_)))
    rw [hend.1 hz6]
    exact ⟨rfl, hf⟩
end Go.Proofs.YtjaffpnegdcjnaaGreatDoor
/- The reference text: a minute. -/
set_option linter.unusedVariables false
set_option linter.unusedSimpArgs false
namespace Go.Proofs.YtjaffpnegdcjnaaGreatDoor
open Go.RowKit Go.Pl
def digsL : Bys := [48, 49, 50, 51, 52, 53, 54, 55, 56, 57]
theorem dig_sub : ∀ k < 10, ((digsL.take (k + 1)).drop k) = [dg k] := by decide
set_option maxRecDepth 100000 in
set_option maxHeartbeats 4000000 in
theorem clocked47_calls {m : Nat} (hm : m ≤ 1440) (w : World) : Calls Tryz.prog 47 #[.int .i64 (m : Int)] w fun e w' => e = .returned (.string (ofL (clk (m : Int)))) ∧ Fr (fun _ => False) w w' := by
 refine wp_start1 Tryz.func47 rfl rfl (n := 46) (by decide) fun a E => ?_
 have hf : Fr (fun _ => False) w w := Fr.refl _ _
 refine s_ (r_ (ep (v := .string (ofL [])) E rfl (a_ rfl rfl) fun a E => n_ (t_ (s_ (r_ (ep (v := .string (ofL [48, 49, 50, 51, 52, 53, 54, 55, 56, 57])) E rfl (a_ rfl rfl) fun a E => n_ (t_ (s_ (r_ (ep E rfl (m_ rfl E.g2) fun a E => ep (v := .int .i64 ((m : Int) / 60)) E rfl (run_iquo E.g0 rfl (by omega) (by omega) (by omega) (by omega) rfl) fun a E => ep E rfl (a_ rfl E.g0) fun a E => n_ (t_ (s_ (r_ (ep E rfl (m_ rfl E.g3) fun a E => ep E rfl (m_ rfl E.g1) fun a E => ep (v := .int .i64 (((m : Int) / 60) % 10)) E rfl (run_irem E.g0 rfl (by omega) (by omega) (by omega) (by omega) rfl) fun a E => ep E rfl (m_ rfl E.g3) fun a E => ep (v := .int .i64 (((m : Int) / 60) % 10)) E rfl (run_irem E.g0 rfl (by omega) (by omega) (by omega) (by omega) rfl) fun a E => ep (v := .int .i64 ((((m : Int) / 60) % 10) + 1)) E rfl (run_iadd Tryz.underlying3 E.g0 rfl (by omega) (by omega) rfl) fun a E => ep (v := .string (ofL [dg (m / 60 % 10)])) E rfl ((run_sub (s := digsL) (a := m / 60 % 10) (b := m / 60 % 10 + 1) rfl E.g5 (E.g3.trans (by first | rfl | (congr 1; omega))) (E.g0.trans (by first | rfl | (congr 1; omega))) (by omega) (by show m / 60 % 10 + 1 ≤ 10; omega)).trans (by rw [dig_sub _ (by omega)])) fun a E => ep E rfl (a_ rfl E.g0) fun a E => n_ (t_ (s_ (s_ (r_ (ep E rfl (m_ rfl E.g8) fun a E => ep (v := .bool (decide (9 < ((m : Int) / 60)))) E rfl (run_igtr E.g0 rfl Tryz.underlying3 rfl) fun a E => n_ (t_ ?_))))))))))))))))))))
 cases hq156 : (decide (9 < ((m : Int) / 60))) with
 | false =>
  rw [hq156] at E
  have h9 := of_decide_eq_false hq156
  refine c_f E.g0 (k_ (t_ (s_ (r_ (ep E rfl (m_ rfl E.g15) fun a E => ep (v := .int .i64 ((m : Int) % 60)) E rfl (run_irem E.g0 rfl (by omega) (by omega) (by omega) (by omega) rfl) fun a E => es_ E rfl (a_ rfl E.g0) fun a E => n_ (t_ (s_ (wp_region_invx (G := Unit) () (n := 46) (base := [(0, .int .i64 ((m : Int) % 60)), (27, .int .i64 ((m : Int) % 60)), (26, .int .i64 (m : Int)), (16, .bool false), (15, .int .i64 ((m : Int) / 60)), (5, .string (ofL [dg (m / 60 % 10)])), (14, .string (ofL [dg (m / 60 % 10)])), (13, .int .i64 ((((m : Int) / 60) % 10) + 1)), (12, .int .i64 (((m : Int) / 60) % 10)), (11, .int .i64 ((m : Int) / 60)), (10, .int .i64 (((m : Int) / 60) % 10)), (9, .int .i64 ((m : Int) / 60)), (8, .string (ofL [48, 49, 50, 51, 52, 53, 54, 55, 56, 57])), (4, .int .i64 ((m : Int) / 60)), (7, .int .i64 ((m : Int) / 60)), (6, .int .i64 (m : Int)), (3, .string (ofL [48, 49, 50, 51, 52, 53, 54, 55, 56, 57]))]) (U := [(2, .string (ofL []), 18)]) (T := fun γ => [some (28, .string (ofL [dg (m / 60 % 10)])), some (29, .string (ofL ([dg (m / 60 % 10)] ++ [58]))), some (30, .string (ofL [48, 49, 50, 51, 52, 53, 54, 55, 56, 57])), some (31, .int .i64 ((m : Int) % 60)), some (32, .int .i64 (((m : Int) % 60) / 10)), some (33, .int .i64 ((m : Int) % 60)), some (34, .int .i64 (((m : Int) % 60) / 10)), some (35, .int .i64 ((((m : Int) % 60) / 10) + 1)), some (36, .string (ofL [dg (m % 60 / 10)])), some (37, .string (ofL (([dg (m / 60 % 10)] ++ [58]) ++ [dg (m % 60 / 10)]))), some (38, .string (ofL [48, 49, 50, 51, 52, 53, 54, 55, 56, 57])), some (39, .int .i64 ((m : Int) % 60)), some (40, .int .i64 (((m : Int) % 60) % 10)), some (41, .int .i64 ((m : Int) % 60)), some (42, .int .i64 (((m : Int) % 60) % 10)), some (43, .int .i64 ((((m : Int) % 60) % 10) + 1)), some (44, .string (ofL [dg (m % 60 % 10)])), some (45, .string (ofL ((([dg (m / 60 % 10)] ++ [58]) ++ [dg (m % 60 / 10)]) ++ [dg (m % 60 % 10)]))), some (2, .string (ofL ((([dg (m / 60 % 10)] ++ [58]) ++ [dg (m % 60 / 10)]) ++ [dg (m % 60 % 10)])))]) (M := fun γ ls9 wm => Fr (fun _ => False) w wm) (by kernel_rfl) (by kernel_rfl) (fun _ => by kernel_rfl) (E.of ⟨E.g0, E.g1, E.g2, E.g3, E.g4, E.g5, E.g6, E.g7, E.g8, E.g9, E.g10, E.g11, E.g12, E.g13, E.g14, E.g15, E.g16, trivial⟩) (fun x hx => by simp only [List.mem_cons, List.not_mem_nil, or_false] at hx; subst hx; exact E.g17) (Fr.refl _ _).drew ?_ ?_))))))))
  ·intro j9 o9 γ ls9 a w5 ho hl E D DL DL2 hB hM
   match j9, ho, hl, D, DL, hB with
   | 0, ho, hl, D, DL, hB => exact z0_ ho (valx rfl (m_ rfl E.g5) rfl hM)
   | 1, ho, hl, D, DL, hB => exact z0_ ho (valx rfl (run_sadd (D 0 _ rfl rfl) rfl rfl (by simp only [List.length_append, List.length_cons, List.length_nil]; omega)) rfl hM)
   | 2, ho, hl, D, DL, hB => exact z0_ ho (valx rfl (m_ rfl E.g16) rfl hM)
   | 3, ho, hl, D, DL, hB => exact z0_ ho (valx rfl (m_ rfl E.g0) rfl hM)
   | 4, ho, hl, D, DL, hB => exact z0_ ho (valx rfl (run_iquo (D 3 _ rfl rfl) rfl (by omega) (by omega) (by omega) (by omega) rfl) rfl hM)
   | 5, ho, hl, D, DL, hB => exact z0_ ho (valx rfl (m_ rfl E.g0) rfl hM)
   | 6, ho, hl, D, DL, hB => exact z0_ ho (valx rfl (run_iquo (D 5 _ rfl rfl) rfl (by omega) (by omega) (by omega) (by omega) rfl) rfl hM)
   | 7, ho, hl, D, DL, hB => exact z0_ ho (valx rfl (run_iadd Tryz.underlying3 (D 6 _ rfl rfl) rfl (by omega) (by omega) rfl) rfl hM)
   | 8, ho, hl, D, DL, hB => exact z0_ ho (valx rfl ((run_sub (s := digsL) (a := m % 60 / 10) (b := m % 60 / 10 + 1) rfl (D 2 _ rfl rfl) ((D 4 _ rfl rfl).trans (by first | rfl | (congr 1; omega))) ((D 7 _ rfl rfl).trans (by first | rfl | (congr 1; omega))) (by omega) (by show m % 60 / 10 + 1 ≤ 10; omega)).trans (by rw [dig_sub _ (by omega)])) rfl hM)
   | 9, ho, hl, D, DL, hB => exact z0_ ho (valx rfl (run_sadd (D 1 _ rfl rfl) (D 8 _ rfl rfl) rfl (by simp only [List.length_append, List.length_cons, List.length_nil]; omega)) rfl hM)
   | 10, ho, hl, D, DL, hB => exact z0_ ho (valx rfl (m_ rfl E.g16) rfl hM)
   | 11, ho, hl, D, DL, hB => exact z0_ ho (valx rfl (m_ rfl E.g0) rfl hM)
   | 12, ho, hl, D, DL, hB => exact z0_ ho (valx rfl (run_irem (D 11 _ rfl rfl) rfl (by omega) (by omega) (by omega) (by omega) rfl) rfl hM)
   | 13, ho, hl, D, DL, hB => exact z0_ ho (valx rfl (m_ rfl E.g0) rfl hM)
   | 14, ho, hl, D, DL, hB => exact z0_ ho (valx rfl (run_irem (D 13 _ rfl rfl) rfl (by omega) (by omega) (by omega) (by omega) rfl) rfl hM)
   | 15, ho, hl, D, DL, hB => exact z0_ ho (valx rfl (run_iadd Tryz.underlying3 (D 14 _ rfl rfl) rfl (by omega) (by omega) rfl) rfl hM)
   | 16, ho, hl, D, DL, hB => exact z0_ ho (valx rfl ((run_sub (s := digsL) (a := m % 60 % 10) (b := m % 60 % 10 + 1) rfl (D 10 _ rfl rfl) ((D 12 _ rfl rfl).trans (by first | rfl | (congr 1; omega))) ((D 15 _ rfl rfl).trans (by first | rfl | (congr 1; omega))) (by omega) (by show m % 60 % 10 + 1 ≤ 10; omega)).trans (by rw [dig_sub _ (by omega)])) rfl hM)
   | 17, ho, hl, D, DL, hB => exact z0_ ho (valx rfl (run_sadd (D 9 _ rfl rfl) (D 16 _ rfl rfl) rfl (by simp only [List.length_append, List.length_cons, List.length_nil]; omega)) rfl hM)
   | 18, ho, hl, D, DL, hB => exact z0_ ho (valx rfl (a_ rfl (D 17 _ rfl rfl)) rfl hM)
   | j9 + 19, ho, hl, D, DL, hB => exact absurd ho (by simp)
  ·rintro _ a w5 E V hM
   have E := E.add (v := .string (ofL ((([dg (m / 60 % 10)] ++ [58]) ++ [dg (m % 60 / 10)]) ++ [dg (m % 60 % 10)]))) (V 18 _ rfl)
   clear V
   have hf := hf.trans' hM (fun _ _ h => h.elim)
   clear hM
   refine t_ (wr_ ?_)
   have hq : ((([dg (m / 60 % 10)] ++ [58]) ++ [dg (m % 60 / 10)]) ++ [dg (m % 60 % 10)]) = clk (m : Int) := by
    unfold clk decS dec2
    rw [show ((m : Int) / 60).toNat = m / 60 by omega, show ((m : Int) % 60).toNat = m % 60 by omega]
    rw [if_pos (by omega), show m / 60 % 10 = m / 60 by omega]; rfl
   rw [hq] at E
   exact ret_tmp (t := 2) rfl E E.g0 ⟨rfl, hf⟩
 | true =>
  rw [hq156] at E
  have h9 := of_decide_eq_true hq156
  refine c_t E.g0 (r_ (ep E rfl (m_ rfl E.g13) fun a E => ep E rfl (m_ rfl E.g11) fun a E => ep (v := .int .i64 (((m : Int) / 60) / 10)) E rfl (run_iquo E.g0 rfl (by omega) (by omega) (by omega) (by omega) rfl) fun a E => ep E rfl (m_ rfl E.g13) fun a E => ep (v := .int .i64 (((m : Int) / 60) / 10)) E rfl (run_iquo E.g0 rfl (by omega) (by omega) (by omega) (by omega) rfl) fun a E => ep (v := .int .i64 ((((m : Int) / 60) / 10) + 1)) E rfl (run_iadd Tryz.underlying3 E.g0 rfl (by omega) (by omega) rfl) fun a E => ep (v := .string (ofL [dg (m / 60 / 10)])) E rfl ((run_sub (s := digsL) (a := m / 60 / 10) (b := m / 60 / 10 + 1) rfl E.g5 (E.g3.trans (by first | rfl | (congr 1; omega))) (E.g0.trans (by first | rfl | (congr 1; omega))) (by omega) (by show m / 60 / 10 + 1 ≤ 10; omega)).trans (by rw [dig_sub _ (by omega)])) fun a E => ep E rfl (m_ rfl E.g9) fun a E => ep (v := .string (ofL ([dg (m / 60 / 10)] ++ [dg (m / 60 % 10)]))) E rfl (run_sadd E.g1 E.g0 rfl (by simp only [List.length_append, List.length_cons, List.length_nil]; omega)) fun a E => es_ E rfl (a_ rfl E.g0) fun a E => n_ (t_ (s_ (r_ (ep E rfl (m_ rfl E.g24) fun a E => ep (v := .int .i64 ((m : Int) % 60)) E rfl (run_irem E.g0 rfl (by omega) (by omega) (by omega) (by omega) rfl) fun a E => es_ E rfl (a_ rfl E.g0) fun a E => n_ (t_ (s_ (wp_region_invx (G := Unit) () (n := 46) (base := [(0, .int .i64 ((m : Int) % 60)), (27, .int .i64 ((m : Int) % 60)), (26, .int .i64 (m : Int)), (5, .string (ofL ([dg (m / 60 / 10)] ++ [dg (m / 60 % 10)]))), (25, .string (ofL ([dg (m / 60 / 10)] ++ [dg (m / 60 % 10)]))), (24, .string (ofL [dg (m / 60 % 10)])), (23, .string (ofL [dg (m / 60 / 10)])), (22, .int .i64 ((((m : Int) / 60) / 10) + 1)), (21, .int .i64 (((m : Int) / 60) / 10)), (20, .int .i64 ((m : Int) / 60)), (19, .int .i64 (((m : Int) / 60) / 10)), (18, .int .i64 ((m : Int) / 60)), (17, .string (ofL [48, 49, 50, 51, 52, 53, 54, 55, 56, 57])), (16, .bool true), (15, .int .i64 ((m : Int) / 60)), (14, .string (ofL [dg (m / 60 % 10)])), (13, .int .i64 ((((m : Int) / 60) % 10) + 1)), (12, .int .i64 (((m : Int) / 60) % 10)), (11, .int .i64 ((m : Int) / 60)), (10, .int .i64 (((m : Int) / 60) % 10)), (9, .int .i64 ((m : Int) / 60)), (8, .string (ofL [48, 49, 50, 51, 52, 53, 54, 55, 56, 57])), (4, .int .i64 ((m : Int) / 60)), (7, .int .i64 ((m : Int) / 60)), (6, .int .i64 (m : Int)), (3, .string (ofL [48, 49, 50, 51, 52, 53, 54, 55, 56, 57]))]) (U := [(2, .string (ofL []), 18)]) (T := fun γ => [some (28, .string (ofL ([dg (m / 60 / 10)] ++ [dg (m / 60 % 10)]))), some (29, .string (ofL (([dg (m / 60 / 10)] ++ [dg (m / 60 % 10)]) ++ [58]))), some (30, .string (ofL [48, 49, 50, 51, 52, 53, 54, 55, 56, 57])), some (31, .int .i64 ((m : Int) % 60)), some (32, .int .i64 (((m : Int) % 60) / 10)), some (33, .int .i64 ((m : Int) % 60)), some (34, .int .i64 (((m : Int) % 60) / 10)), some (35, .int .i64 ((((m : Int) % 60) / 10) + 1)), some (36, .string (ofL [dg (m % 60 / 10)])), some (37, .string (ofL ((([dg (m / 60 / 10)] ++ [dg (m / 60 % 10)]) ++ [58]) ++ [dg (m % 60 / 10)]))), some (38, .string (ofL [48, 49, 50, 51, 52, 53, 54, 55, 56, 57])), some (39, .int .i64 ((m : Int) % 60)), some (40, .int .i64 (((m : Int) % 60) % 10)), some (41, .int .i64 ((m : Int) % 60)), some (42, .int .i64 (((m : Int) % 60) % 10)), some (43, .int .i64 ((((m : Int) % 60) % 10) + 1)), some (44, .string (ofL [dg (m % 60 % 10)])), some (45, .string (ofL (((([dg (m / 60 / 10)] ++ [dg (m / 60 % 10)]) ++ [58]) ++ [dg (m % 60 / 10)]) ++ [dg (m % 60 % 10)]))), some (2, .string (ofL (((([dg (m / 60 / 10)] ++ [dg (m / 60 % 10)]) ++ [58]) ++ [dg (m % 60 / 10)]) ++ [dg (m % 60 % 10)])))]) (M := fun γ ls9 wm => Fr (fun _ => False) w wm) (by kernel_rfl) (by kernel_rfl) (fun _ => by kernel_rfl) (E.of ⟨E.g0, E.g1, E.g2, E.g3, E.g4, E.g5, E.g6, E.g7, E.g8, E.g9, E.g10, E.g11, E.g12, E.g13, E.g14, E.g15, E.g16, E.g17, E.g18, E.g19, E.g20, E.g21, E.g22, E.g23, E.g24, E.g25, trivial⟩) (fun x hx => by simp only [List.mem_cons, List.not_mem_nil, or_false] at hx; subst hx; exact E.g26) (Fr.refl _ _).drew ?_ ?_)))))))))
  ·intro j9 o9 γ ls9 a w5 ho hl E D DL DL2 hB hM
   match j9, ho, hl, D, DL, hB with
   | 0, ho, hl, D, DL, hB => exact z0_ ho (valx rfl (m_ rfl E.g3) rfl hM)
   | 1, ho, hl, D, DL, hB => exact z0_ ho (valx rfl (run_sadd (D 0 _ rfl rfl) rfl rfl (by simp only [List.length_append, List.length_cons, List.length_nil]; omega)) rfl hM)
   | 2, ho, hl, D, DL, hB => exact z0_ ho (valx rfl (m_ rfl E.g25) rfl hM)
   | 3, ho, hl, D, DL, hB => exact z0_ ho (valx rfl (m_ rfl E.g0) rfl hM)
   | 4, ho, hl, D, DL, hB => exact z0_ ho (valx rfl (run_iquo (D 3 _ rfl rfl) rfl (by omega) (by omega) (by omega) (by omega) rfl) rfl hM)
   | 5, ho, hl, D, DL, hB => exact z0_ ho (valx rfl (m_ rfl E.g0) rfl hM)
   | 6, ho, hl, D, DL, hB => exact z0_ ho (valx rfl (run_iquo (D 5 _ rfl rfl) rfl (by omega) (by omega) (by omega) (by omega) rfl) rfl hM)
   | 7, ho, hl, D, DL, hB => exact z0_ ho (valx rfl (run_iadd Tryz.underlying3 (D 6 _ rfl rfl) rfl (by omega) (by omega) rfl) rfl hM)
   | 8, ho, hl, D, DL, hB => exact z0_ ho (valx rfl ((run_sub (s := digsL) (a := m % 60 / 10) (b := m % 60 / 10 + 1) rfl (D 2 _ rfl rfl) ((D 4 _ rfl rfl).trans (by first | rfl | (congr 1; omega))) ((D 7 _ rfl rfl).trans (by first | rfl | (congr 1; omega))) (by omega) (by show m % 60 / 10 + 1 ≤ 10; omega)).trans (by rw [dig_sub _ (by omega)])) rfl hM)
   | 9, ho, hl, D, DL, hB => exact z0_ ho (valx rfl (run_sadd (D 1 _ rfl rfl) (D 8 _ rfl rfl) rfl (by simp only [List.length_append, List.length_cons, List.length_nil]; omega)) rfl hM)
   | 10, ho, hl, D, DL, hB => exact z0_ ho (valx rfl (m_ rfl E.g25) rfl hM)
   | 11, ho, hl, D, DL, hB => exact z0_ ho (valx rfl (m_ rfl E.g0) rfl hM)
   | 12, ho, hl, D, DL, hB => exact z0_ ho (valx rfl (run_irem (D 11 _ rfl rfl) rfl (by omega) (by omega) (by omega) (by omega) rfl) rfl hM)
   | 13, ho, hl, D, DL, hB => exact z0_ ho (valx rfl (m_ rfl E.g0) rfl hM)
   | 14, ho, hl, D, DL, hB => exact z0_ ho (valx rfl (run_irem (D 13 _ rfl rfl) rfl (by omega) (by omega) (by omega) (by omega) rfl) rfl hM)
   | 15, ho, hl, D, DL, hB => exact z0_ ho (valx rfl (run_iadd Tryz.underlying3 (D 14 _ rfl rfl) rfl (by omega) (by omega) rfl) rfl hM)
   | 16, ho, hl, D, DL, hB => exact z0_ ho (valx rfl ((run_sub (s := digsL) (a := m % 60 % 10) (b := m % 60 % 10 + 1) rfl (D 10 _ rfl rfl) ((D 12 _ rfl rfl).trans (by first | rfl | (congr 1; omega))) ((D 15 _ rfl rfl).trans (by first | rfl | (congr 1; omega))) (by omega) (by show m % 60 % 10 + 1 ≤ 10; omega)).trans (by rw [dig_sub _ (by omega)])) rfl hM)
   | 17, ho, hl, D, DL, hB => exact z0_ ho (valx rfl (run_sadd (D 9 _ rfl rfl) (D 16 _ rfl rfl) rfl (by simp only [List.length_append, List.length_cons, List.length_nil]; omega)) rfl hM)
   | 18, ho, hl, D, DL, hB => exact z0_ ho (valx rfl (a_ rfl (D 17 _ rfl rfl)) rfl hM)
   | j9 + 19, ho, hl, D, DL, hB => exact absurd ho (by simp)
  ·rintro _ a w5 E V hM
   have E := E.add (v := .string (ofL (((([dg (m / 60 / 10)] ++ [dg (m / 60 % 10)]) ++ [58]) ++ [dg (m % 60 / 10)]) ++ [dg (m % 60 % 10)]))) (V 18 _ rfl)
   clear V
   have hf := hf.trans' hM (fun _ _ h => h.elim)
   clear hM
   refine t_ (wr_ ?_)
   have hq : (((([dg (m / 60 / 10)] ++ [dg (m / 60 % 10)]) ++ [58]) ++ [dg (m % 60 / 10)]) ++ [dg (m % 60 % 10)]) = clk (m : Int) := by
    unfold clk decS dec2
    rw [show ((m : Int) / 60).toNat = m / 60 by omega, show ((m : Int) % 60).toNat = m % 60 by omega]
    rw [if_neg (by omega)]; rfl
   rw [hq] at E
   exact ret_tmp (t := 2) rfl E E.g0 ⟨rfl, hf⟩
end Go.Proofs.YtjaffpnegdcjnaaGreatDoor
/- HoursTexts. -/
set_option linter.unusedVariables false
set_option linter.unusedSimpArgs false
namespace Go.Proofs.YtjaffpnegdcjnaaGreatDoor
open Go.RowKit Go.Pl
theorem joinC_len16 (P : List (Int × Int × Int)) : (joinC (P.map pcT)).length ≤ 16 * P.length := by
 have hd : ∀ d : Int, (dayT d).length ≤ 2 := by
  intro d
  unfold dayT
  by_cases hd : d.toNat < 7
  ·have : ∀ d < 7, (days.getD d []).length ≤ 2 := by decide +kernel
   exact this _ hd
  ·rw [List.getD_eq_getElem?_getD, List.getElem?_eq_none (by show 7 ≤ d.toNat; omega)]; simp
 have hp : ∀ p : Int × Int × Int, (pcT p).length ≤ 14 := by
  intro p
  have h1 := hd p.1; have h2 := clk_len p.2.1; have h3 := clk_len p.2.2
  unfold pcT
  simp only [List.length_append, List.length_cons]; omega
 induction P with
 | nil => simp [joinC]
 | cons p P ih =>
  cases P with
  | nil => have := hp p; simp only [List.map_cons, List.map_nil, joinC, List.length_cons, List.length_nil]; omega
  | cons q P =>
   have := hp p
   simp only [List.map_cons, joinC, List.length_append, List.length_cons] at ih ⊢; omega
theorem textR_ok {l : List Sp} (hv : vl (-1) l = true) (h : l.length ≤ 60) : textR l = (textC l, 0) := by
 unfold textR; rw [if_neg (by rw [hv]; simp), if_neg (by omega)]
theorem textR_no1 {l : List Sp} (hv : vl (-1) l = false) : textR l = ([], 1) := by unfold textR; rw [if_pos hv]
theorem textR_no2 {l : List Sp} (hv : vl (-1) l = true) (h : 60 < l.length) : textR l = ([], 2) := by
 unfold textR; rw [if_neg (by rw [hv]; simp), if_pos h]
theorem text_is {v : Value} {l : List Sp} {t : Bys} {c : Int} (h : textR l = (t, c)) {w : World} (hl : SpV w v l) (hln : l.length ≤ 1000000) (hT0 : Tb w) : Calls Tryz.prog 15 #[v] w fun e w' => e = .returned (.tuple #[.string (ofL t), .int .i64 c]) ∧ Fr (fun _ => False) w w' := by
 have := text15_calls hl hln hT0
 rw [h] at this
 exact this
end Go.Proofs.YtjaffpnegdcjnaaGreatDoor
/- The reference text. -/
set_option linter.unusedVariables false
set_option linter.unusedSimpArgs false
namespace Go.Proofs.YtjaffpnegdcjnaaGreatDoor
open Go.RowKit Go.Pl
/-- The pieces of a span on the days before a day. -/
def pcD (s : Sp) (k : Nat) : List (Int × Int × Int) := if max s.1 (1440 * k) < min s.2 (1440 * k + 1440) then [((k : Int), max s.1 (1440 * k) - 1440 * k, min s.2 (1440 * k + 1440) - 1440 * k)] else []
def pcsD (s : Sp) : Nat → List (Int × Int × Int)
 | 0 => []
 | k + 1 => pcsD s k ++ pcD s k
theorem joinC_snoc (xs : List Bys) (y : Bys) : joinC (xs ++ [y]) = if xs = [] then y else joinC xs ++ (44 :: 32 :: y) := by
 induction xs with
 | nil => rfl
 | cons x xs ih =>
  rw [if_neg (by simp)]
  cases xs with
  | nil => rfl
  | cons z xs =>
   show x ++ 44 :: 32 :: joinC ((z :: xs) ++ [y]) = _
   rw [ih, if_neg (by simp)]
   simp [joinC]
theorem pcT_ne (p : Int × Int × Int) : pcT p ≠ [] := by unfold pcT; simp
theorem joinC_nil {P : List (Int × Int × Int)} : joinC (P.map pcT) = [] ↔ P = [] := by
 cases P with
 | nil => simp [joinC]
 | cons p P =>
  cases P with
  | nil => simp [joinC, pcT_ne]
  | cons q P => simp [joinC]
theorem pcsD_lt {s : Sp} {k : Nat} (h : 1440 * (k : Int) ≤ s.1) : pcsD s k = [] := by
 induction k with
 | zero => rfl
 | succ k ih =>
  show pcsD s k ++ pcD s k = []
  rw [ih (by omega)]
  unfold pcD
  rw [if_neg (by omega)]; rfl
theorem pcsD_ge {s : Sp} {k : Nat} (j : Nat) (h : s.2 ≤ 1440 * (k : Int)) : pcsD s (k + j) = pcsD s k := by
 induction j with
 | zero => rfl
 | succ j ih =>
  show pcsD s (k + j) ++ pcD s (k + j) = _
  rw [ih]
  unfold pcD
  rw [if_neg (by push_cast; omega), List.append_nil]
theorem pcsD_pcsF {t : Int} (ht : t ≤ 10080) (s1 : Int) : ∀ (n : Nat) (f : Int) (k : Nat), f / 1440 = k → s1 ≤ f → 0 ≤ s1 → 0 ≤ f → (f < t → 10080 - f / 1440 * 1440 ≤ 1440 * n) → (f = s1 ∨ f = 1440 * (k : Int)) → pcsD (s1, t) 7 = pcsD (s1, t) k ++ pcsF n f t := by
 intro n
 induction n with
 | zero =>
  intro f k hk h1 h0 h2 hn hf
  have hle : ¬ f < t := fun h => by have := hn h; omega
  rw [pcsF_nil hle, List.append_nil]
  rcases Nat.lt_or_ge 7 k with h7 | h7
  ·have := @pcsD_ge (s1, t) 7 (k - 7) (by show t ≤ _; omega)
   rw [show 7 + (k - 7) = k by omega] at this; exact this.symm
  ·rcases hf with hf | hf
   ·subst hf
    rw [@pcsD_lt (f, t) k (by show _ ≤ f; omega)]
    have : ∀ j, pcsD (f, t) j = [] := by
     intro j
     induction j with
     | zero => rfl
     | succ j ih => show pcsD (f, t) j ++ pcD (f, t) j = []; rw [ih]; unfold pcD; rw [if_neg (by simp only; omega)]; rfl
    exact this 7
   ·have := @pcsD_ge (s1, t) k (7 - k) (by show t ≤ _; omega)
    rw [show k + (7 - k) = 7 by omega] at this; exact this
 | succ n ih =>
  intro f k hk h1 h0 h2 hn hf
  by_cases hlt : f < t
  ·obtain ⟨m, hm, hp, e1, e2, e3⟩ := pcsF_step hlt h2 ht (hn hlt)
   cases hm
   rw [hp]
   by_cases hc : min t ((f / 1440 + 1) * 1440) < t
   ·rw [ih (min t ((f / 1440 + 1) * 1440)) (k + 1) (by push_cast; omega) (by omega) h0 e2 e3 (.inr (by push_cast; omega))]
    show (pcsD (s1, t) k ++ pcD (s1, t) k) ++ _ = _
    have : pcD (s1, t) k = [(f / 1440, f - f / 1440 * 1440, min t ((f / 1440 + 1) * 1440) - f / 1440 * 1440)] := by
     have e7 : max s1 (1440 * (k : Int)) = f := by rcases hf with hf | hf <;> omega
     have e8 : min t (1440 * (k : Int) + 1440) = min t (((k : Int) + 1) * 1440) := by congr 1; omega
     unfold pcD
     simp only
     rw [if_pos (by rw [e7]; omega), hk, e7, e8, show 1440 * (k : Int) = (k : Int) * 1440 by omega]
    rw [this]; simp
   ·rw [pcsF_nil hc]
    have hk7 : k + 1 ≤ 7 := by omega
    have := @pcsD_ge (s1, t) (k + 1) (7 - (k + 1)) (by show t ≤ _; push_cast; omega)
    rw [show k + 1 + (7 - (k + 1)) = 7 by omega] at this
    rw [this]
    show pcsD (s1, t) k ++ pcD (s1, t) k = _
    have : pcD (s1, t) k = [(f / 1440, f - f / 1440 * 1440, min t ((f / 1440 + 1) * 1440) - f / 1440 * 1440)] := by
     have e7 : max s1 (1440 * (k : Int)) = f := by rcases hf with hf | hf <;> omega
     have e8 : min t (1440 * (k : Int) + 1440) = min t (((k : Int) + 1) * 1440) := by congr 1; omega
     unfold pcD
     simp only
     rw [if_pos (by rw [e7]; omega), hk, e7, e8, show 1440 * (k : Int) = (k : Int) * 1440 by omega]
    rw [this]
  ·have h9 := pcsF_nil (n := n + 1) hlt
   rw [h9, List.append_nil]
   rcases Nat.lt_or_ge 7 k with h7 | h7
   ·have := @pcsD_ge (s1, t) 7 (k - 7) (by show t ≤ _; omega)
    rw [show 7 + (k - 7) = k by omega] at this; exact this.symm
   ·rcases hf with hf | hf
    ·subst hf
     rw [@pcsD_lt (f, t) k (by show _ ≤ f; omega)]
     have : ∀ j, pcsD (f, t) j = [] := by
      intro j
      induction j with
      | zero => rfl
      | succ j ih => show pcsD (f, t) j ++ pcD (f, t) j = []; rw [ih]; unfold pcD; rw [if_neg (by simp only; omega)]; rfl
     exact this 7
    ·have := @pcsD_ge (s1, t) k (7 - k) (by show t ≤ _; omega)
     rw [show k + (7 - k) = 7 by omega] at this; exact this
theorem pcsD_pcs {s : Sp} (h0 : 0 ≤ s.1) (h1 : s.2 ≤ 10080) : pcsD s 7 = pcs s := by
 obtain ⟨a, b⟩ := s
 have h0 : 0 ≤ a := h0
 rw [pcsD_pcsF h1 a 8 a (a / 1440).toNat (by omega) (Int.le_refl _) h0 h0 (fun _ => by push_cast; omega) (.inl rfl), @pcsD_lt (a, b) _ (by show _ ≤ a; omega)]
 rfl
theorem clocked47z {z : Int} {n : Nat} (hz : z = n) (hn : n ≤ 1440) (w : World) : Calls Tryz.prog 47 #[.int .i64 z] w fun e w' => e = .returned (.string (ofL (clk (n : Int)))) ∧ Fr (fun _ => False) w w' := by
 subst hz; exact clocked47_calls hn w
theorem join_add (A B : List (Int × Int × Int)) (p : Int × Int × Int) : joinC ((A ++ (B ++ [p])).map pcT) = if A ++ B = [] then pcT p else joinC ((A ++ B).map pcT) ++ (44 :: 32 :: pcT p) := by
 rw [← List.append_assoc, List.map_append, List.map_cons, List.map_nil, joinC_snoc]
 simp only [List.map_eq_nil_iff]
theorem pcsD_len (s : Sp) : ∀ d, (pcsD s d).length ≤ d := by
 intro d
 induction d with
 | zero => exact Nat.le_refl _
 | succ d ih => show (pcsD s d ++ pcD s d).length ≤ _; unfold pcD; split <;> simp <;> omega
set_option maxRecDepth 100000 in
set_option maxHeartbeats 4000000 in
theorem text16_calls {w : World} {v : Value} {l : List Sp} (hl : SpV w v l) (hln : l.length ≤ 1000000) : Calls Tryz.prog 16 #[v] w fun e w' => e = .returned (.tuple #[.string (ofL (textR l).1), .int .i64 (textR l).2]) ∧ Fr (fun _ => False) w w' := by
 have hl1 := hl
 obtain ⟨p0, cp0, hvp0, hlep0, hcapp0, hsp0, hzp0⟩ := hl
 subst hvp0
 refine wp_start1 Tryz.func16 rfl rfl (n := 83) (by decide) fun a E => ?_
 have hf : Fr (fun _ => False) w w := Fr.refl _ _
 have hll : l.length ≤ 1000000 := hln
 refine s_ (r_ (ep (v := .string (ofL [])) E rfl (a_ rfl rfl) fun a E => ep (v := .int .i64 0) E rfl (a_ rfl rfl) fun a E => n_ (t_ (s_ (s_ (r_ (ep E rfl (m_ rfl E.g2) fun a E => ec_ (v := .bool (vl (-1) l)) E rfl (run_call1 (enters_of Tryz.func19 (by kernel_rfl) rfl) rfl rfl E.g0) (rvalid_calls hl1) fun a w1 f1 E => ?_)))))))
 have hsp0 := srcAt.fr hsp0 f1 (fun r hr => id)
 have hl1 := Src.fr hl1 f1
 have hf := hf.trans' f1 (fun _ _ h => h.elim)
 clear f1
 refine ep (v := .bool (!(vl (-1) l))) E rfl (run_not rfl E.g0) fun a E => n_ (t_ ?_)
 cases hq156 : (vl (-1) l) with
 | false =>
  rw [hq156] at E
  refine c_t E.g0 (s_ (r_ (es_ (v := .string (ofL [])) E rfl (a_ rfl rfl) fun a E => es_ (v := .int .i64 1) E rfl (a_ rfl rfl) fun a E => n_ (t_ (wr_ (tr_ ?_))))))
  have hr : textR l = ([], 1) := textR_no1 hq156
  refine ret_tmp2 (t := 2) (t2 := 3) rfl E E.g1 E.g0 ?_
  rw [hr]
  exact ⟨rfl, hf⟩
 | true =>
  rw [hq156] at E
  refine c_f E.g0 (k_ (t_ (s_ (s_ (r_ (ep E rfl (m_ rfl E.g5) fun a E => ep (v := .int .i64 (l.length : Int)) E rfl (run_len22 rfl E.g0) fun a E => ep (v := .bool (decide (60 < (l.length : Int)))) E rfl (run_igtr E.g0 rfl Tryz.underlying3 rfl) fun a E => n_ (t_ ?_)))))))
  cases hq157 : (decide (60 < (l.length : Int))) with
  | false =>
   rw [hq157] at E
   refine c_f E.g0 (k_ (t_ (s_ (s_ (r_ (ep E rfl (m_ rfl E.g8) fun a E => ep (v := .int .i64 (l.length : Int)) E rfl (run_len22 rfl E.g0) fun a E => ep (v := .bool ((l.length : Int) == 0)) E rfl (run_ieql E.g0 rfl Tryz.underlying3 rfl) fun a E => n_ (t_ ?_)))))))
   cases hq158 : ((l.length : Int) == 0) with
   | false =>
    rw [hq158] at E
    have hlt0 : 0 < l.length := by have := hq158; rw [beq_eq_false_iff_ne] at this; omega
    obtain ⟨y, hy⟩ : ∃ y, l[0]? = some y := ⟨_, List.getElem?_eq_getElem hlt0⟩
    obtain ⟨g159, off159, hpe159, hgl159, hrow159⟩ := hsp0.at hlt0
    replace hrow159 := hrow159 0 y hy
    have hwy := vl_wk (Int.le_refl _) hq156 y (List.mem_of_getElem? hy)
    refine c_f E.g0 (k_ (t_ (s_ (s_ (wp_region_inv (n := 83) (base := [(17, .bool false), (16, .int .i64 (l.length : Int)), (15, .slice (p0) l.length cp0), (14, .bool false), (13, .int .i64 (l.length : Int)), (12, .slice (p0) l.length cp0), (11, .bool false), (10, .bool true), (9, .slice (p0) l.length cp0), (3, .int .i64 0), (2, .string (ofL [])), (0, .slice (p0) l.length cp0)]) (T := [some (18, .slice (p0) l.length cp0), some (19, .pointer (some ⟨g159, (off159 + 0 * 2), none⟩)), some (20, .pointer (some ⟨g159, ((off159 + 0 * 2) + 1), none⟩)), some (21, .int .i64 y.2), some (22, .slice (p0) l.length cp0), some (23, .pointer (some ⟨g159, (off159 + 0 * 2), none⟩)), some (24, .pointer (some ⟨g159, ((off159 + 0 * 2) + 0), none⟩)), some (25, .int .i64 y.1), some (26, .int .i64 (y.2 - y.1)), some (27, .bool ((y.2 - y.1) == 10080))]) (M := fun _ wm => Fr (fun _ => False) w1 wm) (by kernel_rfl) (by kernel_rfl) (by kernel_rfl) (E.of ⟨E.g0, E.g1, E.g2, E.g3, E.g4, E.g5, E.g6, E.g7, E.g8, E.g9, E.g10, E.g11, trivial⟩) (Fr.refl _ _).drew ?_ ?_)))))
    ·intro j9 o9 t9 ls9 a w5 ho hT0 hl E D DL hM
     have hsp0 := srcAt.fr hsp0 hM (fun r hr => id)
     have hl1 := Src.fr hl1 hM
     have hrow159 := fun j u hu => hM.cell (hrow159 j u hu) id
     match j9, ho, hT0, hl, D, DL with
     | 0, ho, hT0, hl, D, DL => exact y9_ ho hT0 (val_wp (m_ rfl E.g11) rfl hM)
     | 1, ho, hT0, hl, D, DL => exact y9_ ho hT0 (val_wp (run_index22 (i := 0) rfl ((D 0 _ rfl rfl).trans (by rw [hpe159])) rfl hlt0) rfl hM)
     | 2, ho, hT0, hl, D, DL => exact y9_ ho hT0 (val_wp (fa48_1 rfl (D 1 _ rfl rfl)) rfl hM)
     | 3, ho, hT0, hl, D, DL => exact y9_ ho hT0 (val_wp (run_ldi rfl (D 2 _ rfl rfl) (hrow159 1 _ rfl)) rfl hM)
     | 4, ho, hT0, hl, D, DL => exact y9_ ho hT0 (val_wp (m_ rfl E.g11) rfl hM)
     | 5, ho, hT0, hl, D, DL => exact y9_ ho hT0 (val_wp (run_index22 (i := 0) rfl ((D 4 _ rfl rfl).trans (by rw [hpe159])) rfl hlt0) rfl hM)
     | 6, ho, hT0, hl, D, DL => exact y9_ ho hT0 (val_wp (fa48_0 rfl (D 5 _ rfl rfl)) rfl hM)
     | 7, ho, hT0, hl, D, DL => exact y9_ ho hT0 (val_wp (run_ldi rfl (D 6 _ rfl rfl) (hrow159 0 _ rfl)) rfl hM)
     | 8, ho, hT0, hl, D, DL => exact y9_ ho hT0 (val_wp (run_isub Tryz.underlying3 (D 3 _ rfl rfl) (D 7 _ rfl rfl) (by omega) (by omega) rfl) rfl hM)
     | 9, ho, hT0, hl, D, DL => exact y9_ ho hT0 (val_wp (run_ieql (D 8 _ rfl rfl) rfl Tryz.underlying3 rfl) rfl hM)
     | j9 + 10, ho, hT0, hl, D, DL => exact absurd hT0 (by simp)
    ·intro a w5 E V hM
     have E := E.add (V 9 _ rfl)
     clear V
     have hsp0 := srcAt.fr hsp0 hM (fun r hr => id)
     have hl1 := Src.fr hl1 hM
     have hrow159 := fun j u hu => hM.cell (hrow159 j u hu) id
     have hf := hf.trans' hM (fun _ _ h => h.elim)
     clear hM
     refine t_ ?_
     cases hq161 : ((y.2 - y.1) == 10080) with
     | false =>
      rw [hq161] at E
      refine c_f E.g0 (k_ (t_ (s_ ?_)))
      have hy0 := hy
      obtain ⟨y0, hyy⟩ : ∃ y0, y0 = y := ⟨_, rfl⟩
      rw [← hyy] at hy0
      refine r_ (ep (v := .string (ofL [])) E rfl (a_ rfl rfl) fun a E => n_ (t_ (s_ (s_ (r_ (ep (v := .int .i64 0) E rfl (a_ rfl rfl) fun a E => n_ (t_ (bk_ ?_))))))))
      have hvl : vl (-1) l = true := hq156
      have h60 : l.length ≤ 60 := by have := of_decide_eq_false hq157; omega
      have hwk := vl_wk (Int.le_refl _) hvl
      refine wp_loop (fun a w2 => ∃ (i : Nat) (o : Bys), Env 83 [(0, .slice (p0) l.length cp0), (4, .string (ofL o)), (5, .int .i64 (i : Int))] a ∧ i ≤ l.length ∧ o = joinC (((l.take i).flatMap pcs).map pcT) ∧ srcAt spL 2 w2 w.heap.size p0 l ∧ Fr (fun _ => False) w w2) (fun a _ => l.length - (intOf (a.eval (.tmp 5))).toNat) ?_ ?_
      ·exact ⟨0, [], E.of ⟨E.g14, E.g1, E.g0, trivial⟩, Nat.zero_le _, rfl, hsp0, hf⟩
      clear E
      rintro a w2 ⟨i, o, E, hi, ho0, hsp0, hf⟩
      have hmu : l.length - (intOf (a.eval (.tmp 5))).toNat = l.length - i := by rw [E.g2]; first | rfl | (simp [intOf]; done) | (simp only [intOf]; omega)
      rw [hmu]
      clear hmu
      refine s_ (s_ (r_ (ep E rfl (m_ rfl E.g2) fun a E => ep E rfl (m_ rfl E.g1) fun a E => ep (v := .int .i64 (l.length : Int)) E rfl (run_len22 rfl E.g0) fun a E => ep (v := .bool (decide ((i : Int) < (l.length : Int)))) E rfl (run_ilss E.g2 E.g0 Tryz.underlying3 rfl) fun a E => n_ (t_ ?_))))
      cases hq163 : (decide ((i : Int) < (l.length : Int))) with
      | false =>
       rw [hq163] at E
       have hie : i = l.length := by have := of_decide_eq_false hq163; omega
       refine c_f E.g0 (x_ (te_ (te_ (be_ (t_ (s_ (r_ (ep E rfl (m_ rfl E.g5) fun a E => ep E rfl (a_ rfl E.g0) fun a E => ep (v := .int .i64 0) E rfl (a_ rfl rfl) fun a E => n_ (t_ (wr_ ?_))))))))))
       have hr := textR_ok hq156 (by have := of_decide_eq_false hq157; omega)
       obtain ⟨t9, l9, hcons⟩ := List.exists_cons_of_ne_nil (List.ne_nil_of_length_pos hlt0)
       have ht : textC l = joinC ((l.flatMap pcs).map pcT) := by
        have h10 := beq_eq_false_iff_ne.1 hq161
        have hyt : y0 = t9 := by rw [hcons] at hy0; simpa using hy0.symm
        rw [hcons]; unfold textC; simp only; rw [if_neg (by rw [← hyt]; intro h; rw [beq_iff_eq] at h; rw [← hyy, h] at h10; exact h10 (by decide))]
       rw [hie, List.take_length] at ho0
       rw [← ho0] at ht
       rw [ht] at hr
       refine ret_tmp2 (t := 2) (t2 := 3) rfl E E.g1 E.g0 ?_
       rw [hr]
       exact ⟨rfl, hf⟩
      | true =>
       rw [hq163] at E
       have hlt : i < l.length := by have := of_decide_eq_true hq163; omega
       obtain ⟨y, hy⟩ : ∃ y, l[i]? = some y := ⟨_, List.getElem?_eq_getElem hlt⟩
       refine c_t E.g0 (k_ (t_ (s_ (bk_ (s_ (r_ (ep (v := .int .i64 0) E rfl (a_ rfl rfl) fun a E => n_ (t_ (bk_ ?_)))))))))
       have hwy := hwk y (List.mem_of_getElem? hy)
       refine wp_loop (fun a w2 => ∃ (d : Nat) (o : Bys), Env 83 [(0, .slice (p0) l.length cp0), (4, .string (ofL o)), (5, .int .i64 (i : Int)), (6, .int .i64 (d : Int))] a ∧ d ≤ 7 ∧ o = joinC ((((l.take i).flatMap pcs) ++ pcsD y d).map pcT) ∧ srcAt spL 2 w2 w.heap.size p0 l ∧ Fr (fun _ => False) w w2) (fun a _ => 7 - (intOf (a.eval (.tmp 6))).toNat) ?_ ?_
       ·exact ⟨0, _, E.of ⟨E.g5, E.g6, E.g7, E.g0, trivial⟩, Nat.zero_le _, by rw [ho0]; simp [pcsD], hsp0, hf⟩
       clear E
       rintro a w2 ⟨d, o, E, hd, ho, hsp0, hf⟩
       have hmu : 7 - (intOf (a.eval (.tmp 6))).toNat = 7 - d := by rw [E.g3]; first | rfl | (simp [intOf]; done) | (simp only [intOf]; omega)
       rw [hmu]
       clear hmu
       have hP : ((l.take i).flatMap pcs ++ pcsD y d).length ≤ 1000 := by
        have h1 := pcs_len60 (l := l.take i) (by simp; omega)
        have h2 : (pcsD y d).length ≤ d := pcsD_len y d
        rw [List.length_append]; omega
       have hol := joinC_len16 ((l.take i).flatMap pcs ++ pcsD y d)
       rw [← ho] at hol
       refine s_ (s_ (r_ (ep E rfl (m_ rfl E.g3) fun a E => ep (v := .bool (decide ((d : Int) < 7))) E rfl (run_ilss E.g0 rfl Tryz.underlying3 rfl) fun a E => n_ (t_ ?_))))
       cases hq165 : (decide ((d : Int) < 7)) with
       | false =>
        rw [hq165] at E
        have hde : d = 7 := by have := of_decide_eq_false hq165; omega
        refine c_f E.g0 (x_ (te_ (te_ (be_ (b_ (t_ (r_ (ep E rfl (m_ rfl E.g4) fun a E => ep (v := .int .i64 ((i : Int) + 1)) E rfl (run_iadd Tryz.underlying3 E.g0 rfl (by omega) (by omega) rfl) fun a E => es_ E rfl (a_ rfl E.g0) fun a E => n_ (t_ ?_)))))))))
        refine ⟨⟨i + 1, _, E.of ⟨E.g5, E.g6, E.g0, trivial⟩, hlt, ?_, hsp0, hf⟩, ?_⟩
        ·rw [ho, hde, pcsD_pcs hwy.1 hwy.2.2, List.take_add_one, hy]; simp
        ·rw [E.g0]; simp only [intOf]; omega
       | true =>
        rw [hq165] at E
        have hd7 : d < 7 := by have := of_decide_eq_true hq165; omega
        obtain ⟨g166, off166, hpe166, hgl166, hrow166⟩ := hsp0.at hlt
        replace hrow166 := hrow166 i y hy
        refine c_t E.g0 (k_ (t_ (s_ (bk_ (s_ (r_ (ep E rfl (m_ rfl E.g2) fun a E => ep E rfl (m_ rfl E.g5) fun a E => ep (v := .pointer (some ⟨g166, (off166 + i * 2), none⟩)) E rfl (run_index22 (i := i) rfl (E.g1.trans (by rw [hpe166])) E.g0 hlt) fun a E => ep (v := .pointer (some ⟨g166, ((off166 + i * 2) + 0), none⟩)) E rfl (fa48_0 rfl E.g0) fun a E => ep (v := .int .i64 y.1) E rfl (run_ldi rfl E.g0 (hrow166 0 _ rfl)) fun a E => ep E rfl (m_ rfl E.g10) fun a E => ep (v := .int .i64 (1440 * (d : Int))) E rfl (run_imul Tryz.underlying3 rfl E.g0 (by omega) (by omega) rfl) fun a E => ep (v := .int .i64 (max y.1 (1440 * (d : Int)))) E rfl (run_max rfl E.g2 E.g0) fun a E => ep E rfl (a_ rfl E.g0) fun a E => n_ (t_ (s_ (r_ (ep E rfl (m_ rfl E.g11) fun a E => ep E rfl (m_ rfl E.g14) fun a E => ep (v := .pointer (some ⟨g166, (off166 + i * 2), none⟩)) E rfl (run_index22 (i := i) rfl (E.g1.trans (by rw [hpe166])) E.g0 hlt) fun a E => ep (v := .pointer (some ⟨g166, ((off166 + i * 2) + 1), none⟩)) E rfl (fa48_1 rfl E.g0) fun a E => ep (v := .int .i64 y.2) E rfl (run_ldi rfl E.g0 (hrow166 1 _ rfl)) fun a E => ep E rfl (m_ rfl E.g19) fun a E => ep (v := .int .i64 (1440 * (d : Int))) E rfl (run_imul Tryz.underlying3 rfl E.g0 (by omega) (by omega) rfl) fun a E => ep (v := .int .i64 ((1440 * (d : Int)) + 1440)) E rfl (run_iadd Tryz.underlying3 E.g0 rfl (by omega) (by omega) rfl) fun a E => ep (v := .int .i64 (min y.2 ((1440 * (d : Int)) + 1440))) E rfl (run_min rfl E.g3 E.g0) fun a E => ep E rfl (a_ rfl E.g0) fun a E => n_ (t_ (s_ (s_ (r_ (ep E rfl (m_ rfl E.g10) fun a E => ep E rfl (m_ rfl E.g1) fun a E => ep (v := .bool (decide ((min y.2 ((1440 * (d : Int)) + 1440)) ≤ (max y.1 (1440 * (d : Int)))))) E rfl (run_igeq E.g1 E.g0 Tryz.underlying3 rfl) fun a E => n_ (t_ ?_)))))))))))))))))
        cases hq167 : (decide ((min y.2 ((1440 * (d : Int)) + 1440)) ≤ (max y.1 (1440 * (d : Int))))) with
        | false =>
         rw [hq167] at E
         have hft := of_decide_eq_false hq167
         obtain ⟨fn, hfn⟩ : ∃ fn : Nat, ((max y.1 (1440 * (d : Int))) - (1440 * (d : Int))) = fn := ⟨((max y.1 (1440 * (d : Int))) - (1440 * (d : Int))).toNat, by omega⟩
         obtain ⟨tn, htn⟩ : ∃ tn : Nat, ((min y.2 ((1440 * (d : Int)) + 1440)) - (1440 * (d : Int))) = tn := ⟨((min y.2 ((1440 * (d : Int)) + 1440)) - (1440 * (d : Int))).toNat, by omega⟩
         have hfnl : fn ≤ 1440 := by omega
         have htnl : tn ≤ 1440 := by omega
         have hpd : pcD y d = [((d : Int), (fn : Int), (tn : Int))] := (if_pos (by omega)).trans (by rw [← hfn, ← htn])
         have hln1 := dayT_len hd7
         have hln2 := clk_len (fn : Int)
         have hln3 := clk_len (tn : Int)
         refine c_f E.g0 (k_ (t_ (s_ (s_ (r_ (ep E rfl (m_ rfl E.g25) fun a E => ep (v := .bool (!(o == []))) E rfl (run_sne E.g0 rfl rfl) fun a E => n_ (t_ ?_)))))))
         cases hq168 : (o == []) with
         | false =>
          rw [hq168] at E
          have hoe : ¬ o = [] := by simpa using hq168
          have hpe9 : ¬ (((l.take i).flatMap pcs) ++ pcsD y d) = [] := by rw [← joinC_nil, ← ho]; exact hoe
          refine c_t E.g0 (r_ (ep E rfl (m_ rfl E.g27) fun a E => ep (v := .string (ofL (o ++ [44, 32]))) E rfl (run_sadd E.g0 rfl rfl (by simp only [List.length_append, List.length_cons, List.length_nil]; omega)) fun a E => es_ E rfl (a_ rfl E.g0) fun a E => n_ (t_ (wp_region_invx (G := Nat) 0 (n := 83) (base := [(61, .string (ofL (o ++ [44, 32]))), (60, .string (ofL o)), (59, .bool true), (58, .string (ofL o)), (57, .bool false), (56, .int .i64 (min y.2 ((1440 * (d : Int)) + 1440))), (55, .int .i64 (max y.1 (1440 * (d : Int)))), (8, .int .i64 (min y.2 ((1440 * (d : Int)) + 1440))), (54, .int .i64 (min y.2 ((1440 * (d : Int)) + 1440))), (53, .int .i64 ((1440 * (d : Int)) + 1440)), (52, .int .i64 (1440 * (d : Int))), (51, .int .i64 (d : Int)), (50, .int .i64 y.2), (49, .pointer (some ⟨g166, ((off166 + i * 2) + 1), none⟩)), (48, .pointer (some ⟨g166, (off166 + i * 2), none⟩)), (47, .int .i64 (i : Int)), (46, .slice (p0) l.length cp0), (7, .int .i64 (max y.1 (1440 * (d : Int)))), (45, .int .i64 (max y.1 (1440 * (d : Int)))), (44, .int .i64 (1440 * (d : Int))), (43, .int .i64 (d : Int)), (42, .int .i64 y.1), (41, .pointer (some ⟨g166, ((off166 + i * 2) + 0), none⟩)), (40, .pointer (some ⟨g166, (off166 + i * 2), none⟩)), (39, .int .i64 (i : Int)), (38, .slice (p0) l.length cp0), (35, .bool true), (34, .int .i64 (d : Int)), (0, .slice (p0) l.length cp0), (5, .int .i64 (i : Int)), (6, .int .i64 (d : Int))]) (U := [(4, .string (ofL (o ++ [44, 32])), 20)]) (T := fun γ => [some (62, .string (ofL (o ++ [44, 32]))), some (63, .slice (some ⟨γ, 0, none⟩) 7 7), some (64, .int .i64 (d : Int)), some (65, .pointer (some ⟨γ, (0 + d), none⟩)), some (66, .string (ofL (dayT (d : Int)))), some (67, .string (ofL ((dayT (d : Int)) ++ [32]))), some (68, .int .i64 (max y.1 (1440 * (d : Int)))), some (69, .int .i64 (d : Int)), some (70, .int .i64 (1440 * (d : Int))), some (71, .int .i64 ((max y.1 (1440 * (d : Int))) - (1440 * (d : Int)))), some (72, .string (ofL (clk (fn : Int)))), some (73, .string (ofL (((dayT (d : Int)) ++ [32]) ++ (clk (fn : Int))))), some (74, .string (ofL ((((dayT (d : Int)) ++ [32]) ++ (clk (fn : Int))) ++ [45]))), some (75, .int .i64 (min y.2 ((1440 * (d : Int)) + 1440))), some (76, .int .i64 (d : Int)), some (77, .int .i64 (1440 * (d : Int))), some (78, .int .i64 ((min y.2 ((1440 * (d : Int)) + 1440)) - (1440 * (d : Int)))), some (79, .string (ofL (clk (tn : Int)))), some (80, .string (ofL (((((dayT (d : Int)) ++ [32]) ++ (clk (fn : Int))) ++ [45]) ++ (clk (tn : Int))))), some (81, .string (ofL ((o ++ [44, 32]) ++ (((((dayT (d : Int)) ++ [32]) ++ (clk (fn : Int))) ++ [45]) ++ (clk (tn : Int)))))), some (4, .string (ofL ((o ++ [44, 32]) ++ (((((dayT (d : Int)) ++ [32]) ++ (clk (fn : Int))) ++ [45]) ++ (clk (tn : Int))))))]) (M := fun γ ls9 wm => Fr (fun _ => False) w2 wm ∧ (ls9 1 = true → DaysAt wm γ)) (by kernel_rfl) (by kernel_rfl) (fun _ => by kernel_rfl) (E.of ⟨E.g1, E.g2, E.g3, E.g4, E.g5, E.g6, E.g7, E.g8, E.g9, E.g10, E.g11, E.g12, E.g13, E.g14, E.g15, E.g16, E.g17, E.g18, E.g19, E.g20, E.g21, E.g22, E.g23, E.g24, E.g25, E.g26, E.g27, E.g28, E.g29, E.g30, E.g31, trivial⟩) (fun x hx => by simp only [List.mem_cons, List.not_mem_nil, or_false] at hx; subst hx; exact E.g0) ⟨(Fr.refl _ _).drew, fun h => absurd h Bool.false_ne_true⟩ ?_ ?_))))
          ·intro j9 o9 γ ls9 a w5 ho hl E D DL DL2 hB hM
           have hsp0 := srcAt.fr hsp0 hM.1 (fun r hr => id)
           have hrow166 := fun j u hu => hM.1.cell (hrow166 j u hu) id
           match j9, ho, hl, D, DL, hB with
           | 0, ho, hl, D, DL, hB => exact z0_ ho (valx rfl (m_ rfl (hB (4, .string (ofL (o ++ [44, 32])), 20) (by simp) rfl)) rfl hM)
           | 1, ho, hl, D, DL, hB => exact z0_ ho (callxw (F := fun v w8 => ∃ bd, v = .slice (some ⟨bd, 0, none⟩) 7 7 ∧ DaysAt w8 bd ∧ Fr (fun _ => False) w5 w8) (run_call0 (enters_of Tryz.func46 (by kernel_rfl) rfl) rfl rfl) ((days46_calls _).mono fun e w8 h => by obtain ⟨b, rfl, h1, h2, h3⟩ := h; exact ⟨_, rfl, b, rfl, h1, h3⟩) rfl fun v w8 ⟨bd, hv, hD, f9⟩ => ⟨bd, by rw [hv]; rfl, (fun j hj => match j, hj with | 0, _ => rfl | 1, hj => absurd (hl.symm.trans hj) (by decide) | 2, _ => rfl | 3, hj => absurd (hl.symm.trans (DL2 3 1 rfl hj)) (by decide) | 4, _ => rfl | 5, _ => rfl | 6, _ => rfl | 7, _ => rfl | 8, _ => rfl | 9, _ => rfl | 10, _ => rfl | 11, _ => rfl | 12, _ => rfl | 13, _ => rfl | 14, _ => rfl | 15, _ => rfl | 16, _ => rfl | 17, _ => rfl | 18, _ => rfl | 19, _ => rfl | 20, _ => rfl | e9 + 21, _ => rfl), hM.1.trans f9, fun _ => hD⟩)
           | 2, ho, hl, D, DL, hB => exact z0_ ho (valx rfl (m_ rfl E.g30) rfl hM)
           | 3, ho, hl, D, DL, hB => exact z0_ ho (valx rfl (run_index70 (i := d) rfl (D 1 _ rfl rfl) (D 2 _ rfl rfl) hd7) rfl hM)
           | 4, ho, hl, D, DL, hB => exact z0_ ho (valx rfl (run_lds rfl (D 3 _ rfl rfl) ((hM.2 (DL2 3 1 rfl (DL 3 rfl))).at hd7)) rfl hM)
           | 5, ho, hl, D, DL, hB => exact z0_ ho (valx rfl (run_sadd (D 4 _ rfl rfl) rfl rfl (by simp only [List.length_append, List.length_cons, List.length_nil]; omega)) rfl hM)
           | 6, ho, hl, D, DL, hB => exact z0_ ho (valx rfl (m_ rfl E.g17) rfl hM)
           | 7, ho, hl, D, DL, hB => exact z0_ ho (valx rfl (m_ rfl E.g30) rfl hM)
           | 8, ho, hl, D, DL, hB => exact z0_ ho (valx rfl (run_imul Tryz.underlying3 rfl (D 7 _ rfl rfl) (by omega) (by omega) rfl) rfl hM)
           | 9, ho, hl, D, DL, hB => exact z0_ ho (valx rfl (run_isub Tryz.underlying3 (D 6 _ rfl rfl) (D 8 _ rfl rfl) (by omega) (by omega) rfl) rfl hM)
           | 10, ho, hl, D, DL, hB => exact z0_ ho (callx rfl (run_call1 (enters_of Tryz.func47 (by kernel_rfl) rfl) rfl rfl (D 9 _ rfl rfl)) (clocked47z hfn hfnl _) rfl fun w9 f1 => ⟨hM.1.trans' f1 (fun _ _ h => h.elim), fun h => f1.obj (hM.2 h) id⟩)
           | 11, ho, hl, D, DL, hB => exact z0_ ho (valx rfl (run_sadd (D 5 _ rfl rfl) (D 10 _ rfl rfl) rfl (by simp only [List.length_append, List.length_cons, List.length_nil]; omega)) rfl hM)
           | 12, ho, hl, D, DL, hB => exact z0_ ho (valx rfl (run_sadd (D 11 _ rfl rfl) rfl rfl (by simp only [List.length_append, List.length_cons, List.length_nil]; omega)) rfl hM)
           | 13, ho, hl, D, DL, hB => exact z0_ ho (valx rfl (m_ rfl E.g7) rfl hM)
           | 14, ho, hl, D, DL, hB => exact z0_ ho (valx rfl (m_ rfl E.g30) rfl hM)
           | 15, ho, hl, D, DL, hB => exact z0_ ho (valx rfl (run_imul Tryz.underlying3 rfl (D 14 _ rfl rfl) (by omega) (by omega) rfl) rfl hM)
           | 16, ho, hl, D, DL, hB => exact z0_ ho (valx rfl (run_isub Tryz.underlying3 (D 13 _ rfl rfl) (D 15 _ rfl rfl) (by omega) (by omega) rfl) rfl hM)
           | 17, ho, hl, D, DL, hB => exact z0_ ho (callx rfl (run_call1 (enters_of Tryz.func47 (by kernel_rfl) rfl) rfl rfl (D 16 _ rfl rfl)) (clocked47z htn htnl _) rfl fun w9 f1 => ⟨hM.1.trans' f1 (fun _ _ h => h.elim), fun h => f1.obj (hM.2 h) id⟩)
           | 18, ho, hl, D, DL, hB => exact z0_ ho (valx rfl (run_sadd (D 12 _ rfl rfl) (D 17 _ rfl rfl) rfl (by simp only [List.length_append, List.length_cons, List.length_nil]; omega)) rfl hM)
           | 19, ho, hl, D, DL, hB => exact z0_ ho (valx rfl (run_sadd (D 0 _ rfl rfl) (D 18 _ rfl rfl) rfl (by simp only [List.length_append, List.length_cons, List.length_nil]; omega)) rfl hM)
           | 20, ho, hl, D, DL, hB => exact z0_ ho (valx rfl (a_ rfl (D 19 _ rfl rfl)) rfl hM)
           | j9 + 21, ho, hl, D, DL, hB => exact absurd ho (by simp)
          ·rintro γ169a a w5 E V hM
           have E := E.add (v := .string (ofL ((o ++ [44, 32]) ++ (((((dayT (d : Int)) ++ [32]) ++ (clk (fn : Int))) ++ [45]) ++ (clk (tn : Int)))))) (V 20 _ rfl)
           clear V
           have f1 := hM.1
           clear hM
           have hsp0 := srcAt.fr hsp0 f1 (fun r hr => id)
           have hrow166 := fun j u hu => f1.cell (hrow166 j u hu) id
           have hf := hf.trans' f1 (fun _ _ h => h.elim)
           clear f1
           refine b_ (t_ (r_ (ep E rfl (m_ rfl E.g31) fun a E => ep (v := .int .i64 ((d : Int) + 1)) E rfl (run_iadd Tryz.underlying3 E.g0 rfl (by omega) (by omega) rfl) fun a E => es_ E rfl (a_ rfl E.g0) fun a E => n_ (t_ ?_))))
           refine ⟨⟨d + 1, _, E.of ⟨E.g32, E.g3, E.g33, E.g0, trivial⟩, hd7, ?_, hsp0, hf⟩, ?_⟩
           ·show _ = joinC ((((l.take i).flatMap pcs) ++ (pcsD y d ++ pcD y d)).map pcT); rw [hpd, join_add, if_neg hpe9, ← ho]; simp [pcT]
           ·rw [E.g0]; simp only [intOf]; omega
         | true =>
          rw [hq168] at E
          have hoe : o = [] := by simpa using hq168
          have hpe9 : (((l.take i).flatMap pcs) ++ pcsD y d) = [] := by rw [← joinC_nil, ← ho]; exact hoe
          refine c_f E.g0 (k_ (t_ (wp_region_invx (G := Nat) 0 (n := 83) (base := [(59, .bool false), (58, .string (ofL o)), (57, .bool false), (56, .int .i64 (min y.2 ((1440 * (d : Int)) + 1440))), (55, .int .i64 (max y.1 (1440 * (d : Int)))), (8, .int .i64 (min y.2 ((1440 * (d : Int)) + 1440))), (54, .int .i64 (min y.2 ((1440 * (d : Int)) + 1440))), (53, .int .i64 ((1440 * (d : Int)) + 1440)), (52, .int .i64 (1440 * (d : Int))), (51, .int .i64 (d : Int)), (50, .int .i64 y.2), (49, .pointer (some ⟨g166, ((off166 + i * 2) + 1), none⟩)), (48, .pointer (some ⟨g166, (off166 + i * 2), none⟩)), (47, .int .i64 (i : Int)), (46, .slice (p0) l.length cp0), (7, .int .i64 (max y.1 (1440 * (d : Int)))), (45, .int .i64 (max y.1 (1440 * (d : Int)))), (44, .int .i64 (1440 * (d : Int))), (43, .int .i64 (d : Int)), (42, .int .i64 y.1), (41, .pointer (some ⟨g166, ((off166 + i * 2) + 0), none⟩)), (40, .pointer (some ⟨g166, (off166 + i * 2), none⟩)), (39, .int .i64 (i : Int)), (38, .slice (p0) l.length cp0), (35, .bool true), (34, .int .i64 (d : Int)), (0, .slice (p0) l.length cp0), (5, .int .i64 (i : Int)), (6, .int .i64 (d : Int))]) (U := [(4, .string (ofL o), 20)]) (T := fun γ => [some (62, .string (ofL o)), some (63, .slice (some ⟨γ, 0, none⟩) 7 7), some (64, .int .i64 (d : Int)), some (65, .pointer (some ⟨γ, (0 + d), none⟩)), some (66, .string (ofL (dayT (d : Int)))), some (67, .string (ofL ((dayT (d : Int)) ++ [32]))), some (68, .int .i64 (max y.1 (1440 * (d : Int)))), some (69, .int .i64 (d : Int)), some (70, .int .i64 (1440 * (d : Int))), some (71, .int .i64 ((max y.1 (1440 * (d : Int))) - (1440 * (d : Int)))), some (72, .string (ofL (clk (fn : Int)))), some (73, .string (ofL (((dayT (d : Int)) ++ [32]) ++ (clk (fn : Int))))), some (74, .string (ofL ((((dayT (d : Int)) ++ [32]) ++ (clk (fn : Int))) ++ [45]))), some (75, .int .i64 (min y.2 ((1440 * (d : Int)) + 1440))), some (76, .int .i64 (d : Int)), some (77, .int .i64 (1440 * (d : Int))), some (78, .int .i64 ((min y.2 ((1440 * (d : Int)) + 1440)) - (1440 * (d : Int)))), some (79, .string (ofL (clk (tn : Int)))), some (80, .string (ofL (((((dayT (d : Int)) ++ [32]) ++ (clk (fn : Int))) ++ [45]) ++ (clk (tn : Int))))), some (81, .string (ofL (o ++ (((((dayT (d : Int)) ++ [32]) ++ (clk (fn : Int))) ++ [45]) ++ (clk (tn : Int)))))), some (4, .string (ofL (o ++ (((((dayT (d : Int)) ++ [32]) ++ (clk (fn : Int))) ++ [45]) ++ (clk (tn : Int))))))]) (M := fun γ ls9 wm => Fr (fun _ => False) w2 wm ∧ (ls9 1 = true → DaysAt wm γ)) (by kernel_rfl) (by kernel_rfl) (fun _ => by kernel_rfl) (E.of ⟨E.g0, E.g1, E.g2, E.g3, E.g4, E.g5, E.g6, E.g7, E.g8, E.g9, E.g10, E.g11, E.g12, E.g13, E.g14, E.g15, E.g16, E.g17, E.g18, E.g19, E.g20, E.g21, E.g22, E.g23, E.g24, E.g25, E.g26, E.g28, E.g29, trivial⟩) (fun x hx => by simp only [List.mem_cons, List.not_mem_nil, or_false] at hx; subst hx; exact E.g27) ⟨(Fr.refl _ _).drew, fun h => absurd h Bool.false_ne_true⟩ ?_ ?_)))
          ·intro j9 o9 γ ls9 a w5 ho hl E D DL DL2 hB hM
           have hsp0 := srcAt.fr hsp0 hM.1 (fun r hr => id)
           have hrow166 := fun j u hu => hM.1.cell (hrow166 j u hu) id
           match j9, ho, hl, D, DL, hB with
           | 0, ho, hl, D, DL, hB => exact z0_ ho (valx rfl (m_ rfl (hB (4, .string (ofL o), 20) (by simp) rfl)) rfl hM)
           | 1, ho, hl, D, DL, hB => exact z0_ ho (callxw (F := fun v w8 => ∃ bd, v = .slice (some ⟨bd, 0, none⟩) 7 7 ∧ DaysAt w8 bd ∧ Fr (fun _ => False) w5 w8) (run_call0 (enters_of Tryz.func46 (by kernel_rfl) rfl) rfl rfl) ((days46_calls _).mono fun e w8 h => by obtain ⟨b, rfl, h1, h2, h3⟩ := h; exact ⟨_, rfl, b, rfl, h1, h3⟩) rfl fun v w8 ⟨bd, hv, hD, f9⟩ => ⟨bd, by rw [hv]; rfl, (fun j hj => match j, hj with | 0, _ => rfl | 1, hj => absurd (hl.symm.trans hj) (by decide) | 2, _ => rfl | 3, hj => absurd (hl.symm.trans (DL2 3 1 rfl hj)) (by decide) | 4, _ => rfl | 5, _ => rfl | 6, _ => rfl | 7, _ => rfl | 8, _ => rfl | 9, _ => rfl | 10, _ => rfl | 11, _ => rfl | 12, _ => rfl | 13, _ => rfl | 14, _ => rfl | 15, _ => rfl | 16, _ => rfl | 17, _ => rfl | 18, _ => rfl | 19, _ => rfl | 20, _ => rfl | e9 + 21, _ => rfl), hM.1.trans f9, fun _ => hD⟩)
           | 2, ho, hl, D, DL, hB => exact z0_ ho (valx rfl (m_ rfl E.g28) rfl hM)
           | 3, ho, hl, D, DL, hB => exact z0_ ho (valx rfl (run_index70 (i := d) rfl (D 1 _ rfl rfl) (D 2 _ rfl rfl) hd7) rfl hM)
           | 4, ho, hl, D, DL, hB => exact z0_ ho (valx rfl (run_lds rfl (D 3 _ rfl rfl) ((hM.2 (DL2 3 1 rfl (DL 3 rfl))).at hd7)) rfl hM)
           | 5, ho, hl, D, DL, hB => exact z0_ ho (valx rfl (run_sadd (D 4 _ rfl rfl) rfl rfl (by simp only [List.length_append, List.length_cons, List.length_nil]; omega)) rfl hM)
           | 6, ho, hl, D, DL, hB => exact z0_ ho (valx rfl (m_ rfl E.g15) rfl hM)
           | 7, ho, hl, D, DL, hB => exact z0_ ho (valx rfl (m_ rfl E.g28) rfl hM)
           | 8, ho, hl, D, DL, hB => exact z0_ ho (valx rfl (run_imul Tryz.underlying3 rfl (D 7 _ rfl rfl) (by omega) (by omega) rfl) rfl hM)
           | 9, ho, hl, D, DL, hB => exact z0_ ho (valx rfl (run_isub Tryz.underlying3 (D 6 _ rfl rfl) (D 8 _ rfl rfl) (by omega) (by omega) rfl) rfl hM)
           | 10, ho, hl, D, DL, hB => exact z0_ ho (callx rfl (run_call1 (enters_of Tryz.func47 (by kernel_rfl) rfl) rfl rfl (D 9 _ rfl rfl)) (clocked47z hfn hfnl _) rfl fun w9 f1 => ⟨hM.1.trans' f1 (fun _ _ h => h.elim), fun h => f1.obj (hM.2 h) id⟩)
           | 11, ho, hl, D, DL, hB => exact z0_ ho (valx rfl (run_sadd (D 5 _ rfl rfl) (D 10 _ rfl rfl) rfl (by simp only [List.length_append, List.length_cons, List.length_nil]; omega)) rfl hM)
           | 12, ho, hl, D, DL, hB => exact z0_ ho (valx rfl (run_sadd (D 11 _ rfl rfl) rfl rfl (by simp only [List.length_append, List.length_cons, List.length_nil]; omega)) rfl hM)
           | 13, ho, hl, D, DL, hB => exact z0_ ho (valx rfl (m_ rfl E.g5) rfl hM)
           | 14, ho, hl, D, DL, hB => exact z0_ ho (valx rfl (m_ rfl E.g28) rfl hM)
           | 15, ho, hl, D, DL, hB => exact z0_ ho (valx rfl (run_imul Tryz.underlying3 rfl (D 14 _ rfl rfl) (by omega) (by omega) rfl) rfl hM)
           | 16, ho, hl, D, DL, hB => exact z0_ ho (valx rfl (run_isub Tryz.underlying3 (D 13 _ rfl rfl) (D 15 _ rfl rfl) (by omega) (by omega) rfl) rfl hM)
           | 17, ho, hl, D, DL, hB => exact z0_ ho (callx rfl (run_call1 (enters_of Tryz.func47 (by kernel_rfl) rfl) rfl rfl (D 16 _ rfl rfl)) (clocked47z htn htnl _) rfl fun w9 f1 => ⟨hM.1.trans' f1 (fun _ _ h => h.elim), fun h => f1.obj (hM.2 h) id⟩)
           | 18, ho, hl, D, DL, hB => exact z0_ ho (valx rfl (run_sadd (D 12 _ rfl rfl) (D 17 _ rfl rfl) rfl (by simp only [List.length_append, List.length_cons, List.length_nil]; omega)) rfl hM)
           | 19, ho, hl, D, DL, hB => exact z0_ ho (valx rfl (run_sadd (D 0 _ rfl rfl) (D 18 _ rfl rfl) rfl (by simp only [List.length_append, List.length_cons, List.length_nil]; omega)) rfl hM)
           | 20, ho, hl, D, DL, hB => exact z0_ ho (valx rfl (a_ rfl (D 19 _ rfl rfl)) rfl hM)
           | j9 + 21, ho, hl, D, DL, hB => exact absurd ho (by simp)
          ·rintro γ170a a w5 E V hM
           have E := E.add (v := .string (ofL (o ++ (((((dayT (d : Int)) ++ [32]) ++ (clk (fn : Int))) ++ [45]) ++ (clk (tn : Int)))))) (V 20 _ rfl)
           clear V
           have f1 := hM.1
           clear hM
           have hsp0 := srcAt.fr hsp0 f1 (fun r hr => id)
           have hrow166 := fun j u hu => f1.cell (hrow166 j u hu) id
           have hf := hf.trans' f1 (fun _ _ h => h.elim)
           clear f1
           refine b_ (t_ (r_ (ep E rfl (m_ rfl E.g29) fun a E => ep (v := .int .i64 ((d : Int) + 1)) E rfl (run_iadd Tryz.underlying3 E.g0 rfl (by omega) (by omega) rfl) fun a E => es_ E rfl (a_ rfl E.g0) fun a E => n_ (t_ ?_))))
           refine ⟨⟨d + 1, _, E.of ⟨E.g30, E.g3, E.g31, E.g0, trivial⟩, hd7, ?_, hsp0, hf⟩, ?_⟩
           ·show _ = joinC ((((l.take i).flatMap pcs) ++ (pcsD y d ++ pcD y d)).map pcT); rw [hpd, join_add, if_pos hpe9, hoe]; simp [pcT]
           ·rw [E.g0]; simp only [intOf]; omega
        | true =>
         rw [hq167] at E
         have hft := of_decide_eq_true hq167
         have hpd : pcD y d = [] := if_neg (by omega)
         refine c_t E.g0 (x_ (te_ (be_ (t_ (r_ (ep E rfl (m_ rfl E.g27) fun a E => ep (v := .int .i64 ((d : Int) + 1)) E rfl (run_iadd Tryz.underlying3 E.g0 rfl (by omega) (by omega) rfl) fun a E => es_ E rfl (a_ rfl E.g0) fun a E => n_ (t_ ?_)))))))
         refine ⟨⟨d + 1, _, E.of ⟨E.g27, E.g28, E.g29, E.g0, trivial⟩, hd7, ?_, hsp0, hf⟩, ?_⟩
         ·show o = joinC ((_ ++ (pcsD y d ++ pcD y d)).map pcT); rw [hpd, List.append_nil]; exact ho
         ·rw [E.g0]; simp only [intOf]; omega
     | true =>
      rw [hq161] at E
      refine c_t E.g0 (s_ (r_ (es_ (v := .string (ofL [97, 108, 119, 97, 121, 115])) E rfl (a_ rfl rfl) fun a E => es_ (v := .int .i64 0) E rfl (a_ rfl rfl) fun a E => n_ (t_ (wr_ (tr_ ?_))))))
      have hr := textR_ok hq156 (by have := of_decide_eq_false hq157; omega)
      obtain ⟨t9, l9, hcons⟩ := List.exists_cons_of_ne_nil (List.ne_nil_of_length_pos hlt0)
      have ht9 : y = t9 := by rw [hcons] at hy; simpa using hy.symm
      subst ht9
      have hwy := vl_wk (Int.le_refl _) hq156 y (by rw [hcons]; simp)
      have h10 : y.2 - y.1 = 10080 := beq_iff_eq.1 hq161
      have hy0 : y = (0, 10080) := Prod.ext (by omega) (by omega)
      have ht : textC l = always := by unfold textC; rw [hcons]; simp only; rw [if_pos (by rw [hy0]; rfl)]
      rw [ht] at hr
      refine ret_tmp2 (t := 2) (t2 := 3) rfl E E.g1 E.g0 ?_
      rw [hr]
      exact ⟨rfl, hf⟩
   | true =>
    rw [hq158] at E
    refine c_t E.g0 (s_ (r_ (es_ (v := .string (ofL [110, 101, 118, 101, 114])) E rfl (a_ rfl rfl) fun a E => es_ (v := .int .i64 0) E rfl (a_ rfl rfl) fun a E => n_ (t_ (wr_ (tr_ ?_))))))
    have hr := textR_ok hq156 (by have := of_decide_eq_false hq157; omega)
    have hnil : l = [] := List.eq_nil_of_length_eq_zero (by have := hq158; rw [beq_iff_eq] at this; omega)
    have ht : textC l = never := by rw [hnil]; rfl
    rw [ht] at hr
    refine ret_tmp2 (t := 2) (t2 := 3) rfl E E.g1 E.g0 ?_
    rw [hr]
    exact ⟨rfl, hf⟩
  | true =>
   rw [hq157] at E
   refine c_t E.g0 (s_ (r_ (es_ (v := .string (ofL [])) E rfl (a_ rfl rfl) fun a E => es_ (v := .int .i64 2) E rfl (a_ rfl rfl) fun a E => n_ (t_ (wr_ (tr_ ?_))))))
   have hr : textR l = ([], 2) := textR_no2 hq156 (by have := of_decide_eq_true hq157; omega)
   refine ret_tmp2 (t := 2) (t2 := 3) rfl E E.g1 E.g0 ?_
   rw [hr]
   exact ⟨rfl, hf⟩
end Go.Proofs.YtjaffpnegdcjnaaGreatDoor
/- HoursMatchesReference. -/
set_option linter.unusedVariables false
set_option linter.unusedSimpArgs false
namespace Go.Proofs.YtjaffpnegdcjnaaGreatDoor
open Go.RowKit Go.Pl
set_option maxRecDepth 100000 in
set_option maxHeartbeats 4000000 in
theorem matchesref_calls {w : World} {v0 : Value} {l0 : List Sp} (s : Bys) (h0 : SpV w v0 l0) (hT : Tb w) : Calls Tryz.prog 3 #[.string (ofL s), v0] w fun e w' => e = .returned (.bool true) ∧ Fr (fun _ => False) w w' := by
 obtain ⟨p0, c0, hv0, hle0, hcap0, hs0, hz0⟩ := h0
 subst hv0
 have h0 : SpV w (.slice p0 l0.length c0) l0 := ⟨p0, c0, rfl, hle0, hcap0, hs0, hz0⟩
 refine wp_start2 Tryz.func3 rfl rfl (n := 82) (by decide) fun a E => ?_
 have hf : Fr (fun _ => False) w w := Fr.refl _ _
 obtain ⟨tx, cx, htx⟩ : ∃ t c, textR l0 = (t, c) := ⟨_, _, rfl⟩
 refine s_ (r_ (ep (v := .bool false) E rfl (a_ rfl rfl) fun a E => n_ (t_ (s_ (r_ (ec_ (v := .bool true) E rfl (run_call0 (enters_of Tryz.func11 (by kernel_rfl) rfl) rfl rfl) (head_calls hT) fun a w1 f1 E => ?_))))))
 have hT := Tb.fr hT f1 (fun r hr => id)
 have h0 := Src.fr h0 f1
 have hf := hf.trans' f1 (fun _ _ h => h.elim)
 clear f1
 refine ep E rfl (a_ rfl E.g0) fun a E => n_ (t_ (s_ (s_ (r_ (ep E rfl (m_ rfl E.g3) fun a E => ep (v := .int .i64 (s.length : Int)) E rfl (run_slen rfl E.g0) fun a E => ep (v := .bool (decide (3000 < (s.length : Int)))) E rfl (run_igtr E.g0 rfl Tryz.underlying3 rfl) fun a E => ep E rfl (m_ rfl E.g0) fun a E => ?_)))))
 cases hq146 : (decide (3000 < (s.length : Int))) with
 | false =>
  rw [hq146] at E
  have hsl : s.length ≤ 3000 := by have := of_decide_eq_false hq146; omega
  refine eg E rfl (wy_ E E.g0) (m_ rfl E.g8) fun a E => env_sl1 (d := 22) E rfl (by decide) rfl (wy_ E E.g1) rfl E.g0 fun a w1 u1 hu1 f1 E => ?_
  have hT := Tb.fr hT f1 (fun r hr => id)
  have h0 := Src.fr h0 f1
  have hf := hf.trans' f1 (fun _ _ h => h.elim)
  clear f1
  refine env_call (d := 23) (v := .bool (fewB [(p0, l0.length, c0)])) E rfl (by decide) rfl (wy_ E E.g2) (run_call1 (enters_of Tryz.func12 (by kernel_rfl) rfl) rfl rfl E.g0) (few_calls hu1) fun a w1 f1 E => ?_
  have hT := Tb.fr hT f1 (fun r hr => id)
  have h0 := Src.fr h0 f1
  have hu1 := Src.fr hu1 f1
  have hf := hf.trans' f1 (fun _ _ h => h.elim)
  clear f1
  refine eg (v := .bool (!(fewB [(p0, l0.length, c0)]))) E rfl (wy_ E E.g3) (run_not rfl E.g0) fun a E => ep (v := .bool (!(fewB [(p0, l0.length, c0)]))) E rfl (run_pick_f rfl E.g4 E.g0) fun a E => n_ (t_ ?_)
  cases hq147 : (fewB [(p0, l0.length, c0)]) with
  | false =>
   rw [hq147] at E
   refine c_t E.g0 (s_ (r_ (ep E rfl (m_ rfl E.g9) fun a E => es_ E rfl (a_ rfl E.g0) fun a E => n_ (t_ (wr_ (tr_ (ret_tmp (t := 4) rfl E E.g0 ⟨rfl, hf⟩)))))))
  | true =>
   rw [hq147] at E
   have hfew := few1 hq147
   have hn0 : l0.length ≤ 150 := hfew
   refine c_f E.g0 (k_ (t_ (s_ ?_)))
   rcases hP : parseP s with ⟨e9, a9⟩ | g9
   ·refine r_ ?_
    refine ep E rfl (m_ rfl E.g12) fun a E => ec_ E rfl (run_call1 (enters_of Tryz.func13 (by kernel_rfl) rfl) rfl rfl E.g0) (parse_err (c := e9) (x := a9) (hP) (by omega) hT) fun a w1 f1 E => ?_
    have hT := Tb.fr hT f1 (fun r hr => id)
    have h0 := Src.fr h0 f1
    have hu1 := Src.fr hu1 f1
    have hf := hf.trans' f1 (fun _ _ h => h.elim)
    clear f1
    refine ep E rfl (m_ rfl E.g0) fun a E => ep (v := .slice none 0 0) E rfl (run_ex0of3 rfl E.g0) fun a E => ep (v := .int .i64 e9) E rfl (run_ex1of3 rfl E.g1) fun a E => ep (v := .int .i64 a9) E rfl (run_ex2of3 rfl E.g2) fun a E => ep E rfl (a_ rfl E.g2) fun a E => ep E rfl (a_ rfl E.g2) fun a E => ep E rfl (a_ rfl E.g2) fun a E => n_ (t_ (s_ (r_ (ep E rfl (m_ rfl E.g21) fun a E => ec_ E rfl (run_call1 (enters_of Tryz.func14 (by kernel_rfl) rfl) rfl rfl E.g0) ((rparse_calls s (by omega) _).mono fun e w8 h => by rw [hP] at h; exact h) fun a w1 f1 E => ?_))))
    have hT := Tb.fr hT f1 (fun r hr => id)
    have h0 := Src.fr h0 f1
    have hu1 := Src.fr hu1 f1
    have hf := hf.trans' f1 (fun _ _ h => h.elim)
    clear f1
    refine ep E rfl (m_ rfl E.g0) fun a E => ep (v := .slice none 0 0) E rfl (run_ex0of3 rfl E.g0) fun a E => ep (v := .int .i64 e9) E rfl (run_ex1of3 rfl E.g1) fun a E => ep (v := .int .i64 a9) E rfl (run_ex2of3 rfl E.g2) fun a E => ep E rfl (a_ rfl E.g2) fun a E => ep E rfl (a_ rfl E.g2) fun a E => ep E rfl (a_ rfl E.g2) fun a E => n_ (t_ (s_ (r_ (ep E rfl (m_ rfl E.g31) fun a E => ec_ (v := .tuple #[.string (ofL tx), .int .i64 cx]) E rfl (run_call1 (enters_of Tryz.func15 (by kernel_rfl) rfl) rfl rfl E.g0) (text_is (t := tx) (c := cx) htx h0 (by omega) hT) fun a w1 f1 E => ?_))))
    have hT := Tb.fr hT f1 (fun r hr => id)
    have h0 := Src.fr h0 f1
    have hu1 := Src.fr hu1 f1
    have hf := hf.trans' f1 (fun _ _ h => h.elim)
    clear f1
    refine ep E rfl (m_ rfl E.g0) fun a E => ep (v := .string (ofL tx)) E rfl (run_ext0 rfl E.g0) fun a E => ep (v := .int .i64 cx) E rfl (run_ext1 rfl E.g1) fun a E => ep E rfl (a_ rfl E.g1) fun a E => ep E rfl (a_ rfl E.g1) fun a E => n_ (t_ (s_ (r_ (ep E rfl (m_ rfl E.g38) fun a E => ec_ (v := .tuple #[.string (ofL tx), .int .i64 cx]) E rfl (run_call1 (enters_of Tryz.func16 (by kernel_rfl) rfl) rfl rfl E.g0) (by have h := text16_calls h0 (by omega); rw [htx] at h; exact h) fun a w1 f1 E => ?_))))
    have hT := Tb.fr hT f1 (fun r hr => id)
    have h0 := Src.fr h0 f1
    have hu1 := Src.fr hu1 f1
    have hf := hf.trans' f1 (fun _ _ h => h.elim)
    clear f1
    refine ep E rfl (m_ rfl E.g0) fun a E => ep (v := .string (ofL tx)) E rfl (run_ext0 rfl E.g0) fun a E => ep (v := .int .i64 cx) E rfl (run_ext1 rfl E.g1) fun a E => ep E rfl (a_ rfl E.g1) fun a E => ep E rfl (a_ rfl E.g1) fun a E => n_ (t_ (s_ (r_ (ep E rfl (m_ rfl E.g41) fun a E => ep E rfl (m_ rfl E.g0) fun a E => eg E rfl (wy_ E E.g0) (m_ rfl E.g26) fun a E => eg E rfl (wy_ E E.g1) (m_ rfl E.g18) fun a E => eg (v := .bool true) E rfl (wy_ E E.g2) ((run_ieql E.g1 E.g0 Tryz.underlying25 rfl).trans (by rw [beq_self_eq_true])) fun a E => ep (v := .bool true) E rfl (run_pick_t rfl E.g3 E.g0) fun a E => ep E rfl (m_ rfl E.g0) fun a E => eg E rfl (wy_ E E.g0) (m_ rfl E.g30) fun a E => eg E rfl (wy_ E E.g1) (m_ rfl E.g22) fun a E => eg (v := .bool true) E rfl (wy_ E E.g2) ((run_ieql E.g1 E.g0 Tryz.underlying3 rfl).trans (by rw [beq_self_eq_true])) fun a E => ep (v := .bool true) E rfl (run_pick_t rfl E.g3 E.g0) fun a E => ep E rfl (m_ rfl E.g0) fun a E => eg E rfl (wy_ E E.g0) (m_ rfl E.g37) fun a E => eg E rfl (wy_ E E.g1) (m_ rfl E.g29) fun a E => env_call (d := 63) (v := .bool true) E rfl (by decide) rfl (wy_ E E.g2) (run_call2 (enters_of Tryz.func17 (by kernel_rfl) rfl) rfl rfl E.g1 E.g0) (by have h := same_calls (Src.nil w1) (Src.nil w1); rw [show ((([] : List Sp) : List Sp) == (([] : List Sp) : List Sp)) = true from beq_of rfl] at h; exact h) fun a w1 f1 E => ?_))))
    have hT := Tb.fr hT f1 (fun r hr => id)
    have h0 := Src.fr h0 f1
    have hu1 := Src.fr hu1 f1
    have hf := hf.trans' f1 (fun _ _ h => h.elim)
    clear f1
    refine ep (v := .bool true) E rfl (run_pick_t rfl E.g3 E.g0) fun a E => ep E rfl (m_ rfl E.g0) fun a E => eg E rfl (wy_ E E.g0) (m_ rfl E.g25) fun a E => eg E rfl (wy_ E E.g1) (m_ rfl E.g19) fun a E => eg (v := .bool true) E rfl (wy_ E E.g2) ((run_seq E.g1 E.g0 rfl).trans (by rw [beq_self_eq_true])) fun a E => ep (v := .bool true) E rfl (run_pick_t rfl E.g3 E.g0) fun a E => ep E rfl (m_ rfl E.g0) fun a E => eg E rfl (wy_ E E.g0) (m_ rfl E.g29) fun a E => eg E rfl (wy_ E E.g1) (m_ rfl E.g23) fun a E => eg (v := .bool true) E rfl (wy_ E E.g2) ((run_ieql E.g1 E.g0 Tryz.underlying25 rfl).trans (by rw [beq_self_eq_true])) fun a E => ep (v := .bool true) E rfl (run_pick_t rfl E.g3 E.g0) fun a E => ep E rfl (m_ rfl E.g0) fun a E => eg (v := .slice (p0) l0.length c0) E rfl (wy_ E E.g0) (m_ rfl (E.get 72 rfl)) fun a E => env_call (d := 77) (v := .bool (vl (-1) l0)) E rfl (by decide) rfl (wy_ E E.g1) (run_call1 (enters_of Tryz.func18 (by kernel_rfl) rfl) rfl rfl E.g0) (valid_calls h0) fun a w1 f1 E => ?_
    have hT := Tb.fr hT f1 (fun r hr => id)
    have h0 := Src.fr h0 f1
    have hu1 := Src.fr hu1 f1
    have hf := hf.trans' f1 (fun _ _ h => h.elim)
    clear f1
    refine eg (v := .slice (p0) l0.length c0) E rfl (wy_ E E.g2) (m_ rfl (E.get 74 rfl)) fun a E => env_call (d := 79) (v := .bool (vl (-1) l0)) E rfl (by decide) rfl (wy_ E E.g3) (run_call1 (enters_of Tryz.func19 (by kernel_rfl) rfl) rfl rfl E.g0) (rvalid_calls h0) fun a w1 f1 E => ?_
    have hT := Tb.fr hT f1 (fun r hr => id)
    have h0 := Src.fr h0 f1
    have hu1 := Src.fr hu1 f1
    have hf := hf.trans' f1 (fun _ _ h => h.elim)
    clear f1
    refine eg (v := .bool true) E rfl (wy_ E E.g4) ((run_beql E.g2 E.g0 rfl).trans (by rw [beq_self_eq_true])) fun a E => ep (v := .bool true) E rfl (run_pick_t rfl E.g5 E.g0) fun a E => es_ E rfl (a_ rfl E.g0) fun a E => n_ (t_ (wr_ (ret_tmp (t := 4) rfl E E.g0 ⟨rfl, hf⟩)))
   ·refine r_ ?_
    refine ep E rfl (m_ rfl E.g12) fun a E => env_callv (d := 29) (R := fun u w8 => (∃ v, u = .tuple #[v, .int .i64 0, .int .i64 0] ∧ SpV w8 v (g9)) ∧ Fr (fun _ => False) w1 w8) E rfl (by decide) rfl (wanted_none rfl _) (run_call1 (enters_of Tryz.func13 (by kernel_rfl) rfl) rfl rfl E.g0) (parse_ok (hP) (by omega) hT) fun a w1 u ⟨⟨u2, hu, hu2⟩, f1⟩ E => ?_
    subst hu
    have hT := Tb.fr hT f1 (fun r hr => id)
    have h0 := Src.fr h0 f1
    have hu1 := Src.fr hu1 f1
    have hf := hf.trans' f1 (fun _ _ h => h.elim)
    clear f1
    refine ep E rfl (m_ rfl E.g0) fun a E => ep (v := u2) E rfl (run_ex0of3 rfl E.g0) fun a E => ep (v := .int .i64 0) E rfl (run_ex1of3 rfl E.g1) fun a E => ep (v := .int .i64 0) E rfl (run_ex2of3 rfl E.g2) fun a E => ep E rfl (a_ rfl E.g2) fun a E => ep E rfl (a_ rfl E.g2) fun a E => ep E rfl (a_ rfl E.g2) fun a E => n_ (t_ (s_ (r_ (ep E rfl (m_ rfl E.g21) fun a E => env_callv (d := 35) (R := fun u w8 => (∃ v, u = .tuple #[v, .int .i64 0, .int .i64 0] ∧ SpV w8 v g9) ∧ Fr (fun _ => False) w1 w8) E rfl (by decide) rfl (wanted_none rfl _) (run_call1 (enters_of Tryz.func14 (by kernel_rfl) rfl) rfl rfl E.g0) ((rparse_calls s (by omega) _).mono fun e w8 h => by rw [hP] at h; obtain ⟨v, h1, h2, h3⟩ := h; exact ⟨_, h1, ⟨v, rfl, h2⟩, h3⟩) fun a w1 u ⟨⟨u3, hu, hu3⟩, f1⟩ E => ?_))))
    subst hu
    have hT := Tb.fr hT f1 (fun r hr => id)
    have h0 := Src.fr h0 f1
    have hu1 := Src.fr hu1 f1
    have hu2 := Src.fr hu2 f1
    have hf := hf.trans' f1 (fun _ _ h => h.elim)
    clear f1
    refine ep E rfl (m_ rfl E.g0) fun a E => ep (v := u3) E rfl (run_ex0of3 rfl E.g0) fun a E => ep (v := .int .i64 0) E rfl (run_ex1of3 rfl E.g1) fun a E => ep (v := .int .i64 0) E rfl (run_ex2of3 rfl E.g2) fun a E => ep E rfl (a_ rfl E.g2) fun a E => ep E rfl (a_ rfl E.g2) fun a E => ep E rfl (a_ rfl E.g2) fun a E => n_ (t_ (s_ (r_ (ep E rfl (m_ rfl E.g31) fun a E => ec_ (v := .tuple #[.string (ofL tx), .int .i64 cx]) E rfl (run_call1 (enters_of Tryz.func15 (by kernel_rfl) rfl) rfl rfl E.g0) (text_is (t := tx) (c := cx) htx h0 (by omega) hT) fun a w1 f1 E => ?_))))
    have hT := Tb.fr hT f1 (fun r hr => id)
    have h0 := Src.fr h0 f1
    have hu1 := Src.fr hu1 f1
    have hu2 := Src.fr hu2 f1
    have hu3 := Src.fr hu3 f1
    have hf := hf.trans' f1 (fun _ _ h => h.elim)
    clear f1
    refine ep E rfl (m_ rfl E.g0) fun a E => ep (v := .string (ofL tx)) E rfl (run_ext0 rfl E.g0) fun a E => ep (v := .int .i64 cx) E rfl (run_ext1 rfl E.g1) fun a E => ep E rfl (a_ rfl E.g1) fun a E => ep E rfl (a_ rfl E.g1) fun a E => n_ (t_ (s_ (r_ (ep E rfl (m_ rfl E.g38) fun a E => ec_ (v := .tuple #[.string (ofL tx), .int .i64 cx]) E rfl (run_call1 (enters_of Tryz.func16 (by kernel_rfl) rfl) rfl rfl E.g0) (by have h := text16_calls h0 (by omega); rw [htx] at h; exact h) fun a w1 f1 E => ?_))))
    have hT := Tb.fr hT f1 (fun r hr => id)
    have h0 := Src.fr h0 f1
    have hu1 := Src.fr hu1 f1
    have hu2 := Src.fr hu2 f1
    have hu3 := Src.fr hu3 f1
    have hf := hf.trans' f1 (fun _ _ h => h.elim)
    clear f1
    refine ep E rfl (m_ rfl E.g0) fun a E => ep (v := .string (ofL tx)) E rfl (run_ext0 rfl E.g0) fun a E => ep (v := .int .i64 cx) E rfl (run_ext1 rfl E.g1) fun a E => ep E rfl (a_ rfl E.g1) fun a E => ep E rfl (a_ rfl E.g1) fun a E => n_ (t_ (s_ (r_ (ep E rfl (m_ rfl E.g41) fun a E => ep E rfl (m_ rfl E.g0) fun a E => eg E rfl (wy_ E E.g0) (m_ rfl E.g26) fun a E => eg E rfl (wy_ E E.g1) (m_ rfl E.g18) fun a E => eg (v := .bool true) E rfl (wy_ E E.g2) (run_ieql (m := 0) (n := 0) E.g1 E.g0 Tryz.underlying25 rfl) fun a E => ep (v := .bool true) E rfl (run_pick_t rfl E.g3 E.g0) fun a E => ep E rfl (m_ rfl E.g0) fun a E => eg E rfl (wy_ E E.g0) (m_ rfl E.g30) fun a E => eg E rfl (wy_ E E.g1) (m_ rfl E.g22) fun a E => eg (v := .bool true) E rfl (wy_ E E.g2) (run_ieql (m := 0) (n := 0) E.g1 E.g0 Tryz.underlying3 rfl) fun a E => ep (v := .bool true) E rfl (run_pick_t rfl E.g3 E.g0) fun a E => ep E rfl (m_ rfl E.g0) fun a E => eg E rfl (wy_ E E.g0) (m_ rfl E.g37) fun a E => eg E rfl (wy_ E E.g1) (m_ rfl E.g29) fun a E => env_call (d := 63) (v := .bool true) E rfl (by decide) rfl (wy_ E E.g2) (run_call2 (enters_of Tryz.func17 (by kernel_rfl) rfl) rfl rfl E.g1 E.g0) (by have h := same_calls hu2 hu3; rw [show ((g9 : List Sp) == (g9 : List Sp)) = true from beq_of rfl] at h; exact h) fun a w1 f1 E => ?_))))
    have hT := Tb.fr hT f1 (fun r hr => id)
    have h0 := Src.fr h0 f1
    have hu1 := Src.fr hu1 f1
    have hu2 := Src.fr hu2 f1
    have hu3 := Src.fr hu3 f1
    have hf := hf.trans' f1 (fun _ _ h => h.elim)
    clear f1
    refine ep (v := .bool true) E rfl (run_pick_t rfl E.g3 E.g0) fun a E => ep E rfl (m_ rfl E.g0) fun a E => eg E rfl (wy_ E E.g0) (m_ rfl E.g25) fun a E => eg E rfl (wy_ E E.g1) (m_ rfl E.g19) fun a E => eg (v := .bool true) E rfl (wy_ E E.g2) ((run_seq E.g1 E.g0 rfl).trans (by rw [beq_self_eq_true])) fun a E => ep (v := .bool true) E rfl (run_pick_t rfl E.g3 E.g0) fun a E => ep E rfl (m_ rfl E.g0) fun a E => eg E rfl (wy_ E E.g0) (m_ rfl E.g29) fun a E => eg E rfl (wy_ E E.g1) (m_ rfl E.g23) fun a E => eg (v := .bool true) E rfl (wy_ E E.g2) ((run_ieql E.g1 E.g0 Tryz.underlying25 rfl).trans (by rw [beq_self_eq_true])) fun a E => ep (v := .bool true) E rfl (run_pick_t rfl E.g3 E.g0) fun a E => ep E rfl (m_ rfl E.g0) fun a E => eg (v := .slice (p0) l0.length c0) E rfl (wy_ E E.g0) (m_ rfl (E.get 72 rfl)) fun a E => env_call (d := 77) (v := .bool (vl (-1) l0)) E rfl (by decide) rfl (wy_ E E.g1) (run_call1 (enters_of Tryz.func18 (by kernel_rfl) rfl) rfl rfl E.g0) (valid_calls h0) fun a w1 f1 E => ?_
    have hT := Tb.fr hT f1 (fun r hr => id)
    have h0 := Src.fr h0 f1
    have hu1 := Src.fr hu1 f1
    have hu2 := Src.fr hu2 f1
    have hu3 := Src.fr hu3 f1
    have hf := hf.trans' f1 (fun _ _ h => h.elim)
    clear f1
    refine eg (v := .slice (p0) l0.length c0) E rfl (wy_ E E.g2) (m_ rfl (E.get 74 rfl)) fun a E => env_call (d := 79) (v := .bool (vl (-1) l0)) E rfl (by decide) rfl (wy_ E E.g3) (run_call1 (enters_of Tryz.func19 (by kernel_rfl) rfl) rfl rfl E.g0) (rvalid_calls h0) fun a w1 f1 E => ?_
    have hT := Tb.fr hT f1 (fun r hr => id)
    have h0 := Src.fr h0 f1
    have hu1 := Src.fr hu1 f1
    have hu2 := Src.fr hu2 f1
    have hu3 := Src.fr hu3 f1
    have hf := hf.trans' f1 (fun _ _ h => h.elim)
    clear f1
    refine eg (v := .bool true) E rfl (wy_ E E.g4) ((run_beql E.g2 E.g0 rfl).trans (by rw [beq_self_eq_true])) fun a E => ep (v := .bool true) E rfl (run_pick_t rfl E.g5 E.g0) fun a E => es_ E rfl (a_ rfl E.g0) fun a E => n_ (t_ (wr_ (ret_tmp (t := 4) rfl E E.g0 ⟨rfl, hf⟩)))
 | true =>
  rw [hq146] at E
  refine ek E rfl rfl E.g0 fun a E => ek E rfl rfl E.g1 fun a E => ek E rfl rfl E.g2 fun a E => ek E rfl rfl E.g3 fun a E => ep (v := .bool true) E rfl (run_pick_t rfl E.g4 rfl) fun a E => n_ (t_ (c_t E.g0 (s_ (r_ (ep E rfl (m_ rfl E.g9) fun a E => es_ E rfl (a_ rfl E.g0) fun a E => n_ (t_ (wr_ (tr_ (ret_tmp (t := 4) rfl E E.g0 ⟨rfl, hf⟩)))))))))
end Go.Proofs.YtjaffpnegdcjnaaGreatDoor
/- How a law's row is closed: the call returns true and leaves all that was there; the arguments are opened. -/
set_option linter.unusedVariables false
set_option linter.unusedSimpArgs false
namespace Go.Pl
open Go.RowKit Go.ChangeShapes Go.WideShapes
theorem trodAll_below {H : Type} {enc : TypeId × Value → H} {P : Program} (hl : laidOutB P = true) {W W' : World} (hb : Below W.heap.size W W') :
  ∀ (ts : List TypeId) (vs : List Value) (ds : List (DataW H)) (ps : List MemPlace), (∀ t ∈ ts, P.readableRec t = true ∧ t < P.types.size) → DataW.TrodAll enc P W 0 (fun _ => true) true ts vs ds ps → (∀ x ∈ ps, x.block < W.heap.size) →
   DataW.TrodAll enc P W' 0 (fun b => decide (b < W.heap.size)) true ts vs ds ps
 | [], [], [], ps, _, h, _ => h
 | t :: ts, v :: vs, d :: ds, ps, hr, h, hlt => by
  obtain ⟨p, q, h1, h2, rfl⟩ := h
  exact ⟨p, q, Below.trod hl (hr t (by simp)).1 (hr t (by simp)).2 h1 hb (fun x hx => hlt x (by simp [hx])),
   trodAll_below hl hb ts vs ds q (fun t ht => hr t (by simp [ht])) h2 (fun x hx => hlt x (by simp [hx])), rfl⟩
 | [], [], _ :: _, _, _, h, _ => h.elim
 | [], _ :: _, _, _, _, h, _ => by cases h
 | _ :: _, [], _, _, _, h, _ => by cases h
 | _ :: _, _ :: _, [], _, _, h, _ => h.elim
theorem law_post {H : Type} {enc : TypeId × Value → H} {P : Program} (hl : laidOutB P = true) {fn : Func} {s : ChangeSpec} {apart fresh handsOn : Bool} {W W' : World} {args : Array Value} {ds gs : List (DataW H)} {before : List MemPlace}
  (hread : ∀ t ∈ fn.params.toList, P.readableRec t = true ∧ t < P.types.size) {tb : TypeId} (hres : fn.resultTypes = #[tb]) (htb : P.underlying tb = some .bool) (hvars : s.vars = [])
  (hs : s.fn H (ds ++ gs) = { results := [.lit (.bool true)], args := ds }) (hW : DataW.Whole enc P fn.params.toList s.vars apart W args.toList ds gs before) (hb : Below W.heap.size W W') :
  s.post enc P fn apart fresh handsOn false W args (.bool true) W' := by
 have hlt := hW.lt
 have hW0 := hW
 obtain ⟨p, q, hA, hV, hpq, _, _⟩ := hW
 refine ⟨ds, gs, before, [], p, [], hW0, ?_, ?_, ?_, hb.frame _, fun h => by cases h⟩
 ·rw [hs, hres]
  exact trodAll_mk1 (shut_bool htb _)
 ·rw [hs]
  exact trodAll_below hl hb _ _ _ _ hread hA (fun x hx => hlt x (by rw [hpq]; simp [hx]))
 ·rw [hs, hvars]
  rfl
end Go.Pl
namespace Go.Proofs.YtjaffpnegdcjnaaGreatDoor
open Go.RowKit Go.Pl Go.ChangeShapes Go.WideShapes
theorem lOut : laidOutB Tryz.prog = true := by kernel_rfl
theorem lOwn : ownKnob Tryz.prog.godebug = none := by kernel_rfl
theorem cells48 : Tryz.prog.cellsOf 48 = 2 := by kernel_rfl
theorem cells3 : Tryz.prog.cellsOf 3 = 1 := by kernel_rfl
section
variable {H : Type} {enc : TypeId × Value → H} {W : World} {base : Nat} {sp : Nat → Bool} {held : Bool} {n : Nat} {cs : List Value} {x : DataW H × List MemPlace}
set_option maxRecDepth 100000 in
theorem open_sp (h : DataW.trod enc Tryz.prog W base sp held n 48 cs = some x) : ∃ p : Sp, cs = (spA p).toList := by
 obtain ⟨xs, m, _, _, hl, hlen, hf⟩ := DataW.trod_struct Tryz.underlying48 h
 rw [cells48] at hl
 match cs, hl with
 | [c0, c1], _ =>
 obtain ⟨y0, e0⟩ : ∃ y, xs[0]? = some y := ⟨_, List.getElem?_eq_getElem (by rw [hlen]; simp)⟩
 obtain ⟨y1, e1⟩ : ∃ y, xs[1]? = some y := ⟨_, List.getElem?_eq_getElem (by rw [hlen]; simp)⟩
 have h0 : DataW.trod enc Tryz.prog W base sp held m 3 (List.take (Tryz.prog.cellsOf 3) (List.drop 0 [c0, c1])) = some y0 := (hf 0 _ rfl).trans e0
 have h1 : DataW.trod enc Tryz.prog W base sp held m 3 (List.take (Tryz.prog.cellsOf 3) (List.drop 1 [c0, c1])) = some y1 := (hf 1 _ rfl).trans e1
 rw [cells3] at h0 h1
 obtain ⟨n0, g0, _, _⟩ := DataW.trod_int Tryz.underlying3 h0
 obtain ⟨n1, g1, _, _⟩ := DataW.trod_int Tryz.underlying3 h1
 simp at g0 g1
 exact ⟨(n0, n1), by simp [g0, g1]⟩
end
set_option maxRecDepth 100000 in
theorem open_sps {H : Type} {enc : TypeId × Value → H} {W : World} {v : Value} {d : DataW H} {ps : List MemPlace} {base : Nat} (hok : Value.okWide Tryz.prog W .any base 22 v) (h : DataW.Trod enc Tryz.prog W 0 (fun _ => true) true 22 v d ps) :
  ∃ (l : List Sp) (p : Option Addr) (cap : Nat), v = .slice p l.length cap ∧ srcAt spL 2 W W.heap.size p l ∧ l.length ≤ cap ∧ cap ≤ maxLen ∧ (p = none → cap = 0) := by
 obtain ⟨a0, len0, cap0, rfl⟩ := okWide_slice Tryz.underlying22 hok
 obtain ⟨fuel, hf⟩ := h
 rcases Deep.open_slice Tryz.underlying22 hf with ⟨hcs, _⟩ | ⟨a, len, cap, m, n, D, Pl, hcs, _, hl, hm, hmm, _, hx⟩
 ·simp [Value.cells] at hcs
  obtain ⟨rfl, rfl, rfl⟩ := hcs
  exact ⟨[], none, 0, rfl, .inl rfl, Nat.le_refl _, Nat.zero_le _, fun _ => rfl⟩
 ·simp [Value.cells] at hcs
  obtain ⟨rfl, rfl, rfl⟩ := hcs
  rw [cells48] at hx
  have hlm : len0 ≤ m := by rw [hmm]; split <;> omega
  have hall : ∀ i, i < len0 → ∃ s : Sp, ∀ j, j < 2 → W.cell? ((a.add (i * 2)).add j) = (spA s).toList[j]? := fun i hi => by
   obtain ⟨cs', h1, h2⟩ := hx i (by omega)
   obtain ⟨_, _, h3⟩ := World.cells?_some h1
   obtain ⟨s, rfl⟩ := open_sp h2
   exact ⟨s, h3⟩
  obtain ⟨f, hfn⟩ := Deep.choose_lt hall
  refine ⟨(List.range len0).map f, some a, cap0, by simp, ?_, by simpa using hl, hm, fun h => by cases h⟩
  rcases Nat.eq_zero_or_pos len0 with h0 | h0
  ·left; rw [h0]; rfl
  ·right
   have hspot : a = ⟨a.block, a.off, none⟩ ∧ a.block < W.heap.size := by
    have := hfn 0 h0 0 (by omega)
    rw [Nat.zero_mul] at this
    have e0 : (a.add 0).add 0 = a := by simp [Addr.add]
    rw [e0] at this
    refine ⟨?_, World.block_lt_of_cell? W a this⟩
    cases a with
    | mk b o s =>
     cases s with
     | none => rfl
     | some k =>
      unfold World.cell? at this
      split at this <;> simp at this
   refine ⟨a.block, a.off, by rw [← hspot.1], hspot.2, fun i s hs j v hv => ?_⟩
   rw [List.getElem?_map] at hs
   have hi : i < len0 := by
    cases h : (List.range len0)[i]? with
    | none => rw [h] at hs; cases hs
    | some x => have := (List.getElem?_eq_some_iff.1 h).1; simpa using this
   rw [List.getElem?_range hi] at hs
   simp at hs
   subst hs
   have hj : j < 2 := by
    have := (List.getElem?_eq_some_iff.1 hv).1
    rw [spL_len] at this; exact this
   have := hfn i hi j hj
   have hv2 : (spA (f i)).toList[j]? = some v := hv
   rw [hspot.1, hv2] at this
   rw [← this]
   congr 1
   unfold Addr.add
   by_cases h1 : i * 2 = 0 <;> by_cases h2 : j = 0 <;> simp [h1, h2, Nat.add_assoc]
def laid7 : List (String × DataW Unit) := [("math/bits.deBruijn32tab", Rows.laid_math_bits_deBruijn32tab), ("math/bits.deBruijn64tab", Rows.laid_math_bits_deBruijn64tab), ("internal/strconv.uint64pow10", Rows.laid_internal_strconv_uint64pow10), ("strconv.ErrRange", Rows.laid_strconv_ErrRange), ("strconv.ErrSyntax", Rows.laid_strconv_ErrSyntax), ("unicode.White_Space", Rows.laid_unicode_White_Space), ("strings.asciiSpace", Rows.laid_strings_asciiSpace)]
set_option maxRecDepth 100000 in
/-- The door's own heap meets the condition. -/
theorem door_met (os : Os) (args : Array Value) : laidMetH Tryz.prog laid7 ((World.doorLaid Tryz.prog 86 os).forCall (fun _ _ => 0) ⟨#[], args, []⟩).memory :=
 laidMetH_of_parts3 (fuel := 8) (laidMet_of_run' 8 (by kernel_rfl) (by kernel_rfl)) (by kernel_rfl) (by kernel_rfl)
theorem tab_of {W : World} {name : String} {k : IntKind} {zs : List Int} {g : Nat} {t e : TypeId} {n : Nat} (hg : Tryz.prog.globalNamed name = some g) (hty : (Tryz.prog.globals[g]?).map (·.type) = some t) (ht : Tryz.prog.underlying t = some (.array n e)) (he : Tryz.prog.underlying e = some (.int k)) (hce : Tryz.prog.cellsOf e = 1) (hct : Tryz.prog.cellsOf t = n) (h : Lib.VarReads Tryz.prog W name (Lib.tabData k zs)) : Lib.TabIs Tryz.prog W name k zs := by
 obtain ⟨g', t', cs, fuel, p, hg', ht', hvar, hd⟩ := h
 obtain rfl := Option.some.inj (hg.symm.trans hg')
 obtain rfl := Option.some.inj (hty.symm.trans ht')
 unfold Lib.TabIs
 rw [hvar, ← Lib.cells_of_tab ht he hce hct hd]
set_option maxRecDepth 100000 in
/-- What the condition gives the walks. -/
theorem tb_of {W : World} (h : laidMetH Tryz.prog laid7 W) : Tb W := by
 rw [MakeChecks.laidMetH_plain _ _ _ (by kernel_rfl)] at h
 exact ⟨tab_of (g := 3) (t := 184) (e := 166) (n := 20) (by kernel_rfl) (by kernel_rfl) (by kernel_rfl) (by kernel_rfl) (by kernel_rfl) (by kernel_rfl) (Lib.laidMet.reads h (d := Rows.laid_internal_strconv_uint64pow10) (.tail _ (.tail _ (.head _)))),
  tab_of (g := 0) (t := 111) (e := 5) (n := 256) (by kernel_rfl) (by kernel_rfl) (by kernel_rfl) (by kernel_rfl) (by kernel_rfl) (by kernel_rfl) (Lib.laidMet.reads h (d := Rows.laid_strings_asciiSpace) (.tail _ (.tail _ (.tail _ (.tail _ (.tail _ (.tail _ (.head _))))))))⟩
end Go.Proofs.YtjaffpnegdcjnaaGreatDoor
/- HoursMatchesReference of the planisphere program: for texts of at most 3000 bytes and lists of at most 150 spans, Parse, Text and Valid agree with the reference implementation. Conditions: those of the given row and its card. -/
set_option linter.unusedVariables false
set_option linter.unusedSimpArgs false
namespace Go.Proofs.YtjaffpnegdcjnaaGreatDoor
open Go.RowKit Go.Pl Go.ChangeShapes Go.WideShapes
set_option maxRecDepth 100000 in
theorem hoursMatchesReference_lifted (os : Os) (started : os.Started) (H : Type) (enc : TypeId × Value → H) :
  ReturnsInHanded {} Tryz.checked os 3 .any (fun w args => (Rows.hoursMatchesReferenceSpec.pre enc Tryz.prog Tryz.f3 [] false w args ∧ laidMetH Tryz.prog laid7 w) ∧ sizedMet enc Tryz.prog Tryz.f3 (OpenSpec.ofChange Rows.hoursMatchesReferenceSpec) false w args)
   (Rows.hoursMatchesReferenceSpec.post enc Tryz.prog Tryz.f3 false true false false) := by
 refine returnsInHanded_of_change_and (C := Tryz.checked) (X := fun w _ => laidMetH Tryz.prog laid7 w) (fun _ _ _ hh h => h.of_heap hh) lOwn started (by kernel_rfl) Tryz.func3
  (ChangeSpec.witness_shaped (enc := enc) (C := Tryz.checked) (os := os) (X := fun w _ => laidMetH Tryz.prog laid7 w) false (World.doorLaid Tryz.prog 86 os) #[.string ByteArray.empty, .slice none 0 0] 12 rfl (World.shaped_of_RefB (by kernel_rfl) (by kernel_rfl)) (by kernel_rfl) (by kernel_rfl) (by kernel_rfl) (door_met os _)) ?_
 intro W base args ds gs before hval0 hW _ _ hL _
 have hval : ∀ (j : Nat) t v, Tryz.f3.params[j]? = some t → args[j]? = some v → Value.okWide Tryz.prog W .any base t v := hval0
 have hW' := hW
 obtain ⟨p, q, hA0, hV, _, _, _⟩ := hW
 have hA : DataW.TrodAll enc Tryz.prog W 0 (fun _ => true) true Tryz.f3.params.toList args.toList ds p := hA0
 rw [Tryz.params3] at hA hval
 have hT := tb_of hL
 obtain ⟨v0, vs0, d0, ds0, p0, q0, hargs, rfl, rfl, h0, r0⟩ := trodAll_cons hA
 obtain ⟨v1, vs1, d1, ds1, p1, q1, rfl, rfl, rfl, h1, r1⟩ := trodAll_cons r0
 obtain ⟨rfl, rfl, rfl⟩ := trodAll_nil r1
 obtain rfl : args = #[v0, v1] := by cases args; simp_all
 obtain ⟨rfl, rfl⟩ := trodVars_none hV
 obtain ⟨a0, rfl, x0, y0, w0⟩ := Go.ChangeMaps.open_string Tryz.underlying9 (hval 0 9 v0 rfl rfl) h0
 obtain ⟨s0, rfl⟩ : ∃ s, a0 = ofL s := ⟨a0.data.toList, by cases a0; simp [ofL]⟩
 obtain ⟨l1, sa1, cap1, rfl, hO1, hC1, hM1, hz1⟩ := open_sps (hval 1 22 v1 rfl rfl) h1
 have hS1 : SpV W (.slice sa1 l1.length cap1) l1 := ⟨sa1, cap1, rfl, hC1, hM1, hO1, hz1⟩
 refine (matchesref_calls s0 hS1 hT).mono fun e W' ⟨he, hg⟩ => ⟨_, he, ?_⟩
 exact law_post lOut (by intro t ht; rw [Tryz.params3] at ht; simp at ht; rcases ht with rfl | rfl <;> exact ⟨by kernel_rfl, of_decide_eq_true (by kernel_rfl)⟩) rfl Tryz.underlying4 rfl rfl hW' (hg.below (by simp))
theorem HoursMatchesReference_holds : Rows.HoursMatchesReferenceSaid :=
 OpenClaim.holds_of_wide 3 Tryz.f3 rfl rfl rfl rfl rfl rfl rfl ⟨rfl, rfl, rfl, rfl, rfl⟩ rfl rfl rfl rfl rfl (by kernel_rfl) Tryz.func3 (by kernel_rfl)
  (of_decide_eq_true (by kernel_rfl)) (by unfold Func.isWrapper; first | (rw [if_pos (by decide +kernel)]; kernel_rfl) | (rw [if_neg (by decide +kernel)]; exact ⟨rfl, rfl⟩))
  (fun os started H enc _ => hoursMatchesReference_lifted os started H enc)
set_option maxRecDepth 100000 in
theorem HoursMatchesReference_card : Rows.HoursMatchesReferenceCardSaid :=
 Claim7.holds_tied_plain_at .later [] [.data, .data, .data, .sentinel, .sentinel, .listed, .data] true (true, "ff3633295351c28f2f50b7dba6a37aa2b2279ff099aaa3171341d77bcc310ea0") true
  HoursMatchesReference_holds (fun _ h => by cases h) (by kernel_rfl) (fun _ h => by cases h) hoursMatchesReference_row_tie rfl ⟨rfl, rfl⟩ (by kernel_rfl) rfl
  (fun f fn hf hfn => by
   obtain rfl : f = 3 := Option.some.inj ((show Tryz.prog.funcNamed "planisphere/planispherelaw10.HoursMatchesReference" = some 3 by kernel_rfl).symm.trans hf) |>.symm
   obtain rfl : fn = Tryz.f3 := (Option.some.inj (Tryz.func3.symm.trans hfn)).symm
   exact ⟨by kernel_rfl, fun j t ht => by
    rw [Tryz.params3] at ht
    have hm := Array.mem_of_getElem? ht
    simp at hm
    rcases hm with rfl | rfl <;> (show Tryz.prog.wantsStandIn _ = false; kernel_rfl)⟩)
  (by kernel_rfl)
#print axioms HoursMatchesReference_card
end Go.Proofs.YtjaffpnegdcjnaaGreatDoor
