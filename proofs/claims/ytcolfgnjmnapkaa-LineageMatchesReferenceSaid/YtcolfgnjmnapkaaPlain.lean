/- Plain laws of what Follow does to a lineage. -/
import Derived.Test.YtcolfgnjmnapkaaFol0
namespace Go.Proofs.Ytcolfgnjmnapkaa
open Go.RowKit Go.Pl

/-- What every lineage is that follows edits: unmentioned Ids are their own part; what is a part of something is a part of itself. -/
structure Fine (S : LinS) : Prop where
  out : ∀ a, S.men a = false → ∀ y, S.pt a y = decide (a = y)
  self : ∀ a y, S.pt a y = true → S.pt y y = true
  known : ∀ a y, S.pt a y = true → a = y ∨ S.men y = true

theorem Fine.new : Fine LinS.new := ⟨fun _ _ _ => rfl, fun a y h => by simp [LinS.new], fun a y h => by simp [LinS.new] at h; exact .inl h⟩

theorem followS_err {S : LinS} {e : Edt} (h : followE S e ≠ 0) : followS S e = S := by rw [followS, if_pos h]

/-- What is known of an edit without an error. -/
structure Okay (S : LinS) (e : Edt) : Prop where
  lo : 1 ≤ e.op
  hi : e.op ≤ 7
  ne : e.two → e.id ≠ e.other
  id : e.op ≠ 1 → S.pt e.id e.id = true
  other : e.op = 7 → S.pt e.other e.other = true
  fresh : e.op = 1 ∨ e.op = 6 → S.men e.fresh = false
theorem okay_of {S : LinS} {e : Edt} (h : followE S e = 0) : Okay S e := by
  unfold followE at h
  split at h
  · cases h
  · rename_i hb
    split at h
    · cases h
    · rename_i h1
      split at h
      · cases h
      · rename_i h2
        unfold Edt.bad at hb
        simp only [not_or, not_and] at hb h1 h2
        refine ⟨by omega, by omega, fun ht hne => hb.2.2 ht hne, fun ho => by simpa using h1.1 ho, fun ho => by simpa using h1.2 ho, fun ho => ?_⟩
        cases hm : S.men e.fresh with
        | false => rfl
        | true => exact absurd ho (by have := h2 hm; omega)
theorem followE_of {S : LinS} {e : Edt} (h : Okay S e) : followE S e = 0 := by
  unfold followE
  rw [if_neg, if_neg, if_neg]
  · rintro ⟨h1, h2⟩; rw [h.fresh h2] at h1; cases h1
  · rintro (⟨h1, h2⟩ | ⟨h1, h2⟩)
    · rw [h.id h1] at h2; cases h2
    · rw [h.other h1] at h2; cases h2
  · rintro (h1 | h1 | ⟨h1, h2⟩)
    · have := h.lo; omega
    · have := h.hi; omega
    · exact h.ne h1 h2
theorem followS_men {S : LinS} {e : Edt} (h : followE S e = 0) (x : ByteArray) : (followS S e).men x = (S.men x || decide (x = e.idd) || (decide e.two && decide (x = e.other))) := by
  rw [followS, if_neg (by omega)]
theorem followS_pt {S : LinS} {e : Edt} (h : followE S e = 0) (a x : ByteArray) : (followS S e).pt a x = turn e (S.pt a) x := by
  rw [followS, if_neg (by omega)]

/-- How Follow turns the parts of an Id, as a law on truth values. -/
theorem turn_iff (e : Edt) (s : ByteArray → Bool) (x : ByteArray) : turn e s x = true ↔
    (if e.op = 5 then s x = true ∧ x ≠ e.id else if e.op = 6 then s x = true ∨ (x = e.other ∧ s e.id = true) else if e.op = 7 then (s x = true ∧ x ≠ e.other) ∨ (x = e.id ∧ s e.other = true) else s x = true) := by
  unfold turn
  split
  · simp
  · split
    · simp
    · split <;> simp

theorem Fine.follow {S : LinS} (h : Fine S) (e : Edt) : Fine (followS S e) := by
  by_cases hE : followE S e = 0
  · have ok := okay_of hE
    refine ⟨fun a ha y => ?_, fun a y hy => ?_, fun a y hy => ?_⟩
    · rw [followS_men hE] at ha
      simp only [Bool.or_eq_false_iff, decide_eq_false_iff_not, Bool.and_eq_false_iff] at ha
      obtain ⟨⟨h1, h2⟩, h3⟩ := ha
      have h0 := h.out a h1
      rw [followS_pt hE, Bool.eq_iff_iff, turn_iff, h0 y]
      by_cases o5 : e.op = 5
      · have : e.idd = e.id := by unfold Edt.idd; rw [if_neg (by omega)]
        rw [this] at h2
        simp only [o5, if_true, decide_eq_true_eq]
        constructor
        · exact fun h => h.1
        · rintro rfl; exact ⟨rfl, h2⟩
      · by_cases o6 : e.op = 6
        · have : e.idd = e.id := by unfold Edt.idd; rw [if_neg (by omega)]
          rw [this] at h2
          simp [o6, h0, h2]
        · by_cases o7 : e.op = 7
          · have h4 : a ≠ e.other := by
              rcases h3 with h3 | h3
              · exact absurd (.inr o7) h3
              · exact h3
            simp only [o7, h0, decide_eq_true_eq]
            constructor
            · rintro (⟨h5, _⟩ | ⟨_, h5⟩)
              · exact h5
              · exact absurd h5 h4
            · rintro rfl; exact .inl ⟨rfl, h4⟩
          · simp [o5, o6, o7]
    · rw [followS_pt hE, turn_iff] at hy ⊢
      by_cases o5 : e.op = 5
      · simp only [o5, if_true] at hy ⊢
        exact ⟨h.self a y hy.1, hy.2⟩
      · by_cases o6 : e.op = 6
        · simp only [o6] at hy ⊢
          rcases hy with hy | ⟨rfl, hy⟩
          · exact .inl (h.self a y hy)
          · left
            have hm := ok.fresh (.inr o6)
            have hf : e.fresh = e.other := by unfold Edt.fresh; rw [if_neg (by omega)]
            rw [hf] at hm
            rw [h.out _ hm]; simp
        · by_cases o7 : e.op = 7
          · simp only [o7] at hy ⊢
            rcases hy with ⟨hy, hne⟩ | ⟨rfl, hy⟩
            · exact .inl ⟨h.self a y hy, hne⟩
            · exact .inl ⟨ok.id (by omega), ok.ne (.inr o7)⟩
          · simp only [o5, o6, o7, if_false] at hy ⊢
            exact h.self a y hy
    · rw [followS_pt hE, turn_iff] at hy
      rw [followS_men hE]
      have hk : S.pt a y = true → a = y ∨ (S.men y || decide (y = e.idd) || (decide e.two && decide (y = e.other))) = true := fun h1 => by
        rcases h.known a y h1 with h2 | h2
        · exact .inl h2
        · exact .inr (by simp [h2])
      by_cases o5 : e.op = 5
      · simp only [o5, if_true] at hy; exact hk hy.1
      · by_cases o6 : e.op = 6
        · simp only [o6] at hy
          rcases hy with hy | ⟨rfl, _⟩
          · exact hk hy
          · right; simp [Edt.two, o6]
        · by_cases o7 : e.op = 7
          · simp only [o7] at hy
            rcases hy with ⟨hy, _⟩ | ⟨rfl, _⟩
            · exact hk hy
            · right
              have : e.idd = e.id := by unfold Edt.idd; rw [if_neg (by omega)]
              simp [this]
          · simp only [o5, o6, o7, if_false] at hy; exact hk hy
  · rw [followS_err hE]; exact h

def runL (S : LinS) (es : List Edt) : LinS := es.foldl followS S
theorem Fine.run {S : LinS} (h : Fine S) (es : List Edt) : Fine (runL S es) := by
  induction es generalizing S with
  | nil => exact h
  | cons e es ih => exact ih (h.follow e)
theorem runL_snoc (S : LinS) (es : List Edt) (k : Nat) (e : Edt) (h : es[k]? = some e) : runL S (es.take (k + 1)) = followS (runL S (es.take k)) e := by
  simp [runL, List.take_add_one, h]

/-! ### P24.3 -/
/-- Y follows what X follows without an error, from the start on: X's parts are those of Y of the parts that were. -/
structure Goes (X0 X Y : LinS) : Prop where
  pt : ∀ a z, X.pt a z = true ↔ ∃ p, X0.pt a p = true ∧ Y.pt p z = true
  men : ∀ a, Y.men a = true → X.men a = true
  fine : Fine Y
theorem Goes.start (X : LinS) : Goes X X LinS.new :=
  ⟨fun a z => ⟨fun h => ⟨z, h, by simp [LinS.new]⟩, fun ⟨p, h1, h2⟩ => by simp [LinS.new] at h2; rw [← h2]; exact h1⟩, fun a h => by simp [LinS.new] at h, Fine.new⟩
theorem Goes.okay {X0 X Y : LinS} (h : Goes X0 X Y) {e : Edt} (hE : followE X e = 0) : followE Y e = 0 := by
  have ok := okay_of hE
  have hself : ∀ z, X.pt z z = true → Y.pt z z = true := fun z hz => by
    obtain ⟨p, _, h2⟩ := (h.pt z z).1 hz
    exact h.fine.self p z h2
  refine followE_of ⟨ok.lo, ok.hi, ok.ne, fun ho => hself _ (ok.id ho), fun ho => hself _ (ok.other ho), fun ho => ?_⟩
  have := ok.fresh ho
  cases hm : Y.men e.fresh with
  | false => rfl
  | true => rw [h.men _ hm] at this; cases this
theorem Goes.step {X0 X Y : LinS} (h : Goes X0 X Y) {e : Edt} (hE : followE X e = 0) : Goes X0 (followS X e) (followS Y e) := by
  have hY := h.okay hE
  refine ⟨fun a z => ?_, fun a ha => ?_, h.fine.follow e⟩
  · rw [followS_pt hE, turn_iff]
    have hx := fun z => h.pt a z
    constructor
    · intro hz
      by_cases o5 : e.op = 5
      · simp only [o5, if_true] at hz
        obtain ⟨p, h1, h2⟩ := (hx z).1 hz.1
        exact ⟨p, h1, by rw [followS_pt hY, turn_iff]; simp only [o5, if_true]; exact ⟨h2, hz.2⟩⟩
      · by_cases o6 : e.op = 6
        · simp only [o6] at hz
          rcases hz with hz | ⟨rfl, hz⟩
          · obtain ⟨p, h1, h2⟩ := (hx z).1 hz
            exact ⟨p, h1, by rw [followS_pt hY, turn_iff]; simp only [o6]; exact .inl h2⟩
          · obtain ⟨p, h1, h2⟩ := (hx _).1 hz
            exact ⟨p, h1, by rw [followS_pt hY, turn_iff]; simp only [o6]; exact .inr ⟨trivial, h2⟩⟩
        · by_cases o7 : e.op = 7
          · simp only [o7] at hz
            rcases hz with ⟨hz, hne⟩ | ⟨rfl, hz⟩
            · obtain ⟨p, h1, h2⟩ := (hx z).1 hz
              exact ⟨p, h1, by rw [followS_pt hY, turn_iff]; simp only [o7]; exact .inl ⟨h2, hne⟩⟩
            · obtain ⟨p, h1, h2⟩ := (hx _).1 hz
              exact ⟨p, h1, by rw [followS_pt hY, turn_iff]; simp only [o7]; exact .inr ⟨trivial, h2⟩⟩
          · simp only [o5, o6, o7, if_false] at hz
            obtain ⟨p, h1, h2⟩ := (hx z).1 hz
            exact ⟨p, h1, by rw [followS_pt hY, turn_iff]; simp only [o5, o6, o7, if_false]; exact h2⟩
    · rintro ⟨p, h1, h2⟩
      rw [followS_pt hY, turn_iff] at h2
      have hb : ∀ z, Y.pt p z = true → X.pt a z = true := fun z hz => (hx z).2 ⟨p, h1, hz⟩
      by_cases o5 : e.op = 5
      · simp only [o5, if_true] at h2 ⊢
        exact ⟨hb z h2.1, h2.2⟩
      · by_cases o6 : e.op = 6
        · simp only [o6] at h2 ⊢
          rcases h2 with h2 | ⟨h3, h2⟩
          · exact .inl (hb z h2)
          · exact .inr ⟨h3, hb _ h2⟩
        · by_cases o7 : e.op = 7
          · simp only [o7] at h2 ⊢
            rcases h2 with ⟨h2, h3⟩ | ⟨h3, h2⟩
            · exact .inl ⟨hb z h2, h3⟩
            · exact .inr ⟨h3, hb _ h2⟩
          · simp only [o5, o6, o7, if_false] at h2 ⊢
            exact hb z h2
  · rw [followS_men hY] at ha
    rw [followS_men hE]
    simp only [Bool.or_eq_true] at ha ⊢
    rcases ha with (ha | ha) | ha
    · exact .inl (.inl (h.men a ha))
    · exact .inl (.inr ha)
    · exact .inr ha

/-! ### lists in strictly increasing order -/
theorem sorted_nodup {l : List ByteArray} (hl : Sorted l) : l.Nodup := by
  refine List.Pairwise.imp (fun {a b} hab => ?_) hl
  rintro rfl
  exact List.lt_irrefl _ hab
theorem sorted_ext {xs ys : List ByteArray} (hx : Sorted xs) (hy : Sorted ys) (h : ∀ a, a ∈ xs ↔ a ∈ ys) : xs = ys := by
  refine List.Perm.eq_of_pairwise (le := fun a b : ByteArray => a.data.toList < b.data.toList) (fun a b _ _ h1 h2 => ?_) hx hy ((List.perm_ext_iff_of_nodup (sorted_nodup hx) (sorted_nodup hy)).2 h)
  exact absurd (List.lt_trans h1 h2) (List.lt_irrefl _)
open Classical in
noncomputable def inB (xs : List ByteArray) (a : ByteArray) : Bool := decide (a ∈ xs)
theorem inB_iff {xs : List ByteArray} {a : ByteArray} : inB xs a = true ↔ a ∈ xs := by simp [inB]
theorem inB_eq {xs ys : List ByteArray} {a b : ByteArray} (h : a ∈ xs ↔ b ∈ ys) : inB xs a = inB ys b := by rw [Bool.eq_iff_iff, inB_iff, inB_iff]; exact h
theorem sorted_one (a : ByteArray) : Sorted [a] := by simp [Sorted]

/-! ### P24.4 -/
def spl (a b : ByteArray) : Edt := ⟨6, a, b, ByteArray.empty, .string ⟨#[110]⟩, .int .i64 0, .int .i64 0, .string ByteArray.empty, .string ByteArray.empty, .slice none 0 0, .int .i64 0, .int .i64 0, .int .i64 0, .slice none 0 0, .slice none 0 0⟩
def joi (a b : ByteArray) : Edt := ⟨7, a, b, ByteArray.empty, .string ByteArray.empty, .int .i64 0, .int .i64 0, .string ByteArray.empty, .string ByteArray.empty, .slice none 0 0, .int .i64 0, .int .i64 0, .int .i64 0, .slice none 0 0, .slice none 0 0⟩
def dro (a : ByteArray) : Edt := ⟨5, a, ByteArray.empty, ByteArray.empty, .string ByteArray.empty, .int .i64 0, .int .i64 0, .string ByteArray.empty, .string ByteArray.empty, .slice none 0 0, .int .i64 0, .int .i64 0, .int .i64 0, .slice none 0 0, .slice none 0 0⟩
theorem joined {S : LinS} (h : Fine S) {a b id : ByteArray} (hE : followE S (spl a b) = 0) (hne : id ≠ b) :
    (S.pt id a = true ↔ (followS S (spl a b)).pt id b = true) ∧ followE (followS S (spl a b)) (joi a b) = 0 ∧
    (∀ x, (followS (followS S (spl a b)) (joi a b)).pt id x = true ↔ S.pt id x = true) ∧ ∀ x, (followS (followS S (spl a b)) (joi a b)).pt b x = true ↔ x = a := by
  have ok := okay_of hE
  have hab : a ≠ b := ok.ne (.inl rfl)
  have haa : S.pt a a = true := ok.id (by simp [spl])
  have hmb : S.men b = false := ok.fresh (.inr rfl)
  have h1 : ∀ u x, (followS S (spl a b)).pt u x = true ↔ S.pt u x = true ∨ (x = b ∧ S.pt u a = true) := fun u x => by rw [followS_pt hE, turn_iff]; simp [spl]
  have hnb : ∀ u, u ≠ b → S.pt u b = false := fun u hu => by
    cases hx : S.pt u b with
    | false => rfl
    | true =>
      rcases h.known u b hx with h2 | h2
      · exact absurd h2 hu
      · rw [hmb] at h2; cases h2
  have hbx : ∀ x, S.pt b x = true ↔ b = x := fun x => by rw [h.out b hmb]; simp
  have hE2 : followE (followS S (spl a b)) (joi a b) = 0 :=
    followE_of ⟨by simp [joi], by simp [joi], fun _ => hab, fun _ => (h1 a a).2 (.inl haa), fun _ => (h1 b b).2 (.inl ((hbx b).2 rfl)), fun ho => by simp [joi] at ho⟩
  have h2 : ∀ u x, (followS (followS S (spl a b)) (joi a b)).pt u x = true ↔ ((S.pt u x = true ∨ (x = b ∧ S.pt u a = true)) ∧ x ≠ b) ∨ (x = a ∧ (S.pt u b = true ∨ S.pt u a = true)) := fun u x => by
    rw [followS_pt hE2, turn_iff]
    simp only [joi]
    rw [if_neg (by omega), if_neg (by omega), if_pos trivial, h1, h1]
    simp
  refine ⟨?_, hE2, fun x => ?_, fun x => ?_⟩
  · rw [h1]; simp [hnb id hne]
  · rw [h2, hnb id hne]
    constructor
    · rintro (⟨h3 | ⟨h3, _⟩, h4⟩ | ⟨rfl, h3 | h3⟩)
      · exact h3
      · exact absurd h3 h4
      · cases h3
      · exact h3
    · intro h3
      refine .inl ⟨.inl h3, ?_⟩
      rintro rfl; rw [hnb id hne] at h3; cases h3
  · rw [h2, hbx, hbx, hbx]
    constructor
    · rintro (⟨h3 | ⟨h3, _⟩, h4⟩ | ⟨h3, _⟩)
      · exact absurd h3.symm h4
      · exact absurd h3 h4
      · exact h3
    · rintro rfl; exact .inr ⟨rfl, .inl rfl⟩

/-! ### P24.5 -/
theorem dropped {S : LinS} {a : ByteArray} (hE : followE S (dro a) = 0) (u x : ByteArray) : (followS S (dro a)).pt u x = true ↔ S.pt u x = true ∧ x ≠ a := by
  rw [followS_pt hE, turn_iff]; simp [dro]
theorem drop_ok {S : LinS} {a : ByteArray} (h : S.pt a a = true) : followE S (dro a) = 0 :=
  followE_of ⟨by simp [dro], by simp [dro], fun ht => by simp [Edt.two, dro] at ht, fun _ => h, fun ho => by simp [dro] at ho, fun ho => by simp [dro] at ho⟩
theorem length_without {was now : List ByteArray} {a : ByteArray} (hw : Sorted was) (hn : Sorted now) (h : ∀ x, x ∈ now ↔ x ∈ was ∧ x ≠ a) : (now.length : Int) = was.length - (if inB was a = true then 1 else 0) := by
  have he : now = was.filter (fun x => !decide (x = a)) := sorted_ext hn (List.Pairwise.filter _ hw) (fun x => by rw [h x, List.mem_filter]; simp)
  have : ∀ l : List ByteArray, l.Nodup → ((l.filter (fun x => !decide (x = a))).length : Int) = l.length - (if inB l a = true then 1 else 0) := by
    intro l
    induction l with
    | nil => intro _; simp [inB]
    | cons y l ih =>
      intro hnd
      obtain ⟨h1, h2⟩ := List.nodup_cons.1 hnd
      have := ih h2
      by_cases hy : y = a
      · subst hy
        rw [if_neg (fun h => h1 (inB_iff.1 h))] at this
        rw [if_pos (inB_iff.2 (by simp))]
        simp at this ⊢
        omega
      · have e : (inB (y :: l) a = true) = (inB l a = true) := by
          rw [inB_iff, inB_iff, List.mem_cons]
          exact propext ⟨fun h => h.resolve_left (fun e => hy e.symm), .inr⟩
        simp only [List.filter_cons, hy, decide_false, Bool.not_false, if_true, List.length_cons, e]
        omega
  rw [he]; exact this was (sorted_nodup hw)

/-! ### P24.6 -/
/-- What Follow looks at of an edit: the Ids that it names. -/
def Edt.Names (e : Edt) (x : ByteArray) : Prop := (e.op = 1 ∧ x = e.oid) ∨ (e.op ≠ 1 ∧ x = e.id) ∨ (e.two ∧ x = e.other)
theorem turn_other {e : Edt} {s : ByteArray → Bool} {x : ByteArray} (h : ¬ e.Names x) : turn e s x = s x := by
  rw [Bool.eq_iff_iff, turn_iff]
  unfold Edt.Names Edt.two at h
  simp only [not_or, not_and] at h
  obtain ⟨h1, h2, h3⟩ := h
  by_cases o5 : e.op = 5
  · simp only [o5, if_true]; exact ⟨fun h => h.1, fun hs => ⟨hs, h2 (by omega)⟩⟩
  · by_cases o6 : e.op = 6
    · simp only [o6]
      exact ⟨fun h => h.elim id fun h => absurd h.1 (h3 (.inl o6)), .inl⟩
    · by_cases o7 : e.op = 7
      · simp only [o7]
        exact ⟨fun h => h.elim (fun h => h.1) fun h => absurd h.1 (h2 (by omega)), fun hs => .inl ⟨hs, h3 (.inr o7)⟩⟩
      · simp [o5, o6, o7]
theorem followS_other {S : LinS} {e : Edt} {x : ByteArray} (h : ¬ e.Names x) (u : ByteArray) : (followS S e).pt u x = S.pt u x := by
  by_cases hE : followE S e = 0
  · rw [followS_pt hE, turn_other h]
  · rw [followS_err hE]
theorem followS_men_other {S : LinS} {e : Edt} {x : ByteArray} (h : ¬ e.Names x) : (followS S e).men x = S.men x := by
  by_cases hE : followE S e = 0
  · rw [followS_men hE]
    unfold Edt.Names at h
    simp only [not_or, not_and] at h
    have h1 : x ≠ e.idd := by
      unfold Edt.idd
      split
      · exact h.1 (by assumption)
      · exact h.2.1 (by assumption)
    have h2 : (decide e.two && decide (x = e.other)) = false := by
      by_cases ht : e.two
      · simp [h.2.2 ht]
      · simp [ht]
    simp [h1, h2]
  · rw [followS_err hE]
theorem followE_apart {S : LinS} {a b : Edt} (h : ∀ x, a.Names x → ¬ b.Names x) : followE (followS S b) a = followE S a := by
  have hid : a.op ≠ 1 → ∀ u, (followS S b).pt u a.id = S.pt u a.id := fun ho u => followS_other (h _ (.inr (.inl ⟨ho, rfl⟩))) u
  have hot : a.op = 7 → ∀ u, (followS S b).pt u a.other = S.pt u a.other := fun ho u => followS_other (h _ (.inr (.inr ⟨.inr ho, rfl⟩))) u
  have hfr : a.op = 1 ∨ a.op = 6 → (followS S b).men a.fresh = S.men a.fresh := fun ho => followS_men_other (h _ (by
    unfold Edt.Names Edt.fresh Edt.two
    rcases ho with ho | ho
    · rw [if_pos ho]; exact .inl ⟨ho, rfl⟩
    · rw [if_neg (by omega)]; exact .inr (.inr ⟨.inl ho, rfl⟩)))
  unfold followE
  have e1 : (a.op ≠ 1 ∧ (followS S b).pt a.id a.id = false ∨ a.op = 7 ∧ (followS S b).pt a.other a.other = false) ↔ (a.op ≠ 1 ∧ S.pt a.id a.id = false ∨ a.op = 7 ∧ S.pt a.other a.other = false) := by
    constructor
    · rintro (⟨h1, h2⟩ | ⟨h1, h2⟩)
      · exact .inl ⟨h1, by rw [← hid h1]; exact h2⟩
      · exact .inr ⟨h1, by rw [← hot h1]; exact h2⟩
    · rintro (⟨h1, h2⟩ | ⟨h1, h2⟩)
      · exact .inl ⟨h1, by rw [hid h1]; exact h2⟩
      · exact .inr ⟨h1, by rw [hot h1]; exact h2⟩
  have e2 : ((followS S b).men a.fresh = true ∧ (a.op = 1 ∨ a.op = 6)) ↔ (S.men a.fresh = true ∧ (a.op = 1 ∨ a.op = 6)) := by
    constructor
    · rintro ⟨h1, h2⟩; exact ⟨by rw [← hfr h2]; exact h1, h2⟩
    · rintro ⟨h1, h2⟩; exact ⟨by rw [hfr h2]; exact h1, h2⟩
  simp only [e1, e2]
theorem turn_turn {a b : Edt} (h : ∀ x, a.Names x → ¬ b.Names x) (s : ByteArray → Bool) (x : ByteArray) : turn a (turn b s) x = turn b (turn a s) x := by
  have hb : ∀ y, b.Names y → ¬ a.Names y := fun y h1 h2 => h y h2 h1
  have congr : ∀ (e : Edt) (s t : ByteArray → Bool) (x : ByteArray), s x = t x → (∀ y, e.Names y → s y = t y) → turn e s x = turn e t x := by
    intro e s t x hx hy
    unfold turn
    split
    · rw [hx]
    · split
      · rename_i h5 h6; rw [hx, hy e.id (.inr (.inl ⟨by omega, rfl⟩))]
      · split
        · rename_i h5 h6 h7; rw [hx, hy e.other (.inr (.inr ⟨.inr h7, rfl⟩))]
        · exact hx
  by_cases ha : a.Names x
  · have e1 : turn b (turn a s) x = turn a s x := turn_other (h x ha)
    rw [e1]
    exact congr a _ _ x (turn_other (h x ha)) fun y hy => turn_other (h y hy)
  · rw [turn_other ha]
    exact (congr b _ _ x (turn_other ha) fun y hy => turn_other (hb y hy)).symm
theorem commutes {S : LinS} {a b : Edt} (h : ∀ x, a.Names x → ¬ b.Names x) (u x : ByteArray) : (followS (followS S a) b).pt u x = (followS (followS S b) a).pt u x := by
  have hb : ∀ y, b.Names y → ¬ a.Names y := fun y h1 h2 => h y h2 h1
  have ea := followE_apart (S := S) h
  have eb := followE_apart (S := S) hb
  by_cases h1 : followE S a = 0
  · by_cases h2 : followE S b = 0
    · rw [followS_pt (eb.trans h2), followS_pt (ea.trans h1)]
      have : ∀ e (hE : followE S e = 0), (followS S e).pt u = turn e (S.pt u) := fun e hE => funext fun y => followS_pt hE u y
      rw [this a h1, this b h2]
      exact (turn_turn h (S.pt u) x).symm
    · rw [followS_err (fun e => h2 (eb ▸ e)), followS_err h2]
  · rw [followS_err h1, followS_err (S := followS S b) (fun e => h1 (ea ▸ e))]

/-! ### P24.7 -/
theorem refused {S : LinS} {e : Edt} (h : followE S e ≠ 0 ∨ e.op < 5) (u x : ByteArray) : (followS S e).pt u x = S.pt u x := by
  by_cases hE : followE S e = 0
  · rw [followS_pt hE, Bool.eq_iff_iff, turn_iff]
    have h5 : e.op < 5 := h.resolve_left (by omega)
    rw [if_neg (by omega), if_neg (by omega), if_neg (by omega)]
  · rw [followS_err hE]
end Go.Proofs.Ytcolfgnjmnapkaa
