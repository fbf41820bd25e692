/- Plain laws: the network's state beside the reference's. -/
import Derived.Test.YtheogcihnclehaaRf3
namespace Go.Proofs.Ytheogcihnclehaa
open Go.RowKit Go.Pl Go.WideMaps

abbrev txt (m : Msg) : ByteArray := m.2.2
structure Agree (S : NetS) (R : RefS) : Prop where
  nodes : R.nodes = S.nodes
  q : ∀ a b, S.q a b = (R.ms.filter (mt a b)).map txt
  cut : ∀ a b, a ≠ b → S.cut a b = decide ((min a b, max a b) ∈ R.cut)
def Bd (R : RefS) (n : Nat) : Prop := R.ms.length ≤ n ∧ R.cut.length ≤ n

theorem agree_new (n : Int) : Agree (NetS.new n) ⟨n, [], []⟩ := ⟨rfl, fun _ _ => rfl, fun _ _ _ => rfl⟩
theorem mt_self (a b : Int) (t : ByteArray) : mt a b (a, b, t) = true := by simp [mt]
theorem mt_of {a b c d : Int} {m : Msg} (h : mt a b m = true) (h2 : mt c d m = true) : c = a ∧ d = b := by
  simp [mt] at h h2
  exact ⟨h2.1.symm.trans h.1, h2.2.symm.trans h.2⟩
theorem mt_off {a b c d : Int} {m : Msg} (h : mt a b m = true) (h2 : ¬ (c = a ∧ d = b)) : mt c d m = false := by
  rw [Bool.eq_false_iff]; exact fun h3 => h2 (mt_of h h3)

section
variable {S : NetS} {R : RefS} (h : Agree S R)
include h
theorem Agree.right (a b : Int) : rightN R.nodes a b ↔ S.right a b := by rw [h.nodes]; exact Iff.rfl
theorem Agree.len (a b : Int) : (S.q a b).length = (R.ms.filter (mt a b)).length := by rw [h.q, List.length_map]
theorem agree_send (a b : Int) (t : ByteArray) : Agree (S.setq a b (S.q a b ++ [t])) { R with ms := R.ms ++ [(a, b, t)] } := by
  refine ⟨h.nodes, fun c d => ?_, h.cut⟩
  rw [List.filter_append, List.map_append, ← h.q]
  by_cases e : c = a ∧ d = b
  · obtain ⟨rfl, rfl⟩ := e
    simp [NetS.setq, mt]
  · have := mt_off (mt_self a b t) e
    simp only [NetS.setq, if_neg e, List.filter_cons, List.filter_nil, this]
    simp
theorem agree_take {a b : Int} {l1 l2 : List Msg} {m : Msg} (hms : R.ms = l1 ++ m :: l2) (hm : mt a b m = true) :
    Agree (S.setq a b ((S.q a b).eraseIdx (l1.filter (mt a b)).length)) { R with ms := R.ms.eraseIdx l1.length } := by
  have he : R.ms.eraseIdx l1.length = l1 ++ l2 := by
    rw [hms, List.eraseIdx_append_of_length_le (Nat.le_refl _)]; simp
  refine ⟨h.nodes, fun c d => ?_, h.cut⟩
  show (S.setq a b _).q c d = ((R.ms.eraseIdx l1.length).filter (mt c d)).map txt
  rw [he, List.filter_append, List.map_append]
  by_cases e : c = a ∧ d = b
  · obtain ⟨rfl, rfl⟩ := e
    simp only [NetS.setq, and_self, if_true]
    rw [h.q, hms, List.filter_append, List.filter_cons, if_pos hm, List.map_append, List.map_cons, List.eraseIdx_append_of_length_le (by simp)]
    simp
  · have := mt_off hm e
    simp only [NetS.setq, if_neg e]
    rw [h.q, hms, List.filter_append, List.filter_cons, this, List.map_append]
    simp
theorem agree_set {a b : Int} {l1 l2 : List Msg} {m : Msg} (hms : R.ms = l1 ++ m :: l2) (hm : mt a b m = true) (t : ByteArray) :
    Agree (S.setq a b ((S.q a b).set (l1.filter (mt a b)).length t)) { R with ms := l1 ++ (m.1, m.2.1, t) :: l2 } := by
  refine ⟨h.nodes, fun c d => ?_, h.cut⟩
  show (S.setq a b _).q c d = ((l1 ++ (m.1, m.2.1, t) :: l2).filter (mt c d)).map txt
  have hm2 : mt c d (m.1, m.2.1, t) = mt c d m := rfl
  by_cases e : c = a ∧ d = b
  · obtain ⟨rfl, rfl⟩ := e
    simp only [NetS.setq, and_self, if_true]
    rw [h.q, hms, List.filter_append, List.filter_cons, if_pos hm, List.filter_append, List.filter_cons, hm2, if_pos hm, List.map_append, List.map_cons, List.map_append, List.map_cons, List.set_append_right _ _ (by simp)]
    simp
  · have := mt_off hm e
    simp only [NetS.setq, if_neg e]
    rw [h.q, hms, List.filter_append, List.filter_cons, this, List.filter_append, List.filter_cons, hm2, this]
    simp
theorem agree_find {a b idx v : Int} (hf : FindV R.ms a b idx v) :
    (v = -1 ∧ S.at_ a b idx = none) ∨ ∃ l1 m l2, R.ms = l1 ++ m :: l2 ∧ mt a b m = true ∧ idx = (l1.filter (mt a b)).length ∧ v = l1.length ∧ S.at_ a b idx = some (txt m) := by
  rcases hf with ⟨h1, h2⟩ | ⟨l1, m, l2, h1, h2, h3, h4⟩
  · refine .inl ⟨h1, ?_⟩
    unfold NetS.at_
    split
    · rw [List.getElem?_eq_none]; rw [h.len]; omega
    · rfl
  · refine .inr ⟨l1, m, l2, h1, h2, h3, h4, ?_⟩
    unfold NetS.at_
    rw [if_pos (by omega), h.q, h1, List.filter_append, List.filter_cons, if_pos h2, List.map_append, List.map_cons, h3, Int.toNat_natCast, List.getElem?_append_right (by simp)]
    simp
theorem agree_cut {a b : Int} (hr : S.right a b) (off : Bool) {cs' : List (Int × Int)}
    (hcs : ∀ x : Int × Int, x ∈ cs' ↔ (x ∈ R.cut ∧ x ≠ (min a b, max a b)) ∨ (off = true ∧ x = (min a b, max a b))) : Agree (S.cutOff a b off) { R with cut := cs' } := by
  have e : S.cutOff a b off = { S with cut := fun c d => if c = a ∧ d = b ∨ c = b ∧ d = a then off else S.cut c d } := by rw [NetS.cutOff, if_pos hr]
  rw [e]
  refine ⟨h.nodes, h.q, fun c d hcd => ?_⟩
  show (if c = a ∧ d = b ∨ c = b ∧ d = a then off else S.cut c d) = decide ((min c d, max c d) ∈ cs')
  have hab : a ≠ b := hr.2.2.2.2
  by_cases e : c = a ∧ d = b ∨ c = b ∧ d = a
  · rw [if_pos e]
    have e2 : (min c d, max c d) = (min a b, max a b) := by
      rcases e with ⟨rfl, rfl⟩ | ⟨rfl, rfl⟩
      · rfl
      · rw [Int.min_comm, Int.max_comm]
    have := hcs (min c d, max c d)
    rw [e2] at this ⊢
    cases off with
    | true => exact (decide_eq_true (this.2 (.inr ⟨rfl, rfl⟩))).symm
    | false =>
      refine (decide_eq_false fun hm => ?_).symm
      rcases this.1 hm with ⟨_, h2⟩ | ⟨h2, _⟩
      · exact h2 rfl
      · cases h2
  · rw [if_neg e, h.cut c d hcd]
    have e2 : (min c d, max c d) ≠ (min a b, max a b) := fun h2 => by
      have h3 := congrArg Prod.fst h2
      have h4 := congrArg Prod.snd h2
      simp only at h3 h4
      apply e
      omega
    have := hcs (min c d, max c d)
    by_cases hm : (min c d, max c d) ∈ R.cut
    · rw [decide_eq_true hm, decide_eq_true (this.2 (.inl ⟨hm, e2⟩))]
    · rw [decide_eq_false hm, decide_eq_false]
      intro h2
      rcases this.1 h2 with ⟨h3, _⟩ | ⟨_, h3⟩
      · exact hm h3
      · exact e2 h3
end
end Go.Proofs.Ytheogcihnclehaa
