/- Plain laws for NetRefuses: an operation with an error changes nothing; what is spoilt twice is as it was. -/
import Derived.Test.YtheogcihnclehaaTwo
namespace Go.Proofs.Ytheogcihnclehaa
open Go.RowKit Go.Pl

theorem do_err (S : NetS) (o : Opr) (h : doE S o ≠ 0) : doS S o = S := by
  unfold doE at h
  unfold doS
  split
  · rename_i k; rw [if_pos k] at h; rw [NetS.send, if_neg h]
  · rename_i k; rw [if_neg k] at h
    split
    · rename_i k; rw [if_pos k] at h; rw [NetS.deliver, if_neg (by simp [h])]
    · rename_i k; rw [if_neg k] at h
      split
      · rename_i k; rw [if_pos k] at h; rw [NetS.lose, if_neg h]
      · rename_i k; rw [if_neg k] at h
        split
        · rename_i k; rw [if_pos k] at h; rw [NetS.spoil, if_neg h]
        · rename_i k; rw [if_neg k] at h
          split
          · rename_i k; rw [if_pos k] at h
            rw [NetS.cutOff, if_neg]
            intro hr; exact h (by rw [NetS.cutE, if_pos hr])
          · rfl

theorem spoilT_get (t : ByteArray) (k i : Nat) (mask : Int) (hi : i < t.data.size) : (spoilT t k mask).data[i]? = some (if k = i then t.data[i] ^^^ UInt8.ofNat mask.toNat else t.data[i]) := by
  rw [spoilT, Array.getElem?_modify]
  by_cases h : k = i
  · subst h; simp [hi]
  · simp [h, hi]
theorem spoilT_twice (t : ByteArray) (k : Nat) (mask : Int) : spoilT (spoilT t k mask) k mask = t := by
  refine ByteArray.ext (Array.ext_getElem? fun i => ?_)
  simp only [spoilT, Array.getElem?_modify]
  by_cases h : k = i
  · subst h
    simp only [if_true, Option.map_map]
    cases t.data[k]? with
    | none => rfl
    | some x =>
      simp only [Option.map_some, Function.comp_apply]
      rw [UInt8.xor_assoc, UInt8.xor_self, UInt8.xor_zero]
  · simp [h]

/-- What is known where a message was spoilt. -/
theorem spoil_ok {S : NetS} {a b i at_ mask : Int} (h : S.spoilE a b i at_ mask = 0) :
    S.right a b ∧ 1 ≤ mask ∧ mask ≤ 255 ∧ ∃ t, S.at_ a b i = some t ∧ 0 ≤ at_ ∧ at_ < t.size ∧ S.spoil a b i at_ mask = S.setq a b ((S.q a b).set i.toNat (spoilT t at_.toNat mask)) := by
  have h0 := h
  unfold NetS.spoilE at h
  split at h
  · cases h
  · rename_i hc
    have hr : S.right a b := by
      cases Decidable.em (S.right a b) with
      | inl h => exact h
      | inr h => exact absurd (.inl h) hc
    split at h
    · cases h
    · rename_i t ht
      split at h
      · cases h
      · rename_i hat
        exact ⟨hr, by omega, by omega, t, ht, by omega, by omega, by rw [NetS.spoil, if_pos h0, ht]; rfl⟩

theorem at_of {S S' : NetS} {a b i : Int} (h : S'.q a b = S.q a b) : S'.at_ a b i = S.at_ a b i := by unfold NetS.at_; rw [h]
theorem cutOff_q (S : NetS) (a b : Int) (off : Bool) : (S.cutOff a b off).q = S.q := by unfold NetS.cutOff; split <;> rfl
theorem cutOff_nodes (S : NetS) (a b : Int) (off : Bool) : (S.cutOff a b off).nodes = S.nodes := by unfold NetS.cutOff; split <;> rfl
theorem cutOff_right (S : NetS) (a b : Int) (off : Bool) (c d : Int) : (S.cutOff a b off).right c d ↔ S.right c d := by unfold NetS.right; rw [cutOff_nodes]
theorem setq_right (S : NetS) (a b c d : Int) (ts) : (S.setq a b ts).right c d ↔ S.right c d := Iff.rfl
theorem cutOff_cut {S : NetS} {a b : Int} (h : S.right a b) : (S.cutOff a b false).cut a b = false := by rw [NetS.cutOff, if_pos h]; simp
theorem cutOff_setq (S : NetS) (a b : Int) (off : Bool) (ts) : (S.setq a b ts).cutOff a b off = (S.cutOff a b off).setq a b ts := by
  unfold NetS.cutOff
  by_cases h : S.right a b
  · rw [if_pos (show (S.setq a b ts).right a b from h), if_pos h]; rfl
  · rw [if_neg (show ¬ (S.setq a b ts).right a b from h), if_neg h]

theorem deliver_again {S : NetS} {a b i : Int} {t : ByteArray} (hr : S.right a b) (hc : S.cut a b = false) (ht : S.at_ a b i = some t) :
    DV S a b i = .tuple #[.string t, .int .i64 0] ∧ S.deliver a b i true = S := by
  have hE : S.deliverE a b i = 0 := by simp [NetS.deliverE, hr, hc, ht]
  exact ⟨by simp [DV, NetS.deliverT, hE, ht], by rw [NetS.deliver, if_neg (by simp)]⟩

theorem spoil_again {S : NetS} {a b i at_ mask : Int} {t : ByteArray} (hr : S.right a b) (h1 : 1 ≤ mask) (h2 : mask ≤ 255) (ht : S.at_ a b i = some t) (h3 : 0 ≤ at_) (h4 : at_ < t.size) :
    S.spoilE a b i at_ mask = 0 ∧ S.spoil a b i at_ mask = S.setq a b ((S.q a b).set i.toNat (spoilT t at_.toNat mask)) := by
  have hE : S.spoilE a b i at_ mask = 0 := by
    have : ¬ (mask < 1 ∨ 255 < mask) := by omega
    have h5 : ¬ (at_ < 0 ∨ (t.size : Int) ≤ at_) := by omega
    have h6 : ¬ (¬ S.right a b ∨ mask < 1 ∨ 255 < mask) := by simp only [hr, not_true, false_or]; exact this
    rw [NetS.spoilE, if_neg h6, ht]
    simp only [h5, if_false]
  exact ⟨hE, by rw [NetS.spoil, if_pos hE, ht]; rfl⟩

/-- The whole story of a message that is spoilt, looked at, and spoilt again. -/
theorem spoil_story {S : NetS} {a b i at_ mask : Int} (h : S.spoilE a b i at_ mask = 0) :
    ∃ t, t ∈ S.q a b ∧ 0 ≤ at_ ∧ at_ < t.size ∧ 1 ≤ mask ∧ mask ≤ 255 ∧ S.right a b ∧ (S.spoil a b i at_ mask).right a b ∧
      (DV (S.cutOff a b false) a b i = .tuple #[.string t, .int .i64 0] ∧ (S.cutOff a b false).deliver a b i true = S.cutOff a b false) ∧
      (DV ((S.spoil a b i at_ mask).cutOff a b false) a b i = .tuple #[.string (spoilT t at_.toNat mask), .int .i64 0] ∧ ((S.spoil a b i at_ mask).cutOff a b false).deliver a b i true = (S.spoil a b i at_ mask).cutOff a b false) ∧
      ((S.spoil a b i at_ mask).cutOff a b false).spoilE a b i at_ mask = 0 ∧ ((S.spoil a b i at_ mask).cutOff a b false).spoil a b i at_ mask = S.cutOff a b false := by
  obtain ⟨hr, h1, h2, t, ht, h3, h4, hs⟩ := spoil_ok h
  obtain ⟨i0, i1, i2⟩ := NetS.at_some ht
  have hq2 : ((S.spoil a b i at_ mask).cutOff a b false).q a b = (S.q a b).set i.toNat (spoilT t at_.toNat mask) := by rw [cutOff_q, hs, NetS.setq_same]
  have hat2 : ((S.spoil a b i at_ mask).cutOff a b false).at_ a b i = some (spoilT t at_.toNat mask) := by
    unfold NetS.at_; rw [if_pos i0, hq2]; simp [i1]
  have hr2 : (S.spoil a b i at_ mask).right a b := by rw [hs]; exact hr
  have hr3 : ((S.spoil a b i at_ mask).cutOff a b false).right a b := (cutOff_right _ _ _ _ _ _).2 hr2
  refine ⟨t, List.mem_of_getElem? i2, h3, h4, h1, h2, hr, hr2, deliver_again ((cutOff_right _ _ _ _ _ _).2 hr) (cutOff_cut hr) ((at_of (by rw [cutOff_q])).trans ht), deliver_again hr3 (cutOff_cut hr2) hat2, ?_⟩
  have := spoil_again hr3 h1 h2 hat2 h3 (by rw [spoilT_size]; exact h4)
  refine ⟨this.1, this.2.trans ?_⟩
  rw [hq2, spoilT_twice, hs, cutOff_setq, NetS.setq_setq, List.set_set]
  have : (S.q a b).set i.toNat t = S.q a b := by
    apply List.ext_getElem?
    intro j
    rw [List.getElem?_set]
    by_cases hj : i.toNat = j
    · subst hj; simp only [if_true, i1]; exact i2.symm
    · simp [hj]
  rw [this]
  have h5 : S.q a b = (S.cutOff a b false).q a b := by rw [cutOff_q]
  rw [h5, NetS.setq_q]
end Go.Proofs.Ytheogcihnclehaa
