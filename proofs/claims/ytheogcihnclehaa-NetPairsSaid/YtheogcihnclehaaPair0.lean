/- Plain laws for NetPairs: two networks that are the same but for one queue stay so. -/
import Derived.Test.YtheogcihnclehaaTwo
namespace Go.Proofs.Ytheogcihnclehaa
open Go.RowKit Go.Pl

structure Sim (x y : Int) (S1 S2 : NetS) : Prop where
  nodes : S1.nodes = S2.nodes
  cut : S1.cut = S2.cut
  q : ∀ c d, c ≠ x ∨ d ≠ y → S1.q c d = S2.q c d
section
variable {x y : Int} {S1 S2 : NetS} (h : Sim x y S1 S2) {a b : Int} (hab : a ≠ x ∨ b ≠ y)
include h
theorem Sim.right : S1.right a b ↔ S2.right a b := by unfold NetS.right; rw [h.nodes]
theorem Sim.setq (ts : List ByteArray) : Sim x y (S1.setq a b ts) (S2.setq a b ts) :=
  ⟨h.nodes, h.cut, fun c d hcd => by simp only [NetS.setq]; split; rfl; exact h.q c d hcd⟩
include hab
theorem Sim.at_ (i : Int) : S1.at_ a b i = S2.at_ a b i := by unfold NetS.at_; rw [h.q a b hab]
theorem Sim.sendE (t : ByteArray) : S1.sendE a b t = S2.sendE a b t := by unfold NetS.sendE; simp only [h.right, h.cut, h.q a b hab]
theorem Sim.send (t : ByteArray) : Sim x y (S1.send a b t) (S2.send a b t) := by
  unfold NetS.send; rw [h.sendE hab, h.q a b hab]; split; exact h.setq _; exact h
theorem Sim.drop (i : Int) : Sim x y (S1.drop a b i) (S2.drop a b i) := by unfold NetS.drop; rw [h.q a b hab]; exact h.setq _
theorem Sim.deliver (i : Int) (g : Bool) : Sim x y (S1.deliver a b i g) (S2.deliver a b i g) := by
  have e : S1.deliverE a b i = S2.deliverE a b i := by unfold NetS.deliverE; simp only [h.right, h.cut, h.at_ hab]
  unfold NetS.deliver; rw [e]; split; exact h.drop hab i; exact h
theorem Sim.lose (i : Int) : Sim x y (S1.lose a b i) (S2.lose a b i) := by
  have e : S1.loseE a b i = S2.loseE a b i := by unfold NetS.loseE; simp only [h.right, h.at_ hab]
  unfold NetS.lose; rw [e]; split; exact h.drop hab i; exact h
theorem Sim.spoil (i at_ mask : Int) : Sim x y (S1.spoil a b i at_ mask) (S2.spoil a b i at_ mask) := by
  have e : S1.spoilE a b i at_ mask = S2.spoilE a b i at_ mask := by unfold NetS.spoilE; simp only [h.right, h.at_ hab]
  unfold NetS.spoil; rw [e, h.at_ hab, h.q a b hab]; split; exact h.setq _; exact h
end
theorem Sim.cutOff {x y : Int} {S1 S2 : NetS} (h : Sim x y S1 S2) (a b : Int) (off : Bool) : Sim x y (S1.cutOff a b off) (S2.cutOff a b off) := by
  unfold NetS.cutOff; simp only [h.right]
  split
  · exact ⟨h.nodes, by simp only [h.cut], h.q⟩
  · exact h
theorem Sim.both {x y : Int} {S1 S2 : NetS} (h : Sim x y S1 S2) (o : Opr) (ho : (o.a ≠ x ∨ o.b ≠ y) ∨ o.kind = 4) : Sim x y (doS S1 o) (doS S2 o) := by
  unfold doS
  by_cases k4 : o.kind = 4
  · simp only [k4]; exact h.cutOff _ _ _
  have hab : o.a ≠ x ∨ o.b ≠ y := ho.resolve_right k4
  split; exact h.send hab _
  split; exact h.deliver hab _ _
  split; exact h.lose hab _
  split; exact h.spoil hab _ _ _
  exact h
theorem Sim.left {x y : Int} {S1 S2 : NetS} (h : Sim x y S1 S2) (ts : List ByteArray) : Sim x y (S1.setq x y ts) S2 :=
  ⟨h.nodes, h.cut, fun c d hcd => by
    simp only [NetS.setq]
    rw [if_neg (by omega)]
    exact h.q c d hcd⟩
theorem Sim.own {x y : Int} {S1 S2 : NetS} (h : Sim x y S1 S2) (o : Opr) (hx : o.a = x) (hy : o.b = y) (k4 : o.kind ≠ 4) : Sim x y (doS S1 o) S2 := by
  unfold doS NetS.send NetS.deliver NetS.lose NetS.spoil NetS.drop
  rw [hx, hy]
  split
  · split; exact h.left _; exact h
  split
  · split; exact h.left _; exact h
  split
  · split; exact h.left _; exact h
  split
  · split; exact h.left _; exact h
  exact h
theorem Sim.refl (x y : Int) (S : NetS) : Sim x y S S := ⟨rfl, rfl, fun _ _ _ => rfl⟩

theorem outs_same {x y : Int} {S1 S2 : NetS} (h : Sim x y S1 S2) (h3 : S1.nodes = 3) (hx : 0 ≤ x ∧ x < 3) (hy : 0 ≤ y ∧ y < 3) (k : Nat) (hk : (k : Int) = 3 * x + y) : (allQ S1 9).set k [] = (allQ S2 9).set k [] := by
  rw [allQ_eq S1 h3 9 (by omega), allQ_eq S2 (h.nodes ▸ h3) 9 (by omega)]
  apply List.ext_getElem?
  intro i
  simp only [List.getElem?_set, List.length_map, List.length_range]
  by_cases hik : k = i
  · simp [hik]
  · rw [if_neg hik, if_neg hik, List.getElem?_map, List.getElem?_map]
    by_cases hi : i < 9
    · rw [List.getElem?_range hi]
      simp only [Option.map_some, outQ]
      have hne : ((i / 3 : Nat) : Int) ≠ x ∨ ((i % 3 : Nat) : Int) ≠ y := by omega
      rw [h.q _ _ hne]
    · rw [List.getElem?_eq_none (by simp; omega)]; rfl
end Go.Proofs.Ytheogcihnclehaa
