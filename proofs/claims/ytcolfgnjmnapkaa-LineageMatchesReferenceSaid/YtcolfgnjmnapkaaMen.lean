/- The lineage: mention, Gone. -/
import Derived.Test.YtcolfgnjmnapkaaLin
import Derived.Deep.RegionHeld3
namespace Go.Proofs.Ytcolfgnjmnapkaa
open Go.RowKit Go.Pl Go.WideMaps

def LinS.mention (S : LinS) (a : ByteArray) : LinS := { S with men := fun x => S.men x || decide (x = a) }

def MenDone (p mp b N : Nat) (ρ : Roles) (S : LinS) (a : ByteArray) (w w1 : World) (o : Obj) : Prop :=
  (∀ W : World, W.heap[mp]? = w1.heap[mp]? → (Instr.mapUpdate 53 (.map (some mp)) (.string a) (.map (some b))).run Try.prog W = .ok () (setBlk W mp o)) ∧
  ∀ W : World, Fr (fun _ => False) w1 W → ∃ ρ', LinAt (setBlk W mp o) p (N + 1) ρ' (S.mention a) ∧ Fr (Fp ρ) w (setBlk W mp o) ∧ Grows w ρ ρ'

theorem mention_done {w w1 : World} {p mp b N : Nat} {f ρ S} (h : LinR w p mp N f ρ S) {a : ByteArray} (ha : a.size ≤ maxLen) (hb : MapN Try.prog 9 w1 b N (setM (S.pt a))) (hf : Fr (fun _ => False) w w1)
    (hor : f (.string a) = some (.map (some b)) ∨ f (.string a) = none ∧ w.heap.size ≤ b) : ∃ o, MenDone p mp b N ρ S a w w1 o := by
  obtain ⟨l, hk⟩ := key9 ha
  have h1 := h.fr hf (by simp)
  obtain ⟨o, ho⟩ := h1.hm.store law9 Try.underlying53 hk (.map (some b))
  have hmp := h.lt mp (by rw [h.rm]; simp)
  have hp := h.lt p (by rw [h.rp]; simp)
  have hpm : p ≠ mp := fun e => by have := h.rp; rw [e, h.rm] at this; simp at this
  refine ⟨o, fun W hW => (ho W hW).1, fun W hW => ?_⟩
  obtain ⟨g1, g2⟩ := ho W (hW.blk mp (h1.lt mp (by rw [h.rm]; simp)) (by simp))
  have hN : (if (f (.string a)).isSome then N else N + 1) ≤ N + 1 := by split <;> omega
  have hfr : Fr (Fp ρ) w (setBlk W mp o) := ((hf.trans hW).mono (fun _ _ h => h.elim)).setBlk (fun _ => by show ρ mp ≠ none; rw [h.rm]; simp) o
  have hkeep : ∀ r, r ≠ mp → r < w1.heap.size → (setBlk W mp o).heap[r]? = w1.heap[r]? := fun r hr hlt => by
    rw [setBlk_other hr, hW.blk r hlt (by simp)]
  have hothers : ∀ (ρ' : Roles) x, x ≠ a → (∀ b', ρ b' = some (2, x) → ρ' b' = some (2, x)) → PAt (setBlk W mp o) ρ' (N + 1) x (upd f (.string a) (.map (some b)) (.string x)) (S.mention a) := by
    intro ρ' x hx hρ
    rw [upd_other _ (by simpa using hx)]
    rcases h1.hS x with ⟨q1, q2, q3⟩ | ⟨b', q1, q2, q3, q4⟩
    · exact .inl ⟨q1, by simp [LinS.mention, q2, hx], q3⟩
    · refine .inr ⟨b', q1, by simp [LinS.mention, q2], hρ b' q3, (q4.mono (Nat.le_succ N)).of_blk (hkeep b' ?_ (h1.lt b' (by rw [q3]; simp)))⟩
      rintro rfl; rw [h.rm] at q3; simp at q3
  rcases hor with hor | ⟨hno, hbl⟩
  · have hρb : ρ b = some (2, a) := by
      rcases h.hS a with ⟨q1, _⟩ | ⟨b', q1, _, q3, _⟩
      · rw [q1] at hor; cases hor
      · rw [q1] at hor; cases hor; exact q3
    have hbm : b ≠ mp := by rintro rfl; rw [h.rm] at hρb; simp at hρb
    refine ⟨ρ, ⟨mp, _, by rw [hkeep p hpm (h1.lt p (by rw [h.rp]; simp))]; exact h1.hp, h.rp, h.rm, g2.mono hN, fun x => ?_, fun r hr => Nat.lt_of_lt_of_le (h.lt r hr) hfr.size, Nat.le_succ_of_le h.n1⟩, hfr, fun _ _ => id⟩
    by_cases hx : x = a
    · subst hx
      exact .inr ⟨b, upd_same _ _ _, by simp [LinS.mention], hρb, (hb.mono (Nat.le_succ N)).of_blk (hkeep b hbm hb.lt)⟩
    · exact hothers ρ x hx fun _ => id
  · have hρb : ρ b = none := by
      cases e : ρ b with
      | none => rfl
      | some x => have := h.lt b (by rw [e]; simp); omega
    have hbm : b ≠ mp := by omega
    have hpb : p ≠ b := by omega
    refine ⟨fun r => if r = b then some (2, a) else ρ r, ⟨mp, _, by rw [hkeep p hpm (h1.lt p (by rw [h.rp]; simp))]; exact h1.hp, ?_, ?_, g2.mono hN, fun x => ?_, fun r hr => ?_, Nat.le_succ_of_le h.n1⟩, hfr, fun r hr hne => ?_⟩
    · simp only [if_neg hpb]; exact h.rp
    · simp only [if_neg hbm.symm]; exact h.rm
    · by_cases hx : x = a
      · subst hx
        exact .inr ⟨b, upd_same _ _ _, by simp [LinS.mention], by simp, (hb.mono (Nat.le_succ N)).of_blk (hkeep b hbm hb.lt)⟩
      · refine hothers _ x hx fun b' hb' => ?_
        have : b' ≠ b := by rintro rfl; rw [hρb] at hb'; cases hb'
        simp only [if_neg this]; exact hb'
    · by_cases e : r = b
      · subst e; have := hW.size; have := hb.lt; simp [setBlk]; omega
      · simp only [if_neg e] at hr; exact Nat.lt_of_lt_of_le (h.lt r hr) hfr.size
    · have : r ≠ b := by omega
      simp only [if_neg this] at hne; exact hne

def MenPost (p N : Nat) (ρ : Roles) (S : LinS) (a : ByteArray) (w : World) (e : Ending) (w' : World) : Prop := LPost p (N + 1) ρ (S.mention a) (.tuple #[]) w e w'

set_option maxHeartbeats 1000000 in
theorem mention_calls {w : World} {p N : Nat} {ρ S} (h : LinAt w p N ρ S) {a : ByteArray} (ha : a.size ≤ maxLen) :
    Calls Try.prog 31 #[.pointer (some ⟨p, 0, none⟩), .string a] w (MenPost p N ρ S a w) := by
  obtain ⟨mp, f, h⟩ := h
  have h1 := h.fr (w' := w.drew) (F := fun _ => False) (by simp) (by simp)
  have hof := Lib.hid (of_calls h1 ha)
  have cp := h.cp
  have cp1 := h1.cp
  have hpl := h.lt p (by rw [h.rp]; simp)
  have hfin : Hid (∀ w1 b, MapN Try.prog 9 w1 b N (setM (S.pt a)) → Fr (fun _ => False) w.drew w1 → (f (.string a) = some (.map (some b)) ∨ f (.string a) = none ∧ w.heap.size ≤ b) → w1.cell? ⟨p, 0, none⟩ = some (.map (some mp)) ∧
      ∃ o, (Instr.mapUpdate 53 (.map (some mp)) (.string a) (.map (some b))).run Try.prog w1 = .ok () (setBlk w1 mp o) ∧ (setBlk w1 mp o).cell? ⟨p, 0, none⟩ = some (.map (some mp)) ∧ MenPost p N ρ S a w (.returned (.tuple #[])) (setBlk w1 mp o)) := by
    intro w1 b x1 x2 x3
    obtain ⟨o, ho1, ho2⟩ := mention_done h1 ha x1 x2 x3
    obtain ⟨ρ', g1, g2, g3⟩ := ho2 w1 (Fr.refl _ _)
    have hpm : p ≠ mp := fun e => by have := h.rp; rw [e, h.rm] at this; simp at this
    have hc : w1.cell? ⟨p, 0, none⟩ = some (.map (some mp)) := x2.cell cp1 (by simp)
    exact ⟨hc, o, ho1 _ rfl, by rw [World.cell?_of_block (setBlk_other hpm o)]; exact hc, rfl, ρ', g1, (by simp : Fr (Fp ρ) w w.drew).trans g2, g3⟩
  clear h h1
  go_enter Try.func31, Try.ntmps31
  go_wp2_with fail
  go_region_held3 (fun w' => w'.cell? ⟨p, 0, none⟩ = some (.map (some mp))) (first | assumption) ((refine hof.out.mono ?_; rintro e w1 ⟨b, rfl, x1, x2, x3⟩; obtain ⟨cp2, o, hrun, cp3, hend⟩ := hfin.out w1 b x1 x2 x3; have hend := Lib.hid hend; clear x1 x2 x3))
  go_end0
  exact hend.out

def GonePost (S : LinS) (a : ByteArray) (w : World) (e : Ending) (w' : World) : Prop := ∃ g : Bool, e = .returned (.bool g) ∧ (g = true ↔ ∀ y, S.pt a y = false) ∧ Fr (fun _ => False) w w'
theorem gone_nil (a : ByteArray) (w : World) : Calls Try.prog 21 #[.pointer none, .string a] w fun e w' => e = .returned (.bool false) ∧ w = w' := by
  go_enter Try.func21, Try.ntmps21
  go_wp2
  go_ret
  exact ⟨rfl, rfl⟩
theorem gone_calls {w : World} {p N : Nat} {ρ S} (h : LinAt w p N ρ S) {a : ByteArray} (ha : a.size ≤ maxLen) :
    Calls Try.prog 21 #[.pointer (some ⟨p, 0, none⟩), .string a] w (GonePost S a w) := by
  obtain ⟨mp, f, h⟩ := h
  have hof := Lib.hid (of_calls h ha)
  clear h
  go_enter Try.func21, Try.ntmps21
  go_wp2_with fail
  refine hof.out.mono ?_
  rintro e w1 ⟨b, rfl, x1, x2, _⟩
  obtain ⟨c, hc, hc0, hl⟩ := x1.len Try.underlying60
  have hl1 := fun ty => hl w1 ty rfl
  have hfin : Hid (GonePost S a w (.returned (.bool ((c : Int) == 0))) w1) := by
    refine ⟨_, rfl, ?_, x2⟩
    rw [beq_iff_eq, Int.natCast_eq_zero, hc0]
    constructor
    · intro h y
      have := h (.string y)
      rw [setM_str] at this
      cases hy : S.pt a y with
      | false => rfl
      | true => rw [hy] at this; simp at this
    · intro h k
      cases k with
      | string y => rw [setM_str, h y]; rfl
      | _ => rfl
  clear x1 x2 hc hc0 hl hof
  go_wp2
  go_ret
  exact hfin.out
end Go.Proofs.Ytcolfgnjmnapkaa
