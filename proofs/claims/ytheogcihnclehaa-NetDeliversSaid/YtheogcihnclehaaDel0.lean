/- Plain laws for NetDelivers: what the law's own map of queues is, beside a network. -/
import Derived.Test.YtheogcihnclehaaTwo
namespace Go.Proofs.Ytheogcihnclehaa
open Go.RowKit Go.Pl

theorem NetAt.none_new {w : World} {p : Nat} {ρ : Roles} {S : NetS} (h : NetAt w p ρ S) {r : Nat} (hr : w.heap.size ≤ r) : ρ r = none := by
  cases e : ρ r with
  | none => rfl
  | some x => have := h.lt r (by rw [e]; simp); omega

abbrev qv (f : Value → Option Value) (a b : Int) : Value := (f (key a b)).getD (.slice none 0 0)
/-- The law's map of queues. -/
structure Qs (w : World) (B mb : Nat) (f : Value → Option Value) (ρ : Roles) (τ : Nat → Option (Int × Int)) (Q : Int → Int → List ByteArray) : Prop where
  mp : MapAt Try.prog 45 w mb f
  mB : B ≤ mb
  m0 : ρ mb = none
  q : ∀ a b, w.ownsRow B 9 1 (qv f a b) (Q a b).length ((Q a b).map Value.string)
  t : ∀ a b k, (qv f a b).ownBlock = some k → τ k = some (a, b) ∧ ρ k = none
theorem Qs.lt {w B mb f ρ τ Q} (h : Qs w B mb f ρ τ Q) (a b : Int) : ∀ k, (qv f a b).ownBlock = some k → B ≤ k ∧ k < w.heap.size := fun k hk => (h.q a b).lt k hk
theorem Qs.ne {w B mb f ρ τ Q} (h : Qs w B mb f ρ τ Q) (a b : Int) : (qv f a b).ownBlock ≠ some mb := by
  intro e
  obtain ⟨es, c, hm, _⟩ := h.mp
  rcases (h.q a b).2 with ⟨h1, _⟩ | ⟨g, cap, cur, h1, _, h3, _⟩
  · rw [h1] at e; simp [Value.ownBlock] at e
  · rw [h1] at e
    simp [Value.ownBlock] at e
    subst e
    rw [hm] at h3; simp at h3
theorem Qs.keep {w w' B mb f ρ ρ' τ Q} (h : Qs w B mb f ρ τ Q) {F : Nat → Prop} (hf : Fr F w w') (hF : ∀ r, ρ r = none → r < w.heap.size → ¬ F r) (hρ : ∀ r, r < w.heap.size → ρ r = none → ρ' r = none) : Qs w' B mb f ρ' τ Q := by
  refine ⟨h.mp.fr hf (hF mb h.m0 h.mp.lt), h.mB, hρ mb h.mp.lt h.m0, fun a b => ownsRow_of_blk (h.q a b) fun k hk => hf.blk k (h.lt a b k hk).2 (hF k (h.t a b k hk).2 (h.lt a b k hk).2), fun a b k hk => ⟨(h.t a b k hk).1, hρ k (h.lt a b k hk).2 (h.t a b k hk).2⟩⟩
theorem Qs.quiet {w w' B mb f ρ τ Q} (h : Qs w B mb f ρ τ Q) (hf : Fr (fun _ => False) w w') : Qs w' B mb f ρ τ Q := h.keep hf (fun _ _ _ => id) (fun _ _ => id)
theorem Qs.net {w w' B mb f ρ ρ' τ Q} (h : Qs w B mb f ρ τ Q) (hf : Fr (Fp ρ) w w') (hg : Grows w ρ ρ') : Qs w' B mb f ρ' τ Q :=
  h.keep hf (fun r h1 _ h2 => h2 h1) (fun r hr h1 => by
    cases e : ρ' r with
    | none => rfl
    | some x => exact absurd h1 (hg r hr (by rw [e]; simp)))

def putQ (Q : Int → Int → List ByteArray) (a b : Int) (ts : List ByteArray) : Int → Int → List ByteArray := fun c d => if c = a ∧ d = b then ts else Q c d
/-- One queue of the law's map turns. -/
theorem Qs.put {w w' B mb f ρ τ Q} (h : Qs w B mb f ρ τ Q) {a b : Int} {v' : Value} {ts : List ByteArray} (hfr : Fr (fun r => (qv f a b).ownBlock = some r ∨ r = mb) w w')
    (hm : MapAt Try.prog 45 w' mb (upd f (key a b) v')) (hown : w'.ownsRow B 9 1 v' ts.length (ts.map Value.string)) (hloc : ∀ k, v'.ownBlock = some k → (qv f a b).ownBlock = some k ∨ w.heap.size ≤ k) (hρ : ∀ r, ρ r ≠ none → r < w.heap.size) :
    ∃ τ', Qs w' B mb (upd f (key a b) v') ρ τ' (putQ Q a b ts) := by
  have hval : ∀ c d, qv (upd f (key a b) v') c d = if c = a ∧ d = b then v' else qv f c d := fun c d => by
    by_cases e : c = a ∧ d = b
    · obtain ⟨rfl, rfl⟩ := e; simp [qv, upd_same]
    · rw [if_neg e, qv, upd_other _ (fun h => e (key_inj h))]
  refine ⟨fun k => if w.heap.size ≤ k then some (a, b) else τ k, hm, h.mB, h.m0, fun c d => ?_, fun c d k hk => ?_⟩
  · rw [hval]
    by_cases e : c = a ∧ d = b
    · rw [if_pos e, putQ, if_pos e]; exact hown
    · rw [if_neg e, putQ, if_neg e]
      refine ownsRow_of_blk (h.q c d) fun k hk => hfr.blk k (h.lt c d k hk).2 ?_
      rintro (h1 | rfl)
      · have h2 := (h.t c d k hk).1
        rw [(h.t a b k h1).1] at h2
        simp at h2
        exact e ⟨h2.1.symm, h2.2.symm⟩
      · exact h.ne c d hk
  · rw [hval] at hk
    by_cases e : c = a ∧ d = b
    · rw [if_pos e] at hk
      obtain ⟨rfl, rfl⟩ := e
      rcases hloc k hk with h1 | h1
      · have h2 := h.lt c d k h1
        rw [if_neg (by omega)]; exact h.t c d k h1
      · rw [if_pos h1]
        refine ⟨rfl, ?_⟩
        cases e : ρ k with
        | none => rfl
        | some x => have := hρ k (by rw [e]; simp); omega
    · rw [if_neg e] at hk
      have h2 := h.lt c d k hk
      rw [if_neg (by omega)]; exact h.t c d k hk

/-- What an operation other than Spoil does to the queues. -/
def Story (S : NetS) (o : Opr) : Prop :=
  ((o.kind < 0 ∨ 4 < o.kind) ∧ doS S o = S ∧ doK S o = (S.q o.a o.b).length) ∨
  ((0 ≤ o.kind ∧ o.kind ≤ 4) ∧ doE S o ≠ 0 ∧ doS S o = S) ∨
  (o.kind = 4 ∧ doE S o = 0 ∧ (doS S o).q = S.q) ∨
  (o.kind = 0 ∧ doE S o = 0 ∧ (doS S o).q = putQ S.q o.a o.b (S.q o.a o.b ++ [o.text])) ∨
  (o.kind = 1 ∧ o.flag = true ∧ doE S o = 0 ∧ doS S o = S ∧ 0 ≤ o.index ∧ (S.q o.a o.b)[o.index.toNat]? = some (doT S o)) ∨
  (o.kind = 1 ∧ o.flag = false ∧ doE S o = 0 ∧ (doS S o).q = putQ S.q o.a o.b ((S.q o.a o.b).eraseIdx o.index.toNat) ∧ 0 ≤ o.index ∧ (S.q o.a o.b)[o.index.toNat]? = some (doT S o)) ∨
  (o.kind = 2 ∧ doE S o = 0 ∧ (doS S o).q = putQ S.q o.a o.b ((S.q o.a o.b).eraseIdx o.index.toNat) ∧ 0 ≤ o.index ∧ o.index.toNat < (S.q o.a o.b).length)

theorem do_err2 (S : NetS) (o : Opr) (h : doE S o ≠ 0) : doS S o = S := by
  unfold doE at h
  unfold doS
  split
  · rename_i k; rw [if_pos k] at h; rw [NetS.send, if_neg h]
  · rename_i k; rw [if_neg k] at h
    split
    · rename_i k; rw [if_pos k] at h; rw [NetS.deliver, if_neg (by simp [h])]
    · rename_i k; rw [if_neg k] at h
      split
      · rename_i k; rw [if_pos k] at h; rw [NetS.lose, if_neg h]
      · rename_i k; rw [if_neg k] at h
        split
        · rename_i k; rw [if_pos k] at h; rw [NetS.spoil, if_neg h]
        · rename_i k; rw [if_neg k] at h
          split
          · rename_i k; rw [if_pos k] at h
            rw [NetS.cutOff, if_neg]
            intro hr; exact h (by rw [NetS.cutE, if_pos hr])
          · rfl

theorem story (S : NetS) (o : Opr) (hr : S.right o.a o.b) (h3 : o.kind ≠ 3) : Story S o := by
  by_cases hk : o.kind < 0 ∨ 4 < o.kind
  · refine .inl ⟨hk, ?_, ?_⟩
    · have k0 : o.kind ≠ 0 := by omega
      have k1 : o.kind ≠ 1 := by omega
      have k2 : o.kind ≠ 2 := by omega
      have k4 : o.kind ≠ 4 := by omega
      simp [doS, k0, k1, k2, h3, k4]
    · rw [doK, if_pos hk, NetS.count, if_pos hr]
  have hk' : 0 ≤ o.kind ∧ o.kind ≤ 4 := by omega
  by_cases he' : doE S o ≠ 0
  · exact .inr (.inl ⟨hk', he', do_err2 S o he'⟩)
  have he : doE S o = 0 := by omega
  by_cases k4 : o.kind = 4
  · refine .inr (.inr (.inl ⟨k4, he, ?_⟩))
    have : doS S o = S.cutOff o.a o.b o.flag := by simp [doS, k4]
    rw [this, NetS.cutOff]; split <;> rfl
  by_cases k0 : o.kind = 0
  · refine .inr (.inr (.inr (.inl ⟨k0, he, ?_⟩)))
    have h1 : doS S o = S.send o.a o.b o.text := by simp [doS, k0]
    have h2 : S.sendE o.a o.b o.text = 0 := by simpa [doE, k0] using he
    rw [h1, NetS.send, if_pos h2]; rfl
  by_cases k1 : o.kind = 1
  · have h2 : S.deliverE o.a o.b o.index = 0 := by simpa [doE, k1] using he
    have h1 : doS S o = S.deliver o.a o.b o.index o.flag := by simp [doS, k1]
    have h4 : doT S o = S.deliverT o.a o.b o.index := by simp [doT, k1]
    have hat : ∃ t, S.at_ o.a o.b o.index = some t := by
      cases e : S.at_ o.a o.b o.index with
      | some t => exact ⟨t, rfl⟩
      | none =>
        unfold NetS.deliverE at h2
        rw [e] at h2
        split at h2
        · cases h2
        · split at h2 <;> cases h2
    obtain ⟨t, ht⟩ := hat
    obtain ⟨i0, i1, i2⟩ := NetS.at_some ht
    have hT : doT S o = t := by rw [h4, NetS.deliverT, if_pos h2, ht]; rfl
    cases hf : o.flag with
    | true => exact .inr (.inr (.inr (.inr (.inl ⟨k1, hf, he, by rw [h1, hf, NetS.deliver, if_neg (by simp)], i0, by rw [hT]; exact i2⟩))))
    | false =>
      refine .inr (.inr (.inr (.inr (.inr (.inl ⟨k1, hf, he, ?_, i0, by rw [hT]; exact i2⟩)))))
      rw [h1, hf, NetS.deliver, if_pos ⟨h2, rfl⟩]; rfl
  · have k2 : o.kind = 2 := by omega
    have h2 : S.loseE o.a o.b o.index = 0 := by simpa [doE, k2] using he
    have h1 : doS S o = S.lose o.a o.b o.index := by simp [doS, k2]
    have hat : ∃ t, S.at_ o.a o.b o.index = some t := by
      cases e : S.at_ o.a o.b o.index with
      | some t => exact ⟨t, rfl⟩
      | none =>
        unfold NetS.loseE at h2
        rw [e] at h2
        split at h2 <;> cases h2
    obtain ⟨t, ht⟩ := hat
    obtain ⟨i0, i1, i2⟩ := NetS.at_some ht
    refine .inr (.inr (.inr (.inr (.inr (.inr ⟨k2, he, ?_, i0, i1⟩)))))
    rw [h1, NetS.lose, if_pos h2]; rfl
end Go.Proofs.Ytheogcihnclehaa
