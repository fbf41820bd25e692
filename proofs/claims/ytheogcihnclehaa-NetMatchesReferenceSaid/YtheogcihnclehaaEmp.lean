/- emptied, all, same. -/
import Derived.Test.YtheogcihnclehaaHead
namespace Go.Proofs.Ytheogcihnclehaa
open Go.RowKit Go.Pl Go.WideMaps

theorem info9 : (Try.prog.info? 9).map (fun i => (i.zero, i.size, i.bytes)) = some (some (.string ByteArray.empty), 1, 16) := by kernel_rfl
theorem info46 : (Try.prog.info? 46).map (fun i => (i.zero, i.size, i.bytes)) = some (some (.slice none 0 0), 1, 24) := by kernel_rfl

def NetS.live (S : NetS) (a b : Int) : Prop := S.right a b ∧ S.cut a b = false
instance (S : NetS) (a b : Int) : Decidable (S.live a b) := by unfold NetS.live; infer_instance
def emptyQ (S : NetS) (a b : Int) : List ByteArray := if S.live a b then (S.q a b).take 110 else []
def emptyS (S : NetS) (a b : Int) : NetS := if S.live a b then S.setq a b ((S.q a b).drop 110) else S

/-- v is the call's own slice of the strings xs, apart from the roles ρ. -/
structure Strs (w : World) (B : Nat) (ρ : Roles) (v : Value) (xs : List ByteArray) : Prop where
  own : w.ownsRow B 9 1 v xs.length (xs.map Value.string)
  no : ∀ k, v.ownBlock = some k → ρ k = none

theorem NetS.setq_q (S : NetS) (a b : Int) : S.setq a b (S.q a b) = S := by
  cases S with
  | mk n q c =>
    simp only [NetS.setq, NetS.mk.injEq, true_and, and_true]
    funext x y
    split
    · rename_i h; rw [h.1, h.2]
    · rfl
theorem NetS.setq_setq (S : NetS) (a b : Int) (x y : List ByteArray) : (S.setq a b x).setq a b y = S.setq a b y := by
  simp only [NetS.setq, NetS.mk.injEq, true_and, and_true]
  funext c d
  split <;> rfl

theorem deliver_front (S : NetS) (a b : Int) (hl : S.live a b) (k : Nat) :
    (∀ h : k < (S.q a b).length, DV (S.setq a b ((S.q a b).drop k)) a b 0 = .tuple #[.string (S.q a b)[k], .int .i64 0] ∧ (S.setq a b ((S.q a b).drop k)).deliver a b 0 false = S.setq a b ((S.q a b).drop (k + 1))) ∧
    (¬ k < (S.q a b).length → DV (S.setq a b ((S.q a b).drop k)) a b 0 = .tuple #[.string ByteArray.empty, .int .i64 11] ∧ (S.setq a b ((S.q a b).drop k)).deliver a b 0 false = S.setq a b ((S.q a b).drop k)) := by
  obtain ⟨hr, hc⟩ := hl
  have hr' : (S.setq a b ((S.q a b).drop k)).right a b := hr
  have hc' : (S.setq a b ((S.q a b).drop k)).cut a b = false := hc
  have hq : (S.setq a b ((S.q a b).drop k)).q a b = (S.q a b).drop k := S.setq_same _ _ _
  constructor
  · intro h
    have hat : (S.setq a b ((S.q a b).drop k)).at_ a b 0 = some (S.q a b)[k] := by simp [NetS.at_, hq, h]
    have hE : (S.setq a b ((S.q a b).drop k)).deliverE a b 0 = 0 := by simp [NetS.deliverE, hr', hc', hat]
    refine ⟨by simp [DV, NetS.deliverT, hE, hat], ?_⟩
    rw [NetS.deliver, if_pos ⟨hE, rfl⟩, NetS.drop, hq, NetS.setq_setq]
    simp
  · intro h
    have hat : (S.setq a b ((S.q a b).drop k)).at_ a b 0 = none := by simp [NetS.at_, hq]; omega
    have hE : (S.setq a b ((S.q a b).drop k)).deliverE a b 0 = 11 := by simp [NetS.deliverE, hr', hc', hat]
    exact ⟨by simp [DV, NetS.deliverT, hE], by rw [NetS.deliver, if_neg (by simp [hE])]⟩

def EmpRel (p : Nat) (ρ : Roles) (S : NetS) (a b : Int) (w0 : World) (k : Nat) (v : Value) (wr : World) : Prop :=
  k ≤ (S.q a b).length ∧ ∃ ρ', NetAt wr p ρ' (S.setq a b ((S.q a b).drop k)) ∧ Fr (Fp ρ) w0 wr ∧ Grows w0 ρ ρ' ∧ Strs wr w0.heap.size ρ' v ((S.q a b).take k)

theorem NetAt.lt {w : World} {p : Nat} {ρ : Roles} {S : NetS} (h : NetAt w p ρ S) : ∀ r, ρ r ≠ none → r < w.heap.size := by
  obtain ⟨mq, mc, f, g, h⟩ := h; exact h.lt

theorem Strs.fr {w w' : World} {B : Nat} {ρ ρ' : Roles} {v : Value} {xs : List ByteArray} (h : Strs w B ρ v xs) (hf : Fr (Fp ρ) w w') (hg : Grows w ρ ρ') : Strs w' B ρ' v xs := by
  have hlt : ∀ k, v.ownBlock = some k → k < w.heap.size := fun k hk => (h.own.lt k hk).2
  refine ⟨ownsRow_of_blk h.own fun k hk => hf.blk k (hlt k hk) (by simp [h.no k hk]), fun k hk => ?_⟩
  have h1 := h.no k hk
  cases h2 : ρ' k with
  | none => rfl
  | some x => exact absurd h1 (hg k (hlt k hk) (by rw [h2]; simp))

theorem emp_step {p : Nat} {ρ : Roles} {S : NetS} {a b : Int} {w0 wr w2 w3 : World} {k : Nat} {v v' : Value} {e : Ending} {x : Value} (hk : k < (S.q a b).length) (h : EmpRel p ρ S a b w0 k v wr)
    (ρr : Roles) (hρ : Fr (Fp ρ) w0 wr ∧ Grows w0 ρ ρr ∧ Strs wr w0.heap.size ρr v ((S.q a b).take k)) (hp : NPost p ρr (S.setq a b ((S.q a b).drop (k + 1))) x wr e w2)
    (hown : w3.ownsRow w0.heap.size 9 1 v' (k + 1) (((S.q a b).take k).map Value.string ++ [.string (S.q a b)[k]])) (hgrow : (w2.alloc (.cells #[.string (S.q a b)[k]] 9)).grownBy w3 v.ownBlock)
    (hloc : v'.ownBlock = v.ownBlock ∨ v'.ownBlock = some (w2.alloc (.cells #[.string (S.q a b)[k]] 9)).heap.size) : EmpRel p ρ S a b w0 (k + 1) v' w3 := by
  obtain ⟨_, ρ2, h1, h2, h3⟩ := hp
  obtain ⟨hf0, hg0, hs0⟩ := hρ
  have hs2 := hs0.fr h2 h3
  have hvlt : ∀ j, v.ownBlock = some j → w0.heap.size ≤ j ∧ j < w2.heap.size := fun j hj => hs2.own.lt j hj
  have hF : Fr (fun r => v.ownBlock = some r) w2 w3 := ((Fr.refl _ w2).alloc _).grown hgrow (fun j hj _ => hj)
  refine ⟨by omega, ρ2, h1.fr hF (fun r hr e => hr (hs2.no r e)), ?_, hg0.trans hf0.size h3, ?_, ?_⟩
  · exact (fr_trans_grows hf0 hg0 h2).trans' hF (fun r hr e => by have := (hvlt r e).1; omega)
  · have e1 : ((S.q a b).take (k + 1)) = (S.q a b).take k ++ [(S.q a b)[k]] := by rw [List.take_succ_eq_append_getElem hk]
    have e2 : ((S.q a b).take (k + 1)).length = k + 1 := by simp; omega
    rw [e2, e1, List.map_append]; exact hown
  · intro j hj
    rcases hloc with e | e
    · exact hs2.no j (e ▸ hj)
    · rw [hj] at e
      simp at e
      cases h4 : ρ2 j with
      | none => rfl
      | some y => have := h1.lt j (by rw [h4]; simp); omega

def EmpPost (p : Nat) (ρ : Roles) (S' : NetS) (xs : List ByteArray) (w : World) (e : Ending) (w' : World) : Prop :=
  ∃ v ρ', e = .returned v ∧ NetAt w' p ρ' S' ∧ Fr (Fp ρ) w w' ∧ Grows w ρ ρ' ∧ Strs w' w.heap.size ρ' v xs

set_option maxHeartbeats 1000000 in
theorem emptied_calls {p : Nat} {ρ : Roles} {S : NetS} {w : World} (h : NetAt w p ρ S) (a b : Int) :
    Calls Try.prog 33 #[.pointer (some ⟨p, 0, none⟩), .int .i64 a, .int .i64 b] w (EmpPost p ρ (emptyS S a b) (emptyQ S a b) w) := by
  by_cases hl : S.live a b
  · obtain ⟨i0, hi0, hz0, hz1, hz2⟩ := info_parts info9
    have hfin : Hid (∀ k v wr, EmpRel p ρ S a b w k v wr → (k = 110 ∨ k = (S.q a b).length ∧ k ≤ 110) → EmpPost p ρ (emptyS S a b) (emptyQ S a b) w (.returned v) wr) := by
      rintro k v wr ⟨hk, ρ', h1, h2, h3, h4⟩ hk2
      rw [emptyS, if_pos hl, emptyQ, if_pos hl]
      have e1 : (S.q a b).take 110 = (S.q a b).take k := by
        rcases hk2 with rfl | ⟨rfl, h⟩
        · rfl
        · rw [List.take_of_length_le (by omega), List.take_of_length_le (by omega)]
      have e2 : (S.q a b).drop 110 = (S.q a b).drop k := by
        rcases hk2 with rfl | ⟨rfl, h⟩
        · rfl
        · rw [List.drop_of_length_le (by omega), List.drop_of_length_le (by omega)]
      rw [e1, e2]
      exact ⟨v, ρ', rfl, h1, h2, h3, h4⟩
    have hstart : Hid (EmpRel p ρ S a b w 0 (.slice none 0 0) w) := by
      refine ⟨Nat.zero_le _, ρ, ?_, Fr.refl _ _, fun _ _ => id, World.ownsRow_nil _ _ _ _, by simp [Value.ownBlock]⟩
      rw [List.drop_zero, NetS.setq_q]; exact h
    clear h
    go_enter Try.func33, Try.ntmps33
    go_wp2
    go_loopw [7, 8] (fun v i wr => ∃ k : Nat, k ≤ 110 ∧ i = .int .i64 k ∧ EmpRel p ρ S a b w k v wr) (fun _ i _ => 110 - (intOf i).toNat)
    case atStart => exact ⟨0, by omega, rfl, hstart.out⟩
    case round =>
      obtain ⟨k, hk, rfl, hrel⟩ := hrel
      by_cases hlt : k < 110
      · obtain ⟨hkl, ρr, hn, hf0, hg0, hs0⟩ := id hrel
        obtain ⟨hyes, hno⟩ := deliver_front S a b hl k
        by_cases hin : k < (S.q a b).length
        · obtain ⟨e1, e2⟩ := hyes hin
          have hstep := Lib.hid (fun (w2 w3 : World) (v' : Value) (e : Ending) (x : Value) => @emp_step p ρ S a b w _ w2 w3 k _ v' e x hin hrel ρr ⟨hf0, hg0, hs0⟩)
          obtain ⟨t, ht⟩ : ∃ t, t = (S.q a b)[k] := ⟨_, rfl⟩
          rw [← ht] at hstep e1
          have hD := deliver_calls hn a b 0 false
          rw [e1, e2] at hD
          have HD := Lib.hid hD
          have hlen : ((S.q a b).take k).length = k := by simp; omega
          have Hs := Lib.hid hs0
          have hBs := hf0.size
          clear hyes hno e1 e2 hD hn hf0 hg0 hs0 hrel ht
          go_wp2_with fail
          refine HD.out.mono ?_
          rintro e w2 hw2
          obtain rfl := hw2.1
          obtain ⟨_, ρ2, h1, h2, h3⟩ := id hw2
          have ho := (Hs.out.fr h2 h3).own
          rw [hlen] at ho
          have hB2 : w.heap.size ≤ w2.heap.size := Nat.le_trans hBs h2.size
          clear h1 h2 h3
          have Hw2 := Lib.hid hw2
          clear hw2 hlen
          go_wp2_with (at_builtin; refine wpList_append_own_at _ rfl _ _ 46 rfl w.heap.size 9 i0 (.string ByteArray.empty) 1 16 Try.underlying46 hi0 hz0 hz1 hz2 rfl (by decide) _ _ _ rfl (ho.alloc _) ⟨_, 0, none⟩ 1 1 [.string t] rfl rfl (cell_one_new _ _ _) (by simp [Value.oneCell']) (by unfold maxLen; omega) (by omega) (by simp; omega) ?_; intro v' w3 hown3 hgrow3 hnil3 hloc3; have hnew := Lib.hid (hstep.out _ _ _ _ _ Hw2.out hown3 hgrow3 hloc3); clear hown3 hgrow3 hnil3 hloc3)
          go_roundw
          case rel => exact ⟨k + 1, by omega, by go_num, hnew.out⟩
          case measure => simp [intOf]; omega
        · obtain ⟨e1, e2⟩ := hno hin
          have hD := deliver_calls hn a b 0 false
          rw [e1, e2] at hD
          have HD := Lib.hid hD
          have HF := Lib.hid (fun (w2 : World) (e : Ending) (x : Value) (hp : NPost p ρr (S.setq a b ((S.q a b).drop k)) x _ e w2) => (show EmpPost p ρ (emptyS S a b) (emptyQ S a b) w (.returned _) w2 from by
            obtain ⟨_, ρ2, h1, h2, h3⟩ := hp
            exact hfin.out k _ w2 ⟨hrel.1, ρ2, h1, fr_trans_grows hf0 hg0 h2, hg0.trans hf0.size h3, hs0.fr h2 h3⟩ (.inr ⟨by have := hrel.1; omega, hk⟩)))
          clear hyes hno e1 e2 hD hn hf0 hg0 hs0 hrel
          go_wp2_with fail
          refine HD.out.mono ?_
          rintro e w2 hw2
          obtain rfl := hw2.1
          have HF2 := Lib.hid (HF.out _ _ _ hw2)
          clear hw2
          go_wp2
          go_ret
          exact HF2.out
      · have hk' : k = 110 := by omega
        have HF := Lib.hid (hfin.out k _ _ hrel (.inl hk'))
        clear hk'
        go_wp2
        go_ret
        exact HF.out
  · have hno : (∃ E : Int, E ≠ 0 ∧ DV S a b 0 = .tuple #[.string ByteArray.empty, .int .i64 E]) ∧ S.deliver a b 0 false = S := by
      have hE : S.deliverE a b 0 ≠ 0 := by
        by_cases hr : S.right a b
        · have hc : S.cut a b = true := by
            cases h : S.cut a b
            · exact absurd ⟨hr, h⟩ hl
            · rfl
          simp [NetS.deliverE, hr, hc]
        · simp [NetS.deliverE, hr]
      exact ⟨⟨_, hE, by simp [DV, NetS.deliverT, hE]⟩, by rw [NetS.deliver, if_neg (by simp [hE])]⟩
    obtain ⟨⟨E, hE, e1⟩, e2⟩ := hno
    have hD := deliver_calls h a b 0 false
    rw [e1, e2] at hD
    have HD := Lib.hid hD
    have HF := Lib.hid (fun (w2 : World) (e : Ending) (x : Value) (hp : NPost p ρ S x w e w2) => (show EmpPost p ρ (emptyS S a b) (emptyQ S a b) w (.returned (.slice none 0 0)) w2 from by
      obtain ⟨_, ρ2, h1, h2, h3⟩ := hp
      rw [emptyS, if_neg hl, emptyQ, if_neg hl]
      exact ⟨_, ρ2, rfl, h1, h2, h3, World.ownsRow_nil _ _ _ _, by simp [Value.ownBlock]⟩))
    have hE' : (E != 0) = true := by simpa using hE
    clear h hD e1 e2 hE
    go_enter Try.func33, Try.ntmps33
    go_wp2
    go_loopw [7, 8] (fun v i wr => i = .int .i64 0 ∧ v = .slice none 0 0 ∧ wr = w) (fun _ _ _ => 0)
    case atStart => exact ⟨rfl, rfl, rfl⟩
    case round =>
      obtain ⟨rfl, rfl, rfl⟩ := hrel
      go_wp2_with fail
      refine HD.out.mono ?_
      rintro e w2 hw2
      obtain rfl := hw2.1
      have HF2 := Lib.hid (HF.out _ _ _ hw2)
      clear hw2
      go_wp2
      go_ret
      exact HF2.out
end Go.Proofs.Ytheogcihnclehaa
