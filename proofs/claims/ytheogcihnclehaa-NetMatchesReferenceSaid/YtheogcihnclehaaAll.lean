/- all. -/
import Derived.Test.YtheogcihnclehaaEmp
namespace Go.Proofs.Ytheogcihnclehaa
open Go.RowKit Go.Pl Go.WideMaps

def cutS (S : NetS) (a b : Int) : NetS := if a ≠ b then S.cutOff a b false else S
def allS (S : NetS) : Nat → NetS
  | 0 => S
  | t + 1 => emptyS (cutS (allS S t) (t / 3 : Nat) (t % 3 : Nat)) (t / 3 : Nat) (t % 3 : Nat)
def allQ (S : NetS) : Nat → List (List ByteArray)
  | 0 => []
  | t + 1 => allQ S t ++ [emptyQ (cutS (allS S t) (t / 3 : Nat) (t % 3 : Nat)) (t / 3 : Nat) (t % 3 : Nat)]
theorem allQ_length (S : NetS) : ∀ t, (allQ S t).length = t
  | 0 => rfl
  | t + 1 => by simp [allQ, allQ_length S t]

structure Lists (w : World) (B : Nat) (ρ : Roles) (v : Value) (vals : List Value) (lls : List (List ByteArray)) : Prop where
  own : w.ownsRow B 46 1 v lls.length vals
  len : vals.length = lls.length
  at_ : ∀ (i : Nat) (x : Value) (l : List ByteArray), vals[i]? = some x → lls[i]? = some l → Strs w B ρ x l
  no : ∀ k, v.ownBlock = some k → ρ k = none

theorem Strs.apart {w : World} {B B' : Nat} {ρ : Roles} {x v : Value} {l : List ByteArray} {n : Nat} {xs : List Value} (h : Strs w B ρ x l) (h2 : w.ownsRow B' 46 1 v n xs) : ∀ k, x.ownBlock = some k → v.ownBlock ≠ some k := by
  intro k hk e
  rcases h.own.2 with ⟨h1, _⟩ | ⟨g, cap, cur, h1, _, h3, _⟩
  · rw [h1] at hk; simp [Value.ownBlock] at hk
  · rcases h2.2 with ⟨h4, _⟩ | ⟨g', cap', cur', h4, _, h5, _⟩
    · rw [h4] at e; simp [Value.ownBlock] at e
    · rw [h1] at hk; rw [h4] at e
      simp [Value.ownBlock] at hk e
      subst hk; subst e
      rw [h3] at h5; simp at h5
theorem ownsRow_base {w : World} {B B' e size : Nat} {v : Value} {n : Nat} {xs : List Value} (h : w.ownsRow B e size v n xs) (hb : B' ≤ B) : w.ownsRow B' e size v n xs := by
  refine ⟨h.1, ?_⟩
  rcases h.2 with hn | ⟨g, cap, cur, h1, h2, r⟩
  · exact .inl hn
  · exact .inr ⟨g, cap, cur, h1, Nat.le_trans hb h2, r⟩

theorem Lists.fr {w w' : World} {B : Nat} {ρ ρ' : Roles} {v : Value} {vals : List Value} {lls : List (List ByteArray)} (h : Lists w B ρ v vals lls) (hf : Fr (Fp ρ) w w') (hg : Grows w ρ ρ') : Lists w' B ρ' v vals lls := by
  have hlt : ∀ k, v.ownBlock = some k → k < w.heap.size := fun k hk => (h.own.lt k hk).2
  refine ⟨ownsRow_of_blk h.own fun k hk => hf.blk k (hlt k hk) (by simp [h.no k hk]), h.len, fun i x l h1 h2 => (h.at_ i x l h1 h2).fr hf hg, fun k hk => ?_⟩
  have h1 := h.no k hk
  cases h2 : ρ' k with
  | none => rfl
  | some x => exact absurd h1 (hg k (hlt k hk) (by rw [h2]; simp))

theorem Lists.push {w w' : World} {B : Nat} {ρ : Roles} {v v' x : Value} {vals : List Value} {lls : List (List ByteArray)} {l : List ByteArray} (h : Lists w B ρ v vals lls) (hx : Strs w B ρ x l) (hlt : ∀ r, ρ r ≠ none → r < w.heap.size)
    (hown : w'.ownsRow B 46 1 v' (lls.length + 1) (vals ++ [x])) (hgrow : (w.alloc (.cells #[x] 46)).grownBy w' v.ownBlock) (hloc : v'.ownBlock = v.ownBlock ∨ v'.ownBlock = some (w.alloc (.cells #[x] 46)).heap.size) :
    Lists w' B ρ v' (vals ++ [x]) (lls ++ [l]) := by
  have hF : Fr (fun r => v.ownBlock = some r) w w' := ((Fr.refl _ w).alloc _).grown hgrow (fun j hj _ => hj)
  have hstay : ∀ {y : Value} {m : List ByteArray}, Strs w B ρ y m → Strs w' B ρ y m := fun hy =>
    ⟨ownsRow_of_blk hy.own fun k hk => hF.blk k (hy.own.lt k hk).2 (hy.apart h.own k hk), hy.no⟩
  refine ⟨by rw [List.length_append]; exact hown, by simp [h.len], fun i y m h1 h2 => ?_, fun k hk => ?_⟩
  · rw [List.getElem?_append] at h1 h2
    rw [h.len] at h1
    split at h1
    · rename_i hi
      rw [if_pos hi] at h2
      exact hstay (h.at_ i y m h1 h2)
    · rename_i hi
      rw [if_neg hi] at h2
      have h0 : i - lls.length = 0 := by
        have := (List.getElem?_eq_some_iff.1 h1).1
        simpa using this
      rw [h0] at h1 h2
      simp at h1 h2
      subst h1; subst h2
      exact hstay hx
  · rcases hloc with e | e
    · exact h.no k (e ▸ hk)
    · rw [hk] at e
      simp at e
      cases h4 : ρ k with
      | none => rfl
      | some y => have := hlt k (by rw [h4]; simp); omega

def AllRel (p : Nat) (ρ : Roles) (S : NetS) (w0 : World) (t : Nat) (v : Value) (wr : World) : Prop :=
  ∃ ρ' vals, NetAt wr p ρ' (allS S t) ∧ Fr (Fp ρ) w0 wr ∧ Grows w0 ρ ρ' ∧ Lists wr w0.heap.size ρ' v vals (allQ S t)

def AllPost (p : Nat) (ρ : Roles) (S : NetS) (w : World) (e : Ending) (w' : World) : Prop := ∃ v, e = .returned v ∧ AllRel p ρ S w 9 v w'

theorem all_cut {p : Nat} {ρ ρ1 : Roles} {S1 : NetS} {w0 w1 w2 : World} {x v : Value} {e : Ending} {vals lls} (hf : Fr (Fp ρ) w0 w1) (hg : Grows w0 ρ ρ1) (hl : Lists w1 w0.heap.size ρ1 v vals lls) (hp : NPost p ρ1 S1 x w1 e w2) :
    ∃ ρ2, NetAt w2 p ρ2 S1 ∧ Fr (Fp ρ) w0 w2 ∧ Grows w0 ρ ρ2 ∧ Lists w2 w0.heap.size ρ2 v vals lls := by
  obtain ⟨_, ρ2, h1, h2, h3⟩ := hp
  exact ⟨ρ2, h1, fr_trans_grows hf hg h2, hg.trans hf.size h3, hl.fr h2 h3⟩
theorem all_emp {p : Nat} {ρ ρ1 : Roles} {S1 : NetS} {w0 w1 w2 : World} {v : Value} {e : Ending} {vals lls l} (hf : Fr (Fp ρ) w0 w1) (hg : Grows w0 ρ ρ1) (hl : Lists w1 w0.heap.size ρ1 v vals lls) (hp : EmpPost p ρ1 S1 l w1 e w2) :
    ∃ x ρ2, e = .returned x ∧ NetAt w2 p ρ2 S1 ∧ Fr (Fp ρ) w0 w2 ∧ Grows w0 ρ ρ2 ∧ Lists w2 w0.heap.size ρ2 v vals lls ∧ Strs w2 w0.heap.size ρ2 x l := by
  obtain ⟨x, ρ2, he, h1, h2, h3, h4⟩ := hp
  exact ⟨x, ρ2, he, h1, fr_trans_grows hf hg h2, hg.trans hf.size h3, hl.fr h2 h3, ownsRow_base h4.own hf.size, h4.no⟩
theorem all_app {p : Nat} {ρ ρ1 : Roles} {S1 : NetS} {w0 w1 w2 : World} {v v' x : Value} {vals lls l} (hn : NetAt w1 p ρ1 S1) (hf : Fr (Fp ρ) w0 w1) (hg : Grows w0 ρ ρ1) (hl : Lists w1 w0.heap.size ρ1 v vals lls) (hx : Strs w1 w0.heap.size ρ1 x l)
    (hown : w2.ownsRow w0.heap.size 46 1 v' (lls.length + 1) (vals ++ [x])) (hgrow : (w1.alloc (.cells #[x] 46)).grownBy w2 v.ownBlock) (hloc : v'.ownBlock = v.ownBlock ∨ v'.ownBlock = some (w1.alloc (.cells #[x] 46)).heap.size) :
    NetAt w2 p ρ1 S1 ∧ Fr (Fp ρ) w0 w2 ∧ Lists w2 w0.heap.size ρ1 v' (vals ++ [x]) (lls ++ [l]) := by
  have hF : Fr (fun r => v.ownBlock = some r) w1 w2 := ((Fr.refl _ w1).alloc _).grown hgrow (fun j hj _ => hj)
  exact ⟨hn.fr hF (fun r hr e => hr (hl.no r e)), hf.trans' hF (fun r hr e => by have := (hl.own.lt r e).1; omega), hl.push hx hn.lt hown hgrow hloc⟩

def EmpStep (p : Nat) (ρ : Roles) (S : NetS) (w : World) (i j : Nat) (v : Value) (vals : List Value) (e : Ending) (w2 : World) : Prop :=
  ∃ sa n c, e = .returned (.slice sa n c) ∧ w2.ownsRow w.heap.size 46 1 v (3 * i + j) vals ∧ w.heap.size ≤ w2.heap.size ∧
    ∀ v' w3, w3.ownsRow w.heap.size 46 1 v' (3 * i + j + 1) (vals ++ [.slice sa n c]) → (w2.alloc (.cells #[.slice sa n c] 46)).grownBy w3 v.ownBlock → (v'.ownBlock = v.ownBlock ∨ v'.ownBlock = some (w2.alloc (.cells #[.slice sa n c] 46)).heap.size) → AllRel p ρ S w (3 * i + (j + 1)) v' w3
theorem emp_then {p : Nat} {ρ : Roles} {S : NetS} {w w1 : World} {ρ1 : Roles} {i j : Nat} (hj : j < 3) {v : Value} {vals : List Value} (hn : NetAt w1 p ρ1 (cutS (allS S (3 * i + j)) i j)) (hf : Fr (Fp ρ) w w1) (hg : Grows w ρ ρ1) (hl : Lists w1 w.heap.size ρ1 v vals (allQ S (3 * i + j))) :
    Calls Try.prog 33 #[.pointer (some ⟨p, 0, none⟩), .int .i64 i, .int .i64 j] w1 (EmpStep p ρ S w i j v vals) := by
  have ed : (3 * i + j) / 3 = i ∧ (3 * i + j) % 3 = j := by omega
  refine (emptied_calls hn i j).mono fun e w2 hp => ?_
  obtain ⟨x, ρ2, he, h1, h2, h3, h4, h5⟩ := all_emp hf hg hl hp
  obtain ⟨sa, c, rfl⟩ := ownsRow_slice h5.own
  refine ⟨sa, _, c, he, by have := h4.own; rwa [allQ_length] at this, h2.size, fun v' w3 hown hgrow hloc => ?_⟩
  · obtain ⟨g1, g2, g3⟩ := all_app h1 h2 h3 h4 h5 (by rw [allQ_length]; exact hown) hgrow hloc
    have e1 : allS S (3 * i + (j + 1)) = emptyS (cutS (allS S (3 * i + j)) i j) i j := by rw [show 3 * i + (j + 1) = (3 * i + j) + 1 from by omega, allS, ed.1, ed.2]
    have e2 : allQ S (3 * i + (j + 1)) = allQ S (3 * i + j) ++ [emptyQ (cutS (allS S (3 * i + j)) i j) i j] := by rw [show 3 * i + (j + 1) = (3 * i + j) + 1 from by omega, allQ, ed.1, ed.2]
    unfold AllRel
    rw [e1, e2]
    exact ⟨ρ2, _, g1, g2, h3, g3⟩

set_option maxHeartbeats 2000000 in
theorem all_calls {p : Nat} {ρ : Roles} {S : NetS} {w : World} (h : NetAt w p ρ S) :
    Calls Try.prog 19 #[.pointer (some ⟨p, 0, none⟩)] w (AllPost p ρ S w) := by
  obtain ⟨i0, hi0, hz0, hz1, hz2⟩ := info_parts info46
  have hstart : Hid (AllRel p ρ S w (3 * 0) (.slice none 0 0) w) := ⟨ρ, [], h, Fr.refl _ _, fun _ _ => id, World.ownsRow_nil _ _ _ _, rfl, by simp, by simp [Value.ownBlock]⟩
  clear h
  go_enter Try.func19, Try.ntmps19
  go_wp2
  go_loopw [3, 4] (fun v a wr => ∃ i : Nat, i ≤ 3 ∧ a = .int .i64 i ∧ Hid (AllRel p ρ S w (3 * i) v wr)) (fun _ a _ => 3 - (intOf a).toNat)
  case atStart => exact ⟨0, by omega, rfl, hstart⟩
  case round =>
    clear hstart
    obtain ⟨i, hi, rfl, hrel0⟩ := hrel
    by_cases hlt : i < 3
    · obtain ⟨wo, rfl⟩ : ∃ wo : World, wo = wr := ⟨_, rfl⟩
      have hd : decide ((i : Int) < 3) = true := by simp; omega
      go_wp2
      go_loopw [3, 5] (fun v b wr => ∃ j : Nat, j ≤ 3 ∧ b = .int .i64 j ∧ Hid (AllRel p ρ S w (3 * i + j) v wr)) (fun _ b _ => 3 - (intOf b).toNat)
      case atStart => exact ⟨0, by omega, rfl, hrel0⟩
      case round =>
        clear hrel0
        obtain ⟨j, hj, rfl, hrel1⟩ := hrel
        by_cases hltj : j < 3
        · obtain ⟨ρ1, vals, hn, hf, hg, hl⟩ := hrel1.out
          have hcut := Lib.hid (fun w1 ρ1 v vals => @emp_then p ρ S w w1 ρ1 i j hltj v vals)
          by_cases hij : i = j
          · have hC := Lib.hid (hcut.out _ ρ1 _ vals (by rw [cutS, if_neg (by omega)]; exact hn) hf hg hl)
            have hb : ((i : Int) != (j : Int)) = false := by simp; omega
            clear hcut hn hf hg hl hrel1 hij
            go_wp2_with fail
            refine hC.out.mono ?_
            rintro e w2 ⟨sx, nx, cx, rfl, ho, hB2, hstep⟩
            have hst := Lib.hid hstep
            clear hstep
            go_wp2_with (at_builtin; refine wpList_append_own_at _ rfl _ _ 47 rfl w.heap.size 46 i0 (.slice none 0 0) 1 24 Try.underlying47 hi0 hz0 hz1 hz2 rfl (by decide) _ _ _ rfl (ho.alloc _) ⟨_, 0, none⟩ 1 1 [.slice sx nx cx] rfl rfl (cell_one_new _ _ _) (by simp [Value.oneCell']) (by unfold maxLen; omega) (by omega) (by simp; omega) ?_; intro v' w3 hown3 hgrow3 hnil3 hloc3; have hnew := Lib.hid (hst.out _ _ hown3 hgrow3 hloc3); clear hown3 hgrow3 hnil3 hloc3)
            go_roundw
            case rel => exact ⟨j + 1, by omega, by go_num, hnew⟩
            case measure => simp [intOf]; omega
          · have hC : Hid (∀ e w2, NPost p ρ1 ((allS S (3 * i + j)).cutOff i j false) (.int .i64 ((allS S (3 * i + j)).cutE i j)) _ e w2 → Calls Try.prog 33 #[.pointer (some ⟨p, 0, none⟩), .int .i64 i, .int .i64 j] w2 (EmpStep p ρ S w i j _ vals)) := fun e w2 hp => by
              obtain ⟨ρ2, h1, h2, h3, h4⟩ := all_cut hf hg hl hp
              exact hcut.out w2 ρ2 _ vals (by rw [cutS, if_pos (by omega)]; exact h1) h2 h3 h4
            have hD := Lib.hid (cut_calls hn i j false)
            have hb : ((i : Int) != (j : Int)) = true := by simp; omega
            clear hcut hn hf hg hl hrel1 hij
            go_wp2_with fail
            refine hD.out.mono ?_
            rintro e w1 hw1
            obtain rfl := hw1.1
            have hE := Lib.hid (hC.out _ _ hw1)
            clear hw1
            go_wp2_with fail
            refine hE.out.mono ?_
            rintro e w2 ⟨sx, nx, cx, rfl, ho, hB2, hstep⟩
            have hst := Lib.hid hstep
            clear hstep
            go_wp2_with (at_builtin; refine wpList_append_own_at _ rfl _ _ 47 rfl w.heap.size 46 i0 (.slice none 0 0) 1 24 Try.underlying47 hi0 hz0 hz1 hz2 rfl (by decide) _ _ _ rfl (ho.alloc _) ⟨_, 0, none⟩ 1 1 [.slice sx nx cx] rfl rfl (cell_one_new _ _ _) (by simp [Value.oneCell']) (by unfold maxLen; omega) (by omega) (by simp; omega) ?_; intro v' w3 hown3 hgrow3 hnil3 hloc3; have hnew := Lib.hid (hst.out _ _ hown3 hgrow3 hloc3); clear hown3 hgrow3 hnil3 hloc3)
            go_roundw
            case rel => exact ⟨j + 1, by omega, by go_num, hnew⟩
            case measure => simp [intOf]; omega
        · have hj3 : j = 3 := by omega
          have hnew0 := hrel1.out
          rw [hj3, show 3 * i + 3 = 3 * (i + 1) from by omega] at hnew0
          have hnew := Lib.hid hnew0
          clear hnew0
          clear hrel1 hj3
          go_wp2
          go_roundw
          case rel => exact ⟨i + 1, by omega, by go_num, hnew⟩
          case measure => simp [intOf]; omega
    · have hi3 : i = 3 := by omega
      have hnew0 := hrel0.out
      rw [hi3] at hnew0
      have hnew := Lib.hid hnew0
      clear hnew0
      clear hrel0 hi3
      go_wp2
      go_ret
      exact ⟨_, rfl, hnew.out⟩
end Go.Proofs.Ytheogcihnclehaa
