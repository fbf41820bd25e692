/- same; what all returns of a network of three nodes. -/
import Derived.Test.YtheogcihnclehaaAll
namespace Go.Proofs.Ytheogcihnclehaa
open Go.RowKit Go.Pl Go.WideMaps

theorem emptyS_nodes (S : NetS) (a b : Int) : (emptyS S a b).nodes = S.nodes := by unfold emptyS; split <;> rfl
theorem cutS_nodes (S : NetS) (a b : Int) : (cutS S a b).nodes = S.nodes := by unfold cutS NetS.cutOff; (repeat' split) <;> rfl
theorem cutS_q (S : NetS) (a b : Int) : (cutS S a b).q = S.q := by unfold cutS NetS.cutOff; (repeat' split) <;> rfl
theorem emptyS_q (S : NetS) (a b c d : Int) (h : ¬ (c = a ∧ d = b)) : (emptyS S a b).q c d = S.q c d := by
  unfold emptyS; split
  · simp [NetS.setq, h]
  · rfl
theorem allS_nodes (S : NetS) : ∀ t, (allS S t).nodes = S.nodes
  | 0 => rfl
  | t + 1 => by rw [allS, emptyS_nodes, cutS_nodes, allS_nodes S t]
theorem allS_q (S : NetS) (c d : Nat) (hd : d < 3) : ∀ t, t ≤ 3 * c + d → (allS S t).q c d = S.q c d
  | 0, _ => rfl
  | t + 1, h => by
    rw [allS, emptyS_q _ _ _ _ _ (by omega), cutS_q, allS_q S c d hd t (by omega)]
def outQ (S : NetS) (t : Nat) : List ByteArray := if t / 3 = t % 3 then [] else (S.q (t / 3 : Nat) (t % 3 : Nat)).take 110
theorem allQ_eq (S : NetS) (h3 : S.nodes = 3) : ∀ t, t ≤ 9 → allQ S t = (List.range t).map (outQ S)
  | 0, _ => rfl
  | t + 1, h => by
    rw [allQ, allQ_eq S h3 t (by omega), List.range_succ, List.map_append, List.map_singleton]
    congr 2
    unfold outQ emptyQ
    by_cases he : t / 3 = t % 3
    · rw [if_pos he, if_neg]
      rintro ⟨⟨_, _, _, _, h5⟩, _⟩
      omega
    · rw [if_neg he, if_pos, cutS_q, allS_q S _ _ (by omega) t (by omega)]
      have hr : (allS S t).right (t / 3 : Nat) (t % 3 : Nat) := ⟨by omega, by omega, by rw [allS_nodes, h3]; omega, by rw [allS_nodes, h3]; omega, by omega⟩
      refine ⟨?_, ?_⟩
      · have : (cutS (allS S t) (t / 3 : Nat) (t % 3 : Nat)).nodes = (allS S t).nodes := cutS_nodes _ _ _
        unfold NetS.right at hr ⊢
        rw [this]; exact hr
      · rw [cutS, if_pos (by omega), NetS.cutOff, if_pos hr]; simp

/-- v reads as the list xs of strings. -/
structure Rd (w : World) (v : Value) (xs : List ByteArray) : Prop where
  ex : (v = .slice none 0 0 ∧ xs = []) ∨ ∃ g cap, v = .slice (some ⟨g, 0, none⟩) xs.length cap ∧ ∀ (i : Nat) (s : ByteArray), xs[i]? = some s → w.cell? ⟨g, i, none⟩ = some (.string s)
  le : xs.length ≤ 9223372036854775807
theorem Rd.fr {w w' : World} {v : Value} {xs : List ByteArray} (h : Rd w v xs) {F : Nat → Prop} (hf : Fr F w w') (hn : ∀ k, v.ownBlock = some k → ¬ F k) : Rd w' v xs := by
  refine ⟨h.ex.imp id ?_, h.le⟩
  rintro ⟨g, cap, rfl, hc⟩
  exact ⟨g, cap, rfl, fun i s hs => hf.cell (hc i s hs) (hn g rfl)⟩
theorem Strs.rd {w : World} {B : Nat} {ρ : Roles} {v : Value} {xs : List ByteArray} (h : Strs w B ρ v xs) : Rd w v xs := by
  rcases h.own.2 with ⟨h1, h2⟩ | ⟨g, cap, cur, h1, h2, h3, h4, h5, h6, h7⟩
  · exact ⟨.inl ⟨h1, List.eq_nil_of_length_eq_zero h2⟩, by omega⟩
  · refine ⟨.inr ⟨g, cap, h1, fun i s hs => ?_⟩, by unfold maxLen at h5; omega⟩
    have hi := (List.getElem?_eq_some_iff.1 hs).1
    have := congrArg (·[i]?) h7
    simp only [List.getElem?_take, Nat.mul_one, hi, if_true, List.getElem?_map, hs] at this
    rw [cell_of_blk h3, ← Array.getElem?_toList, this]; rfl

/-- A row of slices of strings, that is not empty. -/
structure Rds (w : World) (g : Nat) (lls : List (List ByteArray)) : Prop where
  at_ : ∀ (i : Nat) (l : List ByteArray), lls[i]? = some l → ∃ x, w.cell? ⟨g, i, none⟩ = some x ∧ Rd w x l
  le : lls.length ≤ 9223372036854775807

def SamePost (a b : List (List ByteArray)) (w : World) (e : Ending) (w' : World) : Prop := e = .returned (.bool (decide (a = b))) ∧ Fr (fun _ => False) w w'
theorem ret_bool {x y : Bool} (h : x = y) : Ending.returned (.bool x) = .returned (.bool y) := by rw [h]

theorem take_snoc_eq {α : Type} {a b : List α} {k : Nat} {x : α} (h : a.take k = b.take k) (ha : a[k]? = some x) (hb : b[k]? = some x) : a.take (k + 1) = b.take (k + 1) := by
  rw [List.take_add_one, List.take_add_one, h, ha, hb]

set_option maxHeartbeats 2000000 in
theorem same_calls (g1 g2 c1 c2 : Nat) (a b : List (List ByteArray)) (w : World) (ha : Rds w g1 a) (hb : Rds w g2 b) (hlen : a.length = b.length) :
    Calls Try.prog 20 #[.slice (some ⟨g1, 0, none⟩) a.length c1, .slice (some ⟨g2, 0, none⟩) a.length c2] w (SamePost a b w) := by
  obtain ⟨n, hn⟩ : ∃ n, n = a.length := ⟨_, rfl⟩
  have hN := Lib.hid hn
  have hN2 := Lib.hid (hn.trans hlen)
  have hnm : n ≤ 9223372036854775807 := by rw [hn]; exact ha.le
  rw [← hn]
  have HA := Lib.hid ha
  have HB := Lib.hid hb
  clear hn ha hb hlen
  go_enter Try.func20, Try.ntmps20
  go_wp2
  go_loopw [5] (fun i wr => ∃ k : Nat, k ≤ n ∧ i = .int .i64 k ∧ Hid (a.take k = b.take k) ∧ (∃ q, wr = w.drewN q)) (fun i _ => n - (intOf i).toNat)
  case atStart => exact ⟨0, Nat.zero_le _, rfl, rfl, 0, rfl⟩
  case round =>
    obtain ⟨k, hk, rfl, heq, q, rfl⟩ := hrel
    by_cases hlt : k < n
    · obtain ⟨la, hla⟩ : ∃ l, a[k]? = some l := ⟨_, List.getElem?_eq_getElem (by rw [← hN.out]; exact hlt)⟩
      obtain ⟨lb, hlb⟩ : ∃ l, b[k]? = some l := ⟨_, List.getElem?_eq_getElem (by rw [← hN2.out]; exact hlt)⟩
      obtain ⟨x, hx, hxr⟩ := HA.out.at_ k la hla
      obtain ⟨y, hy, hyr⟩ := HB.out.at_ k lb hlb
      have hneq : la ≠ lb → Hid (SamePost a b w (.returned (.bool false)) w) := fun h => ⟨ret_bool (by
        have : a ≠ b := by rintro rfl; rw [hla] at hlb; cases hlb; exact h rfl
        simp [this]), Fr.refl _ _⟩
      have hHla := Lib.hid hla
      have hHlb := Lib.hid hlb
      have hle1 := hxr.le
      have hle2 := hyr.le
      have hd : decide ((k : Int) < n) = true := by simp; omega
      have hstep : Hid (la = lb → a.take (k + 1) = b.take (k + 1)) := fun h => take_snoc_eq heq.out hla (by rw [h]; exact hlb)
      have hk0 : (0 : Int) ≤ k := by omega
      have hkn : (k : Int) < n := by omega
      clear hla hlb heq
      by_cases hl : la.length = lb.length
      · have hneq' : ∀ (j : Nat) (s t : ByteArray), la[j]? = some s → lb[j]? = some t → s ≠ t → la ≠ lb := fun j s t h1 h2 h3 e => h3 (by rw [e, h2] at h1; cases h1; rfl)
        have heqq : Hid (∀ j : Nat, j = la.length → la.take j = lb.take j → la = lb) := fun j h1 h2 => by
          rw [h1, List.take_length, hl, List.take_length] at h2; exact h2
        have Hneq := Lib.hid hneq
        have Hneq' := Lib.hid hneq'
        obtain ⟨m, hm⟩ : ∃ m, m = la.length := ⟨_, rfl⟩
        have Hm := Lib.hid hm
        have Hm2 := Lib.hid (hm.trans hl)
        rw [← hm] at heqq hle1
        clear hneq hneq' hle2
        rcases hxr.ex with ⟨rfl, rfl⟩ | ⟨gx, cx, rfl, hcx⟩ <;> rcases hyr.ex with ⟨rfl, rfl⟩ | ⟨gy, cy, rfl, hcy⟩
        · clear hl hm hxr hyr
          go_wp2
          go_quiet (fail)
          go_wp2
          go_loopw [6] (fun j wr => j = .int .i64 0 ∧ ∃ q, wr = w.drewN q) (fun _ _ => 0)
          case atStart => exact ⟨rfl, _, World.drewN_drewN _ _ _⟩
          case round =>
            obtain ⟨rfl, q', rfl⟩ := hrel
            go_wp2
            go_roundw
            case rel => exact ⟨k + 1, by omega, by go_num, by simpa [Hid] using hstep, _, rfl⟩
            case measure => simp [intOf]; omega
        · have hm0 : m = 0 := by rw [hm]; rfl
          subst hm0
          rw [← hl] at hy
          clear hl hm hxr hyr
          go_wp2
          go_quiet (fail)
          go_wp2
          go_loopw [6] (fun j wr => j = .int .i64 0 ∧ ∃ q, wr = w.drewN q) (fun _ _ => 0)
          case atStart => exact ⟨rfl, _, World.drewN_drewN _ _ _⟩
          case round =>
            obtain ⟨rfl, q', rfl⟩ := hrel
            have hnx := Lib.hid (hstep.out (by rw [List.length_nil] at *; exact (List.eq_nil_of_length_eq_zero (by first | exact Hm2.out.symm | omega)).symm))
            go_wp2
            go_roundw
            case rel => exact ⟨k + 1, by omega, by go_num, hnx, _, rfl⟩
            case measure => simp [intOf]; omega
        · have hl0 : la.length = 0 := by rw [hl]; rfl
          have hm0 : m = 0 := by rw [hm]; exact hl0
          subst hm0
          rw [hl0] at hx
          have hla0 := Lib.hid (List.eq_nil_of_length_eq_zero hl0)
          clear hl hm hxr hyr hl0
          go_wp2
          go_quiet (fail)
          go_wp2
          go_loopw [6] (fun j wr => j = .int .i64 0 ∧ ∃ q, wr = w.drewN q) (fun _ _ => 0)
          case atStart => exact ⟨rfl, _, World.drewN_drewN _ _ _⟩
          case round =>
            obtain ⟨rfl, q', rfl⟩ := hrel
            have hnx := Lib.hid (hstep.out hla0.out)
            go_wp2
            go_roundw
            case rel => exact ⟨k + 1, by omega, by go_num, hnx, _, rfl⟩
            case measure => simp [intOf]; omega
        · rw [← hm] at hx
          rw [← hl, ← hm] at hy
          have HX := Lib.hid hcx
          have HY := Lib.hid hcy
          clear hl hm hxr hyr hcx hcy
          go_wp2
          go_quiet (fail)
          go_wp2
          go_loopw [6] (fun j wr => ∃ i : Nat, i ≤ m ∧ j = .int .i64 i ∧ Hid (la.take i = lb.take i) ∧ ∃ q, wr = w.drewN q) (fun j _ => m - (intOf j).toNat)
          case atStart => exact ⟨0, by omega, rfl, rfl, _, World.drewN_drewN _ _ _⟩
          case round =>
            obtain ⟨i, hi, rfl, htk, q', rfl⟩ := hrel
            by_cases hil : i < m
            · obtain ⟨s, hs⟩ : ∃ s, la[i]? = some s := ⟨_, List.getElem?_eq_getElem (by rw [← Hm.out]; exact hil)⟩
              obtain ⟨t, ht⟩ : ∃ t, lb[i]? = some t := ⟨_, List.getElem?_eq_getElem (by rw [← Hm2.out]; exact hil)⟩
              have c1 := HX.out i s hs
              have c2 := HY.out i t ht
              have hdi : decide ((i : Int) < m) = true := by simp; omega
              have hi0 : (0 : Int) ≤ i := by omega
              have him : (i : Int) < m := by omega
              by_cases hst : s = t
              · subst hst
                have hnx := Lib.hid (take_snoc_eq htk.out hs ht)
                clear hs ht htk
                go_wp2
                go_quiet (fail)
                go_wp2
                go_roundw
                case rel => exact ⟨i + 1, by omega, by go_num, hnx, _, rfl⟩
                case measure => simp [intOf]; omega
              · have hF := Hneq.out (Hneq'.out i s t hs ht hst)
                have hne := bytes_ne.2 hst
                clear hs ht htk hst
                go_wp2
                go_quiet (fail)
                go_wp2
                go_ret
                exact ⟨hF.out.1, by simp⟩
            · have hnx := Lib.hid (hstep.out (heqq.out i (by omega) htk.out))
              go_wp2
              go_roundw
              case rel => exact ⟨k + 1, by omega, by go_num, hnx, _, rfl⟩
              case measure => simp [intOf]; omega
      · have HF := Lib.hid (hneq (fun e => hl (by rw [e])))
        clear hneq hstep
        rcases hxr.ex with ⟨rfl, rfl⟩ | ⟨gx, cx, rfl, hcx⟩ <;> rcases hyr.ex with ⟨rfl, rfl⟩ | ⟨gy, cy, rfl, hcy⟩
        · exact absurd rfl hl
        · have hne : ((0 : Int) != (lb.length : Int)) = true := by simp at hl ⊢; omega
          clear hxr hyr hcy hl
          go_wp2
          go_quiet (fail)
          go_wp2
          go_ret
          exact ⟨HF.out.out.1, by simp⟩
        · have hne : ((la.length : Int) != (0 : Int)) = true := by simp at hl ⊢; omega
          clear hxr hyr hcx hl
          go_wp2
          go_quiet (fail)
          go_wp2
          go_ret
          exact ⟨HF.out.out.1, by simp⟩
        · have hne : ((la.length : Int) != (lb.length : Int)) = true := by simp; omega
          clear hxr hyr hcx hcy hl
          go_wp2
          go_quiet (fail)
          go_wp2
          go_ret
          exact ⟨HF.out.out.1, by simp⟩
    · have hF : Hid (a = b) := by
        have h1 : k = n := by omega
        have := heq.out
        rw [List.take_of_length_le (by rw [← hN.out]; omega), List.take_of_length_le (by rw [← hN2.out]; omega)] at this
        exact this
      clear heq
      go_wp2
      go_ret
      exact ⟨ret_bool (by simp [hF.out]), by simp⟩
end Go.Proofs.Ytheogcihnclehaa
