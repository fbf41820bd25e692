/- LineageJoined returns true for every edits and Ids: what is split and joined again is as it was. -/
import Derived.Test.YtcolfgnjmnapkaaHead
namespace Go.Proofs.Ytcolfgnjmnapkaa
open Go.RowKit Go.Pl

theorem FollowedPost.mine {es : List Edt} {w0 w : World} {e : Ending} {w' : World} (hf : Fr (fun _ => False) w0 w) (h : FollowedPost es w e w') {k : Nat} (hfew : fewE es k = true) :
    ∃ p ρ N S, e = .returned (.pointer (some ⟨p, 0, none⟩)) ∧ Mine w0 w' p N ρ S ∧ N ≤ 1 + 3 * k ∧ Fine S ∧ (∀ r, ρ r ≠ none → w.heap.size ≤ r) ∧ S = runL LinS.new es := by
  obtain ⟨p, ρ, h1, m⟩ := h
  refine ⟨p, ρ, _, _, h1, ⟨m.lin, hf.trans m.fr, fun r hr => Nat.le_trans hf.size (m.fresh r hr)⟩, ?_, Fine.new.run es, m.fresh, rfl⟩
  have : es.length ≤ k := by simp [fewE] at hfew; exact hfew.2
  omega
theorem Mine.now_any {w0 w : World} {p N : Nat} {ρ : Roles} {S : LinS} (m : Mine w0 w p N ρ S) (hN : N ≤ 1000000) {a : ByteArray} (ha : a.size ≤ maxLen) :
    Calls Try.prog 17 #[.pointer (some ⟨p, 0, none⟩), .string a] w fun e w' => ∃ v xs, e = .returned v ∧ Sorted xs ∧ (∀ x, x ∈ xs ↔ S.pt a x = true) ∧ Kp w' ρ v xs ∧ Fr (fun _ => False) w w' ∧ ∀ k, v.ownBlock = some k → w.heap.size ≤ k :=
  (now_calls m.lin hN ha).mono fun _ _ hp => hp.kp m.lin
theorem Mine.then_any {w0 w : World} {p N : Nat} {ρ : Roles} {S : LinS} (m : Mine w0 w p N ρ S) (hN : N ≤ 1000000) {a : ByteArray} (ha : a.size ≤ maxLen) :
    Calls Try.prog 19 #[.pointer (some ⟨p, 0, none⟩), .string a] w fun e w' => ∃ v xs, e = .returned v ∧ Sorted xs ∧ (∀ x, x ∈ xs ↔ S.pt x a = true) ∧ Kp w' ρ v xs ∧ Fr (fun _ => False) w w' ∧ ∀ k, v.ownBlock = some k → w.heap.size ≤ k :=
  (then_calls m.lin hN ha).mono fun _ _ hp => hp.kp m.lin

set_option maxRecDepth 100000 in
set_option maxHeartbeats 8000000 in
theorem joined_walk (sa : Option Addr) (b0 off cap : Nat) (es : List Edt) (w : World) (h : EdtsV w (.slice sa es.length cap) sa b0 off cap es) (a b id : ByteArray) (ha : a.size ≤ maxLen) (hb : b.size ≤ maxLen) (hid : id.size ≤ maxLen) :
    Calls Try.prog 6 #[.slice sa es.length cap, .string a, .string b, .string id] w fun e w' => e = .returned (.bool true) ∧ Fr (fun _ => False) w w' := by
  have hfew := Lib.hid (fun w' hf => few_calls sa b0 off cap es 40 (by omega) w' h.ix (h.at_.fr (F := fun _ => False) (w' := w') hf (by simp)) h.le h.sz)
  have hfol := Lib.hid (fun w' hf => followed_calls sa b0 off cap es w' h.ix (h.at_.fr (F := fun _ => False) (w' := w') hf (by simp)) h.le h.sz)
  have hn := h.le
  generalize es.length = n at *
  clear h
  have sa1 := ha
  have sb1 := hb
  have si1 := hid
  unfold maxLen at sa1 sb1 si1
  go_enter Try.func6, Try.ntmps6
  go_wp2_with fail
  refine (head_calls w).mono ?_
  rintro e w1 ⟨rfl, f1⟩
  go_wp2_with fail
  refine (hfew.out w1 f1).mono ?_
  rintro e w2 ⟨rfl, rfl⟩
  clear hfew
  by_cases hfw : fewE es 40 = true
  · by_cases b1 : 100 < a.size
    · go_wp2
      go_ret
      exact ⟨rfl, f1⟩
    by_cases b2 : 100 < b.size
    · go_wp2
      go_ret
      exact ⟨rfl, f1⟩
    by_cases b3 : 100 < id.size
    · go_wp2
      go_ret
      exact ⟨rfl, f1⟩
    by_cases b4 : id = b
    · have t4 : (id.toList == b.toList) = true := by rw [beq_str]; simpa using b4
      clear b4
      go_wp2
      go_ret
      exact ⟨rfl, f1⟩
    have t4 : (id.toList == b.toList) = false := by rw [beq_str]; simpa using b4
    have hne := Lib.hid b4
    have hfwH := Lib.hid hfw
    clear b4
    go_wp2_with fail
    refine (hfol.out w1 f1).mono ?_
    intro e w3 hp
    obtain ⟨p, ρ, N, S, rfl, m, hN, hfine, _, _⟩ := hp.mine f1 hfwH.out
    have hF := Lib.hid hfine
    clear hp hfol hfine
    go_wp2_with fail
    refine (m.now_any (by omega) hid).mono ?_
    rintro e w4 ⟨v, xs, rfl, hxs, hmem, kp, f4, _⟩
    have hxsH := Lib.hid hxs
    have hmemH := Lib.hid hmem
    have m := m.quiet f4
    clear f4 hxs hmem
    go_wp2_with fail
    refine (split_calls a b _).mono ?_
    rintro e w5 ⟨rfl, f5⟩
    have m := m.quiet f5
    have kp := kp.quiet f5
    clear f5
    go_wp2_with fail
    refine (m.follow (spl a b) (spl_sz ha hb)).mono ?_
    rintro x w6 ⟨rfl, ρ6, m2, f6, g6⟩
    have kp := kp.step f6 g6
    have m := m2
    clear m2 f6 g6
    obtain ⟨E, hE⟩ : ∃ E, E = followE S (spl a b) := ⟨_, rfl⟩
    rw [← hE]
    have hEH := Lib.hid hE
    clear hE
    by_cases hE0 : E = 0
    · subst hE0
      obtain ⟨j1, j2, j3, j4⟩ := joined hF.out hEH.out.symm hne.out
      have j1 := Lib.hid j1
      have j2 := Lib.hid j2
      have j3 := Lib.hid j3
      have j4 := Lib.hid j4
      go_wp2_with fail
      refine (kp.in_ a).mono ?_
      rintro e w7 ⟨rfl, rfl⟩
      go_wp2_with fail
      refine (m.now_any (by omega) hid).mono ?_
      rintro e w8 ⟨v2, ys, rfl, hys, hmem2, kp2, f8, _⟩
      have m := m.quiet f8
      have kp := kp.quiet f8
      have hin : Hid (inB ys b = inB xs a) := inB_eq (by rw [hmem2, hmemH.out]; exact j1.out.symm)
      clear f8 hys hmem2
      go_wp2_with fail
      refine (kp2.in_ b).mono ?_
      rintro e w9 ⟨rfl, rfl⟩
      rw [hin.out]
      clear kp2 hin
      obtain ⟨q, hq⟩ : ∃ q, q = inB xs a := ⟨_, rfl⟩
      rw [← hq]
      have tq : (q != q) = false := by cases q <;> rfl
      clear hq
      go_wp2_with fail
      refine (join_calls a b _).mono ?_
      rintro e w10 ⟨rfl, f10⟩
      have m := m.quiet f10
      have kp := kp.quiet f10
      clear f10
      go_wp2_with fail
      refine (m.follow (joi a b) (joi_sz ha hb)).mono ?_
      rintro x w11 ⟨hx, ρ11, m2, f11, g11⟩
      rw [j2.out] at hx
      subst hx
      have kp := kp.step f11 g11
      have m := m2
      clear m2 f11 g11
      go_wp2_with fail
      refine (m.now (by omega) hid hxsH.out (fun x => by rw [hmemH.out, j3.out])).mono ?_
      rintro e w12 ⟨v3, rfl, kp3, f12, _⟩
      have m := m.quiet f12
      have kp := kp.quiet f12
      clear f12
      have hs := Lib.hid (kp3.same kp)
      go_wp2_with fail
      refine hs.out.mono ?_
      rintro e w13 ⟨hx, f13⟩
      rw [decide_eq_true rfl] at hx
      subst hx
      have m := m.quiet f13
      clear f13 hs kp kp3
      go_wp2_with fail
      refine (m.now (by omega) hb (sorted_one a) (fun x => by rw [j4.out, List.mem_singleton])).mono ?_
      rintro e w14 ⟨v4, rfl, kp4, f14, _⟩
      have m := m.quiet f14
      clear f14
      have kb := Kp.built m.lin [a] (by simp) (by simp)
      have kp4 := kp4.quiet (w' := w14.alloc (.cells (([a] : List ByteArray).map .string).toArray 9)) (by simp)
      have m := m.quiet (w' := w14.alloc (.cells (([a] : List ByteArray).map .string).toArray 9)) (by simp)
      have hs := Lib.hid (kp4.same kb)
      clear kp4 kb
      go_wp2_with fail
      refine hs.out.mono ?_
      rintro e w15 ⟨hx, f15⟩
      rw [decide_eq_true rfl] at hx
      subst hx
      have m := m.quiet f15
      clear f15 hs
      go_wp2
      go_ret
      exact ⟨rfl, m.fr⟩
    · have tE : (E != 0) = true := by simpa using hE0
      clear hE0
      go_wp2
      go_ret
      exact ⟨rfl, m.fr⟩
  · rw [Bool.not_eq_true] at hfw
    go_wp2
    go_ret
    exact ⟨rfl, f1⟩
end Go.Proofs.Ytcolfgnjmnapkaa
