/- LineageRefuses returns true: an edit with an error changes nothing. -/
import Derived.Test.YtcolfgnjmnapkaaJoin
namespace Go.Proofs.Ytcolfgnjmnapkaa
open Go.RowKit Go.Pl

/-- The block of an edit that the call has boxed. -/
def EdB (w : World) (M : Nat) (e : Edt) : Prop := w.heap[M]? = some (.cells e.cells 38 (0, 0))
theorem EdB.fr {w w' : World} {M e} (h : EdB w M e) {F : Nat → Prop} (hf : Fr F w w') (hd : ¬ F M) : EdB w' M e := hf.obj h hd
theorem EdB.lt {w : World} {M e} (h : EdB w M e) : M < w.heap.size := lt_of_blk h
theorem EdB.cells {w : World} {M e} (h : EdB w M e) :
    w.cell? ⟨M, 0, none⟩ = some (.int .i64 e.op) ∧ w.cell? ⟨M, 1, none⟩ = some (.string e.id) ∧ w.cell? ⟨M, 2, none⟩ = some (.string e.other) ∧ w.cell? ⟨M, 3, none⟩ = some e.v3 ∧
    w.cell? ⟨M, 4, none⟩ = some e.v4 ∧ w.cell? ⟨M, 5, none⟩ = some e.v5 ∧ w.cell? ⟨M, 6, none⟩ = some e.v6 ∧ w.cell? ⟨M, 7, none⟩ = some e.v7 ∧ w.cell? ⟨M, 8, none⟩ = some e.v8 ∧
    w.cell? ⟨M, 9, none⟩ = some (.string e.oid) ∧ w.cell? ⟨M, 10, none⟩ = some e.v10 ∧ w.cell? ⟨M, 11, none⟩ = some e.v11 ∧ w.cell? ⟨M, 12, none⟩ = some e.v12 ∧
    w.cell? ⟨M, 13, none⟩ = some e.v13 ∧ w.cell? ⟨M, 14, none⟩ = some e.v14 := by
  refine ⟨?_, ?_, ?_, ?_, ?_, ?_, ?_, ?_, ?_, ?_, ?_, ?_, ?_, ?_, ?_⟩ <;> rw [cell_of_blk h] <;> rfl
theorem edts_one (w : World) (e : Edt) : EdtsAt (w.alloc (.cells e.cells 38)) w.heap.size 0 [e] := by
  intro i x hx j v hv
  cases i with
  | zero =>
    simp at hx; subst hx
    have e0 : 0 + 0 * 15 + j = j := by omega
    rw [e0, cell_of_blk (blk_alloc_new _ _)]; exact hv
  | succ i => simp at hx

theorem FollowedPost.fr {es : List Edt} {w : World} {e : Ending} {w' : World} (h : FollowedPost es w e w') : Fr (fun _ => False) w w' := by
  obtain ⟨p, ρ, _, m⟩ := h; exact m.fr

set_option maxRecDepth 100000 in
set_option maxHeartbeats 8000000 in
theorem refuses_walk (sa : Option Addr) (b0 off cap : Nat) (es : List Edt) (w : World) (h : EdtsV w (.slice sa es.length cap) sa b0 off cap es) (e : Edt) (he : e.Sz) (id : ByteArray) (hid : id.size ≤ maxLen) :
    Calls Try.prog 9 #[.slice sa es.length cap, .agg e.cells, .string id] w fun x w' => x = .returned (.bool true) ∧ Fr (fun _ => False) w w' := by
  have hfew := Lib.hid (fun w' hf => few_calls sa b0 off cap es 40 (by omega) w' h.ix (h.at_.fr (F := fun _ => False) (w' := w') hf (by simp)) h.le h.sz)
  have hfol := Lib.hid (fun w' hf => followed_calls sa b0 off cap es w' h.ix (h.at_.fr (F := fun _ => False) (w' := w') hf (by simp)) h.le h.sz)
  have hn := h.le
  generalize es.length = n at *
  clear h
  have si1 := hid
  unfold maxLen at si1
  have heH := Lib.hid he
  clear he
  have hM : EdB (w.alloc (.cells e.cells 38)) w.heap.size e := blk_alloc_new _ _
  have f0 : Fr (fun _ => False) w (w.alloc (.cells e.cells 38)) := by simp
  go_enter Try.func9, Try.ntmps9
  go_wp2_with fail
  generalize w.alloc (.cells e.cells 38) = w0 at *
  obtain ⟨M, hMe⟩ : ∃ M, M = w.heap.size := ⟨_, rfl⟩
  rw [← hMe] at hM ⊢
  have hMH := Lib.hid hMe
  clear hMe
  refine (head_calls w0).mono ?_
  rintro x w1 ⟨rfl, f1⟩
  have hM := hM.fr f1 (by simp)
  have f1 := f0.trans f1
  clear f0
  go_wp2_with fail
  refine (hfew.out w1 f1).mono ?_
  rintro x w2 ⟨rfl, rfl⟩
  clear hfew
  by_cases hfw : fewE es 40 = true
  · have hone := Lib.hid (few_calls (some ⟨w1.heap.size, 0, none⟩) w1.heap.size 0 1 [e] 1 (by omega) (w1.alloc (.cells e.cells 38)) (by simp) (edts_one w1 e) (by simp) (by simpa using heH.out))
    obtain ⟨c0, c1, c2, c3, c4, c5, c6, c7, c8, c9, c10, c11, c12, c13, c14⟩ := hM.cells
    go_wp2_with fail
    refine hone.out.mono ?_
    rintro x w3 ⟨rfl, rfl⟩
    clear c0 c1 c2 c3 c4 c5 c6 c7 c8 c9 c10 c11 c12 c13 c14 hone
    have hM := hM.fr (w' := w1.alloc (.cells e.cells 38)) (F := fun _ => False) (by simp) (by simp)
    have f1 : Fr (fun _ => False) w (w1.alloc (.cells e.cells 38)) := f1.alloc _
    generalize w1.alloc (.cells e.cells 38) = w2 at *
    obtain ⟨q, hq⟩ : ∃ q, q = fewE [e] 1 := ⟨_, rfl⟩
    rw [← hq]
    clear hq
    cases q with
    | false =>
      go_wp2
      go_ret
      exact ⟨rfl, f1⟩
    | true =>
      by_cases b3 : 100 < id.size
      · go_wp2
        go_ret
        exact ⟨rfl, f1⟩
      have hfwH := Lib.hid hfw
      go_wp2_with fail
      refine (hfol.out w2 f1).mono ?_
      intro x w3 hp
      obtain ⟨p, ρ, N, S, rfl, m, hN, _, hnew, _⟩ := hp.mine f1 hfwH.out
      have hMlt := hM.lt
      have hM := hM.fr hp.fr (by simp)
      have hρM : ρ M = none := by
        cases hx : ρ M with
        | none => rfl
        | some y => have := hnew M (by rw [hx]; simp); omega
      clear hp hfol hnew
      go_wp2_with fail
      refine (m.now_any (by omega) hid).mono ?_
      rintro x w4 ⟨v, xs, rfl, hxs, hmem, kp, f4, _⟩
      have hxs := Lib.hid hxs
      have hmem := Lib.hid hmem
      have m := m.quiet f4
      have hM := hM.fr f4 (by simp)
      clear f4
      go_wp2_with fail
      refine (m.then_any (by omega) hid).mono ?_
      rintro x w5 ⟨v2, ys, rfl, hys, hmem2, kp2, f5, _⟩
      have hys := Lib.hid hys
      have hmem2 := Lib.hid hmem2
      have m := m.quiet f5
      have kp := kp.quiet f5
      have hM := hM.fr f5 (by simp)
      clear f5
      obtain ⟨c0, c1, c2, c3, c4, c5, c6, c7, c8, c9, c10, c11, c12, c13, c14⟩ := hM.cells
      go_wp2_with fail
      refine (m.follow e heH.out).mono ?_
      rintro x w6 ⟨rfl, ρ6, m2, f6, g6⟩
      have kp := kp.step f6 g6
      have kp2 := kp2.step f6 g6
      have m := m2
      have hM := hM.fr f6 (by simp [hρM])
      clear m2 f6 g6 c0 c1 c2 c3 c4 c5 c6 c7 c8 c9 c10 c11 c12 c13 c14
      have c0 := hM.cells.1
      obtain ⟨E, hE⟩ : ∃ E, E = followE S e := ⟨_, rfl⟩
      rw [← hE]
      have hEH := Lib.hid hE
      clear hE
      by_cases hbig : E = 0 ∧ 5 ≤ e.op
      · obtain ⟨rfl, h5⟩ := hbig
        go_wp2
        go_ret
        exact ⟨rfl, m.fr⟩
      · have href : Hid (∀ u x, (followS S e).pt u x = S.pt u x) := refused (by rw [← hEH.out]; omega)
        have hgo : Hid (Calls Try.prog 17 #[.pointer (some ⟨p, 0, none⟩), .string id] w6 fun e w' => ∃ v, e = .returned v ∧ Kp w' ρ6 v xs ∧ Fr (fun _ => False) w6 w' ∧ ∀ k, v.ownBlock = some k → w6.heap.size ≤ k) :=
          m.now (by omega) hid hxs.out (fun x => by rw [hmem.out, href.out])
        have hthen : Hid (∀ (w7 : World), Mine w w7 p (N + 3) ρ6 (followS S e) → Calls Try.prog 19 #[.pointer (some ⟨p, 0, none⟩), .string id] w7 fun e w' => ∃ v, e = .returned v ∧ Kp w' ρ6 v ys ∧ Fr (fun _ => False) w7 w' ∧ ∀ k, v.ownBlock = some k → w7.heap.size ≤ k) := fun w7 m7 =>
          m7.then_ (by omega) hid hys.out (fun x => by rw [hmem2.out, href.out])
        clear href hxs hmem hys hmem2 hEH
        by_cases hE0 : E = 0
        · subst hE0
          have t5 : decide (5 ≤ e.op) = false := by simp; omega
          clear hbig
          go_wp2_with fail
          refine hgo.out.mono ?_
          rintro x w7 ⟨v3, rfl, kp3, f7, _⟩
          have m := m.quiet f7
          have kp := kp.quiet f7
          have kp2 := kp2.quiet f7
          clear f7
          have hs := Lib.hid (kp3.same kp)
          clear kp3 kp
          go_wp2_with fail
          refine hs.out.mono ?_
          rintro x w8 ⟨hx, f8⟩
          rw [decide_eq_true rfl] at hx
          subst hx
          have m := m.quiet f8
          have kp2 := kp2.quiet f8
          clear f8 hs
          go_wp2_with fail
          refine (hthen.out w8 m).mono ?_
          rintro x w9 ⟨v4, rfl, kp4, f9, _⟩
          have m := m.quiet f9
          have kp2 := kp2.quiet f9
          clear f9
          have hs := Lib.hid (kp4.same kp2)
          clear kp4 kp2
          go_wp2_with fail
          refine hs.out.mono ?_
          rintro x w10 ⟨hx, f10⟩
          rw [decide_eq_true rfl] at hx
          subst hx
          have m := m.quiet f10
          clear f10 hs
          go_wp2
          go_ret
          exact ⟨rfl, m.fr⟩
        · have tE : (E == 0) = false := by simpa using hE0
          clear hbig hE0
          go_wp2_with fail
          refine hgo.out.mono ?_
          rintro x w7 ⟨v3, rfl, kp3, f7, _⟩
          have m := m.quiet f7
          have kp := kp.quiet f7
          have kp2 := kp2.quiet f7
          clear f7
          have hs := Lib.hid (kp3.same kp)
          clear kp3 kp
          go_wp2_with fail
          refine hs.out.mono ?_
          rintro x w8 ⟨hx, f8⟩
          rw [decide_eq_true rfl] at hx
          subst hx
          have m := m.quiet f8
          have kp2 := kp2.quiet f8
          clear f8 hs
          go_wp2_with fail
          refine (hthen.out w8 m).mono ?_
          rintro x w9 ⟨v4, rfl, kp4, f9, _⟩
          have m := m.quiet f9
          have kp2 := kp2.quiet f9
          clear f9
          have hs := Lib.hid (kp4.same kp2)
          clear kp4 kp2
          go_wp2_with fail
          refine hs.out.mono ?_
          rintro x w10 ⟨hx, f10⟩
          rw [decide_eq_true rfl] at hx
          subst hx
          have m := m.quiet f10
          clear f10 hs
          go_wp2
          go_ret
          exact ⟨rfl, m.fr⟩
  · rw [Bool.not_eq_true] at hfw
    go_wp2
    go_ret
    exact ⟨rfl, f1⟩
end Go.Proofs.Ytcolfgnjmnapkaa
