/- The lineage: Follow of a new object. -/
import Derived.Test.YtcolfgnjmnapkaaFol1
namespace Go.Proofs.Ytcolfgnjmnapkaa
open Go.RowKit Go.Pl Go.WideMaps

set_option maxRecDepth 100000 in
set_option maxHeartbeats 4000000 in
theorem follow_put {w : World} {p N : Nat} {ρ S} (h : LinAt w p N ρ S) (e : Edt) (hop : e.op = 1) (hid : e.oid.size ≤ maxLen) :
    Calls Try.prog 14 #[.pointer (some ⟨p, 0, none⟩), .agg e.cells] w (LPost p (N + 3) ρ (followS S e) (.int .i64 (followE S e)) w) := by
  obtain ⟨mp, f, h⟩ := h
  have hB := h.boxed e
  have hbad : ¬ e.bad := by unfold Edt.bad Edt.two; omega
  have hfresh : e.fresh = e.oid := by rw [Edt.fresh, if_pos hop]
  have hE : followE S e = if S.men e.oid = true then 9 else 0 := by
    rw [followE, if_neg hbad, if_neg (by omega), hfresh]; simp [hop]
  have hEd := hB.e
  rw [hop] at hEd
  obtain ⟨c0, c1, c2, c9⟩ := hEd
  have cp := hB.r.cp
  have hBH := Lib.hid hB
  have hEH := Lib.hid hE
  have hopH := Lib.hid hop
  clear h hB hbad hfresh hE hop
  go_enter Try.func14, Try.ntmps14
  go_wp2_with fail
  generalize w.alloc (.cells e.cells 38) = W0 at *
  generalize w.heap.size = M at *
  go_wp2
  go_quiet (fail)
  obtain ⟨n1, rfl⟩ : ∃ n1, n1 = nq := ⟨_, rfl⟩
  go_wp2
  go_quiet (fail)
  obtain ⟨n2, rfl⟩ : ∃ n1, n1 = nq := ⟨_, rfl⟩
  go_wp2
  go_quiet (fail)
  obtain ⟨n3, rfl⟩ : ∃ n1, n1 = nq := ⟨_, rfl⟩
  go_wp2
  go_quiet (fail)
  obtain ⟨n4, rfl⟩ : ∃ n1, n1 = nq := ⟨_, rfl⟩
  have hB := ((hBH.out.drewN (n1 + n2)).drewN n3).drewN n4
  generalize ((W0.drewN (n1 + n2)).drewN n3).drewN n4 = W1 at *
  clear c0 c1 c2 c9 cp hBH
  have hEd := hB.e
  rw [hopH.out] at hEd
  obtain ⟨c0, c1, c2, c9⟩ := hEd
  have cp := hB.r.cp
  obtain ⟨v0, hlk⟩ := hB.look hid
  cases hm : S.men e.oid with
  | true =>
    have hfin := Lib.hid (follow_same (N := N) hB (E := 9) (by omega) (by rw [hEH.out, hm]; rfl))
    rw [hm] at hlk
    clear hB hm
    go_wp2
    go_ret
    exact hfin.out
  | false =>
    have hE0 : followE S e = 0 := by rw [hEH.out, hm]; rfl
    rw [hm] at hlk
    have hMen := Lib.hid (mention_calls ⟨mp, f, hB.r⟩ hid)
    have hBH := Lib.hid hB
    have hmH := Lib.hid hm
    have hE0H := Lib.hid hE0
    clear hB hm hE0
    go_wp2_with fail
    refine hMen.out.mono ?_
    intro x W2 hp
    obtain ⟨rfl, ρ1, ⟨mp1, f1, h1⟩, hf1, hg1, hE1, hn1, hM1⟩ := men_next hBH.out.e hBH.out.nn hBH.out.lt hp
    clear hp c0 c1 c2 c9 cp hlk hMen
    rw [hopH.out] at hE1
    obtain ⟨o, hrange, hL0⟩ := LoopR.start h1 (turn e)
    have hEL : Ed (W2.alloc o) M 1 e.id e.other e.oid := hE1.fr (F := fun _ => False) (by simp) (by simp)
    have c0 := hEL.c0
    have cp := h1.cp
    obtain ⟨r, hr⟩ : ∃ r, r = W2.heap.size := ⟨_, rfl⟩
    have hrH := Lib.hid hr
    rw [← hr] at hL0
    have hH1 := Lib.hid h1
    have hL0H := Lib.hid hL0
    have hni : ¬ Inner ρ1 M := fun ⟨a, ha⟩ => by rw [hn1] at ha; cases ha
    have hE1H := Lib.hid hE1
    clear h1 hL0 hE1 hEL hn1
    go_wp2
    rw [← hrH.out]
    clear hr c0 cp hrange
    go_loopw [11] (fun u wr => Hid (LoopR W2 p mp1 (N + 1) f1 ρ1 (S.mention e.oid) (turn e) r wr)) (fun u wr => wr.rangeLeft mp1 r)
    case atStart => exact hL0H
    case round =>
      have hEw := hE1H.out.fr hrel.out.fr hni
      rcases hrel.out.step hH1.out hrH.out with ⟨hnx, hall⟩ | ⟨x, b, w1, hfx, hxs, hnx, hen, hset, hf2, hnext⟩
      · have hfin : Hid (LPost p (N + 3) ρ (followS S e) (.int .i64 (followE S e)) w (.returned (.int .i64 0)) wr) := by
          have := loop_post (N := N) (S' := followS S e) hBH.out hf1 hg1 hH1.out (by omega) hrel.out hall (fun a _ y => by simp [turn, hopH.out]) (by
            rw [followS, hE0H.out, if_neg (by omega)]
            simp [LinS.mention, Edt.two, Edt.idd, hopH.out]) (.int .i64 (followE S e))
          rw [hE0H.out] at this ⊢
          exact this
        clear hEw hall
        go_wp2
        go_ret
        exact hfin.out
      · have c0 : w1.cell? ⟨M, 0, none⟩ = some (.int .i64 1) := (hEw.fr hf2 (fun e1 => by have := hrH.out; omega)).c0
        obtain ⟨y1, y2⟩ := hnext w1 (Fr.refl _ _) ((hset.mono (Nat.le_succ _)).congr fun k => by rw [show turn e ((S.mention e.oid).pt x) = (S.mention e.oid).pt x from funext fun y => by simp [turn, hopH.out]])
        have hnext1 := Lib.hid y1
        have hmeas := Lib.hid y2
        clear hEw hrel hset hf2 hnext y1 y2 hfx
        go_wp2
        go_roundw
        case rel => exact hnext1
        case measure => exact hmeas.out
end Go.Proofs.Ytcolfgnjmnapkaa
