/- The lineage: Follow at operation 5. -/
import Derived.Test.YtcolfgnjmnapkaaFol1
namespace Go.Proofs.Ytcolfgnjmnapkaa
open Go.RowKit Go.Pl Go.WideMaps

theorem fr_one_5 (w : World) (b : Nat) (o : Obj) : Fr (fun k => k = b) w (setBlk w b o) := (Fr.refl (fun k => k = b) w).setBlk (fun _ => rfl) o

set_option maxRecDepth 100000 in
set_option maxHeartbeats 8000000 in
theorem follow_drop {w : World} {p N : Nat} {ρ S} (h : LinAt w p N ρ S) (e : Edt) (hop : e.op = 5) (hid : e.id.size ≤ maxLen) (hot : e.other.size ≤ maxLen) :
    Calls Try.prog 14 #[.pointer (some ⟨p, 0, none⟩), .agg e.cells] w (LPost p (N + 3) ρ (followS S e) (.int .i64 (followE S e)) w) := by
  obtain ⟨mp, f, h⟩ := h
  have hB := h.boxed e
  have hbad : ¬ e.bad := by unfold Edt.bad Edt.two; omega
  have hE : followE S e = if S.pt e.id e.id = false then 11 else 0 := by
    have h1 : e.op ≠ 1 := by omega
    have h6 : e.op ≠ 6 := by omega
    have h7 : e.op ≠ 7 := by omega
    rw [followE, if_neg hbad]; simp [h1, h6, h7]
  have hEd := hB.e
  rw [hop] at hEd
  obtain ⟨c0, c1, c2, c9⟩ := hEd
  have cp := hB.r.cp
  have hBH := Lib.hid hB
  have hEH := Lib.hid hE
  have hopH := Lib.hid hop
  clear h hB hbad hE hop
  go_enter Try.func14, Try.ntmps14
  go_wp2_with fail
  generalize w.alloc (.cells e.cells 38) = W0 at *
  generalize w.heap.size = M at *
  go_wp2
  go_quiet (fail)
  obtain ⟨n1, rfl⟩ : ∃ n1, n1 = nq := ⟨_, rfl⟩
  go_wp2
  have hB := hBH.out.drewN n1
  generalize W0.drewN n1 = W1 at *
  clear c0 c1 c2 c9 cp hBH
  have hEd := hB.e
  rw [hopH.out] at hEd
  obtain ⟨c0, c1, c2, c9⟩ := hEd
  have hBd := hB.next (W1 := W1.drew) (by simp)
  have hof := Lib.hid (of_calls hBd.r hid)
  have hstep : Hid (∀ b w1, MapN Try.prog 9 w1 b N (setM (S.pt e.id)) → Fr (fun _ => False) W1.drew w1 → Boxed w w1 M p mp N f ρ S e ∧ (w1.cell? ⟨M, 0, none⟩ = some (.int .i64 5) ∧ w1.cell? ⟨M, 1, none⟩ = some (.string e.id)) ∧
      Calls Try.prog 30 #[.map (some b), .string e.id] w1 (fun x w' => x = .returned (.bool (S.pt e.id e.id)) ∧ w1 = w')) := fun b w1 x1 x2 =>
    ⟨hBd.next x2, ⟨x2.cell (p := ⟨M, 0, none⟩) c0 (by simp), x2.cell (p := ⟨M, 1, none⟩) c1 (by simp)⟩, has_calls x1 hid⟩
  have hS0 : W1.cell? ⟨M, 0, none⟩ = some (.int .i64 5) ∧ W1.cell? ⟨M, 1, none⟩ = some (.string e.id) := ⟨c0, c1⟩
  clear hB hBd
  cases hpt : S.pt e.id e.id with
  | false =>
    have hEn := Lib.hid (by rw [hEH.out]; simp [hpt] : followE S e = 11)
    rw [hpt] at hstep
    go_region_held3 (fun w' => w'.cell? ⟨M, 0, none⟩ = some (.int .i64 5) ∧ w'.cell? ⟨M, 1, none⟩ = some (.string e.id)) (first | assumption | exact hS0) (first | (refine hof.out.mono ?_; rintro x w1 ⟨b, rfl, x1, x2, _⟩; obtain ⟨hB2, b3, hh⟩ := hstep.out b w1 x1 x2; have hhas := Lib.hid hh; have hBH2 := Lib.hid hB2; clear x1 x2 hh hB2) | (refine hhas.out.mono ?_; rintro x w2 ⟨rfl, rfl⟩))
    have hfin := Lib.hid (follow_same (N := N) hBH2.out (E := 11) (by omega) hEn.out)
    clear b3 hhas hBH2
    go_wp2
    go_ret
    exact hfin.out
  | true =>
    have hptH := Lib.hid hpt
    rw [hpt] at hstep
    clear hpt
    go_region_held3 (fun w' => w'.cell? ⟨M, 0, none⟩ = some (.int .i64 5) ∧ w'.cell? ⟨M, 1, none⟩ = some (.string e.id)) (first | assumption | exact hS0) (first | (refine hof.out.mono ?_; rintro x w1 ⟨b, rfl, x1, x2, _⟩; obtain ⟨hB2, b3, hh⟩ := hstep.out b w1 x1 x2; have hhas := Lib.hid hh; have hBH2 := Lib.hid hB2; clear x1 x2 hh hB2) | (refine hhas.out.mono ?_; rintro x w2 ⟨rfl, rfl⟩))
    clear b3 hhas c0 c1 c2 c9 hS0 hof hstep
    have hEd := hBH2.out.e
    rw [hopH.out] at hEd
    obtain ⟨c0, c1, c2, c9⟩ := hEd
    go_wp2
    go_quiet (fail)
    obtain ⟨n2, rfl⟩ : ∃ n1, n1 = nq := ⟨_, rfl⟩
    have hB := hBH2.out.drewN n2
    generalize w1.drewN n2 = W1 at *
    clear c0 c1 c2 c9 hBH2
    have hEd := hB.e
    rw [hopH.out] at hEd
    obtain ⟨c0, c1, c2, c9⟩ := hEd
    have cp := hB.r.cp
    obtain ⟨v0, hlk⟩ := hB.look hot
    obtain ⟨bm, hbm⟩ : ∃ bm, bm = S.men e.other := ⟨_, rfl⟩
    rw [← hbm] at hlk
    have hbmH := Lib.hid hbm
    clear hbm
    have hE0H := Lib.hid (by rw [hEH.out]; simp [hptH.out] : followE S e = 0)
    cases bm
    all_goals
      have hMen := Lib.hid (mention_calls ⟨mp, f, hB.r⟩ hid)
      have hBH := Lib.hid hB
      clear hB
      go_wp2_with fail
      refine hMen.out.mono ?_
      intro x W2 hp
      obtain ⟨rfl, ρ1, ⟨mp1, f1, h1⟩, hf1, hg1, hE1, hn1, hM1⟩ := men_next hBH.out.e hBH.out.nn hBH.out.lt hp
      clear hp c0 c1 c2 c9 cp hlk hMen
      rw [hopH.out] at hE1
      obtain ⟨o, hrange, hL0⟩ := LoopR.start h1 (turn e)
      have hEL : Ed (W2.alloc o) M (5) e.id e.other e.oid := hE1.fr (F := fun _ => False) (by simp) (by simp)
      obtain ⟨c0, c1, c2, c9⟩ := hEL
      have cp := h1.cp
      obtain ⟨r, hr⟩ : ∃ r, r = W2.heap.size := ⟨_, rfl⟩
      have hrH := Lib.hid hr
      rw [← hr] at hL0
      have hH1 := Lib.hid h1
      have hL0H := Lib.hid hL0
      have hni : ¬ Inner ρ1 M := fun ⟨a, ha⟩ => by rw [hn1] at ha; cases ha
      have hE1H := Lib.hid hE1
      clear h1 hL0 hE1 hn1
      go_wp2
      rw [← hrH.out]
      clear hr c0 c1 c2 c9 cp hrange
      go_loopw [11] (fun u wr => Hid (LoopR W2 p mp1 (N + 1) f1 ρ1 (S.mention e.id) (turn e) r wr)) (fun u wr => wr.rangeLeft mp1 r)
      case atStart => exact hL0H
      case round =>
        have hEw := hE1H.out.fr hrel.out.fr hni
        rcases hrel.out.step hH1.out hrH.out with ⟨hnx, hall⟩ | ⟨x, b, w4, hfx, hxs, hnx, hen, hset, hf2, hnext⟩
        · have hfin : Hid (LPost p (N + 3) ρ (followS S e) (.int .i64 (followE S e)) w (.returned (.int .i64 0)) wr) := by
            have := loop_post (N := N) (S' := followS S e) hBH.out hf1 hg1 hH1.out (by omega) hrel.out hall (fun a ha y => by
              have hne : S.men a = false ∧ a ≠ e.id := by simpa [LinS.mention] using ha
              show turn e (S.pt a) y = S.pt a y
              have : S.pt a y = decide (a = y) := by
                rcases hBH.out.r.hS a with ⟨_, _, h3⟩ | ⟨_, _, h2, _⟩
                · exact h3 y
                · rw [hne.1] at h2; cases h2
              simp [turn, hopH.out, this]
              rintro rfl; exact hne.2) (by
              rw [followS, hE0H.out, if_neg (by omega)]
              simp [LinS.mention, Edt.two, Edt.idd, hopH.out]) (.int .i64 (followE S e))
            rw [hE0H.out] at this ⊢
            exact this
          clear hEw hall
          go_wp2
          go_ret
          exact hfin.out
        · have hEw4 := hEw.fr hf2 (fun e1 => by have := hrH.out; omega)
          obtain ⟨c0, c1, c2, c9⟩ := hEw4
          obtain ⟨l, hk⟩ := key9 hid
          obtain ⟨o2, ho2⟩ := hset.drop law9 Try.underlying60 hk
          obtain ⟨g1, g2⟩ := ho2 w4 rfl
          obtain ⟨y1, y2⟩ := hnext (setBlk w4 b o2) (fr_one_5 w4 b o2) ((g2.mono (Nat.le_succ _)).congr fun k => by
            rw [setM_del]; exact congrArg (fun s => setM s k) (funext fun y => by simp [turn, hopH.out]))
          have hnext1 := Lib.hid y1
          have hmeas := Lib.hid y2
          clear g2 ho2
          clear hEw hrel hset hf2 hnext y1 y2 hfx
          go_wp2
          go_roundw
          case rel => exact hnext1
          case measure => exact hmeas.out
end Go.Proofs.Ytcolfgnjmnapkaa
