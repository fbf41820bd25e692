/- The lineage: Follow at operation 7. -/
import Derived.Test.YtcolfgnjmnapkaaFol1
namespace Go.Proofs.Ytcolfgnjmnapkaa
open Go.RowKit Go.Pl Go.WideMaps

theorem fr_one_7 (w : World) (b : Nat) (o : Obj) : Fr (fun k => k = b) w (setBlk w b o) := (Fr.refl (fun k => k = b) w).setBlk (fun _ => rfl) o

set_option maxRecDepth 100000 in
set_option maxHeartbeats 8000000 in
theorem follow_join {w : World} {p N : Nat} {ρ S} (h : LinAt w p N ρ S) (e : Edt) (hop : e.op = 7) (hid : e.id.size ≤ maxLen) (hne : e.id ≠ e.other) (hot : e.other.size ≤ maxLen) :
    Calls Try.prog 14 #[.pointer (some ⟨p, 0, none⟩), .agg e.cells] w (LPost p (N + 3) ρ (followS S e) (.int .i64 (followE S e)) w) := by
  obtain ⟨mp, f, h⟩ := h
  have hB := h.boxed e
  have hbad : ¬ e.bad := by unfold Edt.bad Edt.two; intro hx; rcases hx with hx | hx | ⟨_, hx⟩; omega; omega; exact hne hx
  have hE : followE S e = if S.pt e.id e.id = false ∨ S.pt e.other e.other = false then 11 else 0 := by
    rw [followE, if_neg hbad]; simp [hop, Edt.fresh]
  have hEd := hB.e
  rw [hop] at hEd
  obtain ⟨c0, c1, c2, c9⟩ := hEd
  have cp := hB.r.cp
  have hBH := Lib.hid hB
  have hEH := Lib.hid hE
  have hopH := Lib.hid hop
  have tne : (e.id.toList == e.other.toList) = false := by rw [beq_str]; simpa using hne
  clear h hB hbad hE hop
  go_enter Try.func14, Try.ntmps14
  go_wp2_with fail
  generalize w.alloc (.cells e.cells 38) = W0 at *
  generalize w.heap.size = M at *
  go_wp2
  go_quiet (fail)
  obtain ⟨n1, rfl⟩ : ∃ n1, n1 = nq := ⟨_, rfl⟩
  go_wp2
  have hB := hBH.out.drewN n1
  generalize W0.drewN n1 = W1 at *
  clear c0 c1 c2 c9 cp hBH
  have hEd := hB.e
  rw [hopH.out] at hEd
  obtain ⟨c0, c1, c2, c9⟩ := hEd
  have hBd := hB.next (W1 := W1.drew) (by simp)
  have hof := Lib.hid (of_calls hBd.r hid)
  have hstep : Hid (∀ b w1, MapN Try.prog 9 w1 b N (setM (S.pt e.id)) → Fr (fun _ => False) W1.drew w1 → Boxed w w1 M p mp N f ρ S e ∧ (w1.cell? ⟨M, 0, none⟩ = some (.int .i64 7) ∧ w1.cell? ⟨M, 1, none⟩ = some (.string e.id)) ∧
      Calls Try.prog 30 #[.map (some b), .string e.id] w1 (fun x w' => x = .returned (.bool (S.pt e.id e.id)) ∧ w1 = w')) := fun b w1 x1 x2 =>
    ⟨hBd.next x2, ⟨x2.cell (p := ⟨M, 0, none⟩) c0 (by simp), x2.cell (p := ⟨M, 1, none⟩) c1 (by simp)⟩, has_calls x1 hid⟩
  have hS0 : W1.cell? ⟨M, 0, none⟩ = some (.int .i64 7) ∧ W1.cell? ⟨M, 1, none⟩ = some (.string e.id) := ⟨c0, c1⟩
  clear hB hBd
  cases hpt : S.pt e.id e.id with
  | false =>
    have hEn := Lib.hid (by rw [hEH.out]; simp [hpt] : followE S e = 11)
    rw [hpt] at hstep
    go_region_held3 (fun w' => w'.cell? ⟨M, 0, none⟩ = some (.int .i64 7) ∧ w'.cell? ⟨M, 1, none⟩ = some (.string e.id)) (first | assumption | exact hS0) (first | (refine hof.out.mono ?_; rintro x w1 ⟨b, rfl, x1, x2, _⟩; obtain ⟨hB2, b3, hh⟩ := hstep.out b w1 x1 x2; have hhas := Lib.hid hh; have hBH2 := Lib.hid hB2; clear x1 x2 hh hB2) | (refine hhas.out.mono ?_; rintro x w2 ⟨rfl, rfl⟩))
    have hfin := Lib.hid (follow_same (N := N) hBH2.out (E := 11) (by omega) hEn.out)
    clear b3 hhas hBH2
    go_wp2
    go_ret
    exact hfin.out
  | true =>
    have hptH := Lib.hid hpt
    rw [hpt] at hstep
    clear hpt
    go_region_held3 (fun w' => w'.cell? ⟨M, 0, none⟩ = some (.int .i64 7) ∧ w'.cell? ⟨M, 1, none⟩ = some (.string e.id)) (first | assumption | exact hS0) (first | (refine hof.out.mono ?_; rintro x w1 ⟨b, rfl, x1, x2, _⟩; obtain ⟨hB2, b3, hh⟩ := hstep.out b w1 x1 x2; have hhas := Lib.hid hh; have hBH2 := Lib.hid hB2; clear x1 x2 hh hB2) | (refine hhas.out.mono ?_; rintro x w2 ⟨rfl, rfl⟩))
    clear b3 hhas c0 c1 c2 c9 hS0 hof hstep
    have hEd := hBH2.out.e
    rw [hopH.out] at hEd
    obtain ⟨c0, c1, c2, c9⟩ := hEd
    go_wp2
    have hBd := hBH2.out.next (W1 := w1.drew) (by simp)
    have hof := Lib.hid (of_calls hBd.r hot)
    have hstep : Hid (∀ b w2, MapN Try.prog 9 w2 b N (setM (S.pt e.other)) → Fr (fun _ => False) w1.drew w2 → Boxed w w2 M p mp N f ρ S e ∧ (w2.cell? ⟨M, 0, none⟩ = some (.int .i64 7) ∧ w2.cell? ⟨M, 2, none⟩ = some (.string e.other)) ∧
        Calls Try.prog 30 #[.map (some b), .string e.other] w2 (fun x w' => x = .returned (.bool (S.pt e.other e.other)) ∧ w2 = w')) := fun b w2 x1 x2 =>
      ⟨hBd.next x2, ⟨x2.cell (p := ⟨M, 0, none⟩) c0 (by simp), x2.cell (p := ⟨M, 2, none⟩) c2 (by simp)⟩, has_calls x1 hot⟩
    have hS0 : w1.cell? ⟨M, 0, none⟩ = some (.int .i64 7) ∧ w1.cell? ⟨M, 2, none⟩ = some (.string e.other) := ⟨c0, c2⟩
    clear hBd hBH2
    cases hpo : S.pt e.other e.other with
    | false =>
      have hEn := Lib.hid (by rw [hEH.out]; simp [hpo] : followE S e = 11)
      rw [hpo] at hstep
      clear hpo
      go_region_held3 (fun w' => w'.cell? ⟨M, 0, none⟩ = some (.int .i64 7) ∧ w'.cell? ⟨M, 2, none⟩ = some (.string e.other)) (first | assumption | exact hS0) (first | (refine hof.out.mono ?_; rintro x w2 ⟨b, rfl, x1, x2, _⟩; obtain ⟨hB2, b3, hh⟩ := hstep.out b w2 x1 x2; have hhas := Lib.hid hh; have hBH3 := Lib.hid hB2; clear x1 x2 hh hB2) | (refine hhas.out.mono ?_; rintro x w3 ⟨rfl, rfl⟩))
      have hfin := Lib.hid (follow_same (N := N) hBH3.out (E := 11) (by omega) hEn.out)
      clear b3 hhas hBH3
      go_wp2
      go_ret
      exact hfin.out
    | true =>
      have hE0H := Lib.hid (by rw [hEH.out]; simp [hptH.out, hpo] : followE S e = 0)
      rw [hpo] at hstep
      clear hpo
      go_region_held3 (fun w' => w'.cell? ⟨M, 0, none⟩ = some (.int .i64 7) ∧ w'.cell? ⟨M, 2, none⟩ = some (.string e.other)) (first | assumption | exact hS0) (first | (refine hof.out.mono ?_; rintro x w2 ⟨b, rfl, x1, x2, _⟩; obtain ⟨hB2, b3, hh⟩ := hstep.out b w2 x1 x2; have hhas := Lib.hid hh; have hBH3 := Lib.hid hB2; clear x1 x2 hh hB2) | (refine hhas.out.mono ?_; rintro x w3 ⟨rfl, rfl⟩))
      clear b3 hhas c0 c1 c2 c9 hS0 hof hstep
      generalize w2 = W1 at *
      have hB := hBH3.out
      clear hBH3
      have hEd := hB.e
      rw [hopH.out] at hEd
      obtain ⟨c0, c1, c2, c9⟩ := hEd
      have cp := hB.r.cp
      obtain ⟨v0, hlk⟩ := hB.look hot
      obtain ⟨bm, hbm⟩ : ∃ bm, bm = S.men e.other := ⟨_, rfl⟩
      rw [← hbm] at hlk
      have hbmH := Lib.hid hbm
      clear hbm
      cases bm
      all_goals
        have hMen := Lib.hid (mention_calls ⟨mp, f, hB.r⟩ hid)
        have hBH := Lib.hid hB
        clear hB
        go_wp2_with fail
        refine hMen.out.mono ?_
        intro x W2 hp
        obtain ⟨rfl, ρ1, ⟨mp1, f1, h1⟩, hf1, hg1, hE1, hn1, hM1⟩ := men_next hBH.out.e hBH.out.nn hBH.out.lt hp
        clear hp c0 c1 c2 c9 cp hlk hMen
        rw [hopH.out] at hE1
        obtain ⟨c0, c1, c2, c9⟩ := hE1
        have hMen := Lib.hid (mention_calls ⟨mp1, f1, h1⟩ hot)
        have hE0 := Lib.hid (Ed.mk c0 c1 c2 c9)
        clear h1
        go_wp2_with fail
        refine hMen.out.mono ?_
        intro x W3 hp
        obtain ⟨rfl, ρ2, ⟨mp2, f2, h2⟩, hf2, hg2, hE2, hn2, hM2⟩ := men_next (e := e) (by rw [hopH.out]; exact hE0.out) hn1 hM1 hp
        clear hp c0 c1 c2 c9 hMen hE0 hn1 hM1
        rw [hopH.out] at hE2
        have hsz := hf1.size
        have hf1 := hf1.trans' hf2 (fun k hk hne => hg1 k hk hne)
        have hg1 : Grows W1 ρ ρ2 := fun k hk hne => hg1 k hk (hg2 k (Nat.lt_of_lt_of_le hk hsz) hne)
        clear hsz hf2 hg2
        obtain ⟨o, hrange, hL0⟩ := LoopR.start h2 (turn e)
        have hEL : Ed (W3.alloc o) M (7) e.id e.other e.oid := hE2.fr (F := fun _ => False) (by simp) (by simp)
        obtain ⟨c0, c1, c2, c9⟩ := hEL
        have cp := h2.cp
        obtain ⟨r, hr⟩ : ∃ r, r = W3.heap.size := ⟨_, rfl⟩
        have hrH := Lib.hid hr
        rw [← hr] at hL0
        have hH1 := Lib.hid h2
        have hL0H := Lib.hid hL0
        have hni : ¬ Inner ρ2 M := fun ⟨a, ha⟩ => by rw [hn2] at ha; cases ha
        have hE1H := Lib.hid hE2
        clear h2 hL0 hE2 hn2
        go_wp2
        rw [← hrH.out]
        clear hr c0 c1 c2 c9 cp hrange
        go_loopw [11] (fun u wr => Hid (LoopR W3 p mp2 (N + 1 + 1) f2 ρ2 ((S.mention e.id).mention e.other) (turn e) r wr)) (fun u wr => wr.rangeLeft mp2 r)
        case atStart => exact hL0H
        case round =>
          have hEw := hE1H.out.fr hrel.out.fr hni
          rcases hrel.out.step hH1.out hrH.out with ⟨hnx, hall⟩ | ⟨x, b, w4, hfx, hxs, hnx, hen, hset, hf2, hnext⟩
          · have hfin : Hid (LPost p (N + 3) ρ (followS S e) (.int .i64 (followE S e)) w (.returned (.int .i64 0)) wr) := by
              have := loop_post (N := N) (S' := followS S e) hBH.out hf1 hg1 hH1.out (by omega) hrel.out hall (fun a ha y => by
                have hne : (S.men a = false ∧ a ≠ e.id) ∧ a ≠ e.other := by simpa [LinS.mention] using ha
                show turn e (S.pt a) y = S.pt a y
                have : ∀ z, S.pt a z = decide (a = z) := by
                  rcases hBH.out.r.hS a with ⟨_, _, h3⟩ | ⟨_, _, h2, _⟩
                  · exact h3
                  · rw [hne.1.1] at h2; cases h2
                simp [turn, hopH.out, this, hne.2]
                rintro rfl; exact hne.2) (by
                rw [followS, hE0H.out, if_neg (by omega)]
                simp [LinS.mention, Edt.two, Edt.idd, hopH.out]) (.int .i64 (followE S e))
              rw [hE0H.out] at this ⊢
              exact this
            clear hEw hall
            go_wp2
            go_ret
            exact hfin.out
          · have hEw4 := hEw.fr hf2 (fun e1 => by have := hrH.out; omega)
            obtain ⟨c0, c1, c2, c9⟩ := hEw4
            have hhas := Lib.hid (has_calls hset hot)
            cases hin : ((S.mention e.id).mention e.other).pt x e.other with
            | false =>
              rw [hin] at hhas
              obtain ⟨y1, y2⟩ := hnext w4 (Fr.refl _ _) ((hset.mono (Nat.le_succ _)).congr fun k => by
                exact congrArg (fun s => setM s k) (funext fun y => by
                  simp [turn, hopH.out, hin]
                  intro hy; rintro rfl; rw [hin] at hy; cases hy))
              have hnext1 := Lib.hid y1
              have hmeas := Lib.hid y2
              clear hin
              clear hEw hrel hset hf2 hnext y1 y2 hfx
              go_wp2_with (go_at_call 30; refine hhas.out.mono ?_; rintro x w2 ⟨rfl, rfl⟩)
              go_roundw
              case rel => exact hnext1
              case measure => exact hmeas.out
            | true =>
              rw [hin] at hhas
              obtain ⟨l, hk⟩ := key9 hot
              obtain ⟨l2, hk2⟩ := key9 hid
              obtain ⟨o2, ho2⟩ := hset.drop law9 Try.underlying60 hk
              obtain ⟨g1, g2⟩ := ho2 w4 rfl
              obtain ⟨o3, ho3⟩ := g2.store law9 Try.underlying60 hk2 (.bool true)
              obtain ⟨g3, g4⟩ := ho3 _ rfl
              have hfx2 : Fr (fun k => k = b) w4 (setBlk (setBlk w4 b o2) b o3) := (fr_one_7 w4 b o2).trans (fr_one_7 _ b o3)
              have c1' : (setBlk w4 b o2).cell? ⟨M, 1, none⟩ = some (.string e.id) := (fr_one_7 w4 b o2).cell c1 (fun e1 => hni ⟨x, by rw [show M = b from e1]; exact (hH1.out.role hfx).1⟩)
              obtain ⟨y1, y2⟩ := hnext _ hfx2 ((g4.mono (by split <;> omega)).congr fun k => by
                rw [setM_del, setM_upd]; exact congrArg (fun s => setM s k) (funext fun y => by simp [turn, hopH.out, hin]))
              have hnext1 := Lib.hid y1
              have hmeas := Lib.hid y2
              clear hin g2 ho2 g4 ho3 hfx2
              clear hEw hrel hset hf2 hnext y1 y2 hfx
              go_wp2_with (go_at_call 30; refine hhas.out.mono ?_; rintro x w2 ⟨rfl, rfl⟩)
              go_roundw
              case rel => exact hnext1
              case measure => exact hmeas.out
end Go.Proofs.Ytcolfgnjmnapkaa
