/- Cut of package net. -/
import Derived.Test.YtheogcihnclehaaSend
namespace Go.Proofs.Ytheogcihnclehaa
open Go.RowKit Go.Pl Go.WideMaps

set_option maxHeartbeats 400000 in
theorem cut_nil (a b : Int) (off : Bool) (w : World) : Calls Try.prog 21 #[.pointer none, .int .i64 a, .int .i64 b, .bool off] w fun e w' => e = .returned (.int .i64 1) ∧ Fr (fun _ => False) w w' := by
  go_enter Try.func21, Try.ntmps21
  go_wp2_with (go_at_call 30; refine (of_nil a b _).mono ?_; rintro e w1 ⟨rfl, hfr⟩)
  go_ret
  exact ⟨rfl, hfr⟩

theorem setBlk_drew (w : World) (b : Nat) (o : Obj) : (setBlk w b o).drew = setBlk w.drew b o := rfl
theorem setBlk_cell {w : World} {b : Nat} {o : Obj} {p : Addr} (h : p.block ≠ b) : (setBlk w b o).cell? p = w.cell? p := World.cell?_of_block (setBlk_other h o)

set_option maxHeartbeats 1000000 in
theorem cut_calls {p : Nat} {ρ : Roles} {S : NetS} {w : World} (h : NetAt w p ρ S) (a b : Int) (off : Bool) :
    Calls Try.prog 21 #[.pointer (some ⟨p, 0, none⟩), .int .i64 a, .int .i64 b, .bool off] w (NPost p ρ (S.cutOff a b off) (.int .i64 (S.cutE a b)) w) := by
  have h0 := h
  obtain ⟨mq, mc, f, g, h⟩ := h
  by_cases hr : S.right a b
  · obtain ⟨h1, h2, h3, h4, h5⟩ := id hr
    go_enter Try.func21, Try.ntmps21
    go_wp2_with fail
    refine (of_calls h h1 h2 h3 h4 h5).mono ?_
    rintro e w1 ⟨f', ρ', qb, rfl, h', hf', hfr, hgr⟩
    have hn := h'.nn
    have c2 : w1.cell? ⟨p, 2, none⟩ = some (.map (some mc)) := by rw [cell_of_blk h'.hp]; rfl
    obtain ⟨l, hk⟩ := key45 (wf_small h1 (by omega)) (wf_small h2 (by omega))
    obtain ⟨l2, hk2⟩ := key45 (wf_small h2 (by omega)) (wf_small h1 (by omega))
    obtain ⟨o0, ho0, hm0⟩ := h'.hc.obj
    obtain ⟨o1, o2, x1, s1, hA, hB, hm2⟩ := hm0.entry law45 Try.underlying58 mc hk zero58 (.bool off)
    obtain ⟨o3, o4, x2, s2, hC, hD, hm4⟩ := hm2.entry law45 Try.underlying58 mc hk2 zero58 (.bool off)
    have hmc : mc < w1.heap.size := h'.hc.lt
    have eA := hA w1.drew ho0
    have eB := hB (setBlk w1.drew mc o1) (setBlk_same hmc _)
    have hs2 : mc < (setBlk (setBlk w1.drew mc o1) mc o2).heap.size := by simpa [setBlk] using hmc
    have eC := hC (setBlk (setBlk w1.drew mc o1) mc o2) (setBlk_same (by simpa [setBlk] using hmc) _)
    have eD := hD (setBlk (setBlk (setBlk w1.drew mc o1) mc o2) mc o3) (setBlk_same (by simpa [setBlk] using hmc) _)
    have hpm : p ≠ mc := fun e => by have := h'.rp; rw [e, h'.rc] at this; simp at this
    have hfin : Hid (NPost p ρ (S.cutOff a b off) (.int .i64 (S.cutE a b)) w (.returned (.int .i64 0)) (setBlk (setBlk (setBlk (setBlk w1.drew mc o1) mc o2) mc o3) mc o4)) := by
      have hF : Fr (fun r => r = mc) w1 (setBlk (setBlk (setBlk (setBlk w1.drew mc o1) mc o2) mc o3) mc o4) :=
        ((((Fr.refl (fun r => r = mc) w1).drew.setBlk (fun _ => rfl) _).setBlk (fun _ => rfl) _).setBlk (fun _ => rfl) _).setBlk (fun _ => rfl) _
      rw [NetS.cutE, if_pos hr, NetS.cutOff, if_pos hr]
      have hq1 : ∀ r, ρ' r ≠ none → r ≠ mc → (setBlk (setBlk (setBlk (setBlk w1.drew mc o1) mc o2) mc o3) mc o4).heap[r]? = w1.heap[r]? := fun r hr hne => hF.blk r (h'.lt r hr) hne
      have hrc : ∀ r n c d, ρ' r = some (n, c, d) → n ≠ 2 → r ≠ mc := fun r n c d hr hn e => by rw [e, h'.rc] at hr; simp at hr; omega
      refine ⟨rfl, ρ', ⟨mq, mc, f', _, ?_, h'.rp, h'.rq, h'.rc, ?_, MapAt.of_obj (setBlk_same (by simpa [setBlk] using hmc) _) hm4, fun c d => (h'.hS c d).keep fun r n hr h3 => ⟨hq1 r (by rw [hr]; simp) (hrc r n c d hr (by omega)), rfl⟩, ?_, fun r hr => ?_, h'.nn, h'.sz⟩, fr_trans_grows hfr hgr (hF.mono ?_), hgr⟩
      · rw [hq1 p (by rw [h'.rp]; simp) hpm]; exact h'.hp
      · exact h'.hq.of_blk (hq1 mq (by rw [h'.rq]; simp) (hrc mq 1 0 0 h'.rq (by omega)))
      · intro c d
        have hinj : ∀ a b c d : Int, key a b ≠ key c d ↔ ¬ (a = c ∧ b = d) := fun a b c d => ⟨fun h e => h (by rw [e.1, e.2]), fun h e => h (key_inj e)⟩
        by_cases e1 : c = b ∧ d = a
        · obtain ⟨rfl, rfl⟩ := e1
          rw [upd_same]; simp
        · rw [upd_other _ ((hinj c d b a).2 e1)]
          by_cases e2 : c = a ∧ d = b
          · obtain ⟨rfl, rfl⟩ := e2
            rw [upd_same]; simp
          · rw [upd_other _ ((hinj c d a b).2 e2), h'.hcut]; simp [e1, e2]
      · exact Nat.lt_of_lt_of_le (h'.lt r hr) hF.size
      · rintro r hr rfl
        show ρ' r ≠ none; rw [h'.rc]; simp
    clear hf' hA hB hC hD ho0 hm0 hm2 hm4 hs2
    go_wp2
    go_region
    go_wp2
    go_ret
    exact hfin.out
  · have hE : Hid (∀ w1, Fr (fun _ => False) w w1 → NPost p ρ (S.cutOff a b off) (.int .i64 (S.cutE a b)) w (.returned (.int .i64 1)) w1) := fun w1 hfr => by
      rw [NetS.cutE, if_neg hr, NetS.cutOff, if_neg hr]
      exact h0.same hfr
    have c0 : w.cell? ⟨p, 0, none⟩ = some (.int .i64 S.nodes) := by rw [cell_of_blk h.hp]; rfl
    go_enter Try.func21, Try.ntmps21
    go_wp2_with (go_at_call 30; refine (of_wrong p a b S.nodes _ c0 hr).mono ?_; rintro e w1 ⟨rfl, hfr⟩)
    go_ret
    exact hE.out _ hfr
end Go.Proofs.Ytheogcihnclehaa
