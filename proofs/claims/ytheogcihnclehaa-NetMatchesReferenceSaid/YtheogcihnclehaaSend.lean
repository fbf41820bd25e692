/- Send of package net. -/
import Derived.Test.YtheogcihnclehaaOf
import Derived.Test.YtheogcihnclehaaDel
import Derived.Lib.Hide
namespace Go.Proofs.Ytheogcihnclehaa
open Go.RowKit Go.Pl Go.WideMaps

theorem zero58 (w : World) : (zeroValue 4).run Try.prog w = .ok (.bool false) w := by kernel_rfl
theorem size5 (w : World) : (Go.sizeOf 5).run Try.prog w = .ok 1 w := by kernel_rfl
theorem info5 : (Try.prog.info? 5).map (fun i => (i.zero, i.size, i.bytes)) = some (some (.int .u8 0), 1, 1) := by kernel_rfl

/-- What the methods look at, in a world with a network whose queue is there. -/
theorem NetR.looks {w p mq mc f g ρ S} (h : NetR w p mq mc f g ρ S) {a b : Int} (hr : S.right a b) {qb : Nat} (hf : f (key a b) = some (.pointer (some ⟨qb, 0, none⟩))) :
    w.cell? ⟨p, 2, none⟩ = some (.map (some mc)) ∧ (Instr.lookup 58 (.map (some mc)) (.agg #[.int .i64 a, .int .i64 b]) false).run Try.prog w = .ok (.bool (S.cut a b)) w ∧
    ∃ sl bs, ρ qb = some (3, a, b) ∧ w.heap[qb]? = some (.cells #[sl] 70 (0, 0)) ∧ ListAt w ρ a b sl bs (S.q a b) := by
  have hn := h.nn
  obtain ⟨h1, h2, h3, h4, h5⟩ := hr
  obtain ⟨l, hk⟩ := key45 (wf_small h1 (by omega)) (wf_small h2 (by omega))
  refine ⟨by rw [cell_of_blk h.hp]; rfl, ?_, ?_⟩
  · have := h.hc.look law45 Try.underlying58 hk (zero58 w)
    rw [h.hcut] at this
    exact this
  · rcases h.hS a b with ⟨h1, _⟩ | ⟨qb', sl, bs, h1, h2, h3, h4⟩
    · rw [hf] at h1; cases h1
    · rw [hf] at h1
      simp at h1
      subst h1
      exact ⟨sl, bs, h2, h3, h4⟩

theorem NetAt.same {w w' : World} {p : Nat} {ρ : Roles} {S : NetS} (h : NetAt w p ρ S) (hf : Fr (fun _ => False) w w') {v : Value} : NPost p ρ S v w (.returned v) w' := by
  obtain ⟨mq, mc, f, g, h⟩ := h
  exact ⟨rfl, ρ, ⟨mq, mc, f, g, h.fr hf (by simp)⟩, hf.mono (fun _ _ h => h.elim), fun _ _ => id⟩

theorem fr_trans_grows {w w1 w2 : World} {ρ ρ1 : Roles} (h : Fr (Fp ρ) w w1) (hg : Grows w ρ ρ1) (h2 : Fr (Fp ρ1) w1 w2) : Fr (Fp ρ) w w2 := h.trans' h2 hg
theorem Grows.trans {w w1 : World} {ρ ρ1 ρ2 : Roles} (h : Grows w ρ ρ1) (hs : w.heap.size ≤ w1.heap.size) (h2 : Grows w1 ρ1 ρ2) : Grows w ρ ρ2 := fun r hr hne => h r hr (h2 r (by omega) hne)

set_option maxHeartbeats 1000000 in
theorem send_nil (a b : Int) (t : ByteArray) (w : World) : Calls Try.prog 15 #[.pointer none, .int .i64 a, .int .i64 b, .string t] w fun e w' => e = .returned (.int .i64 1) ∧ Fr (fun _ => False) w w' := by
  go_enter Try.func15, Try.ntmps15
  go_wp2_with (go_at_call 30; refine (of_nil a b _).mono ?_; rintro e w1 ⟨rfl, hfr⟩)
  go_ret
  exact ⟨rfl, hfr⟩

theorem ListAt.shape {w : World} {ρ : Roles} {a b : Int} {sl : Value} {bs : List Nat} {ts : List ByteArray} (h : ListAt w ρ a b sl bs ts) :
    ∃ sa cap, sl = .slice sa ts.length cap ∧ ts.length ≤ 9223372036854775807 := by
  rcases h.cells with ⟨h1, h2⟩ | ⟨gb, cap, cur, h1, h2, h3, h4, _⟩
  · exact ⟨none, 0, by rw [h1, h2]; rfl, by rw [h2]; simp⟩
  · exact ⟨_, cap, h1, by unfold maxLen at h4; omega⟩

theorem send_done {w w1 W2 w3 : World} {p mq mc : Nat} {f g : Value → Option Value} {ρ ρ1 : Roles} {S : NetS} {a b : Int} {qb : Nat} {sl v' : Value} {bs : List Nat} {t : ByteArray}
    (h : NetR w1 p mq mc f g ρ1 S) (hfr : Fr (Fp ρ) w w1) (hgr : Grows w ρ ρ1) (hf : f (key a b) = some (.pointer (some ⟨qb, 0, none⟩))) (hrq : ρ1 qb = some (3, a, b)) (hq : w1.heap[qb]? = some (.cells #[sl] 70 (0, 0)))
    (hl : ListAt w1 ρ1 a b sl bs (S.q a b)) (o : Obj) (hm2 : W2.heap[w1.heap.size]? = some (.cells (bytesOf t) 5 (0, 0))) (hf2 : Fr (fun r => r = w1.heap.size) (w1.alloc o) W2)
    (hown : w3.ownsRow 0 38 1 v' ((S.q a b).length + 1) (List.zipWith mval bs (S.q a b) ++ [mval w1.heap.size t])) (hgrow : (W2.alloc (.cells #[mval w1.heap.size t] 38)).grownBy w3 sl.ownBlock)
    (hloc : v'.ownBlock = sl.ownBlock ∨ v'.ownBlock = some (W2.alloc (.cells #[mval w1.heap.size t] 38)).heap.size) (hE : S.sendE a b t = 0) (hts : t.size ≤ 20000) :
    (w3.cell? ⟨qb, 0, none⟩ = some sl ∧ w3.frozen? ⟨qb, 0, none⟩ = false) ∧ NPost p ρ (S.send a b t) (.int .i64 (S.sendE a b t)) w (.returned (.int .i64 0)) (w3.setCell ⟨qb, 0, none⟩ v') := by
  have hqlt : qb < w1.heap.size := lt_of_blk hq
  have hs2 := hf2.size
  simp at hs2
  have hs3 : (W2.alloc (.cells #[mval w1.heap.size t] 38)).heap.size ≤ w3.heap.size := hgrow.size
  simp at hs3
  have hslr : ∀ k, sl.ownBlock = some k → ρ1 k = some (4, a, b) ∧ k < w1.heap.size := fun k hk => ⟨hl.rsl k hk, ownsRow_lt hl.own k hk⟩
  have hkeep : ∀ r, r < w1.heap.size → some r ≠ sl.ownBlock → w3.heap[r]? = w1.heap[r]? := fun r hr hne => by
    rw [hgrow.block r (by simp; omega) hne, blk_alloc (by omega), hf2.blk r (by simp; omega) (by omega), blk_alloc hr]
  have hqne : some qb ≠ sl.ownBlock := fun e => by have := (hslr qb e.symm).1; rw [hrq] at this; simp at this
  have hq3 : w3.heap[qb]? = some (.cells #[sl] 70 (0, 0)) := by rw [hkeep qb hqlt hqne]; exact hq
  have hm3 : w3.heap[w1.heap.size]? = some (.cells (bytesOf t) 5 (0, 0)) := by
    rw [hgrow.block _ (by simp; omega) (fun e => by have := (hslr _ e.symm).2; omega), blk_alloc (by omega)]; exact hm2
  refine ⟨⟨by rw [cell_of_blk hq3]; rfl, free_of_blk hq3 0⟩, ?_⟩
  have hsz4 : (w3.setCell ⟨qb, 0, none⟩ v').heap.size = w3.heap.size := by simp [World.setCell]
  have hbig : Fr (fun r => r = qb ∨ some r = sl.ownBlock) w1 (w3.setCell ⟨qb, 0, none⟩ v') :=
    ⟨by show w3.os = _; rw [hgrow.os]; exact hf2.os, by show w3.tape = _; rw [hgrow.tape]; exact hf2.tape, by show w3.output = _; rw [hgrow.output]; exact hf2.output, by omega,
      fun r hr hne => by
        rw [blk_setCell (fun e => hne (.inl e)), hkeep r hr (fun e => hne (.inr e))]⟩
  obtain ⟨ρ2, h2, hg2⟩ := h.pushed (w' := w3.setCell ⟨qb, 0, none⟩ v') (v' := v') (m := w1.heap.size) hf hrq hl
    (ownsRow_of_blk hown fun k hk => blk_setCell (fun e => by
      simp only at e
      subst e
      rcases hloc with e2 | e2
      · exact hqne (by rw [← e2]; exact hk.symm)
      · rw [hk] at e2; simp at e2; omega) _)
    (hloc.imp id (fun e2 => ⟨_, e2, by simp; omega, by simp; omega⟩)) (Nat.le_refl _)
    (by rw [blk_setCell (by simp only; omega)]; exact hm3) (by have := blk_setCell_same (off := 0) hq3 v'; simpa using this) hbig hts
  refine ⟨by rw [hE], ρ2, ?_, ?_, hgr.trans hfr.size hg2⟩
  · rw [NetS.send, if_pos hE]
    exact ⟨mq, mc, f, g, h2⟩
  · refine fr_trans_grows hfr hgr (hbig.mono ?_)
    rintro r hr (rfl | e)
    · show ρ1 _ ≠ none; rw [hrq]; simp
    · show ρ1 _ ≠ none; rw [(hslr r e.symm).1]; simp

set_option maxHeartbeats 1000000 in
theorem send_calls {p : Nat} {ρ : Roles} {S : NetS} {w : World} (h : NetAt w p ρ S) (a b : Int) (t : ByteArray) (ht : t.size ≤ 9223372036854775807) :
    Calls Try.prog 15 #[.pointer (some ⟨p, 0, none⟩), .int .i64 a, .int .i64 b, .string t] w (NPost p ρ (S.send a b t) (.int .i64 (S.sendE a b t)) w) := by
  have h0 := h
  obtain ⟨mq, mc, f, g, h⟩ := h
  by_cases hr : S.right a b
  · obtain ⟨h1, h2, h3, h4, h5⟩ := id hr
    go_enter Try.func15, Try.ntmps15
    go_wp2_with fail
    refine (of_calls h h1 h2 h3 h4 h5).mono ?_
    rintro e w1 ⟨f', ρ', qb, rfl, h', hf', hfr, hgr⟩
    obtain ⟨c2, hlk, sl, bs, hrq, hq, hl⟩ := h'.looks hr hf'
    have cq : w1.cell? ⟨qb, 0, none⟩ = some sl := by rw [cell_of_blk hq]; rfl
    obtain ⟨L, hL⟩ : ∃ L, L = (S.q a b).length := ⟨_, rfl⟩
    obtain ⟨sa, cap, rfl, hLm⟩ := hl.shape
    rw [← hL] at hLm cq
    have hsimple : ∀ E : Int, E ≠ 0 → S.sendE a b t = E → Hid (NPost p ρ (S.send a b t) (.int .i64 (S.sendE a b t)) w (.returned (.int .i64 E)) w1) := fun E h0 hE => by
      rw [NetS.send, hE, if_neg h0]
      exact ⟨rfl, ρ', ⟨mq, mc, f', g, h'⟩, hfr, hgr⟩
    by_cases hcut : S.cut a b = true
    · have hE := hsimple 20 (by omega) (by simp [NetS.sendE, hr, hcut])
      rw [hcut] at hlk
      clear hf' hq hL hsimple
      go_wp2
      go_ret
      exact hE.out
    rw [Bool.not_eq_true] at hcut
    by_cases hlim : 20000 < t.size
    · have hE := hsimple 2 (by omega) (by simp [NetS.sendE, hr, hcut, hlim])
      rw [hcut] at hlk
      clear hf' hq hL hsimple
      go_wp2
      go_ret
      exact hE.out
    by_cases hfull : 100 ≤ L
    · have hE := hsimple 21 (by omega) (by simp [NetS.sendE, hr, hcut, hlim, ← hL, hfull])
      rw [hcut] at hlk
      clear hf' hq hL hsimple
      go_wp2
      go_ret
      exact hE.out
    have hE : Hid (S.sendE a b t = 0) := by simp [Hid, NetS.sendE, hr, hcut, hlim, ← hL, hfull]
    rw [hcut] at hlk
    have hmk := run_make_row' (P := Try.prog) 38 5 (.int .u8 0) 1 Try.underlying38 info5 rfl .i64 .i64 t.size (by omega) (by omega) w1
    obtain ⟨W2, hcp, hm2, hf2⟩ := copy_text (P := Try.prog) (w1.alloc (.cells (madeCells #[.int .u8 0] t.size) 5)) 38 9 3 5 w1.heap.size t.size t _ Try.underlying38 size5 (blk_alloc_new _ _) (madeCells_size _ _)
    have hqlt : qb < w1.heap.size := lt_of_blk hq
    have cq2 : W2.cell? ⟨qb, 0, none⟩ = some (.slice sa L cap) := by
      rw [World.cell?_of_block (w := w1) (by rw [hf2.blk qb (by simp; omega) (by omega), blk_alloc hqlt])]; exact cq
    have hown2 : W2.ownsRow 0 38 1 (.slice sa L cap) L (List.zipWith mval bs (S.q a b)) := by
      rw [hL]
      refine ownsRow_of_blk hl.own fun k hk => ?_
      have hk1 := ownsRow_lt hl.own k hk
      rw [hf2.blk k (by simp; omega) (by omega), blk_alloc hk1]
    obtain ⟨i0, hi0, hz0, hz1, hz2⟩ := info_parts info38
    have hdone := fun (w3 : World) (v' : Value) h1 h2 h3 => send_done (w3 := w3) (v' := v') h' hfr hgr hf' hrq hq hl _ hm2 hf2 h1 h2 h3 hE.out (by omega)
    rw [← hL] at hdone
    have hD := Lib.hid hdone
    have hmv : mval w1.heap.size t = .slice (some ⟨w1.heap.size, 0, none⟩) t.size t.size := rfl
    rw [hmv] at hD
    clear hf' hq hL hsimple hdone hmv hl
    go_wp2_with (at_builtin; refine wpList_append_own_at _ rfl _ _ 68 rfl 0 38 i0 (.slice none 0 0) 1 24 Try.underlying68 hi0 hz0 hz1 hz2 rfl (by decide) _ _ _ rfl (hown2.alloc _) ⟨W2.heap.size, 0, none⟩ 1 1 [.slice (some ⟨w1.heap.size, 0, none⟩) t.size t.size] rfl rfl (cell_one_new _ _ _) (by simp [Value.oneCell']) (by unfold maxLen; omega) (by omega) (Nat.zero_le _) ?_; intro v' w3 hown3 hgrow3 hnil3 hloc3; obtain ⟨sa', cap', rfl⟩ := ownsRow_slice hown3; obtain ⟨⟨cq3, fq3⟩, hfin⟩ := hD.out w3 _ hown3 hgrow3 hloc3; clear hown3 hgrow3 hnil3 hloc3)
    go_ret
    exact hfin
  · have hE : Hid (∀ w1, Fr (fun _ => False) w w1 → NPost p ρ (S.send a b t) (.int .i64 (S.sendE a b t)) w (.returned (.int .i64 1)) w1) := fun w1 hfr => by
      have : S.sendE a b t = 1 := by simp [NetS.sendE, hr]
      rw [NetS.send, this]
      exact h0.same hfr
    have c0 : w.cell? ⟨p, 0, none⟩ = some (.int .i64 S.nodes) := by rw [cell_of_blk h.hp]; rfl
    go_enter Try.func15, Try.ntmps15
    go_wp2_with (go_at_call 30; refine (of_wrong p a b S.nodes _ c0 hr).mono ?_; rintro e w1 ⟨rfl, hfr⟩)
    go_ret
    exact hE.out _ hfr
end Go.Proofs.Ytheogcihnclehaa
