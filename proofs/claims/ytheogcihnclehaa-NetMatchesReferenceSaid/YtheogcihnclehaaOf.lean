/- Walks of package net's of, get, take. -/
import Derived.Test.YtheogcihnclehaaNet
namespace Go.Proofs.Ytheogcihnclehaa
open Go.RowKit Go.Pl Go.WideMaps

def OfHas (qb : Nat) (w : World) (e : Ending) (w' : World) : Prop := e = .returned (.tuple #[.pointer (some ⟨qb, 0, none⟩), .bool true]) ∧ Fr (fun _ => False) w w'

set_option maxHeartbeats 400000 in
theorem of_has (p mq qb : Nat) (a b n : Int) (w : World)
   (h0 : w.cell? ⟨p, 0, none⟩ = some (.int .i64 n)) (h1 : w.cell? ⟨p, 1, none⟩ = some (.map (some mq))) (hp : p < w.heap.size)
   (ha : 0 ≤ a) (hb : 0 ≤ b) (han : a < n) (hbn : b < n) (hab : (a == b) = false) (hn : n ≤ 8) 
   (hlk : ∀ k o, (Instr.lookup 57 (.map (some mq)) (.agg #[.int .i64 a, .int .i64 b]) false).run Try.prog ((w.alloc o).drewN k) = .ok (.pointer (some ⟨qb, 0, none⟩)) ((w.alloc o).drewN k)) :
    Calls Try.prog 30 #[.pointer (some ⟨p, 0, none⟩), .int .i64 a, .int .i64 b] w (OfHas qb w) := by
  go_enter Try.func30, Try.ntmps30
  go_wp2
  all_goals
    go_quiet (fail)
    go_wp2
    go_quiet (fail)
    go_wp2
    go_ret2
    exact ⟨rfl, by simp⟩

def OfNew (w : World) (mq : Nat) (O : Nat → Obj) (e : Ending) (w' : World) : Prop :=
  ∃ W, e = .returned (.tuple #[.pointer (some ⟨w.heap.size + 1, 0, none⟩), .bool true]) ∧ Fr (fun _ => False) w W ∧ W.heap[w.heap.size + 1]? = some (.cells #[.slice none 0 0] 70 (0, 0)) ∧
  Fr (fun _ => False) (setBlk W mq (O (w.heap.size + 1))) w'

set_option maxHeartbeats 400000 in
theorem of_new (p mq : Nat) (a b n : Int) (w : World) (O : Nat → Obj)
   (h0 : w.cell? ⟨p, 0, none⟩ = some (.int .i64 n)) (h1 : w.cell? ⟨p, 1, none⟩ = some (.map (some mq))) (hp : p < w.heap.size)
   (ha : 0 ≤ a) (hb : 0 ≤ b) (han : a < n) (hbn : b < n) (hab : (a == b) = false) (hn : n ≤ 8) 
   (hlk : ∀ k o, (Instr.lookup 57 (.map (some mq)) (.agg #[.int .i64 a, .int .i64 b]) false).run Try.prog ((w.alloc o).drewN k) = .ok (.pointer none) ((w.alloc o).drewN k))
   (hup : ∀ k o o2 q, (Instr.mapUpdate 57 (.map (some mq)) (.agg #[.int .i64 a, .int .i64 b]) (.pointer (some ⟨q, 0, none⟩))).run Try.prog (((w.alloc o).drewN k).alloc o2) = .ok () (setBlk (((w.alloc o).drewN k).alloc o2) mq (O q)))
   (hlk2 : ∀ k k2 o o2 q, (Instr.lookup 57 (.map (some mq)) (.agg #[.int .i64 a, .int .i64 b]) false).run Try.prog ((setBlk (((w.alloc o).drewN k).alloc o2) mq (O q)).drewN k2) = .ok (.pointer (some ⟨q, 0, none⟩)) ((setBlk (((w.alloc o).drewN k).alloc o2) mq (O q)).drewN k2))
   (hc0 : ∀ k o o2 q j, j = 0 ∨ j = 1 → (setBlk (((w.alloc o).drewN k).alloc o2) mq (O q)).cell? ⟨p, j, none⟩ = w.cell? ⟨p, j, none⟩) 
   (hc1 : ∀ k c o2 q, (setBlk (((w.alloc (.cells c 45)).drewN k).alloc o2) mq (O q)).cell? ⟨w.heap.size, 0, none⟩ = c[0]?) 
   (hc2 : ∀ k c o2 q, (setBlk (((w.alloc (.cells c 45)).drewN k).alloc o2) mq (O q)).cell? ⟨w.heap.size, 1, none⟩ = c[1]?) :
    Calls Try.prog 30 #[.pointer (some ⟨p, 0, none⟩), .int .i64 a, .int .i64 b] w (OfNew w mq O) := by
  go_enter Try.func30, Try.ntmps30
  go_wp2
  all_goals
    go_quiet (fail)
    go_wp2
    go_region
    all_goals
      go_wp2
      go_quiet (fail)
      go_wp2
      go_ret2
      refine ⟨_, rfl, ?_, ?_, (Fr.refl _ _).drewN _⟩
      · exact (((Fr.refl _ _).alloc _).drewN _).alloc _
      · exact blk_alloc_at (by simp) _

theorem wf_small {a : Int} (h : 0 ≤ a) (h8 : a < 8) : (Lit.int .i64 a).wf = true := WalkArith.wf_i64 (by omega)
theorem zero65 (w : World) : (zeroValue 65).run Try.prog w = .ok (.pointer none) w := by kernel_rfl

def OfPost (p mq mc : Nat) (g : Value → Option Value) (a b : Int) (S : NetS) (ρ : Roles) (w : World) (e : Ending) (w' : World) : Prop := ∃ f' ρ' qb,
  e = .returned (.tuple #[.pointer (some ⟨qb, 0, none⟩), .bool true]) ∧ NetR w' p mq mc f' g ρ' S ∧ f' (key a b) = some (.pointer (some ⟨qb, 0, none⟩)) ∧ Fr (Fp ρ) w w' ∧ Grows w ρ ρ'

theorem of_calls {p mq mc : Nat} {f g : Value → Option Value} {ρ : Roles} {S : NetS} {w : World} (h : NetR w p mq mc f g ρ S) {a b : Int}
    (ha : 0 ≤ a) (hb : 0 ≤ b) (han : a < S.nodes) (hbn : b < S.nodes) (hab : a ≠ b) :
    Calls Try.prog 30 #[.pointer (some ⟨p, 0, none⟩), .int .i64 a, .int .i64 b] w (OfPost p mq mc g a b S ρ w) := by
  have hn := h.nn
  obtain ⟨l, hk⟩ := key45 (wf_small ha (by omega)) (wf_small hb (by omega))
  have hplt : p < w.heap.size := lt_of_blk h.hp
  have c0 : w.cell? ⟨p, 0, none⟩ = some (.int .i64 S.nodes) := by rw [cell_of_blk h.hp]; rfl
  have c1 : w.cell? ⟨p, 1, none⟩ = some (.map (some mq)) := by rw [cell_of_blk h.hp]; rfl
  have hab' : (a == b) = false := by simpa using hab
  rcases h.hS a b with ⟨hf, hts⟩ | ⟨qb, sl, bs, hf, _⟩
  · obtain ⟨O, hO⟩ : ∃ O : Nat → Obj, ∀ q (W : World), W.heap[mq]? = w.heap[mq]? → (Instr.mapUpdate 57 (.map (some mq)) (key a b) (.pointer (some ⟨q, 0, none⟩))).run Try.prog W = .ok () (setBlk W mq (O q)) ∧
        MapAt Try.prog 45 (setBlk W mq (O q)) mq (upd f (key a b) (.pointer (some ⟨q, 0, none⟩))) :=
      ⟨fun q => Classical.choose (h.hq.store law45 Try.underlying57 hk (.pointer (some ⟨q, 0, none⟩))), fun q => Classical.choose_spec (h.hq.store law45 Try.underlying57 hk (.pointer (some ⟨q, 0, none⟩)))⟩
    have hmqlt := h.hq.lt
    have hpmq : p ≠ mq := fun e => by have := h.rp; rw [e, h.rq] at this; simp at this
    have hsame : ∀ k o o2, (((w.alloc o).drewN k).alloc o2).heap[mq]? = w.heap[mq]? := fun k o o2 => by
      rw [blk_alloc (by simp; omega), blk_drewN, blk_alloc hmqlt]
    refine (of_new p mq a b S.nodes w O c0 c1 hplt ha hb han hbn hab' hn.2 ?_ (fun k o o2 q => (hO q _ (hsame k o o2)).1) ?_ ?_ ?_ ?_).mono ?_
    · intro k o
      have := (h.hq.fr (w' := (w.alloc o).drewN k) (F := fun _ => False) (by simp) (by simp)).look law45 Try.underlying57 hk (zero65 _)
      rw [hf] at this
      exact this
    · intro k k2 o o2 q
      have := (hO q _ (hsame k o o2)).2
      have := (this.of_blk (w' := (setBlk (((w.alloc o).drewN k).alloc o2) mq (O q)).drewN k2) rfl).look law45 Try.underlying57 hk (zero65 _)
      rw [upd_same] at this
      exact this
    · intro k o o2 q j _
      refine World.cell?_of_block ?_
      show (setBlk _ _ _).heap[p]? = w.heap[p]?
      rw [setBlk_other hpmq, blk_alloc (by simp; omega), blk_drewN, blk_alloc hplt]
    · intro k c o2 q
      refine cell_of_blk (E := 45) (fz := (0, 0)) ?_ 0
      rw [setBlk_other (by omega), blk_alloc (by simp), blk_drewN, blk_alloc_new]
    · intro k c o2 q
      refine cell_of_blk (E := 45) (fz := (0, 0)) ?_ 1
      rw [setBlk_other (by omega), blk_alloc (by simp), blk_drewN, blk_alloc_new]
    · rintro e w' ⟨W, rfl, hfr, hnew, hfr'⟩
      have hmqW : W.heap[mq]? = w.heap[mq]? := hfr.blk mq hmqlt (by simp)
      have hm' := (hO (w.heap.size + 1) W hmqW).2
      have hWs := hfr.size
      have hW1 : w.heap.size + 1 < W.heap.size := lt_of_blk hnew
      have hsz : (setBlk W mq (O (w.heap.size + 1))).heap.size = W.heap.size := by simp [setBlk]
      have hs' := hfr'.size
      have hq' : w'.heap[w.heap.size + 1]? = some (.cells #[.slice none 0 0] 70 (0, 0)) := by
        rw [hfr'.blk _ (by omega) (by simp), setBlk_other (by omega)]; exact hnew
      have hnone : ∀ n a b, ρ (w.heap.size + 1) ≠ some (n, a, b) := fun n a b e => by have := h.lt (w.heap.size + 1) (by rw [e]; simp); omega
      refine ⟨upd f (key a b) (.pointer (some ⟨w.heap.size + 1, 0, none⟩)), fun r => if r = w.heap.size + 1 then some (3, a, b) else ρ r, w.heap.size + 1, rfl, ?_, upd_same _ _ _, ?_, ?_⟩
      · have hr : ∀ r, r < w.heap.size → r ≠ mq → w'.heap[r]? = w.heap[r]? := fun r hr hne => by
          rw [hfr'.blk _ (by omega) (by simp), setBlk_other hne, hfr.blk _ hr (by simp)]
        have := h.turn (w' := w') (a := a) (b := b) (ρ' := fun r => if r = w.heap.size + 1 then some (3, a, b) else ρ r) (f' := upd f (key a b) (.pointer (some ⟨w.heap.size + 1, 0, none⟩))) (ts := [])
          (by omega) (fun r hr' _ hne => ⟨hr r hr' hne, by simp; omega⟩) (hm'.fr hfr' (by simp)) (by have := h.hq.lt; simp; omega)
          (fun r hr => by
            by_cases e : r = w.heap.size + 1
            · omega
            · simp only [e, if_false] at hr; have := h.lt r hr; omega)
          (fun c d hcd => upd_other _ (fun e => by have := key_inj e; omega))
          (.inr ⟨w.heap.size + 1, .slice none 0 0, [], upd_same _ _ _, by simp, hq', ⟨rfl, World.ownsRow_nil _ _ _ _, by simp [Value.ownBlock], by simp, by simp, by simp⟩⟩) (by simp)
        have hS : ({ S with q := fun c d => if c = a ∧ d = b then [] else S.q c d } : NetS) = S := by
          have : (fun c d => if c = a ∧ d = b then [] else S.q c d) = S.q := by
            funext c d
            split
            · rename_i h; obtain ⟨rfl, rfl⟩ := h; exact hts.symm
            · rfl
          rw [this]
        rwa [hS] at this
      · refine ((hfr.mono (fun _ _ h => h.elim)).trans' (G := Fp ρ) (((Fr.refl _ W).setBlk (b := mq) (fun _ => by simp [h.rq]) _).trans (hfr'.mono (fun _ _ h => h.elim))) (fun _ _ => id))
      · intro r hr h1 h2
        simp only [h2] at h1
        split at h1
        · omega
        · exact h1 rfl
  · refine (of_has p mq qb a b S.nodes w c0 c1 hplt ha hb han hbn hab' hn.2 ?_).mono ?_
    · intro k o
      have := (h.hq.fr (w' := (w.alloc o).drewN k) (F := fun _ => False) (by simp) (by simp)).look law45 Try.underlying57 hk (zero65 _)
      rw [hf] at this
      exact this
    · rintro e w' ⟨rfl, hfr⟩
      exact ⟨f, ρ, qb, rfl, h.fr hfr (by simp), hf, hfr.mono (fun _ _ h => h.elim), fun _ _ => id⟩

theorem not_right (S : NetS) (a b : Int) : ∀ n : Int, ¬ (0 ≤ a ∧ 0 ≤ b ∧ a < n ∧ b < n ∧ a ≠ b) → a < 0 ∨ b < 0 ∨ n ≤ a ∨ n ≤ b ∨ a = b := by omega

def OfNo (w : World) (e : Ending) (w' : World) : Prop := e = .returned (.tuple #[.pointer none, .bool false]) ∧ Fr (fun _ => False) w w'
set_option maxHeartbeats 400000 in
theorem of_nil (a b : Int) (w : World) : Calls Try.prog 30 #[.pointer none, .int .i64 a, .int .i64 b] w (OfNo w) := by
  go_enter Try.func30, Try.ntmps30
  go_wp2
  all_goals
    go_ret2
    exact ⟨rfl, by simp⟩
set_option maxHeartbeats 400000 in
theorem of_wrong (p : Nat) (a b n : Int) (w : World) (h0 : w.cell? ⟨p, 0, none⟩ = some (.int .i64 n)) (h : ¬ (0 ≤ a ∧ 0 ≤ b ∧ a < n ∧ b < n ∧ a ≠ b)) :
    Calls Try.prog 30 #[.pointer (some ⟨p, 0, none⟩), .int .i64 a, .int .i64 b] w (OfNo w) := by
  by_cases hab : a = b
  · subst hab
    go_enter Try.func30, Try.ntmps30
    go_wp2
    all_goals
      go_ret2
      exact ⟨rfl, by simp⟩
  · have hab' : (a == b) = false := by simpa using hab
    have h' : a < 0 ∨ b < 0 ∨ n ≤ a ∨ n ≤ b := by omega
    clear h hab
    go_enter Try.func30, Try.ntmps30
    go_wp2
    all_goals
      go_ret2
      exact ⟨rfl, by simp⟩
end Go.Proofs.Ytheogcihnclehaa
