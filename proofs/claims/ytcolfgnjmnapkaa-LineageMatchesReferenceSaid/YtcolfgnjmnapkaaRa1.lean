/- The reference lineage: a field turns; New. -/
import Derived.Test.YtcolfgnjmnapkaaRa0
namespace Go.Proofs.Ytcolfgnjmnapkaa
open Go.RowKit Go.Pl

def RefA (w : World) (r : Nat) (σ : Nat → Prop) (R : RefS) : Prop := ∃ pv mv, RefAt w r σ R pv mv
/-- How each of the reference's methods ends. -/
def RPost (r : Nat) (σ : Nat → Prop) (R' : RefS) (v : Value) (w : World) (e : Ending) (w' : World) : Prop :=
  e = .returned v ∧ ∃ σ', RefA w' r σ' R' ∧ Fr σ w w' ∧ ∀ k, k < w.heap.size → σ' k → σ k

section
variable {w W : World} {r : Nat} {σ : Nat → Prop} {R : RefS} {pv mv : Value}

theorem own_ne_struct {w : World} {B E c n r : Nat} {v : Value} {xs : List Value} {cs : Array Value} {T : TypeId} (hE : E ≠ T) (h : w.ownsRow B E c v n xs) (hr : w.heap[r]? = some (.cells cs T (0, 0))) : v.ownBlock ≠ some r := fun e => by
  rcases h.2 with ⟨h1, _⟩ | ⟨g, cap, cur, h1, _, h3, _⟩
  · rw [h1] at e; simp [Value.ownBlock] at e
  · rw [h1] at e
    simp only [Value.ownBlock, Option.some.injEq] at e
    subst e
    rw [hr] at h3
    simp at h3
    exact hE h3.2.symm

theorem RefAt.rp (h : RefAt w r σ R pv mv) : pv.ownBlock ≠ some r := own_ne_struct (by decide) h.hps h.hp
theorem RefAt.rm (h : RefAt w r σ R pv mv) : mv.ownBlock ≠ some r := own_ne_struct (by decide) h.hms h.hp
theorem RefAt.fr {w' : World} (h : RefAt w r σ R pv mv) {F : Nat → Prop} (hf : Fr F w w') (hd : ∀ k, σ k → ¬ F k) : RefAt w' r σ R pv mv :=
  ⟨hf.obj h.hp (hd r h.own), h.own, ownsRow_fr h.hps hf fun k hk => hd k (h.op k hk), ownsRow_fr h.hms hf fun k hk => hd k (h.om k hk), h.op, h.om, fun k hk => Nat.lt_of_lt_of_le (h.lt k hk) hf.size⟩

/-- The mentioned Ids turn. -/
theorem RefAt.setM (h : RefAt w r σ R pv mv) (hfr : Fr (fun _ => False) w W) {v' : Value} {ms' : List ByteArray} {n : Nat} (hn : n = ms'.length) (hown : W.ownsRow 0 9 1 v' n (ms'.map .string)) (hloc : ∀ k, v'.ownBlock = some k → w.heap.size ≤ k) :
    (W.cell? ⟨r, 1, none⟩ = some mv ∧ W.frozen? ⟨r, 1, none⟩ = false) ∧
    ∃ σ', RefAt (W.setCell ⟨r, 1, none⟩ v') r σ' { R with ms := ms' } pv v' ∧ Fr σ w (W.setCell ⟨r, 1, none⟩ v') ∧ ∀ k, k < w.heap.size → σ' k → σ k := by
  subst hn
  have hr := hfr.obj h.hp id
  have hrlt := lt_of_blk h.hp
  have hfr2 : Fr σ w (W.setCell ⟨r, 1, none⟩ v') := (hfr.mono fun k _ hk => hk.elim).setCell (fun _ => h.own) _
  refine ⟨⟨by rw [cell_of_blk hr]; rfl, free_of_blk hr 1⟩, fun k => σ k ∨ v'.ownBlock = some k, ⟨?_, .inl h.own, ?_, ?_, fun k hk => .inl (h.op k hk), fun k hk => .inr hk, ?_⟩, hfr2, ?_⟩
  · have := blk_setCell_same (off := 1) hr v'; simpa using this
  · refine ownsRow_of_blk (ownsRow_fr h.hps hfr (by simp)) fun k hk => blk_setCell (fun e => h.rp (by simp only at e; rw [← e]; exact hk)) _
  · refine ownsRow_of_blk hown fun k hk => blk_setCell (fun e => ?_) _
    simp only at e; subst e
    have := hloc _ hk; omega
  · rintro k (hk | hk)
    · exact Nat.lt_of_lt_of_le (h.lt k hk) hfr2.size
    · have := (hown.lt k hk).2; simpa [World.setCell] using this
  · rintro k hlt (hk | hk)
    · exact hk
    · have := hloc k hk; omega

/-- The pairs turn. -/
theorem RefAt.setP (h : RefAt w r σ R pv mv) (hfr : Fr (fun _ => False) w W) {v' : Value} {ps' : List (ByteArray × ByteArray)} {n : Nat} (hn : n = ps'.length) (hown : W.ownsRow 0 70 2 v' n (ps'.flatMap scells)) (hloc : ∀ k, v'.ownBlock = some k → w.heap.size ≤ k) :
    (W.cell? ⟨r, 0, none⟩ = some pv ∧ W.frozen? ⟨r, 0, none⟩ = false) ∧
    ∃ σ', RefAt (W.setCell ⟨r, 0, none⟩ v') r σ' { R with ps := ps' } v' mv ∧ Fr σ w (W.setCell ⟨r, 0, none⟩ v') ∧ ∀ k, k < w.heap.size → σ' k → σ k := by
  subst hn
  have hr := hfr.obj h.hp id
  have hrlt := lt_of_blk h.hp
  have hfr2 : Fr σ w (W.setCell ⟨r, 0, none⟩ v') := (hfr.mono fun k _ hk => hk.elim).setCell (fun _ => h.own) _
  refine ⟨⟨by rw [cell_of_blk hr]; rfl, free_of_blk hr 0⟩, fun k => σ k ∨ v'.ownBlock = some k, ⟨?_, .inl h.own, ?_, ?_, fun k hk => .inr hk, fun k hk => .inl (h.om k hk), ?_⟩, hfr2, ?_⟩
  · have := blk_setCell_same (off := 0) hr v'; simpa using this
  · refine ownsRow_of_blk hown fun k hk => blk_setCell (fun e => ?_) _
    simp only at e; subst e
    have := hloc _ hk; omega
  · refine ownsRow_of_blk (ownsRow_fr h.hms hfr (by simp)) fun k hk => blk_setCell (fun e => h.rm (by simp only at e; rw [← e]; exact hk)) _
  · rintro k (hk | hk)
    · exact Nat.lt_of_lt_of_le (h.lt k hk) hfr2.size
    · have := (hown.lt k hk).2; simpa [World.setCell] using this
  · rintro k hlt (hk | hk)
    · exact hk
    · have := hloc k hk; omega
end

def RNew (w : World) (e : Ending) (w' : World) : Prop := ∃ r σ, e = .returned (.pointer (some ⟨r, 0, none⟩)) ∧ RefA w' r σ ⟨[], []⟩ ∧ Fr (fun _ => False) w w' ∧ ∀ k, σ k → w.heap.size ≤ k
theorem rnew_calls (w : World) : Calls Try.prog 13 #[] w (RNew w) := by
  have hfin : Hid (RNew w (.returned (.pointer (some ⟨w.heap.size, 0, none⟩))) (w.alloc (.cells #[.slice none 0 0, .slice none 0 0] 58))) :=
    ⟨_, fun k => k = w.heap.size, rfl, ⟨.slice none 0 0, .slice none 0 0, blk_alloc_new _ _, rfl, World.ownsRow_nil _ _ _ _, World.ownsRow_nil _ _ _ _, by simp [Value.ownBlock], by simp [Value.ownBlock], by simp⟩, by simp, by simp⟩
  go_enter Try.func13, Try.ntmps13
  go_wp2
  go_ret
  exact hfin.out
end Go.Proofs.Ytcolfgnjmnapkaa
