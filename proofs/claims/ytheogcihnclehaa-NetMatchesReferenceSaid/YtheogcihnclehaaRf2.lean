/- The reference network: what a turn of its messages or of its cut lines leaves; New, take. -/
import Derived.Test.YtheogcihnclehaaRf1
import Derived.Maps.AppendAt
namespace Go.Proofs.Ytheogcihnclehaa
open Go.RowKit Go.Pl Go.WideMaps

def RefA (w : World) (r : Nat) (σ : Nat → Prop) (R : RefS) : Prop := ∃ mv cv, RefAt w r σ R mv cv
def RPost (r : Nat) (σ : Nat → Prop) (R' : RefS) (v : Value) (w : World) (e : Ending) (w' : World) : Prop :=
  e = .returned v ∧ ∃ σ', RefA w' r σ' R' ∧ Fr σ w w' ∧ ∀ k, k < w.heap.size → σ' k → σ k

theorem mcells_len : ∀ x : Msg, (mcells x).length = 3 := fun _ => rfl
theorem pcells_len : ∀ x : Int × Int, (pcells x).length = 2 := fun _ => rfl

theorem own_blk_type {w : World} {B : Nat} {E : TypeId} {c : Nat} {v : Value} {n : Nat} {xs : List Value} (h : w.ownsRow B E c v n xs) {k : Nat} (hk : v.ownBlock = some k) : ∃ cur, w.heap[k]? = some (.cells cur E (0, 0)) := by
  rcases h.2 with ⟨h1, _⟩ | ⟨g, cap, cur, h1, _, h3, _⟩
  · rw [h1] at hk; simp [Value.ownBlock] at hk
  · rw [h1] at hk; simp [Value.ownBlock] at hk; subst hk; exact ⟨cur, h3⟩

section
variable {w W : World} {r : Nat} {σ : Nat → Prop} {R : RefS} {mv cv : Value}

theorem RefAt.rm (h : RefAt w r σ R mv cv) : mv.ownBlock ≠ some r := fun e => by
  obtain ⟨cur, h1⟩ := own_blk_type h.hm e; have := h.hp; rw [h1] at this; simp at this
theorem RefAt.rc (h : RefAt w r σ R mv cv) : cv.ownBlock ≠ some r := fun e => by
  obtain ⟨cur, h1⟩ := own_blk_type h.hc e; have := h.hp; rw [h1] at this; simp at this
theorem RefAt.mc (h : RefAt w r σ R mv cv) {k : Nat} (hk : cv.ownBlock = some k) : mv.ownBlock ≠ some k := fun e => by
  obtain ⟨cur, h1⟩ := own_blk_type h.hm e; obtain ⟨cur2, h2⟩ := own_blk_type h.hc hk; rw [h1] at h2; simp at h2
theorem RefAt.fr {w' : World} (h : RefAt w r σ R mv cv) {F : Nat → Prop} (hf : Fr F w w') (hd : ∀ k, σ k → ¬ F k) : RefAt w' r σ R mv cv :=
  ⟨hf.obj h.hp (hd r h.own), h.own, ownsRow_of_blk h.hm fun k hk => hf.blk k (h.lt k (h.om k hk)) (hd k (h.om k hk)), ownsRow_of_blk h.hc fun k hk => hf.blk k (h.lt k (h.oc k hk)) (hd k (h.oc k hk)),
    h.om, h.oc, fun k hk => Nat.lt_of_lt_of_le (h.lt k hk) hf.size, h.nn⟩

/-- The messages turn. -/
theorem RefAt.msgs (h : RefAt w r σ R mv cv) (hfr : Fr (fun k => mv.ownBlock = some k) w W) {v' : Value} {ms' : List Msg} {n : Nat} (hn : n = ms'.length) (hown : W.ownsRow 0 77 3 v' n (ms'.flatMap mcells))
    (hloc : ∀ k, v'.ownBlock = some k → mv.ownBlock = some k ∨ w.heap.size ≤ k) :
    (W.cell? ⟨r, 1, none⟩ = some mv ∧ W.frozen? ⟨r, 1, none⟩ = false) ∧
    ∃ σ', RefAt (W.setCell ⟨r, 1, none⟩ v') r σ' { R with ms := ms' } v' cv ∧ Fr σ w (W.setCell ⟨r, 1, none⟩ v') ∧ ∀ k, k < w.heap.size → σ' k → σ k := by
  subst hn
  have hr := hfr.obj h.hp h.rm
  have hrlt := lt_of_blk h.hp
  have hv'r : ∀ k, v'.ownBlock = some k → k ≠ r := fun k hk e => by
    subst e
    rcases hloc k hk with h1 | h1
    · exact h.rm h1
    · omega
  have hfr2 : Fr σ w (W.setCell ⟨r, 1, none⟩ v') := (hfr.mono fun k _ hk => h.om k hk).setCell (fun _ => h.own) _
  refine ⟨⟨by rw [cell_of_blk hr]; rfl, free_of_blk hr 1⟩, fun k => σ k ∨ v'.ownBlock = some k, ⟨?_, .inl h.own, ?_, ?_, fun k hk => .inr hk, fun k hk => .inl (h.oc k hk), ?_, h.nn⟩, hfr2, ?_⟩
  · have := blk_setCell_same (off := 1) hr v'; simpa using this
  · exact ownsRow_of_blk hown fun k hk => blk_setCell (hv'r k hk) _
  · refine ownsRow_of_blk h.hc fun k hk => ?_
    rw [blk_setCell (fun e => h.rc (by simp only at e; rw [← e]; exact hk)), hfr.blk k (h.lt k (h.oc k hk)) (h.mc hk)]
  · rintro k (hk | hk)
    · exact Nat.lt_of_lt_of_le (h.lt k hk) hfr2.size
    · have := (hown.lt k hk).2; simpa [World.setCell] using this
  · rintro k hlt (hk | hk)
    · exact hk
    · rcases hloc k hk with h1 | h1
      · exact h.om k h1
      · omega

/-- The cut lines turn. -/
theorem RefAt.cuts (h : RefAt w r σ R mv cv) (hfr : Fr (fun _ => False) w W) {v' : Value} {cs' : List (Int × Int)} {n : Nat} (hn : n = cs'.length) (hown : W.ownsRow 0 45 2 v' n (cs'.flatMap pcells))
    (hloc : ∀ k, v'.ownBlock = some k → w.heap.size ≤ k) :
    (W.cell? ⟨r, 2, none⟩ = some cv ∧ W.frozen? ⟨r, 2, none⟩ = false) ∧
    ∃ σ', RefAt (W.setCell ⟨r, 2, none⟩ v') r σ' { R with cut := cs' } mv v' ∧ Fr σ w (W.setCell ⟨r, 2, none⟩ v') ∧ ∀ k, k < w.heap.size → σ' k → σ k := by
  subst hn
  have hr := hfr.obj h.hp id
  have hrlt := lt_of_blk h.hp
  have hfr2 : Fr σ w (W.setCell ⟨r, 2, none⟩ v') := (hfr.mono fun k _ hk => hk.elim).setCell (fun _ => h.own) _
  refine ⟨⟨by rw [cell_of_blk hr]; rfl, free_of_blk hr 2⟩, fun k => σ k ∨ v'.ownBlock = some k, ⟨?_, .inl h.own, ?_, ?_, fun k hk => .inl (h.om k hk), fun k hk => .inr hk, ?_, h.nn⟩, hfr2, ?_⟩
  · have := blk_setCell_same (off := 2) hr v'; simpa using this
  · refine ownsRow_of_blk h.hm fun k hk => ?_
    rw [blk_setCell (fun e => h.rm (by simp only at e; rw [← e]; exact hk)), hfr.blk k (h.lt k (h.om k hk)) id]
  · exact ownsRow_of_blk hown fun k hk => blk_setCell (fun e => by simp only at e; have := hloc k hk; omega) _
  · rintro k (hk | hk)
    · exact Nat.lt_of_lt_of_le (h.lt k hk) hfr2.size
    · have := (hown.lt k hk).2; simpa [World.setCell] using this
  · rintro k hlt (hk | hk)
    · exact hk
    · have := hloc k hk; omega
end

def RNew (n : Int) (w : World) (e : Ending) (w' : World) : Prop := ∃ r σ, e = .returned (.tuple #[.pointer (some ⟨r, 0, none⟩), .int .i64 0]) ∧ RefA w' r σ ⟨n, [], []⟩ ∧ Fr (fun _ => False) w w' ∧ ∀ k, σ k → w.heap.size ≤ k
theorem rnew_yes (n : Int) (w : World) (h1 : 1 ≤ n) (h2 : n ≤ 8) : Calls Try.prog 12 #[.int .i64 n] w (RNew n w) := by
  have hfin : Hid (RNew n w (.returned (.tuple #[.pointer (some ⟨w.heap.size, 0, none⟩), .int .i64 0])) (w.alloc (.cells #[.int .i64 n, .slice none 0 0, .slice none 0 0] 64))) :=
    ⟨_, fun k => k = w.heap.size, rfl, ⟨.slice none 0 0, .slice none 0 0, blk_alloc_new _ _, rfl, World.ownsRow_nil _ _ _ _, World.ownsRow_nil _ _ _ _, by simp [Value.ownBlock], by simp [Value.ownBlock], by simp, h1, h2⟩, by simp, by simp⟩
  go_enter Try.func12, Try.ntmps12
  go_wp2
  go_ret2
  exact hfin.out
theorem rnew_no (n : Int) (w : World) (h : n < 1 ∨ 8 < n) : Calls Try.prog 12 #[.int .i64 n] w fun e w' => e = .returned (.tuple #[.pointer none, .int .i64 1]) ∧ w = w' := by
  go_enter Try.func12, Try.ntmps12
  rcases h with h | h
  · have t1 : decide (n < 1) = true := by simpa using h
    go_wp2
    go_ret2
    exact ⟨rfl, rfl⟩
  · have t1 : decide (n < 1) = false := by simp; omega
    have t2 : decide (8 < n) = true := by simpa using h
    go_wp2
    go_ret2
    exact ⟨rfl, rfl⟩
end Go.Proofs.Ytheogcihnclehaa
