/- The reference network: take. -/
import Derived.Test.YtheogcihnclehaaRf2
namespace Go.Proofs.Ytheogcihnclehaa
open Go.RowKit Go.Pl Go.WideMaps

theorem info77 : (Try.prog.info? 77).map (fun i => (i.zero, i.size, i.bytes)) = some (some (.agg #[.int .i64 0, .int .i64 0, .string ByteArray.empty]), 3, 32) := by kernel_rfl
theorem info45 : (Try.prog.info? 45).map (fun i => (i.zero, i.size, i.bytes)) = some (some (.agg #[.int .i64 0, .int .i64 0]), 2, 16) := by kernel_rfl

theorem mcells_one {ms : List Msg} : ∀ v ∈ ms.flatMap mcells, v.oneCell' = true := by
  intro v hv
  obtain ⟨x, _, hx⟩ := List.mem_flatMap.1 hv
  simp [mcells] at hx
  rcases hx with rfl | rfl | rfl <;> rfl

theorem take_facts {w : World} {r : Nat} {σ : Nat → Prop} {R : RefS} {cv : Value} {g L cap i : Nat} (h : RefAt w r σ R (.slice (some ⟨g, 0, none⟩) L cap) cv) (hL : L = R.ms.length) (hcap : L ≤ cap) (hi : i < L) :
    ((w.alloc (.cells #[] 77)).ownsRow 0 77 3 (.slice (some ⟨w.heap.size, 0, none⟩) 0 0) 0 [] ∧ (∀ j u, ((R.ms.take i).flatMap mcells)[j]? = some u → (w.alloc (.cells #[] 77)).cell? ((⟨g, 0, none⟩ : Addr).add j) = some u)) ∧
    ∃ A, (if cap = i + 1 then some (⟨g, 0, none⟩ : Addr) else some ⟨g, (i + 1) * 3, none⟩) = some A ∧
    ∀ v1 w1, w1.ownsRow 0 77 3 v1 (0 + i) ([] ++ (R.ms.take i).flatMap mcells) → (w.alloc (.cells #[] 77)).grownBy w1 (some w.heap.size) → (v1.ownBlock = some w.heap.size ∨ v1.ownBlock = some (w.alloc (.cells #[] 77)).heap.size) →
      w1.ownsRow 0 77 3 v1 i ((R.ms.take i).flatMap mcells) ∧ (∀ j u, ((R.ms.drop (i + 1)).flatMap mcells)[j]? = some u → w1.cell? (A.add j) = some u) ∧ w1.cell? ⟨r, 1, none⟩ = some (.slice (some ⟨g, 0, none⟩) L cap) ∧
      ∀ v2 w2, w2.ownsRow 0 77 3 v2 (i + (L - (i + 1))) ((R.ms.take i).flatMap mcells ++ (R.ms.drop (i + 1)).flatMap mcells) → w1.grownBy w2 v1.ownBlock → (v2.ownBlock = v1.ownBlock ∨ v2.ownBlock = some w1.heap.size) →
        (w2.cell? ⟨r, 1, none⟩ = some (.slice (some ⟨g, 0, none⟩) L cap) ∧ w2.frozen? ⟨r, 1, none⟩ = false) ∧ RPost r σ { R with ms := R.ms.eraseIdx i } (.tuple #[]) w (.returned (.tuple #[])) (w2.setCell ⟨r, 1, none⟩ v2) := by
  have hblk : ∀ k, k < w.heap.size → (w.alloc (.cells #[] 77)).heap[k]? = w.heap[k]? := fun k hk => blk_alloc hk _
  have hg : g < w.heap.size := h.lt g (h.om g rfl)
  have hcell := fun j u => h.hm.cells (g := g) rfl j u
  refine ⟨⟨⟨rfl, .inr ⟨w.heap.size, 0, #[], rfl, Nat.zero_le _, blk_alloc_new _ _, Nat.le_refl _, Nat.zero_le _, rfl, rfl⟩⟩, fun j u hj => ?_⟩, ?_⟩
  · rw [← flat_take mcells_len, List.getElem?_take] at hj
    split at hj
    · have := hcell j u hj
      rw [Addr.add_lit] at this ⊢
      rw [World.cell?_of_block (hblk g hg)]; exact this
    · simp at hj
  · obtain ⟨A, hA, hsrc⟩ : ∃ A : Addr, (if cap = i + 1 then some (⟨g, 0, none⟩ : Addr) else some ⟨g, (i + 1) * 3, none⟩) = some A ∧ ((A = ⟨g, (i + 1) * 3, none⟩) ∨ cap = i + 1) := by
      by_cases h : cap = i + 1
      · exact ⟨_, if_pos h, .inr h⟩
      · exact ⟨_, if_neg h, .inl rfl⟩
    refine ⟨A, hA, fun v1 w1 h1 hg1 hl1 => ?_⟩
    rw [Nat.zero_add, List.nil_append] at h1
    have hs1 := hg1.size
    simp at hs1
    have hf1 : Fr (fun _ => False) w w1 := ((Fr.refl _ w).alloc _).grown hg1 fun k hk hlt => by simp at hk; omega
    have hv1 : ∀ k, v1.ownBlock = some k → w.heap.size ≤ k := fun k hk => by
      rcases hl1 with e | e
      · rw [hk] at e; simp at e; omega
      · rw [hk] at e; simp at e; omega
    refine ⟨h1, fun j u hj => ?_, hf1.cell (by rw [cell_of_blk h.hp]; rfl) id, fun v2 w2 h2 hg2 hl2 => ?_⟩
    · rw [← flat_drop mcells_len, List.getElem?_drop] at hj
      rcases hsrc with rfl | hcp
      · have := hcell _ u hj
        rw [Addr.add_lit] at this ⊢
        rw [World.cell?_of_block (hf1.blk g hg id), ← this]
        simp
      · have hlen : (R.ms.flatMap mcells).length = L * 3 := by rw [flat_len mcells_len, hL]
        rw [List.getElem?_eq_none (by rw [hlen, show L = i + 1 by omega]; omega)] at hj
        simp at hj
    · have hf2 : Fr (fun _ => False) w w2 := hf1.grown hg2 fun k hk hlt => by have := hv1 k hk; omega
      obtain ⟨hc, σ', h3, h4, h5⟩ := h.msgs (W := w2) (v' := v2) (ms' := R.ms.eraseIdx i) (n := i + (L - (i + 1))) (hf2.mono fun _ _ h => h.elim) (by rw [List.length_eraseIdx, if_pos (by omega)]; omega)
        (by rw [List.eraseIdx_eq_take_drop_succ, List.flatMap_append]; exact h2) (fun k hk => .inr (by
          rcases hl2 with e | e
          · exact hv1 k (e ▸ hk)
          · rw [hk] at e; simp at e; have := hf1.size; omega))
      exact ⟨hc, rfl, σ', ⟨_, _, h3⟩, h4, h5⟩

set_option maxHeartbeats 1000000 in
theorem rtake_calls {w : World} {r : Nat} {σ : Nat → Prop} {R : RefS} {mv cv : Value} {i : Nat} (h : RefAt w r σ R mv cv) (hi : i < R.ms.length) (hLm : R.ms.length ≤ 1000) :
    Calls Try.prog 37 #[.pointer (some ⟨r, 0, none⟩), .int .i64 i] w (RPost r σ { R with ms := R.ms.eraseIdx i } (.tuple #[]) w) := by
  obtain ⟨sa, g, cap, rfl, hcap, hcm, hrows⟩ := own_rows mcells_len h.hm
  obtain ⟨x, hx⟩ : ∃ x, R.ms[i]? = some x := ⟨_, List.getElem?_eq_getElem hi⟩
  obtain ⟨rfl, _, _⟩ := hrows i x hx
  obtain ⟨L, hL⟩ : ∃ L, L = R.ms.length := ⟨_, rfl⟩
  rw [← hL] at h hcap hi hLm
  obtain ⟨⟨x1, x2⟩, A, hA, hst⟩ := take_facts h hL hcap hi
  have c1 : w.cell? ⟨r, 1, none⟩ = some (.slice (some ⟨g, 0, none⟩) L cap) := by rw [cell_of_blk h.hp]; rfl
  have hrlt : r < w.heap.size := lt_of_blk h.hp
  obtain ⟨i0, hi0, hz0, hz1, hz2⟩ := info_parts info77
  have hown1 := Lib.hid x1
  have hnews1 := Lib.hid x2
  have hstH := Lib.hid hst
  have hl1 : Hid (((R.ms.take i).flatMap mcells).length = i * 3) := by rw [Hid, flat_len mcells_len, List.length_take]; congr 1; omega
  have hl2 : Hid (((R.ms.drop (i + 1)).flatMap mcells).length = (L - (i + 1)) * 3) := by rw [Hid, flat_len mcells_len, List.length_drop, hL]
  have t1 : (i : Int) ≤ cap := by omega
  have t2 : (i : Int) + 1 ≤ L := by omega
  have t3 : (L : Int) ≤ cap := by omega
  clear x1 x2 hst hL hrows hx h
  go_enter Try.func37, Try.ntmps37
  go_wp2_with (first
    | (at_builtin; refine wpList_append_own_at _ rfl _ _ 61 rfl 0 77 i0 (.agg #[.int .i64 0, .int .i64 0, .string ByteArray.empty]) 3 32 Try.underlying61 hi0 hz0 hz1 hz2 rfl (by decide) (.slice (some ⟨w.heap.size, 0, none⟩) 0 0) 0 [] rfl hown1.out ⟨g, 0, none⟩ i cap ((R.ms.take i).flatMap mcells) rfl hl1.out hnews1.out mcells_one (by unfold maxLen; omega) (by omega) (Nat.zero_le _) ?_; intro v1 w1 x1 x2 _ x3; obtain ⟨y1, y2, y3, y4⟩ := hstH.out v1 w1 x1 x2 x3; obtain ⟨a1, c1', rfl⟩ := ownsRow_slice y1; have z1 := Lib.hid y1; have z2 := Lib.hid y2; have z4 := Lib.hid y4; clear x1 x2 x3 y1 y2 y4)
    | (at_builtin; refine wpList_append_own_at _ rfl _ _ 61 rfl 0 77 i0 (.agg #[.int .i64 0, .int .i64 0, .string ByteArray.empty]) 3 32 Try.underlying61 hi0 hz0 hz1 hz2 rfl (by decide) (.slice a1 i c1') i ((R.ms.take i).flatMap mcells) rfl z1.out A (L - (i + 1)) (cap - (i + 1)) ((R.ms.drop (i + 1)).flatMap mcells) rfl hl2.out z2.out mcells_one (by unfold maxLen; omega) (by omega) (Nat.zero_le _) ?_; intro v2 w2 x1 x2 _ x3; obtain ⟨⟨c2, f2⟩, hfin⟩ := z4.out v2 w2 x1 x2 x3; obtain ⟨a2, c2', rfl⟩ := ownsRow_slice x1; have hfin := Lib.hid hfin; clear x1 x2 x3))
  go_end0
  exact hfin.out
end Go.Proofs.Ytheogcihnclehaa
