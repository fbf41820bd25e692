/- The order of Ids; slices.Sort at a row of Ids of one's own. -/
import Derived.Test.YtcafnanbdmapgaaL7
import Derived.Test.YtcafnanbdmapgaaSrt1
set_option linter.unusedVariables false
set_option linter.unusedSimpArgs false
namespace Go.Proofs.Ytcafnanbdmapgaa
open Go.RowKit Go.Pl Go.Sort Go.Shelf

/-- The order of Ids. -/
abbrev sl (s t : ByteArray) : Prop := Op.bytesLess s.toList t.toList = true
theorem bl_eq : ∀ (x y : List UInt8), Op.bytesLess x y = decide (x < y)
  | [], [] => by simp [Op.bytesLess]
  | _ :: _, [] => by simp [Op.bytesLess]
  | [], _ :: _ => by simp [Op.bytesLess]
  | a :: x, b :: y => by
    rw [Op.bytesLess, bl_eq x y]
    simp only [List.cons_lt_cons_iff]
    by_cases h1 : a < b <;> by_cases h2 : a = b <;> by_cases h3 : x < y <;> simp [h1, h2, h3]
theorem sl_iff (s t : ByteArray) : sl s t ↔ s.data.toList < t.data.toList := by
  unfold sl; rw [bl_eq, decide_eq_true_iff, ByteArray.toList_eq, ByteArray.toList_eq]
theorem sl_irrefl (s : ByteArray) : ¬ sl s s := by rw [sl_iff]; exact List.lt_irrefl _
theorem sl_trans {s t u : ByteArray} (h : sl s t) (k : sl t u) : sl s u := by rw [sl_iff] at *; exact List.lt_trans h k
theorem sl_asymm {s t : ByteArray} (h : sl s t) : ¬ sl t s := fun k => sl_irrefl _ (sl_trans h k)
theorem ba_ext {s t : ByteArray} (h : s.data.toList = t.data.toList) : s = t := ByteArray.ext (Array.toList_inj.1 h)
theorem sl_tri (s t : ByteArray) : sl s t ∨ s = t ∨ sl t s := by
  rw [sl_iff, sl_iff]
  by_cases h1 : s.data.toList < t.data.toList
  · exact .inl h1
  · by_cases h2 : t.data.toList < s.data.toList
    · exact .inr (.inr h2)
    · exact .inr (.inl (ba_ext (List.le_antisymm (by simpa using h2) (by simpa using h1))))
/-- The Ids in order. -/
def srtS (A : List ByteArray) : List ByteArray := ((A.map fun s => s.data.toList).mergeSort fun x y => decide (x ≤ y)).map fun l => ⟨l.toArray⟩
theorem srtS_perm (A : List ByteArray) : (srtS A).Perm A := by
  have h := (List.mergeSort_perm (A.map fun s => s.data.toList) (fun x y => decide (x ≤ y))).map (fun l : List UInt8 => (⟨l.toArray⟩ : ByteArray))
  rw [List.map_map] at h
  have e : ((fun l : List UInt8 => (⟨l.toArray⟩ : ByteArray)) ∘ fun s : ByteArray => s.data.toList) = id := by funext s; simp
  rw [e, List.map_id] at h
  exact h
theorem srtS_len (A : List ByteArray) : (srtS A).length = A.length := (srtS_perm A).length_eq
theorem srtS_le (A : List ByteArray) : (srtS A).Pairwise fun s t => ¬ sl t s := by
  unfold srtS
  rw [List.pairwise_map]
  refine (List.pairwise_mergeSort (le := fun x y : List UInt8 => decide (x ≤ y)) ?_ ?_ _).imp ?_
  · intro a b c h1 h2
    simp only [decide_eq_true_eq] at *
    exact List.le_trans h1 h2
  · intro a b
    simp only [Bool.or_eq_true, decide_eq_true_eq]
    exact List.le_total a b
  · intro a b h
    rw [sl_iff]
    simpa using h
theorem srtS_lt {A : List ByteArray} (h : A.Nodup) : (srtS A).Pairwise sl := by
  have h1 := srtS_le A
  have h2 : (srtS A).Pairwise (· ≠ ·) := (srtS_perm A).nodup_iff.2 h
  refine (h1.and h2).imp ?_
  rintro s t ⟨h3, h4⟩
  rcases sl_tri s t with h | h | h
  · exact h
  · exact absurd h h4
  · exact absurd h h3

theorem sortS_calls {w : World} {B : Nat} {v : Value} {A : List ByteArray} (hO : oStr w B v A) (hl : A.length ≤ 10000000) : Calls Try.prog 38 #[v] w fun e w' => e = .returned (.tuple #[]) ∧ oStr w' B v (srtS A) ∧ Fr (fun k => v.ownBlock = some k) w w' := by
  by_cases hne : A = []
  · subst hne
    obtain ⟨p, cap, rfl, _⟩ := hO.src strC_len
    exact (AnyM.slices_Sort_string_none Try.sortS p cap w).mono fun e w' ⟨h1, h2⟩ => ⟨h1, by rw [h2, show srtS [] = [] from List.eq_nil_of_length_eq_zero (srtS_len [])]; exact hO, by rw [h2]; exact Fr.refl _ _⟩
  · obtain ⟨hlen, ⟨_, h0⟩ | ⟨g, cap, cur, rfl, hB, hb, h4, h5, h6, h7⟩⟩ := hO
    · exact absurd (List.eq_nil_of_length_eq_zero h0) hne
    · have hal : (A.map fun s => s.data.toList).length = A.length := by simp
      have hcell : ∀ (j : Nat) s, A[j]? = some s → cur[j]? = some (.string s) := fun j s hs => by
        have hi := (List.getElem?_eq_some_iff.1 hs).1
        have := flat_at strC_len A j s hs 0 (by omega)
        rw [← h7] at this
        simp only [Nat.mul_one, Nat.add_zero] at this
        rw [List.getElem?_take_of_lt hi, Array.getElem?_toList] at this
        exact this
      have := AnyM.slices_Sort_string Try.sortS g 0 cap (A.map fun s => s.data.toList) w (fun j hj => by
        simp only [List.size_toArray, hal] at hj
        refine ⟨?_, free_of_blk hb _⟩
        obtain ⟨s, hs⟩ : ∃ s, A[j]? = some s := ⟨_, List.getElem?_eq_getElem hj⟩
        rw [cell_of_blk hb, Nat.zero_add, hcell j s hs]
        rw [getElem!_pos _ j (by simpa using hj)]
        have : A[j] = s := (List.getElem?_eq_some_iff.1 hs).2
        simp [this]) (lt_of_blk hb) (by rw [hal]; omega)
      rw [hal] at this
      refine Calls.mono this ?_
      rintro e w' ⟨he, n, os, rfl⟩
      obtain ⟨c1, c2⟩ := sw_blk encStr hb 0 n ((A.map fun s => s.data.toList).mergeSort fun x y => decide (x ≤ y)).toArray os
      unfold sortWorld at c1 c2
      refine ⟨he, ?_, c2.mono fun r _ e => by rw [e]; rfl⟩
      have hml : ((A.map fun s => s.data.toList).mergeSort fun x y => decide (x ≤ y)).length = A.length := by rw [List.length_mergeSort, hal]
      refine ⟨?_, .inr ⟨g, cap, _, ?_, hB, c1, ?_, h5, ?_, ?_⟩⟩
      · rw [flat_len strC_len]
      · rw [srtS_len]
      · rw [srtS_len]; exact h4
      · rw [← h6]; unfold putCells; simp
      · apply List.ext_getElem?
        intro i
        rw [srtS_len, Nat.mul_one]
        by_cases hi : i < A.length
        · rw [List.getElem?_take_of_lt hi, Array.getElem?_toList]
          obtain ⟨l, hl2⟩ : ∃ l, ((A.map fun s => s.data.toList).mergeSort fun x y => decide (x ≤ y))[i]? = some l := ⟨_, List.getElem?_eq_getElem (by omega)⟩
          have h8 : (srtS A)[i]? = some ⟨l.toArray⟩ := by unfold srtS; rw [List.getElem?_map, hl2]; rfl
          have h9 := flat_at strC_len (srtS A) i _ h8 0 (by omega)
          simp only [Nat.mul_one, Nat.add_zero] at h9
          rw [h9]
          unfold putCells
          have hcs : i < cur.size := by rw [h6]; omega
          rw [Array.getElem?_mapIdx, Array.getElem?_eq_getElem hcs]
          simp only [Option.map_some, Nat.zero_le, true_and, Nat.zero_add, List.size_toArray, hml, Nat.sub_zero]
          rw [if_pos hi, getElem!_pos _ i (by simpa [hml] using hi)]
          have : ((A.map fun s => s.data.toList).mergeSort fun x y => decide (x ≤ y))[i]'(by omega) = l := (List.getElem?_eq_some_iff.1 hl2).2
          simp [this]
        · have h8 : ((srtS A).flatMap strC).length ≤ i := by rw [flat_len strC_len, srtS_len]; omega
          rw [List.getElem?_eq_none h8, List.getElem?_eq_none]
          rw [List.length_take]; omega
end Go.Proofs.Ytcafnanbdmapgaa
