/- slices.Delete of one element, at a slice of slices. -/
import Derived.Test.YtheogcihnclehaaRow
import Derived.Test.YtheogcihnclehaaRows
namespace Go.Proofs.Ytheogcihnclehaa
open Go.RowKit Go.Pl

theorem info38 : (Try.prog.info? 38).map (fun i => (i.zero, i.size, i.bytes)) = some (some (.slice none 0 0), 1, 24) := by kernel_rfl
theorem zero38 (w : World) : (zeroValue 38).run Try.prog w = .ok (.slice none 0 0) w := by kernel_rfl

def DelPost (g n cap i : Nat) (cur : Array Value) (w : World) (e : Ending) (w' : World) : Prop := e = .returned (.slice (some ⟨g, 0, none⟩) (n - 1) cap) ∧
  ∃ cur', w'.heap[g]? = some (.cells cur' 38 (0, 0)) ∧ cur'.size = cur.size ∧ cur'.toList.take (n - 1) = (cur.toList.take n).eraseIdx i ∧ Fr (fun r => r = g) w w'

set_option maxHeartbeats 1000000 in
theorem delete_gen (g n cap i j : Nat) (cur : Array Value) (w : World) (hg : w.heap[g]? = some (.cells cur 38 (0, 0))) (hs : cur.size = cap) (hn : n ≤ cap) (hc : cap ≤ 9223372036854775807) (hij : i < j) (hj : j ≤ n) (hji : j = i + 1)
    (h1 : ∀ u ∈ cur.toList.take n, u.oneCell' = true) :
    Calls Try.prog 38 #[.slice (some ⟨g, 0, none⟩) n cap, .int .i64 i, .int .i64 j] w (DelPost g n cap i cur w) := by
  obtain ⟨i0, hi0, hz0, hz1, hz2⟩ := info_parts info38
  obtain ⟨news, hnews⟩ : ∃ news, news = (cur.toList.take n).drop j := ⟨_, rfl⟩
  have hlen : news.length = n - j := by rw [hnews]; simp; omega
  obtain ⟨A, hA, hsrc⟩ : ∃ A : Addr, (if cap = j then some (⟨g, 0, none⟩ : Addr) else some ⟨g, j, none⟩) = some A ∧ Hid (∀ t u, news[t]? = some u → w.drew.cell? (A.add t) = some u) := by
    by_cases h : cap = j
    · refine ⟨⟨g, 0, none⟩, by simp [h], fun t u hu => ?_⟩
      have h0 : news.length = 0 := by rw [hlen]; omega
      rw [List.length_eq_zero_iff.1 h0] at hu
      simp at hu
    · refine ⟨⟨g, j, none⟩, by simp [h], fun t u hu => ?_⟩
      rw [Addr.add_lit, show w.drew.cell? ⟨g, j + t, none⟩ = w.cell? ⟨g, j + t, none⟩ from rfl, cell_of_blk hg]
      rw [hnews, List.getElem?_drop, List.getElem?_take] at hu
      split at hu
      · simpa using hu
      · cases hu
  have s1 : Hid (news.length = (n - j) * 1) := by rw [Nat.mul_one]; exact hlen
  have s2 : Hid (∀ u ∈ news, u.oneCell' = true) := fun u hu => h1 u (List.mem_of_mem_drop (hnews ▸ hu))
  have s3 : Hid (∀ t, t < news.length → (w.drew.cell? ⟨g, 0 + i * 1 + t, none⟩).isSome = true ∧ w.drew.frozen? ⟨g, 0 + i * 1 + t, none⟩ = false) := by
    intro t ht
    rw [hlen] at ht
    rw [Nat.mul_one, Nat.zero_add, show w.drew.cell? ⟨g, i + t, none⟩ = w.cell? ⟨g, i + t, none⟩ from rfl, cell_of_blk hg, Array.getElem?_eq_getElem (by omega)]
    exact ⟨rfl, free_of_blk hg _⟩
  obtain ⟨W1, hW1⟩ : ∃ W1, W1 = w.drew.setCells g (0 + i * 1) news := ⟨_, rfl⟩
  have hg1 : W1.heap[g]? = some (.cells (setRange cur i news) 38 (0, 0)) := by rw [hW1, Nat.mul_one, Nat.zero_add]; exact blk_setCells _ _ _ _ hg
  have hf1 : Fr (fun r => r = g) w W1 := by rw [hW1]; exact Fr.setCells (F := fun r => r = g) (fun _ => rfl) _ (Fr.refl _ _).drew _
  have hss := setRange_size news cur i
  obtain ⟨W2, hW2⟩ : ∃ W2, W2 = W1.setCells g (n - 1) (List.replicate 1 (.slice none 0 0)) := ⟨_, rfl⟩
  have hcl : ∀ ty, (Builtin.clear_ #[68] ty #[.slice (some ⟨g, i + (n - j), none⟩) (n - (i + (n - j))) (cap - (i + (n - j)))]).run Try.prog W1 = .ok (.tuple #[]) W2 := by
    intro ty
    have e1 : i + (n - j) = n - 1 := by omega
    have e2 : n - (n - 1) = 1 := by omega
    rw [e1, e2, hW2]
    exact Lib.run_clear_slice W1 _ _ ty _ Try.underlying68 zero38 rfl rfl g (n - 1) _ _ (by omega) (fun t ht => by rw [cell_of_blk hg1, Array.getElem?_eq_getElem (by omega)]; rfl) (fun t ht => free_of_blk hg1 _)
  have hg2 : W2.heap[g]? = some (.cells (setRange (setRange cur i news) (n - 1) [.slice none 0 0]) 38 (0, 0)) := by rw [hW2]; exact blk_setCells _ _ _ _ hg1
  have hf2 : Fr (fun r => r = g) w W2 := by rw [hW2]; exact Fr.setCells (F := fun r => r = g) (fun _ => rfl) _ hf1 _
  have hfin : Hid (DelPost g n cap i cur w (.returned (.slice (some ⟨g, 0, none⟩) (i + (n - j)) cap)) W2) := by
    refine ⟨by rw [show i + (n - j) = n - 1 from by omega], _, hg2, by rw [setRange_size, setRange_size], ?_, hf2⟩
    rw [setRange_list _ _ _ (by rw [setRange_size]; simp; omega), List.append_assoc, List.take_append_of_le_length (by simp [setRange_size]; omega), List.take_take, Nat.min_self,
      setRange_list _ _ _ (by rw [hlen]; omega), List.take_append_of_le_length (by simp [hlen]; omega), hnews, List.eraseIdx_eq_take_drop_succ, List.take_take, hji]
    rw [show min i n = i from by omega, List.take_of_length_le (by simp; omega)]
  have hW : Hid (W1 = w.drew.setCells g (0 + i * 1) news) := hW1
  have hic : i ≤ cap := by omega
  have hjc : j ≤ cap := by omega
  have hne : ((i : Int) == (j : Int)) = false := by simp; omega
  clear hW1 hg hnews hlen hg1 hf1 hss hW2 hg2 hf2 h1 hji
  go_enter Try.func38, Try.ntmps38
  go_wp2_with fail
  go_region_law (refine step_append_room rfl (.tmp 22) (.tmp 25) 68 rfl 38 i0 1 Try.underlying68 hi0 hz1 g 0 i cap (by simp [Act.eval, Act.put]) A (n - j) (cap - j) news (by simp [Act.eval, Act.put]) s1.out hsrc.out s2.out (by omega) s3.out ?_; rw [← hW.out])
  go_wp2
  go_ret
  exact hfin.out
theorem delete_calls (g n cap i : Nat) (cur : Array Value) (w : World) (hg : w.heap[g]? = some (.cells cur 38 (0, 0))) (hs : cur.size = cap) (hn : n ≤ cap) (hc : cap ≤ 9223372036854775807) (hi : i < n)
    (h1 : ∀ u ∈ cur.toList.take n, u.oneCell' = true) :
    Calls Try.prog 38 #[.slice (some ⟨g, 0, none⟩) n cap, .int .i64 i, .int .i64 ((i : Int) + 1)] w (DelPost g n cap i cur w) := by
  have := delete_gen g n cap i (i + 1) cur w hg hs hn hc (by omega) (by omega) rfl h1
  rwa [show ((i + 1 : Nat) : Int) = (i : Int) + 1 from by omega] at this
end Go.Proofs.Ytheogcihnclehaa
