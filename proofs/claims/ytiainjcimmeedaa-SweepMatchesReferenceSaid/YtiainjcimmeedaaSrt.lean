/- A row that slices.SortFunc has sorted, as a row. -/
import Derived.Test.YtiainjcimmeedaaNil
import Derived.Shelf.SlSortCmp.NoneTotal
set_option linter.unusedVariables false
set_option linter.unusedSimpArgs false
namespace Go.Proofs.Ytiainjcimmeedaa
open Go.RowKit Go.Pl Go.Geo Go.Sort Go.Shelf

section
variable {α : Type} [Inhabited α] {c : Nat} {f : α → List Value} {T : TypeId}
/-- The cells cur begin with the elements L. -/
def laid (f : α → List Value) (c : Nat) (cur : Array Value) (L : List α) : Prop := ∀ t x, L[t]? = some x → ∀ j u, (f x)[j]? = some u → cur[t * c + j]? = some u
theorem get!_of {l : List Value} {j : Nat} {u : Value} (h : l[j]? = some u) : l[j]! = u := by rw [List.getElem!_eq_getElem?_getD, h]; rfl
theorem holds_laid (hc : 0 < c) (hf : ∀ x, (f x).length = c) {w : World} {g : Nat} {cur : Array Value} {L : List α} (hb : w.heap[g]? = some (.cells cur T (0, 0))) (h : laid f c cur L) : HoldsK f c w g 0 L.toArray := by
  intro t ht
  rw [size_flatK] at ht
  simp only [List.size_toArray] at ht
  have hq : t / c < L.length := by rw [Nat.div_lt_iff_lt_mul hc]; exact ht
  have hm : t % c < c := Nat.mod_lt _ hc
  obtain ⟨x, hx⟩ : ∃ x, L[t / c]? = some x := ⟨_, List.getElem?_eq_getElem hq⟩
  obtain ⟨u, hu⟩ : ∃ u, (f x)[t % c]? = some u := ⟨_, List.getElem?_eq_getElem (by rw [hf]; exact hm)⟩
  refine ⟨?_, free_of_blk hb _⟩
  rw [get_flatK f c L.toArray t (by simpa using ht)]
  have e1 : L.toArray[t / c]! = x := by
    rw [Array.getElem!_eq_getD, Array.getD_eq_getD_getElem?]
    simp [hx]
  rw [e1, get!_of hu, Nat.zero_add, cell_of_blk hb]
  have := h (t / c) x hx (t % c) u hu
  rw [Nat.mul_comm, Nat.div_add_mod] at this
  exact this
theorem laid_sorted (hf : ∀ x, (f x).length = c) {w : World} {g : Nat} {cur : Array Value} {L : List α} (hb : w.heap[g]? = some (.cells cur T (0, 0))) (hsz : L.length * c ≤ cur.size) (m : Nat) (os : Array Obj) :
    ∃ cur', (sortWorldK f c w g 0 m L.toArray os).heap[g]? = some (.cells cur' T (0, 0)) ∧ cur'.size = cur.size ∧ laid f c cur' L ∧ Fr (fun k => k = g) w (sortWorldK f c w g 0 m L.toArray os) := by
  have hlt := lt_of_blk hb
  have hmod : (mapBlock (Sort.ahead w m) g (putCells id 0 (flatK f c L.toArray))).heap[g]? = some (.cells (putCells id 0 (flatK f c L.toArray) cur) T (0, 0)) := by
    unfold mapBlock
    simp only [Array.getElem?_modify, if_true]
    show Option.map _ w.heap[g]? = _
    rw [hb]; rfl
  have hsize : (mapBlock (Sort.ahead w m) g (putCells id 0 (flatK f c L.toArray))).heap.size = w.heap.size := by
    unfold mapBlock Sort.ahead; simp
  refine ⟨putCells id 0 (flatK f c L.toArray) cur, ?_, ?_, ?_, ?_⟩
  · unfold sortWorldK putRowK putRow grow
    simp only
    rw [Array.getElem?_append_left (by rw [hsize]; exact hlt)]
    exact hmod
  · unfold putCells; simp
  · intro t x hx j u hu
    have hj : j < c := by rw [← hf x]; exact (List.getElem?_eq_some_iff.1 hu).1
    have ht := (List.getElem?_eq_some_iff.1 hx).1
    have hlt2 : t * c + j < L.length * c := by
      have : t * c + c ≤ L.length * c := by rw [← Nat.succ_mul]; exact Nat.mul_le_mul_right c ht
      omega
    unfold putCells
    rw [Array.getElem?_mapIdx, Array.getElem?_eq_getElem (by omega)]
    simp only [Option.map_some, size_flatK, List.size_toArray, Nat.zero_add, Nat.zero_le, true_and, Nat.sub_zero, if_pos hlt2, id]
    rw [get_flatK f c L.toArray _ (by simpa using hlt2)]
    have e1 : (t * c + j) / c = t := by
      rw [Nat.mul_comm, Nat.mul_add_div (by omega), Nat.div_eq_of_lt hj, Nat.add_zero]
    have e2 : (t * c + j) % c = j := by rw [Nat.mul_comm, Nat.mul_add_mod, Nat.mod_eq_of_lt hj]
    rw [e1, e2]
    have e3 : L.toArray[t]! = x := by
      rw [Array.getElem!_eq_getD, Array.getD_eq_getD_getElem?]
      simp [hx]
    rw [e3, get!_of hu]
  · unfold sortWorldK putRowK putRow grow
    refine ⟨rfl, rfl, rfl, ?_, fun r hr hne => ?_⟩
    · simp only [Array.size_append]; rw [hsize]; omega
    · simp only
      rw [Array.getElem?_append_left (by rw [hsize]; exact hr)]
      unfold mapBlock
      simp only [Array.getElem?_modify]
      rw [if_neg (fun e => hne e.symm)]; rfl
end
end Go.Proofs.Ytiainjcimmeedaa
