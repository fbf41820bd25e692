/- Plain laws over whatever program: rows of cells that are written over a stretch; make, copy. -/
import Derived.Test.YtheogcihnclehaaBase
import Derived.Lib.LazyBuf
import Derived.Lib.SliceRun
import Derived.Deep.OwnRows
import Derived.Deep.RegionLaw
import Derived.Maps.AppendAt
namespace Go.Pl
open Go.RowKit

def setRange (cur : Array Value) : Nat → List Value → Array Value
  | _, [] => cur
  | o, v :: r => setRange (cur.setIfInBounds o v) (o + 1) r
theorem setRange_size : ∀ (vs : List Value) (cur : Array Value) (o : Nat), (setRange cur o vs).size = cur.size
  | [], _, _ => rfl
  | v :: r, cur, o => by simp [setRange, setRange_size r]
theorem setRange_get : ∀ (vs : List Value) (cur : Array Value) (o i : Nat), o + vs.length ≤ cur.size → (setRange cur o vs)[i]? = if o ≤ i ∧ i < o + vs.length then vs[i - o]? else cur[i]?
  | [], cur, o, i, _ => by simp [setRange]; omega
  | v :: r, cur, o, i, h => by
    simp only [List.length_cons] at h
    rw [setRange, setRange_get r _ _ _ (by simp; omega)]
    simp only [List.length_cons, Array.getElem?_setIfInBounds]
    by_cases h1 : o + 1 ≤ i ∧ i < o + 1 + r.length
    · rw [if_pos h1, if_pos (by omega), show i - o = (i - (o + 1)) + 1 from by omega]; rfl
    · rw [if_neg h1]
      by_cases h2 : o = i
      · subst h2; simp; omega
      · rw [if_neg h2, if_neg (by omega)]
theorem setRange_list (cur : Array Value) (o : Nat) (vs : List Value) (h : o + vs.length ≤ cur.size) : (setRange cur o vs).toList = cur.toList.take o ++ vs ++ cur.toList.drop (o + vs.length) := by
  apply List.ext_getElem?
  intro i
  rw [Array.getElem?_toList, setRange_get _ _ _ _ h, List.append_assoc, List.getElem?_append, List.getElem?_append]
  simp only [List.length_take, Array.length_toList, List.getElem?_take, List.getElem?_drop, Array.getElem?_toList]
  have : min o cur.size = o := by omega
  rw [this]
  by_cases h1 : i < o
  · rw [if_neg (by omega), if_pos h1, if_pos h1]
  · rw [if_neg h1]
    by_cases h2 : i < o + vs.length
    · rw [if_pos (by omega), if_pos (by omega)]
    · rw [if_neg (by omega), if_neg (by omega), show o + vs.length + (i - o - vs.length) = i from by omega]

theorem blk_setCells {g : Nat} {E : TypeId} {fz : Nat × Nat} : ∀ (vs : List Value) (w : World) (o : Nat) (cur : Array Value), w.heap[g]? = some (.cells cur E fz) → (w.setCells g o vs).heap[g]? = some (.cells (setRange cur o vs) E fz)
  | [], _, _, _, h => h
  | v :: r, w, o, cur, h => by
    rw [World.setCells, setRange]
    exact blk_setCells r _ _ _ (blk_setCell_same h v)
theorem blk_setCells_other {g k : Nat} (hne : k ≠ g) : ∀ (vs : List Value) (w : World) (o : Nat), (w.setCells g o vs).heap[k]? = w.heap[k]?
  | [], _, _ => rfl
  | v :: r, w, o => by
    rw [World.setCells, blk_setCells_other hne r]
    exact blk_setCell hne v
theorem Fr.setCells {F : Nat → Prop} {a : World} {g : Nat} (hg : g < a.heap.size → F g) : ∀ (vs : List Value) {w : World} (_ : Fr F a w) (o : Nat), Fr F a (w.setCells g o vs)
  | [], _, h, _ => h
  | v :: r, w, h, o => by
    rw [World.setCells]
    exact Fr.setCells hg r (h.setCell hg v) (o + 1)

/-- 'make([]T, n)'. -/
theorem madeCells_size (z : Value) (n : Nat) : (madeCells #[z] n).size = n := by simp [madeCells]
theorem madeCells_eq (z : Value) (n : Nat) : madeCells #[z] n = Array.replicate n z := by
  apply Array.ext
  · simp [madeCells]
  · intro i h1 h2
    simp [madeCells, Nat.mod_one]

/-- 'copy(b, text)' into a row of the text's own length: the text's bytes lie there. -/
def bytesOf (t : ByteArray) : Array Value := t.data.map fun b => .int .u8 b.toNat
theorem bytesOf_size (t : ByteArray) : (bytesOf t).size = t.size := by simp [bytesOf]
theorem bytesOf_list (t : ByteArray) : (bytesOf t).toList = t.data.toList.map fun b => Value.int .u8 b.toNat := by simp [bytesOf]
theorem copy_text {P : Program} (w : World) (dT sT ty e : TypeId) (g cap : Nat) (t : ByteArray) (cur : Array Value) (hu : P.underlying dT = some (.slice e)) (hz : ∀ w, (Go.sizeOf e).run P w = .ok 1 w)
    (hg : w.heap[g]? = some (.cells cur e (0, 0))) (hs : cur.size = t.size) :
    ∃ W, (Builtin.copy_ #[dT, sT] ty #[.slice (some ⟨g, 0, none⟩) t.size cap, .string t]).run P w = .ok (goInt t.size) W ∧ W.heap[g]? = some (.cells (bytesOf t) e (0, 0)) ∧ Fr (fun r => r = g) w W := by
  refine ⟨_, run_copy_string w dT sT ty e g 0 t.size cap t hu hz (Nat.le_refl _) (fun j hj => ?_) (fun j _ => ?_), ?_, Fr.setCells (F := fun r => r = g) (fun _ => rfl) _ (Fr.refl _ _) _⟩
  · rw [cell_of_blk hg, Nat.zero_add, Array.getElem?_eq_getElem (by omega)]; rfl
  · rw [free_of_blk hg]
  · rw [blk_setCells _ _ _ _ hg]
    have hl : (t.data.toList.map fun x => Value.int .u8 (x.toNat : Int)).length = t.size := by rw [List.length_map]; simp
    have := setRange_list cur 0 (t.data.toList.map fun x => Value.int .u8 (x.toNat : Int)) (by rw [hl]; omega)
    rw [hl, Nat.zero_add, List.take_zero, List.nil_append, List.drop_of_length_le (by simp; omega), List.append_nil, ← bytesOf_list] at this
    rw [← bytesOf_list, Array.toList_inj.1 this]

/-- 'string(b)' of a row that holds a text's bytes. -/
theorem text_of {P : Program} (w : World) (src dst e : TypeId) (g cap : Nat) (t : ByteArray) (hs : P.underlying src = some (.slice e)) (he : P.underlying e = some (.int .u8)) (hd : P.underlying dst = some .string)
    (hg : w.heap[g]? = some (.cells (bytesOf t) e (0, 0))) :
    (convert src dst (.slice (some ⟨g, 0, none⟩) t.size cap)).run P w = .ok (.string t) w := by
  have h := run_convert_bytes_back (P := P) w src dst e ⟨g, 0, none⟩ cap t.data.toList hs he hd (fun j hj => by
    have hj' : j < t.data.size := by simpa using hj
    rw [show (⟨g, 0, none⟩ : Addr).add j = ⟨g, j, none⟩ from by unfold Addr.add; split <;> simp_all, cell_of_blk hg, bytesOf]
    rw [Array.getElem?_map, Array.getElem?_eq_getElem hj']
    simp)
  have e1 : t.data.toList.length = t.size := by simp
  rwa [e1] at h

theorem bytes_inj {s t : ByteArray} (h : s.toList = t.toList) : s = t := by
  rw [ByteArray.toList_eq, ByteArray.toList_eq] at h
  exact ByteArray.ext (Array.toList_inj.1 h)
theorem bytes_ne {s t : ByteArray} : (!s.toList == t.toList) = true ↔ s ≠ t := by
  rw [Bool.not_eq_true', beq_eq_false_iff_ne]
  exact ⟨fun h e => h (by rw [e]), fun h e => h (bytes_inj e)⟩
theorem bytes_eq {s t : ByteArray} : (s.toList == t.toList) = true ↔ s = t := by
  rw [beq_iff_eq]
  exact ⟨bytes_inj, fun e => by rw [e]⟩
/-- An element's address in a slice whose own address is known just where there are elements. -/
theorem index_run {P : Program} {T e size : Nat} (hT : P.underlying T = some (.slice e)) (hz : ∀ w, (Go.sizeOf e).run P w = .ok size w) {sa : Option Addr} {n cap b off k : Nat} (hs : sa = some ⟨b, off, none⟩) (hk : k < n) (w : World) :
    (Instr.indexAt T (.slice sa n cap) (.int .i64 k)).run P w = .ok (.pointer (some ⟨b, off + k * size, none⟩)) w := by
  subst hs
  have : (0 : Int) ≤ k ∧ (k : Int) < n := by omega
  simp [Instr.indexAt, run_underlying hT, asIntOf, this, hz, Result.andThen]
  unfold Addr.add
  split <;> simp_all
theorem ownsRow_slice {w : World} {base e size : Nat} {v : Value} {n : Nat} {xs : List Value} (h : w.ownsRow base e size v n xs) : ∃ a cap, v = .slice a n cap := by
  rcases h.2 with ⟨rfl, rfl⟩ | ⟨g, cap, cur, rfl, _⟩
  · exact ⟨none, 0, rfl⟩
  · exact ⟨_, cap, rfl⟩
end Go.Pl
