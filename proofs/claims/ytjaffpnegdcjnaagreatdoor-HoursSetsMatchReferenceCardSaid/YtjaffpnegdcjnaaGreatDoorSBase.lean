/- Plain laws over whatever program: frames of blocks, maps as functions on keys. -/
import Derived.WalkKit
import Derived.WalkSpells
import Derived.WalkLawsBesides
import Derived.Maps.Own
import Derived.Maps.OwnSet
import Derived.Maps.RangeWalk
import Derived.Sort.KeysCollected
namespace Go.Pl
open Go.RowKit
/-- w' is w but for blocks of F and new ones. -/
structure Fr (F : Nat → Prop) (w w' : World) : Prop where
  os : w'.os = w.os
  tape : w'.tape = w.tape
  output : w'.output = w.output
  size : w.heap.size ≤ w'.heap.size
  blk : ∀ r, r < w.heap.size → ¬ F r → w'.heap[r]? = w.heap[r]?
section fr
variable {F G : Nat → Prop} {a b c w w' : World}
@[simp] theorem Fr.refl (F : Nat → Prop) (w : World) : Fr F w w := ⟨rfl, rfl, rfl, Nat.le_refl _, fun _ _ _ => rfl⟩
theorem Fr.trans' (h : Fr F a b) (k : Fr G b c) (hs : ∀ r, r < a.heap.size → G r → F r) : Fr F a c :=
  ⟨k.os.trans h.os, k.tape.trans h.tape, k.output.trans h.output, Nat.le_trans h.size k.size,
    fun r hr hf => (k.blk r (Nat.lt_of_lt_of_le hr h.size) (fun g => hf (hs r hr g))).trans (h.blk r hr hf)⟩
theorem Fr.trans (h : Fr F a b) (k : Fr F b c) : Fr F a c := h.trans' k fun _ _ => id
theorem Fr.mono (h : Fr F a b) (hs : ∀ r, r < a.heap.size → F r → G r) : Fr G a b := ⟨h.os, h.tape, h.output, h.size, fun r hr hg => h.blk r hr (fun f => hg (hs r hr f))⟩
@[simp] theorem Fr.drew (h : Fr F a w) : Fr F a w.drew := ⟨h.os, h.tape, h.output, h.size, h.blk⟩
@[simp] theorem Fr.drewN (h : Fr F a w) (n : Nat) : Fr F a (w.drewN n) := ⟨h.os, h.tape, h.output, h.size, h.blk⟩
@[simp] theorem Fr.alloc (h : Fr F a w) (o : Obj) : Fr F a (w.alloc o) :=
  h.trans ⟨rfl, rfl, rfl, by simp, fun r hr _ => Below.heap_alloc _ _ _ hr⟩
theorem Fr.setCell (h : Fr F a w) {p : Addr} (hp : p.block < a.heap.size → F p.block) (u : Value) : Fr F a (w.setCell p u) :=
  h.trans' (G := fun r => r = p.block) ⟨rfl, rfl, rfl, by simp [World.setCell], fun r _ hne => Below.heap_setCell _ _ _ _ hne⟩ (fun r hr e => by subst e; exact hp hr)
theorem Fr.grown {row : Option Nat} (h : Fr F a w) (hg : w.grownBy w' row) (hr : ∀ k, row = some k → k < a.heap.size → F k) : Fr F a w' :=
  h.trans' (G := fun r => row = some r) ⟨hg.os, hg.tape, hg.output, hg.size, fun r hr hne => hg.block r hr (fun e => hne e.symm)⟩ (fun r hl e => hr r e hl)
theorem Fr.below (h : Fr F a w) (hf : ∀ r, r < a.heap.size → ¬ F r) : Below a.heap.size a w := ⟨h.os, h.tape, h.output, h.size, fun r hr => h.blk r hr (hf r hr)⟩
theorem Fr.of_below (h : Below a.heap.size a w) : Fr F a w := ⟨h.os, h.tape, h.output, h.size, fun r hr _ => h.block r hr⟩
theorem Fr.cell (h : Fr F w w') {p : Addr} {v : Value} (hc : w.cell? p = some v) (hf : ¬ F p.block) : w'.cell? p = some v :=
  (World.cell?_of_block (h.blk p.block (World.block_lt_of_cell? w p hc) hf)).trans hc
theorem Fr.obj (h : Fr F w w') {r : Nat} {o : Obj} (hc : w.heap[r]? = some o) (hf : ¬ F r) : w'.heap[r]? = some o :=
  (h.blk r (Array.getElem?_eq_some_iff.1 hc).1 hf).trans hc
/-- Blocks of a world that is written out. -/
@[simp] theorem blk_drewN (w : World) (n r : Nat) : (w.drewN n).heap[r]? = w.heap[r]? := rfl
@[simp] theorem blk_drew (w : World) (r : Nat) : w.drew.heap[r]? = w.heap[r]? := rfl
@[simp] theorem blk_alloc {w : World} {r : Nat} (h : r < w.heap.size) (o : Obj) : (w.alloc o).heap[r]? = w.heap[r]? := Below.heap_alloc _ _ _ h
@[simp] theorem blk_alloc_new (w : World) (o : Obj) : (w.alloc o).heap[w.heap.size]? = some o := heap_alloc_new w o
theorem blk_alloc_at {w : World} {r : Nat} (h : r = w.heap.size) (o : Obj) : (w.alloc o).heap[r]? = some o := by rw [h]; exact heap_alloc_new w o
theorem blk_setCell {w : World} {p : Addr} {r : Nat} (h : r ≠ p.block) (u : Value) : (w.setCell p u).heap[r]? = w.heap[r]? := Below.heap_setCell _ _ _ _ h
theorem blk_setCell_same {w : World} {g off : Nat} {cur : Array Value} {E : TypeId} {fz : Nat × Nat} (h : w.heap[g]? = some (.cells cur E fz)) (u : Value) :
    (w.setCell ⟨g, off, none⟩ u).heap[g]? = some (.cells (cur.setIfInBounds off u) E fz) := by
  simp [World.setCell, Array.getElem?_modify, h]
theorem cell_of_blk {w : World} {g : Nat} {cur : Array Value} {E : TypeId} {fz : Nat × Nat} (h : w.heap[g]? = some (.cells cur E fz)) (off : Nat) : w.cell? ⟨g, off, none⟩ = cur[off]? := by
  simp [World.cell?, h]
theorem free_of_blk {w : World} {g : Nat} {cur : Array Value} {E : TypeId} (h : w.heap[g]? = some (.cells cur E (0, 0))) (off : Nat) : w.frozen? ⟨g, off, none⟩ = false := by
  simp [World.frozen?, h]
theorem lt_of_blk {w : World} {g : Nat} {o : Obj} (h : w.heap[g]? = some o) : g < w.heap.size := (Array.getElem?_eq_some_iff.1 h).1
end fr
/-! ### maps -/
section maps
open Classical
variable {P : Program} {K : TypeId}
noncomputable def upd (m : Value → Option Value) (k v : Value) : Value → Option Value := fun x => if x = k then some v else m x
noncomputable def del (m : Value → Option Value) (k : Value) : Value → Option Value := fun x => if x = k then none else m x
/-- The entries es read as the function m. -/
structure Ents (P : Program) (K : TypeId) (es : List MapEntry) (clock : Nat) (m : Value → Option Value) : Prop where
  keys : ∀ e ∈ es, ∃ l, keyOf P K e.key = some l
  apart : es.Pairwise (fun x y => x.key ≠ y.key)
  born : ∀ e ∈ es, e.born < clock
  stamps : es.Pairwise (fun x y => x.born ≠ y.born)
  at_ : ∀ k v, m k = some v ↔ ∃ e ∈ es, e.key = k ∧ e.val = v
/-- Block b is a map that reads as m. -/
def MapAt (P : Program) (K : TypeId) (w : World) (b : Nat) (m : Value → Option Value) : Prop :=
  ∃ es clock, w.heap[b]? = some (.map es clock) ∧ Ents P K es.toList clock m
theorem MapAt.lt {w : World} {b : Nat} {m} (h : MapAt P K w b m) : b < w.heap.size := by
  obtain ⟨es, c, hb, _⟩ := h; exact (Array.getElem?_eq_some_iff.1 hb).1
theorem MapAt.of_blk {w w' : World} {b : Nat} {m} (h : MapAt P K w b m) (e : w'.heap[b]? = w.heap[b]?) : MapAt P K w' b m := by
  obtain ⟨es, c, hb, r⟩ := h; exact ⟨es, c, e.trans hb, r⟩
theorem MapAt.fr {F : Nat → Prop} {w w' : World} {b : Nat} {m} (h : MapAt P K w b m) (hf : Fr F w w') (hn : ¬ F b) : MapAt P K w' b m := h.of_blk (hf.blk b h.lt hn)
theorem MapAt.made (w : World) : MapAt P K (w.alloc (.map #[] 0)) w.heap.size (fun _ => none) :=
  ⟨#[], 0, heap_alloc_new w _, ⟨by simp, by simp, by simp, by simp, by simp⟩⟩
theorem Ents.find (L : Maps.Keyed P K) {w : World} {es : List MapEntry} {c : Nat} {m} (h : Ents P K es c m) {key : Value} {l : Lit} (hk : keyOf P K key = some l) :
    ((Instr.findKey K key es).run P w = .ok none w ∧ m key = none ∧ ∀ e ∈ es, e.key ≠ key) ∨
    ∃ j e, (Instr.findKey K key es).run P w = .ok (some (j, e.val)) w ∧ es[j]? = some e ∧ e.key = key ∧ m key = some e.val := by
  rcases L.find w hk es h.keys with ⟨h1, h2⟩ | ⟨j, e, h1, h2, h3⟩
  · left
    refine ⟨h1, ?_, h2⟩
    cases hm : m key with
    | none => rfl
    | some v =>
      obtain ⟨e, he, hek, _⟩ := (h.at_ key v).1 hm
      exact absurd hek (h2 e he)
  · right
    exact ⟨j, e, h1, h2, h3, (h.at_ key e.val).2 ⟨e, List.mem_of_getElem? h2, h3, rfl⟩⟩
def setBlk (w : World) (b : Nat) (o : Obj) : World := { w with heap := w.heap.setIfInBounds b o }
theorem Fr.setBlk {F : Nat → Prop} {a w : World} (h : Fr F a w) {b : Nat} (hb : b < a.heap.size → F b) (o : Obj) : Fr F a (setBlk w b o) :=
  h.trans' (G := fun r => r = b) ⟨rfl, rfl, rfl, by simp [Pl.setBlk], fun r _ hne => by simp [Pl.setBlk, Ne.symm hne]⟩ (fun r hr e => by subst e; exact hb hr)
theorem setBlk_same {w : World} {b : Nat} (hb : b < w.heap.size) (o : Obj) : (setBlk w b o).heap[b]? = some o := by
  simp [setBlk, hb]
theorem Ents.push {es : List MapEntry} {c : Nat} {m} (h : Ents P K es c m) {key v : Value} {l : Lit} (hk : keyOf P K key = some l) (hn : ∀ e ∈ es, e.key ≠ key) :
    Ents P K (es ++ [⟨key, v, c⟩]) (c + 1) (upd m key v) := by
  refine ⟨?_, ?_, ?_, ?_, ?_⟩
  · intro e he
    rcases List.mem_append.1 he with he | he
    · exact h.keys e he
    · simp at he; subst he; exact ⟨l, hk⟩
  · rw [List.pairwise_append]; exact ⟨h.apart, by simp, fun x hx y hy => by simp at hy; subst hy; exact hn x hx⟩
  · intro e he
    rcases List.mem_append.1 he with he | he
    · have := h.born e he; omega
    · simp at he; subst he; exact Nat.lt_succ_self _
  · rw [List.pairwise_append]; exact ⟨h.stamps, by simp, fun x hx y hy => by simp at hy; subst hy; have := h.born x hx; simp; omega⟩
  · intro k u
    unfold upd
    by_cases hkk : k = key
    · subst hkk
      simp only [if_true, Option.some.injEq]
      constructor
      · rintro rfl; exact ⟨⟨k, v, c⟩, by simp, rfl, rfl⟩
      · rintro ⟨e, he, h1, h2⟩
        rcases List.mem_append.1 he with he | he
        · exact absurd h1 (hn e he)
        · simp at he; subst he; exact h2
    · simp only [if_neg hkk]
      rw [h.at_]
      constructor
      · rintro ⟨e, he, h1, h2⟩; exact ⟨e, List.mem_append_left _ he, h1, h2⟩
      · rintro ⟨e, he, h1, h2⟩
        rcases List.mem_append.1 he with he | he
        · exact ⟨e, he, h1, h2⟩
        · simp at he; subst he; exact absurd h1.symm hkk
theorem Ents.unique {es : List MapEntry} (hp : es.Pairwise (fun x y => x.key ≠ y.key)) {i j : Nat} {x y : MapEntry} (hi : es[i]? = some x) (hj : es[j]? = some y) (hk : x.key = y.key) : i = j := by
  obtain ⟨hi1, hi2⟩ := List.getElem?_eq_some_iff.1 hi
  obtain ⟨hj1, hj2⟩ := List.getElem?_eq_some_iff.1 hj
  rcases Nat.lt_trichotomy i j with h | h | h
  · exact absurd (by rw [hi2, hj2]; exact hk) (List.pairwise_iff_getElem.1 hp i j hi1 hj1 h)
  · exact h
  · exact absurd (by rw [hi2, hj2]; exact hk.symm) (List.pairwise_iff_getElem.1 hp j i hj1 hi1 h)
theorem Ents.set {es : List MapEntry} {c : Nat} {m} (h : Ents P K es c m) {key v : Value} {j : Nat} {e0 : MapEntry} (hj : es[j]? = some e0) (hk : e0.key = key) :
    Ents P K (es.set j { e0 with key := key, val := v }) c (upd m key v) := by
  have hj1 : j < es.length := (List.getElem?_eq_some_iff.1 hj).1
  have hj2 : es[j] = e0 := (List.getElem?_eq_some_iff.1 hj).2
  have hget : ∀ i x, (es.set j { e0 with key := key, val := v })[i]? = some x → ∃ y, es[i]? = some y ∧ x.key = y.key ∧ x.born = y.born ∧ (i ≠ j → x = y) ∧ (i = j → x.val = v) := by
    intro i x hx
    rw [List.getElem?_set] at hx
    by_cases hij : j = i
    · subst hij
      simp [hj1] at hx
      subst hx
      exact ⟨e0, hj, hk.symm, rfl, fun h => absurd rfl h, fun _ => rfl⟩
    · simp [hij] at hx
      exact ⟨x, hx, rfl, rfl, fun _ => rfl, fun h => absurd h.symm hij⟩
  have hpw : ∀ (R : MapEntry → MapEntry → Prop), (∀ x y x' y', x.key = x'.key → x.born = x'.born → y.key = y'.key → y.born = y'.born → R x' y' → R x y) → es.Pairwise R → (es.set j { e0 with key := key, val := v }).Pairwise R := by
    intro R hR hp
    rw [List.pairwise_iff_getElem] at hp ⊢
    intro a b ha hb hab
    obtain ⟨y, hy, h1, h2, _⟩ := hget a _ (List.getElem?_eq_getElem ha)
    obtain ⟨z, hz, h3, h4, _⟩ := hget b _ (List.getElem?_eq_getElem hb)
    obtain ⟨ha', rfl⟩ := List.getElem?_eq_some_iff.1 hy
    obtain ⟨hb', rfl⟩ := List.getElem?_eq_some_iff.1 hz
    exact hR _ _ _ _ h1 h2 h3 h4 (hp a b ha' hb' hab)
  refine ⟨?_, hpw _ (fun x y x' y' h1 _ h2 _ hr => by rw [h1, h2]; exact hr) h.apart, ?_, hpw _ (fun x y x' y' _ h1 _ h2 hr => by rw [h1, h2]; exact hr) h.stamps, ?_⟩
  · intro e he
    obtain ⟨i, hi⟩ := List.getElem?_of_mem he
    obtain ⟨y, hy, h1, _⟩ := hget i e hi
    rw [h1]; exact h.keys y (List.mem_of_getElem? hy)
  · intro e he
    obtain ⟨i, hi⟩ := List.getElem?_of_mem he
    obtain ⟨y, hy, _, h1, _⟩ := hget i e hi
    rw [h1]; exact h.born y (List.mem_of_getElem? hy)
  · intro k u
    unfold upd
    by_cases hkk : k = key
    · subst hkk
      simp only [if_true, Option.some.injEq]
      constructor
      · rintro rfl
        exact ⟨{ e0 with key := k, val := v }, List.mem_of_getElem? (i := j) (by simp [hj1]), rfl, rfl⟩
      · rintro ⟨e, he, h1, h2⟩
        obtain ⟨i, hi⟩ := List.getElem?_of_mem he
        obtain ⟨y, hy, h3, h4, h5, h6⟩ := hget i e hi
        have : i = j := Ents.unique h.apart hy hj (by rw [← h3, h1, hk])
        rw [← h2, h6 this]
    · simp only [if_neg hkk]
      rw [h.at_]
      constructor
      · rintro ⟨e, he, h1, h2⟩
        obtain ⟨i, hi⟩ := List.getElem?_of_mem he
        have : j ≠ i := by rintro rfl; rw [hj] at hi; cases hi; exact hkk (h1.symm.trans hk)
        exact ⟨e, List.mem_of_getElem? (i := i) (by rw [List.getElem?_set, if_neg this]; exact hi), h1, h2⟩
      · rintro ⟨e, he, h1, h2⟩
        obtain ⟨i, hi⟩ := List.getElem?_of_mem he
        obtain ⟨y, hy, h3, h4, h5, h6⟩ := hget i e hi
        by_cases hij : i = j
        · subst hij; rw [hj] at hy; cases hy; exact absurd (h1.symm.trans (h3.trans hk)) hkk
        · rw [h5 hij] at h1 h2; exact ⟨y, List.mem_of_getElem? hy, h1, h2⟩
/-- 'm[k] = v': one object, in whatever world in which the block is as it is. -/
theorem MapAt.store (L : Maps.Keyed P K) {t e : TypeId} (ht : P.underlying t = some (.map K e)) {w : World} {b : Nat} {m} (h : MapAt P K w b m) {key : Value} {l : Lit} (hk : keyOf P K key = some l) (v : Value) :
    ∃ o, ∀ W : World, W.heap[b]? = w.heap[b]? → (Instr.mapUpdate t (.map (some b)) key v).run P W = .ok () (setBlk W b o) ∧ MapAt P K (setBlk W b o) b (upd m key v) := by
  obtain ⟨es, c, hb0, h⟩ := h
  rcases h.find L (w := w) hk with ⟨h1, h2, h3⟩ | ⟨j, en, h1, h2, h3, h4⟩
  · refine ⟨.map (es.push ⟨key, v, c⟩) (c + 1), fun W hW => ?_⟩
    have hb := hW.trans hb0
    have hlt : b < W.heap.size := (Array.getElem?_eq_some_iff.1 hb).1
    have h1 : (Instr.findKey K key es.toList).run P W = .ok none W := by
      rcases h.find L (w := W) hk with ⟨h1, _⟩ | ⟨j, en, _, g2, g3, _⟩
      · exact h1
      · exact absurd g3 (h3 en (List.mem_of_getElem? g2))
    refine ⟨?_, _, _, setBlk_same hlt _, by simpa using h.push hk h3⟩
    simp [Instr.mapUpdate, run_underlying ht, MapKept.run_getObj_map hb, L.check W false hk, h1, MapKept.run_setObj_map _ hb, Result.andThen, setBlk]
  · have hj : j < es.size := by simpa using (List.getElem?_eq_some_iff.1 h2).1
    have hj2 : es[j] = en := by simpa using (List.getElem?_eq_some_iff.1 h2).2
    refine ⟨.map (es.modify j fun e => { e with key := key, val := v }) c, fun W hW => ?_⟩
    have hb := hW.trans hb0
    have hlt : b < W.heap.size := (Array.getElem?_eq_some_iff.1 hb).1
    have h1 : (Instr.findKey K key es.toList).run P W = .ok (some (j, en.val)) W := by
      rcases h.find L (w := W) hk with ⟨_, _, g3⟩ | ⟨j', en', g1, g2, g3, g4⟩
      · exact absurd h3 (g3 en (List.mem_of_getElem? h2))
      · have : j' = j := Ents.unique h.apart g2 h2 (g3.trans h3.symm)
        subst this
        rw [h2] at g2; cases g2
        exact g1
    refine ⟨?_, _, _, setBlk_same hlt _, ?_⟩
    · have hes : es[j]? = some en := by simpa using h2
      have hst := L.stays W hk
      simp [Instr.mapUpdate, run_underlying ht, MapKept.run_getObj_map hb, L.check W false hk, h1, hes, h3, hst, MapKept.run_setObj_map _ hb, Result.andThen, setBlk]
    · have : (es.modify j fun e => { e with key := key, val := v }).toList = es.toList.set j { en with key := key, val := v } := by
        apply List.ext_getElem?
        intro i
        simp only [Array.getElem?_toList, Array.getElem?_modify, List.getElem?_set]
        by_cases hij : j = i
        · subst hij; simp [hj, hj2]
        · simp [hij]
      rw [this]
      exact h.set h2 h3
/-- An object is a map that reads as m. -/
def ObjMap (P : Program) (K : TypeId) (o : Obj) (m : Value → Option Value) : Prop := ∃ es clock, o = .map es clock ∧ Ents P K es.toList clock m
theorem MapAt.obj {w : World} {b : Nat} {m} (h : MapAt P K w b m) : ∃ o, w.heap[b]? = some o ∧ ObjMap P K o m := by
  obtain ⟨es, c, hb, r⟩ := h; exact ⟨_, hb, es, c, rfl, r⟩
theorem find_stamp {es : List MapEntry} (hp : es.Pairwise (fun x y => x.born ≠ y.born)) {j : Nat} {e : MapEntry} (hj : es[j]? = some e) : es.findIdx? (fun x => (x.born : Int) == (e.born : Int)) = some j := by
  obtain ⟨hj1, hj2⟩ := List.getElem?_eq_some_iff.1 hj
  rw [List.findIdx?_eq_some_iff_getElem]
  refine ⟨hj1, by rw [hj2]; simp, fun i hi => ?_⟩
  have := List.pairwise_iff_getElem.1 hp i j (by omega) hj1 hi
  rw [hj2] at this
  simp; omega
theorem find_stamp_arr {A : Array MapEntry} (hp : A.toList.Pairwise (fun x y => x.born ≠ y.born)) {j : Nat} {e : MapEntry} (hj : A[j]? = some e) : A.findIdx? (fun x => (x.born : Int) == (e.born : Int)) = some j := by
  cases A with
  | mk l => rw [List.findIdx?_toArray]; exact find_stamp hp (by simpa using hj)
/-- 'm[k] op= ..' in two steps: the entry is made, then written. -/
theorem ObjMap.entry (L : Maps.Keyed P K) {t e : TypeId} (ht : P.underlying t = some (.map K e)) {o : Obj} {m} (h : ObjMap P K o m) (b : Nat) {key : Value} {l : Lit} (hk : keyOf P K key = some l) {z : Value} (hz : ∀ w, (zeroValue e).run P w = .ok z w) (v : Value) :
    ∃ o1 o2 x s, (∀ W : World, W.heap[b]? = some o → (Instr.mapEntry t (.map (some b)) key).run P W = .ok (.tuple #[x, .int .i64 s]) (setBlk W b o1)) ∧
      (∀ W : World, W.heap[b]? = some o1 → (Instr.entryStore t (.map (some b)) (.int .i64 s) v).run P W = .ok () (setBlk W b o2)) ∧ ObjMap P K o2 (upd m key v) := by
  obtain ⟨es, c, rfl, h⟩ := h
  have hall := fun w => h.find L (w := w) hk
  rcases hall default with ⟨_, h2, h3⟩ | ⟨j, en, _, h2, h3, h4⟩
  · refine ⟨.map (es.push ⟨key, z, c⟩) (c + 1), .map (es.push ⟨key, v, c⟩) (c + 1), z, c, fun W hb => ?_, fun W hb => ?_, _, _, rfl, by simpa using h.push hk h3⟩
    · have h1 : (Instr.findKey K key es.toList).run P W = .ok none W := by
        rcases hall W with ⟨h1, _⟩ | ⟨j, en, _, g2, g3, _⟩
        · exact h1
        · exact absurd g3 (h3 en (List.mem_of_getElem? g2))
      simp [Instr.mapEntry, run_underlying ht, MapKept.run_getObj_map hb, L.check W false hk, h1, hz, MapKept.run_setObj_map _ hb, Result.andThen, setBlk, goInt]
    · have hs : (es.push ⟨key, z, c⟩).toList.Pairwise (fun x y => x.born ≠ y.born) := by simpa using (h.push (v := z) hk h3).stamps
      have hf : (es.push ⟨key, z, c⟩).findIdx? (fun e => (e.born : Int) == (c : Int)) = some es.size := find_stamp_arr hs (e := ⟨key, z, c⟩) (by simp)
      have hm : (es.push ⟨key, z, c⟩).modify es.size (fun e => { e with val := v }) = es.push ⟨key, v, c⟩ := by
        apply Array.ext_getElem?
        intro i
        rw [Array.getElem?_modify, Array.getElem?_push, Array.getElem?_push]
        by_cases hi : i = es.size
        · subst hi; simp
        · rw [if_neg (by omega), if_neg hi, if_neg hi]
      simp [Instr.entryStore, MapKept.run_getObj_map hb, hf, hm, asInt, asIntOf, MapKept.run_setObj_map _ hb, Result.andThen, setBlk]
  · have hj : j < es.size := by simpa using (List.getElem?_eq_some_iff.1 h2).1
    have hj2 : es[j] = en := by simpa using (List.getElem?_eq_some_iff.1 h2).2
    have hes : es[j]? = some en := by simpa using h2
    have hsame : es.modify j (fun e => { e with key := key }) = es := by
      apply Array.ext_getElem?
      intro i
      rw [Array.getElem?_modify]
      by_cases hi : j = i
      · subst hi; rw [if_pos rfl, hes, ← h3]; rfl
      · rw [if_neg hi]
    refine ⟨.map es c, .map (es.modify j fun e => { e with val := v }) c, en.val, en.born, fun W hb => ?_, fun W hb => ?_, _, _, rfl, ?_⟩
    · have h1 : (Instr.findKey K key es.toList).run P W = .ok (some (j, en.val)) W := by
        rcases hall W with ⟨_, _, g3⟩ | ⟨j', en', g1, g2, g3, g4⟩
        · exact absurd h3 (g3 en (List.mem_of_getElem? h2))
        · have : j' = j := Ents.unique h.apart g2 h2 (g3.trans h3.symm)
          subst this
          rw [h2] at g2; cases g2
          exact g1
      have hst := L.stays W hk
      simp [Instr.mapEntry, run_underlying ht, MapKept.run_getObj_map hb, L.check W false hk, h1, hes, h3, hst, hsame, MapKept.run_setObj_map _ hb, Result.andThen, setBlk, goInt]
    · have hf : es.findIdx? (fun e => (e.born : Int) == (en.born : Int)) = some j := find_stamp_arr h.stamps hes
      simp [Instr.entryStore, MapKept.run_getObj_map hb, hf, asInt, asIntOf, MapKept.run_setObj_map _ hb, Result.andThen, setBlk]
    · have : (es.modify j fun e => { e with val := v }).toList = es.toList.set j { en with key := key, val := v } := by
        apply List.ext_getElem?
        intro i
        simp only [Array.getElem?_toList, Array.getElem?_modify, List.getElem?_set]
        by_cases hij : j = i
        · subst hij; simp [hj, hj2, ← h3]
        · simp [hij]
      rw [this]
      exact h.set h2 h3
end maps
/-! ### maps with a bound on their entries; delete; ranges -/
section maps2
open Classical
variable {P : Program} {K : TypeId}
/-- Block b is a map of at most n entries that reads as m. -/
def MapN (P : Program) (K : TypeId) (w : World) (b n : Nat) (m : Value → Option Value) : Prop :=
  ∃ es clock, w.heap[b]? = some (.map es clock) ∧ Ents P K es.toList clock m ∧ es.size ≤ n
theorem MapN.at {w : World} {b n : Nat} {m} (h : MapN P K w b n m) : MapAt P K w b m := by
  obtain ⟨es, c, hb, r, _⟩ := h; exact ⟨es, c, hb, r⟩
theorem MapN.lt {w : World} {b n : Nat} {m} (h : MapN P K w b n m) : b < w.heap.size := h.at.lt
theorem MapN.of_blk {w w' : World} {b n : Nat} {m} (h : MapN P K w b n m) (e : w'.heap[b]? = w.heap[b]?) : MapN P K w' b n m := by
  obtain ⟨es, c, hb, r⟩ := h; exact ⟨es, c, e.trans hb, r⟩
theorem MapN.fr {F : Nat → Prop} {w w' : World} {b n : Nat} {m} (h : MapN P K w b n m) (hf : Fr F w w') (hn : ¬ F b) : MapN P K w' b n m := h.of_blk (hf.blk b h.lt hn)
theorem MapN.mono {w : World} {b n n' : Nat} {m} (h : MapN P K w b n m) (hn : n ≤ n') : MapN P K w b n' m := by
  obtain ⟨es, c, hb, r, hs⟩ := h; exact ⟨es, c, hb, r, Nat.le_trans hs hn⟩
theorem MapN.made (w : World) : MapN P K (w.alloc (.map #[] 0)) w.heap.size 0 (fun _ => none) :=
  ⟨#[], 0, heap_alloc_new w _, ⟨by simp, by simp, by simp, by simp, by simp⟩, by simp⟩
theorem MapN.congr {w : World} {b n : Nat} {m m' : Value → Option Value} (h : MapN P K w b n m) (e : ∀ k, m k = m' k) : MapN P K w b n m' := by
  rw [show m' = m from funext fun k => (e k).symm]; exact h
/-- 'm[k] = v': one object, in whatever world in which the block is as it is. -/
theorem MapN.store (L : Maps.Keyed P K) {t e : TypeId} (ht : P.underlying t = some (.map K e)) {w : World} {b n : Nat} {m} (h : MapN P K w b n m) {key : Value} {l : Lit} (hk : keyOf P K key = some l) (v : Value) :
    ∃ o, ∀ W : World, W.heap[b]? = w.heap[b]? → (Instr.mapUpdate t (.map (some b)) key v).run P W = .ok () (setBlk W b o) ∧ MapN P K (setBlk W b o) b (if (m key).isSome then n else n + 1) (upd m key v) := by
  obtain ⟨es, c, hb0, h, hsz⟩ := h
  rcases h.find L (w := w) hk with ⟨h1, h2, h3⟩ | ⟨j, en, h1, h2, h3, h4⟩
  · refine ⟨.map (es.push ⟨key, v, c⟩) (c + 1), fun W hW => ?_⟩
    have hb := hW.trans hb0
    have hlt : b < W.heap.size := (Array.getElem?_eq_some_iff.1 hb).1
    have h1 : (Instr.findKey K key es.toList).run P W = .ok none W := by
      rcases h.find L (w := W) hk with ⟨h1, _⟩ | ⟨j, en, _, g2, g3, _⟩
      · exact h1
      · exact absurd g3 (h3 en (List.mem_of_getElem? g2))
    refine ⟨?_, _, _, setBlk_same hlt _, by simpa using h.push hk h3, by rw [h2]; simp; exact hsz⟩
    simp [Instr.mapUpdate, run_underlying ht, MapKept.run_getObj_map hb, L.check W false hk, h1, MapKept.run_setObj_map _ hb, Result.andThen, setBlk]
  · have hj : j < es.size := by simpa using (List.getElem?_eq_some_iff.1 h2).1
    have hj2 : es[j] = en := by simpa using (List.getElem?_eq_some_iff.1 h2).2
    refine ⟨.map (es.modify j fun e => { e with key := key, val := v }) c, fun W hW => ?_⟩
    have hb := hW.trans hb0
    have hlt : b < W.heap.size := (Array.getElem?_eq_some_iff.1 hb).1
    have h1 : (Instr.findKey K key es.toList).run P W = .ok (some (j, en.val)) W := by
      rcases h.find L (w := W) hk with ⟨_, _, g3⟩ | ⟨j', en', g1, g2, g3, g4⟩
      · exact absurd h3 (g3 en (List.mem_of_getElem? h2))
      · have : j' = j := Ents.unique h.apart g2 h2 (g3.trans h3.symm)
        subst this
        rw [h2] at g2; cases g2
        exact g1
    refine ⟨?_, _, _, setBlk_same hlt _, ?_, by rw [h4]; simp; exact hsz⟩
    · have hes : es[j]? = some en := by simpa using h2
      have hst := L.stays W hk
      simp [Instr.mapUpdate, run_underlying ht, MapKept.run_getObj_map hb, L.check W false hk, h1, hes, h3, hst, MapKept.run_setObj_map _ hb, Result.andThen, setBlk]
    · have : (es.modify j fun e => { e with key := key, val := v }).toList = es.toList.set j { en with key := key, val := v } := by
        apply List.ext_getElem?
        intro i
        simp only [Array.getElem?_toList, Array.getElem?_modify, List.getElem?_set]
        by_cases hij : j = i
        · subst hij; simp [hj, hj2]
        · simp [hij]
      rw [this]
      exact h.set h2 h3
theorem Ents.erase {es : List MapEntry} {c : Nat} {m} (h : Ents P K es c m) {key : Value} {j : Nat} {e0 : MapEntry} (hj : es[j]? = some e0) (hk : e0.key = key) : Ents P K (es.eraseIdx j) c (del m key) := by
  have hsub := List.eraseIdx_sublist es j
  refine ⟨fun e he => h.keys e (hsub.subset he), h.apart.sublist hsub, fun e he => h.born e (hsub.subset he), h.stamps.sublist hsub, fun k u => ?_⟩
  unfold del
  by_cases hkk : k = key
  · subst hkk
    simp only [if_true]
    constructor
    · intro h; cases h
    · rintro ⟨e, he, h1, h2⟩
      obtain ⟨i, hne, hi⟩ := List.mem_eraseIdx_iff_getElem?.1 he
      exact absurd (Ents.unique h.apart hi hj (h1.trans hk.symm)) hne
  · simp only [if_neg hkk]
    rw [h.at_]
    constructor
    · rintro ⟨e, he, h1, h2⟩
      obtain ⟨i, hi⟩ := List.getElem?_of_mem he
      refine ⟨e, List.mem_eraseIdx_iff_getElem?.2 ⟨i, ?_, hi⟩, h1, h2⟩
      rintro rfl
      rw [hj] at hi; cases hi
      exact hkk (h1.symm.trans hk)
    · rintro ⟨e, he, h1, h2⟩
      exact ⟨e, hsub.subset he, h1, h2⟩
theorem Ents.same {es : List MapEntry} {c : Nat} {m} (h : Ents P K es c m) {key : Value} (hn : m key = none) : Ents P K es c (del m key) := by
  have : del m key = m := by
    funext k
    unfold del
    by_cases hk : k = key
    · subst hk; rw [if_pos rfl, hn]
    · rw [if_neg hk]
  rw [this]; exact h
/-- 'delete(m, k)': one object, in whatever world in which the block is as it is. -/
theorem MapN.drop (L : Maps.Keyed P K) {t e : TypeId} (ht : P.underlying t = some (.map K e)) {w : World} {b n : Nat} {m} (h : MapN P K w b n m) {key : Value} {l : Lit} (hk : keyOf P K key = some l) :
    ∃ o, ∀ W : World, W.heap[b]? = w.heap[b]? → (∀ ty, (Builtin.delete_ #[t, K] ty #[.map (some b), key]).run P W = .ok (.tuple #[]) (setBlk W b o)) ∧ MapN P K (setBlk W b o) b n (del m key) := by
  obtain ⟨es, c, hb0, h, hsz⟩ := h
  rcases h.find L (w := w) hk with ⟨h1, h2, h3⟩ | ⟨j, en, h1, h2, h3, h4⟩
  · refine ⟨.map es c, fun W hW => ?_⟩
    have hb := hW.trans hb0
    have hlt : b < W.heap.size := (Array.getElem?_eq_some_iff.1 hb).1
    have h1 : (Instr.findKey K key es.toList).run P W = .ok none W := by
      rcases h.find L (w := W) hk with ⟨h1, _⟩ | ⟨j, en, _, g2, g3, _⟩
      · exact h1
      · exact absurd g3 (h3 en (List.mem_of_getElem? g2))
    refine ⟨fun ty => ?_, _, _, setBlk_same hlt _, h.same h2, hsz⟩
    simp [Builtin.delete_, run_underlying ht, MapKept.run_getObj_map hb, L.check W _ hk, h1, MapKept.run_setObj_map _ hb, Result.andThen, setBlk]
  · have hj : j < es.size := by simpa using (List.getElem?_eq_some_iff.1 h2).1
    refine ⟨.map (es.eraseIdxIfInBounds j) c, fun W hW => ?_⟩
    have hb := hW.trans hb0
    have hlt : b < W.heap.size := (Array.getElem?_eq_some_iff.1 hb).1
    have h1 : (Instr.findKey K key es.toList).run P W = .ok (some (j, en.val)) W := by
      rcases h.find L (w := W) hk with ⟨_, _, g3⟩ | ⟨j', en', g1, g2, g3, g4⟩
      · exact absurd h3 (g3 en (List.mem_of_getElem? h2))
      · have : j' = j := Ents.unique h.apart g2 h2 (g3.trans h3.symm)
        subst this
        rw [h2] at g2; cases g2
        exact g1
    refine ⟨fun ty => ?_, _, _, setBlk_same hlt _, ?_, Nat.le_trans (MapFrom.size_erase es j) hsz⟩
    · simp [Builtin.delete_, run_underlying ht, MapKept.run_getObj_map hb, L.check W _ hk, h1, MapKept.run_setObj_map _ hb, Result.andThen, setBlk]
    · have : (es.eraseIdxIfInBounds j).toList = es.toList.eraseIdx j := by
        unfold Array.eraseIdxIfInBounds
        rw [dif_pos hj]
        simp
      rw [this]
      exact h.erase h2 h3
/-- How many entries a map has. -/
theorem MapN.len {t e : TypeId} (ht : P.underlying t = some (.map K e)) {w : World} {b n : Nat} {m} (h : MapN P K w b n m) :
    ∃ c : Nat, c ≤ n ∧ (c = 0 ↔ ∀ k, m k = none) ∧ ∀ (W : World) ty, W.heap[b]? = w.heap[b]? → (Builtin.len_ #[t] ty #[.map (some b)]).run P W = .ok (.int .i64 c) W := by
  obtain ⟨es, c, hb0, h, hsz⟩ := h
  refine ⟨es.size, hsz, ⟨fun h0 k => ?_, fun h0 => ?_⟩, fun W ty hW => ?_⟩
  · cases hm : m k with
    | none => rfl
    | some v =>
      obtain ⟨e, he, _⟩ := (h.at_ k v).1 hm
      have : 0 < es.toList.length := List.length_pos_of_mem he
      simp at this; omega
  · rcases Nat.eq_zero_or_pos es.size with hz | hz
    · exact hz
    · have := (h.at_ es[0].key es[0].val).2 ⟨es[0], by simp, rfl, rfl⟩
      rw [h0] at this; cases this
  · have hb := hW.trans hb0
    simp [Builtin.len_, run_underlying ht, MapKept.run_getObj_map hb, goInt, Result.andThen]
/-! ### range -/
/-- A range over the map of block b under way, its iterator in block r; left: the keys still to come. -/
def Rng (P : Program) (K : TypeId) (w : World) (b r : Nat) (m : Value → Option Value) (left : Value → Prop) (cnt : Nat) : Prop :=
  ∃ es clock since seen c0, w.heap[b]? = some (.map es clock) ∧ Ents P K es.toList clock m ∧ w.heap[r]? = some (.mapIter (some b) since seen c0) ∧ (∀ x ∈ es.toList, x.born < since) ∧ (leftOf es seen).size = cnt ∧
    (∀ x ∈ es.toList, left x.key ↔ seen.contains x.born = false) ∧ (∀ k, left k → ∃ x ∈ es.toList, x.key = k) ∧ since ≤ c0 ∧ since ≤ clock
theorem Rng.at {w : World} {b r : Nat} {m left cnt} (h : Rng P K w b r m left cnt) : MapAt P K w b m := by
  obtain ⟨es, c, _, _, _, hb, h, _⟩ := h; exact ⟨es, c, hb, h⟩
theorem Rng.ne {w : World} {b r : Nat} {m left cnt} (h : Rng P K w b r m left cnt) : r ≠ b := by
  obtain ⟨es, clock, since, seen, c0, hb, _, hr, _⟩ := h
  intro e
  rw [e, hb] at hr
  cases hr
theorem Rng.lt {w : World} {b r : Nat} {m left cnt} (h : Rng P K w b r m left cnt) : r < w.heap.size := by
  obtain ⟨es, clock, since, seen, c0, _, _, hr, _⟩ := h
  exact lt_of_blk hr
theorem Rng.fr {F : Nat → Prop} {w w' : World} {b r : Nat} {m left cnt} (h : Rng P K w b r m left cnt) (hf : Fr F w w') (hb' : ¬ F b) (hr' : ¬ F r) : Rng P K w' b r m left cnt := by
  obtain ⟨es, clock, since, seen, c0, hb, h2, hr, rest⟩ := h
  exact ⟨es, clock, since, seen, c0, hf.obj hb hb', h2, hf.obj hr hr', rest⟩
theorem MapAt.range {t e : TypeId} (ht : P.underlying t = some (.map K e)) {w : World} {b : Nat} {m} (h : MapAt P K w b m) :
    ∃ o cnt, (Instr.range t (.map (some b))).run P w = .ok (.pointer (some ⟨w.heap.size, 0, none⟩)) (w.alloc o) ∧ Rng P K (w.alloc o) b w.heap.size m (fun k => (m k).isSome = true) cnt := by
  have hlt := h.lt
  obtain ⟨es, clock, hb, h⟩ := h
  refine ⟨_, _, run_range_map w t K e b es clock ht hb, es, clock, clock, #[], clock, (blk_alloc hlt _).trans hb, h, blk_alloc_new _ _, h.born, rfl, fun x hx => ?_, fun k hk => ?_, Nat.le_refl _, Nat.le_refl _⟩
  · show (m x.key).isSome = true ↔ _
    rw [(h.at_ x.key x.val).2 ⟨x, hx, rfl, rfl⟩]; simp
  · obtain ⟨v, hv⟩ := Option.isSome_iff_exists.1 hk
    obtain ⟨x, hx, h1, _⟩ := (h.at_ k v).1 hv
    exact ⟨x, hx, h1⟩
theorem Rng.next {w : World} {b r : Nat} {m left cnt} (h : Rng P K w b r m left cnt) (ty : TypeId) :
    ((∀ k, ¬ left k) ∧ (Instr.next (.pointer (some ⟨r, 0, none⟩)) false ty).run P w = .ok (.tuple #[.bool false]) w) ∨
    ∃ key v w' cnt', left key ∧ m key = some v ∧ (∃ l, keyOf P K key = some l) ∧ (Instr.next (.pointer (some ⟨r, 0, none⟩)) false ty).run P w = .ok (.tuple #[.bool true, key, v]) w' ∧
      Rng P K w' b r m (fun x => left x ∧ x ≠ key) cnt' ∧ cnt' < cnt ∧ Fr (fun x => x = r) w w' ∧ (Instr.entry (.pointer (some ⟨r, 0, none⟩))).run P w' = .ok (.tuple #[key, v]) w' := by
  have hne := h.ne
  obtain ⟨es, clock, since, seen, c0, hb, F, hr, hold, rfl, hl1, hl2, hsc, hsk⟩ := h
  rcases run_next_at (P := P) w ty r b since c0 seen es clock hr hb hold hsc with ⟨h0, hrun⟩ | ⟨e, he, w1, hal, hrun⟩
  · refine Or.inl ⟨fun k hk => ?_, hrun⟩
    obtain ⟨x, hx, rfl⟩ := hl2 k hk
    have h1 := (hl1 x hx).1 hk
    rw [all_seen es seen h0 x hx] at h1
    cases h1
  · obtain ⟨hem, hes⟩ := mem_left he
    have hr1 : w1.heap[r]? = some (.mapIter (some b) since seen c0) := by rcases hal with rfl | rfl <;> exact hr
    have hb1 : w1.heap[b]? = some (.map es clock) := by rcases hal with rfl | rfl <;> exact hb
    have hset := MapKept.heap_set (o' := .mapIter (some b) since (seen.push e.born) clock) hr1
    have hb' : (ChangeMaps.setBlock w1 r (.mapIter (some b) since (seen.push e.born) clock)).heap[b]? = some (.map es clock) := (hset.2 b (fun e1 => hne e1.symm)).trans hb1
    refine Or.inr ⟨e.key, e.val, _, _, (hl1 e hem).2 hes, (F.at_ _ _).2 ⟨e, hem, rfl, rfl⟩, F.keys e hem, hrun,
      ⟨es, clock, since, seen.push e.born, clock, hb', F, hset.1, hold, rfl, fun x hx => ?_, fun k hk => hl2 k hk.1, hsk, hsk⟩, left_shrinks es seen e he, ?_,
      run_entry_at _ r b since seen es clock e hset.1 hb' hem ?_⟩
    · show (left x.key ∧ x.key ≠ e.key) ↔ _
      rw [hl1 x hx, contains_push]
      obtain ⟨i, hi⟩ := List.getElem?_of_mem hx
      obtain ⟨j, hj⟩ := List.getElem?_of_mem hem
      have hiff : x.key = e.key ↔ x.born = e.born := by
        constructor
        · intro hk
          have := Ents.unique F.apart hi hj hk
          subst this
          rw [hi] at hj; cases hj; rfl
        · intro hbn
          have := find_stamp F.stamps hi
          have h2 := find_stamp F.stamps hj
          rw [hbn] at this
          rw [this] at h2
          cases h2
          rw [hi] at hj; cases hj; rfl
      rw [ne_eq, hiff]
      by_cases hb2 : x.born = e.born <;> simp [hb2]
    · rcases hal with rfl | rfl <;> exact ⟨rfl, rfl, rfl, by simp [ChangeMaps.setBlock], fun i _ hi => hset.2 i hi⟩
    · rw [List.Nodup, List.pairwise_map]; exact F.stamps
end maps2
end Go.Pl
