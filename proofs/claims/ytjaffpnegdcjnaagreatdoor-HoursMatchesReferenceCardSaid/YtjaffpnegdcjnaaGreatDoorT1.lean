/- Part 1 of the proof: the texts Base, Env, Drw, Drg, Drx, Wa, Pa, Pb, Pc, Pd, Ty. -/
import Derived.WalkKit
import Derived.WalkSpells
import Derived.WalkLawsBesides
import Derived.Maps.Own
import Derived.Maps.OwnSet
import Derived.Maps.RangeWalk
import Derived.Sort.KeysCollected
import Derived.Orders
import Derived.Deep.MidRow
import Derived.Maps.AppendAt
import Derived.Laws.AppendOwnNone
import Derived.Test.YtjaffpnegdcjnaaGreatDoorRows
import Derived.Shelf.Abstract
/- Plain laws over whatever program: frames of blocks, maps as functions on keys. -/
namespace Go.Pl
open Go.RowKit
/-- w' is w but for blocks of F and new ones. -/
structure Fr (F : Nat → Prop) (w w' : World) : Prop where
  os : w'.os = w.os
  tape : w'.tape = w.tape
  output : w'.output = w.output
  size : w.heap.size ≤ w'.heap.size
  blk : ∀ r, r < w.heap.size → ¬ F r → w'.heap[r]? = w.heap[r]?
section fr
variable {F G : Nat → Prop} {a b c w w' : World}
@[simp] theorem Fr.refl (F : Nat → Prop) (w : World) : Fr F w w := ⟨rfl, rfl, rfl, Nat.le_refl _, fun _ _ _ => rfl⟩
theorem Fr.trans' (h : Fr F a b) (k : Fr G b c) (hs : ∀ r, r < a.heap.size → G r → F r) : Fr F a c :=
  ⟨k.os.trans h.os, k.tape.trans h.tape, k.output.trans h.output, Nat.le_trans h.size k.size,
    fun r hr hf => (k.blk r (Nat.lt_of_lt_of_le hr h.size) (fun g => hf (hs r hr g))).trans (h.blk r hr hf)⟩
theorem Fr.trans (h : Fr F a b) (k : Fr F b c) : Fr F a c := h.trans' k fun _ _ => id
theorem Fr.mono (h : Fr F a b) (hs : ∀ r, r < a.heap.size → F r → G r) : Fr G a b := ⟨h.os, h.tape, h.output, h.size, fun r hr hg => h.blk r hr (fun f => hg (hs r hr f))⟩
@[simp] theorem Fr.drew (h : Fr F a w) : Fr F a w.drew := ⟨h.os, h.tape, h.output, h.size, h.blk⟩
@[simp] theorem Fr.drewN (h : Fr F a w) (n : Nat) : Fr F a (w.drewN n) := ⟨h.os, h.tape, h.output, h.size, h.blk⟩
@[simp] theorem Fr.alloc (h : Fr F a w) (o : Obj) : Fr F a (w.alloc o) :=
  h.trans ⟨rfl, rfl, rfl, by simp, fun r hr _ => Below.heap_alloc _ _ _ hr⟩
theorem Fr.setCell (h : Fr F a w) {p : Addr} (hp : p.block < a.heap.size → F p.block) (u : Value) : Fr F a (w.setCell p u) :=
  h.trans' (G := fun r => r = p.block) ⟨rfl, rfl, rfl, by simp [World.setCell], fun r _ hne => Below.heap_setCell _ _ _ _ hne⟩ (fun r hr e => by subst e; exact hp hr)
theorem Fr.grown {row : Option Nat} (h : Fr F a w) (hg : w.grownBy w' row) (hr : ∀ k, row = some k → k < a.heap.size → F k) : Fr F a w' :=
  h.trans' (G := fun r => row = some r) ⟨hg.os, hg.tape, hg.output, hg.size, fun r hr hne => hg.block r hr (fun e => hne e.symm)⟩ (fun r hl e => hr r e hl)
theorem Fr.below (h : Fr F a w) (hf : ∀ r, r < a.heap.size → ¬ F r) : Below a.heap.size a w := ⟨h.os, h.tape, h.output, h.size, fun r hr => h.blk r hr (hf r hr)⟩
theorem Fr.of_below (h : Below a.heap.size a w) : Fr F a w := ⟨h.os, h.tape, h.output, h.size, fun r hr _ => h.block r hr⟩
theorem Fr.cell (h : Fr F w w') {p : Addr} {v : Value} (hc : w.cell? p = some v) (hf : ¬ F p.block) : w'.cell? p = some v :=
  (World.cell?_of_block (h.blk p.block (World.block_lt_of_cell? w p hc) hf)).trans hc
theorem Fr.obj (h : Fr F w w') {r : Nat} {o : Obj} (hc : w.heap[r]? = some o) (hf : ¬ F r) : w'.heap[r]? = some o :=
  (h.blk r (Array.getElem?_eq_some_iff.1 hc).1 hf).trans hc
/-- Blocks of a world that is written out. -/
@[simp] theorem blk_drewN (w : World) (n r : Nat) : (w.drewN n).heap[r]? = w.heap[r]? := rfl
@[simp] theorem blk_drew (w : World) (r : Nat) : w.drew.heap[r]? = w.heap[r]? := rfl
@[simp] theorem blk_alloc {w : World} {r : Nat} (h : r < w.heap.size) (o : Obj) : (w.alloc o).heap[r]? = w.heap[r]? := Below.heap_alloc _ _ _ h
@[simp] theorem blk_alloc_new (w : World) (o : Obj) : (w.alloc o).heap[w.heap.size]? = some o := heap_alloc_new w o
theorem blk_alloc_at {w : World} {r : Nat} (h : r = w.heap.size) (o : Obj) : (w.alloc o).heap[r]? = some o := by rw [h]; exact heap_alloc_new w o
theorem blk_setCell {w : World} {p : Addr} {r : Nat} (h : r ≠ p.block) (u : Value) : (w.setCell p u).heap[r]? = w.heap[r]? := Below.heap_setCell _ _ _ _ h
theorem blk_setCell_same {w : World} {g off : Nat} {cur : Array Value} {E : TypeId} {fz : Nat × Nat} (h : w.heap[g]? = some (.cells cur E fz)) (u : Value) :
    (w.setCell ⟨g, off, none⟩ u).heap[g]? = some (.cells (cur.setIfInBounds off u) E fz) := by
  simp [World.setCell, Array.getElem?_modify, h]
theorem cell_of_blk {w : World} {g : Nat} {cur : Array Value} {E : TypeId} {fz : Nat × Nat} (h : w.heap[g]? = some (.cells cur E fz)) (off : Nat) : w.cell? ⟨g, off, none⟩ = cur[off]? := by
  simp [World.cell?, h]
theorem free_of_blk {w : World} {g : Nat} {cur : Array Value} {E : TypeId} (h : w.heap[g]? = some (.cells cur E (0, 0))) (off : Nat) : w.frozen? ⟨g, off, none⟩ = false := by
  simp [World.frozen?, h]
theorem lt_of_blk {w : World} {g : Nat} {o : Obj} (h : w.heap[g]? = some o) : g < w.heap.size := (Array.getElem?_eq_some_iff.1 h).1
end fr
/-! ### maps -/
section maps
open Classical
variable {P : Program} {K : TypeId}
noncomputable def upd (m : Value → Option Value) (k v : Value) : Value → Option Value := fun x => if x = k then some v else m x
noncomputable def del (m : Value → Option Value) (k : Value) : Value → Option Value := fun x => if x = k then none else m x
/-- The entries es read as the function m. -/
structure Ents (P : Program) (K : TypeId) (es : List MapEntry) (clock : Nat) (m : Value → Option Value) : Prop where
  keys : ∀ e ∈ es, ∃ l, keyOf P K e.key = some l
  apart : es.Pairwise (fun x y => x.key ≠ y.key)
  born : ∀ e ∈ es, e.born < clock
  stamps : es.Pairwise (fun x y => x.born ≠ y.born)
  at_ : ∀ k v, m k = some v ↔ ∃ e ∈ es, e.key = k ∧ e.val = v
/-- Block b is a map that reads as m. -/
def MapAt (P : Program) (K : TypeId) (w : World) (b : Nat) (m : Value → Option Value) : Prop :=
  ∃ es clock, w.heap[b]? = some (.map es clock) ∧ Ents P K es.toList clock m
theorem MapAt.lt {w : World} {b : Nat} {m} (h : MapAt P K w b m) : b < w.heap.size := by
  obtain ⟨es, c, hb, _⟩ := h; exact (Array.getElem?_eq_some_iff.1 hb).1
theorem MapAt.of_blk {w w' : World} {b : Nat} {m} (h : MapAt P K w b m) (e : w'.heap[b]? = w.heap[b]?) : MapAt P K w' b m := by
  obtain ⟨es, c, hb, r⟩ := h; exact ⟨es, c, e.trans hb, r⟩
theorem MapAt.fr {F : Nat → Prop} {w w' : World} {b : Nat} {m} (h : MapAt P K w b m) (hf : Fr F w w') (hn : ¬ F b) : MapAt P K w' b m := h.of_blk (hf.blk b h.lt hn)
theorem MapAt.made (w : World) : MapAt P K (w.alloc (.map #[] 0)) w.heap.size (fun _ => none) :=
  ⟨#[], 0, heap_alloc_new w _, ⟨by simp, by simp, by simp, by simp, by simp⟩⟩
theorem Ents.find (L : Maps.Keyed P K) {w : World} {es : List MapEntry} {c : Nat} {m} (h : Ents P K es c m) {key : Value} {l : Lit} (hk : keyOf P K key = some l) :
    ((Instr.findKey K key es).run P w = .ok none w ∧ m key = none ∧ ∀ e ∈ es, e.key ≠ key) ∨
    ∃ j e, (Instr.findKey K key es).run P w = .ok (some (j, e.val)) w ∧ es[j]? = some e ∧ e.key = key ∧ m key = some e.val := by
  rcases L.find w hk es h.keys with ⟨h1, h2⟩ | ⟨j, e, h1, h2, h3⟩
  · left
    refine ⟨h1, ?_, h2⟩
    cases hm : m key with
    | none => rfl
    | some v =>
      obtain ⟨e, he, hek, _⟩ := (h.at_ key v).1 hm
      exact absurd hek (h2 e he)
  · right
    exact ⟨j, e, h1, h2, h3, (h.at_ key e.val).2 ⟨e, List.mem_of_getElem? h2, h3, rfl⟩⟩
def setBlk (w : World) (b : Nat) (o : Obj) : World := { w with heap := w.heap.setIfInBounds b o }
theorem Fr.setBlk {F : Nat → Prop} {a w : World} (h : Fr F a w) {b : Nat} (hb : b < a.heap.size → F b) (o : Obj) : Fr F a (setBlk w b o) :=
  h.trans' (G := fun r => r = b) ⟨rfl, rfl, rfl, by simp [Pl.setBlk], fun r _ hne => by simp [Pl.setBlk, Ne.symm hne]⟩ (fun r hr e => by subst e; exact hb hr)
theorem setBlk_same {w : World} {b : Nat} (hb : b < w.heap.size) (o : Obj) : (setBlk w b o).heap[b]? = some o := by
  simp [setBlk, hb]
theorem Ents.push {es : List MapEntry} {c : Nat} {m} (h : Ents P K es c m) {key v : Value} {l : Lit} (hk : keyOf P K key = some l) (hn : ∀ e ∈ es, e.key ≠ key) :
    Ents P K (es ++ [⟨key, v, c⟩]) (c + 1) (upd m key v) := by
  refine ⟨?_, ?_, ?_, ?_, ?_⟩
  · intro e he
    rcases List.mem_append.1 he with he | he
    · exact h.keys e he
    · simp at he; subst he; exact ⟨l, hk⟩
  · rw [List.pairwise_append]; exact ⟨h.apart, by simp, fun x hx y hy => by simp at hy; subst hy; exact hn x hx⟩
  · intro e he
    rcases List.mem_append.1 he with he | he
    · have := h.born e he; omega
    · simp at he; subst he; exact Nat.lt_succ_self _
  · rw [List.pairwise_append]; exact ⟨h.stamps, by simp, fun x hx y hy => by simp at hy; subst hy; have := h.born x hx; simp; omega⟩
  · intro k u
    unfold upd
    by_cases hkk : k = key
    · subst hkk
      simp only [if_true, Option.some.injEq]
      constructor
      · rintro rfl; exact ⟨⟨k, v, c⟩, by simp, rfl, rfl⟩
      · rintro ⟨e, he, h1, h2⟩
        rcases List.mem_append.1 he with he | he
        · exact absurd h1 (hn e he)
        · simp at he; subst he; exact h2
    · simp only [if_neg hkk]
      rw [h.at_]
      constructor
      · rintro ⟨e, he, h1, h2⟩; exact ⟨e, List.mem_append_left _ he, h1, h2⟩
      · rintro ⟨e, he, h1, h2⟩
        rcases List.mem_append.1 he with he | he
        · exact ⟨e, he, h1, h2⟩
        · simp at he; subst he; exact absurd h1.symm hkk
theorem Ents.unique {es : List MapEntry} (hp : es.Pairwise (fun x y => x.key ≠ y.key)) {i j : Nat} {x y : MapEntry} (hi : es[i]? = some x) (hj : es[j]? = some y) (hk : x.key = y.key) : i = j := by
  obtain ⟨hi1, hi2⟩ := List.getElem?_eq_some_iff.1 hi
  obtain ⟨hj1, hj2⟩ := List.getElem?_eq_some_iff.1 hj
  rcases Nat.lt_trichotomy i j with h | h | h
  · exact absurd (by rw [hi2, hj2]; exact hk) (List.pairwise_iff_getElem.1 hp i j hi1 hj1 h)
  · exact h
  · exact absurd (by rw [hi2, hj2]; exact hk.symm) (List.pairwise_iff_getElem.1 hp j i hj1 hi1 h)
theorem Ents.set {es : List MapEntry} {c : Nat} {m} (h : Ents P K es c m) {key v : Value} {j : Nat} {e0 : MapEntry} (hj : es[j]? = some e0) (hk : e0.key = key) :
    Ents P K (es.set j { e0 with key := key, val := v }) c (upd m key v) := by
  have hj1 : j < es.length := (List.getElem?_eq_some_iff.1 hj).1
  have hj2 : es[j] = e0 := (List.getElem?_eq_some_iff.1 hj).2
  have hget : ∀ i x, (es.set j { e0 with key := key, val := v })[i]? = some x → ∃ y, es[i]? = some y ∧ x.key = y.key ∧ x.born = y.born ∧ (i ≠ j → x = y) ∧ (i = j → x.val = v) := by
    intro i x hx
    rw [List.getElem?_set] at hx
    by_cases hij : j = i
    · subst hij
      simp [hj1] at hx
      subst hx
      exact ⟨e0, hj, hk.symm, rfl, fun h => absurd rfl h, fun _ => rfl⟩
    · simp [hij] at hx
      exact ⟨x, hx, rfl, rfl, fun _ => rfl, fun h => absurd h.symm hij⟩
  have hpw : ∀ (R : MapEntry → MapEntry → Prop), (∀ x y x' y', x.key = x'.key → x.born = x'.born → y.key = y'.key → y.born = y'.born → R x' y' → R x y) → es.Pairwise R → (es.set j { e0 with key := key, val := v }).Pairwise R := by
    intro R hR hp
    rw [List.pairwise_iff_getElem] at hp ⊢
    intro a b ha hb hab
    obtain ⟨y, hy, h1, h2, _⟩ := hget a _ (List.getElem?_eq_getElem ha)
    obtain ⟨z, hz, h3, h4, _⟩ := hget b _ (List.getElem?_eq_getElem hb)
    obtain ⟨ha', rfl⟩ := List.getElem?_eq_some_iff.1 hy
    obtain ⟨hb', rfl⟩ := List.getElem?_eq_some_iff.1 hz
    exact hR _ _ _ _ h1 h2 h3 h4 (hp a b ha' hb' hab)
  refine ⟨?_, hpw _ (fun x y x' y' h1 _ h2 _ hr => by rw [h1, h2]; exact hr) h.apart, ?_, hpw _ (fun x y x' y' _ h1 _ h2 hr => by rw [h1, h2]; exact hr) h.stamps, ?_⟩
  · intro e he
    obtain ⟨i, hi⟩ := List.getElem?_of_mem he
    obtain ⟨y, hy, h1, _⟩ := hget i e hi
    rw [h1]; exact h.keys y (List.mem_of_getElem? hy)
  · intro e he
    obtain ⟨i, hi⟩ := List.getElem?_of_mem he
    obtain ⟨y, hy, _, h1, _⟩ := hget i e hi
    rw [h1]; exact h.born y (List.mem_of_getElem? hy)
  · intro k u
    unfold upd
    by_cases hkk : k = key
    · subst hkk
      simp only [if_true, Option.some.injEq]
      constructor
      · rintro rfl
        exact ⟨{ e0 with key := k, val := v }, List.mem_of_getElem? (i := j) (by simp [hj1]), rfl, rfl⟩
      · rintro ⟨e, he, h1, h2⟩
        obtain ⟨i, hi⟩ := List.getElem?_of_mem he
        obtain ⟨y, hy, h3, h4, h5, h6⟩ := hget i e hi
        have : i = j := Ents.unique h.apart hy hj (by rw [← h3, h1, hk])
        rw [← h2, h6 this]
    · simp only [if_neg hkk]
      rw [h.at_]
      constructor
      · rintro ⟨e, he, h1, h2⟩
        obtain ⟨i, hi⟩ := List.getElem?_of_mem he
        have : j ≠ i := by rintro rfl; rw [hj] at hi; cases hi; exact hkk (h1.symm.trans hk)
        exact ⟨e, List.mem_of_getElem? (i := i) (by rw [List.getElem?_set, if_neg this]; exact hi), h1, h2⟩
      · rintro ⟨e, he, h1, h2⟩
        obtain ⟨i, hi⟩ := List.getElem?_of_mem he
        obtain ⟨y, hy, h3, h4, h5, h6⟩ := hget i e hi
        by_cases hij : i = j
        · subst hij; rw [hj] at hy; cases hy; exact absurd (h1.symm.trans (h3.trans hk)) hkk
        · rw [h5 hij] at h1 h2; exact ⟨y, List.mem_of_getElem? hy, h1, h2⟩
/-- 'm[k] = v': one object, in whatever world in which the block is as it is. -/
theorem MapAt.store (L : Maps.Keyed P K) {t e : TypeId} (ht : P.underlying t = some (.map K e)) {w : World} {b : Nat} {m} (h : MapAt P K w b m) {key : Value} {l : Lit} (hk : keyOf P K key = some l) (v : Value) :
    ∃ o, ∀ W : World, W.heap[b]? = w.heap[b]? → (Instr.mapUpdate t (.map (some b)) key v).run P W = .ok () (setBlk W b o) ∧ MapAt P K (setBlk W b o) b (upd m key v) := by
  obtain ⟨es, c, hb0, h⟩ := h
  rcases h.find L (w := w) hk with ⟨h1, h2, h3⟩ | ⟨j, en, h1, h2, h3, h4⟩
  · refine ⟨.map (es.push ⟨key, v, c⟩) (c + 1), fun W hW => ?_⟩
    have hb := hW.trans hb0
    have hlt : b < W.heap.size := (Array.getElem?_eq_some_iff.1 hb).1
    have h1 : (Instr.findKey K key es.toList).run P W = .ok none W := by
      rcases h.find L (w := W) hk with ⟨h1, _⟩ | ⟨j, en, _, g2, g3, _⟩
      · exact h1
      · exact absurd g3 (h3 en (List.mem_of_getElem? g2))
    refine ⟨?_, _, _, setBlk_same hlt _, by simpa using h.push hk h3⟩
    simp [Instr.mapUpdate, run_underlying ht, MapKept.run_getObj_map hb, L.check W false hk, h1, MapKept.run_setObj_map _ hb, Result.andThen, setBlk]
  · have hj : j < es.size := by simpa using (List.getElem?_eq_some_iff.1 h2).1
    have hj2 : es[j] = en := by simpa using (List.getElem?_eq_some_iff.1 h2).2
    refine ⟨.map (es.modify j fun e => { e with key := key, val := v }) c, fun W hW => ?_⟩
    have hb := hW.trans hb0
    have hlt : b < W.heap.size := (Array.getElem?_eq_some_iff.1 hb).1
    have h1 : (Instr.findKey K key es.toList).run P W = .ok (some (j, en.val)) W := by
      rcases h.find L (w := W) hk with ⟨_, _, g3⟩ | ⟨j', en', g1, g2, g3, g4⟩
      · exact absurd h3 (g3 en (List.mem_of_getElem? h2))
      · have : j' = j := Ents.unique h.apart g2 h2 (g3.trans h3.symm)
        subst this
        rw [h2] at g2; cases g2
        exact g1
    refine ⟨?_, _, _, setBlk_same hlt _, ?_⟩
    · have hes : es[j]? = some en := by simpa using h2
      have hst := L.stays W hk
      simp [Instr.mapUpdate, run_underlying ht, MapKept.run_getObj_map hb, L.check W false hk, h1, hes, h3, hst, MapKept.run_setObj_map _ hb, Result.andThen, setBlk]
    · have : (es.modify j fun e => { e with key := key, val := v }).toList = es.toList.set j { en with key := key, val := v } := by
        apply List.ext_getElem?
        intro i
        simp only [Array.getElem?_toList, Array.getElem?_modify, List.getElem?_set]
        by_cases hij : j = i
        · subst hij; simp [hj, hj2]
        · simp [hij]
      rw [this]
      exact h.set h2 h3
/-- An object is a map that reads as m. -/
def ObjMap (P : Program) (K : TypeId) (o : Obj) (m : Value → Option Value) : Prop := ∃ es clock, o = .map es clock ∧ Ents P K es.toList clock m
theorem MapAt.obj {w : World} {b : Nat} {m} (h : MapAt P K w b m) : ∃ o, w.heap[b]? = some o ∧ ObjMap P K o m := by
  obtain ⟨es, c, hb, r⟩ := h; exact ⟨_, hb, es, c, rfl, r⟩
theorem find_stamp {es : List MapEntry} (hp : es.Pairwise (fun x y => x.born ≠ y.born)) {j : Nat} {e : MapEntry} (hj : es[j]? = some e) : es.findIdx? (fun x => (x.born : Int) == (e.born : Int)) = some j := by
  obtain ⟨hj1, hj2⟩ := List.getElem?_eq_some_iff.1 hj
  rw [List.findIdx?_eq_some_iff_getElem]
  refine ⟨hj1, by rw [hj2]; simp, fun i hi => ?_⟩
  have := List.pairwise_iff_getElem.1 hp i j (by omega) hj1 hi
  rw [hj2] at this
  simp; omega
theorem find_stamp_arr {A : Array MapEntry} (hp : A.toList.Pairwise (fun x y => x.born ≠ y.born)) {j : Nat} {e : MapEntry} (hj : A[j]? = some e) : A.findIdx? (fun x => (x.born : Int) == (e.born : Int)) = some j := by
  cases A with
  | mk l => rw [List.findIdx?_toArray]; exact find_stamp hp (by simpa using hj)
/-- 'm[k] op= ..' in two steps: the entry is made, then written. -/
theorem ObjMap.entry (L : Maps.Keyed P K) {t e : TypeId} (ht : P.underlying t = some (.map K e)) {o : Obj} {m} (h : ObjMap P K o m) (b : Nat) {key : Value} {l : Lit} (hk : keyOf P K key = some l) {z : Value} (hz : ∀ w, (zeroValue e).run P w = .ok z w) (v : Value) :
    ∃ o1 o2 x s, (∀ W : World, W.heap[b]? = some o → (Instr.mapEntry t (.map (some b)) key).run P W = .ok (.tuple #[x, .int .i64 s]) (setBlk W b o1)) ∧
      (∀ W : World, W.heap[b]? = some o1 → (Instr.entryStore t (.map (some b)) (.int .i64 s) v).run P W = .ok () (setBlk W b o2)) ∧ ObjMap P K o2 (upd m key v) := by
  obtain ⟨es, c, rfl, h⟩ := h
  have hall := fun w => h.find L (w := w) hk
  rcases hall default with ⟨_, h2, h3⟩ | ⟨j, en, _, h2, h3, h4⟩
  · refine ⟨.map (es.push ⟨key, z, c⟩) (c + 1), .map (es.push ⟨key, v, c⟩) (c + 1), z, c, fun W hb => ?_, fun W hb => ?_, _, _, rfl, by simpa using h.push hk h3⟩
    · have h1 : (Instr.findKey K key es.toList).run P W = .ok none W := by
        rcases hall W with ⟨h1, _⟩ | ⟨j, en, _, g2, g3, _⟩
        · exact h1
        · exact absurd g3 (h3 en (List.mem_of_getElem? g2))
      simp [Instr.mapEntry, run_underlying ht, MapKept.run_getObj_map hb, L.check W false hk, h1, hz, MapKept.run_setObj_map _ hb, Result.andThen, setBlk, goInt]
    · have hs : (es.push ⟨key, z, c⟩).toList.Pairwise (fun x y => x.born ≠ y.born) := by simpa using (h.push (v := z) hk h3).stamps
      have hf : (es.push ⟨key, z, c⟩).findIdx? (fun e => (e.born : Int) == (c : Int)) = some es.size := find_stamp_arr hs (e := ⟨key, z, c⟩) (by simp)
      have hm : (es.push ⟨key, z, c⟩).modify es.size (fun e => { e with val := v }) = es.push ⟨key, v, c⟩ := by
        apply Array.ext_getElem?
        intro i
        rw [Array.getElem?_modify, Array.getElem?_push, Array.getElem?_push]
        by_cases hi : i = es.size
        · subst hi; simp
        · rw [if_neg (by omega), if_neg hi, if_neg hi]
      simp [Instr.entryStore, MapKept.run_getObj_map hb, hf, hm, asInt, asIntOf, MapKept.run_setObj_map _ hb, Result.andThen, setBlk]
  · have hj : j < es.size := by simpa using (List.getElem?_eq_some_iff.1 h2).1
    have hj2 : es[j] = en := by simpa using (List.getElem?_eq_some_iff.1 h2).2
    have hes : es[j]? = some en := by simpa using h2
    have hsame : es.modify j (fun e => { e with key := key }) = es := by
      apply Array.ext_getElem?
      intro i
      rw [Array.getElem?_modify]
      by_cases hi : j = i
      · subst hi; rw [if_pos rfl, hes, ← h3]; rfl
      · rw [if_neg hi]
    refine ⟨.map es c, .map (es.modify j fun e => { e with val := v }) c, en.val, en.born, fun W hb => ?_, fun W hb => ?_, _, _, rfl, ?_⟩
    · have h1 : (Instr.findKey K key es.toList).run P W = .ok (some (j, en.val)) W := by
        rcases hall W with ⟨_, _, g3⟩ | ⟨j', en', g1, g2, g3, g4⟩
        · exact absurd h3 (g3 en (List.mem_of_getElem? h2))
        · have : j' = j := Ents.unique h.apart g2 h2 (g3.trans h3.symm)
          subst this
          rw [h2] at g2; cases g2
          exact g1
      have hst := L.stays W hk
      simp [Instr.mapEntry, run_underlying ht, MapKept.run_getObj_map hb, L.check W false hk, h1, hes, h3, hst, hsame, MapKept.run_setObj_map _ hb, Result.andThen, setBlk, goInt]
    · have hf : es.findIdx? (fun e => (e.born : Int) == (en.born : Int)) = some j := find_stamp_arr h.stamps hes
      simp [Instr.entryStore, MapKept.run_getObj_map hb, hf, asInt, asIntOf, MapKept.run_setObj_map _ hb, Result.andThen, setBlk]
    · have : (es.modify j fun e => { e with val := v }).toList = es.toList.set j { en with key := key, val := v } := by
        apply List.ext_getElem?
        intro i
        simp only [Array.getElem?_toList, Array.getElem?_modify, List.getElem?_set]
        by_cases hij : j = i
        · subst hij; simp [hj, hj2, ← h3]
        · simp [hij]
      rw [this]
      exact h.set h2 h3
end maps
/-! ### maps with a bound on their entries; delete; ranges -/
section maps2
open Classical
variable {P : Program} {K : TypeId}
/-- Block b is a map of at most n entries that reads as m. -/
def MapN (P : Program) (K : TypeId) (w : World) (b n : Nat) (m : Value → Option Value) : Prop :=
  ∃ es clock, w.heap[b]? = some (.map es clock) ∧ Ents P K es.toList clock m ∧ es.size ≤ n
theorem MapN.at {w : World} {b n : Nat} {m} (h : MapN P K w b n m) : MapAt P K w b m := by
  obtain ⟨es, c, hb, r, _⟩ := h; exact ⟨es, c, hb, r⟩
theorem MapN.lt {w : World} {b n : Nat} {m} (h : MapN P K w b n m) : b < w.heap.size := h.at.lt
theorem MapN.of_blk {w w' : World} {b n : Nat} {m} (h : MapN P K w b n m) (e : w'.heap[b]? = w.heap[b]?) : MapN P K w' b n m := by
  obtain ⟨es, c, hb, r⟩ := h; exact ⟨es, c, e.trans hb, r⟩
theorem MapN.fr {F : Nat → Prop} {w w' : World} {b n : Nat} {m} (h : MapN P K w b n m) (hf : Fr F w w') (hn : ¬ F b) : MapN P K w' b n m := h.of_blk (hf.blk b h.lt hn)
theorem MapN.mono {w : World} {b n n' : Nat} {m} (h : MapN P K w b n m) (hn : n ≤ n') : MapN P K w b n' m := by
  obtain ⟨es, c, hb, r, hs⟩ := h; exact ⟨es, c, hb, r, Nat.le_trans hs hn⟩
theorem MapN.made (w : World) : MapN P K (w.alloc (.map #[] 0)) w.heap.size 0 (fun _ => none) :=
  ⟨#[], 0, heap_alloc_new w _, ⟨by simp, by simp, by simp, by simp, by simp⟩, by simp⟩
theorem MapN.congr {w : World} {b n : Nat} {m m' : Value → Option Value} (h : MapN P K w b n m) (e : ∀ k, m k = m' k) : MapN P K w b n m' := by
  rw [show m' = m from funext fun k => (e k).symm]; exact h
/-- 'm[k] = v': one object, in whatever world in which the block is as it is. -/
theorem MapN.store (L : Maps.Keyed P K) {t e : TypeId} (ht : P.underlying t = some (.map K e)) {w : World} {b n : Nat} {m} (h : MapN P K w b n m) {key : Value} {l : Lit} (hk : keyOf P K key = some l) (v : Value) :
    ∃ o, ∀ W : World, W.heap[b]? = w.heap[b]? → (Instr.mapUpdate t (.map (some b)) key v).run P W = .ok () (setBlk W b o) ∧ MapN P K (setBlk W b o) b (if (m key).isSome then n else n + 1) (upd m key v) := by
  obtain ⟨es, c, hb0, h, hsz⟩ := h
  rcases h.find L (w := w) hk with ⟨h1, h2, h3⟩ | ⟨j, en, h1, h2, h3, h4⟩
  · refine ⟨.map (es.push ⟨key, v, c⟩) (c + 1), fun W hW => ?_⟩
    have hb := hW.trans hb0
    have hlt : b < W.heap.size := (Array.getElem?_eq_some_iff.1 hb).1
    have h1 : (Instr.findKey K key es.toList).run P W = .ok none W := by
      rcases h.find L (w := W) hk with ⟨h1, _⟩ | ⟨j, en, _, g2, g3, _⟩
      · exact h1
      · exact absurd g3 (h3 en (List.mem_of_getElem? g2))
    refine ⟨?_, _, _, setBlk_same hlt _, by simpa using h.push hk h3, by rw [h2]; simp; exact hsz⟩
    simp [Instr.mapUpdate, run_underlying ht, MapKept.run_getObj_map hb, L.check W false hk, h1, MapKept.run_setObj_map _ hb, Result.andThen, setBlk]
  · have hj : j < es.size := by simpa using (List.getElem?_eq_some_iff.1 h2).1
    have hj2 : es[j] = en := by simpa using (List.getElem?_eq_some_iff.1 h2).2
    refine ⟨.map (es.modify j fun e => { e with key := key, val := v }) c, fun W hW => ?_⟩
    have hb := hW.trans hb0
    have hlt : b < W.heap.size := (Array.getElem?_eq_some_iff.1 hb).1
    have h1 : (Instr.findKey K key es.toList).run P W = .ok (some (j, en.val)) W := by
      rcases h.find L (w := W) hk with ⟨_, _, g3⟩ | ⟨j', en', g1, g2, g3, g4⟩
      · exact absurd h3 (g3 en (List.mem_of_getElem? h2))
      · have : j' = j := Ents.unique h.apart g2 h2 (g3.trans h3.symm)
        subst this
        rw [h2] at g2; cases g2
        exact g1
    refine ⟨?_, _, _, setBlk_same hlt _, ?_, by rw [h4]; simp; exact hsz⟩
    · have hes : es[j]? = some en := by simpa using h2
      have hst := L.stays W hk
      simp [Instr.mapUpdate, run_underlying ht, MapKept.run_getObj_map hb, L.check W false hk, h1, hes, h3, hst, MapKept.run_setObj_map _ hb, Result.andThen, setBlk]
    · have : (es.modify j fun e => { e with key := key, val := v }).toList = es.toList.set j { en with key := key, val := v } := by
        apply List.ext_getElem?
        intro i
        simp only [Array.getElem?_toList, Array.getElem?_modify, List.getElem?_set]
        by_cases hij : j = i
        · subst hij; simp [hj, hj2]
        · simp [hij]
      rw [this]
      exact h.set h2 h3
theorem Ents.erase {es : List MapEntry} {c : Nat} {m} (h : Ents P K es c m) {key : Value} {j : Nat} {e0 : MapEntry} (hj : es[j]? = some e0) (hk : e0.key = key) : Ents P K (es.eraseIdx j) c (del m key) := by
  have hsub := List.eraseIdx_sublist es j
  refine ⟨fun e he => h.keys e (hsub.subset he), h.apart.sublist hsub, fun e he => h.born e (hsub.subset he), h.stamps.sublist hsub, fun k u => ?_⟩
  unfold del
  by_cases hkk : k = key
  · subst hkk
    simp only [if_true]
    constructor
    · intro h; cases h
    · rintro ⟨e, he, h1, h2⟩
      obtain ⟨i, hne, hi⟩ := List.mem_eraseIdx_iff_getElem?.1 he
      exact absurd (Ents.unique h.apart hi hj (h1.trans hk.symm)) hne
  · simp only [if_neg hkk]
    rw [h.at_]
    constructor
    · rintro ⟨e, he, h1, h2⟩
      obtain ⟨i, hi⟩ := List.getElem?_of_mem he
      refine ⟨e, List.mem_eraseIdx_iff_getElem?.2 ⟨i, ?_, hi⟩, h1, h2⟩
      rintro rfl
      rw [hj] at hi; cases hi
      exact hkk (h1.symm.trans hk)
    · rintro ⟨e, he, h1, h2⟩
      exact ⟨e, hsub.subset he, h1, h2⟩
theorem Ents.same {es : List MapEntry} {c : Nat} {m} (h : Ents P K es c m) {key : Value} (hn : m key = none) : Ents P K es c (del m key) := by
  have : del m key = m := by
    funext k
    unfold del
    by_cases hk : k = key
    · subst hk; rw [if_pos rfl, hn]
    · rw [if_neg hk]
  rw [this]; exact h
/-- 'delete(m, k)': one object, in whatever world in which the block is as it is. -/
theorem MapN.drop (L : Maps.Keyed P K) {t e : TypeId} (ht : P.underlying t = some (.map K e)) {w : World} {b n : Nat} {m} (h : MapN P K w b n m) {key : Value} {l : Lit} (hk : keyOf P K key = some l) :
    ∃ o, ∀ W : World, W.heap[b]? = w.heap[b]? → (∀ ty, (Builtin.delete_ #[t, K] ty #[.map (some b), key]).run P W = .ok (.tuple #[]) (setBlk W b o)) ∧ MapN P K (setBlk W b o) b n (del m key) := by
  obtain ⟨es, c, hb0, h, hsz⟩ := h
  rcases h.find L (w := w) hk with ⟨h1, h2, h3⟩ | ⟨j, en, h1, h2, h3, h4⟩
  · refine ⟨.map es c, fun W hW => ?_⟩
    have hb := hW.trans hb0
    have hlt : b < W.heap.size := (Array.getElem?_eq_some_iff.1 hb).1
    have h1 : (Instr.findKey K key es.toList).run P W = .ok none W := by
      rcases h.find L (w := W) hk with ⟨h1, _⟩ | ⟨j, en, _, g2, g3, _⟩
      · exact h1
      · exact absurd g3 (h3 en (List.mem_of_getElem? g2))
    refine ⟨fun ty => ?_, _, _, setBlk_same hlt _, h.same h2, hsz⟩
    simp [Builtin.delete_, run_underlying ht, MapKept.run_getObj_map hb, L.check W _ hk, h1, MapKept.run_setObj_map _ hb, Result.andThen, setBlk]
  · have hj : j < es.size := by simpa using (List.getElem?_eq_some_iff.1 h2).1
    refine ⟨.map (es.eraseIdxIfInBounds j) c, fun W hW => ?_⟩
    have hb := hW.trans hb0
    have hlt : b < W.heap.size := (Array.getElem?_eq_some_iff.1 hb).1
    have h1 : (Instr.findKey K key es.toList).run P W = .ok (some (j, en.val)) W := by
      rcases h.find L (w := W) hk with ⟨_, _, g3⟩ | ⟨j', en', g1, g2, g3, g4⟩
      · exact absurd h3 (g3 en (List.mem_of_getElem? h2))
      · have : j' = j := Ents.unique h.apart g2 h2 (g3.trans h3.symm)
        subst this
        rw [h2] at g2; cases g2
        exact g1
    refine ⟨fun ty => ?_, _, _, setBlk_same hlt _, ?_, Nat.le_trans (MapFrom.size_erase es j) hsz⟩
    · simp [Builtin.delete_, run_underlying ht, MapKept.run_getObj_map hb, L.check W _ hk, h1, MapKept.run_setObj_map _ hb, Result.andThen, setBlk]
    · have : (es.eraseIdxIfInBounds j).toList = es.toList.eraseIdx j := by
        unfold Array.eraseIdxIfInBounds
        rw [dif_pos hj]
        simp
      rw [this]
      exact h.erase h2 h3
/-- How many entries a map has. -/
theorem MapN.len {t e : TypeId} (ht : P.underlying t = some (.map K e)) {w : World} {b n : Nat} {m} (h : MapN P K w b n m) :
    ∃ c : Nat, c ≤ n ∧ (c = 0 ↔ ∀ k, m k = none) ∧ ∀ (W : World) ty, W.heap[b]? = w.heap[b]? → (Builtin.len_ #[t] ty #[.map (some b)]).run P W = .ok (.int .i64 c) W := by
  obtain ⟨es, c, hb0, h, hsz⟩ := h
  refine ⟨es.size, hsz, ⟨fun h0 k => ?_, fun h0 => ?_⟩, fun W ty hW => ?_⟩
  · cases hm : m k with
    | none => rfl
    | some v =>
      obtain ⟨e, he, _⟩ := (h.at_ k v).1 hm
      have : 0 < es.toList.length := List.length_pos_of_mem he
      simp at this; omega
  · rcases Nat.eq_zero_or_pos es.size with hz | hz
    · exact hz
    · have := (h.at_ es[0].key es[0].val).2 ⟨es[0], by simp, rfl, rfl⟩
      rw [h0] at this; cases this
  · have hb := hW.trans hb0
    simp [Builtin.len_, run_underlying ht, MapKept.run_getObj_map hb, goInt, Result.andThen]
/-! ### range -/
/-- A range over the map of block b under way, its iterator in block r; left: the keys still to come. -/
def Rng (P : Program) (K : TypeId) (w : World) (b r : Nat) (m : Value → Option Value) (left : Value → Prop) (cnt : Nat) : Prop :=
  ∃ es clock since seen c0, w.heap[b]? = some (.map es clock) ∧ Ents P K es.toList clock m ∧ w.heap[r]? = some (.mapIter (some b) since seen c0) ∧ (∀ x ∈ es.toList, x.born < since) ∧ (leftOf es seen).size = cnt ∧
    (∀ x ∈ es.toList, left x.key ↔ seen.contains x.born = false) ∧ (∀ k, left k → ∃ x ∈ es.toList, x.key = k) ∧ since ≤ c0 ∧ since ≤ clock
theorem Rng.at {w : World} {b r : Nat} {m left cnt} (h : Rng P K w b r m left cnt) : MapAt P K w b m := by
  obtain ⟨es, c, _, _, _, hb, h, _⟩ := h; exact ⟨es, c, hb, h⟩
theorem Rng.ne {w : World} {b r : Nat} {m left cnt} (h : Rng P K w b r m left cnt) : r ≠ b := by
  obtain ⟨es, clock, since, seen, c0, hb, _, hr, _⟩ := h
  intro e
  rw [e, hb] at hr
  cases hr
theorem Rng.lt {w : World} {b r : Nat} {m left cnt} (h : Rng P K w b r m left cnt) : r < w.heap.size := by
  obtain ⟨es, clock, since, seen, c0, _, _, hr, _⟩ := h
  exact lt_of_blk hr
theorem Rng.fr {F : Nat → Prop} {w w' : World} {b r : Nat} {m left cnt} (h : Rng P K w b r m left cnt) (hf : Fr F w w') (hb' : ¬ F b) (hr' : ¬ F r) : Rng P K w' b r m left cnt := by
  obtain ⟨es, clock, since, seen, c0, hb, h2, hr, rest⟩ := h
  exact ⟨es, clock, since, seen, c0, hf.obj hb hb', h2, hf.obj hr hr', rest⟩
theorem MapAt.range {t e : TypeId} (ht : P.underlying t = some (.map K e)) {w : World} {b : Nat} {m} (h : MapAt P K w b m) :
    ∃ o cnt, (Instr.range t (.map (some b))).run P w = .ok (.pointer (some ⟨w.heap.size, 0, none⟩)) (w.alloc o) ∧ Rng P K (w.alloc o) b w.heap.size m (fun k => (m k).isSome = true) cnt := by
  have hlt := h.lt
  obtain ⟨es, clock, hb, h⟩ := h
  refine ⟨_, _, run_range_map w t K e b es clock ht hb, es, clock, clock, #[], clock, (blk_alloc hlt _).trans hb, h, blk_alloc_new _ _, h.born, rfl, fun x hx => ?_, fun k hk => ?_, Nat.le_refl _, Nat.le_refl _⟩
  · show (m x.key).isSome = true ↔ _
    rw [(h.at_ x.key x.val).2 ⟨x, hx, rfl, rfl⟩]; simp
  · obtain ⟨v, hv⟩ := Option.isSome_iff_exists.1 hk
    obtain ⟨x, hx, h1, _⟩ := (h.at_ k v).1 hv
    exact ⟨x, hx, h1⟩
theorem Rng.next {w : World} {b r : Nat} {m left cnt} (h : Rng P K w b r m left cnt) (ty : TypeId) :
    ((∀ k, ¬ left k) ∧ (Instr.next (.pointer (some ⟨r, 0, none⟩)) false ty).run P w = .ok (.tuple #[.bool false]) w) ∨
    ∃ key v w' cnt', left key ∧ m key = some v ∧ (∃ l, keyOf P K key = some l) ∧ (Instr.next (.pointer (some ⟨r, 0, none⟩)) false ty).run P w = .ok (.tuple #[.bool true, key, v]) w' ∧
      Rng P K w' b r m (fun x => left x ∧ x ≠ key) cnt' ∧ cnt' < cnt ∧ Fr (fun x => x = r) w w' ∧ (Instr.entry (.pointer (some ⟨r, 0, none⟩))).run P w' = .ok (.tuple #[key, v]) w' := by
  have hne := h.ne
  obtain ⟨es, clock, since, seen, c0, hb, F, hr, hold, rfl, hl1, hl2, hsc, hsk⟩ := h
  rcases run_next_at (P := P) w ty r b since c0 seen es clock hr hb hold hsc with ⟨h0, hrun⟩ | ⟨e, he, w1, hal, hrun⟩
  · refine Or.inl ⟨fun k hk => ?_, hrun⟩
    obtain ⟨x, hx, rfl⟩ := hl2 k hk
    have h1 := (hl1 x hx).1 hk
    rw [all_seen es seen h0 x hx] at h1
    cases h1
  · obtain ⟨hem, hes⟩ := mem_left he
    have hr1 : w1.heap[r]? = some (.mapIter (some b) since seen c0) := by rcases hal with rfl | rfl <;> exact hr
    have hb1 : w1.heap[b]? = some (.map es clock) := by rcases hal with rfl | rfl <;> exact hb
    have hset := MapKept.heap_set (o' := .mapIter (some b) since (seen.push e.born) clock) hr1
    have hb' : (ChangeMaps.setBlock w1 r (.mapIter (some b) since (seen.push e.born) clock)).heap[b]? = some (.map es clock) := (hset.2 b (fun e1 => hne e1.symm)).trans hb1
    refine Or.inr ⟨e.key, e.val, _, _, (hl1 e hem).2 hes, (F.at_ _ _).2 ⟨e, hem, rfl, rfl⟩, F.keys e hem, hrun,
      ⟨es, clock, since, seen.push e.born, clock, hb', F, hset.1, hold, rfl, fun x hx => ?_, fun k hk => hl2 k hk.1, hsk, hsk⟩, left_shrinks es seen e he, ?_,
      run_entry_at _ r b since seen es clock e hset.1 hb' hem ?_⟩
    · show (left x.key ∧ x.key ≠ e.key) ↔ _
      rw [hl1 x hx, contains_push]
      obtain ⟨i, hi⟩ := List.getElem?_of_mem hx
      obtain ⟨j, hj⟩ := List.getElem?_of_mem hem
      have hiff : x.key = e.key ↔ x.born = e.born := by
        constructor
        · intro hk
          have := Ents.unique F.apart hi hj hk
          subst this
          rw [hi] at hj; cases hj; rfl
        · intro hbn
          have := find_stamp F.stamps hi
          have h2 := find_stamp F.stamps hj
          rw [hbn] at this
          rw [this] at h2
          cases h2
          rw [hi] at hj; cases hj; rfl
      rw [ne_eq, hiff]
      by_cases hb2 : x.born = e.born <;> simp [hb2]
    · rcases hal with rfl | rfl <;> exact ⟨rfl, rfl, rfl, by simp [ChangeMaps.setBlock], fun i _ hi => hset.2 i hi⟩
    · rw [List.Nodup, List.pairwise_map]; exact F.stamps
end maps2
end Go.Pl
/- Steps of a plain region by hand, over whatever program: the frame is known at listed slots. -/
set_option linter.unusedVariables false
set_option linter.unusedSimpArgs false
namespace Go.Pl
open Go.RowKit
variable {P : Program} {O : Array Oper} {Q : Exit → Act → World → Prop} {rest : List Oper} {o : Oper} {a : Act} {w : World} {ρ : Operand → Value}
theorem st_runw {v : Value} {w' : World} (hw : Region.wanted o (yielded O a.tmps) = true) (hr : (execOp a.eval o).run P w = .ok (.value v) w') (h : wpList P O Q rest (a.put o.dst v) w') : wpList P O Q (o :: rest) a w := by
 simp only [wpList, hw, if_true]
 left
 unfold Oper.wp
 rw [hr]
 exact h
theorem st_runs {w' : World} (hw : Region.wanted o (yielded O a.tmps) = true) (hr : (execOp a.eval o).run P w = .ok .skip w') (hd : o.dst = none) (h : wpList P O Q rest a w') : wpList P O Q (o :: rest) a w := by
 simp only [wpList, hw, if_true]
 left
 unfold Oper.wp
 rw [hr, Oper.upon_skip, hd]
 exact h
theorem st_call {f : FuncId} {args : Array Value} {R : Value → World → Prop} (hw : Region.wanted o (yielded O a.tmps) = true) (hr : (execOp a.eval o).run P w = .ok (.enter f args) w) (hc : Calls P f args w fun e w' => ∃ v, e = .returned v ∧ R v w') (h : ∀ v w', R v w' → wpList P O Q rest (a.put o.dst v) w') : wpList P O Q (o :: rest) a w := by
 simp only [wpList, hw, if_true]
 left
 unfold Oper.wp
 rw [hr, Oper.upon_enter]
 refine hc.mono ?_
 rintro e w' ⟨v, rfl, hR⟩
 exact h v w' hR
theorem eval_put {d i : Nat} {v : Value} (h : d < a.tmps.size) : (a.put (some d) v).eval (.tmp i) = if i = d then v else a.eval (.tmp i) := by
 unfold Act.put Act.eval
 simp only [Array.getD_eq_getD_getElem?, Array.getElem?_setIfInBounds]
 by_cases e : i = d
 ·subst e; simp [h]
 ·simp [e, Ne.symm e]
theorem size_put {d : Option Tmp} {v : Value} : (a.put d v).tmps.size = a.tmps.size := by
 cases d <;> simp [Act.put]
theorem yield_eq {g s : Nat} (hg : (O[g]?).bind (·.dst) = some s) (hs : s < a.tmps.size) : yielded O a.tmps g = match a.eval (.tmp s) with | .bool b => some b | _ => none := by
 unfold yielded Act.eval
 rw [hg]
 simp [hs]
 cases a.tmps[s] <;> rfl
theorem wanted_none (h : o.guard = none) (f) : Region.wanted o f = true := by unfold Region.wanted; rw [h]
theorem wanted_some {j : Nat} {b : Bool} (h : o.guard = some (j, b)) (f) : Region.wanted o f = (f j == some b) := by unfold Region.wanted; rw [h]
/-- What is known of a frame: n slots, the listed ones by value, nothing deferred. -/
structure EnvD (ds : List Deferred) (n : Nat) (L : List (Nat × Value)) (a : Act) : Prop where
 size : a.tmps.size = n
 at_ : ∀ x ∈ L, a.eval (.tmp x.1) = x.2
 df : a.defers = ds
abbrev Env := EnvD []
variable {ds : List Deferred}
def AllAt (a : Act) : List (Nat × Value) → Prop
 | [] => True
 | x :: l => a.eval (.tmp x.1) = x.2 ∧ AllAt a l
theorem AllAt.mem {a : Act} : ∀ {L : List (Nat × Value)}, AllAt a L → ∀ x ∈ L, a.eval (.tmp x.1) = x.2
 | _ :: _, h, x, hx => by
  rcases List.mem_cons.1 hx with rfl | hx
  ·exact h.1
  ·exact AllAt.mem h.2 x hx
theorem EnvD.of {n : Nat} {L L' : List (Nat × Value)} (E : EnvD ds n L a) (h : AllAt a L') : EnvD ds n L' a := ⟨E.size, h.mem, E.df⟩
theorem EnvD.get {n : Nat} {L : List (Nat × Value)} (E : EnvD ds n L a) (k : Nat) {s : Nat} {v : Value} (h : L[k]? = some (s, v)) : a.eval (.tmp s) = v := E.at_ (s, v) (List.mem_of_getElem? h)
theorem EnvD.put {n d : Nat} {L : List (Nat × Value)} {v : Value} (E : EnvD ds n L a) (hn : d < n) (hf : (L.map (·.1)).contains d = false) : EnvD ds n ((d, v) :: L) (a.put (some d) v) := by
 refine ⟨size_put.trans E.size, fun x hx => ?_, E.df⟩
 rw [eval_put (by rw [E.size]; exact hn)]
 rcases List.mem_cons.1 hx with h1 | h2
 ·subst h1; rw [if_pos rfl]
 ·rw [if_neg]
  ·exact E.at_ x h2
  ·intro e
   have : (L.map (·.1)).contains d = true := by simp only [List.contains_eq_mem, decide_eq_true_eq]; rw [← e]; exact List.mem_map_of_mem h2
   rw [hf] at this; cases this
def drop1 (d : Nat) : List (Nat × Value) → List (Nat × Value)
 | [] => []
 | x :: l => bif x.1 == d then drop1 d l else x :: drop1 d l
theorem drop1_mem {d : Nat} : ∀ {L : List (Nat × Value)} {x}, x ∈ drop1 d L → x ∈ L ∧ x.1 ≠ d
 | y :: l, x, h => by
  unfold drop1 at h
  cases hy : y.1 == d with
  | true => rw [hy] at h; have := drop1_mem (L := l) h; exact ⟨List.mem_cons_of_mem _ this.1, this.2⟩
  | false =>
   rw [hy] at h
   rcases List.mem_cons.1 h with rfl | h
   ·exact ⟨by simp, by simpa using hy⟩
   ·have := drop1_mem (L := l) h; exact ⟨List.mem_cons_of_mem _ this.1, this.2⟩
theorem EnvD.set {n d : Nat} {L : List (Nat × Value)} {v : Value} (E : EnvD ds n L a) (hn : d < n) : EnvD ds n ((d, v) :: drop1 d L) (a.put (some d) v) := by
 refine ⟨size_put.trans E.size, fun x hx => ?_, E.df⟩
 rw [eval_put (by rw [E.size]; exact hn)]
 rcases List.mem_cons.1 hx with rfl | hx
 ·rw [if_pos rfl]
 ·have := drop1_mem hx
  rw [if_neg this.2]; exact E.at_ x this.1
section
variable {n d : Nat} {L : List (Nat × Value)} {v : Value} {w' : World}
theorem env_put (E : EnvD ds n L a) (hd : o.dst = some d) (hn : d < n) (hf : (L.map (·.1)).contains d = false) (hw : Region.wanted o (yielded O a.tmps) = true) (hr : (execOp a.eval o).run P w = .ok (.value v) w') (k : ∀ a', EnvD ds n ((d, v) :: L) a' → wpList P O Q rest a' w') : wpList P O Q (o :: rest) a w := by
 refine st_runw hw hr ?_
 rw [hd]
 exact k _ (E.put hn hf)
theorem env_set (E : EnvD ds n L a) (hd : o.dst = some d) (hn : d < n) (hw : Region.wanted o (yielded O a.tmps) = true) (hr : (execOp a.eval o).run P w = .ok (.value v) w') (k : ∀ a', EnvD ds n ((d, v) :: drop1 d L) a' → wpList P O Q rest a' w') : wpList P O Q (o :: rest) a w := by
 refine st_runw hw hr ?_
 rw [hd]
 exact k _ (E.set hn)
theorem env_store (E : EnvD ds n L a) (hd : o.dst = none) (hw : Region.wanted o (yielded O a.tmps) = true) (hr : (execOp a.eval o).run P w = .ok .skip w') (k : EnvD ds n L a → wpList P O Q rest a w') : wpList P O Q (o :: rest) a w := st_runs hw hr hd (k E)
theorem env_call {f : FuncId} {args : Array Value} {F : World → Prop} (E : EnvD ds n L a) (hd : o.dst = some d) (hn : d < n) (hf : (L.map (·.1)).contains d = false) (hw : Region.wanted o (yielded O a.tmps) = true) (hr : (execOp a.eval o).run P w = .ok (.enter f args) w)
  (hc : Calls P f args w fun e w' => e = .returned v ∧ F w') (k : ∀ a' w', F w' → EnvD ds n ((d, v) :: L) a' → wpList P O Q rest a' w') : wpList P O Q (o :: rest) a w := by
 refine st_call (R := fun u w' => u = v ∧ F w') hw hr (hc.mono fun e w' h => ⟨v, h.1, rfl, h.2⟩) ?_
 rintro u w' ⟨rfl, hF⟩
 rw [hd]
 exact k _ w' hF (E.put hn hf)
theorem env_skip {g s : Nat} {b : Bool} (E : EnvD ds n L a) (hd : o.dst = some d) (hn : d < n) (hf : (L.map (·.1)).contains d = false) (hgd : o.guard = some (g, b)) (hg : (O[g]?).bind (·.dst) = some s) (hs : s < n) (hv : a.eval (.tmp s) = .bool (!b)) (k : ∀ a', EnvD ds n ((d, undef) :: L) a' → wpList P O Q rest a' w) : wpList P O Q (o :: rest) a w := by
 refine wpList_skip ?_ ?_
 ·rw [wanted_some hgd, yield_eq hg (by rw [E.size]; exact hs), hv]; cases b <;> rfl
 ·rw [hd]; exact k _ (E.put hn hf)
theorem env_skipu {g s : Nat} {b : Bool} (E : EnvD ds n L a) (hd : o.dst = some d) (hn : d < n) (hf : (L.map (·.1)).contains d = false) (hgd : o.guard = some (g, b)) (hg : (O[g]?).bind (·.dst) = some s) (hs : s < n) (hv : a.eval (.tmp s) = undef) (k : ∀ a', EnvD ds n ((d, undef) :: L) a' → wpList P O Q rest a' w) : wpList P O Q (o :: rest) a w := by
 refine wpList_skip ?_ ?_
 ·rw [wanted_some hgd, yield_eq hg (by rw [E.size]; exact hs), hv]; rfl
 ·rw [hd]; exact k _ (E.put hn hf)
theorem w_yes {g s : Nat} {b : Bool} (E : EnvD ds n L a) (hgd : o.guard = some (g, b)) (hg : (O[g]?).bind (·.dst) = some s) (hs : s < n) (hv : a.eval (.tmp s) = .bool b) : Region.wanted o (yielded O a.tmps) = true := by
 rw [wanted_some hgd, yield_eq hg (by rw [E.size]; exact hs), hv]; simp
end
section
/-- env_put and env_call, with what is nearly always so by default. -/
theorem ep {v : Value} {w' : World} {n d : Nat} {L : List (Nat × Value)} (E : EnvD ds n L a) (hd : o.dst = some d) (hr : (execOp a.eval o).run P w = .ok (.value v) w') (k : ∀ a', EnvD ds n ((d, v) :: L) a' → wpList P O Q rest a' w') (hn : d < n := by decide) (hf : (L.map (·.1)).contains d = false := by rfl) (hw : Region.wanted o (yielded O a.tmps) = true := by exact wanted_none rfl _) : wpList P O Q (o :: rest) a w := env_put E hd hn hf hw hr k
theorem eg {v : Value} {w' : World} {n d : Nat} {L : List (Nat × Value)} (E : EnvD ds n L a) (hd : o.dst = some d) (hw : Region.wanted o (yielded O a.tmps) = true) (hr : (execOp a.eval o).run P w = .ok (.value v) w') (k : ∀ a', EnvD ds n ((d, v) :: L) a' → wpList P O Q rest a' w') (hn : d < n := by decide) (hf : (L.map (·.1)).contains d = false := by rfl) : wpList P O Q (o :: rest) a w := env_put E hd hn hf hw hr k
theorem ek {n d g s : Nat} {b : Bool} {L : List (Nat × Value)} (E : EnvD ds n L a) (hd : o.dst = some d) (hgd : o.guard = some (g, b)) (hv : a.eval (.tmp s) = .bool (!b)) (k : ∀ a', EnvD ds n ((d, undef) :: L) a' → wpList P O Q rest a' w) (hn : d < n := by decide) (hf : (L.map (·.1)).contains d = false := by rfl) (hg : (O[g]?).bind (·.dst) = some s := by rfl) (hs : s < n := by decide) : wpList P O Q (o :: rest) a w := env_skip E hd hn hf hgd hg hs hv k
theorem eu {n d g s : Nat} {b : Bool} {L : List (Nat × Value)} (E : EnvD ds n L a) (hd : o.dst = some d) (hgd : o.guard = some (g, b)) (hv : a.eval (.tmp s) = undef) (k : ∀ a', EnvD ds n ((d, undef) :: L) a' → wpList P O Q rest a' w) (hn : d < n := by decide) (hf : (L.map (·.1)).contains d = false := by rfl) (hg : (O[g]?).bind (·.dst) = some s := by rfl) (hs : s < n := by decide) : wpList P O Q (o :: rest) a w := env_skipu E hd hn hf hgd hg hs hv k
/-- Short names for what is said often. -/
theorem EnvD.g0 {n s : Nat} {v : Value} {L : List (Nat × Value)} (E : EnvD ds n ((s, v) :: L) a) : a.eval (.tmp s) = v := E.at_ (s, v) (.head _)
theorem EnvD.g1 {n s : Nat} {v : Value} {x0 : Nat × Value} {L : List (Nat × Value)} (E : EnvD ds n (x0 :: (s, v) :: L) a) : a.eval (.tmp s) = v := E.at_ (s, v) (.tail _ (.head _))
theorem EnvD.g2 {n s : Nat} {v : Value} {x0 x1 : Nat × Value} {L : List (Nat × Value)} (E : EnvD ds n (x0 :: x1 :: (s, v) :: L) a) : a.eval (.tmp s) = v := E.at_ (s, v) (.tail _ (.tail _ (.head _)))
theorem EnvD.g3 {n s : Nat} {v : Value} {x0 x1 x2 : Nat × Value} {L : List (Nat × Value)} (E : EnvD ds n (x0 :: x1 :: x2 :: (s, v) :: L) a) : a.eval (.tmp s) = v := E.at_ (s, v) (.tail _ (.tail _ (.tail _ (.head _))))
theorem EnvD.g4 {n s : Nat} {v : Value} {x0 x1 x2 x3 : Nat × Value} {L : List (Nat × Value)} (E : EnvD ds n (x0 :: x1 :: x2 :: x3 :: (s, v) :: L) a) : a.eval (.tmp s) = v := E.at_ (s, v) (.tail _ (.tail _ (.tail _ (.tail _ (.head _)))))
theorem EnvD.g5 {n s : Nat} {v : Value} {x0 x1 x2 x3 x4 : Nat × Value} {L : List (Nat × Value)} (E : EnvD ds n (x0 :: x1 :: x2 :: x3 :: x4 :: (s, v) :: L) a) : a.eval (.tmp s) = v := E.at_ (s, v) (.tail _ (.tail _ (.tail _ (.tail _ (.tail _ (.head _))))))
theorem EnvD.g6 {n s : Nat} {v : Value} {x0 x1 x2 x3 x4 x5 : Nat × Value} {L : List (Nat × Value)} (E : EnvD ds n (x0 :: x1 :: x2 :: x3 :: x4 :: x5 :: (s, v) :: L) a) : a.eval (.tmp s) = v := E.at_ (s, v) (.tail _ (.tail _ (.tail _ (.tail _ (.tail _ (.tail _ (.head _)))))))
theorem EnvD.g7 {n s : Nat} {v : Value} {x0 x1 x2 x3 x4 x5 x6 : Nat × Value} {L : List (Nat × Value)} (E : EnvD ds n (x0 :: x1 :: x2 :: x3 :: x4 :: x5 :: x6 :: (s, v) :: L) a) : a.eval (.tmp s) = v := E.at_ (s, v) (.tail _ (.tail _ (.tail _ (.tail _ (.tail _ (.tail _ (.tail _ (.head _))))))))
theorem EnvD.g8 {n s : Nat} {v : Value} {x0 x1 x2 x3 x4 x5 x6 x7 : Nat × Value} {L : List (Nat × Value)} (E : EnvD ds n (x0 :: x1 :: x2 :: x3 :: x4 :: x5 :: x6 :: x7 :: (s, v) :: L) a) : a.eval (.tmp s) = v := E.at_ (s, v) (.tail _ (.tail _ (.tail _ (.tail _ (.tail _ (.tail _ (.tail _ (.tail _ (.head _)))))))))
theorem EnvD.g9 {n s : Nat} {v : Value} {x0 x1 x2 x3 x4 x5 x6 x7 x8 : Nat × Value} {L : List (Nat × Value)} (E : EnvD ds n (x0 :: x1 :: x2 :: x3 :: x4 :: x5 :: x6 :: x7 :: x8 :: (s, v) :: L) a) : a.eval (.tmp s) = v := E.at_ (s, v) (.tail _ (.tail _ (.tail _ (.tail _ (.tail _ (.tail _ (.tail _ (.tail _ (.tail _ (.head _))))))))))
theorem EnvD.g10 {n s : Nat} {v : Value} {x0 x1 x2 x3 x4 x5 x6 x7 x8 x9 : Nat × Value} {L : List (Nat × Value)} (E : EnvD ds n (x0 :: x1 :: x2 :: x3 :: x4 :: x5 :: x6 :: x7 :: x8 :: x9 :: (s, v) :: L) a) : a.eval (.tmp s) = v := E.at_ (s, v) (.tail _ (.tail _ (.tail _ (.tail _ (.tail _ (.tail _ (.tail _ (.tail _ (.tail _ (.tail _ (.head _)))))))))))
theorem EnvD.g11 {n s : Nat} {v : Value} {x0 x1 x2 x3 x4 x5 x6 x7 x8 x9 x10 : Nat × Value} {L : List (Nat × Value)} (E : EnvD ds n (x0 :: x1 :: x2 :: x3 :: x4 :: x5 :: x6 :: x7 :: x8 :: x9 :: x10 :: (s, v) :: L) a) : a.eval (.tmp s) = v := E.at_ (s, v) (.tail _ (.tail _ (.tail _ (.tail _ (.tail _ (.tail _ (.tail _ (.tail _ (.tail _ (.tail _ (.tail _ (.head _))))))))))))
theorem EnvD.g12 {n s : Nat} {v : Value} {x0 x1 x2 x3 x4 x5 x6 x7 x8 x9 x10 x11 : Nat × Value} {L : List (Nat × Value)} (E : EnvD ds n (x0 :: x1 :: x2 :: x3 :: x4 :: x5 :: x6 :: x7 :: x8 :: x9 :: x10 :: x11 :: (s, v) :: L) a) : a.eval (.tmp s) = v := E.at_ (s, v) (.tail _ (.tail _ (.tail _ (.tail _ (.tail _ (.tail _ (.tail _ (.tail _ (.tail _ (.tail _ (.tail _ (.tail _ (.head _)))))))))))))
theorem EnvD.g13 {n s : Nat} {v : Value} {x0 x1 x2 x3 x4 x5 x6 x7 x8 x9 x10 x11 x12 : Nat × Value} {L : List (Nat × Value)} (E : EnvD ds n (x0 :: x1 :: x2 :: x3 :: x4 :: x5 :: x6 :: x7 :: x8 :: x9 :: x10 :: x11 :: x12 :: (s, v) :: L) a) : a.eval (.tmp s) = v := E.at_ (s, v) (.tail _ (.tail _ (.tail _ (.tail _ (.tail _ (.tail _ (.tail _ (.tail _ (.tail _ (.tail _ (.tail _ (.tail _ (.tail _ (.head _))))))))))))))
theorem EnvD.g14 {n s : Nat} {v : Value} {x0 x1 x2 x3 x4 x5 x6 x7 x8 x9 x10 x11 x12 x13 : Nat × Value} {L : List (Nat × Value)} (E : EnvD ds n (x0 :: x1 :: x2 :: x3 :: x4 :: x5 :: x6 :: x7 :: x8 :: x9 :: x10 :: x11 :: x12 :: x13 :: (s, v) :: L) a) : a.eval (.tmp s) = v := E.at_ (s, v) (.tail _ (.tail _ (.tail _ (.tail _ (.tail _ (.tail _ (.tail _ (.tail _ (.tail _ (.tail _ (.tail _ (.tail _ (.tail _ (.tail _ (.head _)))))))))))))))
theorem EnvD.g15 {n s : Nat} {v : Value} {x0 x1 x2 x3 x4 x5 x6 x7 x8 x9 x10 x11 x12 x13 x14 : Nat × Value} {L : List (Nat × Value)} (E : EnvD ds n (x0 :: x1 :: x2 :: x3 :: x4 :: x5 :: x6 :: x7 :: x8 :: x9 :: x10 :: x11 :: x12 :: x13 :: x14 :: (s, v) :: L) a) : a.eval (.tmp s) = v := E.at_ (s, v) (.tail _ (.tail _ (.tail _ (.tail _ (.tail _ (.tail _ (.tail _ (.tail _ (.tail _ (.tail _ (.tail _ (.tail _ (.tail _ (.tail _ (.tail _ (.head _))))))))))))))))
theorem EnvD.g16 {n s : Nat} {v : Value} {x0 x1 x2 x3 x4 x5 x6 x7 x8 x9 x10 x11 x12 x13 x14 x15 : Nat × Value} {L : List (Nat × Value)} (E : EnvD ds n (x0 :: x1 :: x2 :: x3 :: x4 :: x5 :: x6 :: x7 :: x8 :: x9 :: x10 :: x11 :: x12 :: x13 :: x14 :: x15 :: (s, v) :: L) a) : a.eval (.tmp s) = v := E.at_ (s, v) (.tail _ (.tail _ (.tail _ (.tail _ (.tail _ (.tail _ (.tail _ (.tail _ (.tail _ (.tail _ (.tail _ (.tail _ (.tail _ (.tail _ (.tail _ (.tail _ (.head _)))))))))))))))))
theorem EnvD.g17 {n s : Nat} {v : Value} {x0 x1 x2 x3 x4 x5 x6 x7 x8 x9 x10 x11 x12 x13 x14 x15 x16 : Nat × Value} {L : List (Nat × Value)} (E : EnvD ds n (x0 :: x1 :: x2 :: x3 :: x4 :: x5 :: x6 :: x7 :: x8 :: x9 :: x10 :: x11 :: x12 :: x13 :: x14 :: x15 :: x16 :: (s, v) :: L) a) : a.eval (.tmp s) = v := E.at_ (s, v) (.tail _ (.tail _ (.tail _ (.tail _ (.tail _ (.tail _ (.tail _ (.tail _ (.tail _ (.tail _ (.tail _ (.tail _ (.tail _ (.tail _ (.tail _ (.tail _ (.tail _ (.head _))))))))))))))))))
theorem EnvD.g18 {n s : Nat} {v : Value} {x0 x1 x2 x3 x4 x5 x6 x7 x8 x9 x10 x11 x12 x13 x14 x15 x16 x17 : Nat × Value} {L : List (Nat × Value)} (E : EnvD ds n (x0 :: x1 :: x2 :: x3 :: x4 :: x5 :: x6 :: x7 :: x8 :: x9 :: x10 :: x11 :: x12 :: x13 :: x14 :: x15 :: x16 :: x17 :: (s, v) :: L) a) : a.eval (.tmp s) = v := E.at_ (s, v) (.tail _ (.tail _ (.tail _ (.tail _ (.tail _ (.tail _ (.tail _ (.tail _ (.tail _ (.tail _ (.tail _ (.tail _ (.tail _ (.tail _ (.tail _ (.tail _ (.tail _ (.tail _ (.head _)))))))))))))))))))
theorem EnvD.g19 {n s : Nat} {v : Value} {x0 x1 x2 x3 x4 x5 x6 x7 x8 x9 x10 x11 x12 x13 x14 x15 x16 x17 x18 : Nat × Value} {L : List (Nat × Value)} (E : EnvD ds n (x0 :: x1 :: x2 :: x3 :: x4 :: x5 :: x6 :: x7 :: x8 :: x9 :: x10 :: x11 :: x12 :: x13 :: x14 :: x15 :: x16 :: x17 :: x18 :: (s, v) :: L) a) : a.eval (.tmp s) = v := E.at_ (s, v) (.tail _ (.tail _ (.tail _ (.tail _ (.tail _ (.tail _ (.tail _ (.tail _ (.tail _ (.tail _ (.tail _ (.tail _ (.tail _ (.tail _ (.tail _ (.tail _ (.tail _ (.tail _ (.tail _ (.head _))))))))))))))))))))
theorem EnvD.g20 {n s : Nat} {v : Value} {x0 x1 x2 x3 x4 x5 x6 x7 x8 x9 x10 x11 x12 x13 x14 x15 x16 x17 x18 x19 : Nat × Value} {L : List (Nat × Value)} (E : EnvD ds n (x0 :: x1 :: x2 :: x3 :: x4 :: x5 :: x6 :: x7 :: x8 :: x9 :: x10 :: x11 :: x12 :: x13 :: x14 :: x15 :: x16 :: x17 :: x18 :: x19 :: (s, v) :: L) a) : a.eval (.tmp s) = v := E.at_ (s, v) (.tail _ (.tail _ (.tail _ (.tail _ (.tail _ (.tail _ (.tail _ (.tail _ (.tail _ (.tail _ (.tail _ (.tail _ (.tail _ (.tail _ (.tail _ (.tail _ (.tail _ (.tail _ (.tail _ (.tail _ (.head _)))))))))))))))))))))
theorem EnvD.g21 {n s : Nat} {v : Value} {x0 x1 x2 x3 x4 x5 x6 x7 x8 x9 x10 x11 x12 x13 x14 x15 x16 x17 x18 x19 x20 : Nat × Value} {L : List (Nat × Value)} (E : EnvD ds n (x0 :: x1 :: x2 :: x3 :: x4 :: x5 :: x6 :: x7 :: x8 :: x9 :: x10 :: x11 :: x12 :: x13 :: x14 :: x15 :: x16 :: x17 :: x18 :: x19 :: x20 :: (s, v) :: L) a) : a.eval (.tmp s) = v := E.at_ (s, v) (.tail _ (.tail _ (.tail _ (.tail _ (.tail _ (.tail _ (.tail _ (.tail _ (.tail _ (.tail _ (.tail _ (.tail _ (.tail _ (.tail _ (.tail _ (.tail _ (.tail _ (.tail _ (.tail _ (.tail _ (.tail _ (.head _))))))))))))))))))))))
theorem EnvD.g22 {n s : Nat} {v : Value} {x0 x1 x2 x3 x4 x5 x6 x7 x8 x9 x10 x11 x12 x13 x14 x15 x16 x17 x18 x19 x20 x21 : Nat × Value} {L : List (Nat × Value)} (E : EnvD ds n (x0 :: x1 :: x2 :: x3 :: x4 :: x5 :: x6 :: x7 :: x8 :: x9 :: x10 :: x11 :: x12 :: x13 :: x14 :: x15 :: x16 :: x17 :: x18 :: x19 :: x20 :: x21 :: (s, v) :: L) a) : a.eval (.tmp s) = v := E.at_ (s, v) (.tail _ (.tail _ (.tail _ (.tail _ (.tail _ (.tail _ (.tail _ (.tail _ (.tail _ (.tail _ (.tail _ (.tail _ (.tail _ (.tail _ (.tail _ (.tail _ (.tail _ (.tail _ (.tail _ (.tail _ (.tail _ (.tail _ (.head _)))))))))))))))))))))))
theorem EnvD.g23 {n s : Nat} {v : Value} {x0 x1 x2 x3 x4 x5 x6 x7 x8 x9 x10 x11 x12 x13 x14 x15 x16 x17 x18 x19 x20 x21 x22 : Nat × Value} {L : List (Nat × Value)} (E : EnvD ds n (x0 :: x1 :: x2 :: x3 :: x4 :: x5 :: x6 :: x7 :: x8 :: x9 :: x10 :: x11 :: x12 :: x13 :: x14 :: x15 :: x16 :: x17 :: x18 :: x19 :: x20 :: x21 :: x22 :: (s, v) :: L) a) : a.eval (.tmp s) = v := E.at_ (s, v) (.tail _ (.tail _ (.tail _ (.tail _ (.tail _ (.tail _ (.tail _ (.tail _ (.tail _ (.tail _ (.tail _ (.tail _ (.tail _ (.tail _ (.tail _ (.tail _ (.tail _ (.tail _ (.tail _ (.tail _ (.tail _ (.tail _ (.tail _ (.head _))))))))))))))))))))))))
theorem EnvD.g24 {n s : Nat} {v : Value} {x0 x1 x2 x3 x4 x5 x6 x7 x8 x9 x10 x11 x12 x13 x14 x15 x16 x17 x18 x19 x20 x21 x22 x23 : Nat × Value} {L : List (Nat × Value)} (E : EnvD ds n (x0 :: x1 :: x2 :: x3 :: x4 :: x5 :: x6 :: x7 :: x8 :: x9 :: x10 :: x11 :: x12 :: x13 :: x14 :: x15 :: x16 :: x17 :: x18 :: x19 :: x20 :: x21 :: x22 :: x23 :: (s, v) :: L) a) : a.eval (.tmp s) = v := E.at_ (s, v) (.tail _ (.tail _ (.tail _ (.tail _ (.tail _ (.tail _ (.tail _ (.tail _ (.tail _ (.tail _ (.tail _ (.tail _ (.tail _ (.tail _ (.tail _ (.tail _ (.tail _ (.tail _ (.tail _ (.tail _ (.tail _ (.tail _ (.tail _ (.tail _ (.head _)))))))))))))))))))))))))
theorem EnvD.g25 {n s : Nat} {v : Value} {x0 x1 x2 x3 x4 x5 x6 x7 x8 x9 x10 x11 x12 x13 x14 x15 x16 x17 x18 x19 x20 x21 x22 x23 x24 : Nat × Value} {L : List (Nat × Value)} (E : EnvD ds n (x0 :: x1 :: x2 :: x3 :: x4 :: x5 :: x6 :: x7 :: x8 :: x9 :: x10 :: x11 :: x12 :: x13 :: x14 :: x15 :: x16 :: x17 :: x18 :: x19 :: x20 :: x21 :: x22 :: x23 :: x24 :: (s, v) :: L) a) : a.eval (.tmp s) = v := E.at_ (s, v) (.tail _ (.tail _ (.tail _ (.tail _ (.tail _ (.tail _ (.tail _ (.tail _ (.tail _ (.tail _ (.tail _ (.tail _ (.tail _ (.tail _ (.tail _ (.tail _ (.tail _ (.tail _ (.tail _ (.tail _ (.tail _ (.tail _ (.tail _ (.tail _ (.tail _ (.head _))))))))))))))))))))))))))
theorem EnvD.g26 {n s : Nat} {v : Value} {x0 x1 x2 x3 x4 x5 x6 x7 x8 x9 x10 x11 x12 x13 x14 x15 x16 x17 x18 x19 x20 x21 x22 x23 x24 x25 : Nat × Value} {L : List (Nat × Value)} (E : EnvD ds n (x0 :: x1 :: x2 :: x3 :: x4 :: x5 :: x6 :: x7 :: x8 :: x9 :: x10 :: x11 :: x12 :: x13 :: x14 :: x15 :: x16 :: x17 :: x18 :: x19 :: x20 :: x21 :: x22 :: x23 :: x24 :: x25 :: (s, v) :: L) a) : a.eval (.tmp s) = v := E.at_ (s, v) (.tail _ (.tail _ (.tail _ (.tail _ (.tail _ (.tail _ (.tail _ (.tail _ (.tail _ (.tail _ (.tail _ (.tail _ (.tail _ (.tail _ (.tail _ (.tail _ (.tail _ (.tail _ (.tail _ (.tail _ (.tail _ (.tail _ (.tail _ (.tail _ (.tail _ (.tail _ (.head _)))))))))))))))))))))))))))
theorem EnvD.g27 {n s : Nat} {v : Value} {x0 x1 x2 x3 x4 x5 x6 x7 x8 x9 x10 x11 x12 x13 x14 x15 x16 x17 x18 x19 x20 x21 x22 x23 x24 x25 x26 : Nat × Value} {L : List (Nat × Value)} (E : EnvD ds n (x0 :: x1 :: x2 :: x3 :: x4 :: x5 :: x6 :: x7 :: x8 :: x9 :: x10 :: x11 :: x12 :: x13 :: x14 :: x15 :: x16 :: x17 :: x18 :: x19 :: x20 :: x21 :: x22 :: x23 :: x24 :: x25 :: x26 :: (s, v) :: L) a) : a.eval (.tmp s) = v := E.at_ (s, v) (.tail _ (.tail _ (.tail _ (.tail _ (.tail _ (.tail _ (.tail _ (.tail _ (.tail _ (.tail _ (.tail _ (.tail _ (.tail _ (.tail _ (.tail _ (.tail _ (.tail _ (.tail _ (.tail _ (.tail _ (.tail _ (.tail _ (.tail _ (.tail _ (.tail _ (.tail _ (.tail _ (.head _))))))))))))))))))))))))))))
theorem EnvD.g28 {n s : Nat} {v : Value} {x0 x1 x2 x3 x4 x5 x6 x7 x8 x9 x10 x11 x12 x13 x14 x15 x16 x17 x18 x19 x20 x21 x22 x23 x24 x25 x26 x27 : Nat × Value} {L : List (Nat × Value)} (E : EnvD ds n (x0 :: x1 :: x2 :: x3 :: x4 :: x5 :: x6 :: x7 :: x8 :: x9 :: x10 :: x11 :: x12 :: x13 :: x14 :: x15 :: x16 :: x17 :: x18 :: x19 :: x20 :: x21 :: x22 :: x23 :: x24 :: x25 :: x26 :: x27 :: (s, v) :: L) a) : a.eval (.tmp s) = v := E.at_ (s, v) (.tail _ (.tail _ (.tail _ (.tail _ (.tail _ (.tail _ (.tail _ (.tail _ (.tail _ (.tail _ (.tail _ (.tail _ (.tail _ (.tail _ (.tail _ (.tail _ (.tail _ (.tail _ (.tail _ (.tail _ (.tail _ (.tail _ (.tail _ (.tail _ (.tail _ (.tail _ (.tail _ (.tail _ (.head _)))))))))))))))))))))))))))))
theorem EnvD.g29 {n s : Nat} {v : Value} {x0 x1 x2 x3 x4 x5 x6 x7 x8 x9 x10 x11 x12 x13 x14 x15 x16 x17 x18 x19 x20 x21 x22 x23 x24 x25 x26 x27 x28 : Nat × Value} {L : List (Nat × Value)} (E : EnvD ds n (x0 :: x1 :: x2 :: x3 :: x4 :: x5 :: x6 :: x7 :: x8 :: x9 :: x10 :: x11 :: x12 :: x13 :: x14 :: x15 :: x16 :: x17 :: x18 :: x19 :: x20 :: x21 :: x22 :: x23 :: x24 :: x25 :: x26 :: x27 :: x28 :: (s, v) :: L) a) : a.eval (.tmp s) = v := E.at_ (s, v) (.tail _ (.tail _ (.tail _ (.tail _ (.tail _ (.tail _ (.tail _ (.tail _ (.tail _ (.tail _ (.tail _ (.tail _ (.tail _ (.tail _ (.tail _ (.tail _ (.tail _ (.tail _ (.tail _ (.tail _ (.tail _ (.tail _ (.tail _ (.tail _ (.tail _ (.tail _ (.tail _ (.tail _ (.tail _ (.head _))))))))))))))))))))))))))))))
theorem EnvD.g30 {n s : Nat} {v : Value} {x0 x1 x2 x3 x4 x5 x6 x7 x8 x9 x10 x11 x12 x13 x14 x15 x16 x17 x18 x19 x20 x21 x22 x23 x24 x25 x26 x27 x28 x29 : Nat × Value} {L : List (Nat × Value)} (E : EnvD ds n (x0 :: x1 :: x2 :: x3 :: x4 :: x5 :: x6 :: x7 :: x8 :: x9 :: x10 :: x11 :: x12 :: x13 :: x14 :: x15 :: x16 :: x17 :: x18 :: x19 :: x20 :: x21 :: x22 :: x23 :: x24 :: x25 :: x26 :: x27 :: x28 :: x29 :: (s, v) :: L) a) : a.eval (.tmp s) = v := E.at_ (s, v) (.tail _ (.tail _ (.tail _ (.tail _ (.tail _ (.tail _ (.tail _ (.tail _ (.tail _ (.tail _ (.tail _ (.tail _ (.tail _ (.tail _ (.tail _ (.tail _ (.tail _ (.tail _ (.tail _ (.tail _ (.tail _ (.tail _ (.tail _ (.tail _ (.tail _ (.tail _ (.tail _ (.tail _ (.tail _ (.tail _ (.head _)))))))))))))))))))))))))))))))
theorem EnvD.g31 {n s : Nat} {v : Value} {x0 x1 x2 x3 x4 x5 x6 x7 x8 x9 x10 x11 x12 x13 x14 x15 x16 x17 x18 x19 x20 x21 x22 x23 x24 x25 x26 x27 x28 x29 x30 : Nat × Value} {L : List (Nat × Value)} (E : EnvD ds n (x0 :: x1 :: x2 :: x3 :: x4 :: x5 :: x6 :: x7 :: x8 :: x9 :: x10 :: x11 :: x12 :: x13 :: x14 :: x15 :: x16 :: x17 :: x18 :: x19 :: x20 :: x21 :: x22 :: x23 :: x24 :: x25 :: x26 :: x27 :: x28 :: x29 :: x30 :: (s, v) :: L) a) : a.eval (.tmp s) = v := E.at_ (s, v) (.tail _ (.tail _ (.tail _ (.tail _ (.tail _ (.tail _ (.tail _ (.tail _ (.tail _ (.tail _ (.tail _ (.tail _ (.tail _ (.tail _ (.tail _ (.tail _ (.tail _ (.tail _ (.tail _ (.tail _ (.tail _ (.tail _ (.tail _ (.tail _ (.tail _ (.tail _ (.tail _ (.tail _ (.tail _ (.tail _ (.tail _ (.head _))))))))))))))))))))))))))))))))
theorem EnvD.g32 {n s : Nat} {v : Value} {x0 x1 x2 x3 x4 x5 x6 x7 x8 x9 x10 x11 x12 x13 x14 x15 x16 x17 x18 x19 x20 x21 x22 x23 x24 x25 x26 x27 x28 x29 x30 x31 : Nat × Value} {L : List (Nat × Value)} (E : EnvD ds n (x0 :: x1 :: x2 :: x3 :: x4 :: x5 :: x6 :: x7 :: x8 :: x9 :: x10 :: x11 :: x12 :: x13 :: x14 :: x15 :: x16 :: x17 :: x18 :: x19 :: x20 :: x21 :: x22 :: x23 :: x24 :: x25 :: x26 :: x27 :: x28 :: x29 :: x30 :: x31 :: (s, v) :: L) a) : a.eval (.tmp s) = v := E.at_ (s, v) (.tail _ (.tail _ (.tail _ (.tail _ (.tail _ (.tail _ (.tail _ (.tail _ (.tail _ (.tail _ (.tail _ (.tail _ (.tail _ (.tail _ (.tail _ (.tail _ (.tail _ (.tail _ (.tail _ (.tail _ (.tail _ (.tail _ (.tail _ (.tail _ (.tail _ (.tail _ (.tail _ (.tail _ (.tail _ (.tail _ (.tail _ (.tail _ (.head _)))))))))))))))))))))))))))))))))
theorem EnvD.g33 {n s : Nat} {v : Value} {x0 x1 x2 x3 x4 x5 x6 x7 x8 x9 x10 x11 x12 x13 x14 x15 x16 x17 x18 x19 x20 x21 x22 x23 x24 x25 x26 x27 x28 x29 x30 x31 x32 : Nat × Value} {L : List (Nat × Value)} (E : EnvD ds n (x0 :: x1 :: x2 :: x3 :: x4 :: x5 :: x6 :: x7 :: x8 :: x9 :: x10 :: x11 :: x12 :: x13 :: x14 :: x15 :: x16 :: x17 :: x18 :: x19 :: x20 :: x21 :: x22 :: x23 :: x24 :: x25 :: x26 :: x27 :: x28 :: x29 :: x30 :: x31 :: x32 :: (s, v) :: L) a) : a.eval (.tmp s) = v := E.at_ (s, v) (.tail _ (.tail _ (.tail _ (.tail _ (.tail _ (.tail _ (.tail _ (.tail _ (.tail _ (.tail _ (.tail _ (.tail _ (.tail _ (.tail _ (.tail _ (.tail _ (.tail _ (.tail _ (.tail _ (.tail _ (.tail _ (.tail _ (.tail _ (.tail _ (.tail _ (.tail _ (.tail _ (.tail _ (.tail _ (.tail _ (.tail _ (.tail _ (.tail _ (.head _))))))))))))))))))))))))))))))))))
theorem EnvD.g34 {n s : Nat} {v : Value} {x0 x1 x2 x3 x4 x5 x6 x7 x8 x9 x10 x11 x12 x13 x14 x15 x16 x17 x18 x19 x20 x21 x22 x23 x24 x25 x26 x27 x28 x29 x30 x31 x32 x33 : Nat × Value} {L : List (Nat × Value)} (E : EnvD ds n (x0 :: x1 :: x2 :: x3 :: x4 :: x5 :: x6 :: x7 :: x8 :: x9 :: x10 :: x11 :: x12 :: x13 :: x14 :: x15 :: x16 :: x17 :: x18 :: x19 :: x20 :: x21 :: x22 :: x23 :: x24 :: x25 :: x26 :: x27 :: x28 :: x29 :: x30 :: x31 :: x32 :: x33 :: (s, v) :: L) a) : a.eval (.tmp s) = v := E.at_ (s, v) (.tail _ (.tail _ (.tail _ (.tail _ (.tail _ (.tail _ (.tail _ (.tail _ (.tail _ (.tail _ (.tail _ (.tail _ (.tail _ (.tail _ (.tail _ (.tail _ (.tail _ (.tail _ (.tail _ (.tail _ (.tail _ (.tail _ (.tail _ (.tail _ (.tail _ (.tail _ (.tail _ (.tail _ (.tail _ (.tail _ (.tail _ (.tail _ (.tail _ (.tail _ (.head _)))))))))))))))))))))))))))))))))))
theorem EnvD.g35 {n s : Nat} {v : Value} {x0 x1 x2 x3 x4 x5 x6 x7 x8 x9 x10 x11 x12 x13 x14 x15 x16 x17 x18 x19 x20 x21 x22 x23 x24 x25 x26 x27 x28 x29 x30 x31 x32 x33 x34 : Nat × Value} {L : List (Nat × Value)} (E : EnvD ds n (x0 :: x1 :: x2 :: x3 :: x4 :: x5 :: x6 :: x7 :: x8 :: x9 :: x10 :: x11 :: x12 :: x13 :: x14 :: x15 :: x16 :: x17 :: x18 :: x19 :: x20 :: x21 :: x22 :: x23 :: x24 :: x25 :: x26 :: x27 :: x28 :: x29 :: x30 :: x31 :: x32 :: x33 :: x34 :: (s, v) :: L) a) : a.eval (.tmp s) = v := E.at_ (s, v) (.tail _ (.tail _ (.tail _ (.tail _ (.tail _ (.tail _ (.tail _ (.tail _ (.tail _ (.tail _ (.tail _ (.tail _ (.tail _ (.tail _ (.tail _ (.tail _ (.tail _ (.tail _ (.tail _ (.tail _ (.tail _ (.tail _ (.tail _ (.tail _ (.tail _ (.tail _ (.tail _ (.tail _ (.tail _ (.tail _ (.tail _ (.tail _ (.tail _ (.tail _ (.tail _ (.head _))))))))))))))))))))))))))))))))))))
theorem EnvD.g36 {n s : Nat} {v : Value} {x0 x1 x2 x3 x4 x5 x6 x7 x8 x9 x10 x11 x12 x13 x14 x15 x16 x17 x18 x19 x20 x21 x22 x23 x24 x25 x26 x27 x28 x29 x30 x31 x32 x33 x34 x35 : Nat × Value} {L : List (Nat × Value)} (E : EnvD ds n (x0 :: x1 :: x2 :: x3 :: x4 :: x5 :: x6 :: x7 :: x8 :: x9 :: x10 :: x11 :: x12 :: x13 :: x14 :: x15 :: x16 :: x17 :: x18 :: x19 :: x20 :: x21 :: x22 :: x23 :: x24 :: x25 :: x26 :: x27 :: x28 :: x29 :: x30 :: x31 :: x32 :: x33 :: x34 :: x35 :: (s, v) :: L) a) : a.eval (.tmp s) = v := E.at_ (s, v) (.tail _ (.tail _ (.tail _ (.tail _ (.tail _ (.tail _ (.tail _ (.tail _ (.tail _ (.tail _ (.tail _ (.tail _ (.tail _ (.tail _ (.tail _ (.tail _ (.tail _ (.tail _ (.tail _ (.tail _ (.tail _ (.tail _ (.tail _ (.tail _ (.tail _ (.tail _ (.tail _ (.tail _ (.tail _ (.tail _ (.tail _ (.tail _ (.tail _ (.tail _ (.tail _ (.tail _ (.head _)))))))))))))))))))))))))))))))))))))
theorem EnvD.g37 {n s : Nat} {v : Value} {x0 x1 x2 x3 x4 x5 x6 x7 x8 x9 x10 x11 x12 x13 x14 x15 x16 x17 x18 x19 x20 x21 x22 x23 x24 x25 x26 x27 x28 x29 x30 x31 x32 x33 x34 x35 x36 : Nat × Value} {L : List (Nat × Value)} (E : EnvD ds n (x0 :: x1 :: x2 :: x3 :: x4 :: x5 :: x6 :: x7 :: x8 :: x9 :: x10 :: x11 :: x12 :: x13 :: x14 :: x15 :: x16 :: x17 :: x18 :: x19 :: x20 :: x21 :: x22 :: x23 :: x24 :: x25 :: x26 :: x27 :: x28 :: x29 :: x30 :: x31 :: x32 :: x33 :: x34 :: x35 :: x36 :: (s, v) :: L) a) : a.eval (.tmp s) = v := E.at_ (s, v) (.tail _ (.tail _ (.tail _ (.tail _ (.tail _ (.tail _ (.tail _ (.tail _ (.tail _ (.tail _ (.tail _ (.tail _ (.tail _ (.tail _ (.tail _ (.tail _ (.tail _ (.tail _ (.tail _ (.tail _ (.tail _ (.tail _ (.tail _ (.tail _ (.tail _ (.tail _ (.tail _ (.tail _ (.tail _ (.tail _ (.tail _ (.tail _ (.tail _ (.tail _ (.tail _ (.tail _ (.tail _ (.head _))))))))))))))))))))))))))))))))))))))
theorem EnvD.g38 {n s : Nat} {v : Value} {x0 x1 x2 x3 x4 x5 x6 x7 x8 x9 x10 x11 x12 x13 x14 x15 x16 x17 x18 x19 x20 x21 x22 x23 x24 x25 x26 x27 x28 x29 x30 x31 x32 x33 x34 x35 x36 x37 : Nat × Value} {L : List (Nat × Value)} (E : EnvD ds n (x0 :: x1 :: x2 :: x3 :: x4 :: x5 :: x6 :: x7 :: x8 :: x9 :: x10 :: x11 :: x12 :: x13 :: x14 :: x15 :: x16 :: x17 :: x18 :: x19 :: x20 :: x21 :: x22 :: x23 :: x24 :: x25 :: x26 :: x27 :: x28 :: x29 :: x30 :: x31 :: x32 :: x33 :: x34 :: x35 :: x36 :: x37 :: (s, v) :: L) a) : a.eval (.tmp s) = v := E.at_ (s, v) (.tail _ (.tail _ (.tail _ (.tail _ (.tail _ (.tail _ (.tail _ (.tail _ (.tail _ (.tail _ (.tail _ (.tail _ (.tail _ (.tail _ (.tail _ (.tail _ (.tail _ (.tail _ (.tail _ (.tail _ (.tail _ (.tail _ (.tail _ (.tail _ (.tail _ (.tail _ (.tail _ (.tail _ (.tail _ (.tail _ (.tail _ (.tail _ (.tail _ (.tail _ (.tail _ (.tail _ (.tail _ (.tail _ (.head _)))))))))))))))))))))))))))))))))))))))
theorem EnvD.g39 {n s : Nat} {v : Value} {x0 x1 x2 x3 x4 x5 x6 x7 x8 x9 x10 x11 x12 x13 x14 x15 x16 x17 x18 x19 x20 x21 x22 x23 x24 x25 x26 x27 x28 x29 x30 x31 x32 x33 x34 x35 x36 x37 x38 : Nat × Value} {L : List (Nat × Value)} (E : EnvD ds n (x0 :: x1 :: x2 :: x3 :: x4 :: x5 :: x6 :: x7 :: x8 :: x9 :: x10 :: x11 :: x12 :: x13 :: x14 :: x15 :: x16 :: x17 :: x18 :: x19 :: x20 :: x21 :: x22 :: x23 :: x24 :: x25 :: x26 :: x27 :: x28 :: x29 :: x30 :: x31 :: x32 :: x33 :: x34 :: x35 :: x36 :: x37 :: x38 :: (s, v) :: L) a) : a.eval (.tmp s) = v := E.at_ (s, v) (.tail _ (.tail _ (.tail _ (.tail _ (.tail _ (.tail _ (.tail _ (.tail _ (.tail _ (.tail _ (.tail _ (.tail _ (.tail _ (.tail _ (.tail _ (.tail _ (.tail _ (.tail _ (.tail _ (.tail _ (.tail _ (.tail _ (.tail _ (.tail _ (.tail _ (.tail _ (.tail _ (.tail _ (.tail _ (.tail _ (.tail _ (.tail _ (.tail _ (.tail _ (.tail _ (.tail _ (.tail _ (.tail _ (.tail _ (.head _))))))))))))))))))))))))))))))))))))))))
theorem EnvD.g40 {n s : Nat} {v : Value} {x0 x1 x2 x3 x4 x5 x6 x7 x8 x9 x10 x11 x12 x13 x14 x15 x16 x17 x18 x19 x20 x21 x22 x23 x24 x25 x26 x27 x28 x29 x30 x31 x32 x33 x34 x35 x36 x37 x38 x39 : Nat × Value} {L : List (Nat × Value)} (E : EnvD ds n (x0 :: x1 :: x2 :: x3 :: x4 :: x5 :: x6 :: x7 :: x8 :: x9 :: x10 :: x11 :: x12 :: x13 :: x14 :: x15 :: x16 :: x17 :: x18 :: x19 :: x20 :: x21 :: x22 :: x23 :: x24 :: x25 :: x26 :: x27 :: x28 :: x29 :: x30 :: x31 :: x32 :: x33 :: x34 :: x35 :: x36 :: x37 :: x38 :: x39 :: (s, v) :: L) a) : a.eval (.tmp s) = v := E.at_ (s, v) (.tail _ (.tail _ (.tail _ (.tail _ (.tail _ (.tail _ (.tail _ (.tail _ (.tail _ (.tail _ (.tail _ (.tail _ (.tail _ (.tail _ (.tail _ (.tail _ (.tail _ (.tail _ (.tail _ (.tail _ (.tail _ (.tail _ (.tail _ (.tail _ (.tail _ (.tail _ (.tail _ (.tail _ (.tail _ (.tail _ (.tail _ (.tail _ (.tail _ (.tail _ (.tail _ (.tail _ (.tail _ (.tail _ (.tail _ (.tail _ (.head _)))))))))))))))))))))))))))))))))))))))))
theorem EnvD.g41 {n s : Nat} {v : Value} {x0 x1 x2 x3 x4 x5 x6 x7 x8 x9 x10 x11 x12 x13 x14 x15 x16 x17 x18 x19 x20 x21 x22 x23 x24 x25 x26 x27 x28 x29 x30 x31 x32 x33 x34 x35 x36 x37 x38 x39 x40 : Nat × Value} {L : List (Nat × Value)} (E : EnvD ds n (x0 :: x1 :: x2 :: x3 :: x4 :: x5 :: x6 :: x7 :: x8 :: x9 :: x10 :: x11 :: x12 :: x13 :: x14 :: x15 :: x16 :: x17 :: x18 :: x19 :: x20 :: x21 :: x22 :: x23 :: x24 :: x25 :: x26 :: x27 :: x28 :: x29 :: x30 :: x31 :: x32 :: x33 :: x34 :: x35 :: x36 :: x37 :: x38 :: x39 :: x40 :: (s, v) :: L) a) : a.eval (.tmp s) = v := E.at_ (s, v) (.tail _ (.tail _ (.tail _ (.tail _ (.tail _ (.tail _ (.tail _ (.tail _ (.tail _ (.tail _ (.tail _ (.tail _ (.tail _ (.tail _ (.tail _ (.tail _ (.tail _ (.tail _ (.tail _ (.tail _ (.tail _ (.tail _ (.tail _ (.tail _ (.tail _ (.tail _ (.tail _ (.tail _ (.tail _ (.tail _ (.tail _ (.tail _ (.tail _ (.tail _ (.tail _ (.tail _ (.tail _ (.tail _ (.tail _ (.tail _ (.tail _ (.head _))))))))))))))))))))))))))))))))))))))))))
theorem EnvD.g42 {n s : Nat} {v : Value} {x0 x1 x2 x3 x4 x5 x6 x7 x8 x9 x10 x11 x12 x13 x14 x15 x16 x17 x18 x19 x20 x21 x22 x23 x24 x25 x26 x27 x28 x29 x30 x31 x32 x33 x34 x35 x36 x37 x38 x39 x40 x41 : Nat × Value} {L : List (Nat × Value)} (E : EnvD ds n (x0 :: x1 :: x2 :: x3 :: x4 :: x5 :: x6 :: x7 :: x8 :: x9 :: x10 :: x11 :: x12 :: x13 :: x14 :: x15 :: x16 :: x17 :: x18 :: x19 :: x20 :: x21 :: x22 :: x23 :: x24 :: x25 :: x26 :: x27 :: x28 :: x29 :: x30 :: x31 :: x32 :: x33 :: x34 :: x35 :: x36 :: x37 :: x38 :: x39 :: x40 :: x41 :: (s, v) :: L) a) : a.eval (.tmp s) = v := E.at_ (s, v) (.tail _ (.tail _ (.tail _ (.tail _ (.tail _ (.tail _ (.tail _ (.tail _ (.tail _ (.tail _ (.tail _ (.tail _ (.tail _ (.tail _ (.tail _ (.tail _ (.tail _ (.tail _ (.tail _ (.tail _ (.tail _ (.tail _ (.tail _ (.tail _ (.tail _ (.tail _ (.tail _ (.tail _ (.tail _ (.tail _ (.tail _ (.tail _ (.tail _ (.tail _ (.tail _ (.tail _ (.tail _ (.tail _ (.tail _ (.tail _ (.tail _ (.tail _ (.head _)))))))))))))))))))))))))))))))))))))))))))
theorem EnvD.g43 {n s : Nat} {v : Value} {x0 x1 x2 x3 x4 x5 x6 x7 x8 x9 x10 x11 x12 x13 x14 x15 x16 x17 x18 x19 x20 x21 x22 x23 x24 x25 x26 x27 x28 x29 x30 x31 x32 x33 x34 x35 x36 x37 x38 x39 x40 x41 x42 : Nat × Value} {L : List (Nat × Value)} (E : EnvD ds n (x0 :: x1 :: x2 :: x3 :: x4 :: x5 :: x6 :: x7 :: x8 :: x9 :: x10 :: x11 :: x12 :: x13 :: x14 :: x15 :: x16 :: x17 :: x18 :: x19 :: x20 :: x21 :: x22 :: x23 :: x24 :: x25 :: x26 :: x27 :: x28 :: x29 :: x30 :: x31 :: x32 :: x33 :: x34 :: x35 :: x36 :: x37 :: x38 :: x39 :: x40 :: x41 :: x42 :: (s, v) :: L) a) : a.eval (.tmp s) = v := E.at_ (s, v) (.tail _ (.tail _ (.tail _ (.tail _ (.tail _ (.tail _ (.tail _ (.tail _ (.tail _ (.tail _ (.tail _ (.tail _ (.tail _ (.tail _ (.tail _ (.tail _ (.tail _ (.tail _ (.tail _ (.tail _ (.tail _ (.tail _ (.tail _ (.tail _ (.tail _ (.tail _ (.tail _ (.tail _ (.tail _ (.tail _ (.tail _ (.tail _ (.tail _ (.tail _ (.tail _ (.tail _ (.tail _ (.tail _ (.tail _ (.tail _ (.tail _ (.tail _ (.tail _ (.head _))))))))))))))))))))))))))))))))))))))))))))
theorem EnvD.g44 {n s : Nat} {v : Value} {x0 x1 x2 x3 x4 x5 x6 x7 x8 x9 x10 x11 x12 x13 x14 x15 x16 x17 x18 x19 x20 x21 x22 x23 x24 x25 x26 x27 x28 x29 x30 x31 x32 x33 x34 x35 x36 x37 x38 x39 x40 x41 x42 x43 : Nat × Value} {L : List (Nat × Value)} (E : EnvD ds n (x0 :: x1 :: x2 :: x3 :: x4 :: x5 :: x6 :: x7 :: x8 :: x9 :: x10 :: x11 :: x12 :: x13 :: x14 :: x15 :: x16 :: x17 :: x18 :: x19 :: x20 :: x21 :: x22 :: x23 :: x24 :: x25 :: x26 :: x27 :: x28 :: x29 :: x30 :: x31 :: x32 :: x33 :: x34 :: x35 :: x36 :: x37 :: x38 :: x39 :: x40 :: x41 :: x42 :: x43 :: (s, v) :: L) a) : a.eval (.tmp s) = v := E.at_ (s, v) (.tail _ (.tail _ (.tail _ (.tail _ (.tail _ (.tail _ (.tail _ (.tail _ (.tail _ (.tail _ (.tail _ (.tail _ (.tail _ (.tail _ (.tail _ (.tail _ (.tail _ (.tail _ (.tail _ (.tail _ (.tail _ (.tail _ (.tail _ (.tail _ (.tail _ (.tail _ (.tail _ (.tail _ (.tail _ (.tail _ (.tail _ (.tail _ (.tail _ (.tail _ (.tail _ (.tail _ (.tail _ (.tail _ (.tail _ (.tail _ (.tail _ (.tail _ (.tail _ (.tail _ (.head _)))))))))))))))))))))))))))))))))))))))))))))
theorem EnvD.g45 {n s : Nat} {v : Value} {x0 x1 x2 x3 x4 x5 x6 x7 x8 x9 x10 x11 x12 x13 x14 x15 x16 x17 x18 x19 x20 x21 x22 x23 x24 x25 x26 x27 x28 x29 x30 x31 x32 x33 x34 x35 x36 x37 x38 x39 x40 x41 x42 x43 x44 : Nat × Value} {L : List (Nat × Value)} (E : EnvD ds n (x0 :: x1 :: x2 :: x3 :: x4 :: x5 :: x6 :: x7 :: x8 :: x9 :: x10 :: x11 :: x12 :: x13 :: x14 :: x15 :: x16 :: x17 :: x18 :: x19 :: x20 :: x21 :: x22 :: x23 :: x24 :: x25 :: x26 :: x27 :: x28 :: x29 :: x30 :: x31 :: x32 :: x33 :: x34 :: x35 :: x36 :: x37 :: x38 :: x39 :: x40 :: x41 :: x42 :: x43 :: x44 :: (s, v) :: L) a) : a.eval (.tmp s) = v := E.at_ (s, v) (.tail _ (.tail _ (.tail _ (.tail _ (.tail _ (.tail _ (.tail _ (.tail _ (.tail _ (.tail _ (.tail _ (.tail _ (.tail _ (.tail _ (.tail _ (.tail _ (.tail _ (.tail _ (.tail _ (.tail _ (.tail _ (.tail _ (.tail _ (.tail _ (.tail _ (.tail _ (.tail _ (.tail _ (.tail _ (.tail _ (.tail _ (.tail _ (.tail _ (.tail _ (.tail _ (.tail _ (.tail _ (.tail _ (.tail _ (.tail _ (.tail _ (.tail _ (.tail _ (.tail _ (.tail _ (.head _))))))))))))))))))))))))))))))))))))))))))))))
theorem EnvD.g46 {n s : Nat} {v : Value} {x0 x1 x2 x3 x4 x5 x6 x7 x8 x9 x10 x11 x12 x13 x14 x15 x16 x17 x18 x19 x20 x21 x22 x23 x24 x25 x26 x27 x28 x29 x30 x31 x32 x33 x34 x35 x36 x37 x38 x39 x40 x41 x42 x43 x44 x45 : Nat × Value} {L : List (Nat × Value)} (E : EnvD ds n (x0 :: x1 :: x2 :: x3 :: x4 :: x5 :: x6 :: x7 :: x8 :: x9 :: x10 :: x11 :: x12 :: x13 :: x14 :: x15 :: x16 :: x17 :: x18 :: x19 :: x20 :: x21 :: x22 :: x23 :: x24 :: x25 :: x26 :: x27 :: x28 :: x29 :: x30 :: x31 :: x32 :: x33 :: x34 :: x35 :: x36 :: x37 :: x38 :: x39 :: x40 :: x41 :: x42 :: x43 :: x44 :: x45 :: (s, v) :: L) a) : a.eval (.tmp s) = v := E.at_ (s, v) (.tail _ (.tail _ (.tail _ (.tail _ (.tail _ (.tail _ (.tail _ (.tail _ (.tail _ (.tail _ (.tail _ (.tail _ (.tail _ (.tail _ (.tail _ (.tail _ (.tail _ (.tail _ (.tail _ (.tail _ (.tail _ (.tail _ (.tail _ (.tail _ (.tail _ (.tail _ (.tail _ (.tail _ (.tail _ (.tail _ (.tail _ (.tail _ (.tail _ (.tail _ (.tail _ (.tail _ (.tail _ (.tail _ (.tail _ (.tail _ (.tail _ (.tail _ (.tail _ (.tail _ (.tail _ (.tail _ (.head _)))))))))))))))))))))))))))))))))))))))))))))))
theorem EnvD.g47 {n s : Nat} {v : Value} {x0 x1 x2 x3 x4 x5 x6 x7 x8 x9 x10 x11 x12 x13 x14 x15 x16 x17 x18 x19 x20 x21 x22 x23 x24 x25 x26 x27 x28 x29 x30 x31 x32 x33 x34 x35 x36 x37 x38 x39 x40 x41 x42 x43 x44 x45 x46 : Nat × Value} {L : List (Nat × Value)} (E : EnvD ds n (x0 :: x1 :: x2 :: x3 :: x4 :: x5 :: x6 :: x7 :: x8 :: x9 :: x10 :: x11 :: x12 :: x13 :: x14 :: x15 :: x16 :: x17 :: x18 :: x19 :: x20 :: x21 :: x22 :: x23 :: x24 :: x25 :: x26 :: x27 :: x28 :: x29 :: x30 :: x31 :: x32 :: x33 :: x34 :: x35 :: x36 :: x37 :: x38 :: x39 :: x40 :: x41 :: x42 :: x43 :: x44 :: x45 :: x46 :: (s, v) :: L) a) : a.eval (.tmp s) = v := E.at_ (s, v) (.tail _ (.tail _ (.tail _ (.tail _ (.tail _ (.tail _ (.tail _ (.tail _ (.tail _ (.tail _ (.tail _ (.tail _ (.tail _ (.tail _ (.tail _ (.tail _ (.tail _ (.tail _ (.tail _ (.tail _ (.tail _ (.tail _ (.tail _ (.tail _ (.tail _ (.tail _ (.tail _ (.tail _ (.tail _ (.tail _ (.tail _ (.tail _ (.tail _ (.tail _ (.tail _ (.tail _ (.tail _ (.tail _ (.tail _ (.tail _ (.tail _ (.tail _ (.tail _ (.tail _ (.tail _ (.tail _ (.tail _ (.head _))))))))))))))))))))))))))))))))))))))))))))))))
theorem EnvD.g48 {n s : Nat} {v : Value} {x0 x1 x2 x3 x4 x5 x6 x7 x8 x9 x10 x11 x12 x13 x14 x15 x16 x17 x18 x19 x20 x21 x22 x23 x24 x25 x26 x27 x28 x29 x30 x31 x32 x33 x34 x35 x36 x37 x38 x39 x40 x41 x42 x43 x44 x45 x46 x47 : Nat × Value} {L : List (Nat × Value)} (E : EnvD ds n (x0 :: x1 :: x2 :: x3 :: x4 :: x5 :: x6 :: x7 :: x8 :: x9 :: x10 :: x11 :: x12 :: x13 :: x14 :: x15 :: x16 :: x17 :: x18 :: x19 :: x20 :: x21 :: x22 :: x23 :: x24 :: x25 :: x26 :: x27 :: x28 :: x29 :: x30 :: x31 :: x32 :: x33 :: x34 :: x35 :: x36 :: x37 :: x38 :: x39 :: x40 :: x41 :: x42 :: x43 :: x44 :: x45 :: x46 :: x47 :: (s, v) :: L) a) : a.eval (.tmp s) = v := E.at_ (s, v) (.tail _ (.tail _ (.tail _ (.tail _ (.tail _ (.tail _ (.tail _ (.tail _ (.tail _ (.tail _ (.tail _ (.tail _ (.tail _ (.tail _ (.tail _ (.tail _ (.tail _ (.tail _ (.tail _ (.tail _ (.tail _ (.tail _ (.tail _ (.tail _ (.tail _ (.tail _ (.tail _ (.tail _ (.tail _ (.tail _ (.tail _ (.tail _ (.tail _ (.tail _ (.tail _ (.tail _ (.tail _ (.tail _ (.tail _ (.tail _ (.tail _ (.tail _ (.tail _ (.tail _ (.tail _ (.tail _ (.tail _ (.tail _ (.head _)))))))))))))))))))))))))))))))))))))))))))))))))
theorem EnvD.g49 {n s : Nat} {v : Value} {x0 x1 x2 x3 x4 x5 x6 x7 x8 x9 x10 x11 x12 x13 x14 x15 x16 x17 x18 x19 x20 x21 x22 x23 x24 x25 x26 x27 x28 x29 x30 x31 x32 x33 x34 x35 x36 x37 x38 x39 x40 x41 x42 x43 x44 x45 x46 x47 x48 : Nat × Value} {L : List (Nat × Value)} (E : EnvD ds n (x0 :: x1 :: x2 :: x3 :: x4 :: x5 :: x6 :: x7 :: x8 :: x9 :: x10 :: x11 :: x12 :: x13 :: x14 :: x15 :: x16 :: x17 :: x18 :: x19 :: x20 :: x21 :: x22 :: x23 :: x24 :: x25 :: x26 :: x27 :: x28 :: x29 :: x30 :: x31 :: x32 :: x33 :: x34 :: x35 :: x36 :: x37 :: x38 :: x39 :: x40 :: x41 :: x42 :: x43 :: x44 :: x45 :: x46 :: x47 :: x48 :: (s, v) :: L) a) : a.eval (.tmp s) = v := E.at_ (s, v) (.tail _ (.tail _ (.tail _ (.tail _ (.tail _ (.tail _ (.tail _ (.tail _ (.tail _ (.tail _ (.tail _ (.tail _ (.tail _ (.tail _ (.tail _ (.tail _ (.tail _ (.tail _ (.tail _ (.tail _ (.tail _ (.tail _ (.tail _ (.tail _ (.tail _ (.tail _ (.tail _ (.tail _ (.tail _ (.tail _ (.tail _ (.tail _ (.tail _ (.tail _ (.tail _ (.tail _ (.tail _ (.tail _ (.tail _ (.tail _ (.tail _ (.tail _ (.tail _ (.tail _ (.tail _ (.tail _ (.tail _ (.tail _ (.tail _ (.head _))))))))))))))))))))))))))))))))))))))))))))))))))
theorem EnvD.g50 {n s : Nat} {v : Value} {x0 x1 x2 x3 x4 x5 x6 x7 x8 x9 x10 x11 x12 x13 x14 x15 x16 x17 x18 x19 x20 x21 x22 x23 x24 x25 x26 x27 x28 x29 x30 x31 x32 x33 x34 x35 x36 x37 x38 x39 x40 x41 x42 x43 x44 x45 x46 x47 x48 x49 : Nat × Value} {L : List (Nat × Value)} (E : EnvD ds n (x0 :: x1 :: x2 :: x3 :: x4 :: x5 :: x6 :: x7 :: x8 :: x9 :: x10 :: x11 :: x12 :: x13 :: x14 :: x15 :: x16 :: x17 :: x18 :: x19 :: x20 :: x21 :: x22 :: x23 :: x24 :: x25 :: x26 :: x27 :: x28 :: x29 :: x30 :: x31 :: x32 :: x33 :: x34 :: x35 :: x36 :: x37 :: x38 :: x39 :: x40 :: x41 :: x42 :: x43 :: x44 :: x45 :: x46 :: x47 :: x48 :: x49 :: (s, v) :: L) a) : a.eval (.tmp s) = v := E.at_ (s, v) (.tail _ (.tail _ (.tail _ (.tail _ (.tail _ (.tail _ (.tail _ (.tail _ (.tail _ (.tail _ (.tail _ (.tail _ (.tail _ (.tail _ (.tail _ (.tail _ (.tail _ (.tail _ (.tail _ (.tail _ (.tail _ (.tail _ (.tail _ (.tail _ (.tail _ (.tail _ (.tail _ (.tail _ (.tail _ (.tail _ (.tail _ (.tail _ (.tail _ (.tail _ (.tail _ (.tail _ (.tail _ (.tail _ (.tail _ (.tail _ (.tail _ (.tail _ (.tail _ (.tail _ (.tail _ (.tail _ (.tail _ (.tail _ (.tail _ (.tail _ (.head _)))))))))))))))))))))))))))))))))))))))))))))))))))
theorem EnvD.g51 {n s : Nat} {v : Value} {x0 x1 x2 x3 x4 x5 x6 x7 x8 x9 x10 x11 x12 x13 x14 x15 x16 x17 x18 x19 x20 x21 x22 x23 x24 x25 x26 x27 x28 x29 x30 x31 x32 x33 x34 x35 x36 x37 x38 x39 x40 x41 x42 x43 x44 x45 x46 x47 x48 x49 x50 : Nat × Value} {L : List (Nat × Value)} (E : EnvD ds n (x0 :: x1 :: x2 :: x3 :: x4 :: x5 :: x6 :: x7 :: x8 :: x9 :: x10 :: x11 :: x12 :: x13 :: x14 :: x15 :: x16 :: x17 :: x18 :: x19 :: x20 :: x21 :: x22 :: x23 :: x24 :: x25 :: x26 :: x27 :: x28 :: x29 :: x30 :: x31 :: x32 :: x33 :: x34 :: x35 :: x36 :: x37 :: x38 :: x39 :: x40 :: x41 :: x42 :: x43 :: x44 :: x45 :: x46 :: x47 :: x48 :: x49 :: x50 :: (s, v) :: L) a) : a.eval (.tmp s) = v := E.at_ (s, v) (.tail _ (.tail _ (.tail _ (.tail _ (.tail _ (.tail _ (.tail _ (.tail _ (.tail _ (.tail _ (.tail _ (.tail _ (.tail _ (.tail _ (.tail _ (.tail _ (.tail _ (.tail _ (.tail _ (.tail _ (.tail _ (.tail _ (.tail _ (.tail _ (.tail _ (.tail _ (.tail _ (.tail _ (.tail _ (.tail _ (.tail _ (.tail _ (.tail _ (.tail _ (.tail _ (.tail _ (.tail _ (.tail _ (.tail _ (.tail _ (.tail _ (.tail _ (.tail _ (.tail _ (.tail _ (.tail _ (.tail _ (.tail _ (.tail _ (.tail _ (.tail _ (.head _))))))))))))))))))))))))))))))))))))))))))))))))))))
theorem EnvD.g52 {n s : Nat} {v : Value} {x0 x1 x2 x3 x4 x5 x6 x7 x8 x9 x10 x11 x12 x13 x14 x15 x16 x17 x18 x19 x20 x21 x22 x23 x24 x25 x26 x27 x28 x29 x30 x31 x32 x33 x34 x35 x36 x37 x38 x39 x40 x41 x42 x43 x44 x45 x46 x47 x48 x49 x50 x51 : Nat × Value} {L : List (Nat × Value)} (E : EnvD ds n (x0 :: x1 :: x2 :: x3 :: x4 :: x5 :: x6 :: x7 :: x8 :: x9 :: x10 :: x11 :: x12 :: x13 :: x14 :: x15 :: x16 :: x17 :: x18 :: x19 :: x20 :: x21 :: x22 :: x23 :: x24 :: x25 :: x26 :: x27 :: x28 :: x29 :: x30 :: x31 :: x32 :: x33 :: x34 :: x35 :: x36 :: x37 :: x38 :: x39 :: x40 :: x41 :: x42 :: x43 :: x44 :: x45 :: x46 :: x47 :: x48 :: x49 :: x50 :: x51 :: (s, v) :: L) a) : a.eval (.tmp s) = v := E.at_ (s, v) (.tail _ (.tail _ (.tail _ (.tail _ (.tail _ (.tail _ (.tail _ (.tail _ (.tail _ (.tail _ (.tail _ (.tail _ (.tail _ (.tail _ (.tail _ (.tail _ (.tail _ (.tail _ (.tail _ (.tail _ (.tail _ (.tail _ (.tail _ (.tail _ (.tail _ (.tail _ (.tail _ (.tail _ (.tail _ (.tail _ (.tail _ (.tail _ (.tail _ (.tail _ (.tail _ (.tail _ (.tail _ (.tail _ (.tail _ (.tail _ (.tail _ (.tail _ (.tail _ (.tail _ (.tail _ (.tail _ (.tail _ (.tail _ (.tail _ (.tail _ (.tail _ (.tail _ (.head _)))))))))))))))))))))))))))))))))))))))))))))))))))))
theorem EnvD.g53 {n s : Nat} {v : Value} {x0 x1 x2 x3 x4 x5 x6 x7 x8 x9 x10 x11 x12 x13 x14 x15 x16 x17 x18 x19 x20 x21 x22 x23 x24 x25 x26 x27 x28 x29 x30 x31 x32 x33 x34 x35 x36 x37 x38 x39 x40 x41 x42 x43 x44 x45 x46 x47 x48 x49 x50 x51 x52 : Nat × Value} {L : List (Nat × Value)} (E : EnvD ds n (x0 :: x1 :: x2 :: x3 :: x4 :: x5 :: x6 :: x7 :: x8 :: x9 :: x10 :: x11 :: x12 :: x13 :: x14 :: x15 :: x16 :: x17 :: x18 :: x19 :: x20 :: x21 :: x22 :: x23 :: x24 :: x25 :: x26 :: x27 :: x28 :: x29 :: x30 :: x31 :: x32 :: x33 :: x34 :: x35 :: x36 :: x37 :: x38 :: x39 :: x40 :: x41 :: x42 :: x43 :: x44 :: x45 :: x46 :: x47 :: x48 :: x49 :: x50 :: x51 :: x52 :: (s, v) :: L) a) : a.eval (.tmp s) = v := E.at_ (s, v) (.tail _ (.tail _ (.tail _ (.tail _ (.tail _ (.tail _ (.tail _ (.tail _ (.tail _ (.tail _ (.tail _ (.tail _ (.tail _ (.tail _ (.tail _ (.tail _ (.tail _ (.tail _ (.tail _ (.tail _ (.tail _ (.tail _ (.tail _ (.tail _ (.tail _ (.tail _ (.tail _ (.tail _ (.tail _ (.tail _ (.tail _ (.tail _ (.tail _ (.tail _ (.tail _ (.tail _ (.tail _ (.tail _ (.tail _ (.tail _ (.tail _ (.tail _ (.tail _ (.tail _ (.tail _ (.tail _ (.tail _ (.tail _ (.tail _ (.tail _ (.tail _ (.tail _ (.tail _ (.head _))))))))))))))))))))))))))))))))))))))))))))))))))))))
theorem EnvD.g54 {n s : Nat} {v : Value} {x0 x1 x2 x3 x4 x5 x6 x7 x8 x9 x10 x11 x12 x13 x14 x15 x16 x17 x18 x19 x20 x21 x22 x23 x24 x25 x26 x27 x28 x29 x30 x31 x32 x33 x34 x35 x36 x37 x38 x39 x40 x41 x42 x43 x44 x45 x46 x47 x48 x49 x50 x51 x52 x53 : Nat × Value} {L : List (Nat × Value)} (E : EnvD ds n (x0 :: x1 :: x2 :: x3 :: x4 :: x5 :: x6 :: x7 :: x8 :: x9 :: x10 :: x11 :: x12 :: x13 :: x14 :: x15 :: x16 :: x17 :: x18 :: x19 :: x20 :: x21 :: x22 :: x23 :: x24 :: x25 :: x26 :: x27 :: x28 :: x29 :: x30 :: x31 :: x32 :: x33 :: x34 :: x35 :: x36 :: x37 :: x38 :: x39 :: x40 :: x41 :: x42 :: x43 :: x44 :: x45 :: x46 :: x47 :: x48 :: x49 :: x50 :: x51 :: x52 :: x53 :: (s, v) :: L) a) : a.eval (.tmp s) = v := E.at_ (s, v) (.tail _ (.tail _ (.tail _ (.tail _ (.tail _ (.tail _ (.tail _ (.tail _ (.tail _ (.tail _ (.tail _ (.tail _ (.tail _ (.tail _ (.tail _ (.tail _ (.tail _ (.tail _ (.tail _ (.tail _ (.tail _ (.tail _ (.tail _ (.tail _ (.tail _ (.tail _ (.tail _ (.tail _ (.tail _ (.tail _ (.tail _ (.tail _ (.tail _ (.tail _ (.tail _ (.tail _ (.tail _ (.tail _ (.tail _ (.tail _ (.tail _ (.tail _ (.tail _ (.tail _ (.tail _ (.tail _ (.tail _ (.tail _ (.tail _ (.tail _ (.tail _ (.tail _ (.tail _ (.tail _ (.head _)))))))))))))))))))))))))))))))))))))))))))))))))))))))
theorem EnvD.g55 {n s : Nat} {v : Value} {x0 x1 x2 x3 x4 x5 x6 x7 x8 x9 x10 x11 x12 x13 x14 x15 x16 x17 x18 x19 x20 x21 x22 x23 x24 x25 x26 x27 x28 x29 x30 x31 x32 x33 x34 x35 x36 x37 x38 x39 x40 x41 x42 x43 x44 x45 x46 x47 x48 x49 x50 x51 x52 x53 x54 : Nat × Value} {L : List (Nat × Value)} (E : EnvD ds n (x0 :: x1 :: x2 :: x3 :: x4 :: x5 :: x6 :: x7 :: x8 :: x9 :: x10 :: x11 :: x12 :: x13 :: x14 :: x15 :: x16 :: x17 :: x18 :: x19 :: x20 :: x21 :: x22 :: x23 :: x24 :: x25 :: x26 :: x27 :: x28 :: x29 :: x30 :: x31 :: x32 :: x33 :: x34 :: x35 :: x36 :: x37 :: x38 :: x39 :: x40 :: x41 :: x42 :: x43 :: x44 :: x45 :: x46 :: x47 :: x48 :: x49 :: x50 :: x51 :: x52 :: x53 :: x54 :: (s, v) :: L) a) : a.eval (.tmp s) = v := E.at_ (s, v) (.tail _ (.tail _ (.tail _ (.tail _ (.tail _ (.tail _ (.tail _ (.tail _ (.tail _ (.tail _ (.tail _ (.tail _ (.tail _ (.tail _ (.tail _ (.tail _ (.tail _ (.tail _ (.tail _ (.tail _ (.tail _ (.tail _ (.tail _ (.tail _ (.tail _ (.tail _ (.tail _ (.tail _ (.tail _ (.tail _ (.tail _ (.tail _ (.tail _ (.tail _ (.tail _ (.tail _ (.tail _ (.tail _ (.tail _ (.tail _ (.tail _ (.tail _ (.tail _ (.tail _ (.tail _ (.tail _ (.tail _ (.tail _ (.tail _ (.tail _ (.tail _ (.tail _ (.tail _ (.tail _ (.tail _ (.head _))))))))))))))))))))))))))))))))))))))))))))))))))))))))
theorem EnvD.g56 {n s : Nat} {v : Value} {x0 x1 x2 x3 x4 x5 x6 x7 x8 x9 x10 x11 x12 x13 x14 x15 x16 x17 x18 x19 x20 x21 x22 x23 x24 x25 x26 x27 x28 x29 x30 x31 x32 x33 x34 x35 x36 x37 x38 x39 x40 x41 x42 x43 x44 x45 x46 x47 x48 x49 x50 x51 x52 x53 x54 x55 : Nat × Value} {L : List (Nat × Value)} (E : EnvD ds n (x0 :: x1 :: x2 :: x3 :: x4 :: x5 :: x6 :: x7 :: x8 :: x9 :: x10 :: x11 :: x12 :: x13 :: x14 :: x15 :: x16 :: x17 :: x18 :: x19 :: x20 :: x21 :: x22 :: x23 :: x24 :: x25 :: x26 :: x27 :: x28 :: x29 :: x30 :: x31 :: x32 :: x33 :: x34 :: x35 :: x36 :: x37 :: x38 :: x39 :: x40 :: x41 :: x42 :: x43 :: x44 :: x45 :: x46 :: x47 :: x48 :: x49 :: x50 :: x51 :: x52 :: x53 :: x54 :: x55 :: (s, v) :: L) a) : a.eval (.tmp s) = v := E.at_ (s, v) (.tail _ (.tail _ (.tail _ (.tail _ (.tail _ (.tail _ (.tail _ (.tail _ (.tail _ (.tail _ (.tail _ (.tail _ (.tail _ (.tail _ (.tail _ (.tail _ (.tail _ (.tail _ (.tail _ (.tail _ (.tail _ (.tail _ (.tail _ (.tail _ (.tail _ (.tail _ (.tail _ (.tail _ (.tail _ (.tail _ (.tail _ (.tail _ (.tail _ (.tail _ (.tail _ (.tail _ (.tail _ (.tail _ (.tail _ (.tail _ (.tail _ (.tail _ (.tail _ (.tail _ (.tail _ (.tail _ (.tail _ (.tail _ (.tail _ (.tail _ (.tail _ (.tail _ (.tail _ (.tail _ (.tail _ (.tail _ (.head _)))))))))))))))))))))))))))))))))))))))))))))))))))))))))
theorem EnvD.g57 {n s : Nat} {v : Value} {x0 x1 x2 x3 x4 x5 x6 x7 x8 x9 x10 x11 x12 x13 x14 x15 x16 x17 x18 x19 x20 x21 x22 x23 x24 x25 x26 x27 x28 x29 x30 x31 x32 x33 x34 x35 x36 x37 x38 x39 x40 x41 x42 x43 x44 x45 x46 x47 x48 x49 x50 x51 x52 x53 x54 x55 x56 : Nat × Value} {L : List (Nat × Value)} (E : EnvD ds n (x0 :: x1 :: x2 :: x3 :: x4 :: x5 :: x6 :: x7 :: x8 :: x9 :: x10 :: x11 :: x12 :: x13 :: x14 :: x15 :: x16 :: x17 :: x18 :: x19 :: x20 :: x21 :: x22 :: x23 :: x24 :: x25 :: x26 :: x27 :: x28 :: x29 :: x30 :: x31 :: x32 :: x33 :: x34 :: x35 :: x36 :: x37 :: x38 :: x39 :: x40 :: x41 :: x42 :: x43 :: x44 :: x45 :: x46 :: x47 :: x48 :: x49 :: x50 :: x51 :: x52 :: x53 :: x54 :: x55 :: x56 :: (s, v) :: L) a) : a.eval (.tmp s) = v := E.at_ (s, v) (.tail _ (.tail _ (.tail _ (.tail _ (.tail _ (.tail _ (.tail _ (.tail _ (.tail _ (.tail _ (.tail _ (.tail _ (.tail _ (.tail _ (.tail _ (.tail _ (.tail _ (.tail _ (.tail _ (.tail _ (.tail _ (.tail _ (.tail _ (.tail _ (.tail _ (.tail _ (.tail _ (.tail _ (.tail _ (.tail _ (.tail _ (.tail _ (.tail _ (.tail _ (.tail _ (.tail _ (.tail _ (.tail _ (.tail _ (.tail _ (.tail _ (.tail _ (.tail _ (.tail _ (.tail _ (.tail _ (.tail _ (.tail _ (.tail _ (.tail _ (.tail _ (.tail _ (.tail _ (.tail _ (.tail _ (.tail _ (.tail _ (.head _))))))))))))))))))))))))))))))))))))))))))))))))))))))))))
theorem EnvD.g58 {n s : Nat} {v : Value} {x0 x1 x2 x3 x4 x5 x6 x7 x8 x9 x10 x11 x12 x13 x14 x15 x16 x17 x18 x19 x20 x21 x22 x23 x24 x25 x26 x27 x28 x29 x30 x31 x32 x33 x34 x35 x36 x37 x38 x39 x40 x41 x42 x43 x44 x45 x46 x47 x48 x49 x50 x51 x52 x53 x54 x55 x56 x57 : Nat × Value} {L : List (Nat × Value)} (E : EnvD ds n (x0 :: x1 :: x2 :: x3 :: x4 :: x5 :: x6 :: x7 :: x8 :: x9 :: x10 :: x11 :: x12 :: x13 :: x14 :: x15 :: x16 :: x17 :: x18 :: x19 :: x20 :: x21 :: x22 :: x23 :: x24 :: x25 :: x26 :: x27 :: x28 :: x29 :: x30 :: x31 :: x32 :: x33 :: x34 :: x35 :: x36 :: x37 :: x38 :: x39 :: x40 :: x41 :: x42 :: x43 :: x44 :: x45 :: x46 :: x47 :: x48 :: x49 :: x50 :: x51 :: x52 :: x53 :: x54 :: x55 :: x56 :: x57 :: (s, v) :: L) a) : a.eval (.tmp s) = v := E.at_ (s, v) (.tail _ (.tail _ (.tail _ (.tail _ (.tail _ (.tail _ (.tail _ (.tail _ (.tail _ (.tail _ (.tail _ (.tail _ (.tail _ (.tail _ (.tail _ (.tail _ (.tail _ (.tail _ (.tail _ (.tail _ (.tail _ (.tail _ (.tail _ (.tail _ (.tail _ (.tail _ (.tail _ (.tail _ (.tail _ (.tail _ (.tail _ (.tail _ (.tail _ (.tail _ (.tail _ (.tail _ (.tail _ (.tail _ (.tail _ (.tail _ (.tail _ (.tail _ (.tail _ (.tail _ (.tail _ (.tail _ (.tail _ (.tail _ (.tail _ (.tail _ (.tail _ (.tail _ (.tail _ (.tail _ (.tail _ (.tail _ (.tail _ (.tail _ (.head _)))))))))))))))))))))))))))))))))))))))))))))))))))))))))))
theorem EnvD.g59 {n s : Nat} {v : Value} {x0 x1 x2 x3 x4 x5 x6 x7 x8 x9 x10 x11 x12 x13 x14 x15 x16 x17 x18 x19 x20 x21 x22 x23 x24 x25 x26 x27 x28 x29 x30 x31 x32 x33 x34 x35 x36 x37 x38 x39 x40 x41 x42 x43 x44 x45 x46 x47 x48 x49 x50 x51 x52 x53 x54 x55 x56 x57 x58 : Nat × Value} {L : List (Nat × Value)} (E : EnvD ds n (x0 :: x1 :: x2 :: x3 :: x4 :: x5 :: x6 :: x7 :: x8 :: x9 :: x10 :: x11 :: x12 :: x13 :: x14 :: x15 :: x16 :: x17 :: x18 :: x19 :: x20 :: x21 :: x22 :: x23 :: x24 :: x25 :: x26 :: x27 :: x28 :: x29 :: x30 :: x31 :: x32 :: x33 :: x34 :: x35 :: x36 :: x37 :: x38 :: x39 :: x40 :: x41 :: x42 :: x43 :: x44 :: x45 :: x46 :: x47 :: x48 :: x49 :: x50 :: x51 :: x52 :: x53 :: x54 :: x55 :: x56 :: x57 :: x58 :: (s, v) :: L) a) : a.eval (.tmp s) = v := E.at_ (s, v) (.tail _ (.tail _ (.tail _ (.tail _ (.tail _ (.tail _ (.tail _ (.tail _ (.tail _ (.tail _ (.tail _ (.tail _ (.tail _ (.tail _ (.tail _ (.tail _ (.tail _ (.tail _ (.tail _ (.tail _ (.tail _ (.tail _ (.tail _ (.tail _ (.tail _ (.tail _ (.tail _ (.tail _ (.tail _ (.tail _ (.tail _ (.tail _ (.tail _ (.tail _ (.tail _ (.tail _ (.tail _ (.tail _ (.tail _ (.tail _ (.tail _ (.tail _ (.tail _ (.tail _ (.tail _ (.tail _ (.tail _ (.tail _ (.tail _ (.tail _ (.tail _ (.tail _ (.tail _ (.tail _ (.tail _ (.tail _ (.tail _ (.tail _ (.tail _ (.head _))))))))))))))))))))))))))))))))))))))))))))))))))))))))))))
theorem nq_ {p q : Prop} (h : p → q := by intro e; (try simp only at e); omega) : p → q := h
theorem wy_ {n g s : Nat} {b : Bool} {L : List (Nat × Value)} (E : EnvD ds n L a) (hv : a.eval (.tmp s) = .bool b) (hgd : o.guard = some (g, b) := by rfl) (hg : (O[g]?).bind (·.dst) = some s := by rfl) (hs : s < n := by decide) : Region.wanted o (yielded O a.tmps) = true := w_yes E hgd hg hs hv
theorem ec_ {v : Value} {n d : Nat} {L : List (Nat × Value)} {f : FuncId} {args : Array Value} {F : World → Prop} (E : EnvD ds n L a) (hd : o.dst = some d) (hr : (execOp a.eval o).run P w = .ok (.enter f args) w) (hc : Calls P f args w fun e w' => e = .returned v ∧ F w') (k : ∀ a' w', F w' → EnvD ds n ((d, v) :: L) a' → wpList P O Q rest a' w') (hn : d < n := by decide) (hf : (L.map (·.1)).contains d = false := by rfl) (hw : Region.wanted o (yielded O a.tmps) = true := by exact wanted_none rfl _) : wpList P O Q (o :: rest) a w := env_call E hd hn hf hw hr hc k
theorem es_ {v : Value} {w' : World} {n d : Nat} {L : List (Nat × Value)} (E : EnvD ds n L a) (hd : o.dst = some d) (hr : (execOp a.eval o).run P w = .ok (.value v) w') (k : ∀ a', EnvD ds n ((d, v) :: drop1 d L) a' → wpList P O Q rest a' w') (hn : d < n := by decide) (hw : Region.wanted o (yielded O a.tmps) = true := by exact wanted_none rfl _) : wpList P O Q (o :: rest) a w := env_set E hd hn hw hr k
end
theorem run_move {x : Operand} {v : Value} (ho : o.op = .move x) (hx : ρ x = v) : (execOp ρ o).run P w = .ok (.value v) w := by
 simp [execOp, ho, hx, go_sem]
theorem run_assign {x : Operand} {v : Value} (ho : o.op = .assign x) (hx : ρ x = v) : (execOp ρ o).run P w = .ok (.value v) w := by
 simp [execOp, ho, hx, go_sem]
theorem run_pick_t {c x y : Operand} {v : Value} (ho : o.op = .pick c x y) (hc : ρ c = .bool true) (hx : ρ x = v) : (execOp ρ o).run P w = .ok (.value v) w := by
 simp [execOp, ho, hc, hx, go_sem]
theorem run_pick_f {c x y : Operand} {v : Value} (ho : o.op = .pick c x y) (hc : ρ c = .bool false) (hy : ρ y = v) : (execOp ρ o).run P w = .ok (.value v) w := by
 simp [execOp, ho, hc, hy, go_sem]
theorem run_not {t : TypeId} {x : Operand} {b : Bool} (ho : o.op = .unOp .not t x) (hx : ρ x = .bool b) : (execOp ρ o).run P w = .ok (.value (.bool !b)) w := by
 simp [execOp, ho, hx, go_sem]
section
variable {f : FuncId} {ts : Array TypeId}
theorem run_call1 {x : Operand} {v : Value} (eg : ∀ args w, (callFunc f args).run P w = .ok (.enter f args) w) (ho : o.op = .call ⟨.value (.func f), #[x], ts⟩) (hf : ρ (.func f) = .func (.func f) #[] #[]) (hx : ρ x = v) : (execOp ρ o).run P w = .ok (.enter f #[v]) w := by
 simp [execOp, ho, hf, hx, eg, resolve, Deferred.ofValue, invoke, go_sem]
theorem run_call2 {x y : Operand} {v u : Value} (eg : ∀ args w, (callFunc f args).run P w = .ok (.enter f args) w) (ho : o.op = .call ⟨.value (.func f), #[x, y], ts⟩) (hf : ρ (.func f) = .func (.func f) #[] #[]) (hx : ρ x = v) (hy : ρ y = u) : (execOp ρ o).run P w = .ok (.enter f #[v, u]) w := by
 simp [execOp, ho, hf, hx, hy, eg, resolve, Deferred.ofValue, invoke, go_sem]
theorem run_call3 {x y z : Operand} {v u t : Value} (eg : ∀ args w, (callFunc f args).run P w = .ok (.enter f args) w) (ho : o.op = .call ⟨.value (.func f), #[x, y, z], ts⟩) (hf : ρ (.func f) = .func (.func f) #[] #[]) (hx : ρ x = v) (hy : ρ y = u) (hz : ρ z = t) : (execOp ρ o).run P w = .ok (.enter f #[v, u, t]) w := by
 simp [execOp, ho, hf, hx, hy, hz, eg, resolve, Deferred.ofValue, invoke, go_sem]
end
section
variable {t t2 : TypeId} {k : IntKind} {x y : Operand} {m n : Int} (hx : ρ x = .int k m) (hy : ρ y = .int k n)
include hx hy
theorem run_ieql (ht : P.underlying t = some (.int k)) (ho : o.op = .binOp .eql t x y t2) : (execOp ρ o).run P w = .ok (.value (.bool (m == n))) w := by
 simp [execOp, ho, hx, hy, go_sem, ht]
theorem run_ilss (ht : P.underlying t = some (.int k)) (ho : o.op = .binOp .lss t x y t2) : (execOp ρ o).run P w = .ok (.value (.bool (decide (m < n)))) w := by
 simp [execOp, ho, hx, hy, go_sem, ht]
theorem run_ileq (ht : P.underlying t = some (.int k)) (ho : o.op = .binOp .leq t x y t2) : (execOp ρ o).run P w = .ok (.value (.bool (decide (m ≤ n)))) w := by
 simp [execOp, ho, hx, hy, go_sem, ht]
theorem run_igtr (ht : P.underlying t = some (.int k)) (ho : o.op = .binOp .gtr t x y t2) : (execOp ρ o).run P w = .ok (.value (.bool (decide (n < m)))) w := by
 simp [execOp, ho, hx, hy, go_sem, ht]
end
/-! ### the code around the regions -/
section
variable {f : FuncId} {fn : Func} {c : Code} {args : Array Value} {R : Ending → World → Prop} {n : Nat} {L : List (Nat × Value)}
theorem ret_tmp {t : Tmp} {v : Value} (hr : fn.results = #[.tmp t]) (E : Env n L a) (hv : a.eval (.tmp t) = v) (h : R (.returned v) w) : bodyPost P fn R .ret a w := by
 refine ⟨E.df, v, ?_, h⟩
 unfold results
 rw [hr]
 have : a.tmps.getD t undef = v := hv
 rw [Array.getD_eq_getD_getElem?] at this
 simp [this]
end
section
variable {next : Act → World → Prop} {Q1 : Exit → Act → World → Prop} {id : Nat}
theorem then_n (h : next a w) : Exit.then next Q1 .normal a w := h
theorem blk_n (h : Q1 .normal a w) : Exit.inBlock id Q1 .normal a w := h
theorem then_r (h : Q1 .ret a w) : Exit.then next Q1 .ret a w := h
theorem blk_r (h : Q1 .ret a w) : Exit.inBlock id Q1 .ret a w := h
end
end Go.Pl
namespace Go.Pl
theorem wp_seq_cut {P : Program} {x y : Code} {Q : Exit → Act → World → Prop} {a : Act} {w : World} (R : Act → World → Prop) (h1 : x.wp P (Exit.then R Q) a w) (h2 : ∀ a w, R a w → y.wp P Q a w) : (Code.seq x y).wp P Q a w := by
 refine wp_seq (wp_mono h1 ?_)
 intro e a' w' hq
 cases e with
 | normal => exact h2 _ _ hq
 | exit id => exact hq
 | goto l => exact hq
 | ret => exact hq
 | panic ch => exact hq
 | outgrown => exact hq
end Go.Pl
namespace Go.Pl
theorem wp_start2 {P : Program} {f : FuncId} {fn : Func} {c : Code} {R : Ending → World → Prop} {n : Nat} {w : World} {v0 v1 : Value} (hf : P.funcs[f]? = some fn) (hb : fn.body = some c) (hn : fn.ntmps = n) (h2 : 2 ≤ n) (k : ∀ a, Env n [(0, v0), (1, v1)] a → c.wp P (bodyPost P fn R) a w) : Calls P f #[v0, v1] w R := by
 refine calls_of_wp hf hb (k _ ⟨?_, ?_, rfl⟩)
 ·simp [hn]; omega
 ·intro x hx
  simp only [List.mem_cons, List.not_mem_nil, or_false] at hx
  rcases hx with rfl | rfl
  ·show (#[v0, v1] ++ Array.replicate (fn.ntmps - 2) undef).getD 0 undef = v0
   rw [Array.getD_eq_getD_getElem?, Array.getElem?_append_left (by simp)]; rfl
  ·show (#[v0, v1] ++ Array.replicate (fn.ntmps - 2) undef).getD 1 undef = v1
   rw [Array.getD_eq_getD_getElem?, Array.getElem?_append_left (by simp)]; rfl
abbrev n_ := @wpList_nil
abbrev t_ := @then_n
abbrev s_ := @wp_seq
abbrev r_ := @wp_region_lit
abbrev c_t := @wp_cond_true
abbrev c_f := @wp_cond_false
abbrev k_ := @wp_skip
abbrev b_ := @blk_n
abbrev bk_ := @wp_block
abbrev x_ := @wp_exit
abbrev wr_ := @wp_ret
abbrev tr_ := @then_r
abbrev br_ := @blk_r
abbrev m_ := @run_move
abbrev a_ := @run_assign
end Go.Pl
/- A region that draws its order, by what holds whatever has been done: over whatever program. -/
set_option linter.unusedVariables false
set_option linter.unusedSimpArgs false
namespace Go.Pl
open Go.RowKit
variable {ds : List Deferred} {P : Program} {ops : Array Oper} {Q : Exit → Act → World → Prop}
/-- Operation i waits for operation j. -/
def depOn (ops : Array Oper) (i j : Nat) : Bool := ((ops[i]?).map fun o => o.after.toList.any fun e => Region.binds .any e && e.on == j).getD false
/-- Every operation waits for earlier ones alone. -/
def ordered (ops : Array Oper) : Bool := (List.range ops.size).all fun i => ((ops[i]?).map fun o => o.after.all fun e => !Region.binds .any e || decide (e.on < i)).getD true
theorem ready_iff {listed : Array Bool} {i : Nat} : i ∈ Region.ready .any ops listed ↔ i < ops.size ∧ listed.getD i true = false ∧ ∃ o, ops[i]? = some o ∧ ∀ e ∈ o.after, Region.binds .any e = true → listed.getD e.on false = true := by
  unfold Region.ready
  simp only [List.mem_filter, List.mem_range, Bool.and_eq_true, Bool.not_eq_true']
  constructor
  · rintro ⟨h1, h2, h3⟩
    refine ⟨h1, h2, ?_⟩
    obtain ⟨o, ho⟩ : ∃ o, ops[i]? = some o := ⟨_, Array.getElem?_eq_getElem h1⟩
    rw [ho] at h3
    refine ⟨o, ho, fun e he hb => ?_⟩
    simp only [Option.map_some, Option.getD_some, Array.all_eq_true'] at h3
    have := h3 e he
    simpa [hb] using this
  · rintro ⟨h1, h2, o, ho, h3⟩
    refine ⟨h1, h2, ?_⟩
    rw [ho]
    simp only [Option.map_some, Option.getD_some, Array.all_eq_true']
    intro e he
    cases hb : Region.binds .any e with
    | false => rfl
    | true => simpa using h3 e he hb
theorem all_listed (hord : ordered ops = true) {listed : Array Bool} (hs : listed.size = ops.size) (hr : Region.ready .any ops listed = []) : ∀ i, i < ops.size → listed.getD i false = true := by
  intro i
  induction i using Nat.strongRecOn with
  | _ i ih =>
    intro hi
    apply Classical.byContradiction
    intro hn
    have hl : i < listed.size := by omega
    have h2 : listed.getD i true = false := by
      rw [Array.getD_eq_getD_getElem?, Array.getElem?_eq_getElem hl] at hn ⊢
      simpa using hn
    obtain ⟨o, ho⟩ : ∃ o, ops[i]? = some o := ⟨_, Array.getElem?_eq_getElem hi⟩
    have : i ∈ Region.ready .any ops listed := by
      refine ready_iff.2 ⟨hi, h2, o, ho, fun e he hb9 => ?_⟩
      have h4 := List.all_eq_true.1 hord i (by simpa using hi)
      rw [ho] at h4
      simp only [Option.map_some, Option.getD_some, Array.all_eq_true'] at h4
      have := h4 e he
      rw [hb9] at this
      simp only [Bool.not_true, Bool.false_or, decide_eq_true_eq] at this
      exact ih _ this (by omega)
    rw [hr] at this
    simp at this
/-- What holds in the midst of such a region. -/
structure RInv (ds : List Deferred) (n : Nat) (base : List (Nat × Value)) (T : List (Option (Nat × Value))) (M : (Nat → Bool) → World → Prop) (listed : Array Bool) (a : Act) (w : World) : Prop where
  env : EnvD ds n base a
  vals : ∀ j x, T[j]? = some (some x) → listed.getD j false = true → a.eval (.tmp x.1) = x.2
  mem : M (fun j => listed.getD j false) w
def tableOK (ops : Array Oper) (n : Nat) (base : List (Nat × Value)) (T : List (Option (Nat × Value))) : Bool :=
  (T.length == ops.size) && ((List.range ops.size).all fun i => ((ops[i]?).bind fun o => (T[i]?).map fun t => (o.guard.isNone && (o.dst == t.map (·.1)) && (match t with | some x => decide (x.1 < n) && !(base.map (·.1)).contains x.1 && ((List.range T.length).all fun j => j == i || (match T[j]? with | some (some y) => y.1 != x.1 | _ => true)) | none => true))).getD false)
def putT (a : Act) : Option (Nat × Value) → Act
  | some x => a.put (some x.1) x.2
  | none => a
theorem count_set {l : List Bool} : ∀ {i : Nat}, l[i]? = some false → ((l.set i true).filter (!·)).length + 1 = (l.filter (!·)).length := by
  induction l with
  | nil => intro i h; simp at h
  | cons b l ih =>
    intro i h
    cases i with
    | zero => simp at h; subst h; simp
    | succ i =>
      simp at h
      have := ih h
      cases b <;> simp [this] <;> omega
theorem wpAny_inv {n : Nat} {base : List (Nat × Value)} {T : List (Option (Nat × Value))} {M : (Nat → Bool) → World → Prop} (hord : ordered ops = true) (hT : tableOK ops n base T = true)
    (step : ∀ (i : Nat) (o : Oper) (t : Option (Nat × Value)) (lst : Nat → Bool) (a : Act) (w : World), ops[i]? = some o → T[i]? = some t → lst i = false → EnvD ds n base a → (∀ (j : Nat) (x : Nat × Value), depOn ops i j = true → T[j]? = some (some x) → a.eval (.tmp x.1) = x.2) → (∀ j, depOn ops i j = true → lst j = true) → M lst w →
      o.wp P a w (fun a' w' => a' = putT a t ∧ M (fun j => j == i || lst j) w') Q)
    (hend : ∀ a w, EnvD ds n base a → (∀ (j : Nat) (x : Nat × Value), T[j]? = some (some x) → a.eval (.tmp x.1) = x.2) → M (fun j => decide (j < ops.size)) w → Q .normal a w) :
    ∀ (fuel : Nat) (listed : Array Bool) (a : Act) (w : World), listed.size = ops.size → (listed.toList.filter (!·)).length ≤ fuel → RInv ds n base T M listed a w → wpAny P .any ops Q fuel listed a w := by
  have hfin : ∀ (listed : Array Bool) (a : Act) (w : World), listed.size = ops.size → Region.ready .any ops listed = [] → RInv ds n base T M listed a w → Q .normal a w := by
    intro listed a w hs hr h
    have hall := all_listed hord hs hr
    have hlen : T.length = ops.size := by
      unfold tableOK at hT; simp only [Bool.and_eq_true, beq_iff_eq] at hT; exact hT.1
    refine hend a w h.env (fun j x hj => h.vals j x hj (hall j (by rw [← hlen]; exact (List.getElem?_eq_some_iff.1 hj).1))) ?_
    have e : (fun j => listed.getD j false) = fun j => decide (j < ops.size) := by
      funext j
      by_cases hj : j < ops.size
      · rw [hall j hj, decide_eq_true hj]
      · rw [decide_eq_false hj, Array.getD_eq_getD_getElem?, Array.getElem?_eq_none (by omega)]; rfl
    rw [← e]; exact h.mem
  intro fuel
  induction fuel with
  | zero =>
    intro listed a w hs hc h
    have hr : Region.ready .any ops listed = [] := by
      apply List.eq_nil_iff_forall_not_mem.2
      intro i hi
      obtain ⟨h1, h2, _⟩ := ready_iff.1 hi
      have hl : i < listed.size := by omega
      have : listed[i]? = some false := by
        rw [Array.getD_eq_getD_getElem?, Array.getElem?_eq_getElem hl] at h2
        rw [Array.getElem?_eq_getElem hl]; simpa using h2
      have hm : false ∈ listed.toList.filter (!·) := by
        rw [List.mem_filter]; exact ⟨Array.mem_toList_iff.2 (Array.mem_of_getElem? this), rfl⟩
      have := List.length_pos_of_mem hm
      omega
    exact ⟨hr, hfin listed a w hs hr h⟩
  | succ fuel ih =>
    intro listed a w hs hc h
    refine ⟨fun hr => hfin listed a w hs hr h, fun i hi => ?_⟩
    obtain ⟨h1, h2, o, ho, hdep⟩ := ready_iff.1 hi
    have hT' := hT
    unfold tableOK at hT'
    simp only [Bool.and_eq_true, beq_iff_eq] at hT'
    obtain ⟨hlen, hall⟩ := hT'
    have hi' := List.all_eq_true.1 hall i (by simpa using h1)
    obtain ⟨t, ht⟩ : ∃ t, T[i]? = some t := ⟨_, List.getElem?_eq_getElem (by omega)⟩
    rw [ho, ht] at hi'
    simp only [Option.bind_some, Option.map_some, Option.getD_some, Bool.and_eq_true, beq_iff_eq] at hi'
    obtain ⟨⟨hg, hd⟩, hx⟩ := hi'
    have hl : i < listed.size := by omega
    have hf : listed.getD i false = false := by
      rw [Array.getD_eq_getD_getElem?, Array.getElem?_eq_getElem hl] at h2 ⊢
      simpa using h2
    have hf' : listed[i]? = some false := by
      rw [Array.getD_eq_getD_getElem?, Array.getElem?_eq_getElem hl] at hf
      rw [Array.getElem?_eq_getElem hl]; simpa using hf
    have hdl : ∀ j, depOn ops i j = true → listed.getD j false = true := by
      intro j hj
      unfold depOn at hj
      rw [ho] at hj
      simp only [Option.map_some, Option.getD_some, List.any_eq_true, Array.mem_toList_iff] at hj
      obtain ⟨e, he, hb⟩ := hj
      simp only [Bool.and_eq_true, beq_iff_eq] at hb
      rw [← hb.2]; exact hdep e he hb.1
    have hstep := step i o t (fun j => listed.getD j false) a w ho ht hf h.env (fun j x hj hx => h.vals j x hx (hdl j hj)) hdl h.mem
    unfold wpOp
    simp only [ho]
    have hg' : o.guard = none := by cases hgg : o.guard with | none => rfl | some g => rw [hgg] at hg; simp at hg
    rw [wanted_none hg']
    simp only [if_true]
    left
    refine Oper.wp_mono ?_ hstep
    rintro a' w' ⟨rfl, hM⟩
    have hset : ∀ j, (listed.setIfInBounds i true).getD j false = (j == i || listed.getD j false) := by
      intro j
      rw [Array.getD_eq_getD_getElem?, Array.getElem?_setIfInBounds]
      by_cases e : i = j
      · subst e; simp [hl]
      · have e' : (j == i) = false := by simpa using Ne.symm e
        simp [e, e', Array.getD_eq_getD_getElem?]
    refine ih _ _ _ (by simpa using hs) ?_ ⟨?_, ?_, ?_⟩
    · have := count_set (l := listed.toList) (i := i) (by simpa using hf')
      simp only [Array.toList_setIfInBounds]
      omega
    · cases t with
      | none => exact h.env
      | some x =>
        simp only [Bool.and_eq_true, decide_eq_true_eq, Bool.not_eq_true'] at hx
        have hp := h.env.put (v := x.2) hx.1.1 hx.1.2
        exact ⟨hp.size, fun y hy => hp.at_ y (List.mem_cons_of_mem _ hy), hp.df⟩
    · intro j x hj hlj
      rw [hset] at hlj
      cases t with
      | none =>
        by_cases e : j = i
        · subst e; rw [ht] at hj; simp at hj
        · have e' : (j == i) = false := by simpa using e
          rw [e', Bool.false_or] at hlj
          exact h.vals j x hj hlj
      | some y =>
        simp only [Bool.and_eq_true, decide_eq_true_eq, Bool.not_eq_true'] at hx
        show (a.put (some y.1) y.2).eval (.tmp x.1) = x.2
        rw [eval_put (by rw [h.env.size]; exact hx.1.1)]
        by_cases e : j = i
        · subst e; rw [ht] at hj; simp at hj; subst hj; rw [if_pos rfl]
        · have e' : (j == i) = false := by simpa using e
          rw [e', Bool.false_or] at hlj
          have h5 := List.all_eq_true.1 hx.2 j (by simpa using (List.getElem?_eq_some_iff.1 hj).1)
          rw [hj, e', Bool.false_or] at h5
          have h6 : x.1 ≠ y.1 := by simpa using h5
          rw [if_neg h6]
          exact h.vals j x hj hlj
    · have e : (fun j => (listed.setIfInBounds i true).getD j false) = fun j => j == i || listed.getD j false := funext hset
      rw [e]; exact hM
theorem wp_region_inv {id n : Nat} {base : List (Nat × Value)} {T : List (Option (Nat × Value))} {M : (Nat → Bool) → World → Prop} {a : Act} {w : World} (hm : P.follows .mixedOrders = true) (hord : ordered ops = true) (hT : tableOK ops n base T = true)
    (E : EnvD ds n base a) (hM : M (fun _ => false) w.drew)
    (step : ∀ (i : Nat) (o : Oper) (t : Option (Nat × Value)) (lst : Nat → Bool) (a : Act) (w : World), ops[i]? = some o → T[i]? = some t → lst i = false → EnvD ds n base a → (∀ (j : Nat) (x : Nat × Value), depOn ops i j = true → T[j]? = some (some x) → a.eval (.tmp x.1) = x.2) → (∀ j, depOn ops i j = true → lst j = true) → M lst w →
      o.wp P a w (fun a' w' => a' = putT a t ∧ M (fun j => j == i || lst j) w') Q)
    (hend : ∀ a w, EnvD ds n base a → (∀ (j : Nat) (x : Nat × Value), T[j]? = some (some x) → a.eval (.tmp x.1) = x.2) → M (fun j => decide (j < ops.size)) w → Q .normal a w) :
    (Code.region id ops true).wp P Q a w := by
  refine wp_region_any hm (wpAny_inv hord hT step hend _ _ _ _ (by simp) ?_ ⟨E, ?_, ?_⟩)
  · exact Nat.le_trans (List.length_filter_le _ _) (by simp)
  · intro j x hj hlj
    rw [Array.getD_eq_getD_getElem?, Array.getElem?_replicate] at hlj
    split at hlj <;> simp at hlj
  · have e : (fun j => (Array.replicate ops.size false).getD j false) = fun _ => false := by
      funext j
      rw [Array.getD_eq_getD_getElem?, Array.getElem?_replicate]
      split <;> rfl
    rw [e]; exact hM
section
variable {o : Oper} {a : Act} {w w' : World} {d : Nat} {v : Value} {M : World → Prop}
theorem val_wp (hr : (execOp a.eval o).run P w = .ok (.value v) w) (hd : o.dst = some d) (hM : M w) : o.wp P a w (fun a' w' => a' = putT a (some (d, v)) ∧ M w') Q := by
  unfold Oper.wp; rw [hr, Oper.upon_value, hd]; exact ⟨rfl, hM⟩
theorem call_wp {f : FuncId} {args : Array Value} {F : World → Prop} (hr : (execOp a.eval o).run P w = .ok (.enter f args) w) (hc : Calls P f args w fun e w' => e = .returned v ∧ F w') (hd : o.dst = some d) (hM : ∀ w', F w' → M w') : o.wp P a w (fun a' w' => a' = putT a (some (d, v)) ∧ M w') Q := by
  unfold Oper.wp; rw [hr, Oper.upon_enter]
  refine hc.mono ?_
  rintro e w' ⟨rfl, hF⟩
  show _ ∧ _
  rw [hd]; exact ⟨rfl, hM w' hF⟩
end
end Go.Pl
namespace Go.Pl
theorem then_e {next : Act → World → Prop} {Q1 : Exit → Act → World → Prop} {id : Nat} {a : Act} {w : World} (h : Q1 (.exit id) a w) : Exit.then next Q1 (.exit id) a w := h
theorem blk_e {Q1 : Exit → Act → World → Prop} {id : Nat} {a : Act} {w : World} (h : Q1 .normal a w) : Exit.inBlock id Q1 (.exit id) a w := by
  unfold Exit.inBlock; simp only [if_true]; exact h
theorem blk_x {Q1 : Exit → Act → World → Prop} {id id' : Nat} {a : Act} {w : World} (hne : id' ≠ id) (h : Q1 (.exit id') a w) : Exit.inBlock id Q1 (.exit id') a w := by
  unfold Exit.inBlock; simp only [if_neg hne]; exact h
abbrev te_ := @then_e
abbrev be_ := @blk_e
end Go.Pl
/- A drawn region with guarded operations. -/
set_option linter.unusedVariables false
set_option linter.unusedSimpArgs false
namespace Go.Pl
open Go.RowKit
variable {ds : List Deferred} {P : Program} {ops : Array Oper} {Q : Exit → Act → World → Prop}
def tableOKg (ops : Array Oper) (n : Nat) (base : List (Nat × Value)) (T : List (Option (Nat × Value))) : Bool :=
  (T.length == ops.size) && ((List.range ops.size).all fun i => ((ops[i]?).bind fun o => (T[i]?).map fun t => ((o.dst == t.map (·.1)) && (match t with | some x => decide (x.1 < n) && !(base.map (·.1)).contains x.1 && ((List.range T.length).all fun j => j == i || (match T[j]? with | some (some y) => y.1 != x.1 | _ => true)) | none => true))).getD false)
theorem wpAny_invg {n : Nat} {base : List (Nat × Value)} {T : List (Option (Nat × Value))} {M : (Nat → Bool) → World → Prop} (hord : ordered ops = true) (hT : tableOKg ops n base T = true)
    (step : ∀ (i : Nat) (o : Oper) (t : Option (Nat × Value)) (lst : Nat → Bool) (a : Act) (w : World), ops[i]? = some o → T[i]? = some t → lst i = false → EnvD ds n base a → (∀ (j : Nat) (x : Nat × Value), depOn ops i j = true → T[j]? = some (some x) → a.eval (.tmp x.1) = x.2) → (∀ j, depOn ops i j = true → lst j = true) → M lst w →
      (Region.wanted o (yielded ops a.tmps) = true → o.wp P a w (fun a' w' => a' = putT a t ∧ M (fun j => j == i || lst j) w') Q) ∧ (Region.wanted o (yielded ops a.tmps) = false → (∀ x, t = some x → x.2 = undef) ∧ M (fun j => j == i || lst j) w))
    (hend : ∀ a w, EnvD ds n base a → (∀ (j : Nat) (x : Nat × Value), T[j]? = some (some x) → a.eval (.tmp x.1) = x.2) → M (fun j => decide (j < ops.size)) w → Q .normal a w) :
    ∀ (fuel : Nat) (listed : Array Bool) (a : Act) (w : World), listed.size = ops.size → (listed.toList.filter (!·)).length ≤ fuel → RInv ds n base T M listed a w → wpAny P .any ops Q fuel listed a w := by
  have hfin : ∀ (listed : Array Bool) (a : Act) (w : World), listed.size = ops.size → Region.ready .any ops listed = [] → RInv ds n base T M listed a w → Q .normal a w := by
    intro listed a w hs hr h
    have hall := all_listed hord hs hr
    have hlen : T.length = ops.size := by
      unfold tableOKg at hT; simp only [Bool.and_eq_true, beq_iff_eq] at hT; exact hT.1
    refine hend a w h.env (fun j x hj => h.vals j x hj (hall j (by rw [← hlen]; exact (List.getElem?_eq_some_iff.1 hj).1))) ?_
    have e : (fun j => listed.getD j false) = fun j => decide (j < ops.size) := by
      funext j
      by_cases hj : j < ops.size
      · rw [hall j hj, decide_eq_true hj]
      · rw [decide_eq_false hj, Array.getD_eq_getD_getElem?, Array.getElem?_eq_none (by omega)]; rfl
    rw [← e]; exact h.mem
  intro fuel
  induction fuel with
  | zero =>
    intro listed a w hs hc h
    have hr : Region.ready .any ops listed = [] := by
      apply List.eq_nil_iff_forall_not_mem.2
      intro i hi
      obtain ⟨h1, h2, _⟩ := ready_iff.1 hi
      have hl : i < listed.size := by omega
      have : listed[i]? = some false := by
        rw [Array.getD_eq_getD_getElem?, Array.getElem?_eq_getElem hl] at h2
        rw [Array.getElem?_eq_getElem hl]; simpa using h2
      have hm : false ∈ listed.toList.filter (!·) := by
        rw [List.mem_filter]; exact ⟨Array.mem_toList_iff.2 (Array.mem_of_getElem? this), rfl⟩
      have := List.length_pos_of_mem hm
      omega
    exact ⟨hr, hfin listed a w hs hr h⟩
  | succ fuel ih =>
    intro listed a w hs hc h
    refine ⟨fun hr => hfin listed a w hs hr h, fun i hi => ?_⟩
    obtain ⟨h1, h2, o, ho, hdep⟩ := ready_iff.1 hi
    have hT' := hT
    unfold tableOKg at hT'
    simp only [Bool.and_eq_true, beq_iff_eq] at hT'
    obtain ⟨hlen, hall⟩ := hT'
    have hi' := List.all_eq_true.1 hall i (by simpa using h1)
    obtain ⟨t, ht⟩ : ∃ t, T[i]? = some t := ⟨_, List.getElem?_eq_getElem (by omega)⟩
    rw [ho, ht] at hi'
    simp only [Option.bind_some, Option.map_some, Option.getD_some, Bool.and_eq_true, beq_iff_eq] at hi'
    obtain ⟨hd, hx⟩ := hi'
    have hl : i < listed.size := by omega
    have hf : listed.getD i false = false := by
      rw [Array.getD_eq_getD_getElem?, Array.getElem?_eq_getElem hl] at h2 ⊢
      simpa using h2
    have hf' : listed[i]? = some false := by
      rw [Array.getD_eq_getD_getElem?, Array.getElem?_eq_getElem hl] at hf
      rw [Array.getElem?_eq_getElem hl]; simpa using hf
    have hdl : ∀ j, depOn ops i j = true → listed.getD j false = true := by
      intro j hj
      unfold depOn at hj
      rw [ho] at hj
      simp only [Option.map_some, Option.getD_some, List.any_eq_true, Array.mem_toList_iff] at hj
      obtain ⟨e, he, hb⟩ := hj
      simp only [Bool.and_eq_true, beq_iff_eq] at hb
      rw [← hb.2]; exact hdep e he hb.1
    have hstep := step i o t (fun j => listed.getD j false) a w ho ht hf h.env (fun j x hj hx => h.vals j x hx (hdl j hj)) hdl h.mem
    unfold wpOp
    simp only [ho]
    have hgo : ∀ a' w', a' = putT a t ∧ M (fun j => j == i || listed.getD j false) w' → wpAny P .any ops Q fuel (listed.setIfInBounds i true) a' w' := ?_
    · cases hw : Region.wanted o (yielded ops a.tmps) with
      | true =>
        simp only [if_true]
        left
        exact Oper.wp_mono hgo (hstep.1 hw)
      | false =>
        obtain ⟨h3, h4⟩ := hstep.2 hw
        refine hgo _ _ ⟨?_, h4⟩
        cases t with
        | none => rw [show o.dst = none from hd]; rfl
        | some x => rw [show o.dst = some x.1 from hd, ← h3 x rfl]; rfl
    rintro a' w' ⟨rfl, hM⟩
    have hset : ∀ j, (listed.setIfInBounds i true).getD j false = (j == i || listed.getD j false) := by
      intro j
      rw [Array.getD_eq_getD_getElem?, Array.getElem?_setIfInBounds]
      by_cases e : i = j
      · subst e; simp [hl]
      · have e' : (j == i) = false := by simpa using Ne.symm e
        simp [e, e', Array.getD_eq_getD_getElem?]
    refine ih _ _ _ (by simpa using hs) ?_ ⟨?_, ?_, ?_⟩
    · have := count_set (l := listed.toList) (i := i) (by simpa using hf')
      simp only [Array.toList_setIfInBounds]
      omega
    · cases t with
      | none => exact h.env
      | some x =>
        simp only [Bool.and_eq_true, decide_eq_true_eq, Bool.not_eq_true'] at hx
        have hp := h.env.put (v := x.2) hx.1.1 hx.1.2
        exact ⟨hp.size, fun y hy => hp.at_ y (List.mem_cons_of_mem _ hy), hp.df⟩
    · intro j x hj hlj
      rw [hset] at hlj
      cases t with
      | none =>
        by_cases e : j = i
        · subst e; rw [ht] at hj; simp at hj
        · have e' : (j == i) = false := by simpa using e
          rw [e', Bool.false_or] at hlj
          exact h.vals j x hj hlj
      | some y =>
        simp only [Bool.and_eq_true, decide_eq_true_eq, Bool.not_eq_true'] at hx
        show (a.put (some y.1) y.2).eval (.tmp x.1) = x.2
        rw [eval_put (by rw [h.env.size]; exact hx.1.1)]
        by_cases e : j = i
        · subst e; rw [ht] at hj; simp at hj; subst hj; rw [if_pos rfl]
        · have e' : (j == i) = false := by simpa using e
          rw [e', Bool.false_or] at hlj
          have h5 := List.all_eq_true.1 hx.2 j (by simpa using (List.getElem?_eq_some_iff.1 hj).1)
          rw [hj, e', Bool.false_or] at h5
          have h6 : x.1 ≠ y.1 := by simpa using h5
          rw [if_neg h6]
          exact h.vals j x hj hlj
    · have e : (fun j => (listed.setIfInBounds i true).getD j false) = fun j => j == i || listed.getD j false := funext hset
      rw [e]; exact hM
theorem wp_region_invg {id n : Nat} {base : List (Nat × Value)} {T : List (Option (Nat × Value))} {M : (Nat → Bool) → World → Prop} {a : Act} {w : World} (hm : P.follows .mixedOrders = true) (hord : ordered ops = true) (hT : tableOKg ops n base T = true)
    (E : EnvD ds n base a) (hM : M (fun _ => false) w.drew)
    (step : ∀ (i : Nat) (o : Oper) (t : Option (Nat × Value)) (lst : Nat → Bool) (a : Act) (w : World), ops[i]? = some o → T[i]? = some t → lst i = false → EnvD ds n base a → (∀ (j : Nat) (x : Nat × Value), depOn ops i j = true → T[j]? = some (some x) → a.eval (.tmp x.1) = x.2) → (∀ j, depOn ops i j = true → lst j = true) → M lst w →
      (Region.wanted o (yielded ops a.tmps) = true → o.wp P a w (fun a' w' => a' = putT a t ∧ M (fun j => j == i || lst j) w') Q) ∧ (Region.wanted o (yielded ops a.tmps) = false → (∀ x, t = some x → x.2 = undef) ∧ M (fun j => j == i || lst j) w))
    (hend : ∀ a w, EnvD ds n base a → (∀ (j : Nat) (x : Nat × Value), T[j]? = some (some x) → a.eval (.tmp x.1) = x.2) → M (fun j => decide (j < ops.size)) w → Q .normal a w) :
    (Code.region id ops true).wp P Q a w := by
  refine wp_region_any hm (wpAny_invg hord hT step hend _ _ _ _ (by simp) ?_ ⟨E, ?_, ?_⟩)
  · exact Nat.le_trans (List.length_filter_le _ _) (by simp)
  · intro j x hj hlj
    rw [Array.getD_eq_getD_getElem?, Array.getElem?_replicate] at hlj
    split at hlj <;> simp at hlj
  · have e : (fun j => (Array.replicate ops.size false).getD j false) = fun _ => false := by
      funext j
      rw [Array.getD_eq_getD_getElem?, Array.getElem?_replicate]
      split <;> rfl
    rw [e]; exact hM
section
variable {o o' : Oper} {t t' : Option (Nat × Value)} {a a1 : Act} {w : World} {O : Array Oper} {M : World → Prop} {B : Prop}
theorem y9_ (ho : (some o : Option Oper) = some o') (hT : (some t : Option (Option (Nat × Value))) = some t') (h : o.wp P a w (fun a' w' => a' = putT a t ∧ M w') Q) : o'.wp P a w (fun a' w' => a' = putT a t' ∧ M w') Q := by cases ho; cases hT; exact h
theorem y0_ {f : Nat → Option Bool} (ho : (some o : Option Oper) = some o') (hT : (some t : Option (Option (Nat × Value))) = some t') (h : o.wp P a w (fun a' w' => a' = putT a t ∧ M w') Q) (hg : o.guard = none := by rfl) : (Region.wanted o' f = true → o'.wp P a w (fun a' w' => a' = putT a t' ∧ M w') Q) ∧ (Region.wanted o' f = false → B) := by
  cases ho; cases hT; exact ⟨fun _ => h, fun k => by rw [wanted_none hg] at k; cases k⟩
theorem y1_ {n g s : Nat} {b : Bool} {L : List (Nat × Value)} (ho : (some o : Option Oper) = some o') (hT : (some t : Option (Option (Nat × Value))) = some t') (E : EnvD ds n L a1) (hv : a1.eval (.tmp s) = .bool b) (h : o.wp P a w (fun a' w' => a' = putT a t ∧ M w') Q) (hgd : o.guard = some (g, b) := by rfl) (hg : (O[g]?).bind (·.dst) = some s := by rfl) (hs : s < n := by decide) : (Region.wanted o' (yielded O a1.tmps) = true → o'.wp P a w (fun a' w' => a' = putT a t' ∧ M w') Q) ∧ (Region.wanted o' (yielded O a1.tmps) = false → B) := by
  cases ho; cases hT; exact ⟨fun _ => h, fun k => by rw [w_yes E hgd hg hs hv] at k; cases k⟩
theorem y2_ {n g s : Nat} {b : Bool} {L : List (Nat × Value)} {d : Nat} {A N : Prop} (ho : (some o : Option Oper) = some o') (hT : (some (some (d, undef)) : Option (Option (Nat × Value))) = some t') (E : EnvD ds n L a1) (hv : a1.eval (.tmp s) = .bool (!b)) (h : N) (hgd : o.guard = some (g, b) := by rfl) (hg : (O[g]?).bind (·.dst) = some s := by rfl) (hs : s < n := by decide) : (Region.wanted o' (yielded O a1.tmps) = true → A) ∧ (Region.wanted o' (yielded O a1.tmps) = false → (∀ x, t' = some x → x.2 = undef) ∧ N) := by
  cases ho; cases hT; exact ⟨fun k => (by rw [wanted_some hgd, yield_eq hg (by rw [E.size]; exact hs), hv] at k; cases b <;> cases k), fun _ => ⟨fun x hx => by cases hx; rfl, h⟩⟩
theorem y3_ {n g s : Nat} {b : Bool} {L : List (Nat × Value)} {d : Nat} {A N : Prop} (ho : (some o : Option Oper) = some o') (hT : (some (some (d, undef)) : Option (Option (Nat × Value))) = some t') (E : EnvD ds n L a1) (hv : a1.eval (.tmp s) = undef) (h : N) (hgd : o.guard = some (g, b) := by rfl) (hg : (O[g]?).bind (·.dst) = some s := by rfl) (hs : s < n := by decide) : (Region.wanted o' (yielded O a1.tmps) = true → A) ∧ (Region.wanted o' (yielded O a1.tmps) = false → (∀ x, t' = some x → x.2 = undef) ∧ N) := by
  cases ho; cases hT; exact ⟨fun k => (by rw [wanted_some hgd, yield_eq hg (by rw [E.size]; exact hs), hv] at k; cases k), fun _ => ⟨fun x hx => by cases hx; rfl, h⟩⟩
end
end Go.Pl
/- A drawn region with guarded operations, whose values hang on letters that are fixed on the way (a block that an operation makes). -/
set_option linter.unusedVariables false
set_option linter.unusedSimpArgs false
namespace Go.Pl
open Go.RowKit
variable {ds : List Deferred} {P : Program} {ops : Array Oper} {Q : Exit → Act → World → Prop}
/-- What an operation does in such a region: the letters may be fixed anew, what was done keeps its values. -/
def StepX {G : Type} (T : G → List (Option (Nat × Value))) (M : G → (Nat → Bool) → World → Prop) (i : Nat) (γ : G) (lst : Nat → Bool) (a a' : Act) (w' : World) : Prop :=
  ∃ γ' t, (T γ')[i]? = some t ∧ a' = putT a t ∧ (∀ j, lst j = true → (T γ')[j]? = (T γ)[j]?) ∧ M γ' (fun j => j == i || lst j) w'
/-- Beside the table: slots with an old value as long as the operation that writes them is to come. -/
def tableOKu (ops : Array Oper) (n : Nat) (base : List (Nat × Value)) (U : List (Nat × Value × Nat)) (T : List (Option (Nat × Value))) : Bool :=
  tableOKg ops n base T && U.all fun x => (List.range T.length).all fun j => j == x.2.2 || (match T[j]? with | some (some y) => y.1 != x.1 | _ => true)
theorem tableOKu_g {n : Nat} {base : List (Nat × Value)} {U : List (Nat × Value × Nat)} {T : List (Option (Nat × Value))} (h : tableOKu ops n base U T = true) : tableOKg ops n base T = true := by
  unfold tableOKu at h; rw [Bool.and_eq_true] at h; exact h.1
theorem tableOKu_u {n : Nat} {base : List (Nat × Value)} {U : List (Nat × Value × Nat)} {T : List (Option (Nat × Value))} (h : tableOKu ops n base U T = true) {x : Nat × Value × Nat} (hx : x ∈ U) {j : Nat} {y : Nat × Value} (hj : T[j]? = some (some y)) (hne : j ≠ x.2.2) : x.1 ≠ y.1 := by
  unfold tableOKu at h; rw [Bool.and_eq_true] at h
  have h2 := List.all_eq_true.1 (List.all_eq_true.1 h.2 x hx) j (by simpa using (List.getElem?_eq_some_iff.1 hj).1)
  have e' : (j == x.2.2) = false := by simpa using hne
  rw [hj, e', Bool.false_or] at h2
  intro e; rw [e] at h2; simp at h2
structure RInvU (ds : List Deferred) (ops : Array Oper) (n : Nat) (base : List (Nat × Value)) (U : List (Nat × Value × Nat)) (T : List (Option (Nat × Value))) (M : (Nat → Bool) → World → Prop) (listed : Array Bool) (a : Act) (w : World) : Prop where
  inv : RInv ds n base T M listed a w
  old : ∀ x ∈ U, listed.getD x.2.2 false = false → a.eval (.tmp x.1) = x.2.1
  cl : ∀ j k, depOn ops j k = true → listed.getD j false = true → listed.getD k false = true
theorem wpAny_invx {G : Type} {n : Nat} {base : List (Nat × Value)} {U : List (Nat × Value × Nat)} {T : G → List (Option (Nat × Value))} {M : G → (Nat → Bool) → World → Prop} (hord : ordered ops = true) (hT : ∀ γ, tableOKu ops n base U (T γ) = true)
    (step : ∀ (i : Nat) (o : Oper) (γ : G) (lst : Nat → Bool) (a : Act) (w : World), ops[i]? = some o → lst i = false → EnvD ds n base a → (∀ (j : Nat) (x : Nat × Value), depOn ops i j = true → (T γ)[j]? = some (some x) → a.eval (.tmp x.1) = x.2) → (∀ j, depOn ops i j = true → lst j = true) → (∀ j k, depOn ops j k = true → lst j = true → lst k = true) → (∀ x ∈ U, depOn ops x.2.2 i = true → a.eval (.tmp x.1) = x.2.1) → M γ lst w →
      (Region.wanted o (yielded ops a.tmps) = true → o.wp P a w (StepX T M i γ lst a) Q) ∧ (Region.wanted o (yielded ops a.tmps) = false → (∀ x, (T γ)[i]? = some (some x) → x.2 = undef) ∧ M γ (fun j => j == i || lst j) w))
    (hend : ∀ γ a w, EnvD ds n base a → (∀ (j : Nat) (x : Nat × Value), (T γ)[j]? = some (some x) → a.eval (.tmp x.1) = x.2) → M γ (fun j => decide (j < ops.size)) w → Q .normal a w) :
    ∀ (fuel : Nat) (γ : G) (listed : Array Bool) (a : Act) (w : World), listed.size = ops.size → (listed.toList.filter (!·)).length ≤ fuel → RInvU ds ops n base U (T γ) (M γ) listed a w → wpAny P .any ops Q fuel listed a w := by
  have hfin : ∀ (γ : G) (listed : Array Bool) (a : Act) (w : World), listed.size = ops.size → Region.ready .any ops listed = [] → RInvU ds ops n base U (T γ) (M γ) listed a w → Q .normal a w := by
    intro γ listed a w hs hr h
    have hall := all_listed hord hs hr
    have hlen : (T γ).length = ops.size := by
      have hT := tableOKu_g (hT γ)
      unfold tableOKg at hT; simp only [Bool.and_eq_true, beq_iff_eq] at hT; exact hT.1
    refine hend γ a w h.inv.env (fun j x hj => h.inv.vals j x hj (hall j (by rw [← hlen]; exact (List.getElem?_eq_some_iff.1 hj).1))) ?_
    have e : (fun j => listed.getD j false) = fun j => decide (j < ops.size) := by
      funext j
      by_cases hj : j < ops.size
      · rw [hall j hj, decide_eq_true hj]
      · rw [decide_eq_false hj, Array.getD_eq_getD_getElem?, Array.getElem?_eq_none (by omega)]; rfl
    rw [← e]; exact h.inv.mem
  intro fuel
  induction fuel with
  | zero =>
    intro γ listed a w hs hc h
    have hr : Region.ready .any ops listed = [] := by
      apply List.eq_nil_iff_forall_not_mem.2
      intro i hi
      obtain ⟨h1, h2, _⟩ := ready_iff.1 hi
      have hl : i < listed.size := by omega
      have : listed[i]? = some false := by
        rw [Array.getD_eq_getD_getElem?, Array.getElem?_eq_getElem hl] at h2
        rw [Array.getElem?_eq_getElem hl]; simpa using h2
      have hm : false ∈ listed.toList.filter (!·) := by
        rw [List.mem_filter]; exact ⟨Array.mem_toList_iff.2 (Array.mem_of_getElem? this), rfl⟩
      have := List.length_pos_of_mem hm
      omega
    exact ⟨hr, hfin γ listed a w hs hr h⟩
  | succ fuel ih =>
    intro γ listed a w hs hc h
    refine ⟨fun hr => hfin γ listed a w hs hr h, fun i hi => ?_⟩
    obtain ⟨h1, h2, o, ho, hdep⟩ := ready_iff.1 hi
    have hlenT : ∀ γ, (T γ).length = ops.size := fun γ => by
      have hT' := tableOKu_g (hT γ)
      unfold tableOKg at hT'
      simp only [Bool.and_eq_true, beq_iff_eq] at hT'
      exact hT'.1
    have hl : i < listed.size := by omega
    have hf : listed.getD i false = false := by
      rw [Array.getD_eq_getD_getElem?, Array.getElem?_eq_getElem hl] at h2 ⊢
      simpa using h2
    have hf' : listed[i]? = some false := by
      rw [Array.getD_eq_getD_getElem?, Array.getElem?_eq_getElem hl] at hf
      rw [Array.getElem?_eq_getElem hl]; simpa using hf
    have hdl : ∀ j, depOn ops i j = true → listed.getD j false = true := by
      intro j hj
      unfold depOn at hj
      rw [ho] at hj
      simp only [Option.map_some, Option.getD_some, List.any_eq_true, Array.mem_toList_iff] at hj
      obtain ⟨e, he, hb⟩ := hj
      simp only [Bool.and_eq_true, beq_iff_eq] at hb
      rw [← hb.2]; exact hdep e he hb.1
    have hstep := step i o γ (fun j => listed.getD j false) a w ho hf h.inv.env (fun j x hj hx => h.inv.vals j x hx (hdl j hj)) hdl h.cl (fun x hx hk => h.old x hx (by
      cases hkl : listed.getD x.2.2 false with
      | false => rfl
      | true => have := h.cl _ _ hk hkl; rw [hf] at this; cases this)) h.inv.mem
    unfold wpOp
    simp only [ho]
    have hgo : ∀ a' w', StepX T M i γ (fun j => listed.getD j false) a a' w' → wpAny P .any ops Q fuel (listed.setIfInBounds i true) a' w' := ?_
    · cases hw : Region.wanted o (yielded ops a.tmps) with
      | true =>
        simp only [if_true]
        left
        exact Oper.wp_mono hgo (hstep.1 hw)
      | false =>
        obtain ⟨h3, h4⟩ := hstep.2 hw
        obtain ⟨t, ht⟩ : ∃ t, (T γ)[i]? = some t := ⟨_, List.getElem?_eq_getElem (by rw [hlenT]; exact h1)⟩
        have hT' := tableOKu_g (hT γ)
        unfold tableOKg at hT'
        simp only [Bool.and_eq_true, beq_iff_eq] at hT'
        obtain ⟨hlen, hall⟩ := hT'
        have hi' := List.all_eq_true.1 hall i (by simpa using h1)
        rw [ho, ht] at hi'
        simp only [Option.bind_some, Option.map_some, Option.getD_some, Bool.and_eq_true, beq_iff_eq] at hi'
        obtain ⟨hd, hx⟩ := hi'
        refine hgo _ _ ⟨γ, t, ht, ?_, fun _ _ => rfl, h4⟩
        cases t with
        | none => rw [show o.dst = none from hd]; rfl
        | some x => rw [show o.dst = some x.1 from hd, ← h3 x ht]; rfl
    rintro a' w' ⟨γ', t, ht, rfl, hkeep, hM⟩
    have hT' := tableOKu_g (hT γ')
    unfold tableOKg at hT'
    simp only [Bool.and_eq_true, beq_iff_eq] at hT'
    obtain ⟨hlen, hall⟩ := hT'
    have hi' := List.all_eq_true.1 hall i (by simpa using h1)
    rw [ho, ht] at hi'
    simp only [Option.bind_some, Option.map_some, Option.getD_some, Bool.and_eq_true, beq_iff_eq] at hi'
    obtain ⟨hd, hx⟩ := hi'
    have hset : ∀ j, (listed.setIfInBounds i true).getD j false = (j == i || listed.getD j false) := by
      intro j
      rw [Array.getD_eq_getD_getElem?, Array.getElem?_setIfInBounds]
      by_cases e : i = j
      · subst e; simp [hl]
      · have e' : (j == i) = false := by simpa using Ne.symm e
        simp [e, e', Array.getD_eq_getD_getElem?]
    refine ih γ' _ _ _ (by simpa using hs) ?_ ⟨⟨?_, ?_, ?_⟩, ?_, ?_⟩
    · have := count_set (l := listed.toList) (i := i) (by simpa using hf')
      simp only [Array.toList_setIfInBounds]
      omega
    · cases t with
      | none => exact h.inv.env
      | some x =>
        simp only [Bool.and_eq_true, decide_eq_true_eq, Bool.not_eq_true'] at hx
        have hp := h.inv.env.put (v := x.2) hx.1.1 hx.1.2
        exact ⟨hp.size, fun y hy => hp.at_ y (List.mem_cons_of_mem _ hy), hp.df⟩
    · intro j x hj hlj
      rw [hset] at hlj
      have hltj := (List.getElem?_eq_some_iff.1 hj).1
      cases t with
      | none =>
        by_cases e : j = i
        · subst e; rw [ht] at hj; simp at hj
        · have e' : (j == i) = false := by simpa using e
          rw [e', Bool.false_or] at hlj
          rw [hkeep j hlj] at hj; exact h.inv.vals j x hj hlj
      | some y =>
        simp only [Bool.and_eq_true, decide_eq_true_eq, Bool.not_eq_true'] at hx
        show (a.put (some y.1) y.2).eval (.tmp x.1) = x.2
        rw [eval_put (by rw [h.inv.env.size]; exact hx.1.1)]
        by_cases e : j = i
        · subst e; rw [ht] at hj; simp at hj; subst hj; rw [if_pos rfl]
        · have e' : (j == i) = false := by simpa using e
          rw [e', Bool.false_or] at hlj
          have h5 := List.all_eq_true.1 hx.2 j (by simpa using hltj)
          rw [hj, e', Bool.false_or] at h5
          have h6 : x.1 ≠ y.1 := by simpa using h5
          rw [if_neg h6]
          rw [hkeep j hlj] at hj; exact h.inv.vals j x hj hlj
    · have e : (fun j => (listed.setIfInBounds i true).getD j false) = fun j => j == i || listed.getD j false := funext hset
      rw [e]; exact hM
    · intro x hx2 hlx
      rw [hset] at hlx
      have hne : i ≠ x.2.2 := by
        intro e; rw [← e] at hlx; simp at hlx
      have hlo : listed.getD x.2.2 false = false := by
        have e' : (x.2.2 == i) = false := by simpa using Ne.symm hne
        rw [e', Bool.false_or] at hlx; exact hlx
      cases t with
      | none => exact h.old x hx2 hlo
      | some y =>
        have hsl := tableOKu_u (hT γ') hx2 ht hne
        simp only [Bool.and_eq_true, decide_eq_true_eq, Bool.not_eq_true'] at hx
        show (a.put (some y.1) y.2).eval (.tmp x.1) = x.2.1
        rw [eval_put (by rw [h.inv.env.size]; exact hx.1.1), if_neg hsl]
        exact h.old x hx2 hlo
    · intro j k hjk hj
      rw [hset] at hj ⊢
      by_cases e : j = i
      · subst e; rw [hdl k hjk]; simp
      · have e' : (j == i) = false := by simpa using e
        rw [e', Bool.false_or] at hj
        rw [h.cl j k hjk hj]; simp
theorem wp_region_invx {G : Type} (γ0 : G) {id n : Nat} {base : List (Nat × Value)} {U : List (Nat × Value × Nat)} {T : G → List (Option (Nat × Value))} {M : G → (Nat → Bool) → World → Prop} {a : Act} {w : World} (hm : P.follows .mixedOrders = true) (hord : ordered ops = true) (hT : ∀ γ, tableOKu ops n base U (T γ) = true)
    (E : EnvD ds n base a) (hU : ∀ x ∈ U, a.eval (.tmp x.1) = x.2.1) (hM : M γ0 (fun _ => false) w.drew)
    (step : ∀ (i : Nat) (o : Oper) (γ : G) (lst : Nat → Bool) (a : Act) (w : World), ops[i]? = some o → lst i = false → EnvD ds n base a → (∀ (j : Nat) (x : Nat × Value), depOn ops i j = true → (T γ)[j]? = some (some x) → a.eval (.tmp x.1) = x.2) → (∀ j, depOn ops i j = true → lst j = true) → (∀ j k, depOn ops j k = true → lst j = true → lst k = true) → (∀ x ∈ U, depOn ops x.2.2 i = true → a.eval (.tmp x.1) = x.2.1) → M γ lst w →
      (Region.wanted o (yielded ops a.tmps) = true → o.wp P a w (StepX T M i γ lst a) Q) ∧ (Region.wanted o (yielded ops a.tmps) = false → (∀ x, (T γ)[i]? = some (some x) → x.2 = undef) ∧ M γ (fun j => j == i || lst j) w))
    (hend : ∀ γ a w, EnvD ds n base a → (∀ (j : Nat) (x : Nat × Value), (T γ)[j]? = some (some x) → a.eval (.tmp x.1) = x.2) → M γ (fun j => decide (j < ops.size)) w → Q .normal a w) :
    (Code.region id ops true).wp P Q a w := by
  refine wp_region_any hm (wpAny_invx hord hT step hend _ γ0 _ _ _ (by simp) ?_ ⟨⟨E, ?_, ?_⟩, fun x hx _ => hU x hx, ?_⟩)
  · exact Nat.le_trans (List.length_filter_le _ _) (by simp)
  · intro j x hj hlj
    rw [Array.getD_eq_getD_getElem?, Array.getElem?_replicate] at hlj
    split at hlj <;> simp at hlj
  · have e : (fun j => (Array.replicate ops.size false).getD j false) = fun _ => false := by
      funext j
      rw [Array.getD_eq_getD_getElem?, Array.getElem?_replicate]
      split <;> rfl
    rw [e]; exact hM
  · intro j k _ hlj
    rw [Array.getD_eq_getD_getElem?, Array.getElem?_replicate] at hlj
    split at hlj <;> simp at hlj
section
variable {G : Type} {T : G → List (Option (Nat × Value))} {M : G → (Nat → Bool) → World → Prop} {i : Nat} {γ : G} {lst : Nat → Bool} {o : Oper} {a : Act} {w w' : World} {d : Nat} {v : Value}
theorem valx (hT : (T γ)[i]? = some (some (d, v))) (hr : (execOp a.eval o).run P w = .ok (.value v) w) (hd : o.dst = some d) (hM : M γ (fun j => j == i || lst j) w) : o.wp P a w (StepX T M i γ lst a) Q := by
  unfold Oper.wp; rw [hr, Oper.upon_value, hd]; exact ⟨γ, _, hT, rfl, fun _ _ => rfl, hM⟩
theorem valxw (γ' : G) (hT : (T γ')[i]? = some (some (d, v))) (hr : (execOp a.eval o).run P w = .ok (.value v) w') (hd : o.dst = some d) (hk : ∀ j, lst j = true → (T γ')[j]? = (T γ)[j]?) (hM : M γ' (fun j => j == i || lst j) w') : o.wp P a w (StepX T M i γ lst a) Q := by
  unfold Oper.wp; rw [hr, Oper.upon_value, hd]; exact ⟨γ', _, hT, rfl, hk, hM⟩
theorem storex (hT : (T γ)[i]? = some none) (hr : (execOp a.eval o).run P w = .ok .skip w') (hd : o.dst = none) (hM : M γ (fun j => j == i || lst j) w') : o.wp P a w (StepX T M i γ lst a) Q := by
  unfold Oper.wp; rw [hr, Oper.upon_skip, hd]; exact ⟨γ, _, hT, rfl, fun _ _ => rfl, hM⟩
theorem callx {f : FuncId} {args : Array Value} {F : World → Prop} (hT : (T γ)[i]? = some (some (d, v))) (hr : (execOp a.eval o).run P w = .ok (.enter f args) w) (hc : Calls P f args w fun e w' => e = .returned v ∧ F w') (hd : o.dst = some d) (hM : ∀ w', F w' → M γ (fun j => j == i || lst j) w') : o.wp P a w (StepX T M i γ lst a) Q := by
  unfold Oper.wp; rw [hr, Oper.upon_enter]
  refine hc.mono ?_
  rintro e w' ⟨rfl, hF⟩
  show StepX T M i γ lst a _ _
  rw [hd]; exact ⟨γ, _, hT, rfl, fun _ _ => rfl, hM w' hF⟩
theorem callxw {f : FuncId} {args : Array Value} {F : Value → World → Prop} (hr : (execOp a.eval o).run P w = .ok (.enter f args) w) (hc : Calls P f args w fun e w' => ∃ v, e = .returned v ∧ F v w') (hd : o.dst = some d) (hM : ∀ v w', F v w' → ∃ γ', (T γ')[i]? = some (some (d, v)) ∧ (∀ j, lst j = true → (T γ')[j]? = (T γ)[j]?) ∧ M γ' (fun j => j == i || lst j) w') : o.wp P a w (StepX T M i γ lst a) Q := by
  unfold Oper.wp; rw [hr, Oper.upon_enter]
  refine hc.mono ?_
  rintro e w' ⟨v, rfl, hF⟩
  obtain ⟨γ', h1, h2, h3⟩ := hM v w' hF
  show StepX T M i γ lst a _ _
  rw [hd]; exact ⟨γ', _, h1, rfl, h2, h3⟩
end
section
variable {o o' : Oper} {a a1 : Act} {w : World} {O : Array Oper} {K : Act → World → Prop} {A B N : Prop}
theorem z0_ {f : Nat → Option Bool} (ho : (some o : Option Oper) = some o') (h : o.wp P a w K Q) (hg : o.guard = none := by rfl) : (Region.wanted o' f = true → o'.wp P a w K Q) ∧ (Region.wanted o' f = false → B) := by
  cases ho; exact ⟨fun _ => h, fun k => by rw [wanted_none hg] at k; cases k⟩
theorem z1_ {n g s : Nat} {b : Bool} {L : List (Nat × Value)} (ho : (some o : Option Oper) = some o') (E : EnvD ds n L a1) (hv : a1.eval (.tmp s) = .bool b) (h : o.wp P a w K Q) (hgd : o.guard = some (g, b) := by rfl) (hg : (O[g]?).bind (·.dst) = some s := by rfl) (hs : s < n := by decide) : (Region.wanted o' (yielded O a1.tmps) = true → o'.wp P a w K Q) ∧ (Region.wanted o' (yielded O a1.tmps) = false → B) := by
  cases ho; exact ⟨fun _ => h, fun k => by rw [w_yes E hgd hg hs hv] at k; cases k⟩
theorem z2_ {n g s : Nat} {b : Bool} {L : List (Nat × Value)} (ho : (some o : Option Oper) = some o') (E : EnvD ds n L a1) (hv : a1.eval (.tmp s) = .bool (!b)) (hB : B) (h : N) (hgd : o.guard = some (g, b) := by rfl) (hg : (O[g]?).bind (·.dst) = some s := by rfl) (hs : s < n := by decide) : (Region.wanted o' (yielded O a1.tmps) = true → A) ∧ (Region.wanted o' (yielded O a1.tmps) = false → B ∧ N) := by
  cases ho; exact ⟨fun k => (by rw [wanted_some hgd, yield_eq hg (by rw [E.size]; exact hs), hv] at k; cases b <;> cases k), fun _ => ⟨hB, h⟩⟩
theorem z3_ {n g s : Nat} {b : Bool} {L : List (Nat × Value)} (ho : (some o : Option Oper) = some o') (E : EnvD ds n L a1) (hv : a1.eval (.tmp s) = undef) (hB : B) (h : N) (hgd : o.guard = some (g, b) := by rfl) (hg : (O[g]?).bind (·.dst) = some s := by rfl) (hs : s < n := by decide) : (Region.wanted o' (yielded O a1.tmps) = true → A) ∧ (Region.wanted o' (yielded O a1.tmps) = false → B ∧ N) := by
  cases ho; exact ⟨fun k => (by rw [wanted_some hgd, yield_eq hg (by rw [E.size]; exact hs), hv] at k; cases k), fun _ => ⟨hB, h⟩⟩
end
end Go.Pl
/- What printed walks use, over whatever program: steps, rows of one's own. -/
set_option linter.unusedVariables false
set_option linter.unusedSimpArgs false
namespace Go.Pl
open Go.RowKit
variable {ds : List Deferred}
theorem wp_start1 {P : Program} {f : FuncId} {fn : Func} {c : Code} {R : Ending → World → Prop} {n : Nat} {w : World} {v0 : Value} (hf : P.funcs[f]? = some fn) (hb : fn.body = some c) (hn : fn.ntmps = n) (h2 : 1 ≤ n) (k : ∀ a, Env n [(0, v0)] a → c.wp P (bodyPost P fn R) a w) : Calls P f #[v0] w R := by
  refine calls_of_wp hf hb (k _ ⟨?_, ?_, rfl⟩)
  · simp [hn]; omega
  · intro x hx
    simp only [List.mem_cons, List.not_mem_nil, or_false] at hx
    subst hx
    show (#[v0] ++ Array.replicate (fn.ntmps - 1) undef).getD 0 undef = v0
    rw [Array.getD_eq_getD_getElem?, Array.getElem?_append_left (by simp)]; rfl
theorem wp_start3 {P : Program} {f : FuncId} {fn : Func} {c : Code} {R : Ending → World → Prop} {n : Nat} {w : World} {v0 v1 v2 : Value} (hf : P.funcs[f]? = some fn) (hb : fn.body = some c) (hn : fn.ntmps = n) (h2 : 3 ≤ n) (k : ∀ a, Env n [(0, v0), (1, v1), (2, v2)] a → c.wp P (bodyPost P fn R) a w) : Calls P f #[v0, v1, v2] w R := by
  refine calls_of_wp hf hb (k _ ⟨?_, ?_, rfl⟩)
  · simp [hn]; omega
  · intro x hx
    simp only [List.mem_cons, List.not_mem_nil, or_false] at hx
    rcases hx with rfl | rfl | rfl
    · show (#[v0, v1, v2] ++ Array.replicate (fn.ntmps - 3) undef).getD 0 undef = v0
      rw [Array.getD_eq_getD_getElem?, Array.getElem?_append_left (by simp)]; rfl
    · show (#[v0, v1, v2] ++ Array.replicate (fn.ntmps - 3) undef).getD 1 undef = v1
      rw [Array.getD_eq_getD_getElem?, Array.getElem?_append_left (by simp)]; rfl
    · show (#[v0, v1, v2] ++ Array.replicate (fn.ntmps - 3) undef).getD 2 undef = v2
      rw [Array.getD_eq_getD_getElem?, Array.getElem?_append_left (by simp)]; rfl
section
variable {P : Program} {o : Oper} {w : World} {ρ : Operand → Value} {x y : Operand} {m n : Int} {t t2 : TypeId} {k : IntKind}
theorem run_ineq (hx : ρ x = .int k m) (hy : ρ y = .int k n) (ht : P.underlying t = some (.int k)) (ho : o.op = .binOp .neq t x y t2) : (execOp ρ o).run P w = .ok (.value (.bool (m != n))) w := by
  simp [execOp, ho, hx, hy, go_sem, ht]
end
theorem run_igeq {P : Program} {o : Oper} {w : World} {ρ : Operand → Value} {t t2 : TypeId} {k : IntKind} {x y : Operand} {m n : Int} (hx : ρ x = .int k m) (hy : ρ y = .int k n) (ht : P.underlying t = some (.int k)) (ho : o.op = .binOp .geq t x y t2) : (execOp ρ o).run P w = .ok (.value (.bool (decide (n ≤ m)))) w := by
  simp [execOp, ho, hx, hy, go_sem, ht]
section
variable {P : Program} {o : Oper} {w : World} {ρ : Operand → Value}
theorem run_ext0 {x : Operand} {v u : Value} (ho : o.op = .extract x 0) (hx : ρ x = .tuple #[v, u]) : (execOp ρ o).run P w = .ok (.value v) w := by simp [execOp, ho, hx, go_sem]
theorem run_ext1 {x : Operand} {v u : Value} (ho : o.op = .extract x 1) (hx : ρ x = .tuple #[v, u]) : (execOp ρ o).run P w = .ok (.value u) w := by simp [execOp, ho, hx, go_sem]
end
section
variable {P : Program} {O : Array Oper} {o : Oper} {a : Act} {w : World} {n d g s : Nat} {b : Bool} {L : List (Nat × Value)} {v : Value} {ρ : Operand → Value}
theorem EnvD.add (E : EnvD ds n L a) (h : a.eval (.tmp s) = v) : EnvD ds n ((s, v) :: L) a := ⟨E.size, fun x hx => by
  rcases List.mem_cons.1 hx with rfl | hx
  · exact h
  · exact E.at_ x hx, E.df⟩
theorem w_no (E : EnvD ds n L a) (hgd : o.guard = some (g, b)) (hg : (O[g]?).bind (·.dst) = some s) (hs : s < n) (hv : a.eval (.tmp s) = .bool (!b)) : Region.wanted o (yielded O a.tmps) = false := by
  rw [wanted_some hgd, yield_eq hg (by rw [E.size]; exact hs), hv]; cases b <;> rfl
theorem w_nou (E : EnvD ds n L a) (hgd : o.guard = some (g, b)) (hg : (O[g]?).bind (·.dst) = some s) (hs : s < n) (hv : a.eval (.tmp s) = undef) : Region.wanted o (yielded O a.tmps) = false := by
  rw [wanted_some hgd, yield_eq hg (by rw [E.size]; exact hs), hv]; cases b <;> rfl
theorem run_call0 {f : FuncId} {ts : Array TypeId} (eg : ∀ args w, (callFunc f args).run P w = .ok (.enter f args) w) (ho : o.op = .call ⟨.value (.func f), #[], ts⟩) (hf : ρ (.func f) = .func (.func f) #[] #[]) : (execOp ρ o).run P w = .ok (.enter f #[]) w := by
  simp [execOp, ho, hf, eg, resolve, Deferred.ofValue, invoke, go_sem]
end
theorem env_callv {P : Program} {O : Array Oper} {Q : Exit → Act → World → Prop} {rest : List Oper} {o : Oper} {a : Act} {w : World} {n d : Nat} {L : List (Nat × Value)} {f : FuncId} {args : Array Value} {R : Value → World → Prop} (E : EnvD ds n L a) (hd : o.dst = some d) (hn : d < n) (hf : (L.map (·.1)).contains d = false) (hw : Region.wanted o (yielded O a.tmps) = true) (hr : (execOp a.eval o).run P w = .ok (.enter f args) w)
    (hc : Calls P f args w fun e w' => ∃ v, e = .returned v ∧ R v w') (k : ∀ a' w' v, R v w' → EnvD ds n ((d, v) :: L) a' → wpList P O Q rest a' w') : wpList P O Q (o :: rest) a w := by
  refine st_call (R := R) hw hr hc ?_
  intro v w' hR
  rw [hd]
  exact k _ w' v hR (E.put hn hf)
theorem flat_len {α : Type} {f : α → List Value} {c : Nat} (hf : ∀ x, (f x).length = c) (l : List α) : (l.flatMap f).length = l.length * c := by
  induction l with
  | nil => simp
  | cons y l ih => rw [List.flatMap_cons, List.length_append, ih, hf, List.length_cons, Nat.succ_mul, Nat.add_comm]
theorem flat_at {α : Type} {f : α → List Value} {c : Nat} (hf : ∀ x, (f x).length = c) (l : List α) : ∀ (i : Nat) (x : α), l[i]? = some x → ∀ j, j < c → (l.flatMap f)[i * c + j]? = (f x)[j]? := by
  induction l with
  | nil => intro i x h; simp at h
  | cons y l ih =>
    intro i x h j hj
    rw [List.flatMap_cons]
    cases i with
    | zero => simp at h; subst h; rw [Nat.zero_mul, Nat.zero_add, List.getElem?_append_left (by rw [hf]; exact hj)]
    | succ i =>
      simp at h
      rw [List.getElem?_append_right (by rw [hf, Nat.succ_mul]; omega), hf, show (i + 1) * c + j - c = i * c + j by rw [Nat.succ_mul]; omega]
      exact ih i x h j hj
section
variable {P : Program} {o : Oper} {w : World} {ρ : Operand → Value} {x y : Operand} {t : TypeId} {m n : Int}
theorem run_iadd (ht : P.underlying t = some (.int .i64)) (hx : ρ x = .int .i64 m) (hy : ρ y = .int .i64 n) (h1 : -9223372036854775808 ≤ m + n) (h2 : m + n ≤ 9223372036854775807) (ho : o.op = .binOp .add t x y t) : (execOp ρ o).run P w = .ok (.value (.int .i64 (m + n))) w := by
  simp [execOp, ho, hx, hy, go_sem, ht, IntWalk.i64_in _ ⟨h1, h2⟩]
theorem run_isub (ht : P.underlying t = some (.int .i64)) (hx : ρ x = .int .i64 m) (hy : ρ y = .int .i64 n) (h1 : -9223372036854775808 ≤ m - n) (h2 : m - n ≤ 9223372036854775807) (ho : o.op = .binOp .sub t x y t) : (execOp ρ o).run P w = .ok (.value (.int .i64 (m - n))) w := by
  simp [execOp, ho, hx, hy, go_sem, ht, IntWalk.i64_in _ ⟨h1, h2⟩]
theorem run_imul (ht : P.underlying t = some (.int .i64)) (hx : ρ x = .int .i64 m) (hy : ρ y = .int .i64 n) (h1 : -9223372036854775808 ≤ m * n) (h2 : m * n ≤ 9223372036854775807) (ho : o.op = .binOp .mul t x y t) : (execOp ρ o).run P w = .ok (.value (.int .i64 (m * n))) w := by
  simp [execOp, ho, hx, hy, go_sem, ht, IntWalk.i64_in _ ⟨h1, h2⟩]
theorem beq_str (a b : ByteArray) : (a.toList == b.toList) = decide (a = b) := by
  rw [Bool.eq_iff_iff, beq_iff_eq, decide_eq_true_eq]
  refine ⟨fun h => ?_, fun h => by rw [h]⟩
  rw [ByteArray.toList_eq, ByteArray.toList_eq] at h
  exact ByteArray.ext (Array.toList_inj.1 h)
theorem run_seql {s u : ByteArray} (hx : ρ x = .string s) (hy : ρ y = .string u) (ho : o.op = .binOp .eql t x y t) : (execOp ρ o).run P w = .ok (.value (.bool (decide (s = u)))) w := by
  have e := beq_str s u
  simp [execOp, ho, hx, hy, go_sem, e]
theorem run_sneq {s u : ByteArray} (hx : ρ x = .string s) (hy : ρ y = .string u) (ho : o.op = .binOp .neq t x y t) : (execOp ρ o).run P w = .ok (.value (.bool (!decide (s = u)))) w := by
  have e := beq_str s u
  simp [execOp, ho, hx, hy, go_sem, e]
theorem run_nilchk {a : Addr} (ho : o.op = .nilCheck x) (hx : ρ x = .pointer (some a)) : (execOp ρ o).run P w = .ok (.value (.pointer (some a))) w := by
  simp [execOp, ho, hx, go_sem]
theorem bx {w : World} {b : Nat} {cs : Array Value} {T : TypeId} (h : w.heap[b]? = some (.cells cs T (0, 0))) (k : Nat) {v : Value} (hv : cs[k]? = some v) : w.cell? ⟨b, k, none⟩ = some v := by rw [cell_of_blk h]; exact hv
end
section
variable {α : Type} (f : α → List Value) (c : Nat)
/-- v is a row of one's own, in a block from B on, that holds L. -/
def ow (E : TypeId) (w : World) (B : Nat) (v : Value) (L : List α) : Prop := w.ownsRow B E c v L.length (L.flatMap f)
/-- The slice at p holds L, in a block below G. -/
def srcAt (w : World) (G : Nat) (p : Option Addr) (L : List α) : Prop := L = [] ∨ ∃ g off, p = some ⟨g, off, none⟩ ∧ g < G ∧ ∀ i x, L[i]? = some x → w.rangeAt g (off + i * c) (f x)
variable {f c}
theorem srcAt.fr {w w' : World} {G : Nat} {p : Option Addr} {L : List α} (h : srcAt f c w G p L) {F : Nat → Prop} (hf : Fr F w w') (hF : ∀ r, r < G → ¬ F r) : srcAt f c w' G p L := by
  rcases h with h | ⟨g, off, h1, h2, h3⟩
  · exact .inl h
  · exact .inr ⟨g, off, h1, h2, fun i x hx j u hu => hf.cell (h3 i x hx j u hu) (hF g h2)⟩
theorem srcAt.mono {w : World} {G G' : Nat} {p : Option Addr} {L : List α} (h : srcAt f c w G p L) (hG : G ≤ G') : srcAt f c w G' p L := by
  rcases h with h | ⟨g, off, h1, h2, h3⟩
  · exact .inl h
  · exact .inr ⟨g, off, h1, Nat.lt_of_lt_of_le h2 hG, h3⟩
theorem srcAt.at {w : World} {G : Nat} {p : Option Addr} {L : List α} (h : srcAt f c w G p L) {i : Nat} (hi : i < L.length) : ∃ g off, p = some ⟨g, off, none⟩ ∧ g < G ∧ ∀ i x, L[i]? = some x → w.rangeAt g (off + i * c) (f x) := h.resolve_left (by rintro rfl; exact absurd hi (Nat.not_lt_zero _))
theorem srcAt.take {w : World} {G : Nat} {p : Option Addr} {L : List α} (h : srcAt f c w G p L) (n : Nat) : srcAt f c w G p (L.take n) := by
  rcases h with h | ⟨g, off, h1, h2, h3⟩
  · exact .inl (by rw [h]; simp)
  · refine .inr ⟨g, off, h1, h2, fun i x hx => h3 i x ?_⟩
    rw [List.getElem?_take] at hx
    split at hx
    · exact hx
    · cases hx
theorem ow.lt {E : TypeId} {w : World} {B : Nat} {v : Value} {L : List α} (h : ow f c E w B v L) {k : Nat} (hk : v.ownBlock = some k) : B ≤ k ∧ k < w.heap.size := by
  rcases h.2 with ⟨rfl, _⟩ | ⟨g, cap, cur, rfl, h1, h2, _⟩
  · cases hk
  · cases hk; exact ⟨h1, lt_of_blk h2⟩
theorem ow.fr {E : TypeId} {w w' : World} {B : Nat} {v : Value} {L : List α} (h : ow f c E w B v L) {F : Nat → Prop} (hf : Fr F w w') (hn : ∀ k, v.ownBlock = some k → ¬ F k) : ow f c E w' B v L := by
  refine ⟨h.1, ?_⟩
  rcases h.2 with h1 | ⟨g, cap, cur, h1, h2, h3, h4⟩
  · exact .inl h1
  · exact .inr ⟨g, cap, cur, h1, h2, hf.obj h3 (hn g (by rw [h1]; rfl)), h4⟩
theorem ow.base {E : TypeId} {w : World} {B C : Nat} {v : Value} {L : List α} (h : ow f c E w B v L) (hC : C ≤ B) : ow f c E w C v L := by
  refine ⟨h.1, ?_⟩
  rcases h.2 with h1 | ⟨g, cap, cur, h1, h2, h3⟩
  · exact .inl h1
  · exact .inr ⟨g, cap, cur, h1, Nat.le_trans hC h2, h3⟩
theorem ow.src {E : TypeId} (hf : ∀ x, (f x).length = c) {w : World} {B : Nat} {v : Value} {L : List α} (h : ow f c E w B v L) : ∃ p cap, v = .slice p L.length cap ∧ L.length ≤ cap ∧ cap ≤ 9223372036854775807 ∧ srcAt f c w w.heap.size p L ∧ (p = none → cap = 0) := by
  have h0 := h
  rcases h.2 with ⟨h1, h2⟩ | ⟨g, cap, cur, h1, hB, h3, h4, h5, h6, h7⟩
  · have hl : L = [] := List.eq_nil_of_length_eq_zero h2
    subst hl
    exact ⟨none, 0, h1, Nat.le_refl _, by omega, .inl rfl, fun _ => rfl⟩
  · refine ⟨_, cap, h1, h4, by unfold maxLen at h5; omega, .inr ⟨g, 0, rfl, lt_of_blk h3, fun i x hx j u hu => ?_⟩, fun h => by cases h⟩
    have hi := (List.getElem?_eq_some_iff.1 hx).1
    have hj : j < c := by rw [← hf x]; exact (List.getElem?_eq_some_iff.1 hu).1
    have := flat_at hf L i x hx j hj
    have hlt : i * c + j < L.length * c := by
      have := Nat.mul_le_mul_right c (Nat.succ_le_of_lt hi)
      rw [Nat.succ_mul] at this; omega
    rw [hu, ← h7, List.getElem?_take_of_lt hlt, Array.getElem?_toList] at this
    rw [cell_of_blk h3, Nat.zero_add]; exact this
theorem ow_nil {E : TypeId} (w : World) {B : Nat} : ow f c E w B (.slice none 0 0) ([] : List α) := World.ownsRow_nil _ _ _ _
theorem src_one {w : World} {b G : Nat} {x : α} {T : TypeId} (hb : w.heap[b]? = some (.cells (f x).toArray T (0, 0))) (hG : b < G) : srcAt f c w G (some ⟨b, 0, none⟩) [x] := .inr ⟨b, 0, rfl, hG, fun i y hy j u hu => by
  match i, hy with
  | 0, hy =>
    simp at hy; subst hy
    rw [cell_of_blk hb]; simpa using hu
  | i + 1, hy => simp at hy⟩
end
section
variable {P : Program} {O : Array Oper} {Q : Exit → Act → World → Prop} {rest : List Oper} {o : Oper} {a : Act} {w : World} {n d : Nat} {L : List (Nat × Value)} {x y : Operand} {b : Nat}
theorem env_appR {α : Type} {f : α → List Value} {c : Nat} {E T : TypeId} {bytes : Nat} {z : Value} (hf : ∀ x, (f x).length = c) (hc : 0 < c) (h1 : ∀ x, ∀ u ∈ f x, u.oneCell' = true) (hT : P.underlying T = some (.slice E)) {i : TypeInfo} (hi : P.info? E = some i) (hz : i.zero = some z) (hs : i.size = c) (hb : i.bytes = bytes) (hzs : z.cells.size = c) (hby : bytes ≤ 64)
    {B G : Nat} {v : Value} {A S : List α} {p : Option Addr} {cap : Nat} (En : EnvD ds n L a) (hd : o.dst = some d) (hn : d < n) (hfr : (L.map (·.1)).contains d = false) (hg : o.guard = none) (ho : o.op = .call { callee := .builtin .append, args := #[x, y], argTypes := #[T, T] }) (hx : a.eval x = v) (hv : ow f c E w B v A) (hy : a.eval y = .slice p S.length cap) (hsrc : srcAt f c w G p S) (hcp : p = none → cap = 0) (hl : A.length + S.length ≤ 400000000) (hB : B ≤ w.heap.size)
    (k : ∀ a' w' v', ow f c E w' B v' (A ++ S) → Fr (fun k => v.ownBlock = some k) w w' → (v'.ownBlock = v.ownBlock ∨ v'.ownBlock = some w.heap.size) → EnvD ds n ((d, v') :: L) a' → wpList P O Q rest a' w') : wpList P O Q (o :: rest) a w := by
  rcases p with _ | ad
  · have hS : S = [] := by
      rcases hsrc with h | ⟨g, off, h, _⟩
      · exact h
      · cases h
    subst hS
    obtain rfl := hcp rfl
    refine wpList_append_own_none hg _ _ T ho B E i c hT hi v A.length _ hx hv hy ?_
    rw [hd]
    refine k _ w v (by rw [List.append_nil]; exact hv) (Fr.refl _ _) (.inl rfl) (En.put hn hfr)
  · refine wpList_append_own_at w hg _ _ T ho B E i z c bytes hT hi hz hs hb hzs hc v A.length _ hx hv ad S.length cap (S.flatMap f) hy (flat_len hf S) (fun j u hu => ?_) (fun u hu => ?_) (by unfold maxLen; omega) ?_ hB fun v' w' c1 c2 c3 c4 => ?_
    · have hj := (List.getElem?_eq_some_iff.1 hu).1
      rw [flat_len hf] at hj
      rcases hsrc with rfl | ⟨g, off, h2, _, h3⟩
      · simp at hj
      · obtain rfl := Option.some.inj h2
        have hm : j % c < c := Nat.mod_lt _ hc
        have hdv : j / c < S.length := (Nat.div_lt_iff_lt_mul hc).2 hj
        have e : j / c * c + j % c = j := by rw [Nat.mul_comm]; exact Nat.div_add_mod j c
        obtain ⟨s, hs⟩ : ∃ s, S[j / c]? = some s := ⟨_, List.getElem?_eq_getElem hdv⟩
        have hfl := flat_at hf S (j / c) s hs (j % c) hm
        rw [e, hu] at hfl
        have := h3 _ s hs (j % c) u hfl.symm
        rw [Addr.add_mid, ← e, ← Nat.add_assoc]; exact this
    · obtain ⟨s, _, hs⟩ := List.mem_flatMap.1 hu
      exact h1 s u hs
    · have := Nat.mul_le_mul (Nat.le_refl (A.length + S.length)) hby
      omega
    · rw [hd]
      refine k _ w' v' ?_ ((Fr.refl _ _).grown c2 fun k hk _ => hk) c4 (En.put hn hfr)
      unfold ow
      rw [List.length_append, List.flatMap_append]
      exact c1
end
theorem ret_nil {P : Program} {fn : Func} {R : Ending → World → Prop} {n : Nat} {L : List (Nat × Value)} {a : Act} {w : World} (hr : fn.results = #[]) (E : Env n L a) (h : R (.returned (.tuple #[])) w) : bodyPost P fn R .normal a w ∧ bodyPost P fn R .ret a w := by
  have : bodyPost P fn R .ret a w := by
    refine ⟨E.df, .tuple #[], ?_, h⟩
    unfold results
    rw [hr]
    simp
  exact ⟨this, this⟩
abbrev i_ := @run_nilchk
end Go.Pl
/- Spans of a week in plain Lean: valid lists, the minutes they have, the one valid list of any spans. -/
set_option linter.unusedVariables false
set_option linter.unusedSimpArgs false
namespace Go.Proofs.YtjaffpnegdcjnaaGreatDoor
abbrev Sp := Int × Int
/-- Valid behind a minute. -/
def vl : Int → List Sp → Bool
  | _, [] => true
  | lo, s :: l => decide (lo < s.1) && decide (s.1 < s.2) && decide (s.2 ≤ 10080) && vl s.2 l
/-- A minute of a list. -/
def mn (l : List Sp) (m : Int) : Prop := ∃ s ∈ l, s.1 ≤ m ∧ m < s.2
theorem mn_nil (m : Int) : ¬ mn [] m := by rintro ⟨s, h, _⟩; cases h
theorem mn_cons {s : Sp} {l : List Sp} {m : Int} : mn (s :: l) m ↔ (s.1 ≤ m ∧ m < s.2) ∨ mn l m := by
  unfold mn; simp
theorem mn_append {a b : List Sp} {m : Int} : mn (a ++ b) m ↔ mn a m ∨ mn b m := by
  unfold mn
  constructor
  · rintro ⟨s, h, k⟩
    rcases List.mem_append.1 h with h | h
    · exact .inl ⟨s, h, k⟩
    · exact .inr ⟨s, h, k⟩
  · rintro (⟨s, h, k⟩ | ⟨s, h, k⟩)
    · exact ⟨s, List.mem_append_left _ h, k⟩
    · exact ⟨s, List.mem_append_right _ h, k⟩
theorem mn_perm {a b : List Sp} (h : a.Perm b) {m : Int} : mn a m ↔ mn b m := by
  unfold mn
  constructor
  · rintro ⟨s, h1, k⟩; exact ⟨s, h.mem_iff.1 h1, k⟩
  · rintro ⟨s, h1, k⟩; exact ⟨s, h.mem_iff.2 h1, k⟩
theorem vl_cons {lo : Int} {s : Sp} {l : List Sp} : vl lo (s :: l) = true ↔ lo < s.1 ∧ s.1 < s.2 ∧ s.2 ≤ 10080 ∧ vl s.2 l = true := by
  simp [vl, and_assoc]
theorem vl_lo {lo : Int} {l : List Sp} (h : vl lo l = true) {m : Int} (hm : mn l m) : lo < m := by
  induction l generalizing lo with
  | nil => exact absurd hm (mn_nil m)
  | cons s l ih =>
    obtain ⟨h1, h2, h3, h4⟩ := vl_cons.1 h
    rcases mn_cons.1 hm with h5 | h5
    · omega
    · have := ih h4 h5; omega
theorem vl_hi {lo : Int} {l : List Sp} (h : vl lo l = true) {m : Int} (hm : mn l m) : m < 10080 := by
  induction l generalizing lo with
  | nil => exact absurd hm (mn_nil m)
  | cons s l ih =>
    obtain ⟨h1, h2, h3, h4⟩ := vl_cons.1 h
    rcases mn_cons.1 hm with h5 | h5
    · omega
    · exact ih h4 h5
/-- A valid list is known by its minutes. -/
theorem vl_uniq : ∀ {a b : List Sp} {lo lo' : Int}, vl lo a = true → vl lo' b = true → (∀ m, mn a m ↔ mn b m) → a = b
  | [], [], _, _, _, _, _ => rfl
  | [], t :: b, lo, lo', _, hb, h => by
    obtain ⟨h1, h2, h3, h4⟩ := vl_cons.1 hb
    exact absurd ((h t.1).2 (mn_cons.2 (.inl (by omega)))) (mn_nil _)
  | s :: a, [], lo, lo', ha, _, h => by
    obtain ⟨h1, h2, h3, h4⟩ := vl_cons.1 ha
    exact absurd ((h s.1).1 (mn_cons.2 (.inl (by omega)))) (mn_nil _)
  | s :: a, t :: b, lo, lo', ha, hb, h => by
    obtain ⟨h1, h2, h3, h4⟩ := vl_cons.1 ha
    obtain ⟨k1, k2, k3, k4⟩ := vl_cons.1 hb
    have e1 : s.1 = t.1 := by
      have x1 := (h s.1).1 (mn_cons.2 (.inl (by omega)))
      have x2 := (h t.1).2 (mn_cons.2 (.inl (by omega)))
      rcases mn_cons.1 x1 with x1 | x1 <;> rcases mn_cons.1 x2 with x2 | x2
      · omega
      · have := vl_lo h4 x2; omega
      · have := vl_lo k4 x1; omega
      · have := vl_lo h4 x2; have := vl_lo k4 x1; omega
    have e2 : s.2 = t.2 := by
      rcases Int.lt_trichotomy s.2 t.2 with hlt | he | hlt
      · have x := (h s.2).2 (mn_cons.2 (.inl (by omega)))
        rcases mn_cons.1 x with x | x
        · omega
        · have := vl_lo h4 x; omega
      · exact he
      · have x := (h t.2).1 (mn_cons.2 (.inl (by omega)))
        rcases mn_cons.1 x with x | x
        · omega
        · have := vl_lo k4 x; omega
    obtain rfl : s = t := Prod.ext e1 e2
    congr 1
    refine vl_uniq h4 k4 fun m => ?_
    have hm := h m
    rw [mn_cons, mn_cons] at hm
    constructor
    · intro x
      rcases hm.1 (.inr x) with y | y
      · have := vl_lo h4 x; omega
      · exact y
    · intro x
      rcases hm.2 (.inr x) with y | y
      · have := vl_lo k4 x; omega
      · exact y
/-! ### uniting -/
/-- One more span behind those that were united. -/
def ustep (out : List Sp) (s : Sp) : List Sp :=
  match out.getLast? with
  | some q => if s.1 ≤ q.2 then out.dropLast ++ [(q.1, max q.2 s.2)] else out ++ [s]
  | none => out ++ [s]
def unite (l : List Sp) : List Sp := l.foldl ustep []
/-- Valid, by the end: what comes behind begins behind the last one's end. -/
theorem vl_snoc {lo : Int} {l : List Sp} {s : Sp} : vl lo (l ++ [s]) = true ↔ vl lo l = true ∧ lo < s.1 ∧ (∀ q, l.getLast? = some q → q.2 < s.1) ∧ s.1 < s.2 ∧ s.2 ≤ 10080 := by
  induction l generalizing lo with
  | nil => simp [vl]; omega
  | cons x l ih =>
    rw [List.cons_append, vl_cons, ih, vl_cons]
    cases l with
    | nil => simp [vl]; omega
    | cons y l =>
      simp only [List.getLast?_cons_cons]
      constructor
      · rintro ⟨h1, h2, h3, h4, h5, h6, h7, h8⟩; exact ⟨⟨h1, h2, h3, h4⟩, by omega, h6, h7, h8⟩
      · rintro ⟨⟨h1, h2, h3, h4⟩, h5, h6, h7, h8⟩
        refine ⟨h1, h2, h3, h4, ?_, h6, h7, h8⟩
        obtain ⟨q, hq⟩ : ∃ q, (y :: l).getLast? = some q := ⟨_, List.getLast?_eq_some_getLast (by simp)⟩
        have := h6 q hq
        have hm : mn (y :: l) (q.2 - 1) := by
          refine ⟨q, List.mem_of_getLast? hq, ?_, by omega⟩
          have hv := h4
          have : ∀ {lo : Int} {l : List Sp}, vl lo l = true → ∀ s ∈ l, s.1 < s.2 := by
            intro lo l
            induction l generalizing lo with
            | nil => intro _ s hs; cases hs
            | cons z l ih => intro h s hs; obtain ⟨a, b, c, d⟩ := vl_cons.1 h; rcases List.mem_cons.1 hs with rfl | hs; exact b; exact ih d s hs
          have := this hv q (List.mem_of_getLast? hq); omega
        have := vl_lo h4 hm; omega
structure Un (out : List Sp) (l : List Sp) : Prop where
  ok : vl (-1) out = true
  at_ : ∀ m, mn out m ↔ mn l m
theorem ustep_un {out l : List Sp} {s : Sp} (h : Un out l) (h0 : 0 ≤ s.1) (h1 : s.1 < s.2) (h2 : s.2 ≤ 10080) (hs : ∀ q, out.getLast? = some q → q.1 ≤ s.1) : Un (ustep out s) (l ++ [s]) := by
  unfold ustep
  cases hq : out.getLast? with
  | none =>
    have : out = [] := by simpa using hq
    subst this
    simp only [List.nil_append]
    refine ⟨vl_cons.2 ⟨by omega, h1, h2, rfl⟩, fun m => ?_⟩
    rw [mn_append, ← h.at_ m]; simp [mn_nil]
  | some q =>
    simp only
    have hqs := hs q hq
    split
    · rename_i hle
      obtain ⟨o, rfl⟩ : ∃ o, out = o ++ [q] := List.getLast?_eq_some_iff.1 hq
      have hok := vl_snoc.1 h.ok
      obtain ⟨a1, a2, a3, a4, a5⟩ := hok
      simp only [List.dropLast_concat]
      refine ⟨vl_snoc.2 ⟨a1, a2, a3, by simp only; omega, by simp only; omega⟩, fun m => ?_⟩
      rw [mn_append, mn_append, ← h.at_ m, mn_append]
      simp only [mn_cons, mn_nil, or_false]
      constructor
      · rintro (h | h)
        · exact .inl (.inl h)
        · by_cases hm : m < q.2
          · exact .inl (.inr ⟨h.1, hm⟩)
          · exact .inr (by omega)
      · rintro ((h | h) | h)
        · exact .inl h
        · exact .inr (by omega)
        · exact .inr (by omega)
    · rename_i hle
      refine ⟨vl_snoc.2 ⟨h.ok, by omega, fun p hp => by rw [hq] at hp; obtain rfl := Option.some.inj hp; omega, h1, h2⟩, fun m => ?_⟩
      rw [mn_append, mn_append, h.at_ m]
theorem ustep_last {out : List Sp} {s : Sp} (hs : ∀ q, out.getLast? = some q → q.1 ≤ s.1) : ∃ q, (ustep out s).getLast? = some q ∧ q.1 ≤ s.1 := by
  unfold ustep
  cases hq : out.getLast? with
  | none => exact ⟨s, by simp, Int.le_refl _⟩
  | some q =>
    simp only
    split
    · exact ⟨(q.1, max q.2 s.2), by simp, hs q hq⟩
    · exact ⟨s, by simp, Int.le_refl _⟩
/-- Spans of the week. -/
def wk (l : List Sp) : Prop := ∀ s ∈ l, 0 ≤ s.1 ∧ s.1 < s.2 ∧ s.2 ≤ 10080
theorem unite_un {l : List Sp} (hw : wk l) (hp : l.Pairwise fun a b => a.1 ≤ b.1) : Un (unite l) l := by
  have main : ∀ (l out done : List Sp), Un out done → wk l → l.Pairwise (fun a b => a.1 ≤ b.1) → (∀ q, out.getLast? = some q → ∀ s ∈ l, q.1 ≤ s.1) → Un (l.foldl ustep out) (done ++ l) := by
    intro l
    induction l with
    | nil => intro out done h _ _ _; simpa using h
    | cons s l ih =>
      intro out done h hw hp hq
      rw [List.foldl_cons]
      have hs := hw s (by simp)
      have := ih (ustep out s) (done ++ [s]) (ustep_un h hs.1 hs.2.1 hs.2.2 fun q hq' => hq q hq' s (by simp)) (fun x hx => hw x (by simp [hx])) (List.pairwise_cons.1 hp).2 (fun q hq' x hx => by
        obtain ⟨q2, h2, h3⟩ := ustep_last (out := out) (s := s) fun q hq' => hq q hq' s (by simp)
        rw [h2] at hq'; obtain rfl := Option.some.inj hq'
        have := (List.pairwise_cons.1 hp).1 x hx; omega)
      simpa using this
  exact main l [] [] ⟨rfl, fun m => Iff.rfl⟩ hw hp (by simp)
def insS (s : Sp) : List Sp → List Sp
  | [] => [s]
  | x :: l => if s.1 ≤ x.1 then s :: x :: l else x :: insS s l
def srtS : List Sp → List Sp
  | [] => []
  | s :: l => insS s (srtS l)
theorem insS_perm (s : Sp) (l : List Sp) : (insS s l).Perm (s :: l) := by
  induction l with
  | nil => exact .refl _
  | cons x l ih =>
    unfold insS
    split
    · exact .refl _
    · exact (ih.cons x).trans (.swap _ _ _)
theorem srtS_perm (l : List Sp) : (srtS l).Perm l := by
  induction l with
  | nil => exact .refl _
  | cons x l ih => exact (insS_perm x _).trans (ih.cons x)
theorem insS_sorted {s : Sp} {l : List Sp} (h : l.Pairwise fun a b => a.1 ≤ b.1) : (insS s l).Pairwise fun a b => a.1 ≤ b.1 := by
  induction l with
  | nil => simp [insS]
  | cons x l ih =>
    obtain ⟨h1, h2⟩ := List.pairwise_cons.1 h
    unfold insS
    split
    · rename_i hle
      refine List.pairwise_cons.2 ⟨fun y hy => ?_, h⟩
      rcases List.mem_cons.1 hy with rfl | hy
      · exact hle
      · have := h1 y hy; omega
    · rename_i hle
      refine List.pairwise_cons.2 ⟨fun y hy => ?_, ih h2⟩
      rcases List.mem_cons.1 ((insS_perm s l).mem_iff.1 hy) with rfl | hy
      · omega
      · exact h1 y hy
theorem srtS_sorted (l : List Sp) : (srtS l).Pairwise fun a b => a.1 ≤ b.1 := by
  induction l with
  | nil => simp [srtS]
  | cons x l ih => exact insS_sorted ih
/-- The one valid list of the minutes of any spans. -/
def canon (l : List Sp) : List Sp := unite (srtS l)
theorem wk_perm {a b : List Sp} (h : a.Perm b) (hw : wk b) : wk a := fun s hs => hw s (h.mem_iff.1 hs)
theorem canon_un {l : List Sp} (hw : wk l) : Un (canon l) l := by
  have h := unite_un (wk_perm (srtS_perm l) hw) (srtS_sorted l)
  exact ⟨h.ok, fun m => (h.at_ m).trans (mn_perm (srtS_perm l))⟩
theorem Un.eq {a b l : List Sp} (h : Un a l) (k : Un b l) : a = b := vl_uniq h.ok k.ok fun m => (h.at_ m).trans (k.at_ m).symm
theorem Un.of {a l l' : List Sp} (h : Un a l) (k : ∀ m, mn l m ↔ mn l' m) : Un a l' := ⟨h.ok, fun m => (h.at_ m).trans (k m)⟩
theorem unite_canon {l s : List Sp} (hw : wk l) (hp : s.Perm l) (hs : s.Pairwise fun a b => a.1 ≤ b.1) : unite s = canon l :=
  ((unite_un (wk_perm hp hw) hs).of fun m => mn_perm hp).eq (canon_un hw)
theorem vl_wk {lo : Int} (h0 : -1 ≤ lo) {l : List Sp} (h : vl lo l = true) : wk l := by
  induction l generalizing lo with
  | nil => intro s hs; cases hs
  | cons x l ih =>
    obtain ⟨a, b, c, d⟩ := vl_cons.1 h
    intro s hs
    rcases List.mem_cons.1 hs with rfl | hs
    · exact ⟨by omega, b, c⟩
    · exact ih (by omega) d s hs
/-! ### the operations on valid lists -/
/-- The gaps of a list from a minute on. -/
def gaps : Int → List Sp → List Sp
  | fr, [] => if fr < 10080 then [(fr, 10080)] else []
  | fr, s :: l => (if fr < s.1 then [(fr, s.1)] else []) ++ gaps s.2 l
theorem mn_rng {l : List Sp} (h : vl (-1) l = true) {m : Int} (hm : mn l m) : 0 ≤ m ∧ m < 10080 := ⟨by have := vl_lo h hm; omega, vl_hi h hm⟩
end Go.Proofs.YtjaffpnegdcjnaaGreatDoor
/- Tokens of a text in plain Lean. -/
set_option linter.unusedVariables false
set_option linter.unusedSimpArgs false
namespace Go.Proofs.YtjaffpnegdcjnaaGreatDoor
abbrev Bys := List UInt8
def isLet (b : UInt8) : Bool := (97 ≤ b && b ≤ 122) || (65 ≤ b && b ≤ 90)
def isDig (b : UInt8) : Bool := 48 ≤ b && b ≤ 57
def isWrd (b : UInt8) : Bool := isLet b || isDig b || b == 95
def isBlk (b : UInt8) : Bool := b == 32 || b == 9 || b == 10
def symL : Bys := [59, 44, 46, 58, 40, 41, 123, 125, 91, 93, 61, 60, 62, 47, 45]
def isSym (b : UInt8) : Bool := symL.contains b
/-- A token: kind, text, offset. -/
abbrev Tok (α : Type) := Int × Bys × α
/-- What a string stands for, and how many bytes it takes behind the first quote. -/
def strL : Bys → Option (Bys × Nat)
  | [] => none
  | c :: l =>
    if c == 34 then some ([], 1)
    else if c == 10 then none
    else if c == 92 then
      match l with
      | [] => none
      | d :: l => if d == 92 || d == 34 || d == 110 then (strL l).map fun r => ((if d == 110 then 10 else d) :: r.1, r.2 + 2) else none
    else (strL l).map fun r => (c :: r.1, r.2 + 1)
/-- What begins at a byte: the kind (0: a gap), the text, how many bytes behind the first, an error. -/
def one (c : UInt8) (l : Bys) : Int × Bys × Nat × Int :=
  if isBlk c then (0, [], 0, 0)
  else if c == 35 then (0, [], (l.takeWhile (· != 10)).length, 0)
  else if isLet c then (1, c :: l.takeWhile isWrd, (l.takeWhile isWrd).length, if (l.takeWhile isWrd).length + 1 > 24 then 2 else 0)
  else if isDig c then (2, c :: l.takeWhile isDig, (l.takeWhile isDig).length, if (l.takeWhile isDig).length + 1 > 7 || (match (l.dropWhile isDig) with | d :: _ => isWrd d | [] => false) then 4 else 0)
  else if c == 34 then (match strL l with | some (s, k) => (3, s, k, 0) | none => (0, [], 0, 3))
  else if isSym c then (4, [c], 0, 0)
  else (0, [], 0, 3)
/-- The tokens, each with its error (0: none; the last one alone can have one). -/
def lexF : Nat → Bys → Int → List (Tok Int × Int)
  | 0, _, _ => []
  | _ + 1, [], _ => []
  | n + 1, c :: l, at_ =>
    match one c l with
    | (k, s, m, e) =>
      if e != 0 then [((k, s, at_), e)]
      else if k == 0 then lexF n (l.drop m) (at_ + 1 + m)
      else ((k, s, at_), 0) :: lexF n (l.drop m) (at_ + 1 + m)
def lexL (l : Bys) (at_ : Int) : List (Tok Int × Int) := lexF l.length l at_
theorem lexF_fuel : ∀ (n : Nat) (l : Bys) (a : Int), l.length ≤ n → lexF n l a = lexL l a := by
  have main : ∀ (n m : Nat) (l : Bys) (a : Int), l.length ≤ n → l.length ≤ m → lexF n l a = lexF m l a := by
    intro n
    induction n with
    | zero =>
      intro m l a h _
      have : l = [] := by cases l with | nil => rfl | cons => simp at h
      subst this
      cases m <;> rfl
    | succ n ih =>
      intro m l a h h2
      cases l with
      | nil => cases m <;> rfl
      | cons c l =>
        cases m with
        | zero => simp at h2
        | succ m =>
          simp only [List.length_cons] at h h2
          unfold lexF
          have hd : ∀ k, (l.drop k).length ≤ l.length := fun k => by simp
          split
          split
          · rfl
          · split
            · exact ih m _ _ (Nat.le_trans (hd _) (by omega)) (Nat.le_trans (hd _) (by omega))
            · rw [ih m _ _ (Nat.le_trans (hd _) (by omega)) (Nat.le_trans (hd _) (by omega))]
  intro n l a h
  exact main n l.length l a h (Nat.le_refl _)
theorem lexL_nil (a : Int) : lexL [] a = [] := rfl
theorem lexL_cons (c : UInt8) (l : Bys) (a : Int) : lexL (c :: l) a =
    if (one c l).2.2.2 != 0 then [(((one c l).1, (one c l).2.1, a), (one c l).2.2.2)]
    else if (one c l).1 == 0 then lexL (l.drop (one c l).2.2.1) (a + 1 + (one c l).2.2.1)
    else (((one c l).1, (one c l).2.1, a), 0) :: lexL (l.drop (one c l).2.2.1) (a + 1 + (one c l).2.2.1) := by
  show lexF (l.length + 1) (c :: l) a = _
  rw [lexF]
  have : ∀ k, lexF l.length (l.drop k) (a + 1 + k) = lexL (l.drop k) (a + 1 + k) := fun k => lexF_fuel _ _ _ (by simp)
  rw [← this]
/-- The first error, with its offset. -/
def errOf : List (Tok Int × Int) → Option (Int × Int)
  | [] => none
  | x :: l => if x.2 != 0 then some (x.2, x.1.2.2) else errOf l
/-- lexer.Lex: the tokens, or the error. -/
def lexP (l : Bys) : Except (Int × Int) (List (Tok Int)) := match errOf (lexL l 0) with | some e => .error e | none => .ok ((lexL l 0).map (·.1))
theorem lexL_len : ∀ (n : Nat) (l : Bys) (a : Int), l.length ≤ n → (lexL l a).length ≤ l.length := by
  intro n
  induction n with
  | zero => intro l a h; have : l = [] := by cases l with | nil => rfl | cons => simp at h
            subst this; simp [lexL_nil]
  | succ n ih =>
    intro l a h
    cases l with
    | nil => simp [lexL_nil]
    | cons c l =>
      simp only [List.length_cons] at h
      rw [lexL_cons]
      have := fun k b => ih (l.drop k) b (by simp; omega)
      split
      · simp
      · split
        · refine Nat.le_trans (this _ _) ?_; simp; omega
        · simp only [List.length_cons]
          have := this (one c l).2.2.1 (a + 1 + (one c l).2.2.1)
          rw [List.length_drop] at this
          omega
/-- A token as the lexer makes it. -/
def tokOK {α : Type} (t : Tok α) : Prop :=
  (t.1 = 1 ∧ (∃ c l, t.2.1 = c :: l ∧ isLet c = true)) ∨ (t.1 = 2 ∧ t.2.1 ≠ [] ∧ t.2.1.length ≤ 7 ∧ ∀ b ∈ t.2.1, isDig b = true) ∨ t.1 = 3 ∨ (t.1 = 4 ∧ ∃ c, t.2.1 = [c] ∧ isSym c = true)
theorem mem_takeWhile {p : UInt8 → Bool} {l : Bys} {b : UInt8} (h : b ∈ l.takeWhile p) : p b = true := by
  induction l with
  | nil => cases h
  | cons c l ih =>
    rw [List.takeWhile_cons] at h
    split at h
    · rename_i hc
      rcases List.mem_cons.1 h with rfl | h
      · exact hc
      · exact ih h
    · cases h
theorem one_ok {c : UInt8} {l : Bys} (h : (one c l).2.2.2 = 0) (hk : (one c l).1 ≠ 0) (a : Int) : tokOK ((one c l).1, (one c l).2.1, a) := by
  unfold one at *
  split at h
  · rename_i h1; rw [if_pos h1] at hk; exact absurd rfl hk
  rename_i h1; rw [if_neg h1] at hk ⊢
  split at h
  · rename_i h2; rw [if_pos h2] at hk; exact absurd rfl hk
  rename_i h2; rw [if_neg h2] at hk ⊢
  split at h
  · rename_i h3; rw [if_pos h3]; exact .inl ⟨rfl, c, _, rfl, h3⟩
  rename_i h3; rw [if_neg h3] at hk ⊢
  split at h
  · rename_i h4
    rw [if_pos h4]
    by_cases h5 : (l.takeWhile isDig).length + 1 > 7
    · simp only at h
      rw [if_pos (by simp [h5])] at h; cases h
    · refine .inr (.inl ⟨rfl, by simp, by simp only [List.length_cons]; omega, fun b hb => ?_⟩)
      rcases List.mem_cons.1 hb with rfl | hb
      · exact h4
      · exact mem_takeWhile hb
  rename_i h4; rw [if_neg h4] at hk ⊢
  split at h
  · rename_i h5; rw [if_pos h5] at hk ⊢
    cases hs : strL l with
    | none => rw [hs] at hk; exact absurd rfl hk
    | some r => obtain ⟨s, k⟩ := r; exact .inr (.inr (.inl rfl))
  rename_i h5; rw [if_neg h5] at hk ⊢
  split at h
  · rename_i h6; rw [if_pos h6]; exact .inr (.inr (.inr ⟨rfl, c, rfl, h6⟩))
  · cases h
theorem lexL_ok : ∀ (n : Nat) (l : Bys) (a : Int), l.length ≤ n → ∀ x ∈ lexL l a, x.2 = 0 → tokOK x.1 ∧ a ≤ x.1.2.2 ∧ x.1.2.2 < a + l.length := by
  intro n
  induction n with
  | zero => intro l a h; have : l = [] := by cases l with | nil => rfl | cons => simp at h
            subst this; intro x hx; cases hx
  | succ n ih =>
    intro l a h x hx h0
    cases l with
    | nil => cases hx
    | cons c l =>
      simp only [List.length_cons] at h ⊢
      rw [lexL_cons] at hx
      have ih2 : ∀ k, x ∈ lexL (l.drop k) (a + 1 + k) → tokOK x.1 ∧ a ≤ x.1.2.2 ∧ x.1.2.2 < a + ((l.length + 1 : Nat) : Int) := fun k hx => by
        by_cases hk : k ≤ l.length
        · obtain ⟨h1, h2, h3⟩ := ih (l.drop k) _ (by simp; omega) x hx h0
          rw [List.length_drop] at h3
          exact ⟨h1, by omega, by omega⟩
        · rw [List.drop_of_length_le (by omega)] at hx; cases hx
      split at hx
      · rename_i he
        simp only [List.mem_singleton] at hx
        subst hx
        simp only at h0
        rw [h0] at he; cases he
      · rename_i he
        split at hx
        · exact ih2 _ hx
        · rename_i hk
          rcases List.mem_cons.1 hx with rfl | hx
          · refine ⟨one_ok (by simpa using he) (by simpa using hk) a, by simp only; omega, by simp only; omega⟩
          · exact ih2 _ hx
end Go.Proofs.YtjaffpnegdcjnaaGreatDoor
/- Reading hours in plain Lean, over whatever offsets. -/
set_option linter.unusedVariables false
set_option linter.unusedSimpArgs false
namespace Go.Proofs.YtjaffpnegdcjnaaGreatDoor
section
variable {α : Type}
abbrev Res (α β : Type) := Except (Int × α) β
def sees (k : Int) (xs : List Bys) : List (Tok α) → Bool
  | [] => false
  | t :: _ => t.1 == k && (xs.isEmpty || xs.contains t.2.1)
def take (en : α) (k : Int) (xs : List Bys) (ts : List (Tok α)) : Res α (Tok α × List (Tok α)) :=
  match ts with
  | [] => .error (6, en)
  | t :: l => if sees k xs (t :: l) then .ok (t, l) else .error (5, t.2.2)
def numT (t : Bys) : Int := t.foldl (fun n b => 10 * n + ((b.toNat : Int) - 48)) 0
def cColon : Bys := [58]
def cDash : Bys := [45]
def cComma : Bys := [44]
def days : List Bys := [[109, 111], [116, 117], [119, 101], [116, 104], [102, 114], [115, 97], [115, 117]]
def always : Bys := [97, 108, 119, 97, 121, 115]
def never : Bys := [110, 101, 118, 101, 114]
def clock (en : α) (most : Int) (ts : List (Tok α)) : Res α ((Int × α) × List (Tok α)) :=
  match take en 2 [] ts with
  | .error e => .error e
  | .ok (h, ts) =>
    if numT h.2.1 > most then .error (10, h.2.2)
    else match take en 4 [cColon] ts with
      | .error e => .error e
      | .ok (_, ts) => match take en 2 [] ts with
        | .error e => .error e
        | .ok (m, ts) =>
          if m.2.1.length != 2 || numT m.2.1 > 59 || (numT h.2.1 == 24 && numT m.2.1 > 0) then .error (10, m.2.2)
          else .ok ((60 * numT h.2.1 + numT m.2.1, h.2.2), ts)
/-- The spans of some minutes, which may go on in the next week. -/
def addL (f t : Int) : List Sp := if t > 10080 then [(f, min t 10080), (0, t - 10080)] else [(f, min t 10080)]
/-- The spans of a time on days from a first one on. -/
def dayL (f n a b : Int) : List Sp := (List.range n.toNat).flatMap fun (i : Nat) => addL ((f + (i : Int)).tmod 7 * 1440 + a) ((f + (i : Int)).tmod 7 * 1440 + b)
/-- One time of some days. -/
def time (en : α) (f t : Int) (ts : List (Tok α)) : Res α (List Sp × List (Tok α)) :=
  match clock en 23 ts with
  | .error e => .error e
  | .ok ((a, _), ts) => match take en 4 [cDash] ts with
    | .error e => .error e
    | .ok (_, ts) => match clock en 24 ts with
      | .error e => .error e
      | .ok ((b, at_), ts) =>
        if a == b then .error (10, at_) else .ok (dayL f ((t - f + 7).tmod 7 + 1) a (if b < a then b + 1440 else b), ts)
/-- Whether a further time of the same days follows. -/
def more : List (Tok α) → Bool
  | t :: u :: l => sees 4 [cComma] (t :: u :: l) && u.1 == 2
  | _ => false
def times (en : α) (f t : Int) : Nat → List (Tok α) → Res α (List Sp × List (Tok α))
  | 0, _ => .error (6, en)
  | n + 1, ts => match time en f t ts with
    | .error e => .error e
    | .ok (s, ts) => if more ts then (match times en f t n (ts.drop 1) with | .error e => .error e | .ok (s', ts) => .ok (s ++ s', ts)) else .ok (s, ts)
def idx (d : Bys) : Int := days.findIdx (· == d)
def dys (en : α) (ts : List (Tok α)) : Res α ((Int × Int) × List (Tok α)) :=
  match take en 1 days ts with
  | .error e => .error e
  | .ok (f, ts) =>
    if sees 4 [cDash] ts then (match take en 1 days (ts.drop 1) with
      | .error e => .error e
      | .ok (t, ts) => .ok ((idx f.2.1, idx t.2.1), ts))
    else .ok ((idx f.2.1, idx f.2.1), ts)
def part (en : α) (ts : List (Tok α)) : Res α (List Sp × List (Tok α)) :=
  match dys en ts with
  | .error e => .error e
  | .ok ((f, t), ts) => times en f t (ts.length + 1) ts
def parts (en : α) : Nat → List (Tok α) → Res α (List Sp × List (Tok α))
  | 0, _ => .error (6, en)
  | n + 1, ts => match part en ts with
    | .error e => .error e
    | .ok (s, ts) => if sees 4 [cComma] ts then (match parts en n (ts.drop 1) with | .error e => .error e | .ok (s', ts) => .ok (s ++ s', ts)) else .ok (s, ts)
def fin : Res α (List Sp × List (Tok α)) → Res α (List Sp)
  | .error e => .error e
  | .ok (s, []) => .ok s
  | .ok (_, t :: _) => .error (5, t.2.2)
def textQ (en : α) (ts : List (Tok α)) : Res α (List Sp × List (Tok α)) :=
  if sees 1 [always] ts then .ok (addL 0 10080, ts.drop 1) else if sees 1 [never] ts then .ok ([], ts.drop 1) else parts en (ts.length + 1) ts
def textP (en : α) (ts : List (Tok α)) : Res α (List Sp) := fin (textQ en ts)
end
/-- hours.Parse. -/
def parseP (l : Bys) : Except (Int × Int) (List Sp) :=
  match lexP l with
  | .error e => .error e
  | .ok ts => match textP (l.length : Int) ts with
    | .error e => .error e
    | .ok s => if (canon s).length > 60 then .error (2, (l.length : Int)) else .ok (canon s)
section
variable {α : Type} {en : α}
theorem take_ok {k : Int} {xs : List Bys} {ts : List (Tok α)} {t : Tok α} {l : List (Tok α)} (h : take en k xs ts = .ok (t, l)) : ts = t :: l ∧ t.1 = k ∧ (xs = [] ∨ t.2.1 ∈ xs) := by
  unfold take at h
  split at h
  · cases h
  · split at h
    · rename_i hs
      cases h
      unfold sees at hs
      simp only [Bool.and_eq_true, beq_iff_eq, Bool.or_eq_true, List.isEmpty_iff, List.contains_eq_mem, decide_eq_true_eq] at hs
      exact ⟨rfl, hs.1, hs.2⟩
    · cases h
theorem take_len {k : Int} {xs : List Bys} {ts : List (Tok α)} {t : Tok α} {l : List (Tok α)} (h : take en k xs ts = .ok (t, l)) : l.length + 1 = ts.length := by
  rw [(take_ok h).1]; simp
theorem clock_ok {most : Int} {ts l : List (Tok α)} {r : Int × α} (h : clock en most ts = .ok (r, l)) : l.length + 3 = ts.length := by
  unfold clock at h
  split at h
  · cases h
  · rename_i h1
    split at h
    · cases h
    · split at h
      · cases h
      · rename_i h2
        split at h
        · cases h
        · rename_i h3
          split at h
          · cases h
          · cases h
            have := take_len h1; have := take_len h2; have := take_len h3; omega
theorem time_ok {f t : Int} {ts l : List (Tok α)} {s : List Sp} (h : time en f t ts = .ok (s, l)) : l.length + 7 = ts.length := by
  unfold time at h
  split at h
  · cases h
  · rename_i h1
    split at h
    · cases h
    · rename_i h2
      split at h
      · cases h
      · rename_i h3
        split at h
        · cases h
        · cases h
          have := clock_ok h1; have := take_len h2; have := clock_ok h3; omega
theorem times_len {f t : Int} : ∀ (n : Nat) {ts l : List (Tok α)} {s : List Sp}, times en f t n ts = .ok (s, l) → l.length < ts.length := by
  intro n
  induction n with
  | zero => intro ts l s h; cases h
  | succ n ih =>
    intro ts l s h
    unfold times at h
    split at h
    · cases h
    · rename_i h1
      have := time_ok h1
      split at h
      · split at h
        · cases h
        · rename_i h2
          cases h
          have h3 := ih h2
          rw [List.length_drop] at h3; omega
      · cases h; omega
/-- The fuel makes no difference. -/
theorem times_fuel {f t : Int} : ∀ (n m : Nat) (ts : List (Tok α)), ts.length < n → ts.length < m → times en f t n ts = times en f t m ts := by
  intro n
  induction n with
  | zero => intro m ts h; omega
  | succ n ih =>
    intro m ts h h2
    cases m with
    | zero => omega
    | succ m =>
      unfold times
      split
      · rfl
      · rename_i h1
        have := time_ok h1
        rw [ih m _ (by rw [List.length_drop]; omega) (by rw [List.length_drop]; omega)]
theorem dys_len {ts l : List (Tok α)} {r : Int × Int} (h : dys en ts = .ok (r, l)) : l.length < ts.length := by
  unfold dys at h
  split at h
  · cases h
  · rename_i h1
    have := take_len h1
    split at h
    · split at h
      · cases h
      · rename_i h2
        have h3 := take_len h2
        rw [List.length_drop] at h3
        cases h; omega
    · cases h; omega
theorem part_len {ts l : List (Tok α)} {s : List Sp} (h : part en ts = .ok (s, l)) : l.length < ts.length := by
  unfold part at h
  split at h
  · cases h
  · rename_i h1
    have := dys_len h1; have := times_len _ h; omega
theorem parts_fuel : ∀ (n m : Nat) (ts : List (Tok α)), ts.length < n → ts.length < m → parts en n ts = parts en m ts := by
  intro n
  induction n with
  | zero => intro m ts h; omega
  | succ n ih =>
    intro m ts h h2
    cases m with
    | zero => omega
    | succ m =>
      unfold parts
      split
      · rfl
      · rename_i h1
        have := part_len h1
        rw [ih m _ (by rw [List.length_drop]; omega) (by rw [List.length_drop]; omega)]
end
end Go.Proofs.YtjaffpnegdcjnaaGreatDoor
/- Reading hours: offsets make no difference; what comes behind a part makes none. -/
set_option linter.unusedVariables false
set_option linter.unusedSimpArgs false
namespace Go.Proofs.YtjaffpnegdcjnaaGreatDoor
section
variable {α β : Type} (φ : α → β)
end
section
variable {α : Type} {en : α}
end
example : parseP [109, 111, 45, 116, 117, 32, 57, 58, 48, 48, 45, 49, 55, 58, 51, 48] = .ok [(540, 1050), (1980, 2490)] := by kernel_rfl
end Go.Proofs.YtjaffpnegdcjnaaGreatDoor
/- Steps at this program's types: spans, tokens, texts, rows. -/
set_option linter.unusedVariables false
set_option linter.unusedSimpArgs false
namespace Go.Proofs.YtjaffpnegdcjnaaGreatDoor
open Go.RowKit Go.Pl
/-- A text's bytes. -/
def ofL (l : Bys) : ByteArray := ⟨l.toArray⟩
theorem ofL_inj {a b : Bys} : ofL a = ofL b ↔ a = b := by
 unfold ofL
 constructor
 ·intro h
  have := congrArg (fun x : ByteArray => x.data.toList) h
  simpa using this
 ·rintro rfl; rfl
theorem ofL_size (a : Bys) : (ofL a).size = a.length := by unfold ofL; simp [ByteArray.size]
theorem ofL_eq (a b : Bys) : (decide (ofL a = ofL b)) = (a == b) := by
 rw [Bool.eq_iff_iff, beq_iff_eq, decide_eq_true_eq, ofL_inj]
/-- Cells. -/
abbrev spA (s : Sp) : Array Value := #[.int .i64 s.1, .int .i64 s.2]
abbrev tkA (t : Tok Int) : Array Value := #[.int .i64 t.1, .string (ofL t.2.1), .int .i64 t.2.2]
def spL (s : Sp) : List Value := [.int .i64 s.1, .int .i64 s.2]
def tkL (t : Tok Int) : List Value := [.int .i64 t.1, .string (ofL t.2.1), .int .i64 t.2.2]
def stL (l : Bys) : List Value := [.string (ofL l)]
theorem spL_len (s : Sp) : (spL s).length = 2 := rfl
theorem tkL_len (t : Tok Int) : (tkL t).length = 3 := rfl
theorem stL_len (l : Bys) : (stL l).length = 1 := rfl
theorem spL_one (s : Sp) : ∀ u ∈ spL s, u.oneCell' = true := by unfold spL; simp [Value.oneCell']
theorem tkL_one (t : Tok Int) : ∀ u ∈ tkL t, u.oneCell' = true := by unfold tkL; simp [Value.oneCell']
theorem stL_one (l : Bys) : ∀ u ∈ stL l, u.oneCell' = true := by unfold stL; simp [Value.oneCell']
/-- v is a slice that holds L. -/
def Src {α : Type} (f : α → List Value) (c : Nat) (w : World) (v : Value) (L : List α) : Prop := ∃ p cap, v = .slice p L.length cap ∧ L.length ≤ cap ∧ cap ≤ 9223372036854775807 ∧ srcAt f c w w.heap.size p L ∧ (p = none → cap = 0)
abbrev SpV := Src spL 2
abbrev TkV := Src tkL 3
abbrev StV := Src stL 1
theorem Src.fr {α : Type} {f : α → List Value} {c : Nat} {w w' : World} {v : Value} {L : List α} (h : Src f c w v L) (k : Fr (fun _ => False) w w') : Src f c w' v L := by
 obtain ⟨p, cap, h1, h2, h3, h4, h5⟩ := h
 exact ⟨p, cap, h1, h2, h3, (h4.fr k fun _ _ h => h).mono k.size, h5⟩
theorem Src.nil {α : Type} {f : α → List Value} {c : Nat} (w : World) : Src f c w (.slice none 0 0) ([] : List α) := ⟨none, 0, rfl, Nat.le_refl _, by omega, .inl rfl, fun _ => rfl⟩
theorem Src.bnd {α : Type} {f : α → List Value} {c : Nat} {w : World} {v : Value} {L : List α} (h : Src f c w v L) : L.length ≤ 9223372036854775807 := by
 obtain ⟨p, cap, h1, h2, h3, h4, h5⟩ := h; omega
section
variable {o : Oper} {w : World} {ρ : Operand → Value} {x y z : Operand} {g off k n cap i : Nat} {p : Option Addr}
theorem fa48_0 (ho : o.op = .fieldAddr 48 x 0) (hx : ρ x = .pointer (some ⟨g, off, none⟩)) : (execOp ρ o).run Tryz.prog w = .ok (.value (.pointer (some ⟨g, off + 0, none⟩))) w := by simp [execOp, ho, hx, go_sem]
theorem fa48_1 (ho : o.op = .fieldAddr 48 x 1) (hx : ρ x = .pointer (some ⟨g, off, none⟩)) : (execOp ρ o).run Tryz.prog w = .ok (.value (.pointer (some ⟨g, off + 1, none⟩))) w := by simp [execOp, ho, hx, go_sem]
theorem fa38_0 (ho : o.op = .fieldAddr 38 x 0) (hx : ρ x = .pointer (some ⟨g, off, none⟩)) : (execOp ρ o).run Tryz.prog w = .ok (.value (.pointer (some ⟨g, off + 0, none⟩))) w := by simp [execOp, ho, hx, go_sem]
theorem fa38_1 (ho : o.op = .fieldAddr 38 x 1) (hx : ρ x = .pointer (some ⟨g, off, none⟩)) : (execOp ρ o).run Tryz.prog w = .ok (.value (.pointer (some ⟨g, off + 1, none⟩))) w := by simp [execOp, ho, hx, go_sem]
theorem fa38_2 (ho : o.op = .fieldAddr 38 x 2) (hx : ρ x = .pointer (some ⟨g, off, none⟩)) : (execOp ρ o).run Tryz.prog w = .ok (.value (.pointer (some ⟨g, off + 2, none⟩))) w := by simp [execOp, ho, hx, go_sem]
theorem fa54_0 (ho : o.op = .fieldAddr 54 x 0) (hx : ρ x = .pointer (some ⟨g, off, none⟩)) : (execOp ρ o).run Tryz.prog w = .ok (.value (.pointer (some ⟨g, off + 0, none⟩))) w := by simp [execOp, ho, hx, go_sem]
theorem fa54_1 (ho : o.op = .fieldAddr 54 x 1) (hx : ρ x = .pointer (some ⟨g, off, none⟩)) : (execOp ρ o).run Tryz.prog w = .ok (.value (.pointer (some ⟨g, off + 1, none⟩))) w := by simp [execOp, ho, hx, go_sem]
theorem fa57_0 (ho : o.op = .fieldAddr 57 x 0) (hx : ρ x = .pointer (some ⟨g, off, none⟩)) : (execOp ρ o).run Tryz.prog w = .ok (.value (.pointer (some ⟨g, off + 0, none⟩))) w := by simp [execOp, ho, hx, go_sem]
theorem fa57_1 (ho : o.op = .fieldAddr 57 x 1) (hx : ρ x = .pointer (some ⟨g, off, none⟩)) : (execOp ρ o).run Tryz.prog w = .ok (.value (.pointer (some ⟨g, off + 1, none⟩))) w := by simp [execOp, ho, hx, go_sem]
theorem fa59_0 (ho : o.op = .fieldAddr 59 x 0) (hx : ρ x = .pointer (some ⟨g, off, none⟩)) : (execOp ρ o).run Tryz.prog w = .ok (.value (.pointer (some ⟨g, off + 0, none⟩))) w := by simp [execOp, ho, hx, go_sem]
theorem fa59_1 (ho : o.op = .fieldAddr 59 x 1) (hx : ρ x = .pointer (some ⟨g, off, none⟩)) : (execOp ρ o).run Tryz.prog w = .ok (.value (.pointer (some ⟨g, off + 2, none⟩))) w := by simp [execOp, ho, hx, go_sem]
theorem fa62_0 (ho : o.op = .fieldAddr 62 x 0) (hx : ρ x = .pointer (some ⟨g, off, none⟩)) : (execOp ρ o).run Tryz.prog w = .ok (.value (.pointer (some ⟨g, off + 0, none⟩))) w := by simp [execOp, ho, hx, go_sem]
theorem fa62_1 (ho : o.op = .fieldAddr 62 x 1) (hx : ρ x = .pointer (some ⟨g, off, none⟩)) : (execOp ρ o).run Tryz.prog w = .ok (.value (.pointer (some ⟨g, off + 1, none⟩))) w := by simp [execOp, ho, hx, go_sem]
theorem fa62_2 (ho : o.op = .fieldAddr 62 x 2) (hx : ρ x = .pointer (some ⟨g, off, none⟩)) : (execOp ρ o).run Tryz.prog w = .ok (.value (.pointer (some ⟨g, off + 2, none⟩))) w := by simp [execOp, ho, hx, go_sem]
theorem fa62_3 (ho : o.op = .fieldAddr 62 x 3) (hx : ρ x = .pointer (some ⟨g, off, none⟩)) : (execOp ρ o).run Tryz.prog w = .ok (.value (.pointer (some ⟨g, off + 3, none⟩))) w := by simp [execOp, ho, hx, go_sem]
theorem fa62_4 (ho : o.op = .fieldAddr 62 x 4) (hx : ρ x = .pointer (some ⟨g, off, none⟩)) : (execOp ρ o).run Tryz.prog w = .ok (.value (.pointer (some ⟨g, off + 4, none⟩))) w := by simp [execOp, ho, hx, go_sem]
theorem fa81_0 (ho : o.op = .fieldAddr 81 x 0) (hx : ρ x = .pointer (some ⟨g, off, none⟩)) : (execOp ρ o).run Tryz.prog w = .ok (.value (.pointer (some ⟨g, off + 0, none⟩))) w := by simp [execOp, ho, hx, go_sem]
theorem fa81_1 (ho : o.op = .fieldAddr 81 x 1) (hx : ρ x = .pointer (some ⟨g, off, none⟩)) : (execOp ρ o).run Tryz.prog w = .ok (.value (.pointer (some ⟨g, off + 3, none⟩))) w := by simp [execOp, ho, hx, go_sem]
theorem info48 : (Tryz.prog.info? 48).map (·.size) = some 2 := by kernel_rfl
theorem run_ld48 {s : Sp} (ho : o.op = .load 48 x) (hx : ρ x = .pointer (some ⟨g, off, none⟩)) (h : w.rangeAt g off (spL s)) : (execOp ρ o).run Tryz.prog w = .ok (.value (.agg (spA s))) w := by
 have := run_loadAt_mid (P := Tryz.prog) w g off 48 (spA s).toList _ h Tryz.underlying48 rfl info48
 simp only [execOp, ho, hx, Sem.run_bind, this, Result.andThen_ok, Sem.run_pure]
theorem run_box48 {s : Sp} (ho : o.op = .box 48 x) (hx : ρ x = .agg (spA s)) : (execOp ρ o).run Tryz.prog w = .ok (.value (.pointer (some ⟨w.heap.size, 0, none⟩))) (w.alloc (.cells (spA s) 48)) := by
 simp [execOp, ho, hx, go_sem]
theorem info38 : (Tryz.prog.info? 38).map (·.size) = some 3 := by kernel_rfl
theorem run_ld38 {s : Tok Int} (ho : o.op = .load 38 x) (hx : ρ x = .pointer (some ⟨g, off, none⟩)) (h : w.rangeAt g off (tkL s)) : (execOp ρ o).run Tryz.prog w = .ok (.value (.agg (tkA s))) w := by
 have := run_loadAt_mid (P := Tryz.prog) w g off 38 (tkA s).toList _ h Tryz.underlying38 rfl info38
 simp only [execOp, ho, hx, Sem.run_bind, this, Result.andThen_ok, Sem.run_pure]
theorem run_box38 {s : Tok Int} (ho : o.op = .box 38 x) (hx : ρ x = .agg (tkA s)) : (execOp ρ o).run Tryz.prog w = .ok (.value (.pointer (some ⟨w.heap.size, 0, none⟩))) (w.alloc (.cells (tkA s) 38)) := by
 simp [execOp, ho, hx, go_sem]
theorem run_of48 {a b : Int} (ho : o.op = .build 48 #[(0, x), (1, y)]) (hx : ρ x = .int .i64 a) (hy : ρ y = .int .i64 b) : (execOp ρ o).run Tryz.prog w = .ok (.value (.agg (spA (a, b)))) w := by
 simp [execOp, ho, hx, hy, go_sem]
theorem run_of38 {a c : Int} {b : Bys} (ho : o.op = .build 38 #[(0, x), (1, y), (2, z)]) (hx : ρ x = .int .i64 a) (hy : ρ y = .string (ofL b)) (hz : ρ z = .int .i64 c) : (execOp ρ o).run Tryz.prog w = .ok (.value (.agg (tkA (a, b, c)))) w := by
 simp [execOp, ho, hx, hy, hz, go_sem]
theorem run_of38_2 {c : Int} (ho : o.op = .build 38 #[(2, z)]) (hz : ρ z = .int .i64 c) : (execOp ρ o).run Tryz.prog w = .ok (.value (.agg (tkA (0, [], c)))) w := by
 simp [execOp, ho, hz, go_sem]; rfl
theorem run_zero38 (ho : o.op = .build 38 #[]) : (execOp ρ o).run Tryz.prog w = .ok (.value (.agg (tkA (0, [], 0)))) w := by
 simp [execOp, ho, go_sem]; rfl
theorem run_of54 {a b : Int} (ho : o.op = .build 54 #[(0, x), (1, y)]) (hx : ρ x = .int .i64 a) (hy : ρ y = .int .i64 b) : (execOp ρ o).run Tryz.prog w = .ok (.value (.agg #[.int .i64 a, .int .i64 b])) w := by
 simp [execOp, ho, hx, hy, go_sem]
theorem run_ldi {n : Int} (ho : o.op = .load 3 x) (hx : ρ x = .pointer (some ⟨g, off, none⟩)) (hc : w.cell? ⟨g, off, none⟩ = some (.int .i64 n)) : (execOp ρ o).run Tryz.prog w = .ok (.value (.int .i64 n)) w := by
 simp [execOp, ho, hx, go_sem, hc]
theorem run_lde {n : Int} (ho : o.op = .load 25 x) (hx : ρ x = .pointer (some ⟨g, off, none⟩)) (hc : w.cell? ⟨g, off, none⟩ = some (.int .i64 n)) : (execOp ρ o).run Tryz.prog w = .ok (.value (.int .i64 n)) w := by
 simp [execOp, ho, hx, go_sem, hc]
theorem run_lds {s : Bys} (ho : o.op = .load 9 x) (hx : ρ x = .pointer (some ⟨g, off, none⟩)) (hc : w.cell? ⟨g, off, none⟩ = some (.string (ofL s))) : (execOp ρ o).run Tryz.prog w = .ok (.value (.string (ofL s))) w := by
 simp [execOp, ho, hx, go_sem, hc]
theorem run_ldb {b : Bool} (ho : o.op = .load 4 x) (hx : ρ x = .pointer (some ⟨g, off, none⟩)) (hc : w.cell? ⟨g, off, none⟩ = some (.bool b)) : (execOp ρ o).run Tryz.prog w = .ok (.value (.bool b)) w := by
 simp [execOp, ho, hx, go_sem, hc]
theorem run_ld22 {v : Value} (ho : o.op = .load 22 x) (hx : ρ x = .pointer (some ⟨g, off, none⟩)) (hc : w.cell? ⟨g, off, none⟩ = some v) : (execOp ρ o).run Tryz.prog w = .ok (.value v) w := by
 simp [execOp, ho, hx, go_sem, hc]
theorem run_ld34 {v : Value} (ho : o.op = .load 34 x) (hx : ρ x = .pointer (some ⟨g, off, none⟩)) (hc : w.cell? ⟨g, off, none⟩ = some v) : (execOp ρ o).run Tryz.prog w = .ok (.value v) w := by
 simp [execOp, ho, hx, go_sem, hc]
theorem run_ld70 {v : Value} (ho : o.op = .load 70 x) (hx : ρ x = .pointer (some ⟨g, off, none⟩)) (hc : w.cell? ⟨g, off, none⟩ = some v) : (execOp ρ o).run Tryz.prog w = .ok (.value v) w := by
 simp [execOp, ho, hx, go_sem, hc]
theorem run_len22 (ho : o.op = .call ⟨.builtin .len, #[x], #[22]⟩) (hx : ρ x = .slice p n cap) : (execOp ρ o).run Tryz.prog w = .ok (.value (.int .i64 n)) w := by
 simp [execOp, ho, hx, resolve, invoke, go_sem]
theorem run_index22 (ho : o.op = .indexAddr 22 x y) (hx : ρ x = .slice (some ⟨g, off, none⟩) n cap) (hy : ρ y = .int .i64 i) (hi : i < n) : (execOp ρ o).run Tryz.prog w = .ok (.value (.pointer (some ⟨g, off + i * 2, none⟩))) w := by
 have h1 : (i : Int) < n := by omega
 simp [execOp, ho, hx, hy, go_sem, h1]
theorem run_len34 (ho : o.op = .call ⟨.builtin .len, #[x], #[34]⟩) (hx : ρ x = .slice p n cap) : (execOp ρ o).run Tryz.prog w = .ok (.value (.int .i64 n)) w := by
 simp [execOp, ho, hx, resolve, invoke, go_sem]
theorem run_index34 (ho : o.op = .indexAddr 34 x y) (hx : ρ x = .slice (some ⟨g, off, none⟩) n cap) (hy : ρ y = .int .i64 i) (hi : i < n) : (execOp ρ o).run Tryz.prog w = .ok (.value (.pointer (some ⟨g, off + i * 3, none⟩))) w := by
 have h1 : (i : Int) < n := by omega
 simp [execOp, ho, hx, hy, go_sem, h1]
theorem run_len52 (ho : o.op = .call ⟨.builtin .len, #[x], #[52]⟩) (hx : ρ x = .slice p n cap) : (execOp ρ o).run Tryz.prog w = .ok (.value (.int .i64 n)) w := by
 simp [execOp, ho, hx, resolve, invoke, go_sem]
theorem run_index52 (ho : o.op = .indexAddr 52 x y) (hx : ρ x = .slice (some ⟨g, off, none⟩) n cap) (hy : ρ y = .int .i64 i) (hi : i < n) : (execOp ρ o).run Tryz.prog w = .ok (.value (.pointer (some ⟨g, off + i, none⟩))) w := by
 have h1 : (i : Int) < n := by omega
 simp [execOp, ho, hx, hy, go_sem, h1]
theorem run_len70 (ho : o.op = .call ⟨.builtin .len, #[x], #[70]⟩) (hx : ρ x = .slice p n cap) : (execOp ρ o).run Tryz.prog w = .ok (.value (.int .i64 n)) w := by
 simp [execOp, ho, hx, resolve, invoke, go_sem]
theorem run_index70 (ho : o.op = .indexAddr 70 x y) (hx : ρ x = .slice (some ⟨g, off, none⟩) n cap) (hy : ρ y = .int .i64 i) (hi : i < n) : (execOp ρ o).run Tryz.prog w = .ok (.value (.pointer (some ⟨g, off + i, none⟩))) w := by
 have h1 : (i : Int) < n := by omega
 simp [execOp, ho, hx, hy, go_sem, h1]
theorem run_slen {s : Bys} (ho : o.op = .call ⟨.builtin .len, #[x], #[9]⟩) (hx : ρ x = .string (ofL s)) : (execOp ρ o).run Tryz.prog w = .ok (.value (.int .i64 s.length)) w := by
 have := ofL_size s
 simp [execOp, ho, hx, resolve, invoke, go_sem, this]
theorem run_byte {s : Bys} {b : UInt8} (ho : o.op = .index 9 x y) (hx : ρ x = .string (ofL s)) (hy : ρ y = .int .i64 i) (hb : s[i]? = some b) : (execOp ρ o).run Tryz.prog w = .ok (.value (.int .u8 b.toNat)) w := by
 have hi : i < s.length := (List.getElem?_eq_some_iff.1 hb).1
 have h1 : (i : Int) < s.length := by omega
 have h2 := ofL_size s
 have h3 : (ofL s)[i]'(by rw [h2]; exact hi) = b := by
  have := (List.getElem?_eq_some_iff.1 hb).2
  unfold ofL; simpa [ByteArray.getElem_eq_getElem_data] using this
 simp [execOp, ho, hx, hy, go_sem, h1, h2, hi, h3]
theorem run_sub {s : Bys} {a b : Nat} (ho : o.op = .slice 9 x (some y) (some z) none) (hx : ρ x = .string (ofL s)) (hy : ρ y = .int .i64 a) (hz : ρ z = .int .i64 b) (hab : a ≤ b) (hb : b ≤ s.length) : (execOp ρ o).run Tryz.prog w = .ok (.value (.string (ofL ((s.take b).drop a)))) w := by
 have h1 : (b : Int) ≤ s.length := by omega
 have h0 : (a : Int) ≤ b := by omega
 have h2 := ofL_size s
 have h3 : (ofL s).extract a b = ofL ((s.take b).drop a) := by
  unfold ofL; apply ByteArray.ext; simp [List.drop_take]
 simp [execOp, ho, hx, hy, hz, go_sem, h0, h1, h2, h3]
theorem run_subl {s : Bys} {a : Nat} (ho : o.op = .slice 9 x (some y) none none) (hx : ρ x = .string (ofL s)) (hy : ρ y = .int .i64 a) (ha : a ≤ s.length) : (execOp ρ o).run Tryz.prog w = .ok (.value (.string (ofL (s.drop a)))) w := by
 have h1 : (a : Int) ≤ s.length := by omega
 have h2 := ofL_size s
 have h3 : (ofL s).extract a s.length = ofL (s.drop a) := by
  unfold ofL; apply ByteArray.ext; simp [List.take_of_length_le]
 have h4 : List.take (s.length - a) (s.drop a) = s.drop a := List.take_of_length_le (by simp)
 simp [execOp, ho, hx, hy, go_sem, h1, h2, h3, h4]
theorem run_seq {s u : Bys} (hx : ρ x = .string (ofL s)) (hy : ρ y = .string (ofL u)) (ho : o.op = .binOp .eql 9 x y 9) : (execOp ρ o).run Tryz.prog w = .ok (.value (.bool (s == u))) w := by
 rw [← ofL_eq]; exact run_seql hx hy ho
theorem run_sne {s u : Bys} (hx : ρ x = .string (ofL s)) (hy : ρ y = .string (ofL u)) (ho : o.op = .binOp .neq 9 x y 9) : (execOp ρ o).run Tryz.prog w = .ok (.value (.bool (!(s == u)))) w := by
 rw [← ofL_eq]; exact run_sneq hx hy ho
theorem run_sadd {s u : Bys} (hx : ρ x = .string (ofL s)) (hy : ρ y = .string (ofL u)) (ho : o.op = .binOp .add 9 x y 9) (hl : s.length + u.length ≤ 9223372036854775807) : (execOp ρ o).run Tryz.prog w = .ok (.value (.string (ofL (s ++ u)))) w := by
 have h3 : ofL s ++ ofL u = ofL (s ++ u) := by
  unfold ofL; apply ByteArray.ext; simp
 have h4 : (ofL s).size + (ofL u).size ≤ 9223372036854775807 := by rw [ofL_size, ofL_size]; exact hl
 simp [execOp, ho, hx, hy, go_sem, h3, h4]
theorem run_speq {s u : Sp} (hx : ρ x = .agg (spA s)) (hy : ρ y = .agg (spA u)) (ho : o.op = .binOp .eql 48 x y 48) : (execOp ρ o).run Tryz.prog w = .ok (.value (.bool (s == u))) w := by
 have e : (s == u) = (s.1 == u.1 && s.2 == u.2) := rfl
 simp [execOp, ho, hx, hy, go_sem, e]
 by_cases h1 : s.1 = u.1 <;> by_cases h2 : s.2 = u.2 <;> simp [h1, h2]
theorem run_spne {s u : Sp} (hx : ρ x = .agg (spA s)) (hy : ρ y = .agg (spA u)) (ho : o.op = .binOp .neq 48 x y 48) : (execOp ρ o).run Tryz.prog w = .ok (.value (.bool (!(s == u)))) w := by
 have e : (s == u) = (s.1 == u.1 && s.2 == u.2) := rfl
 simp [execOp, ho, hx, hy, go_sem, e]
 by_cases h1 : s.1 = u.1 <;> by_cases h2 : s.2 = u.2 <;> simp [h1, h2]
theorem run_irem {m n : Int} (hx : ρ x = .int .i64 m) (hy : ρ y = .int .i64 n) (hm : 0 ≤ m) (hm2 : m ≤ 9223372036854775807) (hn : 0 < n) (hn2 : n ≤ 9223372036854775807) (ho : o.op = .binOp .rem 3 x y 3) : (execOp ρ o).run Tryz.prog w = .ok (.value (.int .i64 (m % n))) w := by
 have h1 := Int.emod_nonneg m (show n ≠ 0 by omega)
 have h2 := Int.emod_lt_of_pos m hn
 have h3 : ¬ n = 0 := by omega
 have h4 := IntWalk.i64_in (m % n) ⟨by omega, by omega⟩
 have h5 : m.tmod n = m % n := Int.tmod_eq_emod_of_nonneg hm
 simp [execOp, ho, hx, hy, go_sem, h3, h5, h4]
theorem run_iquo {m n : Int} (hx : ρ x = .int .i64 m) (hy : ρ y = .int .i64 n) (hm : 0 ≤ m) (hm2 : m ≤ 9223372036854775807) (hn : 0 < n) (hn2 : n ≤ 9223372036854775807) (ho : o.op = .binOp .quo 3 x y 3) : (execOp ρ o).run Tryz.prog w = .ok (.value (.int .i64 (m / n))) w := by
 have h1 := Int.ediv_nonneg hm (show 0 ≤ n by omega)
 have h2 := Int.ediv_le_self n hm
 have h3 : ¬ n = 0 := by omega
 have h4 := IntWalk.i64_in (m / n) ⟨by omega, by omega⟩
 have h5 : m.tdiv n = m / n := Int.tdiv_eq_ediv_of_nonneg hm
 simp [execOp, ho, hx, hy, go_sem, h3, h5, h4]
theorem run_min {m n : Int} (ho : o.op = .call ⟨.builtin .min, #[x, y], #[3, 3]⟩) (hx : ρ x = .int .i64 m) (hy : ρ y = .int .i64 n) : (execOp ρ o).run Tryz.prog w = .ok (.value (.int .i64 (min m n))) w := by
 simp [execOp, ho, hx, hy, resolve, invoke, go_sem]
 try omega
theorem run_max {m n : Int} (ho : o.op = .call ⟨.builtin .max, #[x, y], #[3, 3]⟩) (hx : ρ x = .int .i64 m) (hy : ρ y = .int .i64 n) : (execOp ρ o).run Tryz.prog w = .ok (.value (.int .i64 (max m n))) w := by
 simp [execOp, ho, hx, hy, resolve, invoke, go_sem]
 try omega
end
section
variable {w : World} {b k : Nat} {cs : Array Value} {T : TypeId}
theorem rng2 (h : w.heap[b]? = some (.cells cs T (0, 0))) (k : Nat) {p : Sp} (h0 : cs[k]? = some (.int .i64 p.1)) (h1 : cs[k + 1]? = some (.int .i64 p.2)) : w.rangeAt b k (spL p) := by
 intro j v hv
 rw [cell_of_blk h]
 match j, hv with
 | 0, hv => rw [← Option.some.inj hv]; exact h0
 | 1, hv => rw [← Option.some.inj hv]; exact h1
 | j + 2, hv => simp [spL] at hv
theorem rng3 (h : w.heap[b]? = some (.cells cs T (0, 0))) (k : Nat) {p : Tok Int} (h0 : cs[k]? = some (.int .i64 p.1)) (h1 : cs[k + 1]? = some (.string (ofL p.2.1))) (h2 : cs[k + 2]? = some (.int .i64 p.2.2)) : w.rangeAt b k (tkL p) := by
 intro j v hv
 rw [cell_of_blk h]
 match j, hv with
 | 0, hv => rw [← Option.some.inj hv]; exact h0
 | 1, hv => rw [← Option.some.inj hv]; exact h1
 | 2, hv => rw [← Option.some.inj hv]; exact h2
 | j + 3, hv => simp [tkL] at hv
end
section
variable {P : Program} {O : Array Oper} {Q : Exit → Act → World → Prop} {rest : List Oper} {o : Oper} {a : Act} {w : World} {n d : Nat} {L : List (Nat × Value)} {x y : Operand} {b : Nat} {ds : List Deferred}
/-- A step that makes a block. -/
theorem env_new {T : TypeId} {cs : Array Value} (E : EnvD ds n L a) (hd : o.dst = some d) (hn : d < n) (hf : (L.map (·.1)).contains d = false) (hw : Region.wanted o (yielded O a.tmps) = true) (hr : (execOp a.eval o).run P w = .ok (.value (.pointer (some ⟨w.heap.size, 0, none⟩))) (w.alloc (.cells cs T)))
  (k : ∀ a' w' b, w.heap.size = b → w'.heap[b]? = some (.cells cs T (0, 0)) → Fr (fun _ => False) w w' → EnvD ds n ((d, .pointer (some ⟨b, 0, none⟩)) :: L) a' → wpList P O Q rest a' w') : wpList P O Q (o :: rest) a w :=
 env_put E hd hn hf hw hr fun a' E' => k a' _ _ rfl (blk_alloc_new _ _) ((Fr.refl _ _).alloc _) E'
/-- A store of one cell into a block that is known whole. -/
theorem env_st1 {T : TypeId} {cs : Array Value} {j : Nat} {v : Value} (E : EnvD ds n L a) (hd : o.dst = none) (hw : Region.wanted o (yielded O a.tmps) = true) (hb : w.heap[b]? = some (.cells cs T (0, 0))) (hr : (execOp a.eval o).run P w = .ok .skip (w.setCell ⟨b, j, none⟩ v))
  (k : ∀ w', w'.heap[b]? = some (.cells (cs.setIfInBounds j v) T (0, 0)) → Fr (fun r => r = b) w w' → EnvD ds n L a → wpList P O Q rest a w') : wpList P O Q (o :: rest) a w :=
 env_store E hd hw hr (k _ (blk_setCell_same hb v) ((Fr.refl (fun r => r = b) _).setCell (p := ⟨b, j, none⟩) (fun _ => rfl) v))
end
section
variable {o : Oper} {w : World} {ρ : Operand → Value} {x y z : Operand} {b off : Nat} {u : Value}
theorem run_st3 {m : Int} (ho : o.op = .store 3 x y) (hx : ρ x = .pointer (some ⟨b, off, none⟩)) (hy : ρ y = .int .i64 m) (hc : w.cell? ⟨b, off, none⟩ = some u) (hz : w.frozen? ⟨b, off, none⟩ = false) : (execOp ρ o).run Tryz.prog w = .ok .skip (w.setCell ⟨b, off, none⟩ (.int .i64 m)) := by
 simp [execOp, ho, hx, hy, go_sem, hc, hz]
theorem run_st25 {m : Int} (ho : o.op = .store 25 x y) (hx : ρ x = .pointer (some ⟨b, off, none⟩)) (hy : ρ y = .int .i64 m) (hc : w.cell? ⟨b, off, none⟩ = some u) (hz : w.frozen? ⟨b, off, none⟩ = false) : (execOp ρ o).run Tryz.prog w = .ok .skip (w.setCell ⟨b, off, none⟩ (.int .i64 m)) := by
 simp [execOp, ho, hx, hy, go_sem, hc, hz]
theorem run_st9 {s : ByteArray} (ho : o.op = .store 9 x y) (hx : ρ x = .pointer (some ⟨b, off, none⟩)) (hy : ρ y = .string s) (hc : w.cell? ⟨b, off, none⟩ = some u) (hz : w.frozen? ⟨b, off, none⟩ = false) : (execOp ρ o).run Tryz.prog w = .ok .skip (w.setCell ⟨b, off, none⟩ (.string s)) := by
 simp [execOp, ho, hx, hy, go_sem, hc, hz]
theorem run_st4 {t : Bool} (ho : o.op = .store 4 x y) (hx : ρ x = .pointer (some ⟨b, off, none⟩)) (hy : ρ y = .bool t) (hc : w.cell? ⟨b, off, none⟩ = some u) (hz : w.frozen? ⟨b, off, none⟩ = false) : (execOp ρ o).run Tryz.prog w = .ok .skip (w.setCell ⟨b, off, none⟩ (.bool t)) := by
 simp [execOp, ho, hx, hy, go_sem, hc, hz]
theorem run_st22 {p : Option Addr} {n c : Nat} (ho : o.op = .store 22 x y) (hx : ρ x = .pointer (some ⟨b, off, none⟩)) (hy : ρ y = .slice p n c) (hc : w.cell? ⟨b, off, none⟩ = some u) (hz : w.frozen? ⟨b, off, none⟩ = false) : (execOp ρ o).run Tryz.prog w = .ok .skip (w.setCell ⟨b, off, none⟩ (.slice p n c)) := by
 simp [execOp, ho, hx, hy, go_sem, hc, hz]
theorem run_st34 {p : Option Addr} {n c : Nat} (ho : o.op = .store 34 x y) (hx : ρ x = .pointer (some ⟨b, off, none⟩)) (hy : ρ y = .slice p n c) (hc : w.cell? ⟨b, off, none⟩ = some u) (hz : w.frozen? ⟨b, off, none⟩ = false) : (execOp ρ o).run Tryz.prog w = .ok .skip (w.setCell ⟨b, off, none⟩ (.slice p n c)) := by
 simp [execOp, ho, hx, hy, go_sem, hc, hz]
theorem run_st70 {p : Option Addr} {n c : Nat} (ho : o.op = .store 70 x y) (hx : ρ x = .pointer (some ⟨b, off, none⟩)) (hy : ρ y = .slice p n c) (hc : w.cell? ⟨b, off, none⟩ = some u) (hz : w.frozen? ⟨b, off, none⟩ = false) : (execOp ρ o).run Tryz.prog w = .ok .skip (w.setCell ⟨b, off, none⟩ (.slice p n c)) := by
 simp [execOp, ho, hx, hy, go_sem, hc, hz]
theorem run_alloc48 (ho : o.op = .alloc 48) : (execOp ρ o).run Tryz.prog w = .ok (.value (.pointer (some ⟨w.heap.size, 0, none⟩))) (w.alloc (.cells (spA (0, 0)) 48)) := by
 simp [execOp, ho, go_sem]
theorem run_alloc38 (ho : o.op = .alloc 38) : (execOp ρ o).run Tryz.prog w = .ok (.value (.pointer (some ⟨w.heap.size, 0, none⟩))) (w.alloc (.cells (tkA (0, [], 0)) 38)) := by
 simp [execOp, ho, go_sem]; rfl
theorem run_alloc22 (ho : o.op = .alloc 22) : (execOp ρ o).run Tryz.prog w = .ok (.value (.pointer (some ⟨w.heap.size, 0, none⟩))) (w.alloc (.cells (#[.slice none 0 0]) 22)) := by
 simp [execOp, ho, go_sem]
theorem run_alloc34 (ho : o.op = .alloc 34) : (execOp ρ o).run Tryz.prog w = .ok (.value (.pointer (some ⟨w.heap.size, 0, none⟩))) (w.alloc (.cells (#[.slice none 0 0]) 34)) := by
 simp [execOp, ho, go_sem]
theorem run_alloc70 (ho : o.op = .alloc 70) : (execOp ρ o).run Tryz.prog w = .ok (.value (.pointer (some ⟨w.heap.size, 0, none⟩))) (w.alloc (.cells (#[.slice none 0 0]) 70)) := by
 simp [execOp, ho, go_sem]
theorem run_alloc25 (ho : o.op = .alloc 25) : (execOp ρ o).run Tryz.prog w = .ok (.value (.pointer (some ⟨w.heap.size, 0, none⟩))) (w.alloc (.cells (#[.int .i64 0]) 25)) := by
 simp [execOp, ho, go_sem]
theorem run_alloc3 (ho : o.op = .alloc 3) : (execOp ρ o).run Tryz.prog w = .ok (.value (.pointer (some ⟨w.heap.size, 0, none⟩))) (w.alloc (.cells (#[.int .i64 0]) 3)) := by
 simp [execOp, ho, go_sem]
theorem run_alloc54 (ho : o.op = .alloc 54) : (execOp ρ o).run Tryz.prog w = .ok (.value (.pointer (some ⟨w.heap.size, 0, none⟩))) (w.alloc (.cells (#[.int .i64 0, .int .i64 0]) 54)) := by
 simp [execOp, ho, go_sem]
theorem run_alloc81 (ho : o.op = .alloc 81) : (execOp ρ o).run Tryz.prog w = .ok (.value (.pointer (some ⟨w.heap.size, 0, none⟩))) (w.alloc (.cells (#[.int .i64 0, .string (ofL []), .int .i64 0, .int .i64 0]) 81)) := by
 simp [execOp, ho, go_sem]; rfl
end
section
variable {O : Array Oper} {Q : Exit → Act → World → Prop} {rest : List Oper} {o : Oper} {a : Act} {w : World} {n d : Nat} {L : List (Nat × Value)} {x y : Operand} {b : Nat} {ds : List Deferred}
theorem run_st48 {ρ : Operand → Value} {s t : Sp} {T : TypeId} (ho : o.op = .store 48 x y) (hx : ρ x = .pointer (some ⟨b, 0, none⟩)) (hy : ρ y = .agg (spA t)) (h : w.heap[b]? = some (.cells (spA s) T (0, 0))) :
  (execOp ρ o).run Tryz.prog w = .ok .skip ((w.setCell ⟨b, 0, none⟩ (.int .i64 t.1)).setCell ⟨b, 1, none⟩ (.int .i64 t.2)) := by
 have h1 := blk_setCell_same h (off := 0) (.int .i64 t.1)
 have c0 : w.cell? ⟨b, 0, none⟩ = some (.int .i64 s.1) := cell_of_blk h 0
 have c1 : (w.setCell ⟨b, 0, none⟩ (.int .i64 t.1)).cell? ⟨b, 1, none⟩ = some (.int .i64 s.2) := cell_of_blk h1 1
 have f0 := free_of_blk h 0; have f1 := free_of_blk h1 1
 simp [execOp, ho, hx, hy, go_sem, storeCells, c0, c1, f0, f1]
theorem run_st38 {ρ : Operand → Value} {s t : Tok Int} {T : TypeId} (ho : o.op = .store 38 x y) (hx : ρ x = .pointer (some ⟨b, 0, none⟩)) (hy : ρ y = .agg (tkA t)) (h : w.heap[b]? = some (.cells (tkA s) T (0, 0))) :
  (execOp ρ o).run Tryz.prog w = .ok .skip (((w.setCell ⟨b, 0, none⟩ (.int .i64 t.1)).setCell ⟨b, 1, none⟩ (.string (ofL t.2.1))).setCell ⟨b, 2, none⟩ (.int .i64 t.2.2)) := by
 have h1 := blk_setCell_same h (off := 0) (.int .i64 t.1)
 have h2 := blk_setCell_same h1 (off := 1) (.string (ofL t.2.1))
 have c0 : w.cell? ⟨b, 0, none⟩ = some (.int .i64 s.1) := cell_of_blk h 0
 have c1 : (w.setCell ⟨b, 0, none⟩ (.int .i64 t.1)).cell? ⟨b, 1, none⟩ = some (.string (ofL s.2.1)) := cell_of_blk h1 1
 have c2 : ((w.setCell ⟨b, 0, none⟩ (.int .i64 t.1)).setCell ⟨b, 1, none⟩ (.string (ofL t.2.1))).cell? ⟨b, 2, none⟩ = some (.int .i64 s.2.2) := cell_of_blk h2 2
 have f0 := free_of_blk h 0; have f1 := free_of_blk h1 1; have f2 := free_of_blk h2 2
 simp [execOp, ho, hx, hy, go_sem, storeCells, c0, c1, c2, f0, f1, f2]
theorem env_st48 {s t : Sp} {T : TypeId} (E : EnvD ds n L a) (hd : o.dst = none) (hw : Region.wanted o (yielded O a.tmps) = true) (ho : o.op = .store 48 x y) (hx : a.eval x = .pointer (some ⟨b, 0, none⟩)) (hy : a.eval y = .agg (spA t)) (h : w.heap[b]? = some (.cells (spA s) T (0, 0)))
  (k : ∀ w', w'.heap[b]? = some (.cells (spA t) T (0, 0)) → Fr (fun r => r = b) w w' → EnvD ds n L a → wpList Tryz.prog O Q rest a w') : wpList Tryz.prog O Q (o :: rest) a w :=
 env_store E hd hw (run_st48 ho hx hy h) (k _ (blk_setCell_same (blk_setCell_same h _) _) (((Fr.refl (fun r => r = b) _).setCell (p := ⟨b, 0, none⟩) (fun _ => rfl) _).setCell (p := ⟨b, 1, none⟩) (fun _ => rfl) _))
theorem env_st38 {s t : Tok Int} {T : TypeId} (E : EnvD ds n L a) (hd : o.dst = none) (hw : Region.wanted o (yielded O a.tmps) = true) (ho : o.op = .store 38 x y) (hx : a.eval x = .pointer (some ⟨b, 0, none⟩)) (hy : a.eval y = .agg (tkA t)) (h : w.heap[b]? = some (.cells (tkA s) T (0, 0)))
  (k : ∀ w', w'.heap[b]? = some (.cells (tkA t) T (0, 0)) → Fr (fun r => r = b) w w' → EnvD ds n L a → wpList Tryz.prog O Q rest a w') : wpList Tryz.prog O Q (o :: rest) a w :=
 env_store E hd hw (run_st38 ho hx hy h) (k _ (blk_setCell_same (blk_setCell_same (blk_setCell_same h _) _) _) ((((Fr.refl (fun r => r = b) _).setCell (p := ⟨b, 0, none⟩) (fun _ => rfl) _).setCell (p := ⟨b, 1, none⟩) (fun _ => rfl) _).setCell (p := ⟨b, 2, none⟩) (fun _ => rfl) _))
end
end Go.Proofs.YtjaffpnegdcjnaaGreatDoor
