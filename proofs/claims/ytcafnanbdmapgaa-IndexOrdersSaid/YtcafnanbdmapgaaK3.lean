/- The index in memory. -/
import Derived.Test.YtcafnanbdmapgaaK2
import Derived.StringKeys
set_option linter.unusedVariables false
set_option linter.unusedSimpArgs false
namespace Go.Proofs.Ytcafnanbdmapgaa
open Go.RowKit Go.Pl
/-- The map of the boxes, as a function on values. -/
def bxM (m : ByteArray → Option Bx) : Value → Option Value
  | .string s => (m s).map fun b => .agg (bxC b)
  | _ => none
/-- The entries of a map, each once. -/
def EnOf (L : List En) (m : ByteArray → Option Bx) : Prop := (L.map (·.1)).Nodup ∧ ∀ s b, (s, b) ∈ L ↔ m s = some b
/-- What the root is: nil at no entry, or a node with all of them. -/
def RootAt (w : World) (S : Nat → Prop) (rv : Value) (m : ByteArray → Option Bx) : Prop :=
  (rv = .pointer none ∧ ∀ s, m s = none) ∨ ∃ n p b L, rv = .pointer (some ⟨p, 0, none⟩) ∧ NdAt w S n p b L ∧ EnOf L m
theorem RootAt.fr {w w' : World} {S F : Nat → Prop} {rv : Value} {m} (h : RootAt w S rv m) (hf : Fr F w w') (hS : ∀ k, S k → ¬ F k) : RootAt w' S rv m := by
  rcases h with h | ⟨n, p, b, L, h1, h2, h3⟩
  · exact .inl h
  · exact .inr ⟨n, p, b, L, h1, h2.fr hf hS, h3⟩
theorem RootAt.mono {w : World} {S S' : Nat → Prop} {rv : Value} {m} (h : RootAt w S rv m) (hS : ∀ k, S k → S' k) : RootAt w S' rv m := by
  rcases h with h | ⟨n, p, b, L, h1, h2, h3⟩
  · exact .inl h
  · exact .inr ⟨n, p, b, L, h1, h2.mono hS, h3⟩
/-- The index at block p: its map in block mb (at most N entries), a root, whether it is packed; σ has all its blocks, S those of its tree. -/
structure IxAt (w : World) (p mb N : Nat) (S : Nat → Prop) (m : ByteArray → Option Bx) (rv : Value) (pk : Bool) : Prop where
  hp : w.heap[p]? = some (.cells #[.map (some mb), rv, .bool pk] 61 (0, 0))
  hm : MapN Try.prog 9 w mb N (bxM m)
  ne : p ≠ mb
  np : ¬ S p
  nm : ¬ S mb
  lt : ∀ k, S k → k < w.heap.size
  ok : ∀ s b, m s = some b → okB b
  rp : ∃ a, rv = .pointer a
  tree : pk = true → RootAt w S rv m
theorem IxAt.fr {w w' : World} {p mb N : Nat} {S F : Nat → Prop} {m rv pk} (h : IxAt w p mb N S m rv pk) (hf : Fr F w w') (h1 : ¬ F p) (h2 : ¬ F mb) (h3 : ∀ k, S k → ¬ F k) : IxAt w' p mb N S m rv pk :=
  ⟨hf.obj h.hp h1, h.hm.fr hf h2, h.ne, h.np, h.nm, fun k hk => Nat.lt_of_lt_of_le (h.lt k hk) hf.size, h.ok, h.rp, fun hk => (h.tree hk).fr hf h3⟩
end Go.Proofs.Ytcafnanbdmapgaa
set_option linter.unusedVariables false
set_option linter.unusedSimpArgs false
namespace Go.Proofs.Ytcafnanbdmapgaa
open Go.RowKit Go.Pl Go.WideMaps
section maps3
open Classical
variable {P : Program} {K : TypeId}
/-- An object is a map of at most n entries that reads as m. -/
def ObjN (P : Program) (K : TypeId) (o : Obj) (n : Nat) (m : Value → Option Value) : Prop := ∃ es clock, o = .map es clock ∧ Ents P K es.toList clock m ∧ es.size ≤ n
theorem MapN.obj {w : World} {b n : Nat} {m} (h : MapN P K w b n m) : ∃ o, w.heap[b]? = some o ∧ ObjN P K o n m := by
  obtain ⟨es, c, hb, r⟩ := h; exact ⟨_, hb, es, c, rfl, r⟩
theorem MapN.of_obj {w : World} {b n : Nat} {m} {o : Obj} (hb : w.heap[b]? = some o) (h : ObjN P K o n m) : MapN P K w b n m := by
  obtain ⟨es, c, rfl, r⟩ := h; exact ⟨es, c, hb, r⟩
/-- 'm[k] op= ..' in two steps: the entry is made, then written. -/
theorem ObjN.entry (L : Maps.Keyed P K) {t e : TypeId} (ht : P.underlying t = some (.map K e)) {o : Obj} {m} {n : Nat} (h : ObjN P K o n m) (b : Nat) {key : Value} {l : Lit} (hk : keyOf P K key = some l) {z : Value} (hz : ∀ w, (zeroValue e).run P w = .ok z w) (v : Value) :
    ∃ o1 o2 x s, (∀ W : World, W.heap[b]? = some o → (Instr.mapEntry t (.map (some b)) key).run P W = .ok (.tuple #[x, .int .i64 s]) (setBlk W b o1)) ∧
      (∀ W : World, W.heap[b]? = some o1 → (Instr.entryStore t (.map (some b)) (.int .i64 s) v).run P W = .ok () (setBlk W b o2)) ∧ ObjN P K o2 (n + 1) (upd m key v) := by
  obtain ⟨es, c, rfl, h, hn⟩ := h
  have hall := fun w => h.find L (w := w) hk
  rcases hall default with ⟨_, h2, h3⟩ | ⟨j, en, _, h2, h3, h4⟩
  · refine ⟨.map (es.push ⟨key, z, c⟩) (c + 1), .map (es.push ⟨key, v, c⟩) (c + 1), z, c, fun W hb => ?_, fun W hb => ?_, _, _, rfl, by simpa using h.push hk h3, by simp; omega⟩
    · have h1 : (Instr.findKey K key es.toList).run P W = .ok none W := by
        rcases hall W with ⟨h1, _⟩ | ⟨j, en, _, g2, g3, _⟩
        · exact h1
        · exact absurd g3 (h3 en (List.mem_of_getElem? g2))
      simp [Instr.mapEntry, run_underlying ht, MapKept.run_getObj_map hb, L.check W false hk, h1, hz, MapKept.run_setObj_map _ hb, Result.andThen, setBlk, goInt]
    · have hs : (es.push ⟨key, z, c⟩).toList.Pairwise (fun x y => x.born ≠ y.born) := by simpa using (h.push (v := z) hk h3).stamps
      have hf : (es.push ⟨key, z, c⟩).findIdx? (fun e => (e.born : Int) == (c : Int)) = some es.size := find_stamp_arr hs (e := ⟨key, z, c⟩) (by simp)
      have hm : (es.push ⟨key, z, c⟩).modify es.size (fun e => { e with val := v }) = es.push ⟨key, v, c⟩ := by
        apply Array.ext_getElem?
        intro i
        rw [Array.getElem?_modify, Array.getElem?_push, Array.getElem?_push]
        by_cases hi : i = es.size
        · subst hi; simp
        · rw [if_neg (by omega), if_neg hi, if_neg hi]
      simp [Instr.entryStore, MapKept.run_getObj_map hb, hf, hm, asInt, asIntOf, MapKept.run_setObj_map _ hb, Result.andThen, setBlk]
  · have hj : j < es.size := by simpa using (List.getElem?_eq_some_iff.1 h2).1
    have hj2 : es[j] = en := by simpa using (List.getElem?_eq_some_iff.1 h2).2
    have hes : es[j]? = some en := by simpa using h2
    have hsame : es.modify j (fun e => { e with key := key }) = es := by
      apply Array.ext_getElem?
      intro i
      rw [Array.getElem?_modify]
      by_cases hi : j = i
      · subst hi; rw [if_pos rfl, hes, ← h3]; rfl
      · rw [if_neg hi]
    refine ⟨.map es c, .map (es.modify j fun e => { e with val := v }) c, en.val, en.born, fun W hb => ?_, fun W hb => ?_, _, _, rfl, ?_, by simp; omega⟩
    · have h1 : (Instr.findKey K key es.toList).run P W = .ok (some (j, en.val)) W := by
        rcases hall W with ⟨_, _, g3⟩ | ⟨j', en', g1, g2, g3, g4⟩
        · exact absurd h3 (g3 en (List.mem_of_getElem? h2))
        · have : j' = j := Ents.unique h.apart g2 h2 (g3.trans h3.symm)
          subst this
          rw [h2] at g2; cases g2
          exact g1
      have hst := L.stays W hk
      simp [Instr.mapEntry, run_underlying ht, MapKept.run_getObj_map hb, L.check W false hk, h1, hes, h3, hst, hsame, MapKept.run_setObj_map _ hb, Result.andThen, setBlk, goInt]
    · have hf : es.findIdx? (fun e => (e.born : Int) == (en.born : Int)) = some j := find_stamp_arr h.stamps hes
      simp [Instr.entryStore, MapKept.run_getObj_map hb, hf, asInt, asIntOf, MapKept.run_setObj_map _ hb, Result.andThen, setBlk]
    · have : (es.modify j fun e => { e with val := v }).toList = es.toList.set j { en with key := key, val := v } := by
        apply List.ext_getElem?
        intro i
        simp only [Array.getElem?_toList, Array.getElem?_modify, List.getElem?_set]
        by_cases hij : j = i
        · subst hij; simp [hj, hj2, ← h3]
        · simp [hij]
      rw [this]
      exact h.set h2 h3
end maps3
theorem law9 : Maps.Keyed Try.prog 9 := Maps.string_keyed Try.underlying9
theorem key9 {s : ByteArray} (h : s.size ≤ maxLen) : ∃ l, keyOf Try.prog 9 (.string s) = some l := ⟨_, keyOf_string_mk Try.underlying9 h⟩
theorem key9_of {k : Value} {l : Lit} (h : keyOf Try.prog 9 k = some l) : ∃ s : ByteArray, k = .string s ∧ s.size ≤ maxLen := by
  obtain ⟨x, rfl, _, h2⟩ := Maps.keyOf_str Try.underlying9 h
  exact ⟨⟨x.toArray⟩, rfl, by show (x.toArray).size ≤ _; simpa using h2⟩
theorem zero26 (w : World) : (zeroValue 26).run Try.prog w = .ok (.agg (bxC ((0, 0), (0, 0)))) w := by kernel_rfl
theorem bxM_str (m : ByteArray → Option Bx) (s : ByteArray) : bxM m (.string s) = (m s).map fun b => .agg (bxC b) := rfl
section
variable {o : Oper} {w : World} {ρ : Operand → Value} {x y z : Operand} {mb N : Nat} {m : ByteArray → Option Bx} {s : ByteArray}
theorem run_look58 (h : MapN Try.prog 9 w mb N (bxM m)) (hs : s.size ≤ maxLen) (ho : o.op = .lookup 58 x y true) (hx : ρ x = .map (some mb)) (hy : ρ y = .string s) :
    (execOp ρ o).run Try.prog w = .ok (.value (.tuple #[.agg (bxC ((m s).getD ((0, 0), (0, 0)))), .bool (m s).isSome])) w := by
  obtain ⟨l, hk⟩ := key9 hs
  have := h.at.look_ok law9 Try.underlying58 hk (zero26 w)
  simp only [execOp, ho, hx, hy, Sem.run_bind, this, Result.andThen_ok, Sem.run_pure, bxM_str]
  cases m s <;> rfl
theorem run_len58 (h : MapN Try.prog 9 w mb N (bxM m)) : ∃ c : Nat, c ≤ N ∧ ∀ (W : World) (o : Oper) (ρ : Operand → Value) (x : Operand), W.heap[mb]? = w.heap[mb]? → o.op = .call ⟨.builtin .len, #[x], #[58]⟩ → ρ x = .map (some mb) → (execOp ρ o).run Try.prog W = .ok (.value (.int .i64 c)) W := by
  obtain ⟨c, h1, _, h2⟩ := h.len Try.underlying58
  refine ⟨c, h1, fun W o ρ x hW ho hx => ?_⟩
  have := h2 W o.type hW
  simp [execOp, ho, hx, resolve, invoke, builtin, this, Result.andThen]
end
end Go.Proofs.Ytcafnanbdmapgaa
