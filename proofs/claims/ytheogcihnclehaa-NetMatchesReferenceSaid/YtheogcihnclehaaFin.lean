/- How a law's row is closed: the call returns true and leaves all that was there; a slice of operations is opened. -/
import Derived.Test.YtheogcihnclehaaSame
import Derived.ProofKit
import Derived.Deep.Slices
namespace Go.Pl
open Go.RowKit Go.ChangeShapes Go.WideShapes

theorem trodAll_below {H : Type} {enc : TypeId × Value → H} {P : Program} (hl : laidOutB P = true) {W W' : World} (hb : Below W.heap.size W W') :
    ∀ (ts : List TypeId) (vs : List Value) (ds : List (DataW H)) (ps : List MemPlace), (∀ t ∈ ts, P.readableRec t = true ∧ t < P.types.size) → DataW.TrodAll enc P W 0 (fun _ => true) true ts vs ds ps → (∀ x ∈ ps, x.block < W.heap.size) →
      DataW.TrodAll enc P W' 0 (fun b => decide (b < W.heap.size)) true ts vs ds ps
  | [], [], [], ps, _, h, _ => h
  | t :: ts, v :: vs, d :: ds, ps, hr, h, hlt => by
    obtain ⟨p, q, h1, h2, rfl⟩ := h
    exact ⟨p, q, Below.trod hl (hr t (by simp)).1 (hr t (by simp)).2 h1 hb (fun x hx => hlt x (by simp [hx])),
      trodAll_below hl hb ts vs ds q (fun t ht => hr t (by simp [ht])) h2 (fun x hx => hlt x (by simp [hx])), rfl⟩
  | [], [], _ :: _, _, _, h, _ => h.elim
  | [], _ :: _, _, _, _, h, _ => by cases h
  | _ :: _, [], _, _, _, h, _ => by cases h
  | _ :: _, _ :: _, [], _, _, h, _ => h.elim

theorem law_post {H : Type} {enc : TypeId × Value → H} {P : Program} (hl : laidOutB P = true) {fn : Func} {s : ChangeSpec} {apart fresh handsOn : Bool} {W W' : World} {args : Array Value} {ds gs : List (DataW H)} {before : List MemPlace}
    (hread : ∀ t ∈ fn.params.toList, P.readableRec t = true ∧ t < P.types.size) {tb : TypeId} (hres : fn.resultTypes = #[tb]) (htb : P.underlying tb = some .bool) (hvars : s.vars = [])
    (hs : s.fn H (ds ++ gs) = { results := [.lit (.bool true)], args := ds }) (hW : DataW.Whole enc P fn.params.toList s.vars apart W args.toList ds gs before) (hb : Below W.heap.size W W') :
    s.post enc P fn apart fresh handsOn false W args (.bool true) W' := by
  have hlt := hW.lt
  have hW0 := hW
  obtain ⟨p, q, hA, hV, hpq, _, _⟩ := hW
  refine ⟨ds, gs, before, [], p, [], hW0, ?_, ?_, ?_, hb.frame _, fun h => by cases h⟩
  · rw [hs, hres]
    exact trodAll_mk1 (shut_bool htb _)
  · rw [hs]
    exact trodAll_below hl hb _ _ _ _ hread hA (fun x hx => hlt x (by rw [hpq]; simp [hx]))
  · rw [hs, hvars]
    rfl
end Go.Pl
namespace Go.Proofs.Ytheogcihnclehaa
open Go.RowKit Go.Pl Go.ChangeShapes Go.WideShapes

theorem Try.own : ownKnob Try.prog.godebug = none := by kernel_rfl
theorem cells35 : Try.prog.cellsOf 35 = 8 := by kernel_rfl

/-- A struct's fields of one cell each, one by one. -/
theorem field_one {H : Type} {enc : TypeId × Value → H} {P : Program} {w : World} {base : Nat} {sp : Nat → Bool} {held : Bool} {n : Nat} {t : TypeId} {cs : List Value} {o : Nat} {x : Option (DataW H × List MemPlace)} (hc : P.cellsOf t = 1)
    (h : DataW.trod enc P w base sp held n t ((cs.drop o).take (P.cellsOf t)) = x) (ho : o < cs.length) : DataW.trod enc P w base sp held n t [cs[o]] = x := by
  rw [hc, List.take_one, List.head?_drop, List.getElem?_eq_getElem ho] at h
  exact h

theorem open_opr {H : Type} {enc : TypeId × Value → H} {W : World} {base : Nat} {sp : Nat → Bool} {held : Bool} {n : Nat} {cs : List Value} {x : DataW H × List MemPlace} (h : DataW.trod enc Try.prog W base sp held n 35 cs = some x) :
    ∃ o : Opr, cs = o.cells.toList ∧ o.text.size ≤ 9223372036854775807 := by
  obtain ⟨xs, m, _, _, hl, hlen, hf⟩ := DataW.trod_struct Try.underlying35 h
  rw [cells35] at hl
  match cs, hl with
  | [c0, c1, c2, c3, c4, c5, c6, c7], _ =>
  have hx : ∀ i : Nat, i < 8 → ∃ y, xs[i]? = some y := fun i hi => ⟨_, List.getElem?_eq_getElem (by rw [hlen]; exact hi)⟩
  obtain ⟨y0, e0⟩ := hx 0 (by omega)
  obtain ⟨y1, e1⟩ := hx 1 (by omega)
  obtain ⟨y2, e2⟩ := hx 2 (by omega)
  obtain ⟨y3, e3⟩ := hx 3 (by omega)
  obtain ⟨y4, e4⟩ := hx 4 (by omega)
  obtain ⟨y5, e5⟩ := hx 5 (by omega)
  obtain ⟨y6, e6⟩ := hx 6 (by omega)
  obtain ⟨y7, e7⟩ := hx 7 (by omega)
  have k3 : Try.prog.cellsOf 3 = 1 := by kernel_rfl
  have k9 : Try.prog.cellsOf 9 = 1 := by kernel_rfl
  have k4 : Try.prog.cellsOf 4 = 1 := by kernel_rfl
  obtain ⟨n0, g0, _, _⟩ := DataW.trod_int Try.underlying3 (field_one k3 ((hf 0 _ rfl).trans e0) (by simp))
  obtain ⟨n1, g1, _, _⟩ := DataW.trod_int Try.underlying3 (field_one k3 ((hf 1 _ rfl).trans e1) (by simp))
  obtain ⟨n2, g2, _, _⟩ := DataW.trod_int Try.underlying3 (field_one k3 ((hf 2 _ rfl).trans e2) (by simp))
  obtain ⟨n3, g3, _, _⟩ := DataW.trod_int Try.underlying3 (field_one k3 ((hf 3 _ rfl).trans e3) (by simp))
  obtain ⟨n4, g4, _, _⟩ := DataW.trod_int Try.underlying3 (field_one k3 ((hf 4 _ rfl).trans e4) (by simp))
  obtain ⟨n5, g5, _, _⟩ := DataW.trod_int Try.underlying3 (field_one k3 ((hf 5 _ rfl).trans e5) (by simp))
  obtain ⟨s6, g6, _, hs⟩ := DataW.trod_string Try.underlying9 (field_one k9 ((hf 6 _ rfl).trans e6) (by simp))
  obtain ⟨b7, g7, _⟩ := DataW.trod_bool Try.underlying4 (field_one k4 ((hf 7 _ rfl).trans e7) (by simp))
  simp at g0 g1 g2 g3 g4 g5 g6 g7
  exact ⟨⟨n0, n1, n2, n3, n4, n5, s6, b7⟩, by simp [g0, g1, g2, g3, g4, g5, g6, g7], by unfold maxLen at hs; exact hs⟩

/-- The argument v reads as the operations os. -/
structure OpsV (w : World) (v : Value) (sa : Option Addr) (b off cap : Nat) (os : List Opr) : Prop where
  val : v = .slice sa os.length cap
  ix : ∀ k : Nat, k < os.length → sa = some ⟨b, off, none⟩
  at_ : OpsAt w b off os
  le : os.length ≤ 9223372036854775807
  tx : ∀ o ∈ os, o.text.size ≤ 9223372036854775807

theorem open_ops {H : Type} {enc : TypeId × Value → H} {W : World} {v : Value} {d : DataW H} {ps : List MemPlace} {base : Nat} (hok : Value.okWide Try.prog W .any base 22 v) (h : DataW.Trod enc Try.prog W 0 (fun _ => true) true 22 v d ps) :
    ∃ sa b off cap os, OpsV W v sa b off cap os := by
  obtain ⟨a0, len0, cap0, rfl⟩ := okWide_slice Try.underlying22 hok
  obtain ⟨fuel, hf⟩ := h
  rcases Deep.open_slice Try.underlying22 hf with ⟨hcs, _⟩ | ⟨a, len, cap, m, n, D, Pl, hcs, _, hl, hm, hmm, _, hx⟩
  · simp [Value.cells] at hcs
    obtain ⟨rfl, rfl, rfl⟩ := hcs
    exact ⟨none, 0, 0, 0, [], rfl, by simp, fun i o h => by simp at h, by simp, by simp⟩
  · simp [Value.cells] at hcs
    obtain ⟨rfl, rfl, rfl⟩ := hcs
    rw [cells35] at hx
    have hlm : len0 ≤ m := by rw [hmm]; split <;> omega
    have hall : ∀ i, i < len0 → ∃ o : Opr, (∀ j, j < 8 → W.cell? ((a.add (i * 8)).add j) = o.cells.toList[j]?) ∧ o.text.size ≤ 9223372036854775807 := fun i hi => by
      obtain ⟨cs', h1, h2⟩ := hx i (by omega)
      obtain ⟨_, _, h3⟩ := World.cells?_some h1
      obtain ⟨o, rfl, ho⟩ := open_opr h2
      exact ⟨o, h3, ho⟩
    have : Inhabited Opr := ⟨⟨0, 0, 0, 0, 0, 0, ByteArray.empty, false⟩⟩
    obtain ⟨f, hfn⟩ := Deep.choose_lt hall
    have hspot : 0 < len0 → a = ⟨a.block, a.off, none⟩ := fun h0 => by
      have := (hfn 0 h0).1 0 (by omega)
      rw [Nat.zero_mul] at this
      have e0 : (a.add 0).add 0 = a := by simp [Addr.add]
      rw [e0] at this
      cases a with
      | mk b o s =>
        cases s with
        | none => rfl
        | some k =>
          unfold World.cell? at this
          split at this <;> simp at this
    refine ⟨some a, a.block, a.off, cap0, (List.range len0).map f, by simp, fun k hk => by simp at hk; rw [← hspot (by omega)], ?_, by simp; unfold maxLen at hm; omega, ?_⟩
    · intro i o ho j v hv
      rw [List.getElem?_map] at ho
      have hi : i < len0 := by
        cases h : (List.range len0)[i]? with
        | none => rw [h] at ho; cases ho
        | some x => have := (List.getElem?_eq_some_iff.1 h).1; simpa using this
      rw [List.getElem?_range hi] at ho
      simp at ho
      subst ho
      have hj : j < 8 := by
        have := (Array.getElem?_eq_some_iff.1 hv).1
        simpa using this
      have := (hfn i hi).1 j hj
      rw [hspot (by omega)] at this
      rw [Array.getElem?_toList, hv] at this
      rw [← this]
      congr 1
      unfold Addr.add
      by_cases h1 : i * 8 = 0 <;> by_cases h2 : j = 0 <;> simp [h1, h2, Nat.add_assoc]
    · intro o ho
      simp only [List.mem_map, List.mem_range] at ho
      obtain ⟨i, hi, rfl⟩ := ho
      exact (hfn i hi).2
end Go.Proofs.Ytheogcihnclehaa
