/- How a law's row is closed: the call returns true and leaves all that was there; the arguments are opened. -/
import Derived.Test.YtcafnanbdmapgaaO1
import Derived.ProofKit
import Derived.Deep.Slices
import Derived.OpenShut
set_option linter.unusedVariables false
set_option linter.unusedSimpArgs false
namespace Go.Pl
open Go.RowKit Go.ChangeShapes Go.WideShapes

theorem trodAll_below {H : Type} {enc : TypeId × Value → H} {P : Program} (hl : laidOutB P = true) {W W' : World} (hb : Below W.heap.size W W') :
    ∀ (ts : List TypeId) (vs : List Value) (ds : List (DataW H)) (ps : List MemPlace), (∀ t ∈ ts, P.readableRec t = true ∧ t < P.types.size) → DataW.TrodAll enc P W 0 (fun _ => true) true ts vs ds ps → (∀ x ∈ ps, x.block < W.heap.size) →
      DataW.TrodAll enc P W' 0 (fun b => decide (b < W.heap.size)) true ts vs ds ps
  | [], [], [], ps, _, h, _ => h
  | t :: ts, v :: vs, d :: ds, ps, hr, h, hlt => by
    obtain ⟨p, q, h1, h2, rfl⟩ := h
    exact ⟨p, q, Below.trod hl (hr t (by simp)).1 (hr t (by simp)).2 h1 hb (fun x hx => hlt x (by simp [hx])),
      trodAll_below hl hb ts vs ds q (fun t ht => hr t (by simp [ht])) h2 (fun x hx => hlt x (by simp [hx])), rfl⟩
  | [], [], _ :: _, _, _, h, _ => h.elim
  | [], _ :: _, _, _, _, h, _ => by cases h
  | _ :: _, [], _, _, _, h, _ => by cases h
  | _ :: _, _ :: _, [], _, _, h, _ => h.elim

theorem law_post {H : Type} {enc : TypeId × Value → H} {P : Program} (hl : laidOutB P = true) {fn : Func} {s : ChangeSpec} {apart fresh handsOn : Bool} {W W' : World} {args : Array Value} {ds gs : List (DataW H)} {before : List MemPlace}
    (hread : ∀ t ∈ fn.params.toList, P.readableRec t = true ∧ t < P.types.size) {tb : TypeId} (hres : fn.resultTypes = #[tb]) (htb : P.underlying tb = some .bool) (hvars : s.vars = [])
    (hs : s.fn H (ds ++ gs) = { results := [.lit (.bool true)], args := ds }) (hW : DataW.Whole enc P fn.params.toList s.vars apart W args.toList ds gs before) (hb : Below W.heap.size W W') :
    s.post enc P fn apart fresh handsOn false W args (.bool true) W' := by
  have hlt := hW.lt
  have hW0 := hW
  obtain ⟨p, q, hA, hV, hpq, _, _⟩ := hW
  refine ⟨ds, gs, before, [], p, [], hW0, ?_, ?_, ?_, hb.frame _, fun h => by cases h⟩
  · rw [hs, hres]
    exact trodAll_mk1 (shut_bool htb _)
  · rw [hs]
    exact trodAll_below hl hb _ _ _ _ hread hA (fun x hx => hlt x (by rw [hpq]; simp [hx]))
  · rw [hs, hvars]
    rfl
end Go.Pl
namespace Go.Proofs.Ytcafnanbdmapgaa
open Go.RowKit Go.Pl Go.ChangeShapes Go.WideShapes

theorem Try.laidOut : laidOutB Try.prog = true := by kernel_rfl
theorem Try.own : ownKnob Try.prog.godebug = none := by kernel_rfl
theorem cells35 : Try.prog.cellsOf 35 = 6 := by kernel_rfl
theorem cells26 : Try.prog.cellsOf 26 = 4 := by kernel_rfl
theorem cells24 : Try.prog.cellsOf 24 = 2 := by kernel_rfl
theorem cells3 : Try.prog.cellsOf 3 = 1 := by kernel_rfl
theorem cells9 : Try.prog.cellsOf 9 = 1 := by kernel_rfl
theorem cells4 : Try.prog.cellsOf 4 = 1 := by kernel_rfl
section
variable {H : Type} {enc : TypeId × Value → H} {W : World} {base : Nat} {sp : Nat → Bool} {held : Bool} {n : Nat} {cs : List Value} {x : DataW H × List MemPlace}
set_option maxRecDepth 100000 in
theorem open_pt (h : DataW.trod enc Try.prog W base sp held n 24 cs = some x) : ∃ p : Pt, cs = (ptC p).toList := by
  obtain ⟨xs, m, _, _, hl, hlen, hf⟩ := DataW.trod_struct Try.underlying24 h
  rw [cells24] at hl
  match cs, hl with
  | [c0, c1], _ =>
  obtain ⟨y0, e0⟩ : ∃ y, xs[0]? = some y := ⟨_, List.getElem?_eq_getElem (by rw [hlen]; simp)⟩
  obtain ⟨y1, e1⟩ : ∃ y, xs[1]? = some y := ⟨_, List.getElem?_eq_getElem (by rw [hlen]; simp)⟩
  have h0 : DataW.trod enc Try.prog W base sp held m 3 (List.take (Try.prog.cellsOf 3) (List.drop 0 [c0, c1])) = some y0 := (hf 0 _ rfl).trans e0
  have h1 : DataW.trod enc Try.prog W base sp held m 3 (List.take (Try.prog.cellsOf 3) (List.drop 1 [c0, c1])) = some y1 := (hf 1 _ rfl).trans e1
  rw [cells3] at h0 h1
  obtain ⟨n0, g0, _, _⟩ := DataW.trod_int Try.underlying3 h0
  obtain ⟨n1, g1, _, _⟩ := DataW.trod_int Try.underlying3 h1
  simp at g0 g1
  exact ⟨(n0, n1), by simp [g0, g1]⟩
set_option maxRecDepth 100000 in
theorem open_bx (h : DataW.trod enc Try.prog W base sp held n 26 cs = some x) : ∃ b : Bx, cs = (bxC b).toList := by
  obtain ⟨xs, m, _, _, hl, hlen, hf⟩ := DataW.trod_struct Try.underlying26 h
  rw [cells26] at hl
  match cs, hl with
  | [c0, c1, c2, c3], _ =>
  obtain ⟨y0, e0⟩ : ∃ y, xs[0]? = some y := ⟨_, List.getElem?_eq_getElem (by rw [hlen]; simp)⟩
  obtain ⟨y1, e1⟩ : ∃ y, xs[1]? = some y := ⟨_, List.getElem?_eq_getElem (by rw [hlen]; simp)⟩
  have h0 : DataW.trod enc Try.prog W base sp held m 24 (List.take (Try.prog.cellsOf 24) (List.drop 0 [c0, c1, c2, c3])) = some y0 := (hf 0 _ rfl).trans e0
  have h1 : DataW.trod enc Try.prog W base sp held m 24 (List.take (Try.prog.cellsOf 24) (List.drop 2 [c0, c1, c2, c3])) = some y1 := (hf 1 _ rfl).trans e1
  rw [cells24] at h0 h1
  obtain ⟨p, gp⟩ := open_pt h0
  obtain ⟨q, gq⟩ := open_pt h1
  simp at gp gq
  exact ⟨(p, q), by simp [gp, gq]⟩
set_option maxRecDepth 100000 in
theorem open_wo (h : DataW.trod enc Try.prog W base sp held n 35 cs = some x) : ∃ o : Wo, cs = (opC o).toList := by
  obtain ⟨xs, m, _, _, hl, hlen, hf⟩ := DataW.trod_struct Try.underlying35 h
  rw [cells35] at hl
  match cs, hl with
  | [c0, c1, c2, c3, c4, c5], _ =>
  obtain ⟨y0, e0⟩ : ∃ y, xs[0]? = some y := ⟨_, List.getElem?_eq_getElem (by rw [hlen]; simp)⟩
  obtain ⟨y1, e1⟩ : ∃ y, xs[1]? = some y := ⟨_, List.getElem?_eq_getElem (by rw [hlen]; simp)⟩
  obtain ⟨y2, e2⟩ : ∃ y, xs[2]? = some y := ⟨_, List.getElem?_eq_getElem (by rw [hlen]; simp)⟩
  have h0 : DataW.trod enc Try.prog W base sp held m 4 (List.take (Try.prog.cellsOf 4) (List.drop 0 [c0, c1, c2, c3, c4, c5])) = some y0 := (hf 0 _ rfl).trans e0
  have h1 : DataW.trod enc Try.prog W base sp held m 9 (List.take (Try.prog.cellsOf 9) (List.drop 1 [c0, c1, c2, c3, c4, c5])) = some y1 := (hf 1 _ rfl).trans e1
  have h2 : DataW.trod enc Try.prog W base sp held m 26 (List.take (Try.prog.cellsOf 26) (List.drop 2 [c0, c1, c2, c3, c4, c5])) = some y2 := (hf 2 _ rfl).trans e2
  rw [cells4] at h0
  rw [cells9] at h1
  rw [cells26] at h2
  obtain ⟨b0, g0, _⟩ := DataW.trod_bool Try.underlying4 h0
  obtain ⟨s1, g1, _, _⟩ := DataW.trod_string Try.underlying9 h1
  obtain ⟨q, gq⟩ := open_bx h2
  simp at g0 g1 gq
  exact ⟨(b0, s1, q), by simp [g0, g1, gq]⟩
end
set_option maxRecDepth 100000 in
theorem open_wops {H : Type} {enc : TypeId × Value → H} {W : World} {v : Value} {d : DataW H} {ps : List MemPlace} {base : Nat} (hok : Value.okWide Try.prog W .any base 22 v) (h : DataW.Trod enc Try.prog W 0 (fun _ => true) true 22 v d ps) :
    ∃ (l : List Wo) (p : Option Addr) (cap : Nat), v = .slice p l.length cap ∧ srcAt opL 6 W W.heap.size p l ∧ l.length ≤ cap ∧ cap ≤ maxLen := by
  obtain ⟨a0, len0, cap0, rfl⟩ := okWide_slice Try.underlying22 hok
  obtain ⟨fuel, hf⟩ := h
  rcases Deep.open_slice Try.underlying22 hf with ⟨hcs, _⟩ | ⟨a, len, cap, m, n, D, Pl, hcs, _, hl, hm, hmm, _, hx⟩
  · simp [Value.cells] at hcs
    obtain ⟨rfl, rfl, rfl⟩ := hcs
    exact ⟨[], none, 0, rfl, .inl rfl, Nat.le_refl _, Nat.zero_le _⟩
  · simp [Value.cells] at hcs
    obtain ⟨rfl, rfl, rfl⟩ := hcs
    rw [cells35] at hx
    have hlm : len0 ≤ m := by rw [hmm]; split <;> omega
    have hall : ∀ i, i < len0 → ∃ s : Wo, ∀ j, j < 6 → W.cell? ((a.add (i * 6)).add j) = (opC s).toList[j]? := fun i hi => by
      obtain ⟨cs', h1, h2⟩ := hx i (by omega)
      obtain ⟨_, _, h3⟩ := World.cells?_some h1
      obtain ⟨s, rfl⟩ := open_wo h2
      exact ⟨s, h3⟩
    obtain ⟨f, hfn⟩ := Deep.choose_lt hall
    refine ⟨(List.range len0).map f, some a, cap0, by simp, ?_, by simpa using hl, hm⟩
    rcases Nat.eq_zero_or_pos len0 with h0 | h0
    · left; rw [h0]; rfl
    · right
      have hspot : a = ⟨a.block, a.off, none⟩ ∧ a.block < W.heap.size := by
        have := hfn 0 h0 0 (by omega)
        rw [Nat.zero_mul] at this
        have e0 : (a.add 0).add 0 = a := by simp [Addr.add]
        rw [e0] at this
        refine ⟨?_, World.block_lt_of_cell? W a this⟩
        cases a with
        | mk b o s =>
          cases s with
          | none => rfl
          | some k =>
            unfold World.cell? at this
            split at this <;> simp at this
      refine ⟨a.block, a.off, by rw [← hspot.1], hspot.2, fun i s hs j v hv => ?_⟩
      rw [List.getElem?_map] at hs
      have hi : i < len0 := by
        cases h : (List.range len0)[i]? with
        | none => rw [h] at hs; cases hs
        | some x => have := (List.getElem?_eq_some_iff.1 h).1; simpa using this
      rw [List.getElem?_range hi] at hs
      simp at hs
      subst hs
      have hj : j < 6 := by
        have := (List.getElem?_eq_some_iff.1 hv).1
        simpa using this
      have := hfn i hi j hj
      rw [hspot.1, hv] at this
      rw [← this]
      congr 1
      unfold Addr.add
      by_cases h1 : i * 6 = 0 <;> by_cases h2 : j = 0 <;> simp [h1, h2, Nat.add_assoc]
set_option maxRecDepth 100000 in
theorem open_pt_arg {H : Type} {enc : TypeId × Value → H} {W : World} {v : Value} {d : DataW H} {ps : List MemPlace} {base : Nat} (hok : Value.okWide Try.prog W .any base 24 v) (h : DataW.Trod enc Try.prog W 0 (fun _ => true) true 24 v d ps) :
    ∃ q : Pt, v = .agg (ptC q) := by
  obtain ⟨cs, rfl, _⟩ := okWide_struct Try.underlying24 hok
  obtain ⟨fuel, hf⟩ := h
  obtain ⟨q, hq⟩ := open_pt hf
  exact ⟨q, by rw [← Array.toList_inj.1 hq]; rfl⟩
set_option maxRecDepth 100000 in
theorem open_bx_arg {H : Type} {enc : TypeId × Value → H} {W : World} {v : Value} {d : DataW H} {ps : List MemPlace} {base : Nat} (hok : Value.okWide Try.prog W .any base 26 v) (h : DataW.Trod enc Try.prog W 0 (fun _ => true) true 26 v d ps) :
    ∃ q : Bx, v = .agg (bxC q) := by
  obtain ⟨cs, rfl, _⟩ := okWide_struct Try.underlying26 hok
  obtain ⟨fuel, hf⟩ := h
  obtain ⟨q, hq⟩ := open_bx hf
  exact ⟨q, by rw [← Array.toList_inj.1 hq]; rfl⟩
set_option maxRecDepth 100000 in
theorem open_wo_arg {H : Type} {enc : TypeId × Value → H} {W : World} {v : Value} {d : DataW H} {ps : List MemPlace} {base : Nat} (hok : Value.okWide Try.prog W .any base 35 v) (h : DataW.Trod enc Try.prog W 0 (fun _ => true) true 35 v d ps) :
    ∃ q : Wo, v = .agg (opC q) := by
  obtain ⟨cs, rfl, _⟩ := okWide_struct Try.underlying35 hok
  obtain ⟨fuel, hf⟩ := h
  obtain ⟨q, hq⟩ := open_wo hf
  exact ⟨q, by rw [← Array.toList_inj.1 hq]; rfl⟩
end Go.Proofs.Ytcafnanbdmapgaa
