/- How a law's row is closed: the call returns true and leaves all that was there; the arguments are opened. -/
import Derived.Test.YtjaffpnegdcjnaaGreatDoorSC1
import Derived.Test.YtjaffpnegdcjnaaGreatDoorTie
import Derived.LaidMore
import Derived.Lib.LaidU8
import Derived.MakeChecks
import Derived.ProofKit
import Derived.Deep.Slices
import Derived.OpenShut
set_option linter.unusedVariables false
set_option linter.unusedSimpArgs false
namespace Go.Pl
open Go.RowKit Go.ChangeShapes Go.WideShapes
theorem trodAll_below {H : Type} {enc : TypeId × Value → H} {P : Program} (hl : laidOutB P = true) {W W' : World} (hb : Below W.heap.size W W') :
    ∀ (ts : List TypeId) (vs : List Value) (ds : List (DataW H)) (ps : List MemPlace), (∀ t ∈ ts, P.readableRec t = true ∧ t < P.types.size) → DataW.TrodAll enc P W 0 (fun _ => true) true ts vs ds ps → (∀ x ∈ ps, x.block < W.heap.size) →
      DataW.TrodAll enc P W' 0 (fun b => decide (b < W.heap.size)) true ts vs ds ps
  | [], [], [], ps, _, h, _ => h
  | t :: ts, v :: vs, d :: ds, ps, hr, h, hlt => by
    obtain ⟨p, q, h1, h2, rfl⟩ := h
    exact ⟨p, q, Below.trod hl (hr t (by simp)).1 (hr t (by simp)).2 h1 hb (fun x hx => hlt x (by simp [hx])),
      trodAll_below hl hb ts vs ds q (fun t ht => hr t (by simp [ht])) h2 (fun x hx => hlt x (by simp [hx])), rfl⟩
  | [], [], _ :: _, _, _, h, _ => h.elim
  | [], _ :: _, _, _, _, h, _ => by cases h
  | _ :: _, [], _, _, _, h, _ => by cases h
  | _ :: _, _ :: _, [], _, _, h, _ => h.elim
theorem law_post {H : Type} {enc : TypeId × Value → H} {P : Program} (hl : laidOutB P = true) {fn : Func} {s : ChangeSpec} {apart fresh handsOn : Bool} {W W' : World} {args : Array Value} {ds gs : List (DataW H)} {before : List MemPlace}
    (hread : ∀ t ∈ fn.params.toList, P.readableRec t = true ∧ t < P.types.size) {tb : TypeId} (hres : fn.resultTypes = #[tb]) (htb : P.underlying tb = some .bool) (hvars : s.vars = [])
    (hs : s.fn H (ds ++ gs) = { results := [.lit (.bool true)], args := ds }) (hW : DataW.Whole enc P fn.params.toList s.vars apart W args.toList ds gs before) (hb : Below W.heap.size W W') :
    s.post enc P fn apart fresh handsOn false W args (.bool true) W' := by
  have hlt := hW.lt
  have hW0 := hW
  obtain ⟨p, q, hA, hV, hpq, _, _⟩ := hW
  refine ⟨ds, gs, before, [], p, [], hW0, ?_, ?_, ?_, hb.frame _, fun h => by cases h⟩
  · rw [hs, hres]
    exact trodAll_mk1 (shut_bool htb _)
  · rw [hs]
    exact trodAll_below hl hb _ _ _ _ hread hA (fun x hx => hlt x (by rw [hpq]; simp [hx]))
  · rw [hs, hvars]
    rfl
end Go.Pl
namespace Go.Proofs.YtjaffpnegdcjnaaGreatDoor
open Go.RowKit Go.Pl Go.ChangeShapes Go.WideShapes
theorem lOut : laidOutB Tryz.prog = true := by kernel_rfl
theorem lOwn : ownKnob Tryz.prog.godebug = none := by kernel_rfl
theorem cells48 : Tryz.prog.cellsOf 48 = 2 := by kernel_rfl
theorem cells3 : Tryz.prog.cellsOf 3 = 1 := by kernel_rfl
section
variable {H : Type} {enc : TypeId × Value → H} {W : World} {base : Nat} {sp : Nat → Bool} {held : Bool} {n : Nat} {cs : List Value} {x : DataW H × List MemPlace}
set_option maxRecDepth 100000 in
theorem open_sp (h : DataW.trod enc Tryz.prog W base sp held n 48 cs = some x) : ∃ p : Sp, cs = (spA p).toList := by
  obtain ⟨xs, m, _, _, hl, hlen, hf⟩ := DataW.trod_struct Tryz.underlying48 h
  rw [cells48] at hl
  match cs, hl with
  | [c0, c1], _ =>
  obtain ⟨y0, e0⟩ : ∃ y, xs[0]? = some y := ⟨_, List.getElem?_eq_getElem (by rw [hlen]; simp)⟩
  obtain ⟨y1, e1⟩ : ∃ y, xs[1]? = some y := ⟨_, List.getElem?_eq_getElem (by rw [hlen]; simp)⟩
  have h0 : DataW.trod enc Tryz.prog W base sp held m 3 (List.take (Tryz.prog.cellsOf 3) (List.drop 0 [c0, c1])) = some y0 := (hf 0 _ rfl).trans e0
  have h1 : DataW.trod enc Tryz.prog W base sp held m 3 (List.take (Tryz.prog.cellsOf 3) (List.drop 1 [c0, c1])) = some y1 := (hf 1 _ rfl).trans e1
  rw [cells3] at h0 h1
  obtain ⟨n0, g0, _, _⟩ := DataW.trod_int Tryz.underlying3 h0
  obtain ⟨n1, g1, _, _⟩ := DataW.trod_int Tryz.underlying3 h1
  simp at g0 g1
  exact ⟨(n0, n1), by simp [g0, g1]⟩
end
set_option maxRecDepth 100000 in
theorem open_sps {H : Type} {enc : TypeId × Value → H} {W : World} {v : Value} {d : DataW H} {ps : List MemPlace} {base : Nat} (hok : Value.okWide Tryz.prog W .any base 22 v) (h : DataW.Trod enc Tryz.prog W 0 (fun _ => true) true 22 v d ps) :
    ∃ (l : List Sp) (p : Option Addr) (cap : Nat), v = .slice p l.length cap ∧ srcAt spL 2 W W.heap.size p l ∧ l.length ≤ cap ∧ cap ≤ maxLen ∧ (p = none → cap = 0) := by
  obtain ⟨a0, len0, cap0, rfl⟩ := okWide_slice Tryz.underlying22 hok
  obtain ⟨fuel, hf⟩ := h
  rcases Deep.open_slice Tryz.underlying22 hf with ⟨hcs, _⟩ | ⟨a, len, cap, m, n, D, Pl, hcs, _, hl, hm, hmm, _, hx⟩
  · simp [Value.cells] at hcs
    obtain ⟨rfl, rfl, rfl⟩ := hcs
    exact ⟨[], none, 0, rfl, .inl rfl, Nat.le_refl _, Nat.zero_le _, fun _ => rfl⟩
  · simp [Value.cells] at hcs
    obtain ⟨rfl, rfl, rfl⟩ := hcs
    rw [cells48] at hx
    have hlm : len0 ≤ m := by rw [hmm]; split <;> omega
    have hall : ∀ i, i < len0 → ∃ s : Sp, ∀ j, j < 2 → W.cell? ((a.add (i * 2)).add j) = (spA s).toList[j]? := fun i hi => by
      obtain ⟨cs', h1, h2⟩ := hx i (by omega)
      obtain ⟨_, _, h3⟩ := World.cells?_some h1
      obtain ⟨s, rfl⟩ := open_sp h2
      exact ⟨s, h3⟩
    obtain ⟨f, hfn⟩ := Deep.choose_lt hall
    refine ⟨(List.range len0).map f, some a, cap0, by simp, ?_, by simpa using hl, hm, fun h => by cases h⟩
    rcases Nat.eq_zero_or_pos len0 with h0 | h0
    · left; rw [h0]; rfl
    · right
      have hspot : a = ⟨a.block, a.off, none⟩ ∧ a.block < W.heap.size := by
        have := hfn 0 h0 0 (by omega)
        rw [Nat.zero_mul] at this
        have e0 : (a.add 0).add 0 = a := by simp [Addr.add]
        rw [e0] at this
        refine ⟨?_, World.block_lt_of_cell? W a this⟩
        cases a with
        | mk b o s =>
          cases s with
          | none => rfl
          | some k =>
            unfold World.cell? at this
            split at this <;> simp at this
      refine ⟨a.block, a.off, by rw [← hspot.1], hspot.2, fun i s hs j v hv => ?_⟩
      rw [List.getElem?_map] at hs
      have hi : i < len0 := by
        cases h : (List.range len0)[i]? with
        | none => rw [h] at hs; cases hs
        | some x => have := (List.getElem?_eq_some_iff.1 h).1; simpa using this
      rw [List.getElem?_range hi] at hs
      simp at hs
      subst hs
      have hj : j < 2 := by
        have := (List.getElem?_eq_some_iff.1 hv).1
        rw [spL_len] at this; exact this
      have := hfn i hi j hj
      have hv2 : (spA (f i)).toList[j]? = some v := hv
      rw [hspot.1, hv2] at this
      rw [← this]
      congr 1
      unfold Addr.add
      by_cases h1 : i * 2 = 0 <;> by_cases h2 : j = 0 <;> simp [h1, h2, Nat.add_assoc]
def laid7 : List (String × DataW Unit) := [("math/bits.deBruijn32tab", Rows.laid_math_bits_deBruijn32tab), ("math/bits.deBruijn64tab", Rows.laid_math_bits_deBruijn64tab), ("internal/strconv.uint64pow10", Rows.laid_internal_strconv_uint64pow10), ("strconv.ErrRange", Rows.laid_strconv_ErrRange), ("strconv.ErrSyntax", Rows.laid_strconv_ErrSyntax), ("unicode.White_Space", Rows.laid_unicode_White_Space), ("strings.asciiSpace", Rows.laid_strings_asciiSpace)]
set_option maxRecDepth 100000 in
/-- The door's own heap meets the condition. -/
theorem door_met (os : Os) (args : Array Value) : laidMetH Tryz.prog laid7 ((World.doorLaid Tryz.prog 86 os).forCall (fun _ _ => 0) ⟨#[], args, []⟩).memory :=
  laidMetH_of_parts3 (fuel := 8) (laidMet_of_run' 8 (by kernel_rfl) (by kernel_rfl)) (by kernel_rfl) (by kernel_rfl)
theorem tab_of {W : World} {name : String} {k : IntKind} {zs : List Int} {g : Nat} {t e : TypeId} {n : Nat} (hg : Tryz.prog.globalNamed name = some g) (hty : (Tryz.prog.globals[g]?).map (·.type) = some t) (ht : Tryz.prog.underlying t = some (.array n e)) (he : Tryz.prog.underlying e = some (.int k)) (hce : Tryz.prog.cellsOf e = 1) (hct : Tryz.prog.cellsOf t = n) (h : Lib.VarReads Tryz.prog W name (Lib.tabData k zs)) : Lib.TabIs Tryz.prog W name k zs := by
  obtain ⟨g', t', cs, fuel, p, hg', ht', hvar, hd⟩ := h
  obtain rfl := Option.some.inj (hg.symm.trans hg')
  obtain rfl := Option.some.inj (hty.symm.trans ht')
  unfold Lib.TabIs
  rw [hvar, ← Lib.cells_of_tab ht he hce hct hd]
set_option maxRecDepth 100000 in
/-- What the condition gives the walks. -/
theorem tb_of {W : World} (h : laidMetH Tryz.prog laid7 W) : Tb W := by
  rw [MakeChecks.laidMetH_plain _ _ _ (by kernel_rfl)] at h
  exact ⟨tab_of (g := 3) (t := 184) (e := 166) (n := 20) (by kernel_rfl) (by kernel_rfl) (by kernel_rfl) (by kernel_rfl) (by kernel_rfl) (by kernel_rfl) (Lib.laidMet.reads h (d := Rows.laid_internal_strconv_uint64pow10) (.tail _ (.tail _ (.head _)))),
    tab_of (g := 0) (t := 111) (e := 5) (n := 256) (by kernel_rfl) (by kernel_rfl) (by kernel_rfl) (by kernel_rfl) (by kernel_rfl) (by kernel_rfl) (Lib.laidMet.reads h (d := Rows.laid_strings_asciiSpace) (.tail _ (.tail _ (.tail _ (.tail _ (.tail _ (.tail _ (.head _))))))))⟩
end Go.Proofs.YtjaffpnegdcjnaaGreatDoor
