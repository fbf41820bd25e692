/- Path agrees, lifted. -/
import Derived.Test.YtbflfefahheidaaGreatDoorP5
import Derived.LaidMore
import Derived.Deep.Slices
import Derived.OpenShut
import Derived.Test.YtbflfefahheidaaGreatDoorTie
import Derived.Lib.LaidU8
import Derived.MakeChecks
import Derived.ProofKit
import Derived.Test.YtbflfefahheidaaGreatDoorCards
import Derived.Stop.Joined
import Derived.SevenTiedAt
/- The arguments of a law are opened. -/
set_option linter.unusedVariables false
set_option linter.unusedSimpArgs false
namespace Go.Proofs.YtbflfefahheidaaGreatDoor
open Go.RowKit Go.Pl Go.ChangeShapes Go.WideShapes
section
variable {H : Type} {enc : TypeId × Value → H} {W : World} {sp : Nat → Bool} {held : Bool} {n : Nat} {cs : List Value} {x : DataW H × List MemPlace}
/-- A slice that was given, whose elements are of one kind. -/
theorem open_slc {α : Type} (dflt : α) (f : α → List Value) (c : Nat) {T E : TypeId} (hT : Tryz.prog.underlying T = some (.slice E)) (hc : Tryz.prog.cellsOf E = c) (hlen : ∀ a, (f a).length = c) (hc0 : 0 < c) (Q : α → Prop) (hel : ∀ m cs x, DataW.trod enc Tryz.prog W 0 sp held m E cs = some x → ∃ a, cs = f a ∧ Q a)
  (h : DataW.trod enc Tryz.prog W 0 sp held n T cs = some x) : ∃ (l : List α) (p : Option Addr) (cap : Nat), cs = [.slice p l.length cap] ∧ SrcP f c W p cap l ∧ ∀ a ∈ l, Q a := by
 rcases Deep.open_slice hT h with ⟨rfl, _⟩ | ⟨a, len, cap, m, n, D, Pl, rfl, _, hl, hm, hmm, _, hx⟩
 ·exact ⟨[], none, 0, rfl, ⟨Nat.le_refl _, Nat.zero_le _, .inl rfl, fun _ => rfl⟩, fun _ h => (by cases h)⟩
 ·rw [hc] at hx
  have hlm : len ≤ m := by rw [hmm]; split <;> omega
  have hall : ∀ i, i < len → ∃ s : α, (∀ j, j < c → W.cell? ((a.add (i * c)).add j) = (f s)[j]?) ∧ Q s := fun i hi => by
   obtain ⟨cs', h1, h2⟩ := hx i (by omega)
   obtain ⟨_, _, h3⟩ := World.cells?_some h1
   obtain ⟨s, rfl, hq⟩ := hel _ _ _ h2
   exact ⟨s, fun j hj => by rw [h3 j hj], hq⟩
  haveI : Inhabited α := ⟨dflt⟩
  obtain ⟨g, hg⟩ := Deep.choose_lt hall
  refine ⟨(List.range len).map g, some a, cap, by simp, ⟨by simpa using hl, hm, ?_, fun h => by cases h⟩, fun s hs => ?_⟩
  ·rcases Nat.eq_zero_or_pos len with h0 | h0
   ·left; rw [h0]; rfl
   ·right
    have hspot : a = ⟨a.block, a.off, none⟩ ∧ a.block < W.heap.size := by
     have := (hg 0 h0).1 0 hc0
     rw [Nat.zero_mul] at this
     have e0 : (a.add 0).add 0 = a := by simp [Addr.add]
     rw [e0] at this
     obtain ⟨v0, hv0⟩ : ∃ v, (f (g 0))[0]? = some v := ⟨_, List.getElem?_eq_getElem (by rw [hlen]; exact hc0)⟩
     rw [hv0] at this
     refine ⟨?_, World.block_lt_of_cell? W a this⟩
     cases a with
     | mk b o s =>
      cases s with
      | none => rfl
      | some k =>
       unfold World.cell? at this
       split at this <;> simp at this
    refine ⟨a.block, a.off, by rw [← hspot.1], hspot.2, fun i s hs j v hv => ?_⟩
    rw [List.getElem?_map] at hs
    have hi : i < len := by
     cases h : (List.range len)[i]? with
     | none => rw [h] at hs; cases hs
     | some x => have := (List.getElem?_eq_some_iff.1 h).1; simpa using this
    rw [List.getElem?_range hi] at hs
    simp at hs
    subst hs
    have hj : j < c := by
     have := (List.getElem?_eq_some_iff.1 hv).1
     rw [hlen] at this; exact this
    have := (hg i hi).1 j hj
    have e : ((⟨a.block, a.off, none⟩ : Addr).add (i * c)).add j = ⟨a.block, a.off + i * c + j, none⟩ := by
     unfold Addr.add
     by_cases h1 : i * c = 0 <;> by_cases h2 : j = 0 <;> simp [h1, h2, Nat.add_assoc]
    rw [hv, hspot.1, e] at this
    exact this
  ·obtain ⟨i, hi, rfl⟩ := List.mem_map.1 hs
   exact (hg i (List.mem_range.1 hi)).2
set_option maxRecDepth 100000 in
theorem open_str (h : DataW.trod enc Tryz.prog W 0 sp held n 9 cs = some x) : ∃ s : Bys, cs = stL s ∧ B63 s := by
 obtain ⟨s, rfl, _, hs⟩ := DataW.trod_string Tryz.underlying9 h
 obtain ⟨l, rfl⟩ := exists_ofL s
 rw [ofL_size] at hs
 exact ⟨l, rfl, by unfold maxLen at hs; unfold B63; omega⟩
set_option maxRecDepth 100000 in
theorem open_i64 (h : DataW.trod enc Tryz.prog W 0 sp held n 3 cs = some x) : ∃ m : Int, cs = [vI m] := by
 obtain ⟨m, rfl, _⟩ := DataW.trod_int Tryz.underlying3 h
 exact ⟨m, rfl⟩
set_option maxRecDepth 100000 in
theorem open_tag (h : DataW.trod enc Tryz.prog W 0 sp held n 106 cs = some x) : ∃ t : Tag, cs = tgL t ∧ (B63 t.1 ∧ B63 t.2) := by
 obtain ⟨xs, m, _, _, hl, hlen, hf⟩ := DataW.trod_struct Tryz.underlying106 h
 rw [show Tryz.prog.cellsOf 106 = 2 by kernel_rfl] at hl
 match cs, hl with
 | [c0, c1], _ =>
 obtain ⟨y0, e0⟩ : ∃ y, xs[0]? = some y := ⟨_, List.getElem?_eq_getElem (by rw [hlen]; simp)⟩
 obtain ⟨y1, e1⟩ : ∃ y, xs[1]? = some y := ⟨_, List.getElem?_eq_getElem (by rw [hlen]; simp)⟩
 have h0 : DataW.trod enc Tryz.prog W 0 sp held m 9 (List.take (Tryz.prog.cellsOf 9) (List.drop 0 [c0, c1])) = some y0 := (hf 0 _ rfl).trans e0
 have h1 : DataW.trod enc Tryz.prog W 0 sp held m 9 (List.take (Tryz.prog.cellsOf 9) (List.drop 1 [c0, c1])) = some y1 := (hf 1 _ rfl).trans e1
 rw [show Tryz.prog.cellsOf 9 = 1 by kernel_rfl] at h0 h1
 obtain ⟨s0, g0, b0⟩ := open_str h0
 obtain ⟨s1, g1, b1⟩ := open_str h1
 have g0 : [c0] = [vS s0] := g0
 have g1 : [c1] = [vS s1] := g1
 cases g0; cases g1
 exact ⟨(s0, s1), rfl, b0, b1⟩
set_option maxRecDepth 100000 in
theorem open_pt (h : DataW.trod enc Tryz.prog W 0 sp held n 61 cs = some x) : ∃ a b : Int, cs = [vI a, vI b] := by
 obtain ⟨xs, m, _, _, hl, hlen, hf⟩ := DataW.trod_struct Tryz.underlying61 h
 rw [show Tryz.prog.cellsOf 61 = 2 by kernel_rfl] at hl
 match cs, hl with
 | [c0, c1], _ =>
 obtain ⟨y0, e0⟩ : ∃ y, xs[0]? = some y := ⟨_, List.getElem?_eq_getElem (by rw [hlen]; simp)⟩
 obtain ⟨y1, e1⟩ : ∃ y, xs[1]? = some y := ⟨_, List.getElem?_eq_getElem (by rw [hlen]; simp)⟩
 have h0 : DataW.trod enc Tryz.prog W 0 sp held m 3 (List.take (Tryz.prog.cellsOf 3) (List.drop 0 [c0, c1])) = some y0 := (hf 0 _ rfl).trans e0
 have h1 : DataW.trod enc Tryz.prog W 0 sp held m 3 (List.take (Tryz.prog.cellsOf 3) (List.drop 1 [c0, c1])) = some y1 := (hf 1 _ rfl).trans e1
 rw [show Tryz.prog.cellsOf 3 = 1 by kernel_rfl] at h0 h1
 obtain ⟨s0, g0⟩ := open_i64 h0
 obtain ⟨s1, g1⟩ := open_i64 h1
 have g0 : [c0] = [vI s0] := g0
 have g1 : [c1] = [vI s1] := g1
 cases g0; cases g1
 exact ⟨s0, s1, rfl⟩
set_option maxRecDepth 100000 in
theorem open_ob (h : DataW.trod enc Tryz.prog W 0 sp held n 64 cs = some x) : ∃ b : ObR, cs = obL b ∧ ObIn W b := by
 obtain ⟨xs, m, _, _, hl, hlen, hf⟩ := DataW.trod_struct Tryz.underlying64 h
 rw [show Tryz.prog.cellsOf 64 = 6 by kernel_rfl] at hl
 match cs, hl with
 | [c0, c1, c2, c3, c4, c5], _ =>
 obtain ⟨y0, e0⟩ : ∃ y, xs[0]? = some y := ⟨_, List.getElem?_eq_getElem (by rw [hlen]; simp)⟩
 obtain ⟨y1, e1⟩ : ∃ y, xs[1]? = some y := ⟨_, List.getElem?_eq_getElem (by rw [hlen]; simp)⟩
 obtain ⟨y2, e2⟩ : ∃ y, xs[2]? = some y := ⟨_, List.getElem?_eq_getElem (by rw [hlen]; simp)⟩
 obtain ⟨y3, e3⟩ : ∃ y, xs[3]? = some y := ⟨_, List.getElem?_eq_getElem (by rw [hlen]; simp)⟩
 obtain ⟨y4, e4⟩ : ∃ y, xs[4]? = some y := ⟨_, List.getElem?_eq_getElem (by rw [hlen]; simp)⟩
 have h0 : DataW.trod enc Tryz.prog W 0 sp held m 9 (List.take (Tryz.prog.cellsOf 9) (List.drop 0 [c0, c1, c2, c3, c4, c5])) = some y0 := (hf 0 _ rfl).trans e0
 have h1 : DataW.trod enc Tryz.prog W 0 sp held m 3 (List.take (Tryz.prog.cellsOf 3) (List.drop 1 [c0, c1, c2, c3, c4, c5])) = some y1 := (hf 1 _ rfl).trans e1
 have h2 : DataW.trod enc Tryz.prog W 0 sp held m 61 (List.take (Tryz.prog.cellsOf 61) (List.drop 2 [c0, c1, c2, c3, c4, c5])) = some y2 := (hf 2 _ rfl).trans e2
 have h3 : DataW.trod enc Tryz.prog W 0 sp held m 28 (List.take (Tryz.prog.cellsOf 28) (List.drop 4 [c0, c1, c2, c3, c4, c5])) = some y3 := (hf 3 _ rfl).trans e3
 have h4 : DataW.trod enc Tryz.prog W 0 sp held m 62 (List.take (Tryz.prog.cellsOf 62) (List.drop 5 [c0, c1, c2, c3, c4, c5])) = some y4 := (hf 4 _ rfl).trans e4
 rw [show Tryz.prog.cellsOf 9 = 1 by kernel_rfl] at h0
 rw [show Tryz.prog.cellsOf 3 = 1 by kernel_rfl] at h1
 rw [show Tryz.prog.cellsOf 61 = 2 by kernel_rfl] at h2
 rw [show Tryz.prog.cellsOf 28 = 1 by kernel_rfl] at h3
 rw [show Tryz.prog.cellsOf 62 = 1 by kernel_rfl] at h4
 obtain ⟨s0, g0, b0⟩ := open_str h0
 obtain ⟨s1, g1⟩ := open_i64 h1
 obtain ⟨s2, s3, g2⟩ := open_pt h2
 obtain ⟨rs, pr, cr, g3, k3, b3⟩ := open_slc [] stL 1 Tryz.underlying28 (by kernel_rfl) (fun _ => rfl) (by decide) B63 (fun _ _ _ h => open_str h) h3
 obtain ⟨ts, pt, ct, g4, k4, b4⟩ := open_slc ([], []) tgL 2 Tryz.underlying62 (by kernel_rfl) (fun _ => rfl) (by decide) (fun t => B63 t.1 ∧ B63 t.2) (fun _ _ _ h => open_tag h) h4
 have g0 : [c0] = [vS s0] := g0
 have g1 : [c1] = [vI s1] := g1
 have g2 : [c2, c3] = [vI s2, vI s3] := g2
 have g3 : [c4] = [vL pr rs.length cr] := g3
 have g4 : [c5] = [vL pt ts.length ct] := g4
 cases g0; cases g1; cases g2; cases g3; cases g4
 exact ⟨⟨⟨s0, s1, s2, s3, rs, ts⟩, pr, cr, pt, ct⟩, rfl, k3, k4, b0, b3, b4⟩
set_option maxRecDepth 100000 in
theorem open_map (h : DataW.trod enc Tryz.prog W 0 sp held n 24 cs = some x) : ∃ (os : List ObR) (v : Value), cs = [v] ∧ ObsV W v os := by
 obtain ⟨xs, m, _, _, hl, hlen, hf⟩ := DataW.trod_struct Tryz.underlying24 h
 rw [show Tryz.prog.cellsOf 24 = 1 by kernel_rfl] at hl
 match cs, hl with
 | [c0], _ =>
 obtain ⟨y0, e0⟩ : ∃ y, xs[0]? = some y := ⟨_, List.getElem?_eq_getElem (by rw [hlen]; simp)⟩
 have h0 : DataW.trod enc Tryz.prog W 0 sp held m 22 (List.take (Tryz.prog.cellsOf 22) (List.drop 0 [c0])) = some y0 := (hf 0 _ rfl).trans e0
 rw [show Tryz.prog.cellsOf 22 = 1 by kernel_rfl] at h0
 obtain ⟨os, p, cap, g0, k0, b0⟩ := open_slc ⟨⟨[], 0, 0, 0, [], []⟩, none, 0, none, 0⟩ obL 6 Tryz.underlying22 (by kernel_rfl) (fun _ => rfl) (by decide) (ObIn W) (fun _ _ _ h => open_ob h) h0
 have g0 : [c0] = [vL p os.length cap] := g0
 cases g0
 exact ⟨os, _, rfl, k0.src, b0⟩
end
end Go.Proofs.YtbflfefahheidaaGreatDoor
/- How a law's row is closed: the call returns true and leaves all that was there; the arguments are opened. -/
set_option linter.unusedVariables false
set_option linter.unusedSimpArgs false
namespace Go.Pl
open Go.RowKit Go.ChangeShapes Go.WideShapes
theorem trodAll_below {H : Type} {enc : TypeId × Value → H} {P : Program} (hl : laidOutB P = true) {W W' : World} (hb : Below W.heap.size W W') :
  ∀ (ts : List TypeId) (vs : List Value) (ds : List (DataW H)) (ps : List MemPlace), (∀ t ∈ ts, P.readableRec t = true ∧ t < P.types.size) → DataW.TrodAll enc P W 0 (fun _ => true) true ts vs ds ps → (∀ x ∈ ps, x.block < W.heap.size) →
   DataW.TrodAll enc P W' 0 (fun b => decide (b < W.heap.size)) true ts vs ds ps
 | [], [], [], ps, _, h, _ => h
 | t :: ts, v :: vs, d :: ds, ps, hr, h, hlt => by
  obtain ⟨p, q, h1, h2, rfl⟩ := h
  exact ⟨p, q, Below.trod hl (hr t (by simp)).1 (hr t (by simp)).2 h1 hb (fun x hx => hlt x (by simp [hx])),
   trodAll_below hl hb ts vs ds q (fun t ht => hr t (by simp [ht])) h2 (fun x hx => hlt x (by simp [hx])), rfl⟩
 | [], [], _ :: _, _, _, h, _ => h.elim
 | [], _ :: _, _, _, _, h, _ => by cases h
 | _ :: _, [], _, _, _, h, _ => by cases h
 | _ :: _, _ :: _, [], _, _, h, _ => h.elim
theorem law_post {H : Type} {enc : TypeId × Value → H} {P : Program} (hl : laidOutB P = true) {fn : Func} {s : ChangeSpec} {apart fresh handsOn : Bool} {W W' : World} {args : Array Value} {ds gs : List (DataW H)} {before : List MemPlace}
  (hread : ∀ t ∈ fn.params.toList, P.readableRec t = true ∧ t < P.types.size) {tb : TypeId} (hres : fn.resultTypes = #[tb]) (htb : P.underlying tb = some .bool) (hvars : s.vars = [])
  (hs : s.fn H (ds ++ gs) = { results := [.lit (.bool true)], args := ds }) (hW : DataW.Whole enc P fn.params.toList s.vars apart W args.toList ds gs before) (hb : Below W.heap.size W W') :
  s.post enc P fn apart fresh handsOn false W args (.bool true) W' := by
 have hlt := hW.lt
 have hW0 := hW
 obtain ⟨p, q, hA, hV, hpq, _, _⟩ := hW
 refine ⟨ds, gs, before, [], p, [], hW0, ?_, ?_, ?_, hb.frame _, fun h => by cases h⟩
 ·rw [hs, hres]
  exact trodAll_mk1 (shut_bool htb _)
 ·rw [hs]
  exact trodAll_below hl hb _ _ _ _ hread hA (fun x hx => hlt x (by rw [hpq]; simp [hx]))
 ·rw [hs, hvars]
  rfl
end Go.Pl
namespace Go.Proofs.YtbflfefahheidaaGreatDoor
open Go.RowKit Go.Pl Go.ChangeShapes Go.WideShapes
theorem lOut : laidOutB Tryz.prog = true := by kernel_rfl
theorem lOwn : ownKnob Tryz.prog.godebug = none := by kernel_rfl
set_option maxRecDepth 100000 in
theorem errv_of {W : World} {name : String} {g t : Nat} {s : String} {d : DataW Unit} {ms : Array _} (hg : Tryz.prog.globalNamed name = some g) (hty : (Tryz.prog.globals[g]?).map (·.type) = some t) (ht : Tryz.prog.underlying t = some (.interface ms)) (h : Lib.VarReads Tryz.prog W name (.iface s d)) : ErrV W g := by
 obtain ⟨g', t', cs, fuel, p, hg', ht', hvar, hd⟩ := h
 obtain rfl := Option.some.inj (hg.symm.trans hg')
 obtain rfl := Option.some.inj (hty.symm.trans ht')
 cases fuel with
 | zero => cases hd
 | succ fuel =>
  unfold DataW.trod at hd
  rw [ht] at hd
  unfold World.var? at hvar
  rw [hg] at hvar
  simp only [Option.bind_some] at hvar
  split at hvar
  ·rename_i cs' T' fz hb
   obtain rfl := Option.some.inj hvar
   have key : ∃ ev, cs'.toList = [ev] ∧ (ev = .nilIface ∨ ∃ te pe, ev = .iface te pe) := by
    split at hd <;> first | (cases hd; done) | skip
    all_goals (rename_i h1 h2; first | (cases h1; done) | (cases h2; done) | (exact ⟨_, h2, .inl rfl⟩) | (exact ⟨_, h2, .inr ⟨_, _, rfl⟩⟩))
   obtain ⟨ev, h1, h2⟩ := key
   refine ⟨ev, ?_, h2⟩
   have hz : cs'[0]? = some ev := by rw [← Array.getElem?_toList, h1]; rfl
   unfold World.cell?
   simp [hb, hz]
  ·cases hvar
def laid7 : List (String × DataW Unit) := [("math/bits.deBruijn32tab", Rows.laid_math_bits_deBruijn32tab), ("math/bits.deBruijn64tab", Rows.laid_math_bits_deBruijn64tab), ("internal/strconv.uint64pow10", Rows.laid_internal_strconv_uint64pow10), ("strconv.ErrRange", Rows.laid_strconv_ErrRange), ("strconv.ErrSyntax", Rows.laid_strconv_ErrSyntax), ("unicode.White_Space", Rows.laid_unicode_White_Space), ("strings.asciiSpace", Rows.laid_strings_asciiSpace)]
set_option maxRecDepth 100000 in
/-- The door's own heap meets the condition. -/
theorem door_met (os : Os) (args : Array Value) : laidMetH Tryz.prog laid7 ((World.doorLaid Tryz.prog 86 os).forCall (fun _ _ => 0) ⟨#[], args, []⟩).memory :=
 laidMetH_of_parts3 (fuel := 8) (laidMet_of_run' 8 (by kernel_rfl) (by kernel_rfl)) (by kernel_rfl) (by kernel_rfl)
theorem tab_of {W : World} {name : String} {k : IntKind} {zs : List Int} {g : Nat} {t e : TypeId} {n : Nat} (hg : Tryz.prog.globalNamed name = some g) (hty : (Tryz.prog.globals[g]?).map (·.type) = some t) (ht : Tryz.prog.underlying t = some (.array n e)) (he : Tryz.prog.underlying e = some (.int k)) (hce : Tryz.prog.cellsOf e = 1) (hct : Tryz.prog.cellsOf t = n) (h : Lib.VarReads Tryz.prog W name (Lib.tabData k zs)) : Lib.TabIs Tryz.prog W name k zs := by
 obtain ⟨g', t', cs, fuel, p, hg', ht', hvar, hd⟩ := h
 obtain rfl := Option.some.inj (hg.symm.trans hg')
 obtain rfl := Option.some.inj (hty.symm.trans ht')
 unfold Lib.TabIs
 rw [hvar, ← Lib.cells_of_tab ht he hce hct hd]
set_option maxRecDepth 100000 in
/-- What the condition gives the walks. -/
theorem tb_of {W : World} (h : laidMetH Tryz.prog laid7 W) : Tb W := by
 rw [MakeChecks.laidMetH_plain _ _ _ (by kernel_rfl)] at h
 exact ⟨tab_of (g := 4) (t := 280) (e := 222) (n := 20) (by kernel_rfl) (by kernel_rfl) (by kernel_rfl) (by kernel_rfl) (by kernel_rfl) (by kernel_rfl) (Lib.laidMet.reads h (d := Rows.laid_internal_strconv_uint64pow10) (.tail _ (.tail _ (.head _)))),
  tab_of (g := 3) (t := 153) (e := 5) (n := 256) (by kernel_rfl) (by kernel_rfl) (by kernel_rfl) (by kernel_rfl) (by kernel_rfl) (by kernel_rfl) (Lib.laidMet.reads h (d := Rows.laid_strings_asciiSpace) (.tail _ (.tail _ (.tail _ (.tail _ (.tail _ (.tail _ (.head _))))))))⟩
set_option maxRecDepth 100000 in
theorem te_of {W : World} (h : laidMetH Tryz.prog laid7 W) : Te W := by
 have hT := tb_of h
 rw [MakeChecks.laidMetH_plain _ _ _ (by kernel_rfl)] at h
 exact ⟨hT, errv_of (g := 0) (t := 173) (by kernel_rfl) (by kernel_rfl) Tryz.underlying173 (Lib.laidMet.reads h (n := "strconv.ErrSyntax") (d := Rows.laid_strconv_ErrSyntax) (.tail _ (.tail _ (.tail _ (.tail _ (.head _)))))),
  errv_of (g := 1) (t := 173) (by kernel_rfl) (by kernel_rfl) Tryz.underlying173 (Lib.laidMet.reads h (n := "strconv.ErrRange") (d := Rows.laid_strconv_ErrRange) (.tail _ (.tail _ (.tail _ (.head _)))))⟩
end Go.Proofs.YtbflfefahheidaaGreatDoor
/- The trip of who starts later ends not before that of who starts earlier (P37.5), for every map, profile, two nodes and two minutes. -/
set_option linter.unusedVariables false
set_option linter.unusedSimpArgs false
namespace Go.Proofs.YtbflfefahheidaaGreatDoor
open Go.RowKit Go.Pl Go.ChangeShapes Go.WideShapes
set_option maxRecDepth 100000 in
theorem pathLater_lifted (os : Os) (started : os.Started) (H : Type) (enc : TypeId × Value → H) :
  ReturnsInHanded {} Tryz.checked os 7 .any (fun w args => (Rows.pathLaterSpec.pre enc Tryz.prog Tryz.f7 [] false w args ∧ laidMetH Tryz.prog laid7 w) ∧ sizedMet enc Tryz.prog Tryz.f7 (OpenSpec.ofChange Rows.pathLaterSpec) false w args)
   (Rows.pathLaterSpec.post enc Tryz.prog Tryz.f7 false true false false) := by
 refine returnsInHanded_of_change_and (C := Tryz.checked) (X := fun w _ => laidMetH Tryz.prog laid7 w) (fun _ _ _ hh h => h.of_heap hh) lOwn started (by kernel_rfl) Tryz.func7
  (ChangeSpec.witness_shaped (enc := enc) (C := Tryz.checked) (os := os) (X := fun w _ => laidMetH Tryz.prog laid7 w) false (World.doorLaid Tryz.prog 86 os) #[.agg #[.slice none 0 0], .string ByteArray.empty, .string ByteArray.empty, .string ByteArray.empty, .int .i64 0, .int .i64 0] 12 rfl (World.shaped_of_RefB (by kernel_rfl) (by kernel_rfl)) (by kernel_rfl) (by kernel_rfl) (by kernel_rfl) (door_met os _)) ?_
 intro W base args ds gs before hval0 hW _ _ hL _
 have hval : ∀ (j : Nat) t v, Tryz.f7.params[j]? = some t → args[j]? = some v → Value.okWide Tryz.prog W .any base t v := hval0
 have hW' := hW
 obtain ⟨p, q, hA0, hV, _, _, _⟩ := hW
 have hA : DataW.TrodAll enc Tryz.prog W 0 (fun _ => true) true Tryz.f7.params.toList args.toList ds p := hA0
 rw [Tryz.params7] at hA hval
 have hT := te_of hL
 obtain ⟨v0, vs0, d0, ds0, p0, q0, hargs, rfl, rfl, h0, r0⟩ := trodAll_cons hA
 obtain ⟨v1, vs1, d1, ds1, p1, q1, rfl, rfl, rfl, h1, r1⟩ := trodAll_cons r0
 obtain ⟨v2, vs2, d2, ds2, p2, q2, rfl, rfl, rfl, h2, r2⟩ := trodAll_cons r1
 obtain ⟨v3, vs3, d3, ds3, p3, q3, rfl, rfl, rfl, h3, r3⟩ := trodAll_cons r2
 obtain ⟨v4, vs4, d4, ds4, p4, q4, rfl, rfl, rfl, h4, r4⟩ := trodAll_cons r3
 obtain ⟨v5, vs5, d5, ds5, p5, q5, rfl, rfl, rfl, h5, r5⟩ := trodAll_cons r4
 obtain ⟨rfl, rfl, rfl⟩ := trodAll_nil r5
 obtain rfl : args = #[v0, v1, v2, v3, v4, v5] := by cases args; simp_all
 obtain ⟨rfl, rfl⟩ := trodVars_none hV
 obtain ⟨cs0, rfl, -⟩ := okWide_struct Tryz.underlying24 (hval 0 24 v0 rfl rfl)
 obtain ⟨fu0, hf0⟩ := h0
 obtain ⟨os0, vm0, hc0, hO0⟩ := open_map hf0
 obtain rfl : cs0 = #[vm0] := by cases cs0; exact congrArg Array.mk hc0
 obtain ⟨a1, rfl, x1, y1, w1⟩ := Go.ChangeMaps.open_string Tryz.underlying9 (hval 1 9 v1 rfl rfl) h1
 obtain ⟨s1, rfl⟩ := exists_ofL a1
 have hb1 : B63 s1 := by have := w1; rw [ofL_size] at this; exact this
 obtain ⟨a2, rfl, x2, y2, w2⟩ := Go.ChangeMaps.open_string Tryz.underlying9 (hval 2 9 v2 rfl rfl) h2
 obtain ⟨s2, rfl⟩ := exists_ofL a2
 have hb2 : B63 s2 := by have := w2; rw [ofL_size] at this; exact this
 obtain ⟨a3, rfl, x3, y3, w3⟩ := Go.ChangeMaps.open_string Tryz.underlying9 (hval 3 9 v3 rfl rfl) h3
 obtain ⟨s3, rfl⟩ := exists_ofL a3
 have hb3 : B63 s3 := by have := w3; rw [ofL_size] at this; exact this
 obtain ⟨a4, rfl, x4, y4, w4⟩ := open_int Tryz.underlying3 (hval 4 3 v4 rfl rfl) h4
 obtain ⟨a5, rfl, x5, y5, w5⟩ := open_int Tryz.underlying3 (hval 5 3 v5 rfl rfl) h5
 refine (later_calls hO0 hb1 hb2 hT a4 a5).mono fun e W' ⟨he, hg⟩ => ⟨_, he, ?_⟩
 exact law_post lOut (by intro t ht; rw [Tryz.params7] at ht; simp at ht; rcases ht with rfl | rfl | rfl <;> exact ⟨by kernel_rfl, of_decide_eq_true (by kernel_rfl)⟩) rfl Tryz.underlying4 rfl rfl hW' (hg.below (by simp))
theorem PathLater_holds : Rows.PathLaterSaid :=
 OpenClaim.holds_of_wide 7 Tryz.f7 rfl rfl rfl rfl rfl rfl rfl ⟨rfl, rfl, rfl, rfl, rfl⟩ rfl rfl rfl rfl rfl (by kernel_rfl) Tryz.func7 (by kernel_rfl)
  (of_decide_eq_true (by kernel_rfl)) (by unfold Func.isWrapper; first | (rw [if_pos (by decide +kernel)]; kernel_rfl) | (rw [if_neg (by decide +kernel)]; exact ⟨rfl, rfl⟩))
  (fun os started H enc _ => pathLater_lifted os started H enc)
set_option maxRecDepth 100000 in
theorem PathLater_card : Rows.PathLaterCardSaid :=
 Claim7.holds_tied_plain_at .later [] [.data, .data, .data, .sentinel, .sentinel, .listed, .data] true (true, "afa07effc40d7ae955d99d1858bd1b689d762936f66a9444e2ef661d05c260ea") true
  PathLater_holds (fun _ h => by cases h) (by kernel_rfl) (fun _ h => by cases h) pathLater_row_tie rfl ⟨rfl, rfl⟩ (by kernel_rfl) rfl
  (fun f fn hf hfn => by
   obtain rfl : f = 7 := Option.some.inj ((show Tryz.prog.funcNamed "planisphere/planispherelaw37.PathLater" = some 7 by kernel_rfl).symm.trans hf) |>.symm
   obtain rfl : fn = Tryz.f7 := (Option.some.inj (Tryz.func7.symm.trans hfn)).symm
   exact ⟨by kernel_rfl, fun j t ht => by
    rw [Tryz.params7] at ht
    have hm := Array.mem_of_getElem? ht
    simp at hm
    rcases hm with rfl | rfl | rfl <;> (show Tryz.prog.wantsStandIn _ = false; kernel_rfl)⟩)
  (by kernel_rfl)
#print axioms PathLater_card
end Go.Proofs.YtbflfefahheidaaGreatDoor
/- Reach agrees with trips, plain. -/
set_option linter.unusedVariables false
set_option linter.unusedSimpArgs false
namespace Go.Proofs.YtbflfefahheidaaGreatDoor
open Go.RowKit Go.Pl
theorem chk_two {l : List Ob} {prof f g : Bys} {m0 : Int} : (¬ chkQ l prof m0 [f] = 0 → (chkQ l prof m0 [f, g] = chkQ l prof m0 [f] ∨ (chkQ l prof m0 [f] = 13 ∧ chkQ l prof m0 [f, g] = 11)) ∧ ¬ chkQ l prof m0 [f, g] = 0) ∧ (chkQ l prof m0 [f] = 0 → ¬ chkQ l prof m0 [f, g] = 0 → findI l g < 0 ∨ ¬ kindQ l g = 1) := by
 unfold chkQ
 cases (!(validMap l) || (!(nameB prof) || (decide (m0 < 0) || decide (9999999 < m0)))) with
 | true => simp
 | false =>
  simp only [List.any_cons, List.any_nil, Bool.or_false, cond_false]
  have e1 : decide (findI l g < 0) = false → ¬ findI l g < 0 := of_decide_eq_false
  have e2 : (kindQ l g == 1) = false → ¬ kindQ l g = 1 := fun h => ef h
  have e3 : decide (findI l g < 0) = true → findI l g < 0 := of_decide_eq_true
  cases h1 : decide (findI l f < 0) <;> cases h2 : decide (findI l g < 0) <;> cases h3 : (kindQ l f == 1) <;> cases h4 : (kindQ l g == 1) <;> simp_all
theorem find_valid {l : List Ob} (hp : l.Pairwise fun x y => blt x.id y.id = true) {o : Ob} (ho : o ∈ l) : ¬ findI l o.id < 0 ∧ kindQ l o.id = o.kind := by
 have hn : ¬ findI l o.id < 0 := by
  unfold findI
  cases h : l.findIdx? (fun x => x.id == o.id) with
  | none => have := List.findIdx?_eq_none_iff.1 h o ho; simp at this
  | some k => show ¬ ((k : Nat) : Int) < 0; omega
 obtain ⟨k, o2, h1, h2, h3⟩ := findI_at hn
 refine ⟨hn, ?_⟩
 unfold kindQ
 rw [h1, Int.toNat_natCast, h2, pw_uniq hp (gm h2) ho h3]
theorem rowsQ_mem {l : List Ob} {u : Bys → Option Int} {r : Bys × Int} : r ∈ rowsQ l u ↔ ∃ o ∈ l, u o.id = some r.2 ∧ o.kind = 1 ∧ r.1 = o.id := by
 unfold rowsQ
 rw [List.mem_flatMap]
 constructor
 ·rintro ⟨o, ho, hr⟩
  cases h : (u o.id).isSome && (o.kind == 1) with
  | false => rw [h] at hr; cases hr
  | true =>
   rw [h] at hr
   simp only [cond_true, List.mem_singleton] at hr
   rw [Bool.and_eq_true] at h
   obtain ⟨d, hd⟩ := Option.isSome_iff_exists.1 h.1
   subst hr
   exact ⟨o, ho, by rw [hd]; rfl, et h.2, rfl⟩
 ·rintro ⟨o, ho, h1, h2, h3⟩
  refine ⟨o, ho, ?_⟩
  rw [h1, h2]
  show r ∈ [(o.id, r.2)]
  rw [List.mem_singleton, ← h3]
theorem rowsQ_pw {u : Bys → Option Int} : ∀ {l : List Ob}, (l.Pairwise fun x y => blt x.id y.id = true) → (rowsQ l u).Pairwise fun x y => blt x.1 y.1 = true
 | [], _ => .nil
 | o :: l, h => by
  obtain ⟨h1, h2⟩ := List.pairwise_cons.1 h
  have ih := rowsQ_pw (u := u) h2
  have e : rowsQ (o :: l) u = (bif (u o.id).isSome && (o.kind == 1) then [(o.id, (u o.id).getD 0)] else []) ++ rowsQ l u := rfl
  rw [e]
  cases (u o.id).isSome && (o.kind == 1) with
  | false => exact ih
  | true =>
   show ((o.id, (u o.id).getD 0) :: rowsQ l u).Pairwise _
   refine List.pairwise_cons.2 ⟨fun r hr => ?_, ih⟩
   obtain ⟨o2, ho2, _, _, h3⟩ := rowsQ_mem.1 hr
   rw [h3]; exact h1 o2 ho2
theorem pw_next {rows : List (Bys × Int)} (h : rows.Pairwise fun x y => blt x.1 y.1 = true) {i : Nat} {a b : Bys × Int} (ha : rows[i]? = some a) (hb : rows[i + 1]? = some b) : blt a.1 b.1 = true := by
 obtain ⟨h1, rfl⟩ := List.getElem?_eq_some_iff.1 ha
 obtain ⟨h2, rfl⟩ := List.getElem?_eq_some_iff.1 hb
 exact List.pairwise_iff_getElem.1 h i (i + 1) h1 h2 (Nat.lt_succ_self _)
section
variable {prof f g : Bys} {l : List Ob} {n m0 c c2 : Int} {rows : List (Bys × Int)} {nd2 : List Bys} {mi2 : List Int}
/-- Reach with an error. -/
theorem agree_err (hn : 0 ≤ n ∧ n ≤ 10080) (hok : ∀ a ∈ asQ l, ArcB a) (h : ReachQ prof l f n m0 c rows) (h2 : TripQ prof l f g m0 c2 nd2 mi2) (hc : ¬ c = 0) : rows = [] ∧ (c2 = c ∨ (c = 13 ∧ c2 = 11)) := by
 rcases h with ⟨h1, _⟩ | ⟨_, h1, rfl, rfl⟩ | ⟨_, _, rfl, _⟩
 ·omega
 ·obtain ⟨q1, q2⟩ := (chk_two (g := g)).1 h1
  rcases trip_end hok h2 with ⟨_, _, _, ⟨_, p⟩ | ⟨p, _⟩⟩ | ⟨p, _⟩
  ·rw [p]; exact ⟨rfl, q1⟩
  ·exact absurd p q2
  ·exact absurd p q2
 ·exact absurd rfl hc
theorem reach_rows (hn : 0 ≤ n ∧ n ≤ 10080) (hok : ∀ a ∈ asQ l, ArcB a) (h : ReachQ prof l f n m0 c rows) (hc : c = 0) : (rows.Pairwise fun x y => blt x.1 y.1 = true) ∧ (∀ r ∈ rows, 0 ≤ r.2 ∧ r.2 ≤ n) := by
 rcases h with ⟨h1, _⟩ | ⟨_, h1, h3, _⟩ | ⟨_, h1, _, t, u, hT, hu, rfl⟩
 ·omega
 ·exact absurd (h3.symm.trans hc) h1
 ·obtain ⟨hv, _, h0, _⟩ := chkQ_ok h1
  refine ⟨rowsQ_pw (valid_pw hv), fun r hr => ?_⟩
  obtain ⟨o, ho, h2, _, _⟩ := rowsQ_mem.1 hr
  by_cases e : o.id = f
  ·rw [e, hu.own] at h2
   have : (0 : Int) = r.2 := Option.some.inj h2
   omega
  ·obtain ⟨k, m, a, q1, q2, q3, q4, q5⟩ := hu.snd _ _ e h2
   have := (hT.snd _ _ q1).ge (netQ_ok (prof := prof) hok f) h0
   omega
/-- Reach without an error: it has a node just if the trip is short enough. -/
theorem agree_ok (hn : 0 ≤ n ∧ n ≤ 10080) (hok : ∀ a ∈ asQ l, ArcB a) (h : ReachQ prof l f n m0 c rows) (hc : c = 0) (h2 : TripQ prof l f g m0 c2 nd2 mi2) {fo : Bool} {mn : Int} (hf1 : fo = true → ∃ r ∈ rows, r.1 = g ∧ mn = r.2) (hf0 : fo = false → ∀ r ∈ rows, ¬ r.1 = g) :
  (mi2 = [] → ¬ c2 = 0 ∧ fo = false) ∧ (¬ c2 = 0 → fo = false) ∧ ∀ x, endO c2 mi2 = some x → fo = decide (x - m0 ≤ n) ∧ (fo = true → mn = x - m0) := by
 rcases h with ⟨h1, _⟩ | ⟨_, h1, h3, _⟩ | ⟨_, h1, _, t, u, hT, hu, rfl⟩
 ·omega
 ·exact absurd (h3.symm.trans hc) h1
 ·obtain ⟨hv, _, h0, _, _, _⟩ := chkQ_ok h1
  have hN := netQ_ok (prof := prof) hok f
  have hp := valid_pw hv
  -- what a row for the node says
  have hrow : ∀ r ∈ rowsQ l u, r.1 = g → (¬ findI l g < 0 ∧ kindQ l g = 1) ∧ u g = some r.2 := fun r hr e => by
   obtain ⟨o, ho, q1, q2, q3⟩ := rowsQ_mem.1 hr
   obtain ⟨q4, q5⟩ := find_valid hp ho
   rw [← q3, e] at q4 q5 q1
   exact ⟨⟨q4, q5.trans q2⟩, q1⟩
  -- a node that is there has a row
  have hthere : chkQ l prof m0 [f, g] = 0 → ∀ d, u g = some d → (g, d) ∈ rowsQ l u := fun hc2 d hd => by
   obtain ⟨_, _, _, _, q1, q2⟩ := chkQ_ok hc2
   obtain ⟨k, o, e1, e2, e3⟩ := findI_at (q1 g (by simp))
   have hk := q2 g (by simp)
   rw [← e3, (find_valid hp (gm e2)).2] at hk
   exact rowsQ_mem.2 ⟨o, gm e2, by rw [e3]; exact hd, hk, e3.symm⟩
  rcases trip_end hok h2 with ⟨p1, rfl, p3, p4⟩ | ⟨p1, p2, p3⟩
  ·have hfo : fo = false := by
    cases hfo : fo with
    | false => rfl
    | true =>
     obtain ⟨r, hr, e, _⟩ := hf1 hfo
     obtain ⟨⟨q1, q2⟩, q3⟩ := hrow r hr e
     rcases p4 with ⟨p4, _⟩ | ⟨_, _, p5, p6⟩
     ·rcases chk_two.2 h1 p4 with q | q
      ·exact absurd q q1
      ·exact absurd q2 q
     ·obtain ⟨k, m, a, s1, s2, s3, _⟩ := hu.snd _ _ (fun e => p5 e.symm) q3
      exact absurd (hT.snd _ _ s1) (p6 k a m s2 s3)
   exact ⟨fun _ => ⟨p3, hfo⟩, fun _ => hfo, fun x hx => by rw [p1] at hx; cases hx⟩
  ·refine ⟨fun e => ?_, fun e => absurd p2 e, fun x hx => ?_⟩
   ·rcases p3 with ⟨_, _, p4⟩ | ⟨_, x, p4, _⟩
    ·rw [e] at p4; cases p4
    ·rw [e] at p4; unfold endO at p4; simp at p4
   ·rcases p3 with ⟨rfl, p4, _⟩ | ⟨p5, y, p4, ⟨⟨i, a, ha, hg, hr⟩, hmin⟩⟩
    ·rw [p4] at hx; cases hx
     have hin := hthere p1 0 hu.own
     have hfo : fo = true := by
      cases hfo : fo with
      | true => rfl
      | false => exact absurd rfl (hf0 hfo _ hin)
     refine ⟨by rw [hfo]; exact (decide_eq_true (by omega)).symm, fun hfo => ?_⟩
     obtain ⟨r, hr, e, e2⟩ := hf1 hfo
     have := (hrow r hr e).2
     rw [hu.own] at this
     have : (0 : Int) = r.2 := Option.some.inj this
     omega
    ·obtain rfl : x = y := by rw [p4] at hx; exact (Option.some.inj hx).symm
     have hge : ∀ d, u g = some d → x - m0 ≤ d ∧ d ≤ n := fun d hd => by
      obtain ⟨k, m, b, s1, s2, s3, s4, s5⟩ := hu.snd _ _ (fun e => p5 e.symm) hd
      have := hmin k b m s2 s3 (hT.snd _ _ s1)
      omega
     have hle : x - m0 ≤ n → ∃ d, d ≤ x - m0 ∧ u g = some d := fun hy => by
      obtain ⟨z, hz, hz2⟩ := hT.le hN h0 hr
      have := hmin i a z ha hg (hT.snd _ _ hz2)
      obtain ⟨d, hd, hd2⟩ := hu.cmp i z a trivial hz2 ha (by omega)
      rw [hg] at hd2
      exact ⟨d, by omega, hd2⟩
     cases hfo : fo with
     | true =>
      obtain ⟨r, hr2, e, e2⟩ := hf1 hfo
      have := hge _ (hrow r hr2 e).2
      obtain ⟨d, hd, hd2⟩ := hle (by omega)
      have he := (hrow r hr2 e).2
      rw [hd2] at he
      have he : d = r.2 := Option.some.inj he
      exact ⟨(decide_eq_true (by omega)).symm, fun _ => by omega⟩
     | false =>
      refine ⟨(decide_eq_false fun hy => ?_).symm, fun h => (by cases h)⟩
      obtain ⟨d, hd, hd2⟩ := hle hy
      exact hf0 hfo _ (hthere p1 d hd2) rfl
end
end Go.Proofs.YtbflfefahheidaaGreatDoor
/- Reach agrees with trips. -/
set_option linter.unusedVariables false
set_option linter.unusedSimpArgs false
namespace Go.Proofs.YtbflfefahheidaaGreatDoor
open Go.RowKit Go.Pl
theorem cv16 {w : World} (m : Int) (h : 0 ≤ m ∧ m < 65536) : Ft.ok Tryz.prog w (.g1 (.convert 54 3) (.int .u16 m) (vI m)) := fun o ρ x ho hx => by
  have hw : IntKind.i64.wrap m = m := IntWalk.i64_in _ ⟨by omega, by omega⟩
  simp [execOp, ho, hx, go_sem, convert, Tryz.underlying54, Tryz.underlying3, hw]
theorem trip_rng {prof f g : Bys} {l : List Ob} {m0 c : Int} {nd : List Bys} {mi : List Int} (hok : ∀ a ∈ asQ l, ArcB a) (h : TripQ prof l f g m0 c nd mi) {x : Int} (hx : endO c mi = some x) : -4000000000000000000 ≤ x - m0 ∧ x - m0 ≤ 4000000000000000000 := by
  rcases trip_end hok h with ⟨p, _⟩ | ⟨p1, _, p3⟩
  · rw [p] at hx; cases hx
  · obtain ⟨_, _, h0, h1, _, _⟩ := chkQ_ok p1
    rcases p3 with ⟨_, p4, _⟩ | ⟨_, y, p4, ⟨⟨i, a, ha, hg, hr⟩, _⟩⟩
    · rw [p4] at hx; cases hx; omega
    · rw [p4] at hx; cases hx
      have hN := netQ_ok (prof := prof) hok f
      have := hr.ge hN h0
      have := hr.le hN h0
      omega
abbrev A6 (Φ : Ending → World → Prop) := AtO Tryz.prog (bodyOf Tryz.f6) (whole (bodyPost Tryz.prog Tryz.f6 Φ)) [] 173
theorem agrees_calls {w : World} {v : Value} {os : List ObR} (hmv : ObsV w v os) {prof f g : Bys} (hp63 : prof.length ≤ 9223372036854775807) (hf63 : B63 f) (hTe : Te w) (wi : Int) (hwi : 0 ≤ wi ∧ wi < 65536) (m0 : Int) : Calls Tryz.prog 6 #[.agg #[v], vS prof, vS f, vS g, .int .u16 wi, vI m0] w fun e w' => e = .returned (vB true) ∧ Fr (fun _ => False) w w' := by
  obtain ⟨p0, c0, e0, s0⟩ := hmv.1.op
  subst e0
  refine beg Tryz.func6 rfl rfl [(0, .agg #[vL p0 os.length c0]), (1, vS prof), (2, vS f), (3, vS g), (4, .int .u16 wi), (5, vI m0)] rfl rfl fun Φ hΦ => ?_
  have hM := Mm.nil (fun _ => False) w
  refine newm 0 0 6 [] (cs := #[vL p0 os.length c0]) (T := 24) (v := fun b => vP b 0) f0 hM fun b484 w1 hM => calm 1 0 24 [] f0 hM (head_calls (hTe.fr hM.fr)) fun w1 hM => calm 3 1 29 [(13, vB true), (14, vI (wi % 10081)), (28, .agg #[vL p0 os.length c0])] (fc (cv16 wi hwi) (fc (trem wi 10081 Tryz.underlying3) (fc (lam 24 0 0 1 hM rfl) f0))) hM (few_calls (hmv.fr hM.fr)) fun w1 hM => seg 3 4 [(31, vB (!(fewP os)))] f0 ?_
  cases h485 : (fewP os) with
  | false =>
   exact rt1 12 (vB true) rfl f0 (hΦ _ _ ⟨rfl, hM.fr⟩)
  | true =>
   refine newm 3 7 35 [(32, vS prof), (33, vS f), (34, vS g)] (cs := #[vS prof, vS f, vS g]) (T := 9) (v := fun b => vL (some ⟨b, 0, none⟩) 3 3) f0 hM fun b486 w1 hM => calm 3 8 36 [] f0 hM (short_calls (src_lit (f := stL) (c := 1) (b := b486) (hM.get 1 (e := bk b486 #[vS prof, vS f, vS g] 9) rfl) [prof, f, g] 3 (fun _ => rfl) rfl rfl).src) fun w1 hM => seg 3 11 [(38, vB (!(shortB [prof, f, g])))] f0 ?_
   cases h487 : (shortB [prof, f, g]) with
   | false =>
    exact rt1 12 (vB true) rfl f0 (hΦ _ _ ⟨rfl, hM.fr⟩)
   | true =>
    refine calM 5 5 46 [(41, .agg #[vL p0 os.length c0]), (42, vS prof), (43, vS f), (44, vI (wi % 10081)), (45, vI m0)] (K := fun u Mn => ∃ v1 c rows, u = .tuple #[v1, vI c] ∧ ReachR prof os f (wi % 10081) m0 c rows ∧ Mn = [rw_ rwL 2 56 v1 rows]) [0, 1] [] (fc (lam 24 0 0 1 hM rfl) f0) hM rfl rfl (by decide) (fun hm => ((reach_calls (hmv.fr hM.fr) hp63 hf63 (fun h => fewP_arcs h485 h) (by have := fewP_len h485; omega) (hTe.fr hM.fr) (wi % 10081) m0).mono fun e w8 ⟨v1, c, rows, h1, h2, h3⟩ => ⟨_, _, h1, ⟨v1, c, rows, rfl, h2, rfl⟩, Mm_wk h3 fun _ h => h.elim⟩)) fun u Mn w1 hK hM => ?_
    obtain ⟨v1, c, rows, rfl, hR1, rfl⟩ := hK
    obtain ⟨qr, cr, er, sr⟩ := (hM.src (j := 2) rfl rwT.len).op
    subst er
    have brr := sr.bnd
    replace hM : Mm (fun _ => False) w w1 [bk b484 #[vL p0 os.length c0] 24, bk b486 #[vS prof, vS f, vS g] 9, rw_ rwL 2 56 (vL qr rows.length cr) rows] := hM
    refine calM 6 5 55 [(15, vL qr rows.length cr), (16, vI c), (50, .agg #[vL p0 os.length c0]), (51, vS prof), (52, vS f), (53, vS g), (54, vI m0)] (K := fun u Mn => ∃ u1 u2 c2 nd2 mi2, u = .tuple #[.agg #[u1, u2], vI c2] ∧ TripR prof os f g m0 c2 nd2 mi2 ∧ Mn = [rw_ stL 1 9 u1 nd2, rw_ inL 1 3 u2 mi2]) [0, 1, 2] [] (fc (lam 24 0 0 1 hM rfl) f0) hM rfl rfl (by decide) (fun hm => ((trip_calls (hmv.fr hM.fr) hp63 hf63 (fun h => fewP_arcs h485 h) (hTe.fr hM.fr) m0).mono fun e w8 ⟨v1, v2, c, nd, mi, h1, h2, h3⟩ => ⟨_, _, h1, ⟨v1, v2, c, nd, mi, rfl, h2, rfl⟩, Mm_wk h3 fun _ h => h.elim⟩)) fun u Mn w1 hK hM => ?_
    obtain ⟨u1, u2, c2, nd2, mi2, rfl, hR2, rfl⟩ := hK
    obtain ⟨qm, cm, em, sm⟩ := (hM.src (j := 4) rfl inT.len).op
    subst em
    have bm := sm.bnd
    obtain ⟨qn, cn, en, sn⟩ := (hM.src (j := 3) rfl stT.len).op
    subst en
    replace hM : Mm (fun _ => False) w w1 [bk b484 #[vL p0 os.length c0] 24, bk b486 #[vS prof, vS f, vS g] 9, rw_ rwL 2 56 (vL qr rows.length cr) rows, rw_ stL 1 9 (vL qn nd2.length cn) nd2, rw_ inL 1 3 (vL qm mi2.length cm) mi2] := hM
    refine varm 6 9 17 [(56, .agg #[vL qn nd2.length cn, vL qm mi2.length cm]), (57, vI c2)] [] 31 (.agg #[vL qn nd2.length cn, vL qm mi2.length cm]) f0 hM fun b488 w1 hM => ?_
    have hok := (AS_q os ▸ fun a ha => arcs_b (fun b hb => (hmv.2 b hb).bnd) a (nub_mem ha) : ∀ a ∈ asQ (pure_ os), ArcB a)
    have hn9 : 0 ≤ (wi % 10081) ∧ (wi % 10081) ≤ 10080 := by omega
    have hQ1 := reachR_q hR1
    have hQ2 := tripR_q hR2
    refine seg 7 2 [(18, vI c2), (59, vB (!(c == 0)))] f0 ?_
    cases h489 : (c == 0) with
    | false =>
     have rh489 := ef h489
     refine seg 8 7 [(66, vB ((rows.length : Int) == 0))] f0 ?_
     cases h490 : ((rows.length : Int) == 0) with
     | false =>
      have rh490 := ef h490
      obtain ⟨hE1, hE2⟩ := agree_err hn9 hok hQ1 hQ2 (ef h489)
      rw [hE1] at h490; cases h490
     | true =>
      have rh490 := et h490
      refine seg 8 11 [(70, vB (c2 == c))] f0 ?_
      cases h491 : (c2 == c) with
      | false =>
       have rh491 := ef h491
       refine seg 8 14 [(73, vB (c == 13))] f0 ?_
       cases h492 : (c == 13) with
       | false =>
        have rh492 := ef h492
        obtain ⟨hE1, hE2⟩ := agree_err hn9 hok hQ1 hQ2 (ef h489)
        rcases hE2 with hE2 | ⟨hE2, hE3⟩
        · exact absurd hE2 (ef h491)
        · skip
          exact absurd hE2 (ef h492)
       | true =>
        have rh492 := et h492
        obtain ⟨hE1, hE2⟩ := agree_err hn9 hok hQ1 hQ2 (ef h489)
        rcases hE2 with hE2 | ⟨hE2, hE3⟩
        · exact absurd hE2 (ef h491)
        · skip
          exact rt1 12 (vB (c2 == 11)) rfl f0 (hΦ _ _ ⟨congrArg (fun b => Ending.returned (vB b)) (beq_iff_eq.2 hE3), hM.fr⟩)
      | true =>
       have rh491 := et h491
       exact rt1 12 (vB true) rfl f0 (hΦ _ _ ⟨rfl, hM.fr⟩)
    | true =>
     have rh489 := et h489
     have hc0 : c = 0 := et h489
     obtain ⟨hpw, hbd⟩ := reach_rows hn9 hok hQ1 hc0
     refine seg 11 0 [(19, vB false), (20, vI 0), (21, vI 0)] f0 ?_
     have lp493 : ∀ (m495 : Nat) (i : Nat) (fo : Bool) (mn : Int) (w2 : World), i ≤ rows.length → (fo = true → ∃ r ∈ rows.take i, r.1 = g ∧ mn = r.2) → (fo = false → ∀ r ∈ rows.take i, ¬ r.1 = g) → Mm (fun _ => False) w w2 [bk b484 #[vL p0 os.length c0] 24, bk b486 #[vS prof, vS f, vS g] 9, rw_ rwL 2 56 (vL qr rows.length cr) rows, rw_ stL 1 9 (vL qn nd2.length cn) nd2, rw_ inL 1 3 (vL qm mi2.length cm) mi2, bk b488 #[vL qn nd2.length cn, vL qm mi2.length cm] 31] → m495 = rows.length - i → A6 Φ (some (11, 0)) [(21, vI (i : Int)), (20, vI mn), (19, vB fo), (18, vI c2), (17, vP b488 0), (15, vL qr rows.length cr), (14, vI (wi % 10081)), (13, vB true), (3, vS g), (5, vI m0)] w2 := by
      refine srec fun m495 ih494 i fo mn w2 hi hf1 hf0 hM hm495 => seg 11 4 [(82, vB (decide ((i : Int) < (rows.length : Int))))] f0 ?_
      cases h496 : (decide ((i : Int) < (rows.length : Int))) with
      | false =>
       have rh496 := df h496
       have hti : rows.take i = rows := List.take_of_length_le (by omega)
       rw [hti] at hf1 hf0
       obtain ⟨hA1, hA2, hA3⟩ := agree_ok hn9 hok hQ1 hc0 hQ2 hf1 hf0
       refine seg 18 3 [(22, vI (mi2.length : Int)), (135, vB (!(c2 == 0)))] (fc (ldm 29 5 1 hM rfl rfl) f0) ?_
       cases h497 : (c2 == 0) with
       | false =>
        have rh497 := ef h497
        exact rt1 12 (vB (!fo)) rfl (fc (tv 142 (b := (!(c2 == 0))) (c := true) (by rw [h497] <;> rfl)) f0) (hΦ _ _ ⟨congrArg (fun b => Ending.returned (vB b)) (show (!fo) = true by rw [hA2 (ef h497)]; rfl), hM.fr⟩)
       | true =>
        have rh497 := et h497
        refine seg 18 6 [(138, vB ((mi2.length : Int) == 0))] f0 ?_
        cases h498 : ((mi2.length : Int) == 0) with
        | false =>
         have rh498 := ef h498
         obtain ⟨z, hz⟩ := geb (l := mi2) (i := mi2.length - 1) (by omega)
         have hend : endO c2 mi2 = some z := by unfold endO; simp only [h497, h498, hz] <;> rfl
         obtain ⟨hB1, hB2⟩ := hA3 z hend
         have hzr : -4000000000000000000 ≤ z - m0 ∧ z - m0 ≤ 4000000000000000000 := trip_rng hok hQ2 hend
         obtain ⟨g499, eg499, -⟩ := hM.el inT (j := 4) rfl hz
         refine seg 21 9 [(23, vI (z - m0)), (164, vB (fo == (decide ((z - m0) ≤ (wi % 10081)))))] (fc (ldm 29 5 1 hM rfl rfl) (fc (tsub (mi2.length : Int) 1 Tryz.underlying3) (fc (ix 29 cm eg499 (gl hz) (z := ((mi2.length : Int) - 1)) (hz := (by omega))) (fc (ldr 3 4 0 inT hM rfl eg499 hz rfl) (fc (tsub z m0 Tryz.underlying3) f0))))) ?_
         cases h500 : (fo == (decide ((z - m0) ≤ (wi % 10081)))) with
         | false =>
          have rh500 := ef h500
          rw [← hB1] at h500; simp at h500
         | true =>
          have rh500 := et h500
          refine seg 21 12 [(167, vB (!fo))] f0 ?_
          cases h501 : fo with
          | false =>
           exact rt1 12 (vB true) rfl f0 (hΦ _ _ ⟨rfl, hM.fr⟩)
          | true =>
           exact rt1 12 (vB (mn == (z - m0))) rfl f0 (hΦ _ _ ⟨congrArg (fun b => Ending.returned (vB b)) (beq_iff_eq.2 (hB2 h501)), hM.fr⟩)
        | true =>
         have rh498 := et h498
         exact absurd (et h497) (hA1 (List.eq_nil_of_length_eq_zero (by have := et h498; omega))).1
      | true =>
       have rh496 := dt h496
       obtain ⟨y, hy⟩ := geb (l := rows) (i := i) (by omega)
       have hyb := hbd y (gm hy)
       refine seg 13 0 [] f0 ?_
       cases h502 : (decide (0 < (i : Int))) with
       | false =>
        have rh502 := df h502
        cases h504 : (decide (y.2 < 0)) with
        | false =>
         have rh504 := df h504
         have hM := hM.q ((Fr.refl _ _).drew)
         obtain ⟨g506, eg506, -⟩ := hM.el rwT (j := 2) rfl hy
         refine drq [(117, vB (decide ((wi % 10081) < y.2)))] rfl (fc (tv 86 h502) (fc (ix 35 cr eg506 (gl hy)) (fc (ldr 3 2 1 rwT hM rfl eg506 hy rfl) (fc (tv 107 h504) (fc (ix 35 cr eg506 (gl hy)) (fc (ldr 3 2 1 rwT hM rfl eg506 hy rfl) f0)))))) ?_
         cases h507 : (decide ((wi % 10081) < y.2)) with
         | false =>
          have rh507 := df h507
          refine seg 15 7 [(124, vB (y.1 == g))] (fc (ix 35 cr eg506 (gl hy)) (fc (ldr 9 2 0 rwT hM rfl eg506 hy rfl) (fc (seq 9 y.1 g) f0))) ?_
          cases h508 : (y.1 == g) with
          | false =>
           have rh508 := ef h508
           refine seg 11 0 [(21, vI ((i : Int) + 1))] (fc (tadd (i : Int) 1 Tryz.underlying3) f0) (fewer _ (ih494 _ (by have := gl hy; omega) (i + 1) fo mn _ (gl hy) (fun h => by obtain ⟨r, h1, h2⟩ := hf1 h; exact ⟨r, by rw [gt_ hy]; exact List.mem_append_left _ h1, h2⟩) (fun h r hr => by rw [gt_ hy] at hr; rcases List.mem_append.1 hr with hr | hr; exact hf0 h r hr; rw [List.mem_singleton] at hr; subst hr; exact ef h508) hM rfl))
          | true =>
           have rh508 := et h508
           refine seg 16 0 [] f0 ?_
           have hM := hM.q ((Fr.refl _ _).drew)
           refine drq [(19, vB true), (20, vI y.2)] rfl (fc (ix 35 cr eg506 (gl hy)) (fc (ldr 3 2 1 rwT hM rfl eg506 hy rfl) f0)) (seg 11 0 [(21, vI ((i : Int) + 1))] (fc (tadd (i : Int) 1 Tryz.underlying3) f0) (fewer _ (ih494 _ (by have := gl hy; omega) (i + 1) true y.2 _ (gl hy) (fun _ => ⟨y, by rw [gt_ hy]; simp, et h508, rfl⟩) (fun h => by cases h) hM rfl)))
         | true =>
          have rh507 := dt h507
          have := dt h507; omega
        | true =>
         have rh504 := dt h504
         have := dt h504; omega
       | true =>
        have rh502 := dt h502
        have hi0 := dt h502
        obtain ⟨x, hx⟩ := geb (l := rows) (i := i - 1) (by omega)
        have hxy : blt x.1 y.1 = true := pw_next (i := i - 1) hpw hx (by rw [show i - 1 + 1 = i by omega]; exact hy)
        cases h511 : (blt x.1 y.1) with
        | false =>
         rw [hxy] at h511; cases h511
        | true =>
         cases h514 : (decide (y.2 < 0)) with
         | false =>
          have rh514 := df h514
          have hM := hM.q ((Fr.refl _ _).drew)
          obtain ⟨g517, eg517, -⟩ := hM.el rwT (j := 2) rfl hx
          obtain ⟨g518, eg518, -⟩ := hM.el rwT (j := 2) rfl hy
          refine drq [(117, vB (decide ((wi % 10081) < y.2)))] rfl (fc (tv 86 h502) (fc (tsub (i : Int) 1 Tryz.underlying3) (fc (ix 35 cr eg517 (gl hx) (z := ((i : Int) - 1)) (hz := (by omega))) (fc (ldr 9 2 0 rwT hM rfl eg517 hx rfl) (fc (ix 35 cr eg518 (gl hy)) (fc (ldr 9 2 0 rwT hM rfl eg518 hy rfl) (fc (rz (sge 9 x.1 y.1) (by rw [h511] <;> rfl)) (fc (ix 35 cr eg518 (gl hy)) (fc (ldr 3 2 1 rwT hM rfl eg518 hy rfl) (fc (tv 107 h514) (fc (ix 35 cr eg518 (gl hy)) (fc (ldr 3 2 1 rwT hM rfl eg518 hy rfl) f0)))))))))))) ?_
          cases h519 : (decide ((wi % 10081) < y.2)) with
          | false =>
           have rh519 := df h519
           refine seg 15 7 [(124, vB (y.1 == g))] (fc (ix 35 cr eg518 (gl hy)) (fc (ldr 9 2 0 rwT hM rfl eg518 hy rfl) (fc (seq 9 y.1 g) f0))) ?_
           cases h520 : (y.1 == g) with
           | false =>
            have rh520 := ef h520
            refine seg 11 0 [(21, vI ((i : Int) + 1))] (fc (tadd (i : Int) 1 Tryz.underlying3) f0) (fewer _ (ih494 _ (by have := gl hy; omega) (i + 1) fo mn _ (gl hy) (fun h => by obtain ⟨r, h1, h2⟩ := hf1 h; exact ⟨r, by rw [gt_ hy]; exact List.mem_append_left _ h1, h2⟩) (fun h r hr => by rw [gt_ hy] at hr; rcases List.mem_append.1 hr with hr | hr; exact hf0 h r hr; rw [List.mem_singleton] at hr; subst hr; exact ef h520) hM rfl))
           | true =>
            have rh520 := et h520
            refine seg 16 0 [] f0 ?_
            have hM := hM.q ((Fr.refl _ _).drew)
            refine drq [(19, vB true), (20, vI y.2)] rfl (fc (ix 35 cr eg518 (gl hy)) (fc (ldr 3 2 1 rwT hM rfl eg518 hy rfl) f0)) (seg 11 0 [(21, vI ((i : Int) + 1))] (fc (tadd (i : Int) 1 Tryz.underlying3) f0) (fewer _ (ih494 _ (by have := gl hy; omega) (i + 1) true y.2 _ (gl hy) (fun _ => ⟨y, by rw [gt_ hy]; simp, et h520, rfl⟩) (fun h => by cases h) hM rfl)))
          | true =>
           have rh519 := dt h519
           have := dt h519; omega
         | true =>
          have rh514 := dt h514
          have := dt h514; omega
     exact fewer _ (lp493 _ 0 false 0 _ (Nat.zero_le _) (fun h => by cases h) (fun _ r hr => by simp at hr) hM rfl)
end Go.Proofs.YtbflfefahheidaaGreatDoor
/- Path agrees, lifted. -/
set_option linter.unusedVariables false
set_option linter.unusedSimpArgs false
namespace Go.Proofs.YtbflfefahheidaaGreatDoor
open Go.RowKit Go.Pl Go.ChangeShapes Go.WideShapes
theorem u16_of {n : Int} (h : (Lit.int .u16 n).wf = true) : 0 ≤ n ∧ n < 65536 := by
 simp [Lit.wf] at h
 have h1 : IntKind.u16.min = 0 := by decide
 have h2 : IntKind.u16.max = 65535 := by decide
 omega
set_option maxRecDepth 100000 in
theorem pathAgrees_lifted (os : Os) (started : os.Started) (H : Type) (enc : TypeId × Value → H) :
  ReturnsInHanded {} Tryz.checked os 6 .any (fun w args => (Rows.pathAgreesSpec.pre enc Tryz.prog Tryz.f6 [] false w args ∧ laidMetH Tryz.prog laid7 w) ∧ sizedMet enc Tryz.prog Tryz.f6 (OpenSpec.ofChange Rows.pathAgreesSpec) false w args)
   (Rows.pathAgreesSpec.post enc Tryz.prog Tryz.f6 false true false false) := by
 refine returnsInHanded_of_change_and (C := Tryz.checked) (X := fun w _ => laidMetH Tryz.prog laid7 w) (fun _ _ _ hh h => h.of_heap hh) lOwn started (by kernel_rfl) Tryz.func6
  (ChangeSpec.witness_shaped (enc := enc) (C := Tryz.checked) (os := os) (X := fun w _ => laidMetH Tryz.prog laid7 w) false (World.doorLaid Tryz.prog 86 os) #[.agg #[.slice none 0 0], .string ByteArray.empty, .string ByteArray.empty, .string ByteArray.empty, .int .u16 0, .int .i64 0] 12 rfl (World.shaped_of_RefB (by kernel_rfl) (by kernel_rfl)) (by kernel_rfl) (by kernel_rfl) (by kernel_rfl) (door_met os _)) ?_
 intro W base args ds gs before hval0 hW _ _ hL _
 have hval : ∀ (j : Nat) t v, Tryz.f6.params[j]? = some t → args[j]? = some v → Value.okWide Tryz.prog W .any base t v := hval0
 have hW' := hW
 obtain ⟨p, q, hA0, hV, _, _, _⟩ := hW
 have hA : DataW.TrodAll enc Tryz.prog W 0 (fun _ => true) true Tryz.f6.params.toList args.toList ds p := hA0
 rw [Tryz.params6] at hA hval
 have hT := te_of hL
 obtain ⟨v0, vs0, d0, ds0, p0, q0, hargs, rfl, rfl, h0, r0⟩ := trodAll_cons hA
 obtain ⟨v1, vs1, d1, ds1, p1, q1, rfl, rfl, rfl, h1, r1⟩ := trodAll_cons r0
 obtain ⟨v2, vs2, d2, ds2, p2, q2, rfl, rfl, rfl, h2, r2⟩ := trodAll_cons r1
 obtain ⟨v3, vs3, d3, ds3, p3, q3, rfl, rfl, rfl, h3, r3⟩ := trodAll_cons r2
 obtain ⟨v4, vs4, d4, ds4, p4, q4, rfl, rfl, rfl, h4, r4⟩ := trodAll_cons r3
 obtain ⟨v5, vs5, d5, ds5, p5, q5, rfl, rfl, rfl, h5, r5⟩ := trodAll_cons r4
 obtain ⟨rfl, rfl, rfl⟩ := trodAll_nil r5
 obtain rfl : args = #[v0, v1, v2, v3, v4, v5] := by cases args; simp_all
 obtain ⟨rfl, rfl⟩ := trodVars_none hV
 obtain ⟨cs0, rfl, -⟩ := okWide_struct Tryz.underlying24 (hval 0 24 v0 rfl rfl)
 obtain ⟨fu0, hf0⟩ := h0
 obtain ⟨os0, vm0, hc0, hO0⟩ := open_map hf0
 obtain rfl : cs0 = #[vm0] := by cases cs0; exact congrArg Array.mk hc0
 obtain ⟨a1, rfl, x1, y1, w1⟩ := Go.ChangeMaps.open_string Tryz.underlying9 (hval 1 9 v1 rfl rfl) h1
 obtain ⟨s1, rfl⟩ := exists_ofL a1
 have hb1 : B63 s1 := by have := w1; rw [ofL_size] at this; exact this
 obtain ⟨a2, rfl, x2, y2, w2⟩ := Go.ChangeMaps.open_string Tryz.underlying9 (hval 2 9 v2 rfl rfl) h2
 obtain ⟨s2, rfl⟩ := exists_ofL a2
 have hb2 : B63 s2 := by have := w2; rw [ofL_size] at this; exact this
 obtain ⟨a3, rfl, x3, y3, w3⟩ := Go.ChangeMaps.open_string Tryz.underlying9 (hval 3 9 v3 rfl rfl) h3
 obtain ⟨s3, rfl⟩ := exists_ofL a3
 have hb3 : B63 s3 := by have := w3; rw [ofL_size] at this; exact this
 obtain ⟨a4, rfl, x4, y4, w4⟩ := open_int Tryz.underlying54 (hval 4 54 v4 rfl rfl) h4
 have hu4 := u16_of w4
 obtain ⟨a5, rfl, x5, y5, w5⟩ := open_int Tryz.underlying3 (hval 5 3 v5 rfl rfl) h5
 refine (agrees_calls hO0 hb1 hb2 hT a4 hu4 a5).mono fun e W' ⟨he, hg⟩ => ⟨_, he, ?_⟩
 exact law_post lOut (by intro t ht; rw [Tryz.params6] at ht; simp at ht; rcases ht with rfl | rfl | rfl | rfl <;> exact ⟨by kernel_rfl, of_decide_eq_true (by kernel_rfl)⟩) rfl Tryz.underlying4 rfl rfl hW' (hg.below (by simp))
theorem PathAgrees_holds : Rows.PathAgreesSaid :=
 OpenClaim.holds_of_wide 6 Tryz.f6 rfl rfl rfl rfl rfl rfl rfl ⟨rfl, rfl, rfl, rfl, rfl⟩ rfl rfl rfl rfl rfl (by kernel_rfl) Tryz.func6 (by kernel_rfl)
  (of_decide_eq_true (by kernel_rfl)) (by unfold Func.isWrapper; first | (rw [if_pos (by decide +kernel)]; kernel_rfl) | (rw [if_neg (by decide +kernel)]; exact ⟨rfl, rfl⟩))
  (fun os started H enc _ => pathAgrees_lifted os started H enc)
set_option maxRecDepth 100000 in
theorem PathAgrees_card : Rows.PathAgreesCardSaid :=
 Claim7.holds_tied_plain_at .later [] [.data, .data, .data, .sentinel, .sentinel, .listed, .data] true (true, "afa07effc40d7ae955d99d1858bd1b689d762936f66a9444e2ef661d05c260ea") true
  PathAgrees_holds (fun _ h => by cases h) (by kernel_rfl) (fun _ h => by cases h) pathAgrees_row_tie rfl ⟨rfl, rfl⟩ (by kernel_rfl) rfl
  (fun f fn hf hfn => by
   obtain rfl : f = 6 := Option.some.inj ((show Tryz.prog.funcNamed "planisphere/planispherelaw37.PathAgrees" = some 6 by kernel_rfl).symm.trans hf) |>.symm
   obtain rfl : fn = Tryz.f6 := (Option.some.inj (Tryz.func6.symm.trans hfn)).symm
   exact ⟨by kernel_rfl, fun j t ht => by
    rw [Tryz.params6] at ht
    have hm := Array.mem_of_getElem? ht
    simp at hm
    rcases hm with rfl | rfl | rfl | rfl <;> (show Tryz.prog.wantsStandIn _ = false; kernel_rfl)⟩)
  (by kernel_rfl)
#print axioms PathAgrees_card
end Go.Proofs.YtbflfefahheidaaGreatDoor
