/-
  No cell of these rows narrows 'for every input' (looked for: loops, veiled, ifaces, maps, wideKeys, modest, calm, conditions, laid).
  DERIVED. THE GIVEN ROWS OF THIS SEAT. 6 by the template 'for every input the law returns true; each argument reads behind the call as it read before'; 0 by the template 'total and deterministic' (their statements: YtcafnanbdmapgaaTotals.lean).
  GIVEN WITH THE SEED: the statements are not yours to turn. If you find one false, say at which input.
  Laid BY PROGRAM, IN A SANDBOX (cutbox-rows.mjs): the forced cells as the released guide's own fill.sh prints them over the translation de32f5cba177bd19… (all of the seat's roots in one cut). By AI agents, Wed Nov 11 2026. No macro, syntax, notation, axiom, sorry.
-/
import Derived.Test.YtcafnanbdmapgaaChecked
import GoSem.Claim
import GoSem.ClaimJoined
import GoSem.ClaimMapViews
import Derived.JoinedTies
import Derived.KernelRfl
namespace Go.Proofs.Ytcafnanbdmapgaa
/- THE CELL 'sum', in the pinned program and in every row, IS THE sha256 OF THE DUMP (.gsa) THAT YtcafnanbdmapgaaProg.lean LOADS. Nothing in Lean hashes anything: it is a label: what it is worth is what the hold of that sum in a sandbox is worth. -/
noncomputable def Try.pinned : Pinned := { name := "ytcafnanbdmapgaa", sum := "de32f5cba177bd196481f27a08b292a9b1afd88f71128d5c3ed23d30345d79f4", checked := Try.checked }
namespace Rows
def none {H : Type} : Left H := { results := [], args := [] }

/-- 'planispherelaw06.IndexMatchesReference': WHATEVER THE INPUT: true; the input reads as it did. -/
def indexMatchesReferenceSpec : ChangeSpec := { name := "indexMatchesReference", fn := fun _ => fun
  | [d1, d2, d3, d4, d5] => { results := [.lit (.bool true)], args := [d1, d2, d3, d4, d5] }
  | _ => none }
def indexMatchesReferenceRow : OpenClaim := { program := "ytcafnanbdmapgaa", sum := "de32f5cba177bd196481f27a08b292a9b1afd88f71128d5c3ed23d30345d79f4", func := "planisphere/planispherelaw06.IndexMatchesReference", spec := "indexMatchesReference", unfollowed := true, recurses := true, apart := false }
def IndexMatchesReferenceSaid : Prop := indexMatchesReferenceRow.holds Try.pinned (OpenSpec.ofChange indexMatchesReferenceSpec)

/-- ITS FALSE NEIGHBOUR: 'it returns false'. Refute it at one input. -/
def indexMatchesReferenceWrong : ChangeSpec := { name := "indexMatchesReference", fn := fun _ => fun
  | [d1, d2, d3, d4, d5] => { results := [.lit (.bool false)], args := [d1, d2, d3, d4, d5] }
  | _ => none }
def IndexMatchesReferenceWrongFalsely : Prop := indexMatchesReferenceRow.holds Try.pinned (OpenSpec.ofChange indexMatchesReferenceWrong)

/-- 'planispherelaw06.IndexExact': WHATEVER THE INPUT: true; the input reads as it did. -/
def indexExactSpec : ChangeSpec := { name := "indexExact", fn := fun _ => fun
  | [d1, d2] => { results := [.lit (.bool true)], args := [d1, d2] }
  | _ => none }
def indexExactRow : OpenClaim := { program := "ytcafnanbdmapgaa", sum := "de32f5cba177bd196481f27a08b292a9b1afd88f71128d5c3ed23d30345d79f4", func := "planisphere/planispherelaw06.IndexExact", spec := "indexExact", unfollowed := true, recurses := true, apart := false }
def IndexExactSaid : Prop := indexExactRow.holds Try.pinned (OpenSpec.ofChange indexExactSpec)

/-- ITS FALSE NEIGHBOUR: 'it returns false'. Refute it at one input. -/
def indexExactWrong : ChangeSpec := { name := "indexExact", fn := fun _ => fun
  | [d1, d2] => { results := [.lit (.bool false)], args := [d1, d2] }
  | _ => none }
def IndexExactWrongFalsely : Prop := indexExactRow.holds Try.pinned (OpenSpec.ofChange indexExactWrong)

/-- 'planispherelaw06.IndexNearest': WHATEVER THE INPUT: true; the input reads as it did. -/
def indexNearestSpec : ChangeSpec := { name := "indexNearest", fn := fun _ => fun
  | [d1, d2, d3, d4] => { results := [.lit (.bool true)], args := [d1, d2, d3, d4] }
  | _ => none }
def indexNearestRow : OpenClaim := { program := "ytcafnanbdmapgaa", sum := "de32f5cba177bd196481f27a08b292a9b1afd88f71128d5c3ed23d30345d79f4", func := "planisphere/planispherelaw06.IndexNearest", spec := "indexNearest", unfollowed := true, recurses := true, apart := false }
def IndexNearestSaid : Prop := indexNearestRow.holds Try.pinned (OpenSpec.ofChange indexNearestSpec)

/-- ITS FALSE NEIGHBOUR: 'it returns false'. Refute it at one input. -/
def indexNearestWrong : ChangeSpec := { name := "indexNearest", fn := fun _ => fun
  | [d1, d2, d3, d4] => { results := [.lit (.bool false)], args := [d1, d2, d3, d4] }
  | _ => none }
def IndexNearestWrongFalsely : Prop := indexNearestRow.holds Try.pinned (OpenSpec.ofChange indexNearestWrong)

/-- 'planispherelaw06.IndexOrders': WHATEVER THE INPUT: true; the input reads as it did. -/
def indexOrdersSpec : ChangeSpec := { name := "indexOrders", fn := fun _ => fun
  | [d1, d2, d3, d4] => { results := [.lit (.bool true)], args := [d1, d2, d3, d4] }
  | _ => none }
def indexOrdersRow : OpenClaim := { program := "ytcafnanbdmapgaa", sum := "de32f5cba177bd196481f27a08b292a9b1afd88f71128d5c3ed23d30345d79f4", func := "planisphere/planispherelaw06.IndexOrders", spec := "indexOrders", unfollowed := true, recurses := true, apart := false }
def IndexOrdersSaid : Prop := indexOrdersRow.holds Try.pinned (OpenSpec.ofChange indexOrdersSpec)

/-- ITS FALSE NEIGHBOUR: 'it returns false'. Refute it at one input. -/
def indexOrdersWrong : ChangeSpec := { name := "indexOrders", fn := fun _ => fun
  | [d1, d2, d3, d4] => { results := [.lit (.bool false)], args := [d1, d2, d3, d4] }
  | _ => none }
def IndexOrdersWrongFalsely : Prop := indexOrdersRow.holds Try.pinned (OpenSpec.ofChange indexOrdersWrong)

/-- 'planispherelaw06.IndexInside': WHATEVER THE INPUT: true; the input reads as it did. -/
def indexInsideSpec : ChangeSpec := { name := "indexInside", fn := fun _ => fun
  | [d1, d2, d3] => { results := [.lit (.bool true)], args := [d1, d2, d3] }
  | _ => none }
def indexInsideRow : OpenClaim := { program := "ytcafnanbdmapgaa", sum := "de32f5cba177bd196481f27a08b292a9b1afd88f71128d5c3ed23d30345d79f4", func := "planisphere/planispherelaw06.IndexInside", spec := "indexInside", unfollowed := true, recurses := true, apart := false }
def IndexInsideSaid : Prop := indexInsideRow.holds Try.pinned (OpenSpec.ofChange indexInsideSpec)

/-- ITS FALSE NEIGHBOUR: 'it returns false'. Refute it at one input. -/
def indexInsideWrong : ChangeSpec := { name := "indexInside", fn := fun _ => fun
  | [d1, d2, d3] => { results := [.lit (.bool false)], args := [d1, d2, d3] }
  | _ => none }
def IndexInsideWrongFalsely : Prop := indexInsideRow.holds Try.pinned (OpenSpec.ofChange indexInsideWrong)

/-- 'planispherelaw06.IndexRefuses': WHATEVER THE INPUT: true; the input reads as it did. -/
def indexRefusesSpec : ChangeSpec := { name := "indexRefuses", fn := fun _ => fun
  | [d1, d2, d3, d4] => { results := [.lit (.bool true)], args := [d1, d2, d3, d4] }
  | _ => none }
def indexRefusesRow : OpenClaim := { program := "ytcafnanbdmapgaa", sum := "de32f5cba177bd196481f27a08b292a9b1afd88f71128d5c3ed23d30345d79f4", func := "planisphere/planispherelaw06.IndexRefuses", spec := "indexRefuses", unfollowed := true, recurses := true, apart := false }
def IndexRefusesSaid : Prop := indexRefusesRow.holds Try.pinned (OpenSpec.ofChange indexRefusesSpec)

/-- ITS FALSE NEIGHBOUR: 'it returns false'. Refute it at one input. -/
def indexRefusesWrong : ChangeSpec := { name := "indexRefuses", fn := fun _ => fun
  | [d1, d2, d3, d4] => { results := [.lit (.bool false)], args := [d1, d2, d3, d4] }
  | _ => none }
def IndexRefusesWrongFalsely : Prop := indexRefusesRow.holds Try.pinned (OpenSpec.ofChange indexRefusesWrong)

/- THE SECOND FORM. 'bulk': how many values and letters a reading holds, each counted each time it is reached (what is shared counts as often as it is met; a slice's spare places count too). A statement '..UptoSaid' is the law's where the arguments, and the package variables that the reading takes, are together of bulk at most 1048576: NARROWER than '..Said'. Prove '..Said' where nothing that the law and all that it calls make is longer than what came in: it says more and counts as full. Else prove '..UptoSaid'. A law counts once. -/
mutual
def uptoBulk {H : Type} : DataW H → Nat
  | .lit (.string bytes) => bytes.length + 1
  | .lit _ => 1
  | .nil => 1
  | .ptr d => uptoBulk d + 1
  | .slice elems spare => uptoBulkAll elems + uptoBulkAll spare + 1
  | .agg parts => uptoBulkAll parts + 1
  | .iface _ d => uptoBulk d + 1
  | .map entries => uptoBulkEntries entries + 1
  | .held _ => 1
def uptoBulkAll {H : Type} : List (DataW H) → Nat
  | [] => 0
  | d :: r => uptoBulk d + uptoBulkAll r
def uptoBulkEntries {H : Type} : List (Lit × DataW H) → Nat
  | [] => 0
  | x :: r => uptoBulkEntry x + uptoBulkEntries r
def uptoBulkEntry {H : Type} : Lit × DataW H → Nat
  | (.string bytes, d) => bytes.length + uptoBulk d + 1
  | (_, d) => uptoBulk d + 1
 end
def uptoSmall : (H : Type) → List (DataW H) → Bool := fun _ ds => decide (uptoBulkAll ds ≤ 1048576)
def OpenSpec.upto (s : _root_.Go.ChangeSpec) : _root_.Go.OpenSpec := { _root_.Go.OpenSpec.ofChange s with cond := some uptoSmall }

/-- 'planispherelaw06.IndexMatchesReference', WHERE WHAT IT READS IS OF BULK AT MOST 1048576: true; the input reads as it did. -/
def indexMatchesReferenceUptoRow : OpenClaim := { program := "ytcafnanbdmapgaa", sum := "de32f5cba177bd196481f27a08b292a9b1afd88f71128d5c3ed23d30345d79f4", func := "planisphere/planispherelaw06.IndexMatchesReference", spec := "indexMatchesReference", unfollowed := true, recurses := true, apart := false, narrowed := true }
def IndexMatchesReferenceUptoSaid : Prop := indexMatchesReferenceUptoRow.holds Try.pinned (OpenSpec.upto indexMatchesReferenceSpec)

/-- 'planispherelaw06.IndexExact', WHERE WHAT IT READS IS OF BULK AT MOST 1048576: true; the input reads as it did. -/
def indexExactUptoRow : OpenClaim := { program := "ytcafnanbdmapgaa", sum := "de32f5cba177bd196481f27a08b292a9b1afd88f71128d5c3ed23d30345d79f4", func := "planisphere/planispherelaw06.IndexExact", spec := "indexExact", unfollowed := true, recurses := true, apart := false, narrowed := true }
def IndexExactUptoSaid : Prop := indexExactUptoRow.holds Try.pinned (OpenSpec.upto indexExactSpec)

/-- 'planispherelaw06.IndexNearest', WHERE WHAT IT READS IS OF BULK AT MOST 1048576: true; the input reads as it did. -/
def indexNearestUptoRow : OpenClaim := { program := "ytcafnanbdmapgaa", sum := "de32f5cba177bd196481f27a08b292a9b1afd88f71128d5c3ed23d30345d79f4", func := "planisphere/planispherelaw06.IndexNearest", spec := "indexNearest", unfollowed := true, recurses := true, apart := false, narrowed := true }
def IndexNearestUptoSaid : Prop := indexNearestUptoRow.holds Try.pinned (OpenSpec.upto indexNearestSpec)

/-- 'planispherelaw06.IndexOrders', WHERE WHAT IT READS IS OF BULK AT MOST 1048576: true; the input reads as it did. -/
def indexOrdersUptoRow : OpenClaim := { program := "ytcafnanbdmapgaa", sum := "de32f5cba177bd196481f27a08b292a9b1afd88f71128d5c3ed23d30345d79f4", func := "planisphere/planispherelaw06.IndexOrders", spec := "indexOrders", unfollowed := true, recurses := true, apart := false, narrowed := true }
def IndexOrdersUptoSaid : Prop := indexOrdersUptoRow.holds Try.pinned (OpenSpec.upto indexOrdersSpec)

/-- 'planispherelaw06.IndexInside', WHERE WHAT IT READS IS OF BULK AT MOST 1048576: true; the input reads as it did. -/
def indexInsideUptoRow : OpenClaim := { program := "ytcafnanbdmapgaa", sum := "de32f5cba177bd196481f27a08b292a9b1afd88f71128d5c3ed23d30345d79f4", func := "planisphere/planispherelaw06.IndexInside", spec := "indexInside", unfollowed := true, recurses := true, apart := false, narrowed := true }
def IndexInsideUptoSaid : Prop := indexInsideUptoRow.holds Try.pinned (OpenSpec.upto indexInsideSpec)

/-- 'planispherelaw06.IndexRefuses', WHERE WHAT IT READS IS OF BULK AT MOST 1048576: true; the input reads as it did. -/
def indexRefusesUptoRow : OpenClaim := { program := "ytcafnanbdmapgaa", sum := "de32f5cba177bd196481f27a08b292a9b1afd88f71128d5c3ed23d30345d79f4", func := "planisphere/planispherelaw06.IndexRefuses", spec := "indexRefuses", unfollowed := true, recurses := true, apart := false, narrowed := true }
def IndexRefusesUptoSaid : Prop := indexRefusesUptoRow.holds Try.pinned (OpenSpec.upto indexRefusesSpec)

end Rows
end Go.Proofs.Ytcafnanbdmapgaa
