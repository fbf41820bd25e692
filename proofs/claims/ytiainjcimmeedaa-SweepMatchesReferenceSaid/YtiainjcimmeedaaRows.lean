/-
  No cell of these rows narrows 'for every input' (looked for: loops, veiled, ifaces, maps, wideKeys, modest, calm, conditions, laid).
  DERIVED. THE GIVEN ROWS OF THIS SEAT. 6 by the template 'for every input the law returns true; each argument reads behind the call as it read before'; 0 by the template 'total and deterministic' (their statements: YtiainjcimmeedaaTotals.lean).
  GIVEN WITH THE SEED: the statements are not yours to turn. If you find one false, say at which input.
  Laid BY PROGRAM, IN A SANDBOX (cutbox-rows.mjs): the forced cells as the released guide's own fill.sh prints them over the translation 0a78271b0032b90b… (all of the seat's roots in one cut). By AI agents, Wed Nov 11 2026. No macro, syntax, notation, axiom, sorry.
-/
import Derived.Test.YtiainjcimmeedaaChecked
import GoSem.Claim
import GoSem.ClaimJoined
import GoSem.ClaimMapViews
import Derived.JoinedTies
import Derived.KernelRfl
namespace Go.Proofs.Ytiainjcimmeedaa
/- THE CELL 'sum', in the pinned program and in every row, IS THE sha256 OF THE DUMP (.gsa) THAT YtiainjcimmeedaaProg.lean LOADS. Nothing in Lean hashes anything: it is a label: what it is worth is what the hold of that sum in a sandbox is worth. -/
noncomputable def Try.pinned : Pinned := { name := "ytiainjcimmeedaa", sum := "0a78271b0032b90bf175e65fff5bac8afd42c2dddd2e096d66f720c5c98559d9", checked := Try.checked }
namespace Rows
def none {H : Type} : Left H := { results := [], args := [] }

/-- 'planispherelaw05.SweepMatchesReference': WHATEVER THE INPUT: true; the input reads as it did. -/
def sweepMatchesReferenceSpec : ChangeSpec := { name := "sweepMatchesReference", fn := fun _ => fun
  | [d] => { results := [.lit (.bool true)], args := [d] }
  | _ => none }
def sweepMatchesReferenceRow : OpenClaim := { program := "ytiainjcimmeedaa", sum := "0a78271b0032b90bf175e65fff5bac8afd42c2dddd2e096d66f720c5c98559d9", func := "planisphere/planispherelaw05.SweepMatchesReference", spec := "sweepMatchesReference", unfollowed := true, recurses := true, apart := false }
def SweepMatchesReferenceSaid : Prop := sweepMatchesReferenceRow.holds Try.pinned (OpenSpec.ofChange sweepMatchesReferenceSpec)

/-- ITS FALSE NEIGHBOUR: 'it returns false'. Refute it at one input. -/
def sweepMatchesReferenceWrong : ChangeSpec := { name := "sweepMatchesReference", fn := fun _ => fun
  | [d] => { results := [.lit (.bool false)], args := [d] }
  | _ => none }
def SweepMatchesReferenceWrongFalsely : Prop := sweepMatchesReferenceRow.holds Try.pinned (OpenSpec.ofChange sweepMatchesReferenceWrong)

/-- 'planispherelaw05.SweepPairs': WHATEVER THE INPUT: true; the input reads as it did. -/
def sweepPairsSpec : ChangeSpec := { name := "sweepPairs", fn := fun _ => fun
  | [d] => { results := [.lit (.bool true)], args := [d] }
  | _ => none }
def sweepPairsRow : OpenClaim := { program := "ytiainjcimmeedaa", sum := "0a78271b0032b90bf175e65fff5bac8afd42c2dddd2e096d66f720c5c98559d9", func := "planisphere/planispherelaw05.SweepPairs", spec := "sweepPairs", unfollowed := true, recurses := true, apart := false }
def SweepPairsSaid : Prop := sweepPairsRow.holds Try.pinned (OpenSpec.ofChange sweepPairsSpec)

/-- ITS FALSE NEIGHBOUR: 'it returns false'. Refute it at one input. -/
def sweepPairsWrong : ChangeSpec := { name := "sweepPairs", fn := fun _ => fun
  | [d] => { results := [.lit (.bool false)], args := [d] }
  | _ => none }
def SweepPairsWrongFalsely : Prop := sweepPairsRow.holds Try.pinned (OpenSpec.ofChange sweepPairsWrong)

/-- 'planispherelaw05.SweepOrder': WHATEVER THE INPUT: true; the input reads as it did. -/
def sweepOrderSpec : ChangeSpec := { name := "sweepOrder", fn := fun _ => fun
  | [d] => { results := [.lit (.bool true)], args := [d] }
  | _ => none }
def sweepOrderRow : OpenClaim := { program := "ytiainjcimmeedaa", sum := "0a78271b0032b90bf175e65fff5bac8afd42c2dddd2e096d66f720c5c98559d9", func := "planisphere/planispherelaw05.SweepOrder", spec := "sweepOrder", unfollowed := true, recurses := true, apart := false }
def SweepOrderSaid : Prop := sweepOrderRow.holds Try.pinned (OpenSpec.ofChange sweepOrderSpec)

/-- ITS FALSE NEIGHBOUR: 'it returns false'. Refute it at one input. -/
def sweepOrderWrong : ChangeSpec := { name := "sweepOrder", fn := fun _ => fun
  | [d] => { results := [.lit (.bool false)], args := [d] }
  | _ => none }
def SweepOrderWrongFalsely : Prop := sweepOrderRow.holds Try.pinned (OpenSpec.ofChange sweepOrderWrong)

/-- 'planispherelaw05.SweepParts': WHATEVER THE INPUT: true; the input reads as it did. -/
def sweepPartsSpec : ChangeSpec := { name := "sweepParts", fn := fun _ => fun
  | [d1, d2] => { results := [.lit (.bool true)], args := [d1, d2] }
  | _ => none }
def sweepPartsRow : OpenClaim := { program := "ytiainjcimmeedaa", sum := "0a78271b0032b90bf175e65fff5bac8afd42c2dddd2e096d66f720c5c98559d9", func := "planisphere/planispherelaw05.SweepParts", spec := "sweepParts", unfollowed := true, recurses := true, apart := false }
def SweepPartsSaid : Prop := sweepPartsRow.holds Try.pinned (OpenSpec.ofChange sweepPartsSpec)

/-- ITS FALSE NEIGHBOUR: 'it returns false'. Refute it at one input. -/
def sweepPartsWrong : ChangeSpec := { name := "sweepParts", fn := fun _ => fun
  | [d1, d2] => { results := [.lit (.bool false)], args := [d1, d2] }
  | _ => none }
def SweepPartsWrongFalsely : Prop := sweepPartsRow.holds Try.pinned (OpenSpec.ofChange sweepPartsWrong)

/-- 'planispherelaw05.SweepMoved': WHATEVER THE INPUT: true; the input reads as it did. -/
def sweepMovedSpec : ChangeSpec := { name := "sweepMoved", fn := fun _ => fun
  | [d1, d2] => { results := [.lit (.bool true)], args := [d1, d2] }
  | _ => none }
def sweepMovedRow : OpenClaim := { program := "ytiainjcimmeedaa", sum := "0a78271b0032b90bf175e65fff5bac8afd42c2dddd2e096d66f720c5c98559d9", func := "planisphere/planispherelaw05.SweepMoved", spec := "sweepMoved", unfollowed := true, recurses := true, apart := false }
def SweepMovedSaid : Prop := sweepMovedRow.holds Try.pinned (OpenSpec.ofChange sweepMovedSpec)

/-- ITS FALSE NEIGHBOUR: 'it returns false'. Refute it at one input. -/
def sweepMovedWrong : ChangeSpec := { name := "sweepMoved", fn := fun _ => fun
  | [d1, d2] => { results := [.lit (.bool false)], args := [d1, d2] }
  | _ => none }
def SweepMovedWrongFalsely : Prop := sweepMovedRow.holds Try.pinned (OpenSpec.ofChange sweepMovedWrong)

/-- 'planispherelaw05.SweepLimit': WHATEVER THE INPUT: true; the input reads as it did. -/
def sweepLimitSpec : ChangeSpec := { name := "sweepLimit", fn := fun _ => fun
  | [d] => { results := [.lit (.bool true)], args := [d] }
  | _ => none }
def sweepLimitRow : OpenClaim := { program := "ytiainjcimmeedaa", sum := "0a78271b0032b90bf175e65fff5bac8afd42c2dddd2e096d66f720c5c98559d9", func := "planisphere/planispherelaw05.SweepLimit", spec := "sweepLimit", unfollowed := true, recurses := true, apart := false }
def SweepLimitSaid : Prop := sweepLimitRow.holds Try.pinned (OpenSpec.ofChange sweepLimitSpec)

/-- ITS FALSE NEIGHBOUR: 'it returns false'. Refute it at one input. -/
def sweepLimitWrong : ChangeSpec := { name := "sweepLimit", fn := fun _ => fun
  | [d] => { results := [.lit (.bool false)], args := [d] }
  | _ => none }
def SweepLimitWrongFalsely : Prop := sweepLimitRow.holds Try.pinned (OpenSpec.ofChange sweepLimitWrong)

/- THE SECOND FORM. 'bulk': how many values and letters a reading holds, each counted each time it is reached (what is shared counts as often as it is met; a slice's spare places count too). A statement '..UptoSaid' is the law's where the arguments, and the package variables that the reading takes, are together of bulk at most 1048576: NARROWER than '..Said'. Prove '..Said' where nothing that the law and all that it calls make is longer than what came in: it says more and counts as full. Else prove '..UptoSaid'. A law counts once. -/
mutual
def uptoBulk {H : Type} : DataW H → Nat
  | .lit (.string bytes) => bytes.length + 1
  | .lit _ => 1
  | .nil => 1
  | .ptr d => uptoBulk d + 1
  | .slice elems spare => uptoBulkAll elems + uptoBulkAll spare + 1
  | .agg parts => uptoBulkAll parts + 1
  | .iface _ d => uptoBulk d + 1
  | .map entries => uptoBulkEntries entries + 1
  | .held _ => 1
def uptoBulkAll {H : Type} : List (DataW H) → Nat
  | [] => 0
  | d :: r => uptoBulk d + uptoBulkAll r
def uptoBulkEntries {H : Type} : List (Lit × DataW H) → Nat
  | [] => 0
  | x :: r => uptoBulkEntry x + uptoBulkEntries r
def uptoBulkEntry {H : Type} : Lit × DataW H → Nat
  | (.string bytes, d) => bytes.length + uptoBulk d + 1
  | (_, d) => uptoBulk d + 1
 end
def uptoSmall : (H : Type) → List (DataW H) → Bool := fun _ ds => decide (uptoBulkAll ds ≤ 1048576)
def OpenSpec.upto (s : _root_.Go.ChangeSpec) : _root_.Go.OpenSpec := { _root_.Go.OpenSpec.ofChange s with cond := some uptoSmall }

/-- 'planispherelaw05.SweepMatchesReference', WHERE WHAT IT READS IS OF BULK AT MOST 1048576: true; the input reads as it did. -/
def sweepMatchesReferenceUptoRow : OpenClaim := { program := "ytiainjcimmeedaa", sum := "0a78271b0032b90bf175e65fff5bac8afd42c2dddd2e096d66f720c5c98559d9", func := "planisphere/planispherelaw05.SweepMatchesReference", spec := "sweepMatchesReference", unfollowed := true, recurses := true, apart := false, narrowed := true }
def SweepMatchesReferenceUptoSaid : Prop := sweepMatchesReferenceUptoRow.holds Try.pinned (OpenSpec.upto sweepMatchesReferenceSpec)

/-- 'planispherelaw05.SweepPairs', WHERE WHAT IT READS IS OF BULK AT MOST 1048576: true; the input reads as it did. -/
def sweepPairsUptoRow : OpenClaim := { program := "ytiainjcimmeedaa", sum := "0a78271b0032b90bf175e65fff5bac8afd42c2dddd2e096d66f720c5c98559d9", func := "planisphere/planispherelaw05.SweepPairs", spec := "sweepPairs", unfollowed := true, recurses := true, apart := false, narrowed := true }
def SweepPairsUptoSaid : Prop := sweepPairsUptoRow.holds Try.pinned (OpenSpec.upto sweepPairsSpec)

/-- 'planispherelaw05.SweepOrder', WHERE WHAT IT READS IS OF BULK AT MOST 1048576: true; the input reads as it did. -/
def sweepOrderUptoRow : OpenClaim := { program := "ytiainjcimmeedaa", sum := "0a78271b0032b90bf175e65fff5bac8afd42c2dddd2e096d66f720c5c98559d9", func := "planisphere/planispherelaw05.SweepOrder", spec := "sweepOrder", unfollowed := true, recurses := true, apart := false, narrowed := true }
def SweepOrderUptoSaid : Prop := sweepOrderUptoRow.holds Try.pinned (OpenSpec.upto sweepOrderSpec)

/-- 'planispherelaw05.SweepParts', WHERE WHAT IT READS IS OF BULK AT MOST 1048576: true; the input reads as it did. -/
def sweepPartsUptoRow : OpenClaim := { program := "ytiainjcimmeedaa", sum := "0a78271b0032b90bf175e65fff5bac8afd42c2dddd2e096d66f720c5c98559d9", func := "planisphere/planispherelaw05.SweepParts", spec := "sweepParts", unfollowed := true, recurses := true, apart := false, narrowed := true }
def SweepPartsUptoSaid : Prop := sweepPartsUptoRow.holds Try.pinned (OpenSpec.upto sweepPartsSpec)

/-- 'planispherelaw05.SweepMoved', WHERE WHAT IT READS IS OF BULK AT MOST 1048576: true; the input reads as it did. -/
def sweepMovedUptoRow : OpenClaim := { program := "ytiainjcimmeedaa", sum := "0a78271b0032b90bf175e65fff5bac8afd42c2dddd2e096d66f720c5c98559d9", func := "planisphere/planispherelaw05.SweepMoved", spec := "sweepMoved", unfollowed := true, recurses := true, apart := false, narrowed := true }
def SweepMovedUptoSaid : Prop := sweepMovedUptoRow.holds Try.pinned (OpenSpec.upto sweepMovedSpec)

/-- 'planispherelaw05.SweepLimit', WHERE WHAT IT READS IS OF BULK AT MOST 1048576: true; the input reads as it did. -/
def sweepLimitUptoRow : OpenClaim := { program := "ytiainjcimmeedaa", sum := "0a78271b0032b90bf175e65fff5bac8afd42c2dddd2e096d66f720c5c98559d9", func := "planisphere/planispherelaw05.SweepLimit", spec := "sweepLimit", unfollowed := true, recurses := true, apart := false, narrowed := true }
def SweepLimitUptoSaid : Prop := sweepLimitUptoRow.holds Try.pinned (OpenSpec.upto sweepLimitSpec)

end Rows
end Go.Proofs.Ytiainjcimmeedaa
